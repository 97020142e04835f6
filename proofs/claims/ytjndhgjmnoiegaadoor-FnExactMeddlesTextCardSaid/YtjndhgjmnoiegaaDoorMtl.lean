/- Lines of words and numbers; the text of meddles, plainly. -/
import Derived.Test.YtjndhgjmnoiegaaDoorIto
import Derived.Test.YtjndhgjmnoiegaaDoorMdq
namespace Go.Proofs.YtjndhgjmnoiegaaDoor
open Go.RowKit
def spB : ByteArray := ⟨#[32]⟩
def nlB : ByteArray := ⟨#[10]⟩
theorem sp_size : spB.size = 1 := rfl
theorem nl_size : nlB.size = 1 := rfl
/-- A word and the first k numbers. -/
def lnP (word : ByteArray) (L : List Int) : Nat → ByteArray
  | 0 => word
  | k + 1 => lnP word L k ++ (spB ++ numB (L.getD k 0))
theorem lnP_size {word : ByteArray} {L : List Int} (hL : ∀ k, 0 ≤ L.getD k 0 ∧ L.getD k 0 ≤ 999) : ∀ k, (lnP word L k).size ≤ word.size + 4 * k
  | 0 => Nat.le_refl _
  | k + 1 => by
    have h1 := lnP_size (word := word) hL k
    have h2 := hL k
    have h3 := numB_size h2.1 (by omega)
    rw [lnP, app_size, app_size, sp_size]
    omega
set_option maxHeartbeats 4000000 in
set_option maxRecDepth 100000 in
theorem line_any (word : ByteArray) (a : Option Addr) (n c : Nat) (L : List Int) (w : World) (h : Ints w a n c L) (hn : n ≤ 3) (hw : word.size ≤ 10) (hL : ∀ k, 0 ≤ L.getD k 0 ∧ L.getD k 0 ≤ 999) (hT : Pow w) :
    Calls Tryd.prog 26 #[.string word, .slice a n c] w fun e w' => e = .returned (.string (lnP word L n ++ nlB)) ∧ Below w.heap.size w w' := by
  have LH := Lib.hid h
  have LT := Lib.hid hT
  have HL := Lib.hid hL
  have HS := Lib.hid (lnP_size (word := word) hL)
  have HW := Lib.hid hw
  clear h hT hL hw

  go_enter Tryd.func26, Tryd.ntmps26
  go_wp2
  go_loopw [11, 5] (fun v u wr => ∃ k : Nat, k ≤ n ∧ v = .int .i64 k ∧ u = .string (lnP word L k) ∧ Below w.heap.size w wr) (fun v _ _ => n - (intOf v).toNat)
  case atStart => exact ⟨0, Nat.zero_le _, rfl, rfl, Below.refl _ _⟩
  case round =>
    obtain ⟨k, hk, rfl, rfl, hb⟩ := hrel
    by_cases hlt : k < n

    · obtain ⟨g, o, rfl, hc⟩ := (LH.out.below hb).at k hlt
      have hx := HL.out k
      have h1 := HS.out k
      have h9 := HW.out
      have h3 := numB_size hx.1 (by omega)
      have hli : (k : Int) < (n : Int) := by omega
      have HN : Hid (lnP word L (k + 1) = lnP word L k ++ (spB ++ numB (L.getD k 0))) := rfl
      generalize lnP word L k = O at *
      have CI := Lib.hid (fun (W : World) (q : Below w.heap.size w W) => Itoa_any (L.getD k 0) W ⟨hx.1, by omega⟩ (LT.out.below q))
      generalize L.getD k 0 = x at *
      generalize numB x = N at *
      have e1 : (spB ++ N).size = 1 + N.size := by rw [app_size, sp_size]
      have s1 : ¬ ((ByteArray.mk #[32]).size + N.size > 9223372036854775807) := by have : (ByteArray.mk #[32]).size = 1 := rfl; omega
      have s2 : ¬ (O.size + (ByteArray.mk #[32] ++ N).size > 9223372036854775807) := by have : (ByteArray.mk #[32] ++ N).size = 1 + N.size := e1; omega
      clear hx h1 h9 h3 e1

      go_wp2_with fail
      refine (CI.out _ hb).mono ?_
      rintro e w1' ⟨rfl, u_w1'⟩
      have S_w1' := u_w1'.size
      have V_w1' : Below w.heap.size w w1' := hb.trans (u_w1'.mono hb.size)
      clear hb
      clear u_w1'
      go_wp2
      go_roundw
      case rel => exact ⟨k + 1, by omega, by go_num, by rw [HN.out]; rfl, V_w1'⟩
      case measure => simp [intOf]; omega

    · obtain rfl : n = k := by omega
      have h1 := HS.out n
      have h9 := HW.out
      have s1 : ¬ ((lnP word L n).size + (ByteArray.mk #[10]).size > 9223372036854775807) := by have : (ByteArray.mk #[10]).size = 1 := rfl; omega
      go_wp2
      go_ret
      exact ⟨rfl, hb⟩
end Go.Proofs.YtjndhgjmnoiegaaDoor
