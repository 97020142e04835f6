/- Draws of primes, elements, keys. -/
import Derived.Test.YthpcmbdkboajcaaCur
namespace Go.Proofs.Ythpcmbdkboajcaa
open Go.RowKit

theorem Only.thn {F G : List Nat} {w w1 w2 : World} (h : Only F w w1) (k : Only G w1 w2) (hG : ∀ q ∈ G, w.heap.size ≤ q ∨ q ∈ F) : Only F w w2 :=
  ⟨k.os.trans h.os, k.tape.trans h.tape, k.output.trans h.output, Nat.le_trans h.size k.size, fun i hi hn => (k.block i (Nat.lt_of_lt_of_le hi h.size) (fun hm => by
    rcases hG i hm with h1 | h1
    · omega
    · exact hn h1)).trans (h.block i hi hn)⟩
/-- A row made behind w stays where the cursor writes. -/
theorem Own.cur {w1 w2 : World} {g b : Nat} {a : Option Addr} {n c : Nat} {l : List Int} (h : Own w1 b a n c l) (ho : Only [g] w1 w2) (hb : g < b) : Own w2 b a n c l :=
  h.only ho (fun q hq hq' => by have := (h.feet q hq).1; simp at hq'; omega)
theorem lit_ne {w : World} {g k : Nat} (h : Cur w g k) (n : Nat) : ∀ x : Addr, 0 < n → some (⟨w.heap.size, 0, none⟩ : Addr) = some x → x.block ∉ [g] := fun x _ hx => by
  have := h.lt
  cases hx
  simp
  omega
theorem Own.ne_cur {w : World} {b g : Nat} {a : Option Addr} {n c : Nat} {l : List Int} (h : Own w b a n c l) (hg : g < b) : ∀ x : Addr, 0 < n → a = some x → x.block ∉ [g] := fun x hn hx => by
  have := (h.range x (by have := h.cap; omega) hx).1
  simp
  omega
def NumP (lo hi : Int) (d : Nat) (w : World) (g k : Nat) (e : Ending) (w' : World) : Prop := ∃ (x : Int) (k' : Nat), e = .returned (.int .i64 x) ∧ lo ≤ x ∧ x ≤ hi ∧ k' ≤ k + d ∧ Cur w' g k' ∧ Only [g] w w'
theorem among_r (g k : Nat) (L : List Int) (lo hi : Int) (w : World) (h : Cur w g k) (hk : k ≤ 900000000000000) (hn : 0 < L.length) (hm : L.length ≤ 1000) (hr : ∀ y ∈ L, lo ≤ y ∧ y ≤ hi) :
    Calls Try.prog 51 #[.pointer (some ⟨g, 0, none⟩), .slice (some ⟨w.heap.size, 0, none⟩) L.length L.length] (w.alloc (.cells (L.map (Value.int .i64)).toArray 3)) (NumP lo hi 2 w g k) :=
  (among_any g k _ L.length L.length L _ (h.alloc _) hk (Ints.lit w L 3 (by unfold maxLen; omega)) hn (lit_ne h _)).mono fun _ _ ⟨x, k', he, hx, hk, hc, ho⟩ =>
    ⟨x, k', he, (hr x hx).1, (hr x hx).2, hk, hc, ((Only.refl _ _).alloc _).trans ho⟩
set_option maxHeartbeats 4000000 in
theorem prime_any (g k : Nat) (w : World) (h : Cur w g k) (hk : k ≤ 900000000000000) :
    Calls Try.prog 87 #[.pointer (some ⟨g, 0, none⟩)] w (NumP 2 251 2 w g k) := by
  go_enter Try.func87, Try.ntmps87
  go_wp2_with fail
  refine (among_r g k [2, 3, 5, 7, 7, 11, 13, 13, 17, 31, 97, 251] 2 251 _ h hk (by decide) (by decide) (by decide)).mono ?_; rintro e w1 ⟨x, k', rfl, x0, x1, k1, c1, o1⟩
  go_wp2
  go_ret
  exact ⟨x, k', rfl, x0, x1, by omega, c1, o1⟩
set_option maxHeartbeats 4000000 in
theorem anyPrime_any (g k : Nat) (w : World) (h : Cur w g k) (hk : k ≤ 800000000000000) :
    Calls Try.prog 38 #[.pointer (some ⟨g, 0, none⟩)] w (NumP (-7) 257 4 w g k) := by
  go_enter Try.func38, Try.ntmps38
  go_wp2_with fail
  refine (one_any g k _ _ h (by omega)).mono ?_; rintro e w1 ⟨b, k', rfl, k1, c1, o1⟩
  cases b
  · go_wp2_with fail
    refine (prime_any g k' _ c1 (by omega)).mono ?_; rintro e w2 ⟨x, k2, rfl, x0, x1, kk, c2, o2⟩
    have V1 := o1.trans o2
    clear o1 o2
    go_wp2
    go_ret
    exact ⟨x, k2, rfl, by omega, by omega, by omega, c2, V1⟩
  · go_wp2_with fail
    refine (among_r g k' [0, 1, 4, 9, 49, 249, 257, -7] (-7) 257 _ c1 (by omega) (by simp) (by simp) (by decide)).mono ?_; rintro e w2 ⟨x, k2, rfl, x0, x1, kk, c2, o2⟩
    have V1 := o1.trans o2
    clear o1 o2
    go_wp2
    go_ret
    exact ⟨x, k2, rfl, by omega, by omega, by omega, c2, V1⟩
theorem l1Most_any (a b : Int) (w : World) :
    Calls Try.prog 62 #[.int .i64 a, .int .i64 b] w fun e w' => e = .returned (.int .i64 (max a b)) ∧ ∃ m, w' = w.drewN m := by
  by_cases h : a > b
  all_goals
    go_enter Try.func62, Try.ntmps62
    go_wp2
    go_ret
    exact ⟨ret_int (by omega), 0, rfl⟩
set_option maxHeartbeats 4000000 in
theorem element_any (g k : Nat) (p : Int) (w : World) (h : Cur w g k) (hk : k ≤ 800000000000000) (hp : -1000000 ≤ p ∧ p ≤ 1000000) :
    Calls Try.prog 83 #[.pointer (some ⟨g, 0, none⟩), .int .i64 p] w (NumP (-1000000) 1000000 4 w g k) := by
  go_enter Try.func83, Try.ntmps83
  go_wp2_with fail
  refine (one_any g k _ _ h (by omega)).mono ?_; rintro e w1 ⟨b, k', rfl, k1, c1, o1⟩
  cases b
  · go_wp2_with fail
    refine (l1Most_any _ _ _).mono ?_; rintro e w2 ⟨rfl, q2⟩
    have u2 := below_of_quiet q2
    have c2 := c1.below u2
    have o2 : Only [g] w1 w2 := Only.of_below u2
    clear q2 u2
    go_wp2_with fail
    refine (pick_any g k' _ _ c2 (by omega)).mono ?_; rintro e w3 ⟨x, k2, rfl, x0, x1, x2, kk, c3, o3⟩
    have V1 := o1.trans (o2.trans o3)
    clear o1 o2 o3 x1
    go_wp2
    go_ret
    exact ⟨x, k2, rfl, by omega, by omega, by omega, c3, V1⟩
  · go_wp2_with fail
    refine (among_r g k' [-1, p] (-1000000) 1000000 _ c1 (by omega) (by simp) (by simp) (by simp; omega)).mono ?_; rintro e w2 ⟨x, k2, rfl, x0, x1, kk, c2, o2⟩
    have V1 := o1.trans o2
    clear o1 o2
    go_wp2
    go_ret
    exact ⟨x, k2, rfl, by omega, by omega, by omega, c2, V1⟩
set_option maxHeartbeats 4000000 in
theorem secret_any (g k : Nat) (w : World) (h : Cur w g k) (hk : k ≤ 800000000000000) :
    Calls Try.prog 50 #[.pointer (some ⟨g, 0, none⟩)] w (NumP (-1) 1000000001 4 w g k) := by
  go_enter Try.func50, Try.ntmps50
  go_wp2_with fail
  refine (one_any g k _ _ h (by omega)).mono ?_; rintro e w1 ⟨b, k', rfl, k1, c1, o1⟩
  cases b
  · go_wp2_with fail
    refine (pick_any g k' _ _ c1 (by omega)).mono ?_; rintro e w3 ⟨x, k2, rfl, x0, x1, x2, kk, c3, o3⟩
    have V1 := o1.trans o3
    clear o1 o3 x1
    go_wp2
    go_ret
    exact ⟨x, k2, rfl, by omega, by omega, by omega, c3, V1⟩
  · go_wp2_with fail
    refine (among_r g k' [0, 1000000000, 1000000001, -1] (-1) 1000000001 _ c1 (by omega) (by simp) (by simp) (by decide)).mono ?_; rintro e w2 ⟨x, k2, rfl, x0, x1, kk, c2, o2⟩
    have V1 := o1.trans o2
    clear o1 o2
    go_wp2
    go_ret
    exact ⟨x, k2, rfl, by omega, by omega, by omega, c2, V1⟩
def RowP (lo hi : Int) (n : Int) (w : World) (g k : Nat) (e : Ending) (w' : World) : Prop := ∃ (a : Option Addr) (m c : Nat) (l : List Int) (k' : Nat), e = .returned (.slice a m c) ∧ (m : Int) = max n 0 ∧ Own w' w.heap.size a m c l ∧ (∀ x ∈ l, lo ≤ x ∧ x ≤ hi) ∧ k' ≤ k + 4 * m ∧ Cur w' g k' ∧ Only [g] w w'
set_option maxHeartbeats 4000000 in
theorem elements_any (g k : Nat) (p n : Int) (w : World) (h : Cur w g k) (hk : k ≤ 700000000000000) (hp : -1000000 ≤ p ∧ p ≤ 1000000) (hn : n ≤ 100000) :
    Calls Try.prog 39 #[.pointer (some ⟨g, 0, none⟩), .int .i64 p, .int .i64 n] w (RowP (-1000000) 1000000 n w g k) := by
  have hg := h.lt
  go_enter Try.func39, Try.ntmps39
  go_wp2
  go_loopw [2, 7] (fun v u wr => ∃ i : Nat, (i : Int) ≤ max n 0 ∧ v = .int .i64 (n - i) ∧ Only [g] w wr ∧ ∃ (a : Option Addr) (c : Nat) (l : List Int) (k' : Nat), u = .slice a i c ∧ Own wr w.heap.size a i c l ∧ (∀ x ∈ l, -1000000 ≤ x ∧ x ≤ 1000000) ∧ k' ≤ k + 4 * i ∧ Cur wr g k') (fun v _ _ => (intOf v).toNat)
  case atStart => exact ⟨0, by omega, by simp, Only.refl _ _, none, 0, [], k, rfl, Own.nil0 _ _ _, (fun x hx => by cases hx), by omega, h⟩
  case round =>
    obtain ⟨i, hi, rfl, hO, a, c, l, k', rfl, own, hl, hk', hc⟩ := hrel
    have HL := Lib.hid hl
    clear hl
    by_cases hlt : n - (i : Int) > 0
    · go_wp2_with fail
      refine (element_any g k' _ _ hc (by omega) hp).mono ?_; rintro e w2 ⟨x, k2, rfl, x0, x1, kk, c2, o2⟩
      have own2 := own.cur o2 hg
      have hO2 := hO.trans o2
      have hsz := hO2.size
      clear own hO hc o2
      go_wp2_with (at_builtin; refine wpList_appI _ rfl _ _ rfl w.heap.size a i c l rfl (own2.alloc _) _ 1 1 [x] rfl (Ints.lit1 _ _ _) (by omega) (by simp; omega) ?_)
      intro a5 c5 w3 o5 u5 g5
      have f5 : ∀ q ∈ foot a c, w.heap.size ≤ q ∨ q ∈ [g] := fun q hq => Or.inl (own2.feet q hq).1
      have hO3 := (hO2.alloc (.cells #[.int .i64 x] 3)).thn (Only.of_grown g5) f5
      have c3 := (c2.alloc (.cells #[.int .i64 x] 3)).only (Only.of_grown g5) (fun q hq => by have := (own2.feet q hq).1; omega)
      have HL2 : Hid (∀ y ∈ l ++ [x], -1000000 ≤ y ∧ y ≤ 1000000) := Lib.hid (fun y hy => by
        rcases List.mem_append.1 hy with h1 | h1
        · exact HL.out y h1
        · rw [List.mem_singleton] at h1; subst h1; exact ⟨x0, x1⟩)
      clear u5 g5 f5 own2 hO2 c2
      go_wp2
      go_roundw
      case rel => exact ⟨i + 1, by omega, by congr 1; omega, hO3, a5, c5, _, k2, rfl, o5, HL2.out, by omega, c3⟩
      case measure => simp [intOf]; omega
    · go_wp2
      go_ret
      exact ⟨a, i, c, l, k', rfl, by omega, own, HL.out, by omega, hc, hO⟩
end Go.Proofs.Ythpcmbdkboajcaa
