/- Further lemmas and walks that the claim's proof rests on, part 1. -/
import Derived.Deep.QuietTactic
import Derived.BigQuiet
import Derived.OpenShut
import Derived.ArgAppend
import Derived.Deep.DeepCutAuto
import Derived.Test.YtkbhigdciokfkaaK1
import Derived.Test.YtkbhigdciokfkaaK2
import Derived.Test.YtkbhigdciokfkaaK3
import Derived.Test.YtkbhigdciokfkaaK4
import Derived.Test.YtkbhigdciokfkaaK5
namespace Go.Proofs.Ytkbhigdciokfkaa
open Go.RowKit
theorem mod_core (p n : Int) (h1 : 1 ≤ p) : (n.tmod p + p) % p = n % p := by
  have a1 := Int.emod_nonneg n (by omega : p ≠ 0)
  have a2 := Int.emod_lt_of_pos n (by omega : 0 < p)
  rw [Int.tmod_eq_emod (a := n)]
  split
  · simp
  · rw [show n % p - (p.natAbs : Int) + p = n % p from by omega, Int.emod_emod]
/-- A prime up to 251. -/
def isPr (p : Int) : Bool := decide (2 ≤ p ∧ p ≤ 251 ∧ ∀ d : Nat, d < 16 → 2 ≤ d → (d : Int) * d ≤ p → p % d ≠ 0)
theorem isPr_range {p : Int} (h : isPr p = true) : 2 ≤ p ∧ p ≤ 251 := by
  unfold isPr at h; simp only [decide_eq_true_eq] at h; exact ⟨h.1, h.2.1⟩
theorem isPr_no {p : Int} (h : ¬ (2 ≤ p ∧ p ≤ 251)) : isPr p = false := by
  unfold isPr; simp only [decide_eq_false_iff_not]; exact fun k => h ⟨k.1, k.2.1⟩
theorem isPr_hit {p : Int} (d : Nat) (h1 : d < 16) (h2 : 2 ≤ d) (h3 : (d : Int) * d ≤ p) (h4 : p % d = 0) : isPr p = false := by
  unfold isPr; simp only [decide_eq_false_iff_not]; exact fun k => k.2.2 d h1 h2 h3 h4
theorem isPr_yes {p : Int} (h1 : 2 ≤ p) (h2 : p ≤ 251) (h : ∀ d : Nat, d < 16 → 2 ≤ d → (d : Int) * d ≤ p → p % d ≠ 0) : isPr p = true := by
  unfold isPr; simp only [decide_eq_true_eq]; exact ⟨h1, h2, h⟩
set_option maxHeartbeats 400000 in
theorem IsPrime_any (p : Int) (w : World) :
    Calls Try.prog 42 #[.int .i64 p] w fun e w' => e = .returned (.bool (isPr p)) ∧ ∃ m, w' = w.drewN m := by
  by_cases h1 : 2 ≤ p
  · by_cases h2 : p ≤ 251
    · go_enter Try.func42, Try.ntmps42
      go_wp2
      go_loop [3] (fun v => ∃ d : Nat, 2 ≤ d ∧ d ≤ 16 ∧ (∀ e : Nat, e < d → 2 ≤ e → (e : Int) * e ≤ p → p % e ≠ 0) ∧ v = .int .i64 d) (fun v => 20 - (intOf v).toNat)
      case atStart => exact ⟨2, by omega, by omega, fun e h h' => absurd h (by omega), rfl⟩
      case round =>
        obtain ⟨d, hd2, hd16, hd, rfl⟩ := hrel
        have HD := Lib.hid hd
        clear hd
        have hm : (d : Int) * d ≤ 256 := by
          have : d * d ≤ 16 * 16 := Nat.mul_le_mul hd16 hd16
          omega
        have hm0 : (0 : Int) ≤ (d : Int) * d := Int.mul_nonneg (by omega) (by omega)
        by_cases hlt : (d : Int) * d ≤ p
        · have hd15 : d < 16 := by
            by_cases e : d = 16
            · subst e; omega
            · omega
          by_cases hz : p % d = 0
          · have hz' : (p % (d : Int) == 0) = true := by simp [hz]
            have HR := Lib.hid (isPr_hit d hd15 hd2 hlt hz)
            clear hz
            go_wp2
            go_ret
            exact ⟨ret_bool HR.out.symm, 0, rfl⟩
          · have hz' : (p % (d : Int) == 0) = false := by simp [hz]
            have HZ := Lib.hid hz
            clear hz
            go_wp2
            go_round
            case rel =>
              refine ⟨d + 1, by omega, by omega, ?_, by go_num⟩
              intro e he h2e hee
              by_cases hed : e = d
              · subst hed; exact HZ.out
              · exact HD.out e (by omega) h2e hee
            case measure => simp [intOf]; omega
        · have HR := Lib.hid (isPr_yes h1 h2 (fun e _ h2e hee => HD.out e (by
            apply Nat.lt_of_not_le
            intro hde
            have : d * d ≤ e * e := Nat.mul_le_mul hde hde
            omega) h2e hee))
          go_wp2
          go_ret
          exact ⟨ret_bool HR.out.symm, 0, rfl⟩
    · have HR := Lib.hid (isPr_no (p := p) (by omega))
      go_enter Try.func42, Try.ntmps42
      go_wp2
      go_ret
      exact ⟨ret_bool HR.out.symm, 0, rfl⟩
  · have HR := Lib.hid (isPr_no (p := p) (by omega))
    go_enter Try.func42, Try.ntmps42
    go_wp2
    go_ret
    exact ⟨ret_bool HR.out.symm, 0, rfl⟩
set_option maxHeartbeats 400000 in
theorem fpGood_any (p : Int) (w : World) :
    Calls Try.prog 40 #[.int .i64 p] w fun e w' => e = .returned (.bool (isPr p)) ∧ ∃ m, w' = w.drewN m := by
  by_cases h1 : 2 ≤ p
  · by_cases h2 : p ≤ 251
    · go_enter Try.func40, Try.ntmps40
      go_wp2
      go_loop [3] (fun v => ∃ d : Nat, 2 ≤ d ∧ d ≤ 16 ∧ (∀ e : Nat, e < d → 2 ≤ e → (e : Int) * e ≤ p → p % e ≠ 0) ∧ v = .int .i64 d) (fun v => 20 - (intOf v).toNat)
      case atStart => exact ⟨2, by omega, by omega, fun e h h' => absurd h (by omega), rfl⟩
      case round =>
        obtain ⟨d, hd2, hd16, hd, rfl⟩ := hrel
        have HD := Lib.hid hd
        clear hd
        have hm : (d : Int) * d ≤ 256 := by
          have : d * d ≤ 16 * 16 := Nat.mul_le_mul hd16 hd16
          omega
        have hm0 : (0 : Int) ≤ (d : Int) * d := Int.mul_nonneg (by omega) (by omega)
        by_cases hlt : (d : Int) * d ≤ p
        · have hd15 : d < 16 := by
            by_cases e : d = 16
            · subst e; omega
            · omega
          by_cases hz : p % d = 0
          · have hz' : (p % (d : Int) == 0) = true := by simp [hz]
            have HR := Lib.hid (isPr_hit d hd15 hd2 hlt hz)
            clear hz
            go_wp2
            go_ret
            exact ⟨ret_bool HR.out.symm, 0, rfl⟩
          · have hz' : (p % (d : Int) == 0) = false := by simp [hz]
            have HZ := Lib.hid hz
            clear hz
            go_wp2
            go_round
            case rel =>
              refine ⟨d + 1, by omega, by omega, ?_, by go_num⟩
              intro e he h2e hee
              by_cases hed : e = d
              · subst hed; exact HZ.out
              · exact HD.out e (by omega) h2e hee
            case measure => simp [intOf]; omega
        · have HR := Lib.hid (isPr_yes h1 h2 (fun e _ h2e hee => HD.out e (by
            apply Nat.lt_of_not_le
            intro hde
            have : d * d ≤ e * e := Nat.mul_le_mul hde hde
            omega) h2e hee))
          go_wp2
          go_ret
          exact ⟨ret_bool HR.out.symm, 0, rfl⟩
    · have HR := Lib.hid (isPr_no (p := p) (by omega))
      go_enter Try.func40, Try.ntmps40
      go_wp2
      go_ret
      exact ⟨ret_bool HR.out.symm, 0, rfl⟩
  · have HR := Lib.hid (isPr_no (p := p) (by omega))
    go_enter Try.func40, Try.ntmps40
    go_wp2
    go_ret
    exact ⟨ret_bool HR.out.symm, 0, rfl⟩
end Go.Proofs.Ytkbhigdciokfkaa
namespace Go.Proofs.Ytkbhigdciokfkaa
open Go.RowKit
theorem Ints.lit2 (w : World) (x y : Int) (e : TypeId) : Ints (w.alloc (.cells #[.int .i64 x, .int .i64 y] e)) (some ⟨w.heap.size, 0, none⟩) 2 2 [x, y] := Ints.lit w [x, y] e (by simp [maxLen])
end Go.Proofs.Ytkbhigdciokfkaa
namespace Go.Proofs.Ytkbhigdciokfkaa
open Go.RowKit
/-- Behind a callee that was called in a world with new blocks. -/
theorem below_a1 {w w' : World} {o : Obj} (h : Below (w.alloc o).heap.size (w.alloc o) w') : Below w.heap.size w w' := ((Below.refl _ _).alloc (Nat.le_refl _) _).trans (h.mono (by simp))
end Go.Proofs.Ytkbhigdciokfkaa
namespace Go.Proofs.Ytkbhigdciokfkaa
open Go.RowKit
def elsB (p : Int) (l : List Int) : Bool := isPr p && allB l 0 (p - 1)
theorem elsB_true {p : Int} {l : List Int} (h : elsB p l = true) : isPr p = true ∧ 2 ≤ p ∧ p ≤ 251 ∧ allB l 0 (p - 1) = true := by
  unfold elsB at h
  simp only [Bool.and_eq_true] at h
  have := isPr_range h.1
  exact ⟨h.1, this.1, this.2, h.2⟩
set_option maxHeartbeats 400000 in
theorem fpIn_any (p : Int) (a : Option Addr) (n c : Nat) (l : List Int) (w : World) (h : Ints w a n c l) :
    Calls Try.prog 103 #[.int .i64 p, .slice a n c] w fun e w' => e = .returned (.bool (elsB p l)) ∧ ∃ m, w' = w.drewN m := by
  unfold elsB
  cases hp : isPr p
  · simp only [Bool.false_and]
    go_enter Try.func103, Try.ntmps103
    go_wp2_with (first | (go_at_call 40; refine (fpGood_any _ _).mono ?_; rintro e w' ⟨rfl, m, rfl⟩))
    go_ret
    exact ⟨rfl, _, rfl⟩
  · obtain ⟨r1, r2⟩ := isPr_range hp
    simp only [Bool.true_and]
    go_enter Try.func103, Try.ntmps103
    go_wp2_with (first | (go_at_call 40; refine (fpGood_any _ _).mono ?_; rintro e w' ⟨rfl, m, rfl⟩) | (go_at_call 113; refine (l1All_any _ _ _ l _ _ _ (by exact h.drewN _)).mono ?_; rintro e w' ⟨rfl, m, rfl⟩))
    go_ret
    exact ⟨rfl, _, rfl⟩
end Go.Proofs.Ytkbhigdciokfkaa
namespace Go.Proofs.Ytkbhigdciokfkaa
open Go.RowKit
set_option maxHeartbeats 400000 in
theorem areElements_1_any (x P : Int) (p : Addr) (w : World) (hp : w.cell? p = some (.int .i64 P)) (h1 : 1 ≤ P) (h2 : P ≤ 1000000) :
    Calls Try.prog 139 #[.int .i64 x, .pointer (some p)] w fun e w' => e = .returned (.bool (decide (0 ≤ x ∧ x ≤ P - 1))) ∧ ∃ m, w' = w.drewN m := by
  go_enter Try.func139, Try.ntmps139
  go_wp2_with (go_at_call 79; refine (within_any _ _ _ _).mono ?_; rintro e w' ⟨rfl, rfl⟩)
  go_ret
  exact ⟨rfl, 0, rfl⟩
theorem areElements_1_enters (args : Array Value) (W : World) : (callFunc 139 args).run Try.prog W = .ok (.enter 139 args) W :=
  enters Try.func139 (by kernel_rfl) (by kernel_rfl) args W
set_option maxHeartbeats 1000000 in
theorem areElements_any (p : Int) (a : Option Addr) (n c : Nat) (l : List Int) (w : World) (h : Ints w a n c l) :
    Calls Try.prog 108 #[.int .i64 p, .slice a n c] w fun e w' => e = .returned (.bool (elsB p l)) ∧ Below w.heap.size w w' := by
  have hbel : Below w.heap.size w (w.alloc (.cells #[.int .i64 p] 3)) := (Below.refl _ _).alloc (Nat.le_refl _) _
  have hc : (w.alloc (.cells #[.int .i64 p] 3)).cell? ⟨w.heap.size, 0, none⟩ = some (.int .i64 p) := cell_new _ _ _
  unfold elsB
  cases hp : isPr p
  · simp only [Bool.false_and]
    go_enter Try.func108, Try.ntmps108
    go_wp2_with (go_at_call 42; refine (IsPrime_any _ _).mono ?_; rintro e w' ⟨rfl, m, rfl⟩)
    go_ret
    exact ⟨rfl, below_drewN hbel _⟩
  · obtain ⟨r1, r2⟩ := isPr_range hp
    simp only [Bool.true_and]
    have haa := fun (m : Nat) => areAll_any a n c l 139 #[.pointer (some ⟨w.heap.size, 0, none⟩)] (fun x => decide (0 ≤ x ∧ x ≤ p - 1)) ((w.alloc (.cells #[.int .i64 p] 3)).drewN m) ((h.alloc _).drewN m) areElements_1_enters
      (fun W x hb _ => areElements_1_any x p _ W (by rw [hb.cell (by simp)]; exact hc) (by omega) (by omega))
    have HAA := Lib.hid haa
    clear haa
    go_enter Try.func108, Try.ntmps108
    go_wp2_with (first | (go_at_call 42; refine (IsPrime_any _ _).mono ?_; rintro e w' ⟨rfl, m, rfl⟩) | (go_at_call 120; refine (HAA.out _).mono ?_; rintro e w' ⟨rfl, u⟩))
    go_ret
    have u1 := ‹Below (World.drewN _ _).heap.size _ _›
    exact ⟨ret_bool (by simp [allB]), (below_drewN hbel _).trans (u1.mono (by simp))⟩
def pairB (p : Int) (l : List Int) : Bool := elsB p l && decide (l.length = 2)
set_option maxHeartbeats 400000 in
theorem isPair_any (p : Int) (a : Option Addr) (n c : Nat) (l : List Int) (w : World) (h : Ints w a n c l) :
    Calls Try.prog 69 #[.int .i64 p, .slice a n c] w fun e w' => e = .returned (.bool (pairB p l)) ∧ Below w.heap.size w w' := by
  have hn := h.le
  have hl := h.len
  unfold pairB
  cases he : elsB p l
  · simp only [Bool.false_and]
    clear hl
    go_enter Try.func69, Try.ntmps69
    go_wp2_with fail
    refine (areElements_any _ _ _ _ l _ h).mono ?_; rintro e w1 ⟨rfl, u⟩
    go_wp2
    go_ret
    exact ⟨rfl, by assumption⟩
  · simp only [Bool.true_and]
    by_cases h2 : n = 2
    · rw [decide_eq_true (by omega)]
      have hb : ((n : Int) == 2) = true := by simp [h2]
      clear h2 hl
      go_enter Try.func69, Try.ntmps69
      go_wp2_with fail
      refine (areElements_any _ _ _ _ l _ h).mono ?_; rintro e w1 ⟨rfl, u⟩
      go_wp2
      go_ret
      exact ⟨rfl, by assumption⟩
    · rw [decide_eq_false (by omega)]
      have hb : ((n : Int) == 2) = false := by simp; omega
      clear h2 hl
      go_enter Try.func69, Try.ntmps69
      go_wp2_with fail
      refine (areElements_any _ _ _ _ l _ h).mono ?_; rintro e w1 ⟨rfl, u⟩
      go_wp2
      go_ret
      exact ⟨rfl, by assumption⟩
set_option maxHeartbeats 400000 in
theorem trPair_any (p : Int) (a : Option Addr) (n c : Nat) (l : List Int) (w : World) (h : Ints w a n c l) :
    Calls Try.prog 63 #[.int .i64 p, .slice a n c] w fun e w' => e = .returned (.bool (pairB p l)) ∧ Below w.heap.size w w' := by
  have hn := h.le
  have hl := h.len
  unfold pairB
  cases he : elsB p l
  · simp only [Bool.false_and]
    clear hl
    go_enter Try.func63, Try.ntmps63
    go_wp2_with fail
    refine (fpIn_any _ _ _ _ l _ h).mono ?_; rintro e w1 ⟨rfl, q⟩
    go_wp2
    go_ret
    exact ⟨rfl, below_of_quiet (by assumption)⟩
  · simp only [Bool.true_and]
    by_cases h2 : n = 2
    · rw [decide_eq_true (by omega)]
      have hb : ((n : Int) == 2) = true := by simp [h2]
      clear h2 hl
      go_enter Try.func63, Try.ntmps63
      go_wp2_with fail
      refine (fpIn_any _ _ _ _ l _ h).mono ?_; rintro e w1 ⟨rfl, q⟩
      go_wp2
      go_ret
      exact ⟨rfl, below_of_quiet (by assumption)⟩
    · rw [decide_eq_false (by omega)]
      have hb : ((n : Int) == 2) = false := by simp; omega
      clear h2 hl
      go_enter Try.func63, Try.ntmps63
      go_wp2_with fail
      refine (fpIn_any _ _ _ _ l _ h).mono ?_; rintro e w1 ⟨rfl, q⟩
      go_wp2
      go_ret
      exact ⟨rfl, below_of_quiet (by assumption)⟩
end Go.Proofs.Ytkbhigdciokfkaa
namespace Go.Proofs.Ytkbhigdciokfkaa
open Go.RowKit
theorem WB.two {x y : Int} (h : -4000000000 ≤ x ∧ x ≤ 4000000000) (h' : -4000000000 ≤ y ∧ y ≤ 4000000000) : WB [x, y] := fun z hz => by
  simp at hz; rcases hz with rfl | rfl
  · exact h
  · exact h'
def digStep (a x : Int) : Int := (25214 * a + x + 17) % 1000003 * ((25214 * a + x + 17) % 1000003 / 64 + 5) % 1000003
theorem digStep_range (a x : Int) : 0 ≤ digStep a x ∧ digStep a x ≤ 1000002 := by
  unfold digStep
  exact ⟨Int.emod_nonneg _ (by decide), by have := Int.emod_lt_of_pos ((25214 * a + x + 17) % 1000003 * ((25214 * a + x + 17) % 1000003 / 64 + 5)) (by decide : (0 : Int) < 1000003); omega⟩
def digA (l : List Int) (z : Int) : Int := l.foldl digStep z
theorem digA_snoc (l : List Int) (z : Int) (k : Nat) (h : k < l.length) : digA (l.take (k + 1)) z = digStep (digA (l.take k) z) (l.getD k 0) := by
  unfold digA
  rw [List.take_succ_eq_append_getElem h, List.foldl_append]
  simp [List.getD, h]
theorem digA_range (l : List Int) : ∀ (z : Int), 0 ≤ z → z ≤ 2000000 → 0 ≤ digA l z ∧ digA l z ≤ 2000000 := by
  unfold digA
  induction l with
  | nil => intro z h1 h2; exact ⟨h1, h2⟩
  | cons x l ih => intro z h1 h2; simp only [List.foldl_cons]; have := digStep_range z x; exact ih _ this.1 (by omega)
def digI (l : List Int) : Int := digA (l ++ [8, 1]) (40503 + l.length) % 65536
theorem digI_range (l : List Int) : 0 ≤ digI l ∧ digI l ≤ 65535 := by
  unfold digI
  exact ⟨Int.emod_nonneg _ (by decide), by have := Int.emod_lt_of_pos (digA (l ++ [8, 1]) (40503 + l.length)) (by decide : (0 : Int) < 65536); omega⟩
theorem sq_range {b : Int} (h0 : 0 ≤ b) (h1 : b ≤ 1000002) : 0 ≤ b * (b / 64 + 5) ∧ b * (b / 64 + 5) ≤ 20000000000 := by
  have a1 : 0 ≤ b / 64 + 5 := by omega
  have a2 : b / 64 + 5 ≤ 15635 := by omega
  refine ⟨Int.mul_nonneg h0 a1, ?_⟩
  have : b * (b / 64 + 5) ≤ 1000002 * 15635 := Int.mul_le_mul h1 a2 a1 (by omega)
  omega
set_option maxHeartbeats 400000 in
theorem btMod_same (n p : Int) (w : World) (h1 : 1 ≤ p) (h2 : p ≤ 1000000000) :
    Calls Try.prog 156 #[.int .i64 n, .int .i64 p] w fun e w' => e = .returned (.int .i64 (n % p)) ∧ w' = w := by
  have b1 := Int.tmod_lt_of_pos n (by omega : 0 < p)
  have b2 := Int.lt_tmod_of_pos n (by omega : 0 < p)
  have E2 := Lib.hid (mod_core p n h1)
  go_enter Try.func156, Try.ntmps156
  go_wp2
  go_ret
  exact ⟨ret_int E2.out, rfl⟩
theorem btMod_any (n p : Int) (w : World) (h1 : 1 ≤ p) (h2 : p ≤ 1000000000) :
    Calls Try.prog 156 #[.int .i64 n, .int .i64 p] w fun e w' => e = .returned (.int .i64 (n % p)) ∧ ∃ m, w' = w.drewN m :=
  (btMod_same n p w h1 h2).mono fun _ _ ⟨he, hw⟩ => ⟨he, 0, hw⟩
theorem WB_end : WB [8, 1] := WB.two (by omega) (by omega)
set_option maxHeartbeats 2000000 in
theorem digest_any (a : Option Addr) (n c : Nat) (l : List Int) (w : World) (h : Ints w a n c l) (hs : n ≤ 1000000) (hw : WB l) :
    Calls Try.prog 153 #[.slice a n c] w fun e w' => e = .returned (.int .i64 (digI l)) ∧ Below w.heap.size w w' := by
  have hn := h.le
  have HL := Lib.hid h.len
  have HW := Lib.hid (WB.app hw WB_end)
  clear hw
  go_enter Try.func153, Try.ntmps153
  go_wp2_with fail
  refine (Clone_any _ _ _ l _ h (by omega)).mono ?_; rintro e w1 ⟨a1, c1, rfl, o1, u1⟩
  go_wp2_with (at_builtin; refine wpList_appI _ rfl _ _ rfl w.heap.size a1 n c1 l rfl (o1.alloc _) _ 2 2 [8, 1] rfl (Ints.lit2 _ _ _ _) (by omega) (by have := u1.size; simp; omega) ?_)
  intro a2 c2 w2 o2 u2 _
  have v2 := (u1.alloc u1.size (.cells #[.int .i64 8, .int .i64 1] 3)).trans u2
  have h2 := o2.ints
  clear u1 u2 o1 o2
  go_wp2
  go_loopw [3, 14] (fun u v wr => ∃ k : Nat, k ≤ n + 2 ∧ v = .int .i64 k ∧ u = .int .i64 (digA ((l ++ [8, 1]).take k) (40503 + l.length)) ∧ ∃ m, wr = w2.drewN m) (fun _ v _ => n + 2 - (intOf v).toNat)
  case atStart => exact ⟨0, Nat.zero_le _, rfl, v_int (by rw [HL.out]; simp [digA]), 0, rfl⟩
  case round =>
    obtain ⟨k, hk, rfl, rfl, m, rfl⟩ := hrel
    have hzr := digA_range ((l ++ [8, 1]).take k) (40503 + l.length) (by omega) (by have := HL.out; omega)
    by_cases hlt : k < n + 2
    · obtain ⟨g, o, rfl, hcell⟩ := h2.at k hlt
      have hkl : k < (l ++ [8, 1]).length := by have := HL.out; simp; omega
      have hs := digA_snoc (l ++ [8, 1]) (40503 + l.length) k hkl
      have hx := mem_range HW.out k hkl
      obtain ⟨x, hxe⟩ : ∃ x, x = (l ++ [8, 1]).getD k 0 := ⟨_, rfl⟩
      rw [← hxe] at hcell hs hx
      clear hxe
      obtain ⟨z, hze⟩ : ∃ z, z = digA ((l ++ [8, 1]).take k) (40503 + l.length) := ⟨_, rfl⟩
      rw [← hze] at hs hzr
      rw [← hze]
      clear hze
      unfold digStep at hs
      have HS := Lib.hid hs
      clear hs
      obtain ⟨hz1, hz2⟩ := hzr
      obtain ⟨hx1, hx2⟩ := hx
      obtain ⟨b, hb⟩ : ∃ b, b = (25214 * z + x + 17) % 1000003 := ⟨_, rfl⟩
      have hb1 : 0 ≤ b := by rw [hb]; exact Int.emod_nonneg _ (by decide)
      have hb2 : b ≤ 1000002 := by rw [hb]; have := Int.emod_lt_of_pos (25214 * z + x + 17) (by decide : (0 : Int) < 1000003); omega
      obtain ⟨hs1, hs2⟩ := sq_range hb1 hb2
      · have b1 := Int.tmod_lt_of_pos (25214 * z + x + 17) (by decide : (0 : Int) < 1000003)
        have b2 := Int.lt_tmod_of_pos (25214 * z + x + 17) (by decide : (0 : Int) < 1000003)
        have he : ((25214 * z + x + 17).tmod 1000003 + 1000003) % 1000003 = b := by rw [hb]; exact mod_core 1000003 _ (by decide)
        have HB := Lib.hid hb
        clear hb
        go_wp2
        go_roundw
        case rel => exact ⟨k + 1, by omega, by go_num, v_int (by rw [HS.out, HB.out]), _, rfl⟩
        case measure => simp [intOf]; omega
    · obtain rfl : k = n + 2 := by omega
      have HE := Lib.hid (show digI l = digA ((l ++ [8, 1]).take (n + 2)) (40503 + l.length) % 65536 by
        unfold digI
        rw [List.take_of_length_le (by have := HL.out; simp; omega)])
      obtain ⟨z, hze⟩ : ∃ z, z = digA ((l ++ [8, 1]).take (n + 2)) (40503 + l.length) := ⟨_, rfl⟩
      rw [← hze] at HE hzr
      rw [← hze]
      clear hze
      obtain ⟨hz1, hz2⟩ := hzr
      go_wp2
      go_ret
      exact ⟨ret_int HE.out.symm, below_drewN v2 _⟩
set_option maxHeartbeats 2000000 in
theorem dgMix_any (a : Option Addr) (n c : Nat) (l : List Int) (w : World) (h : Ints w a n c l) (hs : n ≤ 1000000) (hw : WB l) :
    Calls Try.prog 152 #[.slice a n c] w fun e w' => e = .returned (.int .i64 (digI l)) ∧ Below w.heap.size w w' := by
  have hn := h.le
  have HL := Lib.hid h.len
  have HW := Lib.hid (WB.app hw WB_end)
  clear hw
  go_enter Try.func152, Try.ntmps152
  go_wp2_with fail
  refine (l1Own_any _ _ _ l _ h (by omega)).mono ?_; rintro e w1 ⟨a1, c1, rfl, o1, u1⟩
  go_wp2_with (at_builtin; refine wpList_appI _ rfl _ _ rfl w.heap.size a1 n c1 l rfl (o1.alloc _) _ 2 2 [8, 1] rfl (Ints.lit2 _ _ _ _) (by omega) (by have := u1.size; simp; omega) ?_)
  intro a2 c2 w2 o2 u2 _
  have v2 := (u1.alloc u1.size (.cells #[.int .i64 8, .int .i64 1] 3)).trans u2
  have h2 := o2.ints
  clear u1 u2 o1 o2
  go_wp2
  go_loopw [3, 14] (fun u v wr => ∃ k : Nat, k ≤ n + 2 ∧ v = .int .i64 k ∧ u = .int .i64 (digA ((l ++ [8, 1]).take k) (40503 + l.length)) ∧ ∃ m, wr = w2.drewN m) (fun _ v _ => n + 2 - (intOf v).toNat)
  case atStart => exact ⟨0, Nat.zero_le _, rfl, v_int (by rw [HL.out]; simp [digA]), 0, rfl⟩
  case round =>
    obtain ⟨k, hk, rfl, rfl, m, rfl⟩ := hrel
    have hzr := digA_range ((l ++ [8, 1]).take k) (40503 + l.length) (by omega) (by have := HL.out; omega)
    by_cases hlt : k < n + 2
    · obtain ⟨g, o, rfl, hcell⟩ := h2.at k hlt
      have hkl : k < (l ++ [8, 1]).length := by have := HL.out; simp; omega
      have hs := digA_snoc (l ++ [8, 1]) (40503 + l.length) k hkl
      have hx := mem_range HW.out k hkl
      obtain ⟨x, hxe⟩ : ∃ x, x = (l ++ [8, 1]).getD k 0 := ⟨_, rfl⟩
      rw [← hxe] at hcell hs hx
      clear hxe
      obtain ⟨z, hze⟩ : ∃ z, z = digA ((l ++ [8, 1]).take k) (40503 + l.length) := ⟨_, rfl⟩
      rw [← hze] at hs hzr
      rw [← hze]
      clear hze
      unfold digStep at hs
      have HS := Lib.hid hs
      clear hs
      obtain ⟨hz1, hz2⟩ := hzr
      obtain ⟨hx1, hx2⟩ := hx
      obtain ⟨b, hb⟩ : ∃ b, b = (25214 * z + x + 17) % 1000003 := ⟨_, rfl⟩
      have hb1 : 0 ≤ b := by rw [hb]; exact Int.emod_nonneg _ (by decide)
      have hb2 : b ≤ 1000002 := by rw [hb]; have := Int.emod_lt_of_pos (25214 * z + x + 17) (by decide : (0 : Int) < 1000003); omega
      obtain ⟨hs1, hs2⟩ := sq_range hb1 hb2
      · have HB := Lib.hid hb
        go_wp2_with fail
        refine (btMod_any _ _ _ (by omega) (by omega)).mono ?_; rintro e w4 ⟨rfl, q4⟩
        rw [← hb]
        clear hb
        obtain ⟨m4, rfl⟩ := q4
        go_wp2
        go_roundw
        case rel => exact ⟨k + 1, by omega, by go_num, v_int (by rw [HS.out, HB.out]), _, rfl⟩
        case measure => simp [intOf]; omega
    · obtain rfl : k = n + 2 := by omega
      have HE := Lib.hid (show digI l = digA ((l ++ [8, 1]).take (n + 2)) (40503 + l.length) % 65536 by
        unfold digI
        rw [List.take_of_length_le (by have := HL.out; simp; omega)])
      obtain ⟨z, hze⟩ : ∃ z, z = digA ((l ++ [8, 1]).take (n + 2)) (40503 + l.length) := ⟨_, rfl⟩
      rw [← hze] at HE hzr
      rw [← hze]
      clear hze
      obtain ⟨hz1, hz2⟩ := hzr
      go_wp2
      go_ret
      exact ⟨ret_int HE.out.symm, below_drewN v2 _⟩
set_option maxHeartbeats 1000000 in
theorem with_any (a : Option Addr) (n c : Nat) (l : List Int) (a' : Option Addr) (n' c' : Nat) (l' : List Int) (w : World) (h : Ints w a n c l) (h' : Ints w a' n' c' l') (hs : n ≤ 10000000) (hs' : n' ≤ 10000000) :
    Calls Try.prog 154 #[.slice a n c, .slice a' n' c'] w fun e w' => ∃ a2 c2, e = .returned (.slice a2 (n + n') c2) ∧ Own w' w.heap.size a2 (n + n') c2 (l ++ l') ∧ Below w.heap.size w w' := by
  go_enter Try.func154, Try.ntmps154
  go_wp2_with fail
  refine (Clone_any _ _ _ l _ h hs).mono ?_; rintro e w1 ⟨a1, c1, rfl, o1, u1⟩
  go_wp2_with (at_builtin; refine wpList_appI _ rfl _ _ rfl w.heap.size a1 n c1 l rfl o1 _ n' c' l' rfl (h'.below u1) (by omega) u1.size ?_)
  intro a2 c2 w2 o2 u2 _
  have v2 := u1.trans u2
  clear u1 u2
  go_wp2
  go_ret
  exact ⟨_, _, rfl, o2, v2⟩
/-- Drawn bits. -/
def bitsI (l : List Int) (n : Nat) : List Int := (List.range n).map fun (i : Nat) => digI (l ++ [(i : Int), 2]) / 8 % 2
theorem bitsI_succ (l : List Int) (n : Nat) : bitsI l (n + 1) = bitsI l n ++ [digI (l ++ [(n : Int), 2]) / 8 % 2] := by unfold bitsI; rw [List.range_succ, List.map_append]; rfl
theorem bitsI_len (l : List Int) (n : Nat) : (bitsI l n).length = n := by simp [bitsI]
theorem bitsI_bit (l : List Int) (n k : Nat) (h : k < n) : (bitsI l n).getD k 0 = 0 ∨ (bitsI l n).getD k 0 = 1 := by
  unfold bitsI
  simp [List.getD, h]
  omega
set_option maxHeartbeats 2000000 in
theorem bitsFrom_any (a : Option Addr) (m c : Nat) (l : List Int) (N : Int) (w : World) (h : Ints w a m c l) (hs : m ≤ 900000) (hw : WB l) (hN : 0 ≤ N) (hN2 : N ≤ 1000000) :
    Calls Try.prog 140 #[.slice a m c, .int .i64 N] w fun e w' => ∃ a' c', e = .returned (.slice a' N.toNat c') ∧ Own w' w.heap.size a' N.toNat c' (bitsI l N.toNat) ∧ Below w.heap.size w w' := by
  have HW := Lib.hid hw
  clear hw
  go_enter Try.func140, Try.ntmps140
  go_wp2
  have own0 : Own (w.alloc (.cells #[] 3)) w.heap.size (some ⟨w.heap.size, 0, none⟩) 0 0 (bitsI l 0) := Own.nil0 _ _ _
  have bel0 : Below w.heap.size w (w.alloc (.cells #[] 3)) := (Below.refl _ _).alloc (Nat.le_refl _) _
  go_loopw [5, 9] (fun u v wr => ∃ k : Nat, (k : Int) ≤ N ∧ v = .int .i64 k ∧ Below w.heap.size w wr ∧ ∃ a1 c1, u = .slice a1 k c1 ∧ Own wr w.heap.size a1 k c1 (bitsI l k)) (fun _ v _ => N.toNat - (intOf v).toNat)
  case atStart => exact ⟨0, by omega, rfl, bel0, _, _, rfl, own0⟩
  case round =>
    obtain ⟨k, hk, rfl, hbel, a1, c1, rfl, own⟩ := hrel
    have h1 := h.below hbel
    by_cases hlt : (k : Int) < N
    · have hd := digI_range (l ++ [(k : Int), 2])
      obtain ⟨d1, d2⟩ := hd
      have HS := Lib.hid (bitsI_succ l k)
      go_wp2_with fail
      refine (with_any _ _ _ l _ _ _ [(k : Int), 2] _ (h1.alloc _) (Ints.lit2 _ _ _ _) (by omega) (by omega)).mono ?_; rintro e w1 ⟨a3, c3, rfl, o3, u3⟩
      have v3 := below_a1 u3
      clear u3
      have own1 := own.below v3
      have b1 := hbel.trans (v3.mono hbel.size)
      clear own v3 h1 hbel
      go_wp2_with fail
      refine (digest_any _ _ _ (l ++ [(k : Int), 2]) _ o3.ints (by omega) (WB.app HW.out (WB.two (by omega) (by omega)))).mono ?_; rintro e w2 ⟨rfl, u5⟩
      have own2 := own1.below u5
      have b2 := b1.trans (u5.mono b1.size)
      clear own1 u5 b1 o3
      go_wp2_with (at_builtin; refine wpList_appI _ rfl _ _ rfl w.heap.size a1 k c1 (bitsI l k) rfl (own2.alloc _) _ 1 1 [digI (l ++ [(k : Int), 2]) / 8 % 2] rfl (Ints.lit1 _ _ _) (by omega) (by have := b2.size; simp; omega) ?_)
      intro a5 c5 w3 o5 u5 _
      have b3 := (b2.alloc b2.size (.cells #[.int .i64 (digI (l ++ [(k : Int), 2]) / 8 % 2)] 3)).trans u5
      clear u5 b2 own2
      go_wp2
      go_roundw
      case rel => exact ⟨k + 1, by omega, by go_num, b3, a5, c5, rfl, by rw [HS.out]; exact o5⟩
      case measure => simp [intOf]; omega
    · have HE := Lib.hid (show N.toNat = k by omega)
      go_wp2
      go_ret
      refine ⟨a1, c1, ?_, ?_, hbel⟩
      · rw [HE.out]; rfl
      · rw [HE.out]; exact own
set_option maxHeartbeats 2000000 in
theorem dgBits_any (a : Option Addr) (m c : Nat) (l : List Int) (N : Int) (w : World) (h : Ints w a m c l) (hs : m ≤ 900000) (hw : WB l) (hN : 0 ≤ N) (hN2 : N ≤ 1000000) :
    Calls Try.prog 137 #[.slice a m c, .int .i64 N] w fun e w' => ∃ a' c', e = .returned (.slice a' N.toNat c') ∧ Own w' w.heap.size a' N.toNat c' (bitsI l N.toNat) ∧ Below w.heap.size w w' := by
  have HW := Lib.hid hw
  clear hw
  go_enter Try.func137, Try.ntmps137
  go_wp2
  have own0 : Own w w.heap.size none 0 0 (bitsI l 0) := Own.nil0 _ _ _
  have bel0 := Below.refl w.heap.size w
  go_loopw [5, 6] (fun u v wr => ∃ k : Nat, (k : Int) ≤ N ∧ v = .int .i64 k ∧ Below w.heap.size w wr ∧ ∃ a1 c1, u = .slice a1 k c1 ∧ Own wr w.heap.size a1 k c1 (bitsI l k)) (fun _ v _ => N.toNat - (intOf v).toNat)
  case atStart => exact ⟨0, by omega, rfl, bel0, _, _, rfl, own0⟩
  case round =>
    obtain ⟨k, hk, rfl, hbel, a1, c1, rfl, own⟩ := hrel
    have h1 := h.below hbel
    by_cases hlt : (k : Int) < N
    · have hd := digI_range (l ++ [(k : Int), 2])
      obtain ⟨d1, d2⟩ := hd
      have HS := Lib.hid (bitsI_succ l k)
      go_wp2_with fail
      refine (l1Own_any _ _ _ l _ h1 (by omega)).mono ?_; rintro e w0 ⟨a4, c4, rfl, o4, u4⟩
      go_wp2_with (at_builtin; refine wpList_appI _ rfl _ _ rfl wr.heap.size a4 m c4 l rfl (o4.alloc _) _ 2 2 [(k : Int), 2] rfl (Ints.lit2 _ _ _ _) (by omega) (by have := u4.size; simp; omega) ?_)
      intro a3 c3 w1 o3 u3 _
      have v3 := (u4.alloc u4.size (.cells #[.int .i64 k, .int .i64 2] 3)).trans u3
      clear u4 u3 o4
      have own1 := own.below v3
      have b1 := hbel.trans (v3.mono hbel.size)
      clear own v3 h1 hbel
      go_wp2_with fail
      refine (dgMix_any _ _ _ (l ++ [(k : Int), 2]) _ o3.ints (by omega) (WB.app HW.out (WB.two (by omega) (by omega)))).mono ?_; rintro e w2 ⟨rfl, u5⟩
      have own2 := own1.below u5
      have b2 := b1.trans (u5.mono b1.size)
      clear own1 u5 b1 o3
      go_wp2_with (at_builtin; refine wpList_appI _ rfl _ _ rfl w.heap.size a1 k c1 (bitsI l k) rfl (own2.alloc _) _ 1 1 [digI (l ++ [(k : Int), 2]) / 8 % 2] rfl (Ints.lit1 _ _ _) (by omega) (by have := b2.size; simp; omega) ?_)
      intro a5 c5 w3 o5 u5 _
      have b3 := (b2.alloc b2.size (.cells #[.int .i64 (digI (l ++ [(k : Int), 2]) / 8 % 2)] 3)).trans u5
      clear u5 b2 own2
      go_wp2
      go_roundw
      case rel => exact ⟨k + 1, by omega, by go_num, b3, a5, c5, rfl, by rw [HS.out]; exact o5⟩
      case measure => simp [intOf]; omega
    · have HE := Lib.hid (show N.toNat = k by omega)
      go_wp2
      go_ret
      refine ⟨a1, c1, ?_, ?_, hbel⟩
      · rw [HE.out]; rfl
      · rw [HE.out]; exact own
end Go.Proofs.Ytkbhigdciokfkaa
namespace Go.Proofs.Ytkbhigdciokfkaa
open Go.RowKit
set_option maxHeartbeats 400000 in
theorem isKey_any (k : Int) (w : World) : Calls Try.prog 70 #[.int .i64 k] w fun e w' => e = .returned (.bool (inB k 0 1000000000)) ∧ w = w' := by
  go_enter Try.func70, Try.ntmps70
  go_wp2_with (go_at_call 79; refine (within_any _ _ _ _).mono ?_; rintro e w' ⟨rfl, rfl⟩)
  go_ret
  exact ⟨rfl, rfl⟩
set_option maxHeartbeats 400000 in
theorem otKey_any (k : Int) (w : World) : Calls Try.prog 64 #[.int .i64 k] w fun e w' => e = .returned (.bool (inB k 0 1000000000)) ∧ w = w' := by
  go_enter Try.func64, Try.ntmps64
  go_wp2_with (go_at_call 76; refine (l1In_any _ _ _ _).mono ?_; rintro e w' ⟨rfl, rfl⟩)
  go_ret
  exact ⟨rfl, rfl⟩
end Go.Proofs.Ytkbhigdciokfkaa
namespace Go.Proofs.Ytkbhigdciokfkaa
open Go.RowKit
/-- Exclusive-or of Go's ints. -/
def xorI (a b : Int) : Int := bits BinOp.xor IntKind.i64 a b
theorem xorI_bit {a b : Int} (ha : a = 0 ∨ a = 1) (hb : b = 0 ∨ b = 1) : xorI a b = 0 ∨ xorI a b = 1 := by
  rcases ha with rfl | rfl <;> rcases hb with rfl | rfl
  · exact Or.inl (by decide +kernel)
  · exact Or.inr (by decide +kernel)
  · exact Or.inr (by decide +kernel)
  · exact Or.inl (by decide +kernel)
theorem Own.lit2 (w : World) (b : Nat) (x y : Int) (hb : b ≤ w.heap.size) : Own (w.alloc (.cells #[.int .i64 x, .int .i64 y] 3)) b (some ⟨w.heap.size, 0, none⟩) 2 2 [x, y] := Own.lit w b [x, y] hb (by simp [maxLen])
end Go.Proofs.Ytkbhigdciokfkaa
namespace Go.Proofs.Ytkbhigdciokfkaa
open Go.RowKit
/-- The same inside a region that draws its order. -/
theorem step_appJ (w : World) {ops : Array Oper} {o : Oper} {act : Act} {K : Act → World → Prop} {Q : Exit → Act → World → Prop} {E : Prop} (hgd : o.guard = none) (s x : Operand)
    (ho : o.op = .call { callee := .builtin .append, args := #[s, x], argTypes := #[23, 23] })
    (b : Nat) (a : Option Addr) (n c : Nat) (l : List Int) (hs : act.eval s = .slice a n c) (hown : Own w b a n c l)
    (a' : Option Addr) (m c' : Nat) (l' : List Int) (hx : act.eval x = .slice a' m c') (hrow : Ints w a' m c' l')
    (hlen : n + m ≤ 1000000000000) (hbase : b ≤ w.heap.size)
    (h : ∀ a2 c2 w', Own w' b a2 (n + m) c2 (l ++ l') → Below b w w' → w.grownBy w' (rowOf a c) → Ints w' a n c l → Moved w a c a2 c2 → K (act.put o.dst (.slice a2 (n + m) c2)) w') :
    if Region.wanted o (yielded ops act.tmps) = true then Oper.wp Try.prog o act w K Q else E := by
  rw [if_pos (by simp [Region.wanted, hgd])]
  exact wp_appJ w s x ho b a n c l hs hown a' m c' l' hx hrow hlen hbase h
end Go.Proofs.Ytkbhigdciokfkaa
namespace Go.Proofs.Ytkbhigdciokfkaa
open Go.RowKit
set_option maxHeartbeats 400000 in
theorem widthFor_any (n : Int) (w : World) (_h1 : 1 ≤ n) (h2 : n ≤ 256) :
    Calls Try.prog 71 #[.int .i64 n] w fun e w' => e = .returned (.int .i64 (wid n)) ∧ w = w' := by
  go_enter Try.func71, Try.ntmps71
  go_wp2
  go_loop [3] (fun v => ∃ k : Nat, k ≤ wid n ∧ v = .int .i64 k) (fun v => 8 - (intOf v).toNat)
  case atStart => exact ⟨0, Nat.zero_le _, rfl⟩
  case round =>
    obtain ⟨k, hk, rfl⟩ := hrel
    have h8 := wid_le n
    have hp := pow_in k (by omega)
    have hw := wid_lt n k h2 hk
    by_cases hlt : k < wid n
    · have h3 : (2 : Int) ^ k < n := hw.1 hlt
      clear hw
      go_wp2
      go_round
      case rel => exact ⟨k + 1, by omega, by go_num⟩
      case measure => simp [intOf]; omega
    · have h3 : ¬ (2 : Int) ^ k < n := fun h => hlt (hw.2 h)
      have h4 : k = wid n := by omega
      have H4 := Lib.hid h4
      clear hw h4
      go_wp2
      go_ret
      exact ⟨ret_int (by rw [← H4.out]), rfl⟩
end Go.Proofs.Ytkbhigdciokfkaa
namespace Go.Proofs.Ytkbhigdciokfkaa
open Go.RowKit
theorem getD_take (l : List Int) (n k : Nat) (h : k < n) : (l.take n).getD k 0 = l.getD k 0 := by simp [List.getD_eq_getElem?_getD, h]
theorem chG_take (B s : Int) (x y G : List Int) (n k : Nat) (h : k ≤ n) : chG B s (x.take n) (y.take n) G k = chG B s x y G k := by
  induction k with
  | zero => rfl
  | succ k ih => rw [chG_succ, chG_succ, ih (by omega), getD_take _ _ _ (by omega), getD_take _ _ _ (by omega)]
theorem chG_app (B s : Int) (x y l G : List Int) (n : Nat) (h : n ≤ y.length) : chG B s x (y ++ l) G n = chG B s x y G n := by
  rw [← chG_take B s x (y ++ l) G n n (Nat.le_refl _), List.take_append_of_le_length h, chG_take _ _ _ _ _ _ _ (Nat.le_refl _)]
/-- A sum: k places, and the carry. -/
def adS (B u v : Int) (first : Bool) (r : List Int × List Int × Int) : List Int × List Int × Int :=
  if first then (gt (gt r.1 0 u v) 1 u v, r.2.1 ++ [gW B r.1], gW B (gt r.1 0 u v))
  else (gt (gt (gt (gt (gt r.1 0 u r.2.2) 0 v r.2.2) 0 (gW B r.1) v) 1 (gW B r.1) (gW B (gt r.1 0 u r.2.2))) 0 (gW B (gt (gt (gt r.1 0 u r.2.2) 0 v r.2.2) 0 (gW B r.1) v)) r.2.2,
    r.2.1 ++ [gW B (gt (gt r.1 0 u r.2.2) 0 v r.2.2)],
    gW B (gt (gt (gt (gt r.1 0 u r.2.2) 0 v r.2.2) 0 (gW B r.1) v) 1 (gW B r.1) (gW B (gt r.1 0 u r.2.2))))
def adG (B : Int) (a b G : List Int) : Nat → List Int × List Int × Int
  | 0 => (G, [], -1)
  | k + 1 => adS B (a.getD k 0) (b.getD k 0) (k == 0) (adG B a b G k)
/-- A difference: k places, and the borrow. -/
def suS (B u v : Int) (first : Bool) (r : List Int × List Int × Int) : List Int × List Int × Int :=
  if first then (gt (gt (gt r.1 0 u v) 2 u 0) 1 (gW B (gt r.1 0 u v)) v, r.2.1 ++ [gW B r.1], gW B (gt (gt r.1 0 u v) 2 u 0))
  else (gt (gt (gt (gt (gt (gt r.1 0 u r.2.2) 0 v r.2.2) 0 (gW B r.1) v) 2 (gW B r.1) 0) 1 (gW B (gt (gt (gt r.1 0 u r.2.2) 0 v r.2.2) 0 (gW B r.1) v)) (gW B (gt r.1 0 u r.2.2))) 0 (gW B (gt (gt (gt (gt r.1 0 u r.2.2) 0 v r.2.2) 0 (gW B r.1) v) 2 (gW B r.1) 0)) r.2.2,
    r.2.1 ++ [gW B (gt (gt r.1 0 u r.2.2) 0 v r.2.2)],
    gW B (gt (gt (gt (gt (gt r.1 0 u r.2.2) 0 v r.2.2) 0 (gW B r.1) v) 2 (gW B r.1) 0) 1 (gW B (gt (gt (gt r.1 0 u r.2.2) 0 v r.2.2) 0 (gW B r.1) v)) (gW B (gt r.1 0 u r.2.2))))
def suG (B : Int) (a b G : List Int) : Nat → List Int × List Int × Int
  | 0 => (G, [], -1)
  | k + 1 => suS B (a.getD k 0) (b.getD k 0) (k == 0) (suG B a b G k)
theorem adS_len (B u v : Int) (f : Bool) (r : List Int × List Int × Int) : (adS B u v f r).1.length ≤ r.1.length + 18 ∧ (adS B u v f r).2.1.length = r.2.1.length + 1 := by
  unfold adS; cases f <;> simp [gt_len]
theorem suS_len (B u v : Int) (f : Bool) (r : List Int × List Int × Int) : (suS B u v f r).1.length ≤ r.1.length + 18 ∧ (suS B u v f r).2.1.length = r.2.1.length + 1 := by
  unfold suS; cases f <;> simp [gt_len]
theorem adG_len (B : Int) (a b G : List Int) (k : Nat) : (adG B a b G k).1.length ≤ G.length + 18 * k ∧ (adG B a b G k).2.1.length = k := by
  induction k with
  | zero => simp [adG]
  | succ k ih => have := adS_len B (a.getD k 0) (b.getD k 0) (k == 0) (adG B a b G k); simp only [adG]; omega
theorem suG_len (B : Int) (a b G : List Int) (k : Nat) : (suG B a b G k).1.length ≤ G.length + 18 * k ∧ (suG B a b G k).2.1.length = k := by
  induction k with
  | zero => simp [suG]
  | succ k ih => have := suS_len B (a.getD k 0) (b.getD k 0) (k == 0) (suG B a b G k); simp only [suG]; omega
theorem adG_succ (B : Int) (a b G : List Int) (k : Nat) : adG B a b G (k + 1) = adS B (a.getD k 0) (b.getD k 0) (k == 0) (adG B a b G k) := rfl
theorem suG_succ (B : Int) (a b G : List Int) (k : Nat) : suG B a b G (k + 1) = suS B (a.getD k 0) (b.getD k 0) (k == 0) (suG B a b G k) := rfl
theorem gW_le (B : Int) (G : List Int) : gW B G ≤ B + G.length := by unfold gW; omega
theorem adS_nn {B : Int} (h : 0 ≤ B) (u v : Int) (f : Bool) (r : List Int × List Int × Int) : 0 ≤ (adS B u v f r).2.2 := by
  unfold adS; cases f <;> exact gW_nn h
theorem suS_nn {B : Int} (h : 0 ≤ B) (u v : Int) (f : Bool) (r : List Int × List Int × Int) : 0 ≤ (suS B u v f r).2.2 := by
  unfold suS; cases f <;> exact gW_nn h
theorem adG_nn {B : Int} (h : 0 ≤ B) (a b G : List Int) (k : Nat) (hk : 0 < k) : 0 ≤ (adG B a b G k).2.2 := by
  cases k with
  | zero => omega
  | succ k => exact adS_nn h _ _ _ _
theorem suG_nn {B : Int} (h : 0 ≤ B) (a b G : List Int) (k : Nat) (hk : 0 < k) : 0 ≤ (suG B a b G k).2.2 := by
  cases k with
  | zero => omega
  | succ k => exact suS_nn h _ _ _ _
/-- A constant's wires; z: the wire of 0. -/
def coL (z n : Int) (k : Nat) : List Int := (List.range k).map fun i => z - n / 2 ^ i % 2
theorem coL_succ (z n : Int) (k : Nat) : coL z n (k + 1) = coL z n k ++ [z - n / 2 ^ k % 2] := by simp [coL, List.range_succ]
theorem coL_len (z n : Int) (k : Nat) : (coL z n k).length = k := by simp [coL]
/-- The circuit that adds modulo p, with n bits: the sum, the difference, the choice. -/
def re1 (n : Nat) : List Int × List Int × Int := adG ((n : Int) + n) (spL 0 n) (spL n n) [] n
def re3 (n : Nat) (p : Int) (r : List Int × List Int × Int) : List Int × List Int × Int :=
  suG ((n : Int) + n) (r.2.1 ++ [r.2.2]) (coL (gW ((n : Int) + n) (gt r.1 3 0 0)) p (n + 1)) (gt (gt r.1 3 0 0) 2 (gW ((n : Int) + n) r.1) 0) (n + 1)
def re4 (n : Nat) (r q : List Int × List Int × Int) : List Int × List Int := chG ((n : Int) + n) q.2.2 (r.2.1 ++ [r.2.2]) q.2.1 q.1 n
def reG (p : Int) : List Int := (re4 (wid p) (re1 (wid p)) (re3 (wid p) p (re1 (wid p)))).1
def reO (p : Int) : List Int := (re4 (wid p) (re1 (wid p)) (re3 (wid p) p (re1 (wid p)))).2
end Go.Proofs.Ytkbhigdciokfkaa
namespace Go.Proofs.Ytkbhigdciokfkaa
open Go.RowKit
set_option maxHeartbeats 4000000 in
theorem not_any (ka : Int) {oa : Option Addr} {on oc : Nat} (b g : Nat) (i0 i1 : Int) (G : List Int) (F : List Nat) (w : World) (h : Mk 81 w b g i0 i1 G F oa on oc) (hb : b ≤ w.heap.size) (h0 : 0 ≤ i0 ∧ i0 ≤ 1000) (h1 : 0 ≤ i1 ∧ i1 ≤ 1000) (hl : G.length ≤ 30000) :
    Calls Try.prog 100 #[.pointer (some ⟨g, 0, none⟩), .int .i64 ka] w fun e w' => e = .returned (.int .i64 (gW (i0 + i1) G)) ∧ ∃ F', Mk 81 w' b g i0 i1 (gt G 2 ka 0) F' oa on oc ∧ Stp F w F' w' := by
  go_enter Try.func100, Try.ntmps100
  go_wp2_with fail
  refine (gate_any 2 ka 0 b g i0 i1 G F _ h hb h0 h1 hl).mono ?_; rintro e w1 ⟨rfl, F1, m1, s1⟩
  go_wp2
  go_ret
  exact ⟨rfl, F1, m1, s1⟩
set_option maxHeartbeats 4000000 in
theorem zero_any {oa : Option Addr} {on oc : Nat} (b g : Nat) (i0 i1 : Int) (G : List Int) (F : List Nat) (w : World) (h : Mk 81 w b g i0 i1 G F oa on oc) (hb : b ≤ w.heap.size) (h0 : 0 ≤ i0 ∧ i0 ≤ 1000) (h1 : 0 ≤ i1 ∧ i1 ≤ 1000) (hl : G.length ≤ 29000) :
    Calls Try.prog 129 #[.pointer (some ⟨g, 0, none⟩)] w fun e w' => e = .returned (.int .i64 (gW (i0 + i1) (gt G 3 0 0))) ∧ ∃ F', Mk 81 w' b g i0 i1 (gt (gt G 3 0 0) 2 (gW (i0 + i1) G) 0) F' oa on oc ∧ Stp F w F' w' := by
  go_enter Try.func129, Try.ntmps129
  go_wp2_with fail
  refine (gate_any 3 0 0 b g i0 i1 G F _ h hb h0 h1 (by omega)).mono ?_; rintro e w1 ⟨rfl, F1, m1, s1⟩
  go_wp2_with fail
  refine (not_any _ b g i0 i1 _ F1 _ m1 (Nat.le_trans hb s1.size) h0 h1 (by rw [gt_len]; omega)).mono ?_; rintro e w2 ⟨rfl, F2, m2, s2⟩
  go_wp2
  go_ret
  exact ⟨rfl, F2, m2, s1.trans s2⟩
set_option maxHeartbeats 4000000 in
theorem snot_any (ka : Int) {oa : Option Addr} {on oc : Nat} (b g : Nat) (i0 i1 : Int) (G : List Int) (F : List Nat) (w : World) (h : Mk 79 w b g i0 i1 G F oa on oc) (hb : b ≤ w.heap.size) (h0 : 0 ≤ i0 ∧ i0 ≤ 1000) (h1 : 0 ≤ i1 ∧ i1 ≤ 1000) (hl : G.length ≤ 30000) :
    Calls Try.prog 127 #[.pointer (some ⟨g, 0, none⟩), .int .i64 ka] w fun e w' => e = .returned (.int .i64 (gW (i0 + i1) G)) ∧ ∃ F', Mk 79 w' b g i0 i1 (gt G 2 ka 0) F' oa on oc ∧ Stp F w F' w' := by
  go_enter Try.func127, Try.ntmps127
  go_wp2_with fail
  refine (sgate_any 2 ka 0 b g i0 i1 G F _ h hb h0 h1 hl).mono ?_; rintro e w1 ⟨rfl, F1, m1, s1⟩
  go_wp2
  go_ret
  exact ⟨rfl, F1, m1, s1⟩
set_option maxHeartbeats 4000000 in
theorem sone_any {oa : Option Addr} {on oc : Nat} (b g : Nat) (i0 i1 : Int) (G : List Int) (F : List Nat) (w : World) (h : Mk 79 w b g i0 i1 G F oa on oc) (hb : b ≤ w.heap.size) (h0 : 0 ≤ i0 ∧ i0 ≤ 1000) (h1 : 0 ≤ i1 ∧ i1 ≤ 1000) (hl : G.length ≤ 30000) :
    Calls Try.prog 128 #[.pointer (some ⟨g, 0, none⟩)] w fun e w' => e = .returned (.int .i64 (gW (i0 + i1) G)) ∧ ∃ F', Mk 79 w' b g i0 i1 (gt G 3 0 0) F' oa on oc ∧ Stp F w F' w' := by
  go_enter Try.func128, Try.ntmps128
  go_wp2_with fail
  refine (sgate_any 3 0 0 b g i0 i1 G F _ h hb h0 h1 hl).mono ?_; rintro e w1 ⟨rfl, F1, m1, s1⟩
  go_wp2
  go_ret
  exact ⟨rfl, F1, m1, s1⟩
end Go.Proofs.Ytkbhigdciokfkaa
namespace Go.Proofs.Ytkbhigdciokfkaa
open Go.RowKit
theorem pkL_len (F O : List Int) (k : Nat) : (pkL F O k).length = k := by simp [pkL]
end Go.Proofs.Ytkbhigdciokfkaa
namespace Go.Proofs.Ytkbhigdciokfkaa
open Go.RowKit
def andI (a b : Int) : Int := bits BinOp.and IntKind.i64 a b
theorem andI_eq {a b : Int} (ha : a = 0 ∨ a = 1) (hb : b = 0 ∨ b = 1) : andI a b = if a = 1 then b else 0 := by
  rcases ha with rfl | rfl <;> rcases hb with rfl | rfl <;> decide
theorem andI_bit {a b : Int} (ha : a = 0 ∨ a = 1) (hb : b = 0 ∨ b = 1) : andI a b = 0 ∨ andI a b = 1 := by
  rw [andI_eq ha hb]; split
  · exact hb
  · exact Or.inl rfl
theorem xorI_comm {a b : Int} (ha : a = 0 ∨ a = 1) (hb : b = 0 ∨ b = 1) : xorI a b = xorI b a := by
  rcases ha with rfl | rfl <;> rcases hb with rfl | rfl <;> decide
theorem andI_mul {a b : Int} (ha : a = 0 ∨ a = 1) (hb : b = 0 ∨ b = 1) : a * b = andI a b := by
  rcases ha with rfl | rfl <;> rcases hb with rfl | rfl <;> decide
theorem keepLx {B : Nat} {w w' : World} {p : Addr} {v : Value} (u : Below B w w') (hb : p.block < B) (h : w.cell? p = some v) : w'.cell? p = some v := (u.cell hb).trans h
def xrL (l l' : List Int) (k : Nat) : List Int := (List.range k).map fun i => xorI (l.getD i 0) (l'.getD i 0)
theorem xrL_succ (l l' : List Int) (k : Nat) : xrL l l' (k + 1) = xrL l l' k ++ [xorI (l.getD k 0) (l'.getD k 0)] := by simp [xrL, List.range_succ]
theorem xrL_len (l l' : List Int) (k : Nat) : (xrL l l' k).length = k := by simp [xrL]
theorem xrL_bits {l l' : List Int} (h : Bt l) (h' : Bt l') (k : Nat) : Bt (xrL l l' k) := fun x hx => by
  simp only [xrL, List.mem_map, List.mem_range] at hx
  obtain ⟨i, _, rfl⟩ := hx
  exact xorI_bit (h.at i) (h'.at i)
theorem bitsI_bits (l : List Int) (n : Nat) : Bt (bitsI l n) := fun x hx => by
  simp only [bitsI, List.mem_map, List.mem_range] at hx
  obtain ⟨i, _, rfl⟩ := hx
  omega
set_option maxHeartbeats 4000000 in
set_option maxRecDepth 100000 in
theorem xored_any (a : Option Addr) (n c : Nat) (l : List Int) (a' : Option Addr) (n' c' : Nat) (l' : List Int) (w : World) (h : Ints w a n c l) (h' : Ints w a' n' c' l') (hn : n ≤ n') (hs : n ≤ 100000) :
    Calls Try.prog 141 #[.slice a n c, .slice a' n' c'] w fun e w' => ∃ a1 c1, e = .returned (.slice a1 n c1) ∧ Own w' w.heap.size a1 n c1 (xrL l l' n) ∧ Below w.heap.size w w' := by
  have hle := h'.le
  go_enter Try.func141, Try.ntmps141
  go_wp2
  go_loopw [10, 5] (fun v u wr => ∃ k : Nat, k ≤ n ∧ v = .int .i64 k ∧ Below w.heap.size w wr ∧ ∃ a1 c1, u = .slice a1 k c1 ∧ Own wr w.heap.size a1 k c1 (xrL l l' k)) (fun v _ _ => n - (intOf v).toNat)
  case atStart => exact ⟨0, Nat.zero_le _, rfl, (Below.refl _ _).alloc (Nat.le_refl _) _, _, _, rfl, Own.nil0 _ _ _⟩
  case round =>
    obtain ⟨k, hkn, rfl, hbel, a1, c1, rfl, own⟩ := hrel
    by_cases hlt : k < n
    · have HS := Lib.hid (xrL_succ l l' k)
      obtain ⟨g, o, rfl, e00⟩ := h.at k hlt
      obtain ⟨g', o', rfl, e11⟩ := h'.at k (by omega)
      have e0 := (hbel.cell (World.block_lt_of_cell? w _ e00)).trans e00
      have e1 := (hbel.cell (World.block_lt_of_cell? w _ e11)).trans e11
      have hx : bits BinOp.xor IntKind.i64 (l.getD k 0) (l'.getD k 0) = xorI (l.getD k 0) (l'.getD k 0) := rfl
      generalize l.getD k 0 = x at *
      generalize l'.getD k 0 = y at *
      have f0 : (0 : Int) ≤ (k : Int) := by omega
      have f1 : (k : Int) < (n : Int) := by omega
      have f2 : (k : Int) < (n' : Int) := by omega
      have hg : g < w.heap.size := World.block_lt_of_cell? w _ e00
      have hg' : g' < w.heap.size := World.block_lt_of_cell? w _ e11
      clear e00 e11
      go_wp2_with fail
      go_region_held3 (fun W => W.cell? ⟨g, o + k, none⟩ = some (.int .i64 x) ∧ W.cell? ⟨g', o' + k, none⟩ = some (.int .i64 y))
        (first | exact ⟨keepLx u5 hg (keepA _ e0), keepLx u5 hg' (keepA _ e1)⟩ | go_keep)
        (first | (refine step_appI _ (by rfl) _ _ (by rfl) w.heap.size _ k c1 (xrL l l' k) (by rfl) (own.drew.alloc _) _ 1 1 [xorI x y] (by rfl) (Ints.lit1 _ _ _) (by omega) (by simp; exact Nat.le_succ_of_le hbel.size) ?_; intro a5 c5 w3 o5 u5 g5 hold5))
      rw [← HS.out] at o5
      have b3 := ((hbel.drew).alloc hbel.size (.cells #[.int .i64 (xorI x y)] 3)).trans u5
      clear u5 hbel own g5 hold5 e0 e1
      go_wp2
      go_roundw
      case rel => exact ⟨k + 1, by omega, by go_num, b3, a5, c5, rfl, o5⟩
      case measure => simp [intOf]; omega
    · obtain rfl : k = n := by omega
      go_wp2
      go_ret
      exact ⟨_, _, rfl, own, hbel⟩
set_option maxHeartbeats 4000000 in
set_option maxRecDepth 100000 in
theorem btXor_any (a : Option Addr) (n c : Nat) (l : List Int) (a' : Option Addr) (n' c' : Nat) (l' : List Int) (w : World) (h : Ints w a n c l) (h' : Ints w a' n' c' l') (hn : n ≤ n') (hs : n ≤ 100000) :
    Calls Try.prog 138 #[.slice a n c, .slice a' n' c'] w fun e w' => ∃ a1 c1, e = .returned (.slice a1 n c1) ∧ Own w' w.heap.size a1 n c1 (xrL l l' n) ∧ Below w.heap.size w w' := by
  have hle := h'.le
  go_enter Try.func138, Try.ntmps138
  go_wp2
  go_loopw [10, 5] (fun v u wr => ∃ k : Nat, k ≤ n ∧ v = .int .i64 k ∧ Below w.heap.size w wr ∧ ∃ a1 c1, u = .slice a1 k c1 ∧ Own wr w.heap.size a1 k c1 (xrL l l' k)) (fun v _ _ => n - (intOf v).toNat)
  case atStart => exact ⟨0, Nat.zero_le _, rfl, Below.refl _ _, _, _, rfl, Own.nil0 _ _ _⟩
  case round =>
    obtain ⟨k, hkn, rfl, hbel, a1, c1, rfl, own⟩ := hrel
    by_cases hlt : k < n
    · have HS := Lib.hid (xrL_succ l l' k)
      obtain ⟨g, o, rfl, e0⟩ := (h.below hbel).at k hlt
      obtain ⟨g', o', rfl, e1⟩ := (h'.below hbel).at k (by omega)
      have hx : bits BinOp.xor IntKind.i64 (l.getD k 0) (l'.getD k 0) = xorI (l.getD k 0) (l'.getD k 0) := rfl
      generalize l.getD k 0 = x at *
      generalize l'.getD k 0 = y at *
      have f0 : (0 : Int) ≤ (k : Int) := by omega
      have f1 : (k : Int) < (n : Int) := by omega
      have f2 : (k : Int) < (n' : Int) := by omega
      go_wp2_with (at_builtin; refine wpList_appI _ rfl _ _ rfl w.heap.size _ k c1 (xrL l l' k) rfl (own.alloc _) _ 1 1 [xorI x y] rfl (Ints.lit1 _ _ _) (by omega) (by have := hbel.size; simp; omega) ?_)
      intro a5 c5 w3 o5 u5 _
      rw [← HS.out] at o5
      have b3 := (hbel.alloc hbel.size _).trans u5
      clear u5 hbel own e0 e1
      go_wp2
      go_roundw
      case rel => exact ⟨k + 1, by omega, by go_num, b3, a5, c5, rfl, o5⟩
      case measure => simp [intOf]; omega
    · obtain rfl : k = n := by omega
      go_wp2
      go_ret
      exact ⟨_, _, rfl, own, hbel⟩
end Go.Proofs.Ytkbhigdciokfkaa
namespace Go.Proofs.Ytkbhigdciokfkaa
open Go.RowKit
/-- A row that is read, in a block from B on. -/
def InN (w : World) (B : Nat) (a : Option Addr) (n c : Nat) (l : List Int) : Prop := Ints w a n c l ∧ ∀ x, a = some x → B ≤ x.block
theorem InN.below {w w' : World} {B n c : Nat} {a : Option Addr} {l : List Int} (h : InN w B a n c l) (u : Below w.heap.size w w') : InN w' B a n c l := ⟨h.1.below u, h.2⟩
theorem InN.lower {w : World} {B B' n c : Nat} {a : Option Addr} {l : List Int} (h : InN w B a n c l) (hB : B' ≤ B) : InN w B' a n c l := ⟨h.1, fun x hx => Nat.le_trans hB (h.2 x hx)⟩
theorem Own.inn {w : World} {b n c : Nat} {a : Option Addr} {l : List Int} (h : Own w b a n c l) (hn : 0 < n) : InN w b a n c l := ⟨h.ints, fun x hx => (h.range x (by have := h.cap; omega) hx).1⟩
theorem InN.only {w w' : World} {B n c : Nat} {a : Option Addr} {l : List Int} {X : List Nat} (h : InN w B a n c l) (ho : Only X w w') (hX : ∀ q ∈ X, q < B) : InN w' B a n c l := by
  refine ⟨?_, h.2⟩
  obtain ⟨⟨h1, h2, h3, h4, g, o, h5, h6⟩, h7⟩ := h
  refine ⟨h1, h2, h3, h4, g, o, h5, fun i hi => ?_⟩
  have hc := h6 i hi
  have hg := h7 _ (h5 (by omega))
  unfold World.cell? at hc ⊢
  rw [ho.block g (World.block_lt_of_cell? w ⟨g, o + i, none⟩ (by unfold World.cell?; exact hc)) (fun hm => by have := hX g hm; simp at hg; omega)]
  exact hc
def stb (key n : Int) (k : Nat) : Int := (bitsI [key, n, 22] 5).getD k 0
theorem stb_bit (key n : Int) (k : Nat) (h : k < 5) : stb key n k = 0 ∨ stb key n k = 1 := bitsI_bit _ _ _ h
theorem bitsI_five (key n : Int) : bitsI [key, n, 22] 5 = [stb key n 0, stb key n 1, stb key n 2, stb key n 3, stb key n 4] := rfl
/-- The shares of a triple of bits. -/
def tr1 (key n : Int) : List Int := [stb key n 2, stb key n 3, stb key n 4]
def tr2 (key n : Int) : List Int := [xorI (stb key n 0) (stb key n 2), xorI (stb key n 1) (stb key n 3), xorI (andI (stb key n 0) (stb key n 1)) (stb key n 4)]
theorem tr1_bits (key n : Int) : Bt (tr1 key n) := fun x hx => by
  simp only [tr1, List.mem_cons, List.not_mem_nil, or_false] at hx
  rcases hx with rfl | rfl | rfl <;> exact stb_bit _ _ _ (by decide)
theorem tr2_bits (key n : Int) : Bt (tr2 key n) := fun x hx => by
  simp only [tr2, List.mem_cons, List.not_mem_nil, or_false] at hx
  rcases hx with rfl | rfl | rfl
  · exact xorI_bit (stb_bit _ _ _ (by decide)) (stb_bit _ _ _ (by decide))
  · exact xorI_bit (stb_bit _ _ _ (by decide)) (stb_bit _ _ _ (by decide))
  · exact xorI_bit (andI_bit (stb_bit _ _ _ (by decide)) (stb_bit _ _ _ (by decide))) (stb_bit _ _ _ (by decide))
theorem InN.lit3 (w : World) (B : Nat) (x y z : Int) (hB : B ≤ w.heap.size) : InN (w.alloc (.cells #[.int .i64 x, .int .i64 y, .int .i64 z] 3)) B (some ⟨w.heap.size, 0, none⟩) 3 3 [x, y, z] := (Own.lit w B [x, y, z] hB (by simp [maxLen])).inn (show 0 < 3 by decide)
set_option maxHeartbeats 8000000 in
set_option maxRecDepth 100000 in
theorem bitTriple_any (key i : Int) (w : World) (hk : 0 ≤ key) (hk2 : key ≤ 1000000000) (hi : 0 ≤ i) (hi2 : i ≤ 1000000) :
    Calls Try.prog 111 #[.int .i64 key, .int .i64 i] w fun e w' => ∃ a c a' c', e = .returned (.tuple #[.slice a 3 c, .slice a' 3 c']) ∧ InN w' w.heap.size a 3 c (tr1 key i) ∧ InN w' w.heap.size a' 3 c' (tr2 key i) ∧ Below w.heap.size w w' := by
  have hb := bitsI_five key i
  have H1 : Hid (tr1 key i = [stb key i 2, stb key i 3, stb key i 4]) := rfl
  have H2 : Hid (tr2 key i = [xorI (stb key i 0) (stb key i 2), xorI (stb key i 1) (stb key i 3), xorI (andI (stb key i 0) (stb key i 1)) (stb key i 4)]) := rfl
  generalize stb key i 0 = b0 at *
  generalize stb key i 1 = b1 at *
  generalize stb key i 2 = b2 at *
  generalize stb key i 3 = b3 at *
  generalize stb key i 4 = b4 at *
  have HB := Lib.hid hb
  clear hb
  go_enter Try.func111, Try.ntmps111
  go_wp2_with fail
  refine (bitsFrom_any _ _ _ [key, i, 22] 5 _ (Ints.lit _ [key, i, 22] _ (by simp [maxLen])) (by simp) (WB.cons (by omega) (WB.two (by omega) (by omega))) (by omega) (by omega)).mono ?_; rintro e w1 ⟨a1, c1, rfl, o1, u1⟩
  have v1 := below_a1 u1
  have o1' : Own w1 w.heap.size a1 5 c1 [b0, b1, b2, b3, b4] := by rw [← HB.out]; exact o1.lower (by simp)
  clear u1 o1
  obtain ⟨g, rfl, _, _, x0, _, _⟩ := o1'.at 0 (by omega)
  obtain ⟨_, E, _, _, x1, _, _⟩ := o1'.at 1 (by omega)
  cases E
  obtain ⟨_, E, _, _, x2, _, _⟩ := o1'.at 2 (by omega)
  cases E
  obtain ⟨_, E, _, _, x3, _, _⟩ := o1'.at 3 (by omega)
  cases E
  obtain ⟨_, E, _, _, x4, _, _⟩ := o1'.at 4 (by omega)
  cases E
  change w1.cell? ⟨g, 0, none⟩ = some (.int .i64 b0) at x0
  change w1.cell? ⟨g, 1, none⟩ = some (.int .i64 b1) at x1
  change w1.cell? ⟨g, 2, none⟩ = some (.int .i64 b2) at x2
  change w1.cell? ⟨g, 3, none⟩ = some (.int .i64 b3) at x3
  change w1.cell? ⟨g, 4, none⟩ = some (.int .i64 b4) at x4
  have hcc := o1'.cap
  have hL := o1'.ints.from_ 2 (by omega)
  rw [if_neg (by omega)] at hL
  have hL2 : Ints w1 (some ⟨g, 2, none⟩) 3 (c1 - 2) [b2, b3, b4] := hL
  have hS1 := v1.size
  have f1 : (5 : Int) ≤ (c1 : Int) := by omega
  have f2 : (2 : Int) ≤ (c1 : Int) := by omega
  have f3 : ¬ c1 = 2 := by omega
  have f4 : 2 ≤ c1 := by omega
  have f5 : 5 ≤ c1 := by omega
  clear hcc hL o1'
  have y1 : bits BinOp.xor IntKind.i64 b0 b2 = xorI b0 b2 := rfl
  have y2 : bits BinOp.xor IntKind.i64 b1 b3 = xorI b1 b3 := rfl
  have y3 : bits BinOp.and IntKind.i64 b0 b1 = andI b0 b1 := rfl
  have y4 : bits BinOp.xor IntKind.i64 (andI b0 b1) b4 = xorI (andI b0 b1) b4 := rfl
  go_wp2_with fail
  go_region_held3 (fun W => W.cell? ⟨g, 0, none⟩ = some (.int .i64 b0) ∧ W.cell? ⟨g, 1, none⟩ = some (.int .i64 b1) ∧ W.cell? ⟨g, 2, none⟩ = some (.int .i64 b2) ∧ W.cell? ⟨g, 3, none⟩ = some (.int .i64 b3) ∧ W.cell? ⟨g, 4, none⟩ = some (.int .i64 b4))
    (first | exact ⟨keepC u3 x0, keepC u3 x1, keepC u3 x2, keepC u3 x3, keepC u3 x4⟩ | exact ⟨keepC u3 (keepA _ x0), keepC u3 (keepA _ x1), keepC u3 (keepA _ x2), keepC u3 (keepA _ x3), keepC u3 (keepA _ x4)⟩ | go_keep)
    (first | (go_at_call 52; refine (Clone_any _ 3 (c1 - 2) [b2, b3, b4] _ (by first | exact hL2.drew | exact (hL2.alloc _).drew) (by omega)).mono ?_; rintro e w3 ⟨a3, c3, rfl, o3, u3⟩))
  all_goals go_wp2
  all_goals go_ret2
  all_goals first
    | exact ⟨_, _, _, _, rfl, by rw [H1.out]; exact ((o3.inn (by omega)).lower hS1).below ((Below.refl _ w3).alloc (Nat.le_refl _) _), by rw [H2.out]; exact InN.lit3 w3 _ _ _ _ (Nat.le_trans hS1 u3.size), (v1.trans (((Below.refl w1.heap.size w1).drew.trans u3).mono hS1)).alloc (Nat.le_trans hS1 u3.size) _⟩
    | exact ⟨_, _, _, _, rfl, by rw [H1.out]; exact (o3.inn (by omega)).lower (by simp; omega), by rw [H2.out]; exact (InN.lit3 w1 w.heap.size _ _ _ hS1).below ((Below.refl _ _).drew.trans u3), v1.trans (((((Below.refl w1.heap.size w1).alloc (Nat.le_refl _) _).drew.trans (u3.mono (by simp)))).mono hS1)⟩
set_option maxHeartbeats 8000000 in
set_option maxRecDepth 100000 in
theorem sbTriple_any (key i : Int) (w : World) (hk : 0 ≤ key) (hk2 : key ≤ 1000000000) (hi : 0 ≤ i) (hi2 : i ≤ 1000000) :
    Calls Try.prog 106 #[.int .i64 key, .int .i64 i] w fun e w' => ∃ a c a' c', e = .returned (.tuple #[.slice a 3 c, .slice a' 3 c']) ∧ InN w' w.heap.size a 3 c (tr1 key i) ∧ InN w' w.heap.size a' 3 c' (tr2 key i) ∧ Below w.heap.size w w' := by
  have hb := bitsI_five key i
  have H1 : Hid (tr1 key i = [stb key i 2, stb key i 3, stb key i 4]) := rfl
  have d0 := stb_bit key i 0 (by omega)
  have d1 := stb_bit key i 1 (by omega)
  have d2 := stb_bit key i 2 (by omega)
  have d3 := stb_bit key i 3 (by omega)
  have d4 := stb_bit key i 4 (by omega)
  have H2 : Hid (tr2 key i = [xorI (stb key i 0) (stb key i 2), xorI (stb key i 1) (stb key i 3), xorI (andI (stb key i 0) (stb key i 1)) (stb key i 4)]) := rfl
  have H3 : Hid (xrL [stb key i 2, stb key i 3, stb key i 4] [stb key i 0, stb key i 1, andI (stb key i 0) (stb key i 1)] 3 = tr2 key i) := Lib.hid (by
    rw [H2.out, xorI_comm d0 d2, xorI_comm d1 d3, xorI_comm (andI_bit d0 d1) d4]; rfl)
  generalize stb key i 0 = b0 at *
  generalize stb key i 1 = b1 at *
  generalize stb key i 2 = b2 at *
  generalize stb key i 3 = b3 at *
  generalize stb key i 4 = b4 at *
  have HB := Lib.hid hb
  have HM := Lib.hid (andI_mul d0 d1)
  have hm : 0 ≤ b0 * b1 ∧ b0 * b1 ≤ 1 := by rw [HM.out]; have := andI_bit d0 d1; omega
  obtain ⟨m, hmm⟩ : ∃ m, m = b0 * b1 := ⟨_, rfl⟩
  have HMM := Lib.hid (hmm.trans HM.out)
  rw [← hmm] at hm
  have z1 : IntKind.i64.wrap (b0 * b1) = m := by rw [← hmm]; exact IntWalk.i64_in _ (by omega)
  have z2 : wrap64 (b0 * b1) = m := by rw [← hmm]; exact IntWalk.wrap64_in _ (by omega)
  have z3 : b0 * b1 = m := hmm.symm
  have z4 : IntKind.i64.wrap m = m := IntWalk.i64_in _ (by omega)
  clear hb d0 d1 d2 d3 d4 hmm HM
  go_enter Try.func106, Try.ntmps106
  go_wp2_with fail
  refine (dgBits_any _ _ _ [key, i, 22] 5 _ (Ints.lit _ [key, i, 22] _ (by simp [maxLen])) (by simp) (WB.cons (by omega) (WB.two (by omega) (by omega))) (by omega) (by omega)).mono ?_; rintro e w1 ⟨a1, c1, rfl, o1, u1⟩
  have v1 := below_a1 u1
  have o1' : Own w1 w.heap.size a1 5 c1 [b0, b1, b2, b3, b4] := by rw [← HB.out]; exact o1.lower (by simp)
  clear u1 o1
  obtain ⟨g, rfl, hgb, _, x0, _, _⟩ := o1'.at 0 (by omega)
  obtain ⟨_, E, _, _, x1, _, _⟩ := o1'.at 1 (by omega)
  cases E
  change w1.cell? ⟨g, 0, none⟩ = some (.int .i64 b0) at x0
  change w1.cell? ⟨g, 1, none⟩ = some (.int .i64 b1) at x1
  have hcc := o1'.cap
  have hL := o1'.ints.from_ 2 (by omega)
  rw [if_neg (by omega)] at hL
  have hL2 : Ints w1 (some ⟨g, 2, none⟩) 3 (c1 - 2) [b2, b3, b4] := hL
  have hS1 := v1.size
  have f1 : (5 : Int) ≤ (c1 : Int) := by omega
  have f2 : (2 : Int) ≤ (c1 : Int) := by omega
  have f3 : ¬ c1 = 2 := by omega
  have f4 : 2 ≤ c1 := by omega
  have f5 : 5 ≤ c1 := by omega
  clear hcc hL o1'
  go_wp2_with fail
  go_region_held3 (fun W => W.cell? ⟨g, 0, none⟩ = some (.int .i64 b0) ∧ W.cell? ⟨g, 1, none⟩ = some (.int .i64 b1))
    (first | exact ⟨keepC u3 (keepA _ x0), keepC u3 (keepA _ x1)⟩ | go_keep)
    (first | (go_at_call 138; refine (btXor_any _ 3 (c1 - 2) [b2, b3, b4] _ 3 3 [b0, b1, m] _ (by first | exact hL2.drew.alloc _ | exact (hL2.alloc _).drew) (by first | exact (Ints.lit w1.drew [b0, b1, m] _ (by simp [maxLen])) | exact (Ints.lit w1 [b0, b1, m] _ (by simp [maxLen])).drew) (by omega) (by omega)).mono ?_; rintro e w3 ⟨a3, c3, rfl, o3, u3⟩))
  all_goals have U : Below w1.heap.size w1 w3 := ((Below.refl w1.heap.size w1).alloc (Nat.le_refl _) _).drew.trans (u3.mono (by simp))
  all_goals have o4 := o3.lower (b' := w.heap.size) (by simp; exact Nat.le_succ_of_le hS1)
  all_goals rw [HMM.out, H3.out] at o4
  all_goals have hL3 := hL2.below U
  all_goals have V := v1.trans (U.mono hS1)
  all_goals clear x0 x1 u3 o3 U hL2
  all_goals go_wp2
  all_goals go_ret2
  all_goals exact ⟨_, _, _, _, rfl, ⟨by rw [H1.out]; exact hL3, fun x hx => by cases hx; exact hgb⟩, o4.inn (by omega), V⟩
end Go.Proofs.Ytkbhigdciokfkaa
namespace Go.Proofs.Ytkbhigdciokfkaa
open Go.RowKit
/-- A party's share of a gate that is no conjunction. -/
def soI (kd ka kb party : Int) (F : List Int) : Int := if kd = 0 then xorI (F.getD ka.toNat 0) (F.getD kb.toNat 0) else if kd = 2 then xorI (F.getD ka.toNat 0) (1 - party) else 1 - party
def anI (party : Int) (s : List Int) (d e : Int) : Int :=
  if party = 0 then xorI (xorI (xorI (s.getD 2 0) (andI d (s.getD 1 0))) (andI e (s.getD 0 0))) (andI d e) else xorI (xorI (s.getD 2 0) (andI d (s.getD 1 0))) (andI e (s.getD 0 0))
theorem soI_bit {kd ka kb party : Int} {F : List Int} (h : Bt F) (hp : party = 0 ∨ party = 1) : soI kd ka kb party F = 0 ∨ soI kd ka kb party F = 1 := by
  unfold soI
  have h1 : 1 - party = 0 ∨ 1 - party = 1 := by omega
  split
  · exact xorI_bit (h.at _) (h.at _)
  · split
    · exact xorI_bit (h.at _) h1
    · exact h1
theorem anI_bit {party : Int} {s : List Int} {d e : Int} (h : Bt s) (hd : d = 0 ∨ d = 1) (he : e = 0 ∨ e = 1) : anI party s d e = 0 ∨ anI party s d e = 1 := by
  have h1 := xorI_bit (xorI_bit (h.at 2) (andI_bit hd (h.at 1))) (andI_bit he (h.at 0))
  unfold anI
  split
  · exact xorI_bit h1 (andI_bit hd he)
  · exact h1
def goB (kd ka kb : Int) (n : Nat) : Prop := (kd = 0 ∧ (0 ≤ ka ∧ ka < n) ∧ (0 ≤ kb ∧ kb < n)) ∨ (kd = 2 ∧ (0 ≤ ka ∧ ka < n)) ∨ kd = 3
set_option maxHeartbeats 4000000 in
set_option maxRecDepth 100000 in
theorem shareOf_any (kd ka kb party : Int) (a : Option Addr) (n c : Nat) (F : List Int) (w : World) (h : Ints w a n c F) (hg : goB kd ka kb n) (hp : party = 0 ∨ party = 1) :
    Calls Try.prog 110 #[.agg #[.int .i64 kd, .int .i64 ka, .int .i64 kb], .int .i64 party, .slice a n c] w fun e w' => e = .returned (.int .i64 (soI kd ka kb party F)) ∧ Below w.heap.size w w' := by
  have hle := h.le
  have hb : Below w.heap.size w (w.alloc (.cells #[.int .i64 kd, .int .i64 ka, .int .i64 kb] 87)) := (Below.refl _ _).alloc (Nat.le_refl _) _
  rcases hg with ⟨rfl, ⟨a0, a1⟩, b0, b1⟩ | ⟨rfl, a0, a1⟩ | rfl
  · obtain ⟨ja, rfl⟩ : ∃ k : Nat, ka = k := ⟨ka.toNat, by omega⟩
    obtain ⟨jb, rfl⟩ : ∃ k : Nat, kb = k := ⟨kb.toNat, by omega⟩
    have HS : Hid (soI 0 (ja : Int) (jb : Int) party F = xorI (F.getD ja 0) (F.getD jb 0)) := rfl
    obtain ⟨g, o, rfl, e0⟩ := (h.alloc (.cells #[.int .i64 0, .int .i64 (ja : Int), .int .i64 (jb : Int)] 87)).at ja (by omega)
    obtain ⟨_, _, E, e1⟩ := (h.alloc (.cells #[.int .i64 0, .int .i64 (ja : Int), .int .i64 (jb : Int)] 87)).at jb (by omega)
    cases E
    have hx : bits BinOp.xor IntKind.i64 (F.getD ja 0) (F.getD jb 0) = xorI (F.getD ja 0) (F.getD jb 0) := rfl
    generalize F.getD ja 0 = x at *
    generalize F.getD jb 0 = y at *
    go_enter Try.func110, Try.ntmps110
    go_wp2
    go_quiet (fail)
    go_wp2
    go_ret
    exact ⟨ret_int HS.out.symm, hb.trans (below_drewN (Below.refl _ _) _)⟩
  · obtain ⟨ja, rfl⟩ : ∃ k : Nat, ka = k := ⟨ka.toNat, by omega⟩
    have HS : Hid (soI 2 (ja : Int) kb party F = xorI (F.getD ja 0) (1 - party)) := rfl
    obtain ⟨g, o, rfl, e0⟩ := (h.alloc (.cells #[.int .i64 2, .int .i64 (ja : Int), .int .i64 kb] 87)).at ja (by omega)
    generalize F.getD ja 0 = x at *
    rcases hp with rfl | rfl
    all_goals
      go_enter Try.func110, Try.ntmps110
      go_wp2
      go_ret
      exact ⟨ret_int HS.out.symm, hb⟩
  · have HS : Hid (soI 3 ka kb party F = 1 - party) := rfl
    rcases hp with rfl | rfl
    all_goals
      go_enter Try.func110, Try.ntmps110
      go_wp2
      go_ret
      exact ⟨ret_int HS.out.symm, hb⟩
set_option maxHeartbeats 4000000 in
set_option maxRecDepth 100000 in
theorem sbLocal_any (kd ka kb party : Int) (a : Option Addr) (n c : Nat) (F : List Int) (w : World) (h : Ints w a n c F) (hg : goB kd ka kb n) (hp : party = 0 ∨ party = 1) :
    Calls Try.prog 105 #[.int .i64 party, .agg #[.int .i64 kd, .int .i64 ka, .int .i64 kb], .slice a n c] w fun e w' => e = .returned (.int .i64 (soI kd ka kb party F)) ∧ Below w.heap.size w w' := by
  have hle := h.le
  have hb : Below w.heap.size w (w.alloc (.cells #[.int .i64 kd, .int .i64 ka, .int .i64 kb] 87)) := (Below.refl _ _).alloc (Nat.le_refl _) _
  rcases hg with ⟨rfl, ⟨a0, a1⟩, b0, b1⟩ | ⟨rfl, a0, a1⟩ | rfl
  · obtain ⟨ja, rfl⟩ : ∃ k : Nat, ka = k := ⟨ka.toNat, by omega⟩
    obtain ⟨jb, rfl⟩ : ∃ k : Nat, kb = k := ⟨kb.toNat, by omega⟩
    have HS : Hid (soI 0 (ja : Int) (jb : Int) party F = xorI (F.getD ja 0) (F.getD jb 0)) := rfl
    obtain ⟨g, o, rfl, e0⟩ := (h.alloc (.cells #[.int .i64 0, .int .i64 (ja : Int), .int .i64 (jb : Int)] 87)).at ja (by omega)
    obtain ⟨_, _, E, e1⟩ := (h.alloc (.cells #[.int .i64 0, .int .i64 (ja : Int), .int .i64 (jb : Int)] 87)).at jb (by omega)
    cases E
    have hx : bits BinOp.xor IntKind.i64 (F.getD ja 0) (F.getD jb 0) = xorI (F.getD ja 0) (F.getD jb 0) := rfl
    generalize F.getD ja 0 = x at *
    generalize F.getD jb 0 = y at *
    go_enter Try.func105, Try.ntmps105
    go_wp2
    go_quiet (fail)
    go_wp2
    go_ret
    exact ⟨ret_int HS.out.symm, hb.trans (below_drewN (Below.refl _ _) _)⟩
  · obtain ⟨ja, rfl⟩ : ∃ k : Nat, ka = k := ⟨ka.toNat, by omega⟩
    have HS : Hid (soI 2 (ja : Int) kb party F = xorI (F.getD ja 0) (1 - party)) := rfl
    obtain ⟨g, o, rfl, e0⟩ := (h.alloc (.cells #[.int .i64 2, .int .i64 (ja : Int), .int .i64 kb] 87)).at ja (by omega)
    generalize F.getD ja 0 = x at *
    rcases hp with rfl | rfl
    all_goals
      go_enter Try.func105, Try.ntmps105
      go_wp2
      go_ret
      exact ⟨ret_int HS.out.symm, hb⟩
  · have HS : Hid (soI 3 ka kb party F = 1 - party) := rfl
    rcases hp with rfl | rfl
    all_goals
      go_enter Try.func105, Try.ntmps105
      go_wp2
      go_ret
      exact ⟨ret_int HS.out.symm, hb⟩
theorem an_zero {x y : Int} (hx : x = 0 ∨ x = 1) (hy : y = 0 ∨ y = 1) : bits BinOp.xor IntKind.i64 x (bits BinOp.and IntKind.i64 y 0) = x := by
  rcases hx with rfl | rfl <;> rcases hy with rfl | rfl <;> decide
theorem an_one {y : Int} (hy : y = 0 ∨ y = 1) : bits BinOp.and IntKind.i64 y 1 = y := by rcases hy with rfl | rfl <;> decide
set_option maxHeartbeats 4000000 in
set_option maxRecDepth 100000 in
theorem andShare_any (party d e' : Int) (a : Option Addr) (c : Nat) (s : List Int) (w : World) (h : Ints w a 3 c s) (hs : Bt s) (hd : d = 0 ∨ d = 1) (he : e' = 0 ∨ e' = 1) (hp : party = 0 ∨ party = 1) :
    Calls Try.prog 112 #[.int .i64 party, .slice a 3 c, .int .i64 d, .int .i64 e'] w fun e w' => e = .returned (.int .i64 (anI party s d e')) ∧ ∃ m, w' = w.drewN m := by
  have b0 := hs.at 0
  have b1 := hs.at 1
  have b2 := hs.at 2
  obtain ⟨g, o, rfl, e0⟩ := h.at 0 (by omega)
  obtain ⟨_, _, E, e1⟩ := h.at 1 (by omega)
  cases E
  obtain ⟨_, _, E, e2⟩ := h.at 2 (by omega)
  cases E
  rw [Nat.add_zero] at e0
  have H0 : Hid (anI 0 s d e' = xorI (xorI (xorI (s.getD 2 0) (andI d (s.getD 1 0))) (andI e' (s.getD 0 0))) (andI d e')) := rfl
  have H1 : Hid (anI 1 s d e' = xorI (xorI (s.getD 2 0) (andI d (s.getD 1 0))) (andI e' (s.getD 0 0))) := rfl
  generalize s.getD 0 0 = s0 at *
  generalize s.getD 1 0 = s1 at *
  generalize s.getD 2 0 = s2 at *
  have y1 : bits BinOp.and IntKind.i64 d s1 = andI d s1 := rfl
  have y2 : bits BinOp.xor IntKind.i64 s2 (andI d s1) = xorI s2 (andI d s1) := rfl
  have y3 : bits BinOp.and IntKind.i64 e' s0 = andI e' s0 := rfl
  have y4 : bits BinOp.xor IntKind.i64 (xorI s2 (andI d s1)) (andI e' s0) = xorI (xorI s2 (andI d s1)) (andI e' s0) := rfl
  have y5 : bits BinOp.and IntKind.i64 d e' = andI d e' := rfl
  have h4 := xorI_bit (xorI_bit b2 (andI_bit hd b1)) (andI_bit he b0)
  have h5 := andI_bit hd he
  have y6 := an_one h5
  have y7 := an_zero h4 h5
  have y8 : bits BinOp.xor IntKind.i64 (xorI (xorI s2 (andI d s1)) (andI e' s0)) (andI d e') = xorI (xorI (xorI s2 (andI d s1)) (andI e' s0)) (andI d e') := rfl
  generalize xorI (xorI (xorI s2 (andI d s1)) (andI e' s0)) (andI d e') = X0 at *
  generalize xorI (xorI s2 (andI d s1)) (andI e' s0) = X1 at *
  generalize xorI s2 (andI d s1) = X2 at *
  generalize andI d s1 = X3 at *
  generalize andI e' s0 = X4 at *
  generalize andI d e' = X5 at *
  clear b0 b1 b2 h4 h5 hs hd he h
  rcases hp with rfl | rfl
  all_goals
    go_enter Try.func112, Try.ntmps112
    go_wp2
    go_quiet (fail)
    go_wp2
    go_ret
    first | exact ⟨ret_int H0.out.symm, _, rfl⟩ | exact ⟨ret_int H1.out.symm, _, rfl⟩
set_option maxHeartbeats 4000000 in
set_option maxRecDepth 100000 in
theorem sbAnd_any (party d e' : Int) (a : Option Addr) (c : Nat) (s : List Int) (w : World) (h : Ints w a 3 c s) (hp : party = 0 ∨ party = 1) :
    Calls Try.prog 107 #[.int .i64 party, .slice a 3 c, .int .i64 d, .int .i64 e'] w fun e w' => e = .returned (.int .i64 (anI party s d e')) ∧ ∃ m, w' = w.drewN m := by
  obtain ⟨g, o, rfl, e0⟩ := h.at 0 (by omega)
  obtain ⟨_, _, E, e1⟩ := h.at 1 (by omega)
  cases E
  obtain ⟨_, _, E, e2⟩ := h.at 2 (by omega)
  cases E
  rw [Nat.add_zero] at e0
  have H0 : Hid (anI 0 s d e' = xorI (xorI (xorI (s.getD 2 0) (andI d (s.getD 1 0))) (andI e' (s.getD 0 0))) (andI d e')) := rfl
  have H1 : Hid (anI 1 s d e' = xorI (xorI (s.getD 2 0) (andI d (s.getD 1 0))) (andI e' (s.getD 0 0))) := rfl
  generalize s.getD 0 0 = s0 at *
  generalize s.getD 1 0 = s1 at *
  generalize s.getD 2 0 = s2 at *
  have y1 : bits BinOp.and IntKind.i64 d s1 = andI d s1 := rfl
  have y2 : bits BinOp.xor IntKind.i64 s2 (andI d s1) = xorI s2 (andI d s1) := rfl
  have y3 : bits BinOp.and IntKind.i64 e' s0 = andI e' s0 := rfl
  have y4 : bits BinOp.xor IntKind.i64 (xorI s2 (andI d s1)) (andI e' s0) = xorI (xorI s2 (andI d s1)) (andI e' s0) := rfl
  have y5 : bits BinOp.and IntKind.i64 d e' = andI d e' := rfl
  have y8 : bits BinOp.xor IntKind.i64 (xorI (xorI s2 (andI d s1)) (andI e' s0)) (andI d e') = xorI (xorI (xorI s2 (andI d s1)) (andI e' s0)) (andI d e') := rfl
  generalize xorI (xorI (xorI s2 (andI d s1)) (andI e' s0)) (andI d e') = X0 at *
  generalize xorI (xorI s2 (andI d s1)) (andI e' s0) = X1 at *
  generalize xorI s2 (andI d s1) = X2 at *
  generalize andI d s1 = X3 at *
  generalize andI e' s0 = X4 at *
  generalize andI d e' = X5 at *
  clear h
  rcases hp with rfl | rfl
  all_goals
    go_enter Try.func107, Try.ntmps107
    go_wp2
    go_quiet (fail)
    go_wp2
    go_ret
    first | exact ⟨ret_int H0.out.symm, _, rfl⟩ | exact ⟨ret_int H1.out.symm, _, rfl⟩
end Go.Proofs.Ytkbhigdciokfkaa
namespace Go.Proofs.Ytkbhigdciokfkaa
open Go.RowKit
theorem adS_good {B u v : Int} {f : Bool} {G : List Int} {q : List Int × List Int × Int} (g : Gd B q.1) (m : Mo B G q.1) (r : Ws B q.1 q.2.1) (wx : Wr B q.1 u) (wy : Wr B q.1 v) (wc : f = false → Wr B q.1 q.2.2) :
    Gd B (adS B u v f q).1 ∧ Mo B G (adS B u v f q).1 ∧ Ws B (adS B u v f q).1 (adS B u v f q).2.1 ∧ Wr B (adS B u v f q).1 (adS B u v f q).2.2 := by
  obtain ⟨Q, o, c⟩ := q
  simp only at *
  cases f
  · have wc := wc rfl
    unfold adS
    simp only [Bool.false_eq_true, if_false]
    have m1 := Mo.gt B Q 0 u c
    have n1 := Wr.new (G := Q) g.1 0 u c
    have g1 := g.xor wx wc
    have g2 := g1.xor (m1.wr wy) (m1.wr wc)
    have m2 := m1.trans (Mo.gt B (gt Q 0 u c) 0 v c)
    have n2 := Wr.new (G := gt Q 0 u c) g.1 0 v c
    have k2 := Mo.gt B (gt Q 0 u c) 0 v c
    generalize hG2 : gt (gt Q 0 u c) 0 v c = Q2 at *
    have g3 := g2.xor (k2.wr n1) (m2.wr wy)
    have k3 := Mo.gt B Q2 0 (gW B Q) v
    have n3 := Wr.new (G := Q2) g.1 0 (gW B Q) v
    generalize hG3 : gt Q2 0 (gW B Q) v = Q3 at *
    have g4 := g3.and ((k2.trans k3).wr n1) (k3.wr n2)
    have k4 := Mo.gt B Q3 1 (gW B Q) (gW B (gt Q 0 u c))
    have n4 := Wr.new (G := Q3) g.1 1 (gW B Q) (gW B (gt Q 0 u c))
    generalize hG4 : gt Q3 1 (gW B Q) (gW B (gt Q 0 u c)) = Q4 at *
    have m4 := m2.trans (k3.trans k4)
    have g5 := g4.xor n4 (m4.wr wc)
    have k5 := Mo.gt B Q4 0 (gW B Q3) c
    have n5 := Wr.new (G := Q4) g.1 0 (gW B Q3) c
    exact ⟨g5, m.trans (m4.trans k5), ((m4.trans k5).ws r).app (Ws.one ((k4.trans k5).wr n3)), n5⟩
  · unfold adS
    simp only [if_true]
    have m1 := Mo.gt B Q 0 u v
    have n1 := Wr.new (G := Q) g.1 0 u v
    have g2 := (g.xor wx wy).and (m1.wr wx) (m1.wr wy)
    have k2 := Mo.gt B (gt Q 0 u v) 1 u v
    have n2 := Wr.new (G := gt Q 0 u v) g.1 1 u v
    exact ⟨g2, m.trans (m1.trans k2), ((m1.trans k2).ws r).app (Ws.one (k2.wr n1)), n2⟩
theorem adG_good {B : Int} {x y G : List Int} (h : Gd B G) (hx : Ws B G x) (hy : Ws B G y) (n : Nat) (h1 : n ≤ x.length) (h2 : n ≤ y.length) :
    Gd B (adG B x y G n).1 ∧ Mo B G (adG B x y G n).1 ∧ Ws B (adG B x y G n).1 (adG B x y G n).2.1 ∧ (0 < n → Wr B (adG B x y G n).1 (adG B x y G n).2.2) := by
  induction n with
  | zero => exact ⟨h, Mo.refl _ _, Ws.nil _ _, fun h => absurd h (by omega)⟩
  | succ n ih =>
    obtain ⟨g, m, r, c⟩ := ih (by omega) (by omega)
    rw [adG_succ]
    obtain ⟨a1, a2, a3, a4⟩ := adS_good g m r (m.wr (hx.at n (by omega))) (m.wr (hy.at n (by omega))) (f := n == 0) (fun e => c (by cases n with | zero => cases e | succ n => omega))
    exact ⟨a1, a2, a3, fun _ => a4⟩
theorem suS_good {B u v : Int} {f : Bool} {G : List Int} {q : List Int × List Int × Int} (g : Gd B q.1) (m : Mo B G q.1) (r : Ws B q.1 q.2.1) (wx : Wr B q.1 u) (wy : Wr B q.1 v) (wc : f = false → Wr B q.1 q.2.2) :
    Gd B (suS B u v f q).1 ∧ Mo B G (suS B u v f q).1 ∧ Ws B (suS B u v f q).1 (suS B u v f q).2.1 ∧ Wr B (suS B u v f q).1 (suS B u v f q).2.2 := by
  obtain ⟨Q, o, c⟩ := q
  simp only at *
  cases f
  · have wc := wc rfl
    unfold suS
    simp only [Bool.false_eq_true, if_false]
    have m1 := Mo.gt B Q 0 u c
    have n1 := Wr.new (G := Q) g.1 0 u c
    have g1 := g.xor wx wc
    have g2 := g1.xor (m1.wr wy) (m1.wr wc)
    have m2 := m1.trans (Mo.gt B (gt Q 0 u c) 0 v c)
    have n2 := Wr.new (G := gt Q 0 u c) g.1 0 v c
    have k2 := Mo.gt B (gt Q 0 u c) 0 v c
    generalize hG2 : gt (gt Q 0 u c) 0 v c = Q2 at *
    have g3 := g2.xor (k2.wr n1) (m2.wr wy)
    have k3 := Mo.gt B Q2 0 (gW B Q) v
    have n3 := Wr.new (G := Q2) g.1 0 (gW B Q) v
    generalize hG3 : gt Q2 0 (gW B Q) v = Q3 at *
    have g4 := g3.not ((k2.trans k3).wr n1)
    have k4 := Mo.gt B Q3 2 (gW B Q) 0
    have n4 := Wr.new (G := Q3) g.1 2 (gW B Q) 0
    generalize hG4 : gt Q3 2 (gW B Q) 0 = Q4 at *
    have g5 := g4.and n4 ((k3.trans k4).wr n2)
    have k5 := Mo.gt B Q4 1 (gW B Q3) (gW B (gt Q 0 u c))
    have n5 := Wr.new (G := Q4) g.1 1 (gW B Q3) (gW B (gt Q 0 u c))
    generalize hG5 : gt Q4 1 (gW B Q3) (gW B (gt Q 0 u c)) = Q5 at *
    have m5 := m2.trans (k3.trans (k4.trans k5))
    have g6 := g5.xor n5 (m5.wr wc)
    have k6 := Mo.gt B Q5 0 (gW B Q4) c
    have n6 := Wr.new (G := Q5) g.1 0 (gW B Q4) c
    exact ⟨g6, m.trans (m5.trans k6), ((m5.trans k6).ws r).app (Ws.one ((k4.trans (k5.trans k6)).wr n3)), n6⟩
  · unfold suS
    simp only [if_true]
    have m1 := Mo.gt B Q 0 u v
    have n1 := Wr.new (G := Q) g.1 0 u v
    have k2 := Mo.gt B (gt Q 0 u v) 2 u 0
    have n2 := Wr.new (G := gt Q 0 u v) g.1 2 u 0
    have g2 := (g.xor wx wy).not (m1.wr wx)
    have g3 := g2.and n2 ((m1.trans k2).wr wy)
    have k3 := Mo.gt B (gt (gt Q 0 u v) 2 u 0) 1 (gW B (gt Q 0 u v)) v
    have n3 := Wr.new (G := gt (gt Q 0 u v) 2 u 0) g.1 1 (gW B (gt Q 0 u v)) v
    exact ⟨g3, m.trans (m1.trans (k2.trans k3)), ((m1.trans (k2.trans k3)).ws r).app (Ws.one ((k2.trans k3).wr n1)), n3⟩
theorem suG_good {B : Int} {x y G : List Int} (h : Gd B G) (hx : Ws B G x) (hy : Ws B G y) (n : Nat) (h1 : n ≤ x.length) (h2 : n ≤ y.length) :
    Gd B (suG B x y G n).1 ∧ Mo B G (suG B x y G n).1 ∧ Ws B (suG B x y G n).1 (suG B x y G n).2.1 ∧ (0 < n → Wr B (suG B x y G n).1 (suG B x y G n).2.2) := by
  induction n with
  | zero => exact ⟨h, Mo.refl _ _, Ws.nil _ _, fun h => absurd h (by omega)⟩
  | succ n ih =>
    obtain ⟨g, m, r, c⟩ := ih (by omega) (by omega)
    rw [suG_succ]
    obtain ⟨a1, a2, a3, a4⟩ := suS_good g m r (m.wr (hx.at n (by omega))) (m.wr (hy.at n (by omega))) (f := n == 0) (fun e => c (by cases n with | zero => cases e | succ n => omega))
    exact ⟨a1, a2, a3, fun _ => a4⟩
theorem coL_ws {B z x : Int} {G : List Int} (n : Nat) (h1 : Wr B G z) (h2 : Wr B G (z - 1)) : Ws B G (coL z x n) := fun y hy => by
  simp only [coL, List.mem_map, List.mem_range] at hy
  obtain ⟨i, hi, rfl⟩ := hy
  have : x / 2 ^ i % 2 = 0 ∨ x / 2 ^ i % 2 = 1 := by omega
  rcases this with e | e
  · rw [e, Int.sub_zero]; exact h1
  · rw [e]; exact h2
end Go.Proofs.Ytkbhigdciokfkaa
namespace Go.Proofs.Ytkbhigdciokfkaa
open Go.RowKit
theorem bitsFrom_n (a : Option Addr) (m c : Nat) (l : List Int) (N : Nat) (w : World) (h : Ints w a m c l) (hs : m ≤ 900000) (hw : WB l) (hN : N ≤ 1000000) :
    Calls Try.prog 140 #[.slice a m c, .int .i64 N] w fun e w' => ∃ a' c', e = .returned (.slice a' N c') ∧ Own w' w.heap.size a' N c' (bitsI l N) ∧ Below w.heap.size w w' := by
  have h2 := bitsFrom_any a m c l (N : Int) w h hs hw (by omega) (by omega)
  rw [Int.toNat_natCast] at h2
  exact h2
theorem dgBits_n (a : Option Addr) (m c : Nat) (l : List Int) (N : Nat) (w : World) (h : Ints w a m c l) (hs : m ≤ 900000) (hw : WB l) (hN : N ≤ 1000000) :
    Calls Try.prog 137 #[.slice a m c, .int .i64 N] w fun e w' => ∃ a' c', e = .returned (.slice a' N c') ∧ Own w' w.heap.size a' N c' (bitsI l N) ∧ Below w.heap.size w w' := by
  have h2 := dgBits_any a m c l (N : Int) w h hs hw (by omega) (by omega)
  rw [Int.toNat_natCast] at h2
  exact h2
theorem ints2 {w : World} {b : Nat} {x y : Int} (h0 : w.cell? ⟨b, 0, none⟩ = some (.int .i64 x)) (h1 : w.cell? ⟨b, 1, none⟩ = some (.int .i64 y)) : Ints w (some ⟨b, 0, none⟩) 2 2 [x, y] :=
  ⟨rfl, Nat.le_refl _, by unfold maxLen; omega, (fun e => by cases e), b, 0, fun _ => rfl, fun i hi => by
    rcases (by omega : i = 0 ∨ i = 1) with rfl | rfl
    · exact h0
    · exact h1⟩
/-- The shares of all inputs. -/
def siF (key : Int) (A : List Int) (i0 i1 : Nat) : List Int := xrL A (bitsI [key, 221] i0) i0 ++ bitsI [key, 222] i1
def siS (key : Int) (B : List Int) (i0 i1 : Nat) : List Int := bitsI [key, 221] i0 ++ xrL B (bitsI [key, 222] i1) i1
theorem siF_len (key : Int) (A : List Int) (i0 i1 : Nat) : (siF key A i0 i1).length = i0 + i1 := by unfold siF; rw [List.length_append, xrL_len, bitsI_len]
theorem siS_len (key : Int) (B : List Int) (i0 i1 : Nat) : (siS key B i0 i1).length = i0 + i1 := by unfold siS; rw [List.length_append, xrL_len, bitsI_len]
theorem siF_bits {key : Int} {A : List Int} (h : Bt A) (i0 i1 : Nat) : Bt (siF key A i0 i1) := (xrL_bits h (bitsI_bits _ _) _).app (bitsI_bits _ _)
theorem siS_bits {key : Int} {B : List Int} (h : Bt B) (i0 i1 : Nat) : Bt (siS key B i0 i1) := (bitsI_bits _ _).app (xrL_bits h (bitsI_bits _ _) _)
theorem disj_new {w1 w2 : World} {b1 b2 : Nat} {a1 a2 : Option Addr} {n1 c1 n2 c2 : Nat} {l1 l2 : List Int} (h1 : Own w1 b1 a1 n1 c1 l1) (h2 : Own w2 b2 a2 n2 c2 l2) (hb : w1.heap.size ≤ b2) : Disj (foot a1 c1) (foot a2 c2) := fun q hq hq' => by
  have := (h1.feet q hq).2
  have := (h2.feet q hq').1
  omega
set_option maxHeartbeats 4000000 in
set_option maxRecDepth 100000 in
theorem shareInputs_any (i0 i1 : Nat) (ga : Option Addr) (gn gc : Nat) (oa : Option Addr) (on oc : Nat) (key : Int) (aa : Option Addr) (ac : Nat) (A : List Int) (ba : Option Addr) (bc : Nat) (B : List Int) (w : World) (hA : Ints w aa i0 ac A) (hB : Ints w ba i1 bc B)
    (hk : 0 ≤ key) (hk2 : key ≤ 1000000000) (h0 : i0 ≤ 1000) (h1 : i1 ≤ 1000) :
    Calls Try.prog 109 #[.agg #[.int .i64 i0, .int .i64 i1, .slice ga gn gc, .slice oa on oc], .int .i64 key, .slice aa i0 ac, .slice ba i1 bc] w fun e w' => ∃ a1 c1 a2 c2, e = .returned (.tuple #[.slice a1 (i0 + i1) c1, .slice a2 (i0 + i1) c2]) ∧
      Own w' w.heap.size a1 (i0 + i1) c1 (siF key A i0 i1) ∧ Own w' w.heap.size a2 (i0 + i1) c2 (siS key B i0 i1) ∧ Disj (foot a1 c1) (foot a2 c2) ∧ Below w.heap.size w w' := by
  have V0 : Below w.heap.size w (w.alloc (.cells #[.int .i64 i0, .int .i64 i1, .slice ga gn gc, .slice oa on oc] 25)) := (Below.refl _ _).alloc (Nat.le_refl _) _
  have B0 : Blk (w.alloc (.cells #[.int .i64 i0, .int .i64 i1, .slice ga gn gc, .slice oa on oc] 25)) w.heap.size 25 #[.int .i64 i0, .int .i64 i1, .slice ga gn gc, .slice oa on oc] := Blk.new w _ _
  go_enter Try.func109, Try.ntmps109
  go_upto_region 1 with fail
  generalize (w.alloc (.cells #[.int .i64 i0, .int .i64 i1, .slice ga gn gc, .slice oa on oc] 25)) = w0 at *
  have x0 : w0.cell? ⟨w.heap.size, 0, none⟩ = some (.int .i64 i0) := B0.cell 0
  have x0' := keepA (.cells #[.int .i64 key, .int .i64 221] 3) x0
  go_wp2_with fail
  clear x0 x0'
  refine (bitsFrom_n _ _ _ [key, 221] i0 _ (Ints.lit _ [key, 221] _ (by simp [maxLen])) (by simp) (WB.two (by omega) (by omega)) (by omega)).mono ?_; rintro e w1 ⟨a1, c1, rfl, o1, u1⟩
  have v1 := below_a1 u1
  have B1 := B0.below v1
  have V1 := V0.trans (v1.mono V0.size)
  have p1 := o1.lower (b' := w.heap.size) (by have := V0.size; simp; omega)
  have x1 := B1.cell 1
  have x1' : w1.cell? ⟨w.heap.size, 1, none⟩ = some (.int .i64 i1) := x1
  have x2 := keepA (.cells #[.int .i64 key, .int .i64 222] 3) x1'
  clear u1 v1 x1 B1 B0 o1
  go_wp2_with fail
  refine (bitsFrom_n _ _ _ [key, 222] i1 _ (Ints.lit _ [key, 222] _ (by simp [maxLen])) (by simp) (WB.two (by omega) (by omega)) (by omega)).mono ?_; rintro e w2 ⟨a2, c2, rfl, o2, u2⟩
  have v2 := below_a1 u2
  have p1' := p1.below v2
  have V2 := V1.trans (v2.mono V1.size)
  have D12 := disj_new p1 o2 (by simp)
  have p2 := o2.lower (b' := w.heap.size) (by have := V1.size; simp; omega)
  clear u2 v2 x1' x2 o2 p1
  go_wp2_with fail
  refine (xored_any _ _ _ A _ _ _ _ _ (hA.below V2) p1'.ints (Nat.le_refl _) (by omega)).mono ?_; rintro e w3 ⟨a3, c3, rfl, o3, u3⟩
  have q1 := p1'.below u3
  have q2 := p2.below u3
  have V3 := V2.trans (u3.mono V2.size)
  have D13 := disj_new p1' o3 (Nat.le_refl _)
  have D23 := disj_new p2 o3 (Nat.le_refl _)
  have q3 := o3.lower (b' := w.heap.size) V2.size
  clear u3 p1' p2 o3
  go_wp2_with (at_builtin; refine wpList_appJ _ rfl _ _ rfl w.heap.size a3 i0 c3 _ rfl q3 _ i1 c2 _ rfl q2.ints (by omega) V3.size ?_)
  intro a4 c4 w4 o4 u4 g4 m4
  have r1 := q1.only (Only.of_grown g4) D13
  have r2 := q2.only (Only.of_grown g4) D23
  have D14 := (m4.disj D13.symm (fun q hq => (q1.feet q hq).2)).symm
  have D24 := (m4.disj D23.symm (fun q hq => (q2.feet q hq).2)).symm
  have V4 := V3.trans u4
  clear q1 q2 q3 u4 g4 m4 D13 D23
  go_wp2_with fail
  refine (xored_any _ _ _ B _ _ _ _ _ (hB.below V4) r2.ints (Nat.le_refl _) (by omega)).mono ?_; rintro e w5 ⟨a5, c5, rfl, o5, u5⟩
  have s1 := r1.below u5
  have s4 := o4.below u5
  have V5 := V4.trans (u5.mono V4.size)
  have q5 := o5.lower (b' := w.heap.size) V4.size
  clear u5 r1 r2 o4 o5
  go_wp2_with (at_builtin; refine wpList_appJ _ rfl _ _ rfl w.heap.size a1 i0 c1 _ rfl s1 _ i1 c5 _ rfl q5.ints (by omega) V5.size ?_)
  intro a6 c6 w6 o6 u6 g6 m6
  have t4 := s4.only (Only.of_grown g6) D14.symm
  have D46 := (m6.disj D14 (fun q hq => (s4.feet q hq).2)).symm
  have V6 := V5.trans u6
  clear s1 s4 q5 u6 g6 m6
  go_wp2
  go_ret2
  exact ⟨_, _, _, _, rfl, t4, o6, D46, V6⟩
set_option maxHeartbeats 4000000 in
set_option maxRecDepth 100000 in
theorem sbInputs_any (i0 i1 : Nat) (ga : Option Addr) (gn gc : Nat) (oa : Option Addr) (on oc : Nat) (key : Int) (aa : Option Addr) (ac : Nat) (A : List Int) (ba : Option Addr) (bc : Nat) (B : List Int) (w : World) (hA : Ints w aa i0 ac A) (hB : Ints w ba i1 bc B)
    (hk : 0 ≤ key) (hk2 : key ≤ 1000000000) (h0 : i0 ≤ 1000) (h1 : i1 ≤ 1000) :
    Calls Try.prog 104 #[.agg #[.int .i64 i0, .int .i64 i1, .slice ga gn gc, .slice oa on oc], .int .i64 key, .slice aa i0 ac, .slice ba i1 bc] w fun e w' => ∃ a1 c1 a2 c2, e = .returned (.tuple #[.slice a1 (i0 + i1) c1, .slice a2 (i0 + i1) c2]) ∧
      Own w' w.heap.size a1 (i0 + i1) c1 (siF key A i0 i1) ∧ Own w' w.heap.size a2 (i0 + i1) c2 (siS key B i0 i1) ∧ Disj (foot a1 c1) (foot a2 c2) ∧ Below w.heap.size w w' := by
  have V0 : Below w.heap.size w (w.alloc (.cells #[.int .i64 i0, .int .i64 i1, .slice ga gn gc, .slice oa on oc] 25)) := (Below.refl _ _).alloc (Nat.le_refl _) _
  have B0 : Blk (w.alloc (.cells #[.int .i64 i0, .int .i64 i1, .slice ga gn gc, .slice oa on oc] 25)) w.heap.size 25 #[.int .i64 i0, .int .i64 i1, .slice ga gn gc, .slice oa on oc] := Blk.new w _ _
  go_enter Try.func104, Try.ntmps104
  go_upto_region 1 with fail
  generalize (w.alloc (.cells #[.int .i64 i0, .int .i64 i1, .slice ga gn gc, .slice oa on oc] 25)) = w0 at *
  have x0 : w0.cell? ⟨w.heap.size, 0, none⟩ = some (.int .i64 i0) := B0.cell 0
  have x1 : w0.cell? ⟨w.heap.size, 1, none⟩ = some (.int .i64 i1) := B0.cell 1
  go_cut [10, 11] (fun s10 s11 wx => ∃ a1 c1 a2 c2, s10 = .slice a1 i0 c1 ∧ s11 = .slice a2 i1 c2 ∧ Own wx w.heap.size a1 i0 c1 (bitsI [key, 221] i0) ∧ Own wx w.heap.size a2 i1 c2 (bitsI [key, 222] i1) ∧ Disj (foot a1 c1) (foot a2 c2) ∧ Below w.heap.size w wx)
  case first =>
    have hz : w.heap.size < w0.heap.size := B0.lt
    go_region_held3 (fun W => W.cell? ⟨w.heap.size, 0, none⟩ = some (.int .i64 i0) ∧ W.cell? ⟨w.heap.size, 1, none⟩ = some (.int .i64 i1))
      (first | exact ⟨keepC u1 (keepA _ x0), keepC u1 (keepA _ x1)⟩ | exact ⟨keepC u1 (keepA _ (keepA _ x0)), keepC u1 (keepA _ (keepA _ x1))⟩ | exact ⟨keepA _ (keepC u1 (keepA _ x0)), keepA _ (keepC u1 (keepA _ x1))⟩ | exact ⟨keepC u2 (keepC u1 (keepA _ (keepA _ x0))), keepC u2 (keepC u1 (keepA _ (keepA _ x1)))⟩ | exact ⟨keepC u2 (keepA _ (keepC u1 (keepA _ x0))), keepC u2 (keepA _ (keepC u1 (keepA _ x1)))⟩ | go_keep)
      (first | (go_at_call 137; have _ := u1; refine (dgBits_n _ _ _ [key, 222] i1 _ (by first | exact ints2 (keepC u1 (by simp)) (keepC u1 (by simp)) | exact ints2 (by simp) (by simp)) (by simp) (WB.two (by omega) (by omega)) (by omega)).mono ?_; rintro e w2 ⟨a2, c2, rfl, o2, u2⟩) | (go_at_call 137; refine (dgBits_n _ _ _ [key, 221] i0 _ (ints2 (by simp) (by simp)) (by simp) (WB.two (by omega) (by omega)) (by omega)).mono ?_; rintro e w1 ⟨a1, c1, rfl, o1, u1⟩))
    all_goals first
      | (have U1 : Below w0.heap.size w0 w1 := ((Below.refl w0.heap.size w0).alloc (Nat.le_refl _) (.cells #[.int .i64 key, .int .i64 221] 3)).drew.trans (u1.mono (by simp)); have U2 := below_a1 u2; have D := disj_new o1 o2 (by simp); have q1 := (o1.lower (b' := w.heap.size) (by simp; omega)).below U2; have q2 := o2.lower (b' := w.heap.size) (by have := U1.size; simp; omega))
      | (have U1 : Below w0.heap.size w0 w1 := (((Below.refl w0.heap.size w0).alloc (Nat.le_refl _) (.cells #[.int .i64 key, .int .i64 221] 3)).alloc (by simp) (.cells #[.int .i64 key, .int .i64 222] 3)).drew.trans (u1.mono (by simp; omega)); have U2 := u2; have D := disj_new o1 o2 (Nat.le_refl _); have q1 := (o1.lower (b' := w.heap.size) (by simp; omega)).below U2; have q2 := o2.lower (b' := w.heap.size) (by have := U1.size; omega))
      | (have U1 : Below w0.heap.size w0 w1 := (((Below.refl w0.heap.size w0).alloc (Nat.le_refl _) (.cells #[.int .i64 key, .int .i64 222] 3)).alloc (by simp) (.cells #[.int .i64 key, .int .i64 221] 3)).drew.trans (u1.mono (by simp; omega)); have U2 := u2; have D := disj_new o1 o2 (Nat.le_refl _); have q1 := (o1.lower (b' := w.heap.size) (by simp; omega)).below U2; have q2 := o2.lower (b' := w.heap.size) (by have := U1.size; omega))
    all_goals have V := V0.trans ((U1.trans (U2.mono U1.size)).mono V0.size)
    all_goals have HX := Lib.hid (And.intro q1 (And.intro q2 (And.intro D V)))
    all_goals clear u1 u2 o1 o2 U1 U2 q1 q2 D V
    all_goals go_wp2_with fail
    all_goals go_meet
    all_goals exact ⟨_, _, _, _, rfl, rfl, HX.out⟩
  case rest =>
    rename World => w2
    obtain ⟨a1, c1, a2, c2, rfl, rfl, p1', p2, D12, V2⟩ := hcut
    clear x0 x1 B0 V0
    go_wp2_with fail
    refine (btXor_any _ _ _ A _ _ _ _ _ (hA.below V2) p1'.ints (Nat.le_refl _) (by omega)).mono ?_; rintro e w3 ⟨a3, c3, rfl, o3, u3⟩
    have q1 := p1'.below u3
    have q2 := p2.below u3
    have V3 := V2.trans (u3.mono V2.size)
    clear p1' p2
    go_wp2_with fail
    refine (ciJoin_any _ _ _ _ _ _ _ _ _ o3.ints q2.ints (by omega) (by omega)).mono ?_; rintro e w4 ⟨a4, c4, rfl, o4, u4⟩
    have r1 := q1.below u4
    have r2 := q2.below u4
    have V4 := V3.trans (u4.mono V3.size)
    have p4 := o4.lower (b' := w.heap.size) V3.size
    clear q1 q2 o3 u3 u4 o4
    go_wp2_with fail
    refine (btXor_any _ _ _ B _ _ _ _ _ (hB.below V4) r2.ints (Nat.le_refl _) (by omega)).mono ?_; rintro e w5 ⟨a5, c5, rfl, o5, u5⟩
    have s1 := r1.below u5
    have s4 := p4.below u5
    have V5 := V4.trans (u5.mono V4.size)
    clear r1 r2 p4
    go_wp2_with fail
    refine (ciJoin_any _ _ _ _ _ _ _ _ _ s1.ints o5.ints (by omega) (by omega)).mono ?_; rintro e w6 ⟨a6, c6, rfl, o6, u6⟩
    have t4 := s4.below u6
    have D46 := disj_new s4 o6 (Nat.le_refl _)
    have V6 := V5.trans (u6.mono V5.size)
    have q6 := o6.lower (b' := w.heap.size) V5.size
    clear s1 s4 o5 u5 u6 o6
    go_wp2
    go_ret2
    exact ⟨_, _, _, _, rfl, t4, q6, D46, V6⟩
end Go.Proofs.Ytkbhigdciokfkaa
namespace Go.Proofs.Ytkbhigdciokfkaa
open Go.RowKit
def eOpened : TypeId := 97
theorem info_Opened : (Try.prog.info? 97).map (fun i => (i.zero, i.size, i.bytes)) = some (some (.agg #[.int .i64 0, .int .i64 0, .int .i64 0]), 3, 24) := by kernel_rfl
theorem RowC.opened (w : World) (kd ka kb : Int) (e : TypeId) : RowC (w.alloc (.cells #[.int .i64 kd, .int .i64 ka, .int .i64 kb] e)) (some ⟨w.heap.size, 0, none⟩) 1 1 3 [.int .i64 kd, .int .i64 ka, .int .i64 kb] :=
  (OwnC.lit w 0 1 e 3 [.int .i64 kd, .int .i64 ka, .int .i64 kb] (Nat.zero_le _) rfl (by simp [maxLen])).row
theorem run_appO (w : World) (ty : TypeId) (b : Nat) (a : Option Addr) (n c : Nat) (G : List Int) (hown : OwnF 3 eOpened w b a n c G) (a' : Option Addr) (c' : Nat) (kd ka kb : Int) (hrow : RowC w a' 1 c' 3 [.int .i64 kd, .int .i64 ka, .int .i64 kb]) (hlen : n + 1 ≤ 1000000) (hbase : b ≤ w.heap.size) :
    ∃ a2 c2 w', (Builtin.append_ #[67, 67] ty #[.slice a n c, .slice a' 1 c']).run Try.prog w = .ok (.slice a2 (n + 1) c2) w' ∧ OwnF 3 eOpened w' b a2 (n + 1) c2 (G ++ [kd, ka, kb]) ∧ w.grownBy w' (rowOf a c) ∧ Moved w a c a2 c2 := by
  obtain ⟨i0, hi, hz0, hz1, hz2⟩ := info_parts info_Opened
  obtain ⟨a2, c2, w', hrun, h1, h2, _, h9⟩ := run_app2 w 67 ty b 97 i0 (.agg #[.int .i64 0, .int .i64 0, .int .i64 0]) 3 24 Try.underlying67 hi hz0 hz1 hz2 rfl (by decide) a n c _ hown a' 1 c' _ hrow (by
    intro u hu
    simp only [List.mem_cons, List.not_mem_nil, or_false] at hu
    rcases hu with rfl | rfl | rfl <;> rfl) (by omega) (by unfold maxLen; omega) hbase
  exact ⟨a2, c2, w', hrun, by unfold OwnF; rw [List.map_append]; exact h1, h2, h9⟩
theorem wp_appO (w : World) {o : Oper} {act : Act} {K : Act → World → Prop} {Q : Exit → Act → World → Prop} (s x : Operand)
    (ho : o.op = .call { callee := .builtin .append, args := #[s, x], argTypes := #[67, 67] })
    (b : Nat) (a : Option Addr) (n c : Nat) (G : List Int) (hs : act.eval s = .slice a n c) (hown : OwnF 3 eOpened w b a n c G)
    (a' : Option Addr) (c' : Nat) (kd ka kb : Int) (hx : act.eval x = .slice a' 1 c') (hrow : RowC w a' 1 c' 3 [.int .i64 kd, .int .i64 ka, .int .i64 kb])
    (hlen : n + 1 ≤ 1000000) (hbase : b ≤ w.heap.size)
    (h : ∀ a2 c2 w', OwnF 3 eOpened w' b a2 (n + 1) c2 (G ++ [kd, ka, kb]) → w.grownBy w' (rowOf a c) → Moved w a c a2 c2 → K (act.put o.dst (.slice a2 (n + 1) c2)) w') : o.wp Try.prog act w K Q := by
  obtain ⟨a2, c2, w', hrun, h1, h2, h5⟩ := run_appO w o.type b a n c G hown a' c' kd ka kb hrow hlen hbase
  unfold Oper.wp
  simp [execOp, ho, resolve, invoke, builtin, hs, hx, hrun, Result.andThen]
  exact h a2 c2 w' h1 h2 h5
theorem wpList_appO (w : World) {ops : Array Oper} {rest : List Oper} {o : Oper} {act : Act} {Q : Exit → Act → World → Prop} (hgd : o.guard = none) (s x : Operand)
    (ho : o.op = .call { callee := .builtin .append, args := #[s, x], argTypes := #[67, 67] })
    (b : Nat) (a : Option Addr) (n c : Nat) (G : List Int) (hs : act.eval s = .slice a n c) (hown : OwnF 3 eOpened w b a n c G)
    (a' : Option Addr) (c' : Nat) (kd ka kb : Int) (hx : act.eval x = .slice a' 1 c') (hrow : RowC w a' 1 c' 3 [.int .i64 kd, .int .i64 ka, .int .i64 kb])
    (hlen : n + 1 ≤ 1000000) (hbase : b ≤ w.heap.size)
    (h : ∀ a2 c2 w', OwnF 3 eOpened w' b a2 (n + 1) c2 (G ++ [kd, ka, kb]) → w.grownBy w' (rowOf a c) → Moved w a c a2 c2 → wpList Try.prog ops Q rest (act.put o.dst (.slice a2 (n + 1) c2)) w') : wpList Try.prog ops Q (o :: rest) act w :=
  wpList_plain hgd fun _ hK => wp_appO w s x ho b a n c G hs hown a' c' kd ka kb hx hrow hlen hbase fun a2 c2 w' h1 h2 h5 => hK _ _ (h a2 c2 w' h1 h2 h5)
end Go.Proofs.Ytkbhigdciokfkaa
namespace Go.Proofs.Ytkbhigdciokfkaa
open Go.RowKit
abbrev SbT : Type := List Int × List Int × Nat
def sbDd (key : Int) (n : Nat) (F S : List Int) (ka : Int) (j : Nat) : Int := xorI (xorI (xorI (F.getD ka.toNat 0) (S.getD ka.toNat 0)) ((tr1 key n).getD j 0)) ((tr2 key n).getD j 0)
def sbMul (key ka kb : Int) (r : SbT) : SbT := (r.1 ++ [anI 0 (tr1 key r.2.2) (sbDd key r.2.2 r.1 r.2.1 ka 0) (sbDd key r.2.2 r.1 r.2.1 kb 1)], r.2.1 ++ [anI 1 (tr2 key r.2.2) (sbDd key r.2.2 r.1 r.2.1 ka 0) (sbDd key r.2.2 r.1 r.2.1 kb 1)], r.2.2 + 1)
def sbLoc (kd ka kb : Int) (r : SbT) : SbT := (r.1 ++ [soI kd ka kb 0 r.1], r.2.1 ++ [soI kd ka kb 1 r.2.1], r.2.2)
def sbStep (key kd ka kb : Int) (r : SbT) : SbT := if kd = 1 then sbMul key ka kb r else sbLoc kd ka kb r
def sbR (key : Int) (G F0 S0 : List Int) : Nat → SbT
  | 0 => (F0, S0, 0)
  | k + 1 => sbStep key (G.getD (k * 3) 0) (G.getD (k * 3 + 1) 0) (G.getD (k * 3 + 2) 0) (sbR key G F0 S0 k)
theorem sbR_succ (key : Int) (G F0 S0 : List Int) (k : Nat) : sbR key G F0 S0 (k + 1) = sbStep key (G.getD (k * 3) 0) (G.getD (k * 3 + 1) 0) (G.getD (k * 3 + 2) 0) (sbR key G F0 S0 k) := rfl
structure SbOk (N : Nat) (r : SbT) : Prop where
  lf : r.1.length = N
  ls : r.2.1.length = N
  bf : Bt r.1
  bs : Bt r.2.1
theorem sbDd_bit (key : Int) (n : Nat) {F S : List Int} (hF : Bt F) (hS : Bt S) (ka : Int) (j : Nat) : sbDd key n F S ka j = 0 ∨ sbDd key n F S ka j = 1 :=
  xorI_bit (xorI_bit (xorI_bit (hF.at _) (hS.at _)) ((tr1_bits _ _).at _)) ((tr2_bits _ _).at _)
theorem sbR_ok (key : Int) (G : List Int) {F0 S0 : List Int} {B : Nat} (h : SbOk B (F0, S0, 0)) (k : Nat) : SbOk (B + k) (sbR key G F0 S0 k) ∧ (sbR key G F0 S0 k).2.2 ≤ k := by
  induction k with
  | zero => exact ⟨h, Nat.le_refl _⟩
  | succ k ih =>
    obtain ⟨⟨lf, ls, bf, bs⟩, hn⟩ := ih
    rw [sbR_succ]
    generalize sbR key G F0 S0 k = r at *
    unfold sbStep
    split
    · exact ⟨⟨by simp [sbMul, lf]; omega, by simp [sbMul, ls]; omega, bf.app (Bt.one (anI_bit (tr1_bits _ _) (sbDd_bit _ _ bf bs _ _) (sbDd_bit _ _ bf bs _ _))), bs.app (Bt.one (anI_bit (tr2_bits _ _) (sbDd_bit _ _ bf bs _ _) (sbDd_bit _ _ bf bs _ _)))⟩, by simp [sbMul]; omega⟩
    · exact ⟨⟨by simp [sbLoc, lf]; omega, by simp [sbLoc, ls]; omega, bf.app (Bt.one (soI_bit bf (Or.inl rfl))), bs.app (Bt.one (soI_bit bs (Or.inr rfl)))⟩, by simp [sbLoc]; omega⟩
end Go.Proofs.Ytkbhigdciokfkaa
namespace Go.Proofs.Ytkbhigdciokfkaa
open Go.RowKit
set_option maxHeartbeats 16000000 in
set_option maxRecDepth 100000 in
theorem sharedWires_any (i0 i1 : Nat) (ga : Option Addr) (gn gc : Nat) (G : List Int) (oa : Option Addr) (on oc : Nat) (key : Int) (aa : Option Addr) (ac : Nat) (A : List Int) (ba : Option Addr) (bc : Nat) (B : List Int) (w : World) (hG : Flat 3 w ga gn gc G) (hA : Ints w aa i0 ac A) (hB : Ints w ba i1 bc B)
    (k0 : 0 ≤ key) (k1 : key ≤ 1000000000) (h0 : i0 ≤ 1000) (h1 : i1 ≤ 1000) (hgn : gn ≤ 1000) (bA : Bt A) (bB : Bt B) (hgk : ∀ j, j < gn → gbB (G.getD (j * 3) 0) (G.getD (j * 3 + 1) 0) (G.getD (j * 3 + 2) 0) ((i0 + i1 + j : Nat) : Int) = true) :
    Calls Try.prog 72 #[.agg #[.int .i64 i0, .int .i64 i1, .slice ga gn gc, .slice oa on oc], .int .i64 key, .slice aa i0 ac, .slice ba i1 bc] w fun e w' => ∃ a1 c1 a2 c2 a3 n3 c3, e = .returned (.tuple #[.slice a1 (i0 + i1 + gn) c1, .slice a2 (i0 + i1 + gn) c2, .slice a3 n3 c3]) ∧
      Own w' w.heap.size a1 (i0 + i1 + gn) c1 (sbR key G (siF key A i0 i1) (siS key B i0 i1) gn).1 ∧ Own w' w.heap.size a2 (i0 + i1 + gn) c2 (sbR key G (siF key A i0 i1) (siS key B i0 i1) gn).2.1 ∧ Disj (foot a1 c1) (foot a2 c2) ∧ Below w.heap.size w w' := by
  have HOK := Lib.hid (sbR_ok key G (F0 := siF key A i0 i1) (S0 := siS key B i0 i1) ⟨siF_len _ _ _ _, siS_len _ _ _ _, siF_bits bA _ _, siS_bits bB _ _⟩)
  have HGK := Lib.hid (fun j hj => gb_cases (hgk j hj))
  clear hgk bA bB
  have hgl := hG.le
  obtain ⟨F0, hF0⟩ : ∃ x, siF key A i0 i1 = x := ⟨_, rfl⟩
  obtain ⟨S0, hS0⟩ : ∃ x, siS key B i0 i1 = x := ⟨_, rfl⟩
  rw [hF0, hS0] at HOK ⊢
  have HF0 := Lib.hid hF0
  have HS0 := Lib.hid hS0
  clear hF0 hS0
  have V0 : Below w.heap.size w (w.alloc (.cells #[.int .i64 i0, .int .i64 i1, .slice ga gn gc, .slice oa on oc] 25)) := (Below.refl _ _).alloc (Nat.le_refl _) _
  have B0 : Blk (w.alloc (.cells #[.int .i64 i0, .int .i64 i1, .slice ga gn gc, .slice oa on oc] 25)) w.heap.size 25 #[.int .i64 i0, .int .i64 i1, .slice ga gn gc, .slice oa on oc] := Blk.new w _ _
  go_enter Try.func72, Try.ntmps72
  go_wp2_with fail
  generalize (w.alloc (.cells #[.int .i64 i0, .int .i64 i1, .slice ga gn gc, .slice oa on oc] 25)) = w0 at *
  refine (shareInputs_any i0 i1 _ _ _ _ _ _ key _ _ A _ _ B _ (hA.below V0) (hB.below V0) k0 k1 h0 h1).mono ?_; rintro e w1 ⟨a1, c1, a2, c2, rfl, o1, o2, d12, u1⟩
  rw [HF0.out] at o1
  rw [HS0.out] at o2
  have x2 : w1.cell? ⟨w.heap.size, 2, none⟩ = some (.slice ga gn gc) := (B0.below u1).cell 2
  have hz0 := B0.lt
  have x2' := keepA (.cells #[] 97) x2
  have V1 := u1.alloc u1.size (.cells #[] 97)
  have p1 := o1.alloc (.cells #[] 97)
  have p2 := o2.alloc (.cells #[] 97)
  clear o1 o2 u1
  go_wp2
  clear x2 x2'
  go_loopw [34, 11, 12, 13] (fun v f s o wr => ∃ k : Nat, k ≤ gn ∧ v = .int .i64 k ∧ Below w0.heap.size w0 wr ∧ ∃ a1 c1 a2 c2 a3 c3 xs, f = .slice a1 (i0 + i1 + k) c1 ∧ s = .slice a2 (i0 + i1 + k) c2 ∧ o = .slice a3 (sbR key G F0 S0 k).2.2 c3 ∧ Own wr w0.heap.size a1 (i0 + i1 + k) c1 (sbR key G F0 S0 k).1 ∧ Own wr w0.heap.size a2 (i0 + i1 + k) c2 (sbR key G F0 S0 k).2.1 ∧ OwnF 3 eOpened wr w0.heap.size a3 (sbR key G F0 S0 k).2.2 c3 xs ∧ Disj (foot a1 c1) (foot a2 c2) ∧ Disj (foot a1 c1) (foot a3 c3) ∧ Disj (foot a2 c2) (foot a3 c3)) (fun v _ _ _ _ => gn - (intOf v).toNat)
  case atStart => exact ⟨0, Nat.zero_le _, rfl, V1, _, _, _, _, _, _, [], rfl, rfl, rfl, p1, p2, OwnC.nil0 _ _ _ _ _, d12, (foot_nil _ _).symm, (foot_nil _ _).symm⟩
  case round =>
    obtain ⟨k, hkn, rfl, hbel, a1, c1, a2, c2, a3, c3, xs, rfl, rfl, rfl, o1, o2, o3, e12, e13, e23⟩ := hrel
    have D12 := Lib.hid e12
    have D13 := Lib.hid e13
    have D23 := Lib.hid e23
    clear V1 p1 p2 d12 e12 e13 e23
    by_cases hlt : k < gn
    · obtain ⟨ok, hn⟩ := HOK.out k
      rcases hR : sbR key G F0 S0 k with ⟨F, S, n⟩
      rw [hR] at o1 o2 o3 ok hn
      have HST : Hid (sbR key G F0 S0 (k + 1) = sbStep key (G.getD (k * 3) 0) (G.getD (k * 3 + 1) 0) (G.getD (k * 3 + 2) 0) (F, S, n)) := Lib.hid (by rw [sbR_succ, hR])
      clear hR
      obtain ⟨lf, ls, bf, bs⟩ := ok
      dsimp only at lf ls bf bs o1 o2 o3 hn ⊢
      have HLF := Lib.hid lf
      have HLS := Lib.hid ls
      have HBF := Lib.hid bf
      have HBS := Lib.hid bs
      clear lf ls bf bs
      obtain ⟨g, o, rfl, hc⟩ := (hG.below (V0.trans (hbel.mono V0.size))).at (by omega)
      have c0 : wr.cell? ⟨g, o + k * 3, none⟩ = some (.int .i64 (G.getD (k * 3) 0)) := hc (k * 3) (by omega)
      have c1' : wr.cell? ⟨g, o + k * 3 + 1, none⟩ = some (.int .i64 (G.getD (k * 3 + 1) 0)) := by have := hc (k * 3 + 1) (by omega); simpa only [Nat.add_assoc] using this
      have c2' : wr.cell? ⟨g, o + k * 3 + 2, none⟩ = some (.int .i64 (G.getD (k * 3 + 2) 0)) := by have := hc (k * 3 + 2) (by omega); simpa only [Nat.add_assoc] using this
      have HG := Lib.hid (HGK.out k hlt)
      generalize G.getD (k * 3) 0 = kd at *
      generalize G.getD (k * 3 + 1) 0 = ka at *
      generalize G.getD (k * 3 + 2) 0 = kb at *
      clear hc
      obtain ⟨N, hN⟩ : ∃ x, x = i0 + i1 + k := ⟨_, rfl⟩
      rw [← hN] at o1 o2 HLF HLS HG
      try rw [← hN]
      have HN := Lib.hid hN
      have hN3 : N ≤ 3000 := by omega
      clear hN
      by_cases hk1 : kd = 1
      · subst hk1
        have hab : (0 ≤ ka ∧ ka < N) ∧ (0 ≤ kb ∧ kb < N) := by have := HG.out; omega
        obtain ⟨⟨ka0, ka1⟩, kb0, kb1⟩ := hab
        obtain ⟨ja, rfl⟩ : ∃ x : Nat, ka = x := ⟨ka.toNat, by omega⟩
        obtain ⟨jb, rfl⟩ : ∃ x : Nat, kb = x := ⟨kb.toNat, by omega⟩
        have hja : ja < N := by omega
        have hjb : jb < N := by omega
        clear ka0 ka1 kb0 kb1
        have V3 := hbel.alloc hbel.size (.cells #[.int .i64 1, .int .i64 (ja : Int), .int .i64 (jb : Int)] 87)
        have p1 := o1.alloc (.cells #[.int .i64 1, .int .i64 (ja : Int), .int .i64 (jb : Int)] 87)
        have p2 := o2.alloc (.cells #[.int .i64 1, .int .i64 (ja : Int), .int .i64 (jb : Int)] 87)
        have p3 := o3.alloc (.cells #[.int .i64 1, .int .i64 (ja : Int), .int .i64 (jb : Int)] 87)
        have Bg : Blk (wr.alloc (.cells #[.int .i64 1, .int .i64 (ja : Int), .int .i64 (jb : Int)] 87)) wr.heap.size 87 #[.int .i64 1, .int .i64 (ja : Int), .int .i64 (jb : Int)] := Blk.new wr _ _
        have Q1 := Lib.hid p1.feet
        have Q2 := Lib.hid p2.feet
        have Q3 := Lib.hid p3.feet
        clear hbel o1 o2 o3
        go_wp2_with fail
        generalize (wr.alloc (.cells #[.int .i64 1, .int .i64 (ja : Int), .int .i64 (jb : Int)] 87)) = w3 at *
        clear c0 c1' c2'
        refine (bitTriple_any key n _ k0 k1 (by omega) (by omega)).mono ?_; rintro e w4 ⟨ta, tc, ua, uc, rfl, it, iu, u4⟩
        have q1 := p1.below u4
        have q2 := p2.below u4
        have q3 := p3.below u4
        have V4 := V3.trans (u4.mono V3.size)
        have Bg4 := Bg.below u4
        clear p1 p2 p3 V3 Bg u4
        obtain ⟨gF, rfl, _, _, fa, _, _⟩ := q1.at ja hja
        obtain ⟨_, E, _, _, fb, _, _⟩ := q1.at jb hjb
        cases E
        obtain ⟨gS, rfl, _, _, sa, _, _⟩ := q2.at ja hja
        obtain ⟨_, E, _, _, sb, _, _⟩ := q2.at jb hjb
        cases E
        obtain ⟨gt, ot, rfl, t0⟩ := it.1.at 0 (by omega)
        obtain ⟨_, _, E, t1⟩ := it.1.at 1 (by omega)
        cases E
        obtain ⟨gu, ou, rfl, s0⟩ := iu.1.at 0 (by omega)
        obtain ⟨_, _, E, s1⟩ := iu.1.at 1 (by omega)
        cases E
        rw [Nat.add_zero] at t0 s0
        have hd := sbDd_bit key n HBF.out HBS.out (ja : Int) 0
        have he := sbDd_bit key n HBF.out HBS.out (jb : Int) 1
        have HD : Hid (sbDd key n F S (ja : Int) 0 = xorI (xorI (xorI (F.getD ja 0) (S.getD ja 0)) ((tr1 key n).getD 0 0)) ((tr2 key n).getD 0 0)) := rfl
        have HE : Hid (sbDd key n F S (jb : Int) 1 = xorI (xorI (xorI (F.getD jb 0) (S.getD jb 0)) ((tr1 key n).getD 1 0)) ((tr2 key n).getD 1 0)) := rfl
        have HSX := Lib.hid (show sbStep key 1 (ja : Int) (jb : Int) (F, S, n) = (F ++ [anI 0 (tr1 key n) (sbDd key n F S (ja : Int) 0) (sbDd key n F S (jb : Int) 1)], S ++ [anI 1 (tr2 key n) (sbDd key n F S (ja : Int) 0) (sbDd key n F S (jb : Int) 1)], n + 1) from rfl)
        rw [HSX.out] at HST
        clear HSX
        have HTB := Lib.hid (tr1_bits key n)
        have HUB := Lib.hid (tr2_bits key n)
        generalize sbDd key n F S (ja : Int) 0 = d at *
        generalize sbDd key n F S (jb : Int) 1 = e0 at *
        generalize tr1 key n = T at *
        generalize tr2 key n = U at *
        generalize F.getD ja 0 = X0 at *
        generalize F.getD jb 0 = Y0 at *
        generalize S.getD ja 0 = X1 at *
        generalize S.getD jb 0 = Y1 at *
        generalize T.getD 0 0 = T0 at *
        generalize T.getD 1 0 = T1 at *
        generalize U.getD 0 0 = U0 at *
        generalize U.getD 1 0 = U1 at *
        have y00 : bits BinOp.xor IntKind.i64 X0 X1 = xorI X0 X1 := rfl
        have y01 : bits BinOp.xor IntKind.i64 (xorI X0 X1) T0 = xorI (xorI X0 X1) T0 := rfl
        have y02 : bits BinOp.xor IntKind.i64 (xorI (xorI X0 X1) T0) U0 = d := HD.out.symm
        have y10 : bits BinOp.xor IntKind.i64 Y0 Y1 = xorI Y0 Y1 := rfl
        have y11 : bits BinOp.xor IntKind.i64 (xorI Y0 Y1) T1 = xorI (xorI Y0 Y1) T1 := rfl
        have y12 : bits BinOp.xor IntKind.i64 (xorI (xorI Y0 Y1) T1) U1 = e0 := HE.out.symm
        have ia0 : (ja : Int) < (N : Int) := by omega
        have ib0 : (jb : Int) < (N : Int) := by omega
        have gc1 : w4.cell? ⟨wr.heap.size, 1, none⟩ = some (.int .i64 ja) := Bg4.cell 1
        have gc2 : w4.cell? ⟨wr.heap.size, 2, none⟩ = some (.int .i64 jb) := Bg4.cell 2
        clear Bg4
        go_wp2_with fail
        go_quiet (fail)
        replace q1 := q1.drewN nq
        replace q2 := q2.drewN nq
        replace q3 := q3.drewN nq
        replace V4 := V4.trans ((below_of_drewN (w := w4) nq).mono V4.size)
        replace it := it.below (below_of_drewN nq)
        replace iu := iu.below (below_of_drewN nq)
        clear fa fb sa sb t0 t1 s0 s1 gc1 gc2 y00 y01 y02 y10 y11 y12 ia0 ib0
        generalize w4.drewN nq = w5 at *
        go_wp2_with (at_builtin; refine wpList_appO _ rfl _ _ rfl w0.heap.size a3 n c3 xs rfl (q3.alloc _) _ 1 (k : Int) d e0 rfl (RowC.opened _ _ _ _ _) (by omega) (by have := V4.size; simp; omega) ?_)
        intro a5 c5 w7 o7 g7 m7
        have X7 := Only.of_grown g7
        have r1 := (q1.alloc (.cells #[.int .i64 (k : Int), .int .i64 d, .int .i64 e0] 97)).only X7 D13.out
        have r2 := (q2.alloc (.cells #[.int .i64 (k : Int), .int .i64 d, .int .i64 e0] 97)).only X7 D23.out
        have E13 := Lib.hid ((m7.disj D13.out.symm (fun q hq => by have := (q1.feet q hq).2; simp; omega)).symm)
        have E23 := Lib.hid ((m7.disj D23.out.symm (fun q hq => by have := (q2.feet q hq).2; simp; omega)).symm)
        have it7 := (it.below ((Below.refl _ _).alloc (Nat.le_refl _) (.cells #[.int .i64 (k : Int), .int .i64 d, .int .i64 e0] 97))).only X7 (fun q hq => (Q3.out q hq).2)
        have iu7 := (iu.below ((Below.refl _ _).alloc (Nat.le_refl _) (.cells #[.int .i64 (k : Int), .int .i64 d, .int .i64 e0] 97))).only X7 (fun q hq => (Q3.out q hq).2)
        have V7 := (V4.alloc V4.size (.cells #[.int .i64 (k : Int), .int .i64 d, .int .i64 e0] 97)).trans (X7.below (by have := V4.size; simp; omega) (fun q hq => (q3.feet q hq).1))
        have S7 := V7.size
        clear q1 q2 q3 it iu V4 g7 m7 X7
        go_wp2_with fail
        refine (andShare_any 0 d e0 _ _ T _ it7.1 HTB.out hd he (by omega)).mono ?_; rintro e w8 ⟨rfl, hq0⟩
        have u8 := below_of_quiet hq0
        clear hq0
        have s1 := r1.below u8
        have s2 := r2.below u8
        have s3 := o7.below u8
        have iu8 := iu7.below u8
        have V8 := V7.trans (u8.mono V7.size)
        clear r1 r2 o7 it7 iu7 V7 u8
        generalize anI 0 T d e0 = va at *
        go_wp2_with (at_builtin; refine wpList_appJ _ rfl _ _ rfl w0.heap.size _ N c1 F rfl (s1.alloc _) _ 1 1 [va] rfl (Ints.lit1 _ _ _) (by omega) (by have := V8.size; simp; omega) ?_)
        intro a6 c6 w9 o9 v9 g9 m9
        have X9 := Only.of_grown g9
        have s2' := s2
        have s3' := s3
        replace s2 := (s2.alloc (.cells #[.int .i64 va] 3)).only X9 D12.out.symm
        replace s3 := (s3.alloc (.cells #[.int .i64 va] 3)).only X9 E13.out.symm
        have iu9 := (iu8.below ((Below.refl _ _).alloc (Nat.le_refl _) (.cells #[.int .i64 va] 3))).only X9 (fun q hq => (Q1.out q hq).2)
        have F12 := Lib.hid (m9.disj D12.out (fun q hq => by have := (s2'.feet q hq).2; simp; omega))
        have F13 := Lib.hid (m9.disj E13.out (fun q hq => by have := (s3'.feet q hq).2; simp; omega))
        have V9 := (V8.alloc V8.size (.cells #[.int .i64 va] 3)).trans v9
        clear s1 s2' s3' iu8 V8 g9 m9 v9 X9
        go_wp2_with fail
        refine (andShare_any 1 d e0 _ _ U _ iu9.1 HUB.out hd he (by omega)).mono ?_; rintro e w10 ⟨rfl, hq1⟩
        have u9 := below_of_quiet hq1
        clear hq1
        have t1 := o9.below u9
        have t2 := s2.below u9
        have t3 := s3.below u9
        have V10 := V9.trans (u9.mono V9.size)
        clear o9 s2 s3 iu9 V9 u9
        generalize anI 1 U d e0 = vb at *
        go_wp2_with (at_builtin; refine wpList_appJ _ rfl _ _ rfl w0.heap.size _ N c2 S rfl (t2.alloc _) _ 1 1 [vb] rfl (Ints.lit1 _ _ _) (by omega) (by have := V10.size; simp; omega) ?_)
        intro a7 c7 w11 o11 v11 g11 m11
        have X11 := Only.of_grown g11
        have z1 := (t1.alloc (.cells #[.int .i64 vb] 3)).only X11 F12.out
        have z3 := (t3.alloc (.cells #[.int .i64 vb] 3)).only X11 E23.out.symm
        have G12 := (m11.disj F12.out.symm (fun q hq => by have := (t1.feet q hq).2; simp; omega)).symm
        have G23 := m11.disj E23.out (fun q hq => by have := (t3.feet q hq).2; simp; omega)
        have V11 := (V10.alloc V10.size (.cells #[.int .i64 vb] 3)).trans v11
        have HZ := Lib.hid (And.intro G12 (And.intro F13.out G23))
        clear t1 t2 t3 V10 g11 m11 v11 X11 G12 G23 F12 F13 E13 E23
        go_wp2
        go_roundw
        case rel => exact ⟨k + 1, by omega, by go_num, V11, _, _, _, _, _, _, _, by rw [show i0 + i1 + (k + 1) = N + 1 by have := HN.out; omega], by rw [show i0 + i1 + (k + 1) = N + 1 by have := HN.out; omega], by rw [HST.out], by rw [HST.out, show i0 + i1 + (k + 1) = N + 1 by have := HN.out; omega]; exact z1, by rw [HST.out, show i0 + i1 + (k + 1) = N + 1 by have := HN.out; omega]; exact o11, by rw [HST.out]; exact z3, HZ.out.1, HZ.out.2.1, HZ.out.2.2⟩
        case measure => simp [intOf]; omega
      · have HK1 := Lib.hid hk1
        have f1 : ((kd != 1) : Bool) = true := by simp [hk1]
        have hgo : goB kd ka kb N := by have := HG.out; unfold goB; rcases this with h | h | h | h <;> omega
        have HGO := Lib.hid hgo
        have HSX := Lib.hid (show sbStep key kd ka kb (F, S, n) = (F ++ [soI kd ka kb 0 F], S ++ [soI kd ka kb 1 S], n) from by unfold sbStep; rw [if_neg hk1]; rfl)
        rw [HSX.out] at HST
        clear HSX hgo hk1
        have V3 := hbel.alloc hbel.size (.cells #[.int .i64 kd, .int .i64 ka, .int .i64 kb] 87)
        have p1 := o1.alloc (.cells #[.int .i64 kd, .int .i64 ka, .int .i64 kb] 87)
        have p2 := o2.alloc (.cells #[.int .i64 kd, .int .i64 ka, .int .i64 kb] 87)
        have p3 := o3.alloc (.cells #[.int .i64 kd, .int .i64 ka, .int .i64 kb] 87)
        have Bg : Blk (wr.alloc (.cells #[.int .i64 kd, .int .i64 ka, .int .i64 kb] 87)) wr.heap.size 87 #[.int .i64 kd, .int .i64 ka, .int .i64 kb] := Blk.new wr _ _
        clear hbel o1 o2 o3
        go_wp2_with fail
        generalize (wr.alloc (.cells #[.int .i64 kd, .int .i64 ka, .int .i64 kb] 87)) = w3 at *
        clear c0 c1' c2'
        have y0 : w3.cell? ⟨wr.heap.size, 0, none⟩ = some (.int .i64 kd) := Bg.cell 0
        have y1 : w3.cell? ⟨wr.heap.size, 1, none⟩ = some (.int .i64 ka) := Bg.cell 1
        have y2 : w3.cell? ⟨wr.heap.size, 2, none⟩ = some (.int .i64 kb) := Bg.cell 2
        go_region_held3 (fun W => W.cell? ⟨wr.heap.size, 0, none⟩ = some (.int .i64 kd) ∧ W.cell? ⟨wr.heap.size, 1, none⟩ = some (.int .i64 ka) ∧ W.cell? ⟨wr.heap.size, 2, none⟩ = some (.int .i64 kb))
          (first | exact ⟨keepC u5 (keepC u4 y0), keepC u5 (keepC u4 y1), keepC u5 (keepC u4 y2)⟩ | exact ⟨keepC u4 y0, keepC u4 y1, keepC u4 y2⟩ | go_keep)
          (first | (go_at_call 110; have _ := u4; refine (shareOf_any kd ka kb 1 _ N c2 S _ (p2.ints.drew.below u4) HGO.out (by omega)).mono ?_; rintro e w5 ⟨rfl, u5⟩) | (go_at_call 110; refine (shareOf_any kd ka kb 0 _ N c1 F _ p1.ints.drew HGO.out (by omega)).mono ?_; rintro e w4 ⟨rfl, u4⟩))
        all_goals have u : Below w3.heap.size w3 w5 := (Below.refl _ _).drew.trans (u4.trans (u5.mono u4.size))
        all_goals replace p1 := p1.below u
        all_goals replace p2 := p2.below u
        all_goals replace p3 := p3.below u
        all_goals have V5 := V3.trans (u.mono V3.size)
        all_goals clear y0 y1 y2 u4 u5 u V3 Bg f1
        all_goals generalize soI kd ka kb 0 F = va at *
        all_goals generalize soI kd ka kb 1 S = vb at *
        go_wp2_with (at_builtin; refine wpList_appJ _ rfl _ _ rfl w0.heap.size _ N c1 F rfl (p1.alloc _) _ 1 1 [va] rfl (Ints.lit1 _ _ _) (by omega) (by have := V5.size; simp; omega) ?_)
        intro a6 c6 w6 o6 v6 g6 m6
        have X6 := Only.of_grown g6
        have F12 := Lib.hid (m6.disj D12.out (fun q hq => by have := (p2.feet q hq).2; simp; omega))
        have F13 := Lib.hid (m6.disj D13.out (fun q hq => by have := (p3.feet q hq).2; simp; omega))
        have q2 := (p2.alloc (.cells #[.int .i64 va] 3)).only X6 D12.out.symm
        have q3 := (p3.alloc (.cells #[.int .i64 va] 3)).only X6 D13.out.symm
        have V6 := (V5.alloc V5.size (.cells #[.int .i64 va] 3)).trans v6
        clear p1 p2 p3 V5 g6 m6 v6 X6
        go_wp2_with (at_builtin; refine wpList_appJ _ rfl _ _ rfl w0.heap.size _ N c2 S rfl (q2.alloc _) _ 1 1 [vb] rfl (Ints.lit1 _ _ _) (by omega) (by have := V6.size; simp; omega) ?_)
        intro a7 c7 w11 o11 v11 g11 m11
        have X11 := Only.of_grown g11
        have z1 := (o6.alloc (.cells #[.int .i64 vb] 3)).only X11 F12.out
        have z3 := (q3.alloc (.cells #[.int .i64 vb] 3)).only X11 D23.out.symm
        have G12 := (m11.disj F12.out.symm (fun q hq => by have := (o6.feet q hq).2; simp; omega)).symm
        have G23 := m11.disj D23.out (fun q hq => by have := (q3.feet q hq).2; simp; omega)
        have V11 := (V6.alloc V6.size (.cells #[.int .i64 vb] 3)).trans v11
        have HZ := Lib.hid (And.intro G12 (And.intro F13.out G23))
        clear o6 q2 q3 V6 g11 m11 v11 X11 G12 G23 F12 F13
        go_wp2
        go_roundw
        case rel => exact ⟨k + 1, by omega, by go_num, V11, _, _, _, _, _, _, _, by rw [show i0 + i1 + (k + 1) = N + 1 by have := HN.out; omega], by rw [show i0 + i1 + (k + 1) = N + 1 by have := HN.out; omega], by rw [HST.out], by rw [HST.out, show i0 + i1 + (k + 1) = N + 1 by have := HN.out; omega]; exact z1, by rw [HST.out, show i0 + i1 + (k + 1) = N + 1 by have := HN.out; omega]; exact o11, by rw [HST.out]; exact z3, HZ.out.1, HZ.out.2.1, HZ.out.2.2⟩
        case measure => simp [intOf]; omega
    · obtain rfl : k = gn := by omega
      go_wp2
      go_ret3
      exact ⟨_, _, _, _, _, _, _, rfl, o1.lower (Nat.le_of_lt hz0), o2.lower (Nat.le_of_lt hz0), D12.out, V0.trans (hbel.mono V0.size)⟩
end Go.Proofs.Ytkbhigdciokfkaa
