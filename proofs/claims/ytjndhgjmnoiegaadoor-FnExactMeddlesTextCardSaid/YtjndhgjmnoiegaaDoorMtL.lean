/- MeddlesText: what it returns; the law's walk. -/
import Derived.Test.YtjndhgjmnoiegaaDoorMtm
namespace Go.Proofs.YtjndhgjmnoiegaaDoor
open Go.RowKit
theorem meds_at {p : Int} {L : List Int} {n : Nat} (h : medsB p L n = true) (k : Nat) (hk : k < n) : medAt p L k = true := List.all_eq_true.1 h k (List.mem_range.2 hk)
theorem meds_low {p : Int} {L : List Int} {n : Nat} (h : medsB p L n = true) : ∀ k, k < n → (k : Int) ≤ L.getD (k * 4 + 1) 0
  | 0, hk => by
    have := meds_at h 0 hk
    unfold medAt medB at this
    simp only [Bool.and_eq_true] at this
    have := inB_true this.1.1
    omega
  | k + 1, hk => by
    have ih := meds_low h k (by omega)
    have := meds_at h (k + 1) hk
    unfold medAt at this
    simp only [Bool.and_eq_true, Bool.or_eq_true, decide_eq_true_eq] at this
    rcases this.2 with e | e
    · omega
    · rw [show k + 1 - 1 = k by omega] at e
      omega
theorem meds_six {p : Int} {L : List Int} {n : Nat} (h : medsB p L n = true) : n ≤ 6 := by
  cases n with
  | zero => omega
  | succ n =>
    have h1 := meds_low h n (by omega)
    have := meds_at h n (by omega)
    unfold medAt medB at this
    simp only [Bool.and_eq_true] at this
    have := inB_true this.1.1
    omega
theorem meds_mv {p : Int} {L : List Int} {n : Nat} (hp : p ≤ 251) (h : medsB p L n = true) (k : Nat) (hk : k < n) : MvR (L.getD (k * 4) 0) (L.getD (k * 4 + 1) 0) (L.getD (k * 4 + 2) 0) (L.getD (k * 4 + 3) 0) := by
  have := meds_at h k hk
  unfold medAt at this
  rw [Bool.and_eq_true] at this
  exact mv_rng hp this.1
def mtS (p : Int) (L : List Int) (n : Nat) : ByteArray := if amV p L n then txP L n else ⟨#[]⟩
theorem good_am (p : Int) (L : List Int) (n : Nat) : (medsB (IntKind.i64.wrap (p - 1) + 1) L n && isPr p) = amV p L n := by
  unfold amV
  cases hp : isPr p
  · rw [Bool.and_false, Bool.false_and]
  · have hr := isPr_range hp
    have e : IntKind.i64.wrap (p - 1) = p - 1 := IntWalk.i64_in _ (by omega)
    rw [e, show p - 1 + 1 = p by omega, Bool.and_true, Bool.true_and]
set_option maxHeartbeats 4000000 in
theorem MeddlesText_any (p : Int) (a : Option Addr) (n c : Nat) (L : List Int) (w : World) (hL : Flat 4 w a n c L) (hT : Tbl w) (hP : Pow w) (hW : Wds w) :
    Calls Tryd.prog 11 #[.int .i64 p, .slice a n c] w fun e w' => e = .returned (.tuple #[.string (mtS p L n), .bool (amV p L n)]) ∧ Below w.heap.size w w' := by
  unfold mtS amV
  cases h1 : isPr p
  · simp only [Bool.false_and, Bool.false_eq_true, if_false]
    go_enter Tryd.func11, Tryd.ntmps11
    go_wp2_with (go_at_call 15; refine (IsPrime_any _ _).mono ?_; rintro e w' ⟨rfl, m, rfl⟩; rw [h1])
    go_ret2
    exact ⟨rfl, below_of_drewN _⟩
  · have hr := isPr_range h1
    cases h2 : medsB p L n
    · simp only [Bool.and_false, Bool.false_eq_true, if_false]
      go_enter Tryd.func11, Tryd.ntmps11
      go_wp2_with (go_at_call 15; refine (IsPrime_any _ _).mono ?_; rintro e w' ⟨rfl, m, rfl⟩; rw [h1])
      refine (areMeddles_any p a n c L _ (hL.drewN m) (hT.below (below_of_drewN m)) (by omega) (by omega)).mono ?_; rintro e w' ⟨rfl, u⟩
      rw [h2]
      go_wp2
      go_ret2
      exact ⟨rfl, (below_of_drewN m).trans u⟩
    · simp only [Bool.and_true, if_true]
      have hn := meds_six h2
      have hv := Lib.hid (meds_mv (by omega) h2)
      go_enter Tryd.func11, Tryd.ntmps11
      go_wp2_with (go_at_call 15; refine (IsPrime_any _ _).mono ?_; rintro e w' ⟨rfl, m, rfl⟩; rw [h1])
      refine (areMeddles_any p a n c L _ (hL.drewN m) (hT.below (below_of_drewN m)) (by omega) (by omega)).mono ?_; rintro e w1 ⟨rfl, u⟩
      rw [h2]
      have u1 : Below w.heap.size w w1 := (below_of_drewN m).trans u
      clear u
      go_wp2_with fail
      refine (meddlesText_any a n c L w1 (hL.below u1) hn hv.out (hP.below u1) (hW.below u1)).mono ?_; rintro e w2 ⟨rfl, u2⟩
      go_wp2
      go_ret2
      exact ⟨rfl, u1.trans (u2.mono u1.size)⟩
set_option maxHeartbeats 4000000 in
theorem spec_MeddlesText_any (p : Int) (a : Option Addr) (n c : Nat) (L : List Int) (w : World) (hL : Flat 4 w a n c L) :
    Calls Tryd.prog 10 #[.int .i64 p, .slice a n c] w fun e w' => e = .returned (.tuple #[.string (mtS p L n), .bool (amV p L n)]) ∧ Below w.heap.size w w' := by
  have CG := nwGood_q p _ a n c L w hL rfl
  rw [good_am] at CG
  unfold mtS
  cases h1 : amV p L n
  · rw [h1] at CG
    simp only [Bool.false_eq_true, if_false]
    go_enter Tryd.func10, Tryd.ntmps10
    go_wp2_with fail
    refine CG.mono ?_; rintro e w1 ⟨rfl, u1⟩
    go_wp2
    go_ret2
    exact ⟨rfl, u1⟩
  · rw [h1] at CG
    simp only [if_true]
    have h2 := h1
    unfold amV at h2
    rw [Bool.and_eq_true] at h2
    have hr := isPr_range h2.1
    have hn := meds_six h2.2
    have hv := Lib.hid (meds_mv (by omega) h2.2)
    clear h2
    go_enter Tryd.func10, Tryd.ntmps10
    go_wp2_with fail
    refine CG.mono ?_; rintro e w1 ⟨rfl, u1⟩
    go_wp2_with fail
    refine (nwText_any a n c L w1 (hL.below u1) hn hv.out).mono ?_; rintro e w2 ⟨rfl, u2⟩
    go_wp2
    go_ret2
    exact ⟨rfl, u1.trans (u2.mono u1.size)⟩
set_option maxHeartbeats 4000000 in
set_option maxRecDepth 100000 in
theorem FnExactMeddlesText_walk (a0 : Int) (p1 : Option Addr) (pn1 pc1 : Nat) (l1 : List Int) (w : World) (_w0 : -9223372036854775808 ≤ a0 ∧ a0 ≤ 9223372036854775807) (z1 : Flat 4 w p1 pn1 pc1 l1) (hT : Tbl w) (hP : Pow w) (hW : Wds w) :
    Calls Tryd.prog 4 #[.int .i64 a0, .slice p1 pn1 pc1] w fun e w' => e = .returned (.bool true) ∧ Below w.heap.size w w' := by
  have hn := z1.le4
  by_cases hlt : (pn1 : Int) ≤ 1048576
  · have hm : pn1 ≤ 1048576 := by omega
    have LZ := Lib.hid z1
    have LT := Lib.hid hT
    have LP := Lib.hid hP
    have LW := Lib.hid hW
    clear z1 hT hP hW

    go_enter Tryd.func4, Tryd.ntmps4
    go_wp2_with fail
    refine (szMeddleS_yes _ _ _ _ _ hn (by omega) hlt).mono ?_; rintro e w' ⟨rfl, rfl⟩
    have d0 : decide ((1048576 : Int) - (pn1 : Int) < 0) = false := by simp; omega
    go_wp2_with fail
    clear d0
    refine (toMeddleS_any _ _ _ _ _ (LZ.out.below (Below.refl w.heap.size w)) hm).mono ?_
    rintro e w1' ⟨b1, d1, rfl, o1, u_w1'⟩
    have S_w1' := u_w1'.size
    have V_w1' : Below w.heap.size w w1' := (Below.refl w.heap.size w).trans (u_w1'.mono (Below.refl w.heap.size w).size)
    clear u_w1'

    go_wp2_with fail
    refine (spec_MeddlesText_any _ _ _ _ _ _ o1.flat).mono ?_
    rintro e w2' ⟨rfl, u_w2'⟩
    replace o1 := o1.below u_w2'
    have S_w2' := u_w2'.size
    have V_w2' : Below w.heap.size w w2' := V_w1'.trans (u_w2'.mono V_w1'.size)
    clear V_w1'
    clear u_w2'
    clear o1
    go_wp2_with fail
    refine (toMeddleS_any _ _ _ _ _ (LZ.out.below V_w2') hm).mono ?_
    rintro e w3' ⟨b2, d2, rfl, o2, u_w3'⟩
    have S_w3' := u_w3'.size
    have V_w3' : Below w.heap.size w w3' := V_w2'.trans (u_w3'.mono V_w2'.size)
    clear V_w2'
    clear u_w3'

    go_wp2_with fail
    refine (MeddlesText_any _ _ _ _ _ _ o2.flat (LT.out.below V_w3') (LP.out.below V_w3') (LW.out.below V_w3')).mono ?_
    rintro e w4' ⟨rfl, u_w4'⟩
    replace o2 := o2.below u_w4'
    have S_w4' := u_w4'.size
    have V_w4' : Below w.heap.size w w4' := V_w3'.trans (u_w4'.mono V_w3'.size)
    clear V_w3'
    clear u_w4'
    generalize amV a0 l1 pn1 = b5 at *
    generalize mtS a0 l1 pn1 = s5 at *
    go_wp2_with fail
    refine (toMeddleS_any _ _ _ _ _ (LZ.out.below V_w4') hm).mono ?_
    rintro e w5' ⟨b3, d3, rfl, o3, u_w5'⟩
    replace o2 := o2.below u_w5'
    have S_w5' := u_w5'.size
    have V_w5' : Below w.heap.size w w5' := V_w4'.trans (u_w5'.mono V_w4'.size)
    clear V_w4'
    clear u_w5'

    go_wp2_with fail
    refine (eqMeddleS_b _ _ _ _ _ _ _ _ o2.flat o3.flat).mono ?_
    rintro e w6' ⟨rfl, u_w6'⟩
    replace o2 := o2.below u_w6'
    replace o3 := o3.below u_w6'
    have S_w6' := u_w6'.size
    have V_w6' : Below w.heap.size w w6' := V_w5'.trans (u_w6'.mono V_w5'.size)
    clear V_w5'
    clear u_w6'
    go_wp2
    go_ret
    exact ⟨rfl, V_w6'⟩
  · go_enter Tryd.func4, Tryd.ntmps4
    go_wp2_with fail
    refine (szMeddleS_no _ _ _ _ _ hn (by omega) (by omega)).mono ?_; rintro e w' ⟨rfl, rfl⟩
    go_wp2
    go_ret
    exact ⟨rfl, Below.refl _ _⟩
end Go.Proofs.YtjndhgjmnoiegaaDoor
