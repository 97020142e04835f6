/- Lemmas and walks that the claim's proof rests on, part 8. -/
import Derived.Deep.DeepCutAuto
import Derived.Test.YtmbheimjphhamaaK2
import Derived.Test.YtmbheimjphhamaaK6
import Derived.Test.YtmbheimjphhamaaK7
namespace Go.Proofs.Ytmbheimjphhamaa
open Go.RowKit
set_option maxHeartbeats 8000000 in
set_option maxRecDepth 100000 in
theorem meIf_0 (n wd : Int) (w : World) :
    Calls Try.prog 39 #[.int .i64 0, .int .i64 n, .int .i64 wd] w fun e w' => ∃ ga gn gc oa on oc, e = .returned (.tuple #[.agg #[.int .i64 (mS0 n wd), .int .i64 (mS1 0 n wd), .slice ga gn gc, .slice oa on oc], .bool (memB n wd)]) ∧ OwnF 3 eGate w' w.heap.size ga gn gc (mG 0 n wd) ∧ Rd w' w.heap.size oa on oc (mO 0 n wd) ∧ Disj (foot ga gc) (foot oa oc) ∧ Below w.heap.size w w' := by
  have V1 : Below w.heap.size w (w.alloc (.cells #[.int .i64 0, .int .i64 0, .slice none 0 0, .slice none 0 0] 28)) := (Below.refl _ _).alloc (Nat.le_refl _) _
  have R1 : Blk (w.alloc (.cells #[.int .i64 0, .int .i64 0, .slice none 0 0, .slice none 0 0] 28)) w.heap.size 28 #[.int .i64 0, .int .i64 0, .slice none 0 0, .slice none 0 0] := Blk.new w _ _
  have Z1 : w.heap.size + 1 ≤ (w.alloc (.cells #[.int .i64 0, .int .i64 0, .slice none 0 0, .slice none 0 0] 28)).heap.size := by simp
  cases hg : (inB n 1 8 && inB wd 1 4)
  · have hm : memB n wd = false := by unfold memB; rw [hg]; rfl
    unfold mS0 mS1 mG mO
    rw [hm]
    simp only [Bool.false_eq_true, if_false]
    go_enter Try.func39, Try.ntmps39
    go_wp2_with fail
    generalize (w.alloc (.cells #[.int .i64 0, .int .i64 0, .slice none 0 0, .slice none 0 0] 28)) = w1 at *
    refine (meGood_any n wd _).mono ?_; rintro e w' ⟨rfl, rfl⟩
    rw [hg]
    have r0 : w1.cell? ⟨w.heap.size, 0, none⟩ = some (.int .i64 0) := R1.cell 0
    have r1 : w1.cell? ⟨w.heap.size, 1, none⟩ = some (.int .i64 0) := R1.cell 1
    have r2 : w1.cell? ⟨w.heap.size, 2, none⟩ = some (.slice none 0 0) := R1.cell 2
    have r3 : w1.cell? ⟨w.heap.size, 3, none⟩ = some (.slice none 0 0) := R1.cell 3
    have q0 : w1.frozen? ⟨w.heap.size, 0, none⟩ = false := R1.frozen 0
    have q1 : w1.frozen? ⟨w.heap.size, 1, none⟩ = false := R1.frozen 1
    have q2 : w1.frozen? ⟨w.heap.size, 2, none⟩ = false := R1.frozen 2
    have q3 : w1.frozen? ⟨w.heap.size, 3, none⟩ = false := R1.frozen 3
    go_wp2
    have GG := (((((Only.refl [w.heap.size] w1).setCell ⟨w.heap.size, 0, none⟩ (.int .i64 0) (by simp)).setCell ⟨w.heap.size, 1, none⟩ (.int .i64 0) (by simp)).setCell ⟨w.heap.size, 2, none⟩ (.slice none 0 0) (by simp)).setCell ⟨w.heap.size, 3, none⟩ (.slice none 0 0) (by simp))
    exact bodyPost_ret (v := .tuple #[.agg #[.int .i64 0, .int .i64 0, .slice none 0 0, .slice none 0 0], .bool false]) (by simp [results, Try.results39, go_sem, r0, r1, r2, r3]) rfl ⟨none, 0, 0, none, 0, 0, rfl, OwnC.nil0 _ _ _ _ _, (Own.nil0 _ _ _).rd, foot_nil _ _, V1.trans (GG.below V1.size (by simp))⟩
  · have hg2 := hg
    simp only [Bool.and_eq_true] at hg2
    obtain ⟨⟨n1, n2⟩, d1, d2⟩ : (1 ≤ n ∧ n ≤ 8) ∧ 1 ≤ wd ∧ wd ≤ 4 := ⟨inB_true hg2.1, inB_true hg2.2⟩
    clear hg2
    obtain ⟨n, rfl⟩ : ∃ k : Nat, n = k := ⟨n.toNat, by omega⟩
    obtain ⟨wd, rfl⟩ : ∃ k : Nat, wd = k := ⟨wd.toNat, by omega⟩
    have hok := me_ok 0 n wd (by omega) (by omega) (by omega) (by omega)
    have eM : meMore 0 wd = 0 := by unfold meMore; simp
    have hmd : memB n wd = decide (n * wd ≤ 20) := by unfold memB; rw [hg, Bool.true_and]; rw [decide_eq_decide, ← Int.natCast_mul]; omega
    obtain ⟨v, hv⟩ : ∃ v, wid (n : Int) = v := ⟨_, rfl⟩
    rw [eM, hv, Int.natCast_add] at hok
    have HV := Lib.hid hv
    unfold mS0 mS1 mG mO
    rw [hmd]
    simp only [Int.toNat_natCast]
    rw [eM, hv]
    have e3 : ((n : Int) * (wd : Int)) = ((n * wd : Nat) : Int) := (Int.natCast_mul _ _).symm
    rw [e3]
    clear e3 hv eM hmd
    obtain ⟨p, hp⟩ : ∃ p, p = meG 0 n wd := ⟨_, rfl⟩
    rw [← hp] at hok ⊢
    have HP := Lib.hid hp
    clear hp
    obtain ⟨q, hq⟩ : ∃ q, q = n * wd := ⟨_, rfl⟩
    obtain ⟨i1, hi1⟩ : ∃ i1, i1 = (v : Int) + ((0 : Nat) : Int) := ⟨_, rfl⟩
    rw [← hq, ← hi1] at hok ⊢
    have HQ := Lib.hid hq
    have HI1 := Lib.hid hi1
    clear hq hi1
    by_cases hnw : q ≤ 20
    · rw [decide_eq_true hnw] at hok ⊢
      simp only [if_true]
      have HOK := Lib.hid hok
      clear hok hnw
      go_enter Try.func39, Try.ntmps39
      go_wp2_with fail
      generalize (w.alloc (.cells #[.int .i64 0, .int .i64 0, .slice none 0 0, .slice none 0 0] 28)) = w1 at *
      refine (meGood_any n wd _).mono ?_; rintro e w' ⟨rfl, rfl⟩
      rw [hg]
      go_wp2_with fail
      refine (l1In_any _ _ _ _).mono ?_; rintro e w' ⟨rfl, rfl⟩
      rw [show inB 0 0 3 = true from rfl]
      go_wp2_with fail
      refine (meScan_any n wd v _ ⟨by omega, by omega⟩ ⟨by omega, by omega⟩ HV.out).mono ?_; rintro e w2 ⟨ga, gn, gc, oa, on, oc, rfl, og, oo, dd, u2⟩
      rw [← HP.out] at og oo
      rw [← HQ.out, ← HI1.out]
      have V2 := V1.trans (u2.mono V1.size)
      have R2 := R1.below u2
      have Z2 := u2.size
      have hgn := og.len
      have HC : Hid (ciB (q : Int) i1 gn p.1 p.2 = true) := Lib.hid (by have := HOK.out; rw [hgn, Nat.mul_div_cancel _ (by decide)] at this; exact this)
      clear hgn V1 R1 u2
      go_wp2_with fail
      refine (ciIf_yes _ _ _ _ _ p.1 _ _ _ p.2 _ og.flat oo.ints HC.out).mono ?_; rintro e w3 ⟨rfl, u3⟩
      have V3 := V2.trans (u3.mono V2.size)
      have R3 := R2.below u3
      have og3 := og.below u3
      have oo3 := oo.below u3
      have Q1 := Lib.hid og3.feet
      have Q2 := Lib.hid oo3.feet
      clear V2 R2 og oo u3
      have r0 : w3.cell? ⟨w.heap.size, 0, none⟩ = some (.int .i64 0) := R3.cell 0
      have r1 : w3.cell? ⟨w.heap.size, 1, none⟩ = some (.int .i64 0) := R3.cell 1
      have r2 : w3.cell? ⟨w.heap.size, 2, none⟩ = some (.slice none 0 0) := R3.cell 2
      have r3 : w3.cell? ⟨w.heap.size, 3, none⟩ = some (.slice none 0 0) := R3.cell 3
      have q0 : w3.frozen? ⟨w.heap.size, 0, none⟩ = false := R3.frozen 0
      have q1 : w3.frozen? ⟨w.heap.size, 1, none⟩ = false := R3.frozen 1
      have q2 : w3.frozen? ⟨w.heap.size, 2, none⟩ = false := R3.frozen 2
      have q3 : w3.frozen? ⟨w.heap.size, 3, none⟩ = false := R3.frozen 3
      go_wp2
      have GG := (((((Only.refl [w.heap.size] w3).setCell ⟨w.heap.size, 0, none⟩ (.int .i64 (q : Int)) (by simp)).setCell ⟨w.heap.size, 1, none⟩ (.int .i64 i1) (by simp)).setCell ⟨w.heap.size, 2, none⟩ (.slice ga gn gc) (by simp)).setCell ⟨w.heap.size, 3, none⟩ (.slice oa on oc) (by simp))
      exact bodyPost_ret (v := .tuple #[.agg #[.int .i64 (q : Int), .int .i64 i1, .slice ga gn gc, .slice oa on oc], .bool true]) (by simp [results, Try.results39, go_sem, r0, r1, r2, r3]) rfl ⟨ga, gn, gc, oa, on, oc, rfl, (og3.only GG (fun k hk hk' => by have := Q1.out k hk; simp at hk'; omega)).lower (by omega), (oo3.only GG (fun k hk hk' => by have := Q2.out k hk; simp at hk'; omega)).lower (by omega), dd, V3.trans (GG.below V3.size (by simp))⟩
    · rw [decide_eq_false hnw] at hok ⊢
      simp only [Bool.false_eq_true, if_false]
      have HOK := Lib.hid hok
      clear hok hnw
      go_enter Try.func39, Try.ntmps39
      go_wp2_with fail
      generalize (w.alloc (.cells #[.int .i64 0, .int .i64 0, .slice none 0 0, .slice none 0 0] 28)) = w1 at *
      refine (meGood_any n wd _).mono ?_; rintro e w' ⟨rfl, rfl⟩
      rw [hg]
      go_wp2_with fail
      refine (l1In_any _ _ _ _).mono ?_; rintro e w' ⟨rfl, rfl⟩
      rw [show inB 0 0 3 = true from rfl]
      go_wp2_with fail
      refine (meScan_any n wd v _ ⟨by omega, by omega⟩ ⟨by omega, by omega⟩ HV.out).mono ?_; rintro e w2 ⟨ga, gn, gc, oa, on, oc, rfl, og, oo, dd, u2⟩
      rw [← HP.out] at og oo
      rw [← HQ.out, ← HI1.out]
      have V2 := V1.trans (u2.mono V1.size)
      have R2 := R1.below u2
      have Z2 := u2.size
      have hgn := og.len
      have HC : Hid (ciB (q : Int) i1 gn p.1 p.2 = false) := Lib.hid (by have := HOK.out; rw [hgn, Nat.mul_div_cancel _ (by decide)] at this; exact this)
      clear hgn V1 R1 u2
      go_wp2_with fail
      refine (ciIf_no _ _ _ _ _ p.1 _ _ _ p.2 _ og.flat oo.ints HC.out).mono ?_; rintro e w3 ⟨rfl, u3⟩
      have V3 := V2.trans (u3.mono V2.size)
      have R3 := R2.below u3
      clear V2 R2 og oo u3
      have r0 : w3.cell? ⟨w.heap.size, 0, none⟩ = some (.int .i64 0) := R3.cell 0
      have r1 : w3.cell? ⟨w.heap.size, 1, none⟩ = some (.int .i64 0) := R3.cell 1
      have r2 : w3.cell? ⟨w.heap.size, 2, none⟩ = some (.slice none 0 0) := R3.cell 2
      have r3 : w3.cell? ⟨w.heap.size, 3, none⟩ = some (.slice none 0 0) := R3.cell 3
      have q0 : w3.frozen? ⟨w.heap.size, 0, none⟩ = false := R3.frozen 0
      have q1 : w3.frozen? ⟨w.heap.size, 1, none⟩ = false := R3.frozen 1
      have q2 : w3.frozen? ⟨w.heap.size, 2, none⟩ = false := R3.frozen 2
      have q3 : w3.frozen? ⟨w.heap.size, 3, none⟩ = false := R3.frozen 3
      go_wp2
      have GG := (((((Only.refl [w.heap.size] w3).setCell ⟨w.heap.size, 0, none⟩ (.int .i64 0) (by simp)).setCell ⟨w.heap.size, 1, none⟩ (.int .i64 0) (by simp)).setCell ⟨w.heap.size, 2, none⟩ (.slice none 0 0) (by simp)).setCell ⟨w.heap.size, 3, none⟩ (.slice none 0 0) (by simp))
      exact bodyPost_ret (v := .tuple #[.agg #[.int .i64 0, .int .i64 0, .slice none 0 0, .slice none 0 0], .bool false]) (by simp [results, Try.results39, go_sem, r0, r1, r2, r3]) rfl ⟨none, 0, 0, none, 0, 0, rfl, OwnC.nil0 _ _ _ _ _, (Own.nil0 _ _ _).rd, foot_nil _ _, V3.trans (GG.below V3.size (by simp))⟩
set_option maxHeartbeats 8000000 in
set_option maxRecDepth 100000 in
theorem meIf_1 (n wd : Int) (w : World) :
    Calls Try.prog 39 #[.int .i64 1, .int .i64 n, .int .i64 wd] w fun e w' => ∃ ga gn gc oa on oc, e = .returned (.tuple #[.agg #[.int .i64 (mS0 n wd), .int .i64 (mS1 1 n wd), .slice ga gn gc, .slice oa on oc], .bool (memB n wd)]) ∧ OwnF 3 eGate w' w.heap.size ga gn gc (mG 1 n wd) ∧ Rd w' w.heap.size oa on oc (mO 1 n wd) ∧ Disj (foot ga gc) (foot oa oc) ∧ Below w.heap.size w w' := by
  have V1 : Below w.heap.size w (w.alloc (.cells #[.int .i64 0, .int .i64 0, .slice none 0 0, .slice none 0 0] 28)) := (Below.refl _ _).alloc (Nat.le_refl _) _
  have R1 : Blk (w.alloc (.cells #[.int .i64 0, .int .i64 0, .slice none 0 0, .slice none 0 0] 28)) w.heap.size 28 #[.int .i64 0, .int .i64 0, .slice none 0 0, .slice none 0 0] := Blk.new w _ _
  have Z1 : w.heap.size + 1 ≤ (w.alloc (.cells #[.int .i64 0, .int .i64 0, .slice none 0 0, .slice none 0 0] 28)).heap.size := by simp
  cases hg : (inB n 1 8 && inB wd 1 4)
  · have hm : memB n wd = false := by unfold memB; rw [hg]; rfl
    unfold mS0 mS1 mG mO
    rw [hm]
    simp only [Bool.false_eq_true, if_false]
    go_enter Try.func39, Try.ntmps39
    go_wp2_with fail
    generalize (w.alloc (.cells #[.int .i64 0, .int .i64 0, .slice none 0 0, .slice none 0 0] 28)) = w1 at *
    refine (meGood_any n wd _).mono ?_; rintro e w' ⟨rfl, rfl⟩
    rw [hg]
    have r0 : w1.cell? ⟨w.heap.size, 0, none⟩ = some (.int .i64 0) := R1.cell 0
    have r1 : w1.cell? ⟨w.heap.size, 1, none⟩ = some (.int .i64 0) := R1.cell 1
    have r2 : w1.cell? ⟨w.heap.size, 2, none⟩ = some (.slice none 0 0) := R1.cell 2
    have r3 : w1.cell? ⟨w.heap.size, 3, none⟩ = some (.slice none 0 0) := R1.cell 3
    have q0 : w1.frozen? ⟨w.heap.size, 0, none⟩ = false := R1.frozen 0
    have q1 : w1.frozen? ⟨w.heap.size, 1, none⟩ = false := R1.frozen 1
    have q2 : w1.frozen? ⟨w.heap.size, 2, none⟩ = false := R1.frozen 2
    have q3 : w1.frozen? ⟨w.heap.size, 3, none⟩ = false := R1.frozen 3
    go_wp2
    have GG := (((((Only.refl [w.heap.size] w1).setCell ⟨w.heap.size, 0, none⟩ (.int .i64 0) (by simp)).setCell ⟨w.heap.size, 1, none⟩ (.int .i64 0) (by simp)).setCell ⟨w.heap.size, 2, none⟩ (.slice none 0 0) (by simp)).setCell ⟨w.heap.size, 3, none⟩ (.slice none 0 0) (by simp))
    exact bodyPost_ret (v := .tuple #[.agg #[.int .i64 0, .int .i64 0, .slice none 0 0, .slice none 0 0], .bool false]) (by simp [results, Try.results39, go_sem, r0, r1, r2, r3]) rfl ⟨none, 0, 0, none, 0, 0, rfl, OwnC.nil0 _ _ _ _ _, (Own.nil0 _ _ _).rd, foot_nil _ _, V1.trans (GG.below V1.size (by simp))⟩
  · have hg2 := hg
    simp only [Bool.and_eq_true] at hg2
    obtain ⟨⟨n1, n2⟩, d1, d2⟩ : (1 ≤ n ∧ n ≤ 8) ∧ 1 ≤ wd ∧ wd ≤ 4 := ⟨inB_true hg2.1, inB_true hg2.2⟩
    clear hg2
    obtain ⟨n, rfl⟩ : ∃ k : Nat, n = k := ⟨n.toNat, by omega⟩
    obtain ⟨wd, rfl⟩ : ∃ k : Nat, wd = k := ⟨wd.toNat, by omega⟩
    have hok := me_ok 1 n wd (by omega) (by omega) (by omega) (by omega)
    have eM : meMore 1 wd = 0 := by unfold meMore; simp
    have hmd : memB n wd = decide (n * wd ≤ 20) := by unfold memB; rw [hg, Bool.true_and]; rw [decide_eq_decide, ← Int.natCast_mul]; omega
    obtain ⟨v, hv⟩ : ∃ v, wid (n : Int) = v := ⟨_, rfl⟩
    rw [eM, hv, Int.natCast_add] at hok
    have HV := Lib.hid hv
    unfold mS0 mS1 mG mO
    rw [hmd]
    simp only [Int.toNat_natCast]
    rw [eM, hv]
    have e3 : ((n : Int) * (wd : Int)) = ((n * wd : Nat) : Int) := (Int.natCast_mul _ _).symm
    rw [e3]
    clear e3 hv eM hmd
    obtain ⟨p, hp⟩ : ∃ p, p = meG 1 n wd := ⟨_, rfl⟩
    rw [← hp] at hok ⊢
    have HP := Lib.hid hp
    clear hp
    obtain ⟨q, hq⟩ : ∃ q, q = n * wd := ⟨_, rfl⟩
    obtain ⟨i1, hi1⟩ : ∃ i1, i1 = (v : Int) + ((0 : Nat) : Int) := ⟨_, rfl⟩
    rw [← hq, ← hi1] at hok ⊢
    have HQ := Lib.hid hq
    have HI1 := Lib.hid hi1
    clear hq hi1
    by_cases hnw : q ≤ 20
    · rw [decide_eq_true hnw] at hok ⊢
      simp only [if_true]
      have HOK := Lib.hid hok
      clear hok hnw
      go_enter Try.func39, Try.ntmps39
      go_wp2_with fail
      generalize (w.alloc (.cells #[.int .i64 0, .int .i64 0, .slice none 0 0, .slice none 0 0] 28)) = w1 at *
      refine (meGood_any n wd _).mono ?_; rintro e w' ⟨rfl, rfl⟩
      rw [hg]
      go_wp2_with fail
      refine (l1In_any _ _ _ _).mono ?_; rintro e w' ⟨rfl, rfl⟩
      rw [show inB 1 0 3 = true from rfl]
      go_wp2_with fail
      refine (meTree_any n wd v _ ⟨by omega, by omega⟩ ⟨by omega, by omega⟩ HV.out).mono ?_; rintro e w2 ⟨ga, gn, gc, oa, on, oc, rfl, og, oo, dd, u2⟩
      rw [← HP.out] at og oo
      rw [← HQ.out, ← HI1.out]
      have V2 := V1.trans (u2.mono V1.size)
      have R2 := R1.below u2
      have Z2 := u2.size
      have hgn := og.len
      have HC : Hid (ciB (q : Int) i1 gn p.1 p.2 = true) := Lib.hid (by have := HOK.out; rw [hgn, Nat.mul_div_cancel _ (by decide)] at this; exact this)
      clear hgn V1 R1 u2
      go_wp2_with fail
      refine (ciIf_yes _ _ _ _ _ p.1 _ _ _ p.2 _ og.flat oo.ints HC.out).mono ?_; rintro e w3 ⟨rfl, u3⟩
      have V3 := V2.trans (u3.mono V2.size)
      have R3 := R2.below u3
      have og3 := og.below u3
      have oo3 := oo.below u3
      have Q1 := Lib.hid og3.feet
      have Q2 := Lib.hid oo3.feet
      clear V2 R2 og oo u3
      have r0 : w3.cell? ⟨w.heap.size, 0, none⟩ = some (.int .i64 0) := R3.cell 0
      have r1 : w3.cell? ⟨w.heap.size, 1, none⟩ = some (.int .i64 0) := R3.cell 1
      have r2 : w3.cell? ⟨w.heap.size, 2, none⟩ = some (.slice none 0 0) := R3.cell 2
      have r3 : w3.cell? ⟨w.heap.size, 3, none⟩ = some (.slice none 0 0) := R3.cell 3
      have q0 : w3.frozen? ⟨w.heap.size, 0, none⟩ = false := R3.frozen 0
      have q1 : w3.frozen? ⟨w.heap.size, 1, none⟩ = false := R3.frozen 1
      have q2 : w3.frozen? ⟨w.heap.size, 2, none⟩ = false := R3.frozen 2
      have q3 : w3.frozen? ⟨w.heap.size, 3, none⟩ = false := R3.frozen 3
      go_wp2
      have GG := (((((Only.refl [w.heap.size] w3).setCell ⟨w.heap.size, 0, none⟩ (.int .i64 (q : Int)) (by simp)).setCell ⟨w.heap.size, 1, none⟩ (.int .i64 i1) (by simp)).setCell ⟨w.heap.size, 2, none⟩ (.slice ga gn gc) (by simp)).setCell ⟨w.heap.size, 3, none⟩ (.slice oa on oc) (by simp))
      exact bodyPost_ret (v := .tuple #[.agg #[.int .i64 (q : Int), .int .i64 i1, .slice ga gn gc, .slice oa on oc], .bool true]) (by simp [results, Try.results39, go_sem, r0, r1, r2, r3]) rfl ⟨ga, gn, gc, oa, on, oc, rfl, (og3.only GG (fun k hk hk' => by have := Q1.out k hk; simp at hk'; omega)).lower (by omega), (oo3.only GG (fun k hk hk' => by have := Q2.out k hk; simp at hk'; omega)).lower (by omega), dd, V3.trans (GG.below V3.size (by simp))⟩
    · rw [decide_eq_false hnw] at hok ⊢
      simp only [Bool.false_eq_true, if_false]
      have HOK := Lib.hid hok
      clear hok hnw
      go_enter Try.func39, Try.ntmps39
      go_wp2_with fail
      generalize (w.alloc (.cells #[.int .i64 0, .int .i64 0, .slice none 0 0, .slice none 0 0] 28)) = w1 at *
      refine (meGood_any n wd _).mono ?_; rintro e w' ⟨rfl, rfl⟩
      rw [hg]
      go_wp2_with fail
      refine (l1In_any _ _ _ _).mono ?_; rintro e w' ⟨rfl, rfl⟩
      rw [show inB 1 0 3 = true from rfl]
      go_wp2_with fail
      refine (meTree_any n wd v _ ⟨by omega, by omega⟩ ⟨by omega, by omega⟩ HV.out).mono ?_; rintro e w2 ⟨ga, gn, gc, oa, on, oc, rfl, og, oo, dd, u2⟩
      rw [← HP.out] at og oo
      rw [← HQ.out, ← HI1.out]
      have V2 := V1.trans (u2.mono V1.size)
      have R2 := R1.below u2
      have Z2 := u2.size
      have hgn := og.len
      have HC : Hid (ciB (q : Int) i1 gn p.1 p.2 = false) := Lib.hid (by have := HOK.out; rw [hgn, Nat.mul_div_cancel _ (by decide)] at this; exact this)
      clear hgn V1 R1 u2
      go_wp2_with fail
      refine (ciIf_no _ _ _ _ _ p.1 _ _ _ p.2 _ og.flat oo.ints HC.out).mono ?_; rintro e w3 ⟨rfl, u3⟩
      have V3 := V2.trans (u3.mono V2.size)
      have R3 := R2.below u3
      clear V2 R2 og oo u3
      have r0 : w3.cell? ⟨w.heap.size, 0, none⟩ = some (.int .i64 0) := R3.cell 0
      have r1 : w3.cell? ⟨w.heap.size, 1, none⟩ = some (.int .i64 0) := R3.cell 1
      have r2 : w3.cell? ⟨w.heap.size, 2, none⟩ = some (.slice none 0 0) := R3.cell 2
      have r3 : w3.cell? ⟨w.heap.size, 3, none⟩ = some (.slice none 0 0) := R3.cell 3
      have q0 : w3.frozen? ⟨w.heap.size, 0, none⟩ = false := R3.frozen 0
      have q1 : w3.frozen? ⟨w.heap.size, 1, none⟩ = false := R3.frozen 1
      have q2 : w3.frozen? ⟨w.heap.size, 2, none⟩ = false := R3.frozen 2
      have q3 : w3.frozen? ⟨w.heap.size, 3, none⟩ = false := R3.frozen 3
      go_wp2
      have GG := (((((Only.refl [w.heap.size] w3).setCell ⟨w.heap.size, 0, none⟩ (.int .i64 0) (by simp)).setCell ⟨w.heap.size, 1, none⟩ (.int .i64 0) (by simp)).setCell ⟨w.heap.size, 2, none⟩ (.slice none 0 0) (by simp)).setCell ⟨w.heap.size, 3, none⟩ (.slice none 0 0) (by simp))
      exact bodyPost_ret (v := .tuple #[.agg #[.int .i64 0, .int .i64 0, .slice none 0 0, .slice none 0 0], .bool false]) (by simp [results, Try.results39, go_sem, r0, r1, r2, r3]) rfl ⟨none, 0, 0, none, 0, 0, rfl, OwnC.nil0 _ _ _ _ _, (Own.nil0 _ _ _).rd, foot_nil _ _, V3.trans (GG.below V3.size (by simp))⟩
set_option maxHeartbeats 8000000 in
set_option maxRecDepth 100000 in
theorem meIf_2 (n wd : Int) (w : World) :
    Calls Try.prog 39 #[.int .i64 2, .int .i64 n, .int .i64 wd] w fun e w' => ∃ ga gn gc oa on oc, e = .returned (.tuple #[.agg #[.int .i64 (mS0 n wd), .int .i64 (mS1 2 n wd), .slice ga gn gc, .slice oa on oc], .bool (memB n wd)]) ∧ OwnF 3 eGate w' w.heap.size ga gn gc (mG 2 n wd) ∧ Rd w' w.heap.size oa on oc (mO 2 n wd) ∧ Disj (foot ga gc) (foot oa oc) ∧ Below w.heap.size w w' := by
  have V1 : Below w.heap.size w (w.alloc (.cells #[.int .i64 0, .int .i64 0, .slice none 0 0, .slice none 0 0] 28)) := (Below.refl _ _).alloc (Nat.le_refl _) _
  have R1 : Blk (w.alloc (.cells #[.int .i64 0, .int .i64 0, .slice none 0 0, .slice none 0 0] 28)) w.heap.size 28 #[.int .i64 0, .int .i64 0, .slice none 0 0, .slice none 0 0] := Blk.new w _ _
  have Z1 : w.heap.size + 1 ≤ (w.alloc (.cells #[.int .i64 0, .int .i64 0, .slice none 0 0, .slice none 0 0] 28)).heap.size := by simp
  cases hg : (inB n 1 8 && inB wd 1 4)
  · have hm : memB n wd = false := by unfold memB; rw [hg]; rfl
    unfold mS0 mS1 mG mO
    rw [hm]
    simp only [Bool.false_eq_true, if_false]
    go_enter Try.func39, Try.ntmps39
    go_wp2_with fail
    generalize (w.alloc (.cells #[.int .i64 0, .int .i64 0, .slice none 0 0, .slice none 0 0] 28)) = w1 at *
    refine (meGood_any n wd _).mono ?_; rintro e w' ⟨rfl, rfl⟩
    rw [hg]
    have r0 : w1.cell? ⟨w.heap.size, 0, none⟩ = some (.int .i64 0) := R1.cell 0
    have r1 : w1.cell? ⟨w.heap.size, 1, none⟩ = some (.int .i64 0) := R1.cell 1
    have r2 : w1.cell? ⟨w.heap.size, 2, none⟩ = some (.slice none 0 0) := R1.cell 2
    have r3 : w1.cell? ⟨w.heap.size, 3, none⟩ = some (.slice none 0 0) := R1.cell 3
    have q0 : w1.frozen? ⟨w.heap.size, 0, none⟩ = false := R1.frozen 0
    have q1 : w1.frozen? ⟨w.heap.size, 1, none⟩ = false := R1.frozen 1
    have q2 : w1.frozen? ⟨w.heap.size, 2, none⟩ = false := R1.frozen 2
    have q3 : w1.frozen? ⟨w.heap.size, 3, none⟩ = false := R1.frozen 3
    go_wp2
    have GG := (((((Only.refl [w.heap.size] w1).setCell ⟨w.heap.size, 0, none⟩ (.int .i64 0) (by simp)).setCell ⟨w.heap.size, 1, none⟩ (.int .i64 0) (by simp)).setCell ⟨w.heap.size, 2, none⟩ (.slice none 0 0) (by simp)).setCell ⟨w.heap.size, 3, none⟩ (.slice none 0 0) (by simp))
    exact bodyPost_ret (v := .tuple #[.agg #[.int .i64 0, .int .i64 0, .slice none 0 0, .slice none 0 0], .bool false]) (by simp [results, Try.results39, go_sem, r0, r1, r2, r3]) rfl ⟨none, 0, 0, none, 0, 0, rfl, OwnC.nil0 _ _ _ _ _, (Own.nil0 _ _ _).rd, foot_nil _ _, V1.trans (GG.below V1.size (by simp))⟩
  · have hg2 := hg
    simp only [Bool.and_eq_true] at hg2
    obtain ⟨⟨n1, n2⟩, d1, d2⟩ : (1 ≤ n ∧ n ≤ 8) ∧ 1 ≤ wd ∧ wd ≤ 4 := ⟨inB_true hg2.1, inB_true hg2.2⟩
    clear hg2
    obtain ⟨n, rfl⟩ : ∃ k : Nat, n = k := ⟨n.toNat, by omega⟩
    obtain ⟨wd, rfl⟩ : ∃ k : Nat, wd = k := ⟨wd.toNat, by omega⟩
    have hok := me_ok 2 n wd (by omega) (by omega) (by omega) (by omega)
    have eM : meMore 2 wd = wd := by unfold meMore; simp
    have hmd : memB n wd = decide (n * wd ≤ 20) := by unfold memB; rw [hg, Bool.true_and]; rw [decide_eq_decide, ← Int.natCast_mul]; omega
    obtain ⟨v, hv⟩ : ∃ v, wid (n : Int) = v := ⟨_, rfl⟩
    rw [eM, hv, Int.natCast_add] at hok
    have HV := Lib.hid hv
    unfold mS0 mS1 mG mO
    rw [hmd]
    simp only [Int.toNat_natCast]
    rw [eM, hv]
    have e3 : ((n : Int) * (wd : Int)) = ((n * wd : Nat) : Int) := (Int.natCast_mul _ _).symm
    rw [e3]
    clear e3 hv eM hmd
    obtain ⟨p, hp⟩ : ∃ p, p = meG 2 n wd := ⟨_, rfl⟩
    rw [← hp] at hok ⊢
    have HP := Lib.hid hp
    clear hp
    obtain ⟨q, hq⟩ : ∃ q, q = n * wd := ⟨_, rfl⟩
    obtain ⟨i1, hi1⟩ : ∃ i1, i1 = (v : Int) + ((wd : Nat) : Int) := ⟨_, rfl⟩
    rw [← hq, ← hi1] at hok ⊢
    have HQ := Lib.hid hq
    have HI1 := Lib.hid hi1
    clear hq hi1
    by_cases hnw : q ≤ 20
    · rw [decide_eq_true hnw] at hok ⊢
      simp only [if_true]
      have HOK := Lib.hid hok
      clear hok hnw
      go_enter Try.func39, Try.ntmps39
      go_wp2_with fail
      generalize (w.alloc (.cells #[.int .i64 0, .int .i64 0, .slice none 0 0, .slice none 0 0] 28)) = w1 at *
      refine (meGood_any n wd _).mono ?_; rintro e w' ⟨rfl, rfl⟩
      rw [hg]
      go_wp2_with fail
      refine (l1In_any _ _ _ _).mono ?_; rintro e w' ⟨rfl, rfl⟩
      rw [show inB 2 0 3 = true from rfl]
      go_wp2_with fail
      refine (meWrite_any n wd v _ ⟨by omega, by omega⟩ ⟨by omega, by omega⟩ HV.out).mono ?_; rintro e w2 ⟨ga, gn, gc, oa, on, oc, rfl, og, oo, dd, u2⟩
      rw [← HP.out] at og oo
      rw [← HQ.out, ← HI1.out]
      have V2 := V1.trans (u2.mono V1.size)
      have R2 := R1.below u2
      have Z2 := u2.size
      have hgn := og.len
      have HC : Hid (ciB (q : Int) i1 gn p.1 p.2 = true) := Lib.hid (by have := HOK.out; rw [hgn, Nat.mul_div_cancel _ (by decide)] at this; exact this)
      clear hgn V1 R1 u2
      go_wp2_with fail
      refine (ciIf_yes _ _ _ _ _ p.1 _ _ _ p.2 _ og.flat oo.ints HC.out).mono ?_; rintro e w3 ⟨rfl, u3⟩
      have V3 := V2.trans (u3.mono V2.size)
      have R3 := R2.below u3
      have og3 := og.below u3
      have oo3 := oo.below u3
      have Q1 := Lib.hid og3.feet
      have Q2 := Lib.hid oo3.feet
      clear V2 R2 og oo u3
      have r0 : w3.cell? ⟨w.heap.size, 0, none⟩ = some (.int .i64 0) := R3.cell 0
      have r1 : w3.cell? ⟨w.heap.size, 1, none⟩ = some (.int .i64 0) := R3.cell 1
      have r2 : w3.cell? ⟨w.heap.size, 2, none⟩ = some (.slice none 0 0) := R3.cell 2
      have r3 : w3.cell? ⟨w.heap.size, 3, none⟩ = some (.slice none 0 0) := R3.cell 3
      have q0 : w3.frozen? ⟨w.heap.size, 0, none⟩ = false := R3.frozen 0
      have q1 : w3.frozen? ⟨w.heap.size, 1, none⟩ = false := R3.frozen 1
      have q2 : w3.frozen? ⟨w.heap.size, 2, none⟩ = false := R3.frozen 2
      have q3 : w3.frozen? ⟨w.heap.size, 3, none⟩ = false := R3.frozen 3
      go_wp2
      have GG := (((((Only.refl [w.heap.size] w3).setCell ⟨w.heap.size, 0, none⟩ (.int .i64 (q : Int)) (by simp)).setCell ⟨w.heap.size, 1, none⟩ (.int .i64 i1) (by simp)).setCell ⟨w.heap.size, 2, none⟩ (.slice ga gn gc) (by simp)).setCell ⟨w.heap.size, 3, none⟩ (.slice oa on oc) (by simp))
      exact bodyPost_ret (v := .tuple #[.agg #[.int .i64 (q : Int), .int .i64 i1, .slice ga gn gc, .slice oa on oc], .bool true]) (by simp [results, Try.results39, go_sem, r0, r1, r2, r3]) rfl ⟨ga, gn, gc, oa, on, oc, rfl, (og3.only GG (fun k hk hk' => by have := Q1.out k hk; simp at hk'; omega)).lower (by omega), (oo3.only GG (fun k hk hk' => by have := Q2.out k hk; simp at hk'; omega)).lower (by omega), dd, V3.trans (GG.below V3.size (by simp))⟩
    · rw [decide_eq_false hnw] at hok ⊢
      simp only [Bool.false_eq_true, if_false]
      have HOK := Lib.hid hok
      clear hok hnw
      go_enter Try.func39, Try.ntmps39
      go_wp2_with fail
      generalize (w.alloc (.cells #[.int .i64 0, .int .i64 0, .slice none 0 0, .slice none 0 0] 28)) = w1 at *
      refine (meGood_any n wd _).mono ?_; rintro e w' ⟨rfl, rfl⟩
      rw [hg]
      go_wp2_with fail
      refine (l1In_any _ _ _ _).mono ?_; rintro e w' ⟨rfl, rfl⟩
      rw [show inB 2 0 3 = true from rfl]
      go_wp2_with fail
      refine (meWrite_any n wd v _ ⟨by omega, by omega⟩ ⟨by omega, by omega⟩ HV.out).mono ?_; rintro e w2 ⟨ga, gn, gc, oa, on, oc, rfl, og, oo, dd, u2⟩
      rw [← HP.out] at og oo
      rw [← HQ.out, ← HI1.out]
      have V2 := V1.trans (u2.mono V1.size)
      have R2 := R1.below u2
      have Z2 := u2.size
      have hgn := og.len
      have HC : Hid (ciB (q : Int) i1 gn p.1 p.2 = false) := Lib.hid (by have := HOK.out; rw [hgn, Nat.mul_div_cancel _ (by decide)] at this; exact this)
      clear hgn V1 R1 u2
      go_wp2_with fail
      refine (ciIf_no _ _ _ _ _ p.1 _ _ _ p.2 _ og.flat oo.ints HC.out).mono ?_; rintro e w3 ⟨rfl, u3⟩
      have V3 := V2.trans (u3.mono V2.size)
      have R3 := R2.below u3
      clear V2 R2 og oo u3
      have r0 : w3.cell? ⟨w.heap.size, 0, none⟩ = some (.int .i64 0) := R3.cell 0
      have r1 : w3.cell? ⟨w.heap.size, 1, none⟩ = some (.int .i64 0) := R3.cell 1
      have r2 : w3.cell? ⟨w.heap.size, 2, none⟩ = some (.slice none 0 0) := R3.cell 2
      have r3 : w3.cell? ⟨w.heap.size, 3, none⟩ = some (.slice none 0 0) := R3.cell 3
      have q0 : w3.frozen? ⟨w.heap.size, 0, none⟩ = false := R3.frozen 0
      have q1 : w3.frozen? ⟨w.heap.size, 1, none⟩ = false := R3.frozen 1
      have q2 : w3.frozen? ⟨w.heap.size, 2, none⟩ = false := R3.frozen 2
      have q3 : w3.frozen? ⟨w.heap.size, 3, none⟩ = false := R3.frozen 3
      go_wp2
      have GG := (((((Only.refl [w.heap.size] w3).setCell ⟨w.heap.size, 0, none⟩ (.int .i64 0) (by simp)).setCell ⟨w.heap.size, 1, none⟩ (.int .i64 0) (by simp)).setCell ⟨w.heap.size, 2, none⟩ (.slice none 0 0) (by simp)).setCell ⟨w.heap.size, 3, none⟩ (.slice none 0 0) (by simp))
      exact bodyPost_ret (v := .tuple #[.agg #[.int .i64 0, .int .i64 0, .slice none 0 0, .slice none 0 0], .bool false]) (by simp [results, Try.results39, go_sem, r0, r1, r2, r3]) rfl ⟨none, 0, 0, none, 0, 0, rfl, OwnC.nil0 _ _ _ _ _, (Own.nil0 _ _ _).rd, foot_nil _ _, V3.trans (GG.below V3.size (by simp))⟩
set_option maxHeartbeats 8000000 in
set_option maxRecDepth 100000 in
theorem meIf_3 (n wd : Int) (w : World) :
    Calls Try.prog 39 #[.int .i64 3, .int .i64 n, .int .i64 wd] w fun e w' => ∃ ga gn gc oa on oc, e = .returned (.tuple #[.agg #[.int .i64 (mS0 n wd), .int .i64 (mS1 3 n wd), .slice ga gn gc, .slice oa on oc], .bool (memB n wd)]) ∧ OwnF 3 eGate w' w.heap.size ga gn gc (mG 3 n wd) ∧ Rd w' w.heap.size oa on oc (mO 3 n wd) ∧ Disj (foot ga gc) (foot oa oc) ∧ Below w.heap.size w w' := by
  have V1 : Below w.heap.size w (w.alloc (.cells #[.int .i64 0, .int .i64 0, .slice none 0 0, .slice none 0 0] 28)) := (Below.refl _ _).alloc (Nat.le_refl _) _
  have R1 : Blk (w.alloc (.cells #[.int .i64 0, .int .i64 0, .slice none 0 0, .slice none 0 0] 28)) w.heap.size 28 #[.int .i64 0, .int .i64 0, .slice none 0 0, .slice none 0 0] := Blk.new w _ _
  have Z1 : w.heap.size + 1 ≤ (w.alloc (.cells #[.int .i64 0, .int .i64 0, .slice none 0 0, .slice none 0 0] 28)).heap.size := by simp
  cases hg : (inB n 1 8 && inB wd 1 4)
  · have hm : memB n wd = false := by unfold memB; rw [hg]; rfl
    unfold mS0 mS1 mG mO
    rw [hm]
    simp only [Bool.false_eq_true, if_false]
    go_enter Try.func39, Try.ntmps39
    go_wp2_with fail
    generalize (w.alloc (.cells #[.int .i64 0, .int .i64 0, .slice none 0 0, .slice none 0 0] 28)) = w1 at *
    refine (meGood_any n wd _).mono ?_; rintro e w' ⟨rfl, rfl⟩
    rw [hg]
    have r0 : w1.cell? ⟨w.heap.size, 0, none⟩ = some (.int .i64 0) := R1.cell 0
    have r1 : w1.cell? ⟨w.heap.size, 1, none⟩ = some (.int .i64 0) := R1.cell 1
    have r2 : w1.cell? ⟨w.heap.size, 2, none⟩ = some (.slice none 0 0) := R1.cell 2
    have r3 : w1.cell? ⟨w.heap.size, 3, none⟩ = some (.slice none 0 0) := R1.cell 3
    have q0 : w1.frozen? ⟨w.heap.size, 0, none⟩ = false := R1.frozen 0
    have q1 : w1.frozen? ⟨w.heap.size, 1, none⟩ = false := R1.frozen 1
    have q2 : w1.frozen? ⟨w.heap.size, 2, none⟩ = false := R1.frozen 2
    have q3 : w1.frozen? ⟨w.heap.size, 3, none⟩ = false := R1.frozen 3
    go_wp2
    have GG := (((((Only.refl [w.heap.size] w1).setCell ⟨w.heap.size, 0, none⟩ (.int .i64 0) (by simp)).setCell ⟨w.heap.size, 1, none⟩ (.int .i64 0) (by simp)).setCell ⟨w.heap.size, 2, none⟩ (.slice none 0 0) (by simp)).setCell ⟨w.heap.size, 3, none⟩ (.slice none 0 0) (by simp))
    exact bodyPost_ret (v := .tuple #[.agg #[.int .i64 0, .int .i64 0, .slice none 0 0, .slice none 0 0], .bool false]) (by simp [results, Try.results39, go_sem, r0, r1, r2, r3]) rfl ⟨none, 0, 0, none, 0, 0, rfl, OwnC.nil0 _ _ _ _ _, (Own.nil0 _ _ _).rd, foot_nil _ _, V1.trans (GG.below V1.size (by simp))⟩
  · have hg2 := hg
    simp only [Bool.and_eq_true] at hg2
    obtain ⟨⟨n1, n2⟩, d1, d2⟩ : (1 ≤ n ∧ n ≤ 8) ∧ 1 ≤ wd ∧ wd ≤ 4 := ⟨inB_true hg2.1, inB_true hg2.2⟩
    clear hg2
    obtain ⟨n, rfl⟩ : ∃ k : Nat, n = k := ⟨n.toNat, by omega⟩
    obtain ⟨wd, rfl⟩ : ∃ k : Nat, wd = k := ⟨wd.toNat, by omega⟩
    have hok := me_ok 3 n wd (by omega) (by omega) (by omega) (by omega)
    have eM : meMore 3 wd = 0 := by unfold meMore; simp
    have hmd : memB n wd = decide (n * wd ≤ 20) := by unfold memB; rw [hg, Bool.true_and]; rw [decide_eq_decide, ← Int.natCast_mul]; omega
    obtain ⟨v, hv⟩ : ∃ v, wid (n : Int) = v := ⟨_, rfl⟩
    rw [eM, hv, Int.natCast_add] at hok
    have HV := Lib.hid hv
    unfold mS0 mS1 mG mO
    rw [hmd]
    simp only [Int.toNat_natCast]
    rw [eM, hv]
    have e3 : ((n : Int) * (wd : Int)) = ((n * wd : Nat) : Int) := (Int.natCast_mul _ _).symm
    rw [e3]
    clear e3 hv eM hmd
    obtain ⟨p, hp⟩ : ∃ p, p = meG 3 n wd := ⟨_, rfl⟩
    rw [← hp] at hok ⊢
    have HP := Lib.hid hp
    clear hp
    obtain ⟨q, hq⟩ : ∃ q, q = n * wd := ⟨_, rfl⟩
    obtain ⟨i1, hi1⟩ : ∃ i1, i1 = (v : Int) + ((0 : Nat) : Int) := ⟨_, rfl⟩
    rw [← hq, ← hi1] at hok ⊢
    have HQ := Lib.hid hq
    have HI1 := Lib.hid hi1
    clear hq hi1
    by_cases hnw : q ≤ 20
    · rw [decide_eq_true hnw] at hok ⊢
      simp only [if_true]
      have HOK := Lib.hid hok
      clear hok hnw
      go_enter Try.func39, Try.ntmps39
      go_wp2_with fail
      generalize (w.alloc (.cells #[.int .i64 0, .int .i64 0, .slice none 0 0, .slice none 0 0] 28)) = w1 at *
      refine (meGood_any n wd _).mono ?_; rintro e w' ⟨rfl, rfl⟩
      rw [hg]
      go_wp2_with fail
      refine (l1In_any _ _ _ _).mono ?_; rintro e w' ⟨rfl, rfl⟩
      rw [show inB 3 0 3 = true from rfl]
      go_wp2_with fail
      refine (meTurn_any n wd v _ ⟨by omega, by omega⟩ ⟨by omega, by omega⟩ HV.out).mono ?_; rintro e w2 ⟨ga, gn, gc, oa, on, oc, rfl, og, oo, dd, u2⟩
      rw [← HP.out] at og oo
      rw [← HQ.out, ← HI1.out]
      have V2 := V1.trans (u2.mono V1.size)
      have R2 := R1.below u2
      have Z2 := u2.size
      have hgn := og.len
      have HC : Hid (ciB (q : Int) i1 gn p.1 p.2 = true) := Lib.hid (by have := HOK.out; rw [hgn, Nat.mul_div_cancel _ (by decide)] at this; exact this)
      clear hgn V1 R1 u2
      go_wp2_with fail
      refine (ciIf_yes _ _ _ _ _ p.1 _ _ _ p.2 _ og.flat oo.ints HC.out).mono ?_; rintro e w3 ⟨rfl, u3⟩
      have V3 := V2.trans (u3.mono V2.size)
      have R3 := R2.below u3
      have og3 := og.below u3
      have oo3 := oo.below u3
      have Q1 := Lib.hid og3.feet
      have Q2 := Lib.hid oo3.feet
      clear V2 R2 og oo u3
      have r0 : w3.cell? ⟨w.heap.size, 0, none⟩ = some (.int .i64 0) := R3.cell 0
      have r1 : w3.cell? ⟨w.heap.size, 1, none⟩ = some (.int .i64 0) := R3.cell 1
      have r2 : w3.cell? ⟨w.heap.size, 2, none⟩ = some (.slice none 0 0) := R3.cell 2
      have r3 : w3.cell? ⟨w.heap.size, 3, none⟩ = some (.slice none 0 0) := R3.cell 3
      have q0 : w3.frozen? ⟨w.heap.size, 0, none⟩ = false := R3.frozen 0
      have q1 : w3.frozen? ⟨w.heap.size, 1, none⟩ = false := R3.frozen 1
      have q2 : w3.frozen? ⟨w.heap.size, 2, none⟩ = false := R3.frozen 2
      have q3 : w3.frozen? ⟨w.heap.size, 3, none⟩ = false := R3.frozen 3
      go_wp2
      have GG := (((((Only.refl [w.heap.size] w3).setCell ⟨w.heap.size, 0, none⟩ (.int .i64 (q : Int)) (by simp)).setCell ⟨w.heap.size, 1, none⟩ (.int .i64 i1) (by simp)).setCell ⟨w.heap.size, 2, none⟩ (.slice ga gn gc) (by simp)).setCell ⟨w.heap.size, 3, none⟩ (.slice oa on oc) (by simp))
      exact bodyPost_ret (v := .tuple #[.agg #[.int .i64 (q : Int), .int .i64 i1, .slice ga gn gc, .slice oa on oc], .bool true]) (by simp [results, Try.results39, go_sem, r0, r1, r2, r3]) rfl ⟨ga, gn, gc, oa, on, oc, rfl, (og3.only GG (fun k hk hk' => by have := Q1.out k hk; simp at hk'; omega)).lower (by omega), (oo3.only GG (fun k hk hk' => by have := Q2.out k hk; simp at hk'; omega)).lower (by omega), dd, V3.trans (GG.below V3.size (by simp))⟩
    · rw [decide_eq_false hnw] at hok ⊢
      simp only [Bool.false_eq_true, if_false]
      have HOK := Lib.hid hok
      clear hok hnw
      go_enter Try.func39, Try.ntmps39
      go_wp2_with fail
      generalize (w.alloc (.cells #[.int .i64 0, .int .i64 0, .slice none 0 0, .slice none 0 0] 28)) = w1 at *
      refine (meGood_any n wd _).mono ?_; rintro e w' ⟨rfl, rfl⟩
      rw [hg]
      go_wp2_with fail
      refine (l1In_any _ _ _ _).mono ?_; rintro e w' ⟨rfl, rfl⟩
      rw [show inB 3 0 3 = true from rfl]
      go_wp2_with fail
      refine (meTurn_any n wd v _ ⟨by omega, by omega⟩ ⟨by omega, by omega⟩ HV.out).mono ?_; rintro e w2 ⟨ga, gn, gc, oa, on, oc, rfl, og, oo, dd, u2⟩
      rw [← HP.out] at og oo
      rw [← HQ.out, ← HI1.out]
      have V2 := V1.trans (u2.mono V1.size)
      have R2 := R1.below u2
      have Z2 := u2.size
      have hgn := og.len
      have HC : Hid (ciB (q : Int) i1 gn p.1 p.2 = false) := Lib.hid (by have := HOK.out; rw [hgn, Nat.mul_div_cancel _ (by decide)] at this; exact this)
      clear hgn V1 R1 u2
      go_wp2_with fail
      refine (ciIf_no _ _ _ _ _ p.1 _ _ _ p.2 _ og.flat oo.ints HC.out).mono ?_; rintro e w3 ⟨rfl, u3⟩
      have V3 := V2.trans (u3.mono V2.size)
      have R3 := R2.below u3
      clear V2 R2 og oo u3
      have r0 : w3.cell? ⟨w.heap.size, 0, none⟩ = some (.int .i64 0) := R3.cell 0
      have r1 : w3.cell? ⟨w.heap.size, 1, none⟩ = some (.int .i64 0) := R3.cell 1
      have r2 : w3.cell? ⟨w.heap.size, 2, none⟩ = some (.slice none 0 0) := R3.cell 2
      have r3 : w3.cell? ⟨w.heap.size, 3, none⟩ = some (.slice none 0 0) := R3.cell 3
      have q0 : w3.frozen? ⟨w.heap.size, 0, none⟩ = false := R3.frozen 0
      have q1 : w3.frozen? ⟨w.heap.size, 1, none⟩ = false := R3.frozen 1
      have q2 : w3.frozen? ⟨w.heap.size, 2, none⟩ = false := R3.frozen 2
      have q3 : w3.frozen? ⟨w.heap.size, 3, none⟩ = false := R3.frozen 3
      go_wp2
      have GG := (((((Only.refl [w.heap.size] w3).setCell ⟨w.heap.size, 0, none⟩ (.int .i64 0) (by simp)).setCell ⟨w.heap.size, 1, none⟩ (.int .i64 0) (by simp)).setCell ⟨w.heap.size, 2, none⟩ (.slice none 0 0) (by simp)).setCell ⟨w.heap.size, 3, none⟩ (.slice none 0 0) (by simp))
      exact bodyPost_ret (v := .tuple #[.agg #[.int .i64 0, .int .i64 0, .slice none 0 0, .slice none 0 0], .bool false]) (by simp [results, Try.results39, go_sem, r0, r1, r2, r3]) rfl ⟨none, 0, 0, none, 0, 0, rfl, OwnC.nil0 _ _ _ _ _, (Own.nil0 _ _ _).rd, foot_nil _ _, V3.trans (GG.below V3.size (by simp))⟩
set_option maxHeartbeats 8000000 in
set_option maxRecDepth 100000 in
theorem spec_ScanReadCircuit_any (n wd : Int) (w : World) :
    Calls Try.prog 7 #[.int .i64 n, .int .i64 wd] w fun e w' => ∃ ga gn gc oa on oc, e = .returned (.tuple #[.agg #[.int .i64 (mS0 n wd), .int .i64 (mS1 0 n wd), .slice ga gn gc, .slice oa on oc], .bool (memB n wd)]) ∧ OwnF 3 eGate w' w.heap.size ga gn gc (mG 0 n wd) ∧ Rd w' w.heap.size oa on oc (mO 0 n wd) ∧ Disj (foot ga gc) (foot oa oc) ∧ Below w.heap.size w w' := by
  have V1 : Below w.heap.size w (w.alloc (.cells #[.int .i64 0, .int .i64 0, .slice none 0 0, .slice none 0 0] 28)) := (Below.refl _ _).alloc (Nat.le_refl _) _
  have R1 : Blk (w.alloc (.cells #[.int .i64 0, .int .i64 0, .slice none 0 0, .slice none 0 0] 28)) w.heap.size 28 #[.int .i64 0, .int .i64 0, .slice none 0 0, .slice none 0 0] := Blk.new w _ _
  have Z1 : w.heap.size + 1 ≤ (w.alloc (.cells #[.int .i64 0, .int .i64 0, .slice none 0 0, .slice none 0 0] 28)).heap.size := by simp
  go_enter Try.func7, Try.ntmps7
  go_wp2_with fail
  generalize (w.alloc (.cells #[.int .i64 0, .int .i64 0, .slice none 0 0, .slice none 0 0] 28)) = w1 at *
  refine (meIf_0 n wd _).mono ?_; rintro e w2 ⟨ga, gn, gc, oa, on, oc, rfl, og, oo, dd, u2⟩
  have V2 := V1.trans (u2.mono V1.size)
  have R2 := R1.below u2
  have Q1 := Lib.hid og.feet
  have Q2 := Lib.hid oo.feet
  have Z2 := u2.size
  clear V1 R1 u2
  have r0 : w2.cell? ⟨w.heap.size, 0, none⟩ = some (.int .i64 0) := R2.cell 0
  have r1 : w2.cell? ⟨w.heap.size, 1, none⟩ = some (.int .i64 0) := R2.cell 1
  have r2 : w2.cell? ⟨w.heap.size, 2, none⟩ = some (.slice none 0 0) := R2.cell 2
  have r3 : w2.cell? ⟨w.heap.size, 3, none⟩ = some (.slice none 0 0) := R2.cell 3
  have q0 : w2.frozen? ⟨w.heap.size, 0, none⟩ = false := R2.frozen 0
  have q1 : w2.frozen? ⟨w.heap.size, 1, none⟩ = false := R2.frozen 1
  have q2 : w2.frozen? ⟨w.heap.size, 2, none⟩ = false := R2.frozen 2
  have q3 : w2.frozen? ⟨w.heap.size, 3, none⟩ = false := R2.frozen 3
  go_wp2
  have GG := (((((Only.refl [w.heap.size] w2).setCell ⟨w.heap.size, 0, none⟩ (.int .i64 (mS0 n wd)) (by simp)).setCell ⟨w.heap.size, 1, none⟩ (.int .i64 (mS1 0 n wd)) (by simp)).setCell ⟨w.heap.size, 2, none⟩ (.slice ga gn gc) (by simp)).setCell ⟨w.heap.size, 3, none⟩ (.slice oa on oc) (by simp))
  exact bodyPost_ret (v := .tuple #[.agg #[.int .i64 (mS0 n wd), .int .i64 (mS1 0 n wd), .slice ga gn gc, .slice oa on oc], .bool (memB n wd)]) (by simp [results, Try.results7, go_sem, r0, r1, r2, r3]) rfl ⟨ga, gn, gc, oa, on, oc, rfl, (og.only GG (fun k hk hk' => by have := Q1.out k hk; simp at hk'; omega)).lower (by omega), (oo.only GG (fun k hk hk' => by have := Q2.out k hk; simp at hk'; omega)).lower (by omega), dd, V2.trans (GG.below V2.size (by simp))⟩
set_option maxHeartbeats 8000000 in
set_option maxRecDepth 100000 in
theorem spec_TreeReadCircuit_any (n wd : Int) (w : World) :
    Calls Try.prog 9 #[.int .i64 n, .int .i64 wd] w fun e w' => ∃ ga gn gc oa on oc, e = .returned (.tuple #[.agg #[.int .i64 (mS0 n wd), .int .i64 (mS1 1 n wd), .slice ga gn gc, .slice oa on oc], .bool (memB n wd)]) ∧ OwnF 3 eGate w' w.heap.size ga gn gc (mG 1 n wd) ∧ Rd w' w.heap.size oa on oc (mO 1 n wd) ∧ Disj (foot ga gc) (foot oa oc) ∧ Below w.heap.size w w' := by
  have V1 : Below w.heap.size w (w.alloc (.cells #[.int .i64 0, .int .i64 0, .slice none 0 0, .slice none 0 0] 28)) := (Below.refl _ _).alloc (Nat.le_refl _) _
  have R1 : Blk (w.alloc (.cells #[.int .i64 0, .int .i64 0, .slice none 0 0, .slice none 0 0] 28)) w.heap.size 28 #[.int .i64 0, .int .i64 0, .slice none 0 0, .slice none 0 0] := Blk.new w _ _
  have Z1 : w.heap.size + 1 ≤ (w.alloc (.cells #[.int .i64 0, .int .i64 0, .slice none 0 0, .slice none 0 0] 28)).heap.size := by simp
  go_enter Try.func9, Try.ntmps9
  go_wp2_with fail
  generalize (w.alloc (.cells #[.int .i64 0, .int .i64 0, .slice none 0 0, .slice none 0 0] 28)) = w1 at *
  refine (meIf_1 n wd _).mono ?_; rintro e w2 ⟨ga, gn, gc, oa, on, oc, rfl, og, oo, dd, u2⟩
  have V2 := V1.trans (u2.mono V1.size)
  have R2 := R1.below u2
  have Q1 := Lib.hid og.feet
  have Q2 := Lib.hid oo.feet
  have Z2 := u2.size
  clear V1 R1 u2
  have r0 : w2.cell? ⟨w.heap.size, 0, none⟩ = some (.int .i64 0) := R2.cell 0
  have r1 : w2.cell? ⟨w.heap.size, 1, none⟩ = some (.int .i64 0) := R2.cell 1
  have r2 : w2.cell? ⟨w.heap.size, 2, none⟩ = some (.slice none 0 0) := R2.cell 2
  have r3 : w2.cell? ⟨w.heap.size, 3, none⟩ = some (.slice none 0 0) := R2.cell 3
  have q0 : w2.frozen? ⟨w.heap.size, 0, none⟩ = false := R2.frozen 0
  have q1 : w2.frozen? ⟨w.heap.size, 1, none⟩ = false := R2.frozen 1
  have q2 : w2.frozen? ⟨w.heap.size, 2, none⟩ = false := R2.frozen 2
  have q3 : w2.frozen? ⟨w.heap.size, 3, none⟩ = false := R2.frozen 3
  go_wp2
  have GG := (((((Only.refl [w.heap.size] w2).setCell ⟨w.heap.size, 0, none⟩ (.int .i64 (mS0 n wd)) (by simp)).setCell ⟨w.heap.size, 1, none⟩ (.int .i64 (mS1 1 n wd)) (by simp)).setCell ⟨w.heap.size, 2, none⟩ (.slice ga gn gc) (by simp)).setCell ⟨w.heap.size, 3, none⟩ (.slice oa on oc) (by simp))
  exact bodyPost_ret (v := .tuple #[.agg #[.int .i64 (mS0 n wd), .int .i64 (mS1 1 n wd), .slice ga gn gc, .slice oa on oc], .bool (memB n wd)]) (by simp [results, Try.results9, go_sem, r0, r1, r2, r3]) rfl ⟨ga, gn, gc, oa, on, oc, rfl, (og.only GG (fun k hk hk' => by have := Q1.out k hk; simp at hk'; omega)).lower (by omega), (oo.only GG (fun k hk hk' => by have := Q2.out k hk; simp at hk'; omega)).lower (by omega), dd, V2.trans (GG.below V2.size (by simp))⟩
set_option maxHeartbeats 8000000 in
set_option maxRecDepth 100000 in
theorem spec_WriteCircuit_any (n wd : Int) (w : World) :
    Calls Try.prog 11 #[.int .i64 n, .int .i64 wd] w fun e w' => ∃ ga gn gc oa on oc, e = .returned (.tuple #[.agg #[.int .i64 (mS0 n wd), .int .i64 (mS1 2 n wd), .slice ga gn gc, .slice oa on oc], .bool (memB n wd)]) ∧ OwnF 3 eGate w' w.heap.size ga gn gc (mG 2 n wd) ∧ Rd w' w.heap.size oa on oc (mO 2 n wd) ∧ Disj (foot ga gc) (foot oa oc) ∧ Below w.heap.size w w' := by
  have V1 : Below w.heap.size w (w.alloc (.cells #[.int .i64 0, .int .i64 0, .slice none 0 0, .slice none 0 0] 28)) := (Below.refl _ _).alloc (Nat.le_refl _) _
  have R1 : Blk (w.alloc (.cells #[.int .i64 0, .int .i64 0, .slice none 0 0, .slice none 0 0] 28)) w.heap.size 28 #[.int .i64 0, .int .i64 0, .slice none 0 0, .slice none 0 0] := Blk.new w _ _
  have Z1 : w.heap.size + 1 ≤ (w.alloc (.cells #[.int .i64 0, .int .i64 0, .slice none 0 0, .slice none 0 0] 28)).heap.size := by simp
  go_enter Try.func11, Try.ntmps11
  go_wp2_with fail
  generalize (w.alloc (.cells #[.int .i64 0, .int .i64 0, .slice none 0 0, .slice none 0 0] 28)) = w1 at *
  refine (meIf_2 n wd _).mono ?_; rintro e w2 ⟨ga, gn, gc, oa, on, oc, rfl, og, oo, dd, u2⟩
  have V2 := V1.trans (u2.mono V1.size)
  have R2 := R1.below u2
  have Q1 := Lib.hid og.feet
  have Q2 := Lib.hid oo.feet
  have Z2 := u2.size
  clear V1 R1 u2
  have r0 : w2.cell? ⟨w.heap.size, 0, none⟩ = some (.int .i64 0) := R2.cell 0
  have r1 : w2.cell? ⟨w.heap.size, 1, none⟩ = some (.int .i64 0) := R2.cell 1
  have r2 : w2.cell? ⟨w.heap.size, 2, none⟩ = some (.slice none 0 0) := R2.cell 2
  have r3 : w2.cell? ⟨w.heap.size, 3, none⟩ = some (.slice none 0 0) := R2.cell 3
  have q0 : w2.frozen? ⟨w.heap.size, 0, none⟩ = false := R2.frozen 0
  have q1 : w2.frozen? ⟨w.heap.size, 1, none⟩ = false := R2.frozen 1
  have q2 : w2.frozen? ⟨w.heap.size, 2, none⟩ = false := R2.frozen 2
  have q3 : w2.frozen? ⟨w.heap.size, 3, none⟩ = false := R2.frozen 3
  go_wp2
  have GG := (((((Only.refl [w.heap.size] w2).setCell ⟨w.heap.size, 0, none⟩ (.int .i64 (mS0 n wd)) (by simp)).setCell ⟨w.heap.size, 1, none⟩ (.int .i64 (mS1 2 n wd)) (by simp)).setCell ⟨w.heap.size, 2, none⟩ (.slice ga gn gc) (by simp)).setCell ⟨w.heap.size, 3, none⟩ (.slice oa on oc) (by simp))
  exact bodyPost_ret (v := .tuple #[.agg #[.int .i64 (mS0 n wd), .int .i64 (mS1 2 n wd), .slice ga gn gc, .slice oa on oc], .bool (memB n wd)]) (by simp [results, Try.results11, go_sem, r0, r1, r2, r3]) rfl ⟨ga, gn, gc, oa, on, oc, rfl, (og.only GG (fun k hk hk' => by have := Q1.out k hk; simp at hk'; omega)).lower (by omega), (oo.only GG (fun k hk hk' => by have := Q2.out k hk; simp at hk'; omega)).lower (by omega), dd, V2.trans (GG.below V2.size (by simp))⟩
set_option maxHeartbeats 8000000 in
set_option maxRecDepth 100000 in
theorem spec_TurnCircuit_any (n wd : Int) (w : World) :
    Calls Try.prog 13 #[.int .i64 n, .int .i64 wd] w fun e w' => ∃ ga gn gc oa on oc, e = .returned (.tuple #[.agg #[.int .i64 (mS0 n wd), .int .i64 (mS1 3 n wd), .slice ga gn gc, .slice oa on oc], .bool (memB n wd)]) ∧ OwnF 3 eGate w' w.heap.size ga gn gc (mG 3 n wd) ∧ Rd w' w.heap.size oa on oc (mO 3 n wd) ∧ Disj (foot ga gc) (foot oa oc) ∧ Below w.heap.size w w' := by
  have V1 : Below w.heap.size w (w.alloc (.cells #[.int .i64 0, .int .i64 0, .slice none 0 0, .slice none 0 0] 28)) := (Below.refl _ _).alloc (Nat.le_refl _) _
  have R1 : Blk (w.alloc (.cells #[.int .i64 0, .int .i64 0, .slice none 0 0, .slice none 0 0] 28)) w.heap.size 28 #[.int .i64 0, .int .i64 0, .slice none 0 0, .slice none 0 0] := Blk.new w _ _
  have Z1 : w.heap.size + 1 ≤ (w.alloc (.cells #[.int .i64 0, .int .i64 0, .slice none 0 0, .slice none 0 0] 28)).heap.size := by simp
  go_enter Try.func13, Try.ntmps13
  go_wp2_with fail
  generalize (w.alloc (.cells #[.int .i64 0, .int .i64 0, .slice none 0 0, .slice none 0 0] 28)) = w1 at *
  refine (meIf_3 n wd _).mono ?_; rintro e w2 ⟨ga, gn, gc, oa, on, oc, rfl, og, oo, dd, u2⟩
  have V2 := V1.trans (u2.mono V1.size)
  have R2 := R1.below u2
  have Q1 := Lib.hid og.feet
  have Q2 := Lib.hid oo.feet
  have Z2 := u2.size
  clear V1 R1 u2
  have r0 : w2.cell? ⟨w.heap.size, 0, none⟩ = some (.int .i64 0) := R2.cell 0
  have r1 : w2.cell? ⟨w.heap.size, 1, none⟩ = some (.int .i64 0) := R2.cell 1
  have r2 : w2.cell? ⟨w.heap.size, 2, none⟩ = some (.slice none 0 0) := R2.cell 2
  have r3 : w2.cell? ⟨w.heap.size, 3, none⟩ = some (.slice none 0 0) := R2.cell 3
  have q0 : w2.frozen? ⟨w.heap.size, 0, none⟩ = false := R2.frozen 0
  have q1 : w2.frozen? ⟨w.heap.size, 1, none⟩ = false := R2.frozen 1
  have q2 : w2.frozen? ⟨w.heap.size, 2, none⟩ = false := R2.frozen 2
  have q3 : w2.frozen? ⟨w.heap.size, 3, none⟩ = false := R2.frozen 3
  go_wp2
  have GG := (((((Only.refl [w.heap.size] w2).setCell ⟨w.heap.size, 0, none⟩ (.int .i64 (mS0 n wd)) (by simp)).setCell ⟨w.heap.size, 1, none⟩ (.int .i64 (mS1 3 n wd)) (by simp)).setCell ⟨w.heap.size, 2, none⟩ (.slice ga gn gc) (by simp)).setCell ⟨w.heap.size, 3, none⟩ (.slice oa on oc) (by simp))
  exact bodyPost_ret (v := .tuple #[.agg #[.int .i64 (mS0 n wd), .int .i64 (mS1 3 n wd), .slice ga gn gc, .slice oa on oc], .bool (memB n wd)]) (by simp [results, Try.results13, go_sem, r0, r1, r2, r3]) rfl ⟨ga, gn, gc, oa, on, oc, rfl, (og.only GG (fun k hk hk' => by have := Q1.out k hk; simp at hk'; omega)).lower (by omega), (oo.only GG (fun k hk hk' => by have := Q2.out k hk; simp at hk'; omega)).lower (by omega), dd, V2.trans (GG.below V2.size (by simp))⟩
end Go.Proofs.Ytmbheimjphhamaa
namespace Go.Proofs.Ytmbheimjphhamaa
open Go.RowKit
/-- The numbers of the kinds of the first gates. -/
def cntS (x : Int) (l : List Int) : List Int := l.set x.toNat (l.getD x.toNat 0 + 1)
def cntL (G : List Int) : Nat → List Int
  | 0 => [0, 0, 0, 0]
  | j + 1 => cntS (G.getD (j * 3) 0) (cntL G j)
theorem cntL_succ (G : List Int) (j : Nat) : cntL G (j + 1) = cntS (G.getD (j * 3) 0) (cntL G j) := rfl
theorem cntL_len (G : List Int) (j : Nat) : (cntL G j).length = 4 := by
  induction j with
  | zero => rfl
  | succ j ih => rw [cntL_succ]; unfold cntS; rw [List.length_set]; exact ih
theorem cntL_rng (G : List Int) (j k : Nat) : 0 ≤ (cntL G j).getD k 0 ∧ (cntL G j).getD k 0 ≤ j := by
  induction j generalizing k with
  | zero =>
    have : (cntL G 0).getD k 0 = 0 := by
      unfold cntL
      rcases k with _ | _ | _ | _ | k <;> simp [List.getD]
    rw [this]; omega
  | succ j ih =>
    rw [cntL_succ]
    unfold cntS
    rw [getD_set]
    have h1 := ih k
    have h2 := ih (G.getD (j * 3) 0).toNat
    split <;> omega
theorem gb_kind {kd a b own : Int} (h : gbB kd a b own = true) : 0 ≤ kd ∧ kd ≤ 3 := by
  unfold gbB at h
  split at h
  · omega
  · split at h
    · omega
    · split at h
      · omega
      · cases h
theorem ci_kinds {i0 i1 : Int} {gn : Nat} {G O : List Int} (h : ciB i0 i1 gn G O = true) : ∀ j, j < gn → 0 ≤ G.getD (j * 3) 0 ∧ G.getD (j * 3) 0 ≤ 3 := fun j hj => by
  unfold ciB at h
  simp only [Bool.and_eq_true] at h
  exact gb_kind (List.all_eq_true.1 h.1.2 j (List.mem_range.2 hj))
set_option maxHeartbeats 8000000 in
set_option maxRecDepth 100000 in
theorem countKinds_any (a : Option Addr) (n c : Nat) (G : List Int) (w : World) (h : Flat 3 w a n c G) (hk : ∀ j, j < n → 0 ≤ G.getD (j * 3) 0 ∧ G.getD (j * 3) 0 ≤ 3) (hn : n ≤ 1000) :
    Calls Try.prog 48 #[.slice a n c] w fun e w' => ∃ a1 c1, e = .returned (.slice a1 4 c1) ∧ Own w' w.heap.size a1 4 c1 (cntL G n) ∧ Below w.heap.size w w' := by
  have HK := Lib.hid hk
  clear hk
  obtain ⟨i0, hi, hz0, hz1, hz2⟩ := info_parts info_int
  go_enter Try.func48, Try.ntmps48
  go_wp2_with (at_make; refine wpList_make_full _ rfl _ _ 26 rfl w.heap.size 3 i0 (.int .i64 0) 1 Try.underlying26 hi hz0 hz1 _ _ _ _ 4 rfl rfl rfl rfl (by rw [hz2]; omega) (by unfold maxLen; omega) (by exact Nat.le_refl _) ?_)
  intro w1 hown hgrow
  have own1 : Own w1 w.heap.size (some ⟨w.heap.size, 0, none⟩) 4 4 (cntL G 0) := by
    obtain ⟨a1, c1, e1, h1⟩ := Own.of_owns (l := List.replicate 4 0) (by simpa [toList_madeCells_one, Value.cells] using hown)
    cases e1
    exact h1
  have bel1 : Below w.heap.size w w1 := (Below.refl _ _).grown hgrow (Nat.le_refl _) (fun k hk => by cases hk)
  clear hown hgrow
  go_wp2
  go_loopw [9] (fun u wr => ∃ j, j ≤ n ∧ u = .int .i64 (j : Nat) ∧ Own wr w.heap.size (some ⟨w.heap.size, 0, none⟩) 4 4 (cntL G j) ∧ Below w.heap.size w wr) (fun u _ => n - (intOf u).toNat)
  case atStart => exact ⟨0, Nat.zero_le _, rfl, own1, bel1⟩
  case round =>
    obtain ⟨j, hj, rfl, own, hbel⟩ := hrel
    clear own1 bel1
    by_cases hlt : j < n
    · obtain ⟨g, o, rfl, hc⟩ := (h.below hbel).at (by omega)
      have c0 : wr.cell? ⟨g, o + j * 3, none⟩ = some (.int .i64 (G.getD (j * 3) 0)) := by have := hc (j * 3) (by omega); simpa only [Nat.add_assoc] using this
      have c1 : wr.cell? ⟨g, o + j * 3 + 1, none⟩ = some (.int .i64 (G.getD (j * 3 + 1) 0)) := by have := hc (j * 3 + 1) (by omega); simpa only [Nat.add_assoc] using this
      have c2 : wr.cell? ⟨g, o + j * 3 + 2, none⟩ = some (.int .i64 (G.getD (j * 3 + 2) 0)) := by have := hc (j * 3 + 2) (by omega); simpa only [Nat.add_assoc] using this
      clear hc
      have hkd := HK.out j hlt
      have HS := Lib.hid (cntL_succ G j)
      have hl4 := cntL_len G j
      obtain ⟨kd, hkd2⟩ : ∃ kd : Nat, G.getD (j * 3) 0 = (kd : Int) := ⟨(G.getD (j * 3) 0).toNat, by omega⟩
      rw [hkd2] at c0 HS hkd
      clear hkd2
      have hrg := cntL_rng G j kd
      generalize G.getD (j * 3 + 1) 0 = ka at *
      generalize G.getD (j * 3 + 2) 0 = kb at *
      go_upto_region 5 with fail
      have u2 : Below wr.heap.size wr (wr.alloc (.cells #[.int .i64 (kd : Int), .int .i64 ka, .int .i64 kb] 90)) := (Below.refl _ _).alloc (Nat.le_refl _) _
      have B2 : Blk (wr.alloc (.cells #[.int .i64 (kd : Int), .int .i64 ka, .int .i64 kb] 90)) wr.heap.size 90 #[.int .i64 (kd : Int), .int .i64 ka, .int .i64 kb] := Blk.new wr _ _
      have own2 := own.below u2
      have bel2 := hbel.trans (u2.mono hbel.size)
      clear own hbel u2 c0 c1 c2
      generalize (wr.alloc (.cells #[.int .i64 (kd : Int), .int .i64 ka, .int .i64 kb] 90)) = w2 at *
      have y0 : w2.cell? ⟨wr.heap.size, 0, none⟩ = some (.int .i64 (kd : Int)) := B2.cell 0
      generalize cntL G j = l at *
      obtain ⟨_, E, hb', hg', hc', hf', hst⟩ := own2.at kd (by omega)
      cases E
      have hst' := hst (l.getD kd 0 + 1)
      have hk4 : (kd : Int) < 4 := by omega
      generalize hx : l.getD kd 0 = x at *
      have HX := Lib.hid hx
      clear hx hst
      have HST := Lib.hid hst'
      clear hst'
      have HB := Lib.hid (bel2.setCell (p := ⟨w.heap.size, kd, none⟩) hb' (.int .i64 (x + 1)))
      clear own2 bel2 B2 hb'
      go_wp2
      go_roundw
      case rel => exact ⟨j + 1, by omega, by go_num, by rw [HS.out]; unfold cntS; rw [Int.toNat_natCast, HX.out]; exact HST.out, HB.out⟩
      case measure => simp [intOf]; omega
    · obtain rfl : j = n := by omega
      go_wp2
      go_ret
      exact ⟨_, _, rfl, own, hbel⟩
set_option maxHeartbeats 8000000 in
set_option maxRecDepth 100000 in
theorem ciCounts_any (s0 s1 : Int) (oa : Option Addr) (on oc : Nat) (a : Option Addr) (n c : Nat) (G : List Int) (w : World) (h : Flat 3 w a n c G) (hk : ∀ j, j < n → 0 ≤ G.getD (j * 3) 0 ∧ G.getD (j * 3) 0 ≤ 3) (hn : n ≤ 1000) :
    Calls Try.prog 49 #[.agg #[.int .i64 s0, .int .i64 s1, .slice a n c, .slice oa on oc]] w fun e w' => ∃ a1 c1, e = .returned (.slice a1 4 c1) ∧ Own w' w.heap.size a1 4 c1 (cntL G n) ∧ Below w.heap.size w w' := by
  have HK := Lib.hid hk
  clear hk
  obtain ⟨i0, hi, hz0, hz1, hz2⟩ := info_parts info_int
  have V0 : Below w.heap.size w (w.alloc (.cells #[.int .i64 s0, .int .i64 s1, .slice a n c, .slice oa on oc] 28)) := (Below.refl _ _).alloc (Nat.le_refl _) _
  go_enter Try.func49, Try.ntmps49
  go_wp2_with (at_make; refine wpList_make_full _ rfl _ _ 26 rfl w.heap.size 3 i0 (.int .i64 0) 1 Try.underlying26 hi hz0 hz1 _ _ _ _ 4 rfl rfl rfl rfl (by rw [hz2]; omega) (by unfold maxLen; omega) (by simp) ?_)
  intro w1 hown hgrow
  have own1 : Own w1 w.heap.size (some ⟨w.heap.size + 1, 0, none⟩) 4 4 (cntL G 0) := by
    obtain ⟨a1, c1, e1, h1⟩ := Own.of_owns (l := List.replicate 4 0) (by simpa [toList_madeCells_one, Value.cells] using hown)
    cases e1
    have h2 : Own w1 w.heap.size (some ⟨w.heap.size + 1, 0, none⟩) 4 4 [0, 0, 0, 0] := by simpa using h1
    exact h2
  have bel1 : Below w.heap.size w w1 := V0.trans ((Below.refl _ _).grown hgrow (by simp) (fun k hk => by cases hk))
  have x2 : w1.cell? ⟨w.heap.size, 2, none⟩ = some (.slice a n c) := ((Blk.new w 28 #[.int .i64 s0, .int .i64 s1, .slice a n c, .slice oa on oc]).below ((Below.refl _ _).grown hgrow (Nat.le_refl _) (fun k hk => by cases hk))).cell 2
  clear hown hgrow
  go_wp2
  go_loopw [10] (fun u wr => ∃ j, j ≤ n ∧ u = .int .i64 (j : Nat) ∧ Own wr w.heap.size (some ⟨w.heap.size + 1, 0, none⟩) 4 4 (cntL G j) ∧ Below w.heap.size w wr) (fun u _ => n - (intOf u).toNat)
  case atStart => exact ⟨0, Nat.zero_le _, rfl, own1, bel1⟩
  case round =>
    obtain ⟨j, hj, rfl, own, hbel⟩ := hrel
    clear own1 bel1
    by_cases hlt : j < n
    · obtain ⟨g, o, rfl, hc⟩ := (h.below hbel).at (by omega)
      have c0 : wr.cell? ⟨g, o + j * 3, none⟩ = some (.int .i64 (G.getD (j * 3) 0)) := by have := hc (j * 3) (by omega); simpa only [Nat.add_assoc] using this
      have c1 : wr.cell? ⟨g, o + j * 3 + 1, none⟩ = some (.int .i64 (G.getD (j * 3 + 1) 0)) := by have := hc (j * 3 + 1) (by omega); simpa only [Nat.add_assoc] using this
      have c2 : wr.cell? ⟨g, o + j * 3 + 2, none⟩ = some (.int .i64 (G.getD (j * 3 + 2) 0)) := by have := hc (j * 3 + 2) (by omega); simpa only [Nat.add_assoc] using this
      clear hc
      have hkd := HK.out j hlt
      have HS := Lib.hid (cntL_succ G j)
      have hl4 := cntL_len G j
      obtain ⟨kd, hkd2⟩ : ∃ kd : Nat, G.getD (j * 3) 0 = (kd : Int) := ⟨(G.getD (j * 3) 0).toNat, by omega⟩
      rw [hkd2] at c0 HS hkd
      clear hkd2
      have hrg := cntL_rng G j kd
      generalize G.getD (j * 3 + 1) 0 = ka at *
      generalize G.getD (j * 3 + 2) 0 = kb at *
      go_upto_region 5 with fail
      have u2 : Below wr.heap.size wr (wr.alloc (.cells #[.int .i64 (kd : Int), .int .i64 ka, .int .i64 kb] 90)) := (Below.refl _ _).alloc (Nat.le_refl _) _
      have B2 : Blk (wr.alloc (.cells #[.int .i64 (kd : Int), .int .i64 ka, .int .i64 kb] 90)) wr.heap.size 90 #[.int .i64 (kd : Int), .int .i64 ka, .int .i64 kb] := Blk.new wr _ _
      have own2 := own.below u2
      have bel2 := hbel.trans (u2.mono hbel.size)
      clear own hbel u2 c0 c1 c2
      generalize (wr.alloc (.cells #[.int .i64 (kd : Int), .int .i64 ka, .int .i64 kb] 90)) = w2 at *
      have y0 : w2.cell? ⟨wr.heap.size, 0, none⟩ = some (.int .i64 (kd : Int)) := B2.cell 0
      generalize cntL G j = l at *
      obtain ⟨_, E, hb', hg', hc', hf', hst⟩ := own2.at kd (by omega)
      cases E
      have hst' := hst (l.getD kd 0 + 1)
      have hk4 : (kd : Int) < 4 := by omega
      generalize hx : l.getD kd 0 = x at *
      have HX := Lib.hid hx
      clear hx hst
      have HST := Lib.hid hst'
      clear hst'
      have HB := Lib.hid (bel2.setCell (p := ⟨w.heap.size + 1, kd, none⟩) hb' (.int .i64 (x + 1)))
      clear own2 bel2 B2 hb'
      go_wp2
      go_roundw
      case rel => exact ⟨j + 1, by omega, by go_num, by rw [HS.out]; unfold cntS; rw [Int.toNat_natCast, HX.out]; exact HST.out, HB.out⟩
      case measure => simp [intOf]; omega
    · obtain rfl : j = n := by omega
      go_wp2
      go_ret
      exact ⟨_, _, rfl, own, hbel⟩
end Go.Proofs.Ytmbheimjphhamaa
