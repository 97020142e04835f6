/- Lemmas and walks that the claim's proof rests on, part 9. -/
import Derived.Test.YtmbheimjphhamaaK2
import Derived.Test.YtmbheimjphhamaaK3
import Derived.Test.YtmbheimjphhamaaK8
namespace Go.Proofs.Ytmbheimjphhamaa
open Go.RowKit
def amB (kind n w : Int) : Bool := inB kind 0 3 && memB n w
def amN (kind n w : Int) : Int := if amB kind n w then (cntL (mG kind.toNat n w) ((mG kind.toNat n w).length / 3)).getD 1 0 else 0
theorem m_kinds (kind : Nat) (n w : Int) (h : memB n w = true) : ∀ j, j < (mG kind n w).length / 3 → 0 ≤ (mG kind n w).getD (j * 3) 0 ∧ (mG kind n w).getD (j * 3) 0 ≤ 3 := by
  have hh := memB_true h
  obtain ⟨n, rfl⟩ : ∃ k : Nat, n = k := ⟨n.toNat, by omega⟩
  obtain ⟨w, rfl⟩ : ∃ k : Nat, w = k := ⟨w.toNat, by omega⟩
  have := ci_kinds (m_ok kind n w h)
  unfold mG
  rw [if_pos h]
  exact this
theorem am_out {kind n w : Int} (h : inB kind 0 3 = false) : amB kind n w = false ∧ amN kind n w = 0 := by
  have : amB kind n w = false := by unfold amB; rw [h]; rfl
  exact ⟨this, by unfold amN; rw [this]; rfl⟩
theorem am_no (k : Nat) (_hk : k ≤ 3) {n w : Int} (h : memB n w = false) : amB (k : Int) n w = false ∧ amN (k : Int) n w = 0 := by
  have : amB (k : Int) n w = false := by unfold amB; rw [h, Bool.and_false]
  exact ⟨this, by unfold amN; rw [this]; rfl⟩
theorem am_yes (k : Nat) (hk : k ≤ 3) {n w : Int} (h : memB n w = true) : amB (k : Int) n w = true ∧ amN (k : Int) n w = (cntL (mG k n w) ((mG k n w).length / 3)).getD 1 0 := by
  have : amB (k : Int) n w = true := by unfold amB; rw [h, Bool.and_true]; exact inB_yes (by omega) (by omega)
  exact ⟨this, by unfold amN; rw [this]; rfl⟩
set_option maxHeartbeats 8000000 in
set_option maxRecDepth 100000 in
theorem AndsOfMemory_any (kind n wd : Int) (w : World) :
    Calls Try.prog 15 #[.int .i64 kind, .int .i64 n, .int .i64 wd] w fun e w' => e = .returned (.tuple #[.int .i64 (amN kind n wd), .bool (amB kind n wd)]) ∧ Below w.heap.size w w' := by
  have V1 : Below w.heap.size w (w.alloc (.cells #[.int .i64 0, .int .i64 0, .slice none 0 0, .slice none 0 0] 28)) := (Below.refl _ _).alloc (Nat.le_refl _) _
  have R1 : Blk (w.alloc (.cells #[.int .i64 0, .int .i64 0, .slice none 0 0, .slice none 0 0] 28)) w.heap.size 28 #[.int .i64 0, .int .i64 0, .slice none 0 0, .slice none 0 0] := Blk.new w _ _
  have hz1 : w.heap.size < (w.alloc (.cells #[.int .i64 0, .int .i64 0, .slice none 0 0, .slice none 0 0] 28)).heap.size := by simp
  by_cases k0 : kind = 0
  · subst k0
    cases hm : memB n wd
    · obtain ⟨ha, hn⟩ := am_no 0 (by omega) hm
      have ha2 : amB 0 n wd = false := ha
      have hn2 : amN 0 n wd = _ := hn
      rw [ha2, hn2]
      clear ha hn ha2 hn2
      have HM := Lib.hid hm
      clear hm
      go_enter Try.func15, Try.ntmps15
      go_wp2_with fail
      generalize (w.alloc (.cells #[.int .i64 0, .int .i64 0, .slice none 0 0, .slice none 0 0] 28)) = w1 at *
      refine (ScanReadCircuit_any n wd _).mono ?_; rintro e w2 ⟨ga, gn, gc, oa, on, oc, rfl, og, oo, dd, u2⟩
      rw [HM.out]
      have V2 := V1.trans (u2.mono V1.size)
      have R2 := R1.below u2
      have Q1 := Lib.hid og.feet
      clear V1 R1 u2
      have r0 : w2.cell? ⟨w.heap.size, 0, none⟩ = some (.int .i64 0) := R2.cell 0
      have q0 : w2.frozen? ⟨w.heap.size, 0, none⟩ = false := R2.frozen 0
      have r1 : w2.cell? ⟨w.heap.size, 1, none⟩ = some (.int .i64 0) := R2.cell 1
      have q1 : w2.frozen? ⟨w.heap.size, 1, none⟩ = false := R2.frozen 1
      have r2 : w2.cell? ⟨w.heap.size, 2, none⟩ = some (.slice none 0 0) := R2.cell 2
      have q2 : w2.frozen? ⟨w.heap.size, 2, none⟩ = false := R2.frozen 2
      have r3 : w2.cell? ⟨w.heap.size, 3, none⟩ = some (.slice none 0 0) := R2.cell 3
      have q3 : w2.frozen? ⟨w.heap.size, 3, none⟩ = false := R2.frozen 3
      have GG := (((((Only.refl [w.heap.size] w2).setCell ⟨w.heap.size, 0, none⟩ (.int .i64 (mS0 n wd)) (by simp)).setCell ⟨w.heap.size, 1, none⟩ (.int .i64 (mS1 0 n wd)) (by simp)).setCell ⟨w.heap.size, 2, none⟩ (.slice ga gn gc) (by simp)).setCell ⟨w.heap.size, 3, none⟩ (.slice oa on oc) (by simp))
      have HV := Lib.hid (V2.trans (GG.below V2.size (by simp)))
      clear GG V2
      go_wp2
      go_ret2
      exact ⟨rfl, HV.out⟩
    · obtain ⟨ha, hn⟩ := am_yes 0 (by omega) hm
      have ha2 : amB 0 n wd = true := ha
      have hn2 : amN 0 n wd = _ := hn
      rw [ha2, hn2]
      clear ha hn ha2 hn2
      have hkn := m_kinds 0 n wd hm
      have hln := (m_len 0 n wd).1
      have hl4 := cntL_len (mG 0 n wd) ((mG 0 n wd).length / 3)
      obtain ⟨N, hN⟩ : ∃ N, N = (mG 0 n wd).length / 3 := ⟨_, rfl⟩
      rw [← hN] at hkn hl4 ⊢
      have HN := Lib.hid hN
      have HKN := Lib.hid hkn
      clear hN hkn
      obtain ⟨X, hX⟩ : ∃ X, X = (cntL (mG 0 n wd) N).getD 1 0 := ⟨_, rfl⟩
      rw [← hX]
      have HX := Lib.hid hX
      clear hX
      have HM := Lib.hid hm
      clear hm
      go_enter Try.func15, Try.ntmps15
      go_wp2_with fail
      generalize (w.alloc (.cells #[.int .i64 0, .int .i64 0, .slice none 0 0, .slice none 0 0] 28)) = w1 at *
      refine (ScanReadCircuit_any n wd _).mono ?_; rintro e w2 ⟨ga, gn, gc, oa, on, oc, rfl, og, oo, dd, u2⟩
      rw [HM.out]
      have V2 := V1.trans (u2.mono V1.size)
      have R2 := R1.below u2
      have Q1 := Lib.hid og.feet
      clear V1 R1 u2
      have r0 : w2.cell? ⟨w.heap.size, 0, none⟩ = some (.int .i64 0) := R2.cell 0
      have q0 : w2.frozen? ⟨w.heap.size, 0, none⟩ = false := R2.frozen 0
      have r1 : w2.cell? ⟨w.heap.size, 1, none⟩ = some (.int .i64 0) := R2.cell 1
      have q1 : w2.frozen? ⟨w.heap.size, 1, none⟩ = false := R2.frozen 1
      have r2 : w2.cell? ⟨w.heap.size, 2, none⟩ = some (.slice none 0 0) := R2.cell 2
      have q2 : w2.frozen? ⟨w.heap.size, 2, none⟩ = false := R2.frozen 2
      have r3 : w2.cell? ⟨w.heap.size, 3, none⟩ = some (.slice none 0 0) := R2.cell 3
      have q3 : w2.frozen? ⟨w.heap.size, 3, none⟩ = false := R2.frozen 3
      have GG := (((((Only.refl [w.heap.size] w2).setCell ⟨w.heap.size, 0, none⟩ (.int .i64 (mS0 n wd)) (by simp)).setCell ⟨w.heap.size, 1, none⟩ (.int .i64 (mS1 0 n wd)) (by simp)).setCell ⟨w.heap.size, 2, none⟩ (.slice ga gn gc) (by simp)).setCell ⟨w.heap.size, 3, none⟩ (.slice oa on oc) (by simp))
      have og3 := OwnF.only og GG (fun k hk hk' => by have := Q1.out k hk; simp at hk'; omega)
      have V3 := V2.trans (GG.below V2.size (by simp))
      have HO := Lib.hid og3
      have HV := Lib.hid V3
      clear og V2 GG og3 V3
      go_wp2_with fail
      have og3 := HO.out
      have V3 := HV.out
      clear HO HV r0 r1 r2 r3 q0 q1 q2 q3
      generalize ((((w2.setCell ⟨w.heap.size, 0, none⟩ (.int .i64 (mS0 n wd))).setCell ⟨w.heap.size, 1, none⟩ (.int .i64 (mS1 0 n wd))).setCell ⟨w.heap.size, 2, none⟩ (.slice ga gn gc)).setCell ⟨w.heap.size, 3, none⟩ (.slice oa on oc)) = w3 at *
      have HGN := Lib.hid (show gn = N by rw [HN.out]; have := og3.len; omega)
      refine (countKinds_any _ _ _ (mG 0 n wd) _ og3.flat (by rw [HGN.out]; exact HKN.out) (by rw [HGN.out]; have := HN.out; omega)).mono ?_; rintro e w4 ⟨a4, c4, rfl, o4, u4⟩
      rw [HGN.out] at o4
      obtain ⟨g4, p4, rfl, cx⟩ := o4.ints.at 1 (by omega)
      rw [← HX.out] at cx
      have V4 := V3.trans (u4.mono V3.size)
      clear o4 u4 V3 og3
      have hb : (1 : Int) < ((4 : Nat) : Int) := by omega
      go_wp2
      go_ret2
      exact ⟨rfl, V4⟩
  by_cases k1 : kind = 1
  · subst k1
    cases hm : memB n wd
    · obtain ⟨ha, hn⟩ := am_no 1 (by omega) hm
      have ha2 : amB 1 n wd = false := ha
      have hn2 : amN 1 n wd = _ := hn
      rw [ha2, hn2]
      clear ha hn ha2 hn2
      have HM := Lib.hid hm
      clear hm
      go_enter Try.func15, Try.ntmps15
      go_wp2_with fail
      generalize (w.alloc (.cells #[.int .i64 0, .int .i64 0, .slice none 0 0, .slice none 0 0] 28)) = w1 at *
      refine (TreeReadCircuit_any n wd _).mono ?_; rintro e w2 ⟨ga, gn, gc, oa, on, oc, rfl, og, oo, dd, u2⟩
      rw [HM.out]
      have V2 := V1.trans (u2.mono V1.size)
      have R2 := R1.below u2
      have Q1 := Lib.hid og.feet
      clear V1 R1 u2
      have r0 : w2.cell? ⟨w.heap.size, 0, none⟩ = some (.int .i64 0) := R2.cell 0
      have q0 : w2.frozen? ⟨w.heap.size, 0, none⟩ = false := R2.frozen 0
      have r1 : w2.cell? ⟨w.heap.size, 1, none⟩ = some (.int .i64 0) := R2.cell 1
      have q1 : w2.frozen? ⟨w.heap.size, 1, none⟩ = false := R2.frozen 1
      have r2 : w2.cell? ⟨w.heap.size, 2, none⟩ = some (.slice none 0 0) := R2.cell 2
      have q2 : w2.frozen? ⟨w.heap.size, 2, none⟩ = false := R2.frozen 2
      have r3 : w2.cell? ⟨w.heap.size, 3, none⟩ = some (.slice none 0 0) := R2.cell 3
      have q3 : w2.frozen? ⟨w.heap.size, 3, none⟩ = false := R2.frozen 3
      have GG := (((((Only.refl [w.heap.size] w2).setCell ⟨w.heap.size, 0, none⟩ (.int .i64 (mS0 n wd)) (by simp)).setCell ⟨w.heap.size, 1, none⟩ (.int .i64 (mS1 1 n wd)) (by simp)).setCell ⟨w.heap.size, 2, none⟩ (.slice ga gn gc) (by simp)).setCell ⟨w.heap.size, 3, none⟩ (.slice oa on oc) (by simp))
      have HV := Lib.hid (V2.trans (GG.below V2.size (by simp)))
      clear GG V2
      go_wp2
      go_ret2
      exact ⟨rfl, HV.out⟩
    · obtain ⟨ha, hn⟩ := am_yes 1 (by omega) hm
      have ha2 : amB 1 n wd = true := ha
      have hn2 : amN 1 n wd = _ := hn
      rw [ha2, hn2]
      clear ha hn ha2 hn2
      have hkn := m_kinds 1 n wd hm
      have hln := (m_len 1 n wd).1
      have hl4 := cntL_len (mG 1 n wd) ((mG 1 n wd).length / 3)
      obtain ⟨N, hN⟩ : ∃ N, N = (mG 1 n wd).length / 3 := ⟨_, rfl⟩
      rw [← hN] at hkn hl4 ⊢
      have HN := Lib.hid hN
      have HKN := Lib.hid hkn
      clear hN hkn
      obtain ⟨X, hX⟩ : ∃ X, X = (cntL (mG 1 n wd) N).getD 1 0 := ⟨_, rfl⟩
      rw [← hX]
      have HX := Lib.hid hX
      clear hX
      have HM := Lib.hid hm
      clear hm
      go_enter Try.func15, Try.ntmps15
      go_wp2_with fail
      generalize (w.alloc (.cells #[.int .i64 0, .int .i64 0, .slice none 0 0, .slice none 0 0] 28)) = w1 at *
      refine (TreeReadCircuit_any n wd _).mono ?_; rintro e w2 ⟨ga, gn, gc, oa, on, oc, rfl, og, oo, dd, u2⟩
      rw [HM.out]
      have V2 := V1.trans (u2.mono V1.size)
      have R2 := R1.below u2
      have Q1 := Lib.hid og.feet
      clear V1 R1 u2
      have r0 : w2.cell? ⟨w.heap.size, 0, none⟩ = some (.int .i64 0) := R2.cell 0
      have q0 : w2.frozen? ⟨w.heap.size, 0, none⟩ = false := R2.frozen 0
      have r1 : w2.cell? ⟨w.heap.size, 1, none⟩ = some (.int .i64 0) := R2.cell 1
      have q1 : w2.frozen? ⟨w.heap.size, 1, none⟩ = false := R2.frozen 1
      have r2 : w2.cell? ⟨w.heap.size, 2, none⟩ = some (.slice none 0 0) := R2.cell 2
      have q2 : w2.frozen? ⟨w.heap.size, 2, none⟩ = false := R2.frozen 2
      have r3 : w2.cell? ⟨w.heap.size, 3, none⟩ = some (.slice none 0 0) := R2.cell 3
      have q3 : w2.frozen? ⟨w.heap.size, 3, none⟩ = false := R2.frozen 3
      have GG := (((((Only.refl [w.heap.size] w2).setCell ⟨w.heap.size, 0, none⟩ (.int .i64 (mS0 n wd)) (by simp)).setCell ⟨w.heap.size, 1, none⟩ (.int .i64 (mS1 1 n wd)) (by simp)).setCell ⟨w.heap.size, 2, none⟩ (.slice ga gn gc) (by simp)).setCell ⟨w.heap.size, 3, none⟩ (.slice oa on oc) (by simp))
      have og3 := OwnF.only og GG (fun k hk hk' => by have := Q1.out k hk; simp at hk'; omega)
      have V3 := V2.trans (GG.below V2.size (by simp))
      have HO := Lib.hid og3
      have HV := Lib.hid V3
      clear og V2 GG og3 V3
      go_wp2_with fail
      have og3 := HO.out
      have V3 := HV.out
      clear HO HV r0 r1 r2 r3 q0 q1 q2 q3
      generalize ((((w2.setCell ⟨w.heap.size, 0, none⟩ (.int .i64 (mS0 n wd))).setCell ⟨w.heap.size, 1, none⟩ (.int .i64 (mS1 1 n wd))).setCell ⟨w.heap.size, 2, none⟩ (.slice ga gn gc)).setCell ⟨w.heap.size, 3, none⟩ (.slice oa on oc)) = w3 at *
      have HGN := Lib.hid (show gn = N by rw [HN.out]; have := og3.len; omega)
      refine (countKinds_any _ _ _ (mG 1 n wd) _ og3.flat (by rw [HGN.out]; exact HKN.out) (by rw [HGN.out]; have := HN.out; omega)).mono ?_; rintro e w4 ⟨a4, c4, rfl, o4, u4⟩
      rw [HGN.out] at o4
      obtain ⟨g4, p4, rfl, cx⟩ := o4.ints.at 1 (by omega)
      rw [← HX.out] at cx
      have V4 := V3.trans (u4.mono V3.size)
      clear o4 u4 V3 og3
      have hb : (1 : Int) < ((4 : Nat) : Int) := by omega
      go_wp2
      go_ret2
      exact ⟨rfl, V4⟩
  by_cases k2 : kind = 2
  · subst k2
    cases hm : memB n wd
    · obtain ⟨ha, hn⟩ := am_no 2 (by omega) hm
      have ha2 : amB 2 n wd = false := ha
      have hn2 : amN 2 n wd = _ := hn
      rw [ha2, hn2]
      clear ha hn ha2 hn2
      have HM := Lib.hid hm
      clear hm
      go_enter Try.func15, Try.ntmps15
      go_wp2_with fail
      generalize (w.alloc (.cells #[.int .i64 0, .int .i64 0, .slice none 0 0, .slice none 0 0] 28)) = w1 at *
      refine (WriteCircuit_any n wd _).mono ?_; rintro e w2 ⟨ga, gn, gc, oa, on, oc, rfl, og, oo, dd, u2⟩
      rw [HM.out]
      have V2 := V1.trans (u2.mono V1.size)
      have R2 := R1.below u2
      have Q1 := Lib.hid og.feet
      clear V1 R1 u2
      have r0 : w2.cell? ⟨w.heap.size, 0, none⟩ = some (.int .i64 0) := R2.cell 0
      have q0 : w2.frozen? ⟨w.heap.size, 0, none⟩ = false := R2.frozen 0
      have r1 : w2.cell? ⟨w.heap.size, 1, none⟩ = some (.int .i64 0) := R2.cell 1
      have q1 : w2.frozen? ⟨w.heap.size, 1, none⟩ = false := R2.frozen 1
      have r2 : w2.cell? ⟨w.heap.size, 2, none⟩ = some (.slice none 0 0) := R2.cell 2
      have q2 : w2.frozen? ⟨w.heap.size, 2, none⟩ = false := R2.frozen 2
      have r3 : w2.cell? ⟨w.heap.size, 3, none⟩ = some (.slice none 0 0) := R2.cell 3
      have q3 : w2.frozen? ⟨w.heap.size, 3, none⟩ = false := R2.frozen 3
      have GG := (((((Only.refl [w.heap.size] w2).setCell ⟨w.heap.size, 0, none⟩ (.int .i64 (mS0 n wd)) (by simp)).setCell ⟨w.heap.size, 1, none⟩ (.int .i64 (mS1 2 n wd)) (by simp)).setCell ⟨w.heap.size, 2, none⟩ (.slice ga gn gc) (by simp)).setCell ⟨w.heap.size, 3, none⟩ (.slice oa on oc) (by simp))
      have HV := Lib.hid (V2.trans (GG.below V2.size (by simp)))
      clear GG V2
      go_wp2
      go_ret2
      exact ⟨rfl, HV.out⟩
    · obtain ⟨ha, hn⟩ := am_yes 2 (by omega) hm
      have ha2 : amB 2 n wd = true := ha
      have hn2 : amN 2 n wd = _ := hn
      rw [ha2, hn2]
      clear ha hn ha2 hn2
      have hkn := m_kinds 2 n wd hm
      have hln := (m_len 2 n wd).1
      have hl4 := cntL_len (mG 2 n wd) ((mG 2 n wd).length / 3)
      obtain ⟨N, hN⟩ : ∃ N, N = (mG 2 n wd).length / 3 := ⟨_, rfl⟩
      rw [← hN] at hkn hl4 ⊢
      have HN := Lib.hid hN
      have HKN := Lib.hid hkn
      clear hN hkn
      obtain ⟨X, hX⟩ : ∃ X, X = (cntL (mG 2 n wd) N).getD 1 0 := ⟨_, rfl⟩
      rw [← hX]
      have HX := Lib.hid hX
      clear hX
      have HM := Lib.hid hm
      clear hm
      go_enter Try.func15, Try.ntmps15
      go_wp2_with fail
      generalize (w.alloc (.cells #[.int .i64 0, .int .i64 0, .slice none 0 0, .slice none 0 0] 28)) = w1 at *
      refine (WriteCircuit_any n wd _).mono ?_; rintro e w2 ⟨ga, gn, gc, oa, on, oc, rfl, og, oo, dd, u2⟩
      rw [HM.out]
      have V2 := V1.trans (u2.mono V1.size)
      have R2 := R1.below u2
      have Q1 := Lib.hid og.feet
      clear V1 R1 u2
      have r0 : w2.cell? ⟨w.heap.size, 0, none⟩ = some (.int .i64 0) := R2.cell 0
      have q0 : w2.frozen? ⟨w.heap.size, 0, none⟩ = false := R2.frozen 0
      have r1 : w2.cell? ⟨w.heap.size, 1, none⟩ = some (.int .i64 0) := R2.cell 1
      have q1 : w2.frozen? ⟨w.heap.size, 1, none⟩ = false := R2.frozen 1
      have r2 : w2.cell? ⟨w.heap.size, 2, none⟩ = some (.slice none 0 0) := R2.cell 2
      have q2 : w2.frozen? ⟨w.heap.size, 2, none⟩ = false := R2.frozen 2
      have r3 : w2.cell? ⟨w.heap.size, 3, none⟩ = some (.slice none 0 0) := R2.cell 3
      have q3 : w2.frozen? ⟨w.heap.size, 3, none⟩ = false := R2.frozen 3
      have GG := (((((Only.refl [w.heap.size] w2).setCell ⟨w.heap.size, 0, none⟩ (.int .i64 (mS0 n wd)) (by simp)).setCell ⟨w.heap.size, 1, none⟩ (.int .i64 (mS1 2 n wd)) (by simp)).setCell ⟨w.heap.size, 2, none⟩ (.slice ga gn gc) (by simp)).setCell ⟨w.heap.size, 3, none⟩ (.slice oa on oc) (by simp))
      have og3 := OwnF.only og GG (fun k hk hk' => by have := Q1.out k hk; simp at hk'; omega)
      have V3 := V2.trans (GG.below V2.size (by simp))
      have HO := Lib.hid og3
      have HV := Lib.hid V3
      clear og V2 GG og3 V3
      go_wp2_with fail
      have og3 := HO.out
      have V3 := HV.out
      clear HO HV r0 r1 r2 r3 q0 q1 q2 q3
      generalize ((((w2.setCell ⟨w.heap.size, 0, none⟩ (.int .i64 (mS0 n wd))).setCell ⟨w.heap.size, 1, none⟩ (.int .i64 (mS1 2 n wd))).setCell ⟨w.heap.size, 2, none⟩ (.slice ga gn gc)).setCell ⟨w.heap.size, 3, none⟩ (.slice oa on oc)) = w3 at *
      have HGN := Lib.hid (show gn = N by rw [HN.out]; have := og3.len; omega)
      refine (countKinds_any _ _ _ (mG 2 n wd) _ og3.flat (by rw [HGN.out]; exact HKN.out) (by rw [HGN.out]; have := HN.out; omega)).mono ?_; rintro e w4 ⟨a4, c4, rfl, o4, u4⟩
      rw [HGN.out] at o4
      obtain ⟨g4, p4, rfl, cx⟩ := o4.ints.at 1 (by omega)
      rw [← HX.out] at cx
      have V4 := V3.trans (u4.mono V3.size)
      clear o4 u4 V3 og3
      have hb : (1 : Int) < ((4 : Nat) : Int) := by omega
      go_wp2
      go_ret2
      exact ⟨rfl, V4⟩
  by_cases k3 : kind = 3
  · subst k3
    cases hm : memB n wd
    · obtain ⟨ha, hn⟩ := am_no 3 (by omega) hm
      have ha2 : amB 3 n wd = false := ha
      have hn2 : amN 3 n wd = _ := hn
      rw [ha2, hn2]
      clear ha hn ha2 hn2
      have HM := Lib.hid hm
      clear hm
      go_enter Try.func15, Try.ntmps15
      go_wp2_with fail
      generalize (w.alloc (.cells #[.int .i64 0, .int .i64 0, .slice none 0 0, .slice none 0 0] 28)) = w1 at *
      refine (TurnCircuit_any n wd _).mono ?_; rintro e w2 ⟨ga, gn, gc, oa, on, oc, rfl, og, oo, dd, u2⟩
      rw [HM.out]
      have V2 := V1.trans (u2.mono V1.size)
      have R2 := R1.below u2
      have Q1 := Lib.hid og.feet
      clear V1 R1 u2
      have r0 : w2.cell? ⟨w.heap.size, 0, none⟩ = some (.int .i64 0) := R2.cell 0
      have q0 : w2.frozen? ⟨w.heap.size, 0, none⟩ = false := R2.frozen 0
      have r1 : w2.cell? ⟨w.heap.size, 1, none⟩ = some (.int .i64 0) := R2.cell 1
      have q1 : w2.frozen? ⟨w.heap.size, 1, none⟩ = false := R2.frozen 1
      have r2 : w2.cell? ⟨w.heap.size, 2, none⟩ = some (.slice none 0 0) := R2.cell 2
      have q2 : w2.frozen? ⟨w.heap.size, 2, none⟩ = false := R2.frozen 2
      have r3 : w2.cell? ⟨w.heap.size, 3, none⟩ = some (.slice none 0 0) := R2.cell 3
      have q3 : w2.frozen? ⟨w.heap.size, 3, none⟩ = false := R2.frozen 3
      have GG := (((((Only.refl [w.heap.size] w2).setCell ⟨w.heap.size, 0, none⟩ (.int .i64 (mS0 n wd)) (by simp)).setCell ⟨w.heap.size, 1, none⟩ (.int .i64 (mS1 3 n wd)) (by simp)).setCell ⟨w.heap.size, 2, none⟩ (.slice ga gn gc) (by simp)).setCell ⟨w.heap.size, 3, none⟩ (.slice oa on oc) (by simp))
      have HV := Lib.hid (V2.trans (GG.below V2.size (by simp)))
      clear GG V2
      go_wp2
      go_ret2
      exact ⟨rfl, HV.out⟩
    · obtain ⟨ha, hn⟩ := am_yes 3 (by omega) hm
      have ha2 : amB 3 n wd = true := ha
      have hn2 : amN 3 n wd = _ := hn
      rw [ha2, hn2]
      clear ha hn ha2 hn2
      have hkn := m_kinds 3 n wd hm
      have hln := (m_len 3 n wd).1
      have hl4 := cntL_len (mG 3 n wd) ((mG 3 n wd).length / 3)
      obtain ⟨N, hN⟩ : ∃ N, N = (mG 3 n wd).length / 3 := ⟨_, rfl⟩
      rw [← hN] at hkn hl4 ⊢
      have HN := Lib.hid hN
      have HKN := Lib.hid hkn
      clear hN hkn
      obtain ⟨X, hX⟩ : ∃ X, X = (cntL (mG 3 n wd) N).getD 1 0 := ⟨_, rfl⟩
      rw [← hX]
      have HX := Lib.hid hX
      clear hX
      have HM := Lib.hid hm
      clear hm
      go_enter Try.func15, Try.ntmps15
      go_wp2_with fail
      generalize (w.alloc (.cells #[.int .i64 0, .int .i64 0, .slice none 0 0, .slice none 0 0] 28)) = w1 at *
      refine (TurnCircuit_any n wd _).mono ?_; rintro e w2 ⟨ga, gn, gc, oa, on, oc, rfl, og, oo, dd, u2⟩
      rw [HM.out]
      have V2 := V1.trans (u2.mono V1.size)
      have R2 := R1.below u2
      have Q1 := Lib.hid og.feet
      clear V1 R1 u2
      have r0 : w2.cell? ⟨w.heap.size, 0, none⟩ = some (.int .i64 0) := R2.cell 0
      have q0 : w2.frozen? ⟨w.heap.size, 0, none⟩ = false := R2.frozen 0
      have r1 : w2.cell? ⟨w.heap.size, 1, none⟩ = some (.int .i64 0) := R2.cell 1
      have q1 : w2.frozen? ⟨w.heap.size, 1, none⟩ = false := R2.frozen 1
      have r2 : w2.cell? ⟨w.heap.size, 2, none⟩ = some (.slice none 0 0) := R2.cell 2
      have q2 : w2.frozen? ⟨w.heap.size, 2, none⟩ = false := R2.frozen 2
      have r3 : w2.cell? ⟨w.heap.size, 3, none⟩ = some (.slice none 0 0) := R2.cell 3
      have q3 : w2.frozen? ⟨w.heap.size, 3, none⟩ = false := R2.frozen 3
      have GG := (((((Only.refl [w.heap.size] w2).setCell ⟨w.heap.size, 0, none⟩ (.int .i64 (mS0 n wd)) (by simp)).setCell ⟨w.heap.size, 1, none⟩ (.int .i64 (mS1 3 n wd)) (by simp)).setCell ⟨w.heap.size, 2, none⟩ (.slice ga gn gc) (by simp)).setCell ⟨w.heap.size, 3, none⟩ (.slice oa on oc) (by simp))
      have og3 := OwnF.only og GG (fun k hk hk' => by have := Q1.out k hk; simp at hk'; omega)
      have V3 := V2.trans (GG.below V2.size (by simp))
      have HO := Lib.hid og3
      have HV := Lib.hid V3
      clear og V2 GG og3 V3
      go_wp2_with fail
      have og3 := HO.out
      have V3 := HV.out
      clear HO HV r0 r1 r2 r3 q0 q1 q2 q3
      generalize ((((w2.setCell ⟨w.heap.size, 0, none⟩ (.int .i64 (mS0 n wd))).setCell ⟨w.heap.size, 1, none⟩ (.int .i64 (mS1 3 n wd))).setCell ⟨w.heap.size, 2, none⟩ (.slice ga gn gc)).setCell ⟨w.heap.size, 3, none⟩ (.slice oa on oc)) = w3 at *
      have HGN := Lib.hid (show gn = N by rw [HN.out]; have := og3.len; omega)
      refine (countKinds_any _ _ _ (mG 3 n wd) _ og3.flat (by rw [HGN.out]; exact HKN.out) (by rw [HGN.out]; have := HN.out; omega)).mono ?_; rintro e w4 ⟨a4, c4, rfl, o4, u4⟩
      rw [HGN.out] at o4
      obtain ⟨g4, p4, rfl, cx⟩ := o4.ints.at 1 (by omega)
      rw [← HX.out] at cx
      have V4 := V3.trans (u4.mono V3.size)
      clear o4 u4 V3 og3
      have hb : (1 : Int) < ((4 : Nat) : Int) := by omega
      go_wp2
      go_ret2
      exact ⟨rfl, V4⟩
  obtain ⟨ha, hn⟩ := am_out (n := n) (w := wd) (inB_no (n := kind) (lo := 0) (hi := 3) (by omega))
  rw [ha, hn]
  clear ha hn
  have f0 : ((kind == 0) : Bool) = false := by simp [k0]
  have f1 : ((kind == 1) : Bool) = false := by simp [k1]
  have f2 : ((kind == 2) : Bool) = false := by simp [k2]
  have f3 : ((kind == 3) : Bool) = false := by simp [k3]
  clear k0 k1 k2 k3 R1 hz1
  go_enter Try.func15, Try.ntmps15
  go_wp2
  go_ret2
  exact ⟨rfl, V1⟩
set_option maxHeartbeats 8000000 in
set_option maxRecDepth 100000 in
theorem meIf_out (kind n wd : Int) (w : World) (hk : inB kind 0 3 = false) :
    Calls Try.prog 39 #[.int .i64 kind, .int .i64 n, .int .i64 wd] w fun e w' => e = .returned (.tuple #[.agg #[.int .i64 0, .int .i64 0, .slice none 0 0, .slice none 0 0], .bool false]) ∧ Below w.heap.size w w' := by
  have V1 : Below w.heap.size w (w.alloc (.cells #[.int .i64 0, .int .i64 0, .slice none 0 0, .slice none 0 0] 28)) := (Below.refl _ _).alloc (Nat.le_refl _) _
  have R1 : Blk (w.alloc (.cells #[.int .i64 0, .int .i64 0, .slice none 0 0, .slice none 0 0] 28)) w.heap.size 28 #[.int .i64 0, .int .i64 0, .slice none 0 0, .slice none 0 0] := Blk.new w _ _
  cases hg : (inB n 1 8 && inB wd 1 4)
  · go_enter Try.func39, Try.ntmps39
    go_wp2_with fail
    generalize (w.alloc (.cells #[.int .i64 0, .int .i64 0, .slice none 0 0, .slice none 0 0] 28)) = w1 at *
    refine (meGood_any n wd _).mono ?_; rintro e w' ⟨rfl, rfl⟩
    rw [hg]
    have r0 : w1.cell? ⟨w.heap.size, 0, none⟩ = some (.int .i64 0) := R1.cell 0
    have r1 : w1.cell? ⟨w.heap.size, 1, none⟩ = some (.int .i64 0) := R1.cell 1
    have r2 : w1.cell? ⟨w.heap.size, 2, none⟩ = some (.slice none 0 0) := R1.cell 2
    have r3 : w1.cell? ⟨w.heap.size, 3, none⟩ = some (.slice none 0 0) := R1.cell 3
    have q0 : w1.frozen? ⟨w.heap.size, 0, none⟩ = false := R1.frozen 0
    have q1 : w1.frozen? ⟨w.heap.size, 1, none⟩ = false := R1.frozen 1
    have q2 : w1.frozen? ⟨w.heap.size, 2, none⟩ = false := R1.frozen 2
    have q3 : w1.frozen? ⟨w.heap.size, 3, none⟩ = false := R1.frozen 3
    go_wp2
    have GG := (((((Only.refl [w.heap.size] w1).setCell ⟨w.heap.size, 0, none⟩ (.int .i64 0) (by simp)).setCell ⟨w.heap.size, 1, none⟩ (.int .i64 0) (by simp)).setCell ⟨w.heap.size, 2, none⟩ (.slice none 0 0) (by simp)).setCell ⟨w.heap.size, 3, none⟩ (.slice none 0 0) (by simp))
    exact bodyPost_ret (v := .tuple #[.agg #[.int .i64 0, .int .i64 0, .slice none 0 0, .slice none 0 0], .bool false]) (by simp [results, Try.results39, go_sem, r0, r1, r2, r3]) rfl ⟨rfl, V1.trans (GG.below V1.size (by simp))⟩
  · go_enter Try.func39, Try.ntmps39
    go_wp2_with fail
    generalize (w.alloc (.cells #[.int .i64 0, .int .i64 0, .slice none 0 0, .slice none 0 0] 28)) = w1 at *
    refine (meGood_any n wd _).mono ?_; rintro e w' ⟨rfl, rfl⟩
    rw [hg]
    go_wp2_with fail
    refine (l1In_any _ _ _ _).mono ?_; rintro e w' ⟨rfl, rfl⟩
    rw [hk]
    have r0 : w1.cell? ⟨w.heap.size, 0, none⟩ = some (.int .i64 0) := R1.cell 0
    have r1 : w1.cell? ⟨w.heap.size, 1, none⟩ = some (.int .i64 0) := R1.cell 1
    have r2 : w1.cell? ⟨w.heap.size, 2, none⟩ = some (.slice none 0 0) := R1.cell 2
    have r3 : w1.cell? ⟨w.heap.size, 3, none⟩ = some (.slice none 0 0) := R1.cell 3
    have q0 : w1.frozen? ⟨w.heap.size, 0, none⟩ = false := R1.frozen 0
    have q1 : w1.frozen? ⟨w.heap.size, 1, none⟩ = false := R1.frozen 1
    have q2 : w1.frozen? ⟨w.heap.size, 2, none⟩ = false := R1.frozen 2
    have q3 : w1.frozen? ⟨w.heap.size, 3, none⟩ = false := R1.frozen 3
    go_wp2
    have GG := (((((Only.refl [w.heap.size] w1).setCell ⟨w.heap.size, 0, none⟩ (.int .i64 0) (by simp)).setCell ⟨w.heap.size, 1, none⟩ (.int .i64 0) (by simp)).setCell ⟨w.heap.size, 2, none⟩ (.slice none 0 0) (by simp)).setCell ⟨w.heap.size, 3, none⟩ (.slice none 0 0) (by simp))
    exact bodyPost_ret (v := .tuple #[.agg #[.int .i64 0, .int .i64 0, .slice none 0 0, .slice none 0 0], .bool false]) (by simp [results, Try.results39, go_sem, r0, r1, r2, r3]) rfl ⟨rfl, V1.trans (GG.below V1.size (by simp))⟩
set_option maxHeartbeats 8000000 in
set_option maxRecDepth 100000 in
theorem spec_AndsOfMemory_any (kind n wd : Int) (w : World) :
    Calls Try.prog 16 #[.int .i64 kind, .int .i64 n, .int .i64 wd] w fun e w' => e = .returned (.tuple #[.int .i64 (amN kind n wd), .bool (amB kind n wd)]) ∧ Below w.heap.size w w' := by
  by_cases k0 : kind = 0
  · subst k0
    cases hm : memB n wd
    · obtain ⟨ha, hn⟩ := am_no 0 (by omega) hm
      have ha2 : amB 0 n wd = false := ha
      have hn2 : amN 0 n wd = _ := hn
      rw [ha2, hn2]
      clear ha hn ha2 hn2
      have HM := Lib.hid hm
      clear hm
      go_enter Try.func16, Try.ntmps16
      go_wp2_with fail
      refine (meIf_0 n wd _).mono ?_; rintro e w2 ⟨ga, gn, gc, oa, on, oc, rfl, og, oo, dd, u2⟩
      rw [HM.out]
      have V2 := u2
      go_wp2
      go_ret2
      exact ⟨rfl, V2.alloc V2.size _⟩
    · obtain ⟨ha, hn⟩ := am_yes 0 (by omega) hm
      have ha2 : amB 0 n wd = true := ha
      have hn2 : amN 0 n wd = _ := hn
      rw [ha2, hn2]
      clear ha hn ha2 hn2
      have hkn := m_kinds 0 n wd hm
      have hln := (m_len 0 n wd).1
      have hl4 := cntL_len (mG 0 n wd) ((mG 0 n wd).length / 3)
      obtain ⟨N, hN⟩ : ∃ N, N = (mG 0 n wd).length / 3 := ⟨_, rfl⟩
      rw [← hN] at hkn hl4 ⊢
      have HN := Lib.hid hN
      have HKN := Lib.hid hkn
      clear hN hkn
      obtain ⟨X, hX⟩ : ∃ X, X = (cntL (mG 0 n wd) N).getD 1 0 := ⟨_, rfl⟩
      rw [← hX]
      have HX := Lib.hid hX
      clear hX
      have HM := Lib.hid hm
      clear hm
      go_enter Try.func16, Try.ntmps16
      go_wp2_with fail
      refine (meIf_0 n wd _).mono ?_; rintro e w2 ⟨ga, gn, gc, oa, on, oc, rfl, og, oo, dd, u2⟩
      rw [HM.out]
      have V2 := u2
      have og3 := og.alloc (.cells #[.int .i64 (mS0 n wd), .int .i64 (mS1 0 n wd), .slice ga gn gc, .slice oa on oc] 28)
      have V3 := V2.alloc V2.size (.cells #[.int .i64 (mS0 n wd), .int .i64 (mS1 0 n wd), .slice ga gn gc, .slice oa on oc] 28)
      clear og V2
      go_wp2_with fail
      generalize (w2.alloc (.cells #[.int .i64 (mS0 n wd), .int .i64 (mS1 0 n wd), .slice ga gn gc, .slice oa on oc] 28)) = w3 at *
      have HGN := Lib.hid (show gn = N by rw [HN.out]; have := og3.len; omega)
      refine (ciCounts_any _ _ _ _ _ _ _ _ (mG 0 n wd) _ og3.flat (by rw [HGN.out]; exact HKN.out) (by rw [HGN.out]; have := HN.out; omega)).mono ?_; rintro e w4 ⟨a4, c4, rfl, o4, u4⟩
      rw [HGN.out] at o4
      obtain ⟨g4, p4, rfl, cx⟩ := o4.ints.at 1 (by omega)
      rw [← HX.out] at cx
      have V4 := V3.trans (u4.mono V3.size)
      clear o4 u4 V3 og3
      have hb : (1 : Int) < ((4 : Nat) : Int) := by omega
      go_wp2
      go_ret2
      exact ⟨rfl, V4⟩
  by_cases k1 : kind = 1
  · subst k1
    cases hm : memB n wd
    · obtain ⟨ha, hn⟩ := am_no 1 (by omega) hm
      have ha2 : amB 1 n wd = false := ha
      have hn2 : amN 1 n wd = _ := hn
      rw [ha2, hn2]
      clear ha hn ha2 hn2
      have HM := Lib.hid hm
      clear hm
      go_enter Try.func16, Try.ntmps16
      go_wp2_with fail
      refine (meIf_1 n wd _).mono ?_; rintro e w2 ⟨ga, gn, gc, oa, on, oc, rfl, og, oo, dd, u2⟩
      rw [HM.out]
      have V2 := u2
      go_wp2
      go_ret2
      exact ⟨rfl, V2.alloc V2.size _⟩
    · obtain ⟨ha, hn⟩ := am_yes 1 (by omega) hm
      have ha2 : amB 1 n wd = true := ha
      have hn2 : amN 1 n wd = _ := hn
      rw [ha2, hn2]
      clear ha hn ha2 hn2
      have hkn := m_kinds 1 n wd hm
      have hln := (m_len 1 n wd).1
      have hl4 := cntL_len (mG 1 n wd) ((mG 1 n wd).length / 3)
      obtain ⟨N, hN⟩ : ∃ N, N = (mG 1 n wd).length / 3 := ⟨_, rfl⟩
      rw [← hN] at hkn hl4 ⊢
      have HN := Lib.hid hN
      have HKN := Lib.hid hkn
      clear hN hkn
      obtain ⟨X, hX⟩ : ∃ X, X = (cntL (mG 1 n wd) N).getD 1 0 := ⟨_, rfl⟩
      rw [← hX]
      have HX := Lib.hid hX
      clear hX
      have HM := Lib.hid hm
      clear hm
      go_enter Try.func16, Try.ntmps16
      go_wp2_with fail
      refine (meIf_1 n wd _).mono ?_; rintro e w2 ⟨ga, gn, gc, oa, on, oc, rfl, og, oo, dd, u2⟩
      rw [HM.out]
      have V2 := u2
      have og3 := og.alloc (.cells #[.int .i64 (mS0 n wd), .int .i64 (mS1 1 n wd), .slice ga gn gc, .slice oa on oc] 28)
      have V3 := V2.alloc V2.size (.cells #[.int .i64 (mS0 n wd), .int .i64 (mS1 1 n wd), .slice ga gn gc, .slice oa on oc] 28)
      clear og V2
      go_wp2_with fail
      generalize (w2.alloc (.cells #[.int .i64 (mS0 n wd), .int .i64 (mS1 1 n wd), .slice ga gn gc, .slice oa on oc] 28)) = w3 at *
      have HGN := Lib.hid (show gn = N by rw [HN.out]; have := og3.len; omega)
      refine (ciCounts_any _ _ _ _ _ _ _ _ (mG 1 n wd) _ og3.flat (by rw [HGN.out]; exact HKN.out) (by rw [HGN.out]; have := HN.out; omega)).mono ?_; rintro e w4 ⟨a4, c4, rfl, o4, u4⟩
      rw [HGN.out] at o4
      obtain ⟨g4, p4, rfl, cx⟩ := o4.ints.at 1 (by omega)
      rw [← HX.out] at cx
      have V4 := V3.trans (u4.mono V3.size)
      clear o4 u4 V3 og3
      have hb : (1 : Int) < ((4 : Nat) : Int) := by omega
      go_wp2
      go_ret2
      exact ⟨rfl, V4⟩
  by_cases k2 : kind = 2
  · subst k2
    cases hm : memB n wd
    · obtain ⟨ha, hn⟩ := am_no 2 (by omega) hm
      have ha2 : amB 2 n wd = false := ha
      have hn2 : amN 2 n wd = _ := hn
      rw [ha2, hn2]
      clear ha hn ha2 hn2
      have HM := Lib.hid hm
      clear hm
      go_enter Try.func16, Try.ntmps16
      go_wp2_with fail
      refine (meIf_2 n wd _).mono ?_; rintro e w2 ⟨ga, gn, gc, oa, on, oc, rfl, og, oo, dd, u2⟩
      rw [HM.out]
      have V2 := u2
      go_wp2
      go_ret2
      exact ⟨rfl, V2.alloc V2.size _⟩
    · obtain ⟨ha, hn⟩ := am_yes 2 (by omega) hm
      have ha2 : amB 2 n wd = true := ha
      have hn2 : amN 2 n wd = _ := hn
      rw [ha2, hn2]
      clear ha hn ha2 hn2
      have hkn := m_kinds 2 n wd hm
      have hln := (m_len 2 n wd).1
      have hl4 := cntL_len (mG 2 n wd) ((mG 2 n wd).length / 3)
      obtain ⟨N, hN⟩ : ∃ N, N = (mG 2 n wd).length / 3 := ⟨_, rfl⟩
      rw [← hN] at hkn hl4 ⊢
      have HN := Lib.hid hN
      have HKN := Lib.hid hkn
      clear hN hkn
      obtain ⟨X, hX⟩ : ∃ X, X = (cntL (mG 2 n wd) N).getD 1 0 := ⟨_, rfl⟩
      rw [← hX]
      have HX := Lib.hid hX
      clear hX
      have HM := Lib.hid hm
      clear hm
      go_enter Try.func16, Try.ntmps16
      go_wp2_with fail
      refine (meIf_2 n wd _).mono ?_; rintro e w2 ⟨ga, gn, gc, oa, on, oc, rfl, og, oo, dd, u2⟩
      rw [HM.out]
      have V2 := u2
      have og3 := og.alloc (.cells #[.int .i64 (mS0 n wd), .int .i64 (mS1 2 n wd), .slice ga gn gc, .slice oa on oc] 28)
      have V3 := V2.alloc V2.size (.cells #[.int .i64 (mS0 n wd), .int .i64 (mS1 2 n wd), .slice ga gn gc, .slice oa on oc] 28)
      clear og V2
      go_wp2_with fail
      generalize (w2.alloc (.cells #[.int .i64 (mS0 n wd), .int .i64 (mS1 2 n wd), .slice ga gn gc, .slice oa on oc] 28)) = w3 at *
      have HGN := Lib.hid (show gn = N by rw [HN.out]; have := og3.len; omega)
      refine (ciCounts_any _ _ _ _ _ _ _ _ (mG 2 n wd) _ og3.flat (by rw [HGN.out]; exact HKN.out) (by rw [HGN.out]; have := HN.out; omega)).mono ?_; rintro e w4 ⟨a4, c4, rfl, o4, u4⟩
      rw [HGN.out] at o4
      obtain ⟨g4, p4, rfl, cx⟩ := o4.ints.at 1 (by omega)
      rw [← HX.out] at cx
      have V4 := V3.trans (u4.mono V3.size)
      clear o4 u4 V3 og3
      have hb : (1 : Int) < ((4 : Nat) : Int) := by omega
      go_wp2
      go_ret2
      exact ⟨rfl, V4⟩
  by_cases k3 : kind = 3
  · subst k3
    cases hm : memB n wd
    · obtain ⟨ha, hn⟩ := am_no 3 (by omega) hm
      have ha2 : amB 3 n wd = false := ha
      have hn2 : amN 3 n wd = _ := hn
      rw [ha2, hn2]
      clear ha hn ha2 hn2
      have HM := Lib.hid hm
      clear hm
      go_enter Try.func16, Try.ntmps16
      go_wp2_with fail
      refine (meIf_3 n wd _).mono ?_; rintro e w2 ⟨ga, gn, gc, oa, on, oc, rfl, og, oo, dd, u2⟩
      rw [HM.out]
      have V2 := u2
      go_wp2
      go_ret2
      exact ⟨rfl, V2.alloc V2.size _⟩
    · obtain ⟨ha, hn⟩ := am_yes 3 (by omega) hm
      have ha2 : amB 3 n wd = true := ha
      have hn2 : amN 3 n wd = _ := hn
      rw [ha2, hn2]
      clear ha hn ha2 hn2
      have hkn := m_kinds 3 n wd hm
      have hln := (m_len 3 n wd).1
      have hl4 := cntL_len (mG 3 n wd) ((mG 3 n wd).length / 3)
      obtain ⟨N, hN⟩ : ∃ N, N = (mG 3 n wd).length / 3 := ⟨_, rfl⟩
      rw [← hN] at hkn hl4 ⊢
      have HN := Lib.hid hN
      have HKN := Lib.hid hkn
      clear hN hkn
      obtain ⟨X, hX⟩ : ∃ X, X = (cntL (mG 3 n wd) N).getD 1 0 := ⟨_, rfl⟩
      rw [← hX]
      have HX := Lib.hid hX
      clear hX
      have HM := Lib.hid hm
      clear hm
      go_enter Try.func16, Try.ntmps16
      go_wp2_with fail
      refine (meIf_3 n wd _).mono ?_; rintro e w2 ⟨ga, gn, gc, oa, on, oc, rfl, og, oo, dd, u2⟩
      rw [HM.out]
      have V2 := u2
      have og3 := og.alloc (.cells #[.int .i64 (mS0 n wd), .int .i64 (mS1 3 n wd), .slice ga gn gc, .slice oa on oc] 28)
      have V3 := V2.alloc V2.size (.cells #[.int .i64 (mS0 n wd), .int .i64 (mS1 3 n wd), .slice ga gn gc, .slice oa on oc] 28)
      clear og V2
      go_wp2_with fail
      generalize (w2.alloc (.cells #[.int .i64 (mS0 n wd), .int .i64 (mS1 3 n wd), .slice ga gn gc, .slice oa on oc] 28)) = w3 at *
      have HGN := Lib.hid (show gn = N by rw [HN.out]; have := og3.len; omega)
      refine (ciCounts_any _ _ _ _ _ _ _ _ (mG 3 n wd) _ og3.flat (by rw [HGN.out]; exact HKN.out) (by rw [HGN.out]; have := HN.out; omega)).mono ?_; rintro e w4 ⟨a4, c4, rfl, o4, u4⟩
      rw [HGN.out] at o4
      obtain ⟨g4, p4, rfl, cx⟩ := o4.ints.at 1 (by omega)
      rw [← HX.out] at cx
      have V4 := V3.trans (u4.mono V3.size)
      clear o4 u4 V3 og3
      have hb : (1 : Int) < ((4 : Nat) : Int) := by omega
      go_wp2
      go_ret2
      exact ⟨rfl, V4⟩
  obtain ⟨ha, hn⟩ := am_out (n := n) (w := wd) (inB_no (n := kind) (lo := 0) (hi := 3) (by omega))
  rw [ha, hn]
  clear ha hn
  have hi3 := inB_no (n := kind) (lo := 0) (hi := 3) (by omega)
  clear k0 k1 k2 k3
  go_enter Try.func16, Try.ntmps16
  go_wp2_with fail
  refine (meIf_out kind n wd _ hi3).mono ?_; rintro e w2 ⟨rfl, u2⟩
  go_wp2
  go_ret2
  exact ⟨rfl, u2.alloc u2.size _⟩
end Go.Proofs.Ytmbheimjphhamaa
namespace Go.Proofs.Ytmbheimjphhamaa
theorem gapp (l l' : List Int) (k : Nat) (h : k < l.length) : (l ++ l').getD k 0 = l.getD k 0 := by simp [List.getD, List.getElem?_append_left h]
end Go.Proofs.Ytmbheimjphhamaa
namespace Go.Proofs.Ytmbheimjphhamaa
open Go.RowKit
/-- The number of gates GtAnd. -/
def anN (G : List Int) : Int := (cntL G (G.length / 3)).getD 1 0
theorem cntL_gt (G : List Int) (k a b : Int) (j : Nat) (hj : 3 * j ≤ G.length) : cntL (gt G k a b) j = cntL G j := by
  induction j with
  | zero => rfl
  | succ j ih =>
    rw [cntL_succ, cntL_succ, ih (by omega)]
    unfold gt
    rw [gapp _ _ _ (by omega)]
theorem anN_gt {B : Int} {G : List Int} (h : Gd B G) (k a b : Int) (hk : 0 ≤ k ∧ k ≤ 3) : anN (gt G k a b) = anN G + if k = 1 then 1 else 0 := by
  have h3 := h.2.1
  have e : (gt G k a b).length / 3 = G.length / 3 + 1 := by rw [gt_len]; omega
  have e2 : G.length / 3 * 3 = G.length := by omega
  have e3 : (gt G k a b).getD G.length 0 = k := by unfold gt; simp [List.getD]
  unfold anN
  rw [e, cntL_succ, cntL_gt _ _ _ _ _ (by omega), e2, e3]
  have hl := cntL_len G (G.length / 3)
  unfold cntS
  rw [getD_set]
  by_cases hk1 : k = 1
  · subst hk1
    rw [if_pos ⟨rfl, by rw [hl]; decide⟩, if_pos rfl]; rfl
  · rw [if_neg (by omega), if_neg hk1, Int.add_zero]
theorem anN_ch {B s : Int} {x y G : List Int} (h : Gd B G) (hs : Wr B G s) (hx : Ws B G x) (hy : Ws B G y) (n : Nat) (h1 : n ≤ x.length) (h2 : n ≤ y.length) : anN (chG B s x y G n).1 = anN G + n := by
  induction n with
  | zero => simp [chG]
  | succ n ih =>
    have ih := ih (by omega) (by omega)
    obtain ⟨g, m, r⟩ := chG_good h hs hx hy n (by omega) (by omega)
    rw [chG_succ]
    have wx := m.wr (hx.at n (by omega))
    have wy := m.wr (hy.at n (by omega))
    have ws := m.wr hs
    generalize chG B s x y G n = q at *
    have g1 := g.xor wx wy
    have m1 := Mo.gt B q.1 0 (x.getD n 0) (y.getD n 0)
    have n1 := Wr.new (G := q.1) h.1 0 (x.getD n 0) (y.getD n 0)
    unfold chS
    dsimp only
    rw [anN_gt (g1.and (m1.wr ws) n1) _ _ _ (by decide), anN_gt g1 _ _ _ (by decide), anN_gt g _ _ _ (by decide), ih]
    simp
    omega
theorem anN_trJ {B b : Int} {cells : List (List Int)} {G : List Int} {w : Nat} (h : Gd B G) (hb : Wr B G b) (hc : Wa B G cells) (hw : AllL w cells) (j : Nat) (hj : 2 * j ≤ cells.length + 1) :
    anN (trJ B b cells G j).1 + (w : Int) * j = anN G + (w : Int) * (min (2 * j) cells.length : Nat) := by
  induction j with
  | zero => simp [trJ]
  | succ j ih =>
    have ih := ih (by omega)
    obtain ⟨g, k, r⟩ := trJ_good h hb hc hw j (by omega)
    rw [trJ_succ]
    generalize trJ B b cells G j = q at *
    unfold trS
    have em : min (2 * j) cells.length = 2 * j := by omega
    rw [em] at ih
    have e1 : (w : Int) * ((j + 1 : Nat) : Int) = (w : Int) * j + w := by rw [Int.natCast_add, Int.mul_add]; simp
    have e2 : (w : Int) * ((2 * j + 1 : Nat) : Int) = (w : Int) * ((2 * j : Nat) : Int) + w := by rw [Int.natCast_add, Int.mul_add]; simp
    have e3 : (w : Int) * ((2 * j + 2 : Nat) : Int) = (w : Int) * ((2 * j : Nat) : Int) + w + w := by rw [Int.natCast_add (2 * j) 2, Int.mul_add]; omega
    by_cases hlast : 2 * j + 1 = cells.length
    · rw [if_pos hlast]
      have e : min (2 * (j + 1)) cells.length = 2 * j + 1 := by omega
      rw [e, e1, e2]
      dsimp only
      omega
    · rw [if_neg hlast]
      have l1 := hw.at (2 * j) (by omega)
      have l2 := hw.at (2 * j + 1) (by omega)
      have e : min (2 * (j + 1)) cells.length = 2 * j + 2 := by omega
      dsimp only
      rw [anN_ch g (k.wr hb) ((k.wa hc).at (2 * j + 1) (by omega)) ((k.wa hc).at (2 * j) (by omega)) (cells.getD (2 * j + 1) []).length (Nat.le_refl _) (by omega), l2, e, e1, e3]
      omega
theorem anN_trG {B : Int} {idx : List Int} {cells : List (List Int)} {G : List Int} {w : Nat} (h : Gd B G) (hx : Ws B G idx) (hc : Wa B G cells) (hw : AllL w cells) (h0 : 0 < cells.length) (h8 : cells.length ≤ 8) (k : Nat) (hk : k ≤ idx.length) :
    anN (trG B idx cells G k).1 + (w : Int) * ((trG B idx cells G k).2.length : Nat) = anN G + (w : Int) * (cells.length : Nat) ∧ (trG B idx cells G k).2.length * 2 ^ k < cells.length + 2 ^ k := by
  induction k with
  | zero => exact ⟨rfl, by simp [trG]⟩
  | succ k ih =>
    obtain ⟨ih, ih2⟩ := ih (by omega)
    obtain ⟨g, m, r⟩ := trG_good h hx hc hw h0 h8 k (by omega)
    obtain ⟨_, _, hw2⟩ := trG_len (B := B) (idx := idx) (G := G) hw h0 h8 k
    rw [trG_succ]
    have wx := m.wr (hx.at k (by omega))
    generalize trG B idx cells G k = q at *
    have h2 := (trJ_len (B := B) (b := idx.getD k 0) (G := q.1) hw2 ((q.2.length + 1) / 2) (by omega)).2.1
    have h3 := anN_trJ g wx r hw2 ((q.2.length + 1) / 2) (by omega)
    have e : min (2 * ((q.2.length + 1) / 2)) q.2.length = q.2.length := by omega
    rw [e] at h3
    rw [h2]
    refine ⟨by omega, ?_⟩
    rw [Nat.pow_succ, Nat.mul_comm (2 ^ k) 2, ← Nat.mul_assoc]
    have h5 : (q.2.length + 1) / 2 * 2 ≤ q.2.length + 1 := by omega
    have h6 : (q.2.length + 1) / 2 * 2 * 2 ^ k ≤ (q.2.length + 1) * 2 ^ k := Nat.mul_le_mul_right _ h5
    rw [Nat.add_mul, Nat.one_mul] at h6
    omega
theorem anN_nil : anN [] = 0 := rfl
/-- A tree has (n - 1) * w gates GtAnd. -/
theorem anN_tree (n w : Nat) (h1 : 1 ≤ n) (h8 : n ≤ 8) (_hw : 1 ≤ w) (_h4 : w ≤ 4) : anN (meG 1 n w).1 = ((n : Int) - 1) * w := by
  have hv := wid_cases n
  have e : meG 1 n w = meTrG n w (wid n) := by unfold meG; rw [if_neg (by decide), if_pos rfl]
  have hca := ceL_all w n
  have hce := ceL_len w n
  obtain ⟨h5, h6⟩ := anN_trG (B := meB n w (wid n) 0) (idx := meI n w (wid n)) (cells := ceL w n) (G := []) (Gd.nil (by unfold meB; omega)) (meI_ws n w _ (by unfold meB; omega)) (ceL_wa w n (by unfold meB; omega)) hca (by omega) (by omega) (wid n) (by rw [show (meI n w (wid n)).length = wid n from spL_len _ _]; exact Nat.le_refl _)
  obtain ⟨_, ⟨h7, _⟩, _⟩ := trG_len (B := meB n w (wid n) 0) (idx := meI n w (wid n)) (G := []) hca (by omega) (by omega) (wid n)
  rw [e]
  unfold meTrG
  dsimp only
  rw [hce] at h5 h6
  have hup : n ≤ 2 ^ wid n := by
    rcases (by omega : n = 1 ∨ n = 2 ∨ n = 3 ∨ n = 4 ∨ n = 5 ∨ n = 6 ∨ n = 7 ∨ n = 8) with rfl | rfl | rfl | rfl | rfl | rfl | rfl | rfl <;> decide
  generalize (trG (meB n w (wid n) 0) (meI n w (wid n)) (ceL w n) [] (wid n)).2.length = r at *
  have hp : 0 < 2 ^ wid n := Nat.two_pow_pos _
  have hr : r = 1 := by
    rcases (by omega : r = 1 ∨ 2 ≤ r) with h | h
    · exact h
    · have : 2 * 2 ^ wid n ≤ r * 2 ^ wid n := Nat.mul_le_mul_right _ h
      omega
  subst hr
  rw [anN_nil] at h5
  rw [Int.sub_mul, Int.mul_comm (n : Int) w]
  simp at h5 ⊢
  omega
theorem anN_mn {B i : Int} {idx G : List Int} (h : Gd B G) (hx : Ws B G idx) (n : Nat) (hn : n ≤ idx.length) : anN (mnG B i idx G n).1 = anN G := by
  induction n with
  | zero => rfl
  | succ n ih =>
    have ih := ih (by omega)
    obtain ⟨g, m, r⟩ := mnG_good (i := i) h hx n (by omega)
    rw [mnG_succ]
    generalize mnG B i idx G n = q at *
    unfold mnS
    split
    · exact ih
    · dsimp only
      rw [anN_gt g _ _ _ (by decide), ih]
      simp
theorem anN_an {B : Int} {l G : List Int} (h : Gd B G) (hl : Ws B G l) (j : Nat) (hj : j < l.length) : anN (anG B l G j).1 = anN G + j := by
  induction j with
  | zero => simp [anG]
  | succ j ih =>
    have ih := ih (by omega)
    obtain ⟨g, m, r⟩ := anG_good h hl j (by omega)
    rw [anG_succ]
    generalize anG B l G j = q at *
    unfold anS
    dsimp only
    rw [anN_gt g _ _ _ (by decide), ih]
    simp
    omega
theorem anN_ma {B i : Int} {idx G : List Int} (h : Gd B G) (hx : Ws B G idx) : anN G ≤ anN (maG B i idx G).1 := by
  unfold maG
  split
  · dsimp only; rw [anN_gt h _ _ _ (by decide)]; simp
  · obtain ⟨g, m, r⟩ := mnG_good (i := i) h hx idx.length (Nat.le_refl _)
    rw [anN_an g r (idx.length - 1) (by rw [(mnG_len B i idx G idx.length).2]; omega), anN_mn h hx _ (Nat.le_refl _)]
    omega
theorem anN_scI {B m : Int} {cell out G : List Int} {first : Bool} (h : Gd B G) (hm : Wr B G m) (hc : Ws B G cell) (ho : first = false → Ws B G out ∧ cell.length ≤ out.length) (n : Nat) (hn : n ≤ cell.length) :
    anN (scI B m cell out first G n).1 = anN G + n := by
  induction n with
  | zero => simp [scI]
  | succ n ih =>
    have ih := ih (by omega)
    obtain ⟨g, k, r⟩ := scI_good h hm hc ho n (by omega)
    rw [scI_succ]
    have wx := k.wr (hc.at n (by omega))
    have wm := k.wr hm
    generalize scI B m cell out first G n = q at *
    unfold scS
    split
    · dsimp only; rw [anN_gt g _ _ _ (by decide), ih]; simp; omega
    · dsimp only; rw [anN_gt (g.and wm wx) _ _ _ (by decide), anN_gt g _ _ _ (by decide), ih]; simp; omega
theorem anN_scG {B : Int} {idx : List Int} {cells : List (List Int)} {G : List Int} {w : Nat} (h : Gd B G) (hx : Ws B G idx) (hc : Wa B G cells) (hw : AllL w cells) (i : Nat) (hi : i ≤ cells.length) :
    anN G + (w : Int) * i ≤ anN (scG B idx cells G i).1 := by
  induction i with
  | zero => simp [scG]
  | succ i ih =>
    have ih := ih (by omega)
    obtain ⟨g, k, r⟩ := scG_good h hx hc hw i (by omega)
    have hl := (scG_len (B := B) (idx := idx) (G := G) hw i (by omega)).2
    have hc2 := (k.wa hc).at i (by omega)
    have hl2 := hw.at i (by omega)
    rw [scG_succ]
    generalize scG B idx cells G i = q at *
    generalize cells.getD i [] = C at *
    unfold scT
    obtain ⟨g2, k2, r2⟩ := maG_good (i := (i : Int)) g (k.ws hx)
    have h5 := anN_ma (i := (i : Int)) g (k.ws hx)
    rw [anN_scI (out := q.2) (first := i == 0) g2 r2 (k2.ws hc2) (fun e => ⟨k2.ws r, by rw [hl (by cases i with | zero => cases e | succ i => omega)]; omega⟩) C.length (Nat.le_refl _), hl2]
    rw [Int.natCast_add, Int.mul_add]
    simp
    omega
/-- A scan has no fewer gates GtAnd than a tree. -/
theorem anN_scan (n w : Nat) (h1 : 1 ≤ n) (h8 : n ≤ 8) (hw : 1 ≤ w) (h4 : w ≤ 4) : anN (meG 1 n w).1 ≤ anN (meG 0 n w).1 := by
  have hca := ceL_all w n
  have hce := ceL_len w n
  have h5 := anN_scG (B := meB n w (wid n) 0) (idx := meI n w (wid n)) (cells := ceL w n) (G := []) (Gd.nil (by unfold meB; omega)) (meI_ws n w _ (by unfold meB; omega)) (ceL_wa w n (by unfold meB; omega)) hca n (by omega)
  rw [anN_tree n w h1 h8 hw h4]
  have e : meG 0 n w = meScG n w (wid n) := by unfold meG; rw [if_pos rfl]
  rw [e]
  unfold meScG
  rw [anN_nil] at h5
  rw [Int.sub_mul, Int.mul_comm (n : Int) w]
  omega
end Go.Proofs.Ytmbheimjphhamaa
namespace Go.Proofs.Ytmbheimjphhamaa
open Go.RowKit
/-- Two slices that read alike are equal to the laws. -/
theorem qInts_same (a : Option Addr) (n c : Nat) (a' : Option Addr) (n' c' : Nat) (l : List Int) (w : World) (h : Ints w a n c l) (h' : Ints w a' n' c' l) :
    Calls Try.prog 23 #[.slice a n c, .slice a' n' c'] w fun e w' => e = .returned (.bool true) ∧ ∃ m, w' = w.drewN m := by
  obtain rfl : n = n' := by rw [h.len, h'.len]
  have hn := h.le
  go_enter Try.func23, Try.ntmps23
  go_wp2
  go_loopw [13] (fun v wr => ∃ k : Nat, k ≤ n ∧ v = .int .i64 k ∧ ∃ m, wr = w.drewN m) (fun v _ => n - (intOf v).toNat)
  case atStart => exact ⟨0, Nat.zero_le _, rfl, 0, rfl⟩
  case round =>
    obtain ⟨k, hk, rfl, m, rfl⟩ := hrel
    by_cases hlt : k < n
    · obtain ⟨g, o, rfl, hcell⟩ := h.at k hlt
      obtain ⟨g', o', rfl, hcell'⟩ := h'.at k hlt
      have hb : ((l.getD k 0 != l.getD k 0) : Bool) = false := by simp
      go_wp2
      go_quiet (fail)
      go_wp2
      go_roundw
      case rel => exact ⟨k + 1, by omega, by go_num, _, by first | rfl | exact World.drewN_drewN ..⟩
      case measure => simp [intOf]; omega
    · go_wp2
      go_ret
      exact ⟨rfl, _, rfl⟩
theorem qGates_same (a : Option Addr) (n c : Nat) (a' : Option Addr) (n' c' : Nat) (l : List Int) (w : World) (h : Flat 3 w a n c l) (h' : Flat 3 w a' n' c' l) :
    Calls Try.prog 54 #[.slice a n c, .slice a' n' c'] w fun e w' => e = .returned (.bool true) ∧ ∃ m, w' = w.drewN m := by
  obtain rfl : n = n' := by have := h.len; have := h'.len; omega
  have hn := h.le
  go_enter Try.func54, Try.ntmps54
  go_wp2
  go_loopw [13] (fun v wr => ∃ k : Nat, k ≤ n ∧ v = .int .i64 k ∧ ∃ m, wr = w.drewN m) (fun v _ => n - (intOf v).toNat)
  case atStart => exact ⟨0, Nat.zero_le _, rfl, 0, rfl⟩
  case round =>
    obtain ⟨k, hk, rfl, m, rfl⟩ := hrel
    by_cases hlt : k < n
    · obtain ⟨g, o, rfl, hc⟩ := h.at (by omega)
      obtain ⟨g', o', rfl, hc'⟩ := h'.at (by omega)
      have c0 : w.cell? ⟨g, o + k * 3, none⟩ = some (.int .i64 (l.getD (k * 3) 0)) := hc (k * 3) (by omega)
      have c1 : w.cell? ⟨g, o + k * 3 + 1, none⟩ = some (.int .i64 (l.getD (k * 3 + 1) 0)) := by have := hc (k * 3 + 1) (by omega); simpa only [Nat.add_assoc] using this
      have c2 : w.cell? ⟨g, o + k * 3 + 2, none⟩ = some (.int .i64 (l.getD (k * 3 + 2) 0)) := by have := hc (k * 3 + 2) (by omega); simpa only [Nat.add_assoc] using this
      have d0 : w.cell? ⟨g', o' + k * 3, none⟩ = some (.int .i64 (l.getD (k * 3) 0)) := hc' (k * 3) (by omega)
      have d1 : w.cell? ⟨g', o' + k * 3 + 1, none⟩ = some (.int .i64 (l.getD (k * 3 + 1) 0)) := by have := hc' (k * 3 + 1) (by omega); simpa only [Nat.add_assoc] using this
      have d2 : w.cell? ⟨g', o' + k * 3 + 2, none⟩ = some (.int .i64 (l.getD (k * 3 + 2) 0)) := by have := hc' (k * 3 + 2) (by omega); simpa only [Nat.add_assoc] using this
      generalize l.getD (k * 3) 0 = x at *
      generalize l.getD (k * 3 + 1) 0 = y at *
      generalize l.getD (k * 3 + 2) 0 = z at *
      clear hc hc'
      go_wp2
      go_quiet (fail)
      go_wp2
      go_roundw
      case rel => exact ⟨k + 1, by omega, by go_num, _, by first | rfl | exact World.drewN_drewN ..⟩
      case measure => simp [intOf]; omega
    · go_wp2
      go_ret
      exact ⟨rfl, _, rfl⟩
theorem qCircuit_same (s0 s1 : Int) (ga : Option Addr) (gn gc : Nat) (oa : Option Addr) (on oc : Nat) (ga' : Option Addr) (gn' gc' : Nat) (oa' : Option Addr) (on' oc' : Nat) (G O : List Int) (w : World) (hG : Flat 3 w ga gn gc G) (hO : Ints w oa on oc O) (hG' : Flat 3 w ga' gn' gc' G) (hO' : Ints w oa' on' oc' O) :
    Calls Try.prog 20 #[.agg #[.int .i64 s0, .int .i64 s1, .slice ga gn gc, .slice oa on oc], .agg #[.int .i64 s0, .int .i64 s1, .slice ga' gn' gc', .slice oa' on' oc']] w fun e w' => e = .returned (.bool true) ∧ Below w.heap.size w w' := by
  have V1 : Below w.heap.size w ((w.alloc (.cells #[.int .i64 s0, .int .i64 s1, .slice ga gn gc, .slice oa on oc] 28)).alloc (.cells #[.int .i64 s0, .int .i64 s1, .slice ga' gn' gc', .slice oa' on' oc'] 28)) := ((Below.refl _ _).alloc (Nat.le_refl _) _).alloc (by simp) _
  have B1 : Blk ((w.alloc (.cells #[.int .i64 s0, .int .i64 s1, .slice ga gn gc, .slice oa on oc] 28)).alloc (.cells #[.int .i64 s0, .int .i64 s1, .slice ga' gn' gc', .slice oa' on' oc'] 28)) w.heap.size 28 #[.int .i64 s0, .int .i64 s1, .slice ga gn gc, .slice oa on oc] := (Blk.new w _ _).alloc _
  have B2 : Blk ((w.alloc (.cells #[.int .i64 s0, .int .i64 s1, .slice ga gn gc, .slice oa on oc] 28)).alloc (.cells #[.int .i64 s0, .int .i64 s1, .slice ga' gn' gc', .slice oa' on' oc'] 28)) (w.heap.size + 1) 28 #[.int .i64 s0, .int .i64 s1, .slice ga' gn' gc', .slice oa' on' oc'] := by have := Blk.new (w.alloc (.cells #[.int .i64 s0, .int .i64 s1, .slice ga gn gc, .slice oa on oc] 28)) 28 #[.int .i64 s0, .int .i64 s1, .slice ga' gn' gc', .slice oa' on' oc']; rw [World.size_alloc] at this; exact this
  go_enter Try.func20, Try.ntmps20
  go_wp2_with fail
  generalize ((w.alloc (.cells #[.int .i64 s0, .int .i64 s1, .slice ga gn gc, .slice oa on oc] 28)).alloc (.cells #[.int .i64 s0, .int .i64 s1, .slice ga' gn' gc', .slice oa' on' oc'] 28)) = w1 at *
  refine (qGates_same _ _ _ _ _ _ G _ (hG.below V1) (hG'.below V1)).mono ?_; rintro e w2 ⟨rfl, q2⟩
  have u2 := below_of_quiet q2
  have C1 := B1.below u2
  have C2 := B2.below u2
  have x3 : w2.cell? ⟨w.heap.size, 3, none⟩ = some (.slice oa on oc) := C1.cell 3
  have y3 : w2.cell? ⟨w.heap.size + 1, 3, none⟩ = some (.slice oa' on' oc') := C2.cell 3
  have V2 := V1.trans (u2.mono V1.size)
  clear q2 u2 V1 B1 B2 C1 C2
  go_wp2_with fail
  refine (qInts_same _ _ _ _ _ _ O _ (hO.below V2) (hO'.below V2)).mono ?_; rintro e w3 ⟨rfl, q3⟩
  have V3 := V2.trans ((below_of_quiet q3).mono V2.size)
  clear q3 V2 x3 y3
  go_wp2
  go_ret
  exact ⟨rfl, V3⟩
theorem CountGates_ok (i0 i1 : Int) (ga : Option Addr) (gn gc : Nat) (G : List Int) (oa : Option Addr) (on oc : Nat) (O : List Int) (w : World) (hG : Flat 3 w ga gn gc G) (hO : Ints w oa on oc O) (hc : ciB i0 i1 gn G O = true) (hgn : gn ≤ 1000) :
    Calls Try.prog 21 #[.agg #[.int .i64 i0, .int .i64 i1, .slice ga gn gc, .slice oa on oc]] w fun e w' => ∃ a1 c1, e = .returned (.tuple #[.slice a1 4 c1, .bool true]) ∧ Own w' w.heap.size a1 4 c1 (cntL G gn) ∧ Below w.heap.size w w' := by
  have V0 : Below w.heap.size w (w.alloc (.cells #[.int .i64 i0, .int .i64 i1, .slice ga gn gc, .slice oa on oc] 28)) := (Below.refl _ _).alloc (Nat.le_refl _) _
  have B0 : Blk (w.alloc (.cells #[.int .i64 i0, .int .i64 i1, .slice ga gn gc, .slice oa on oc] 28)) w.heap.size 28 #[.int .i64 i0, .int .i64 i1, .slice ga gn gc, .slice oa on oc] := Blk.new w _ _
  have HK := Lib.hid (ci_kinds hc)
  have HC := Lib.hid hc
  clear hc
  go_enter Try.func21, Try.ntmps21
  go_wp2_with fail
  generalize (w.alloc (.cells #[.int .i64 i0, .int .i64 i1, .slice ga gn gc, .slice oa on oc] 28)) = w0 at *
  refine (IsCircuit_any _ _ _ _ _ G _ _ _ O _ (hG.below V0) (hO.below V0)).mono ?_; rintro e w1 ⟨rfl, u1⟩
  rw [HC.out]
  have V1 := V0.trans (u1.mono V0.size)
  have x2 : w1.cell? ⟨w.heap.size, 2, none⟩ = some (.slice ga gn gc) := (B0.below u1).cell 2
  clear u1 B0
  go_wp2_with fail
  refine (countKinds_any _ _ _ G _ (hG.below V1) HK.out hgn).mono ?_; rintro e w2 ⟨a1, c1, rfl, o1, u2⟩
  have V2 := V1.trans (u2.mono V1.size)
  have o2 := o1.lower (b' := w.heap.size) V1.size
  clear u2 x2 o1
  go_wp2
  go_ret2
  exact ⟨_, _, rfl, o2, V2⟩
theorem spec_CountGates_ok (i0 i1 : Int) (ga : Option Addr) (gn gc : Nat) (G : List Int) (oa : Option Addr) (on oc : Nat) (O : List Int) (w : World) (hG : Flat 3 w ga gn gc G) (hO : Ints w oa on oc O) (hc : ciB i0 i1 gn G O = true) (hgn : gn ≤ 1000) :
    Calls Try.prog 22 #[.agg #[.int .i64 i0, .int .i64 i1, .slice ga gn gc, .slice oa on oc]] w fun e w' => ∃ a1 c1, e = .returned (.tuple #[.slice a1 4 c1, .bool true]) ∧ Own w' w.heap.size a1 4 c1 (cntL G gn) ∧ Below w.heap.size w w' := by
  have V0 : Below w.heap.size w (w.alloc (.cells #[.int .i64 i0, .int .i64 i1, .slice ga gn gc, .slice oa on oc] 28)) := (Below.refl _ _).alloc (Nat.le_refl _) _
  have B0 : Blk (w.alloc (.cells #[.int .i64 i0, .int .i64 i1, .slice ga gn gc, .slice oa on oc] 28)) w.heap.size 28 #[.int .i64 i0, .int .i64 i1, .slice ga gn gc, .slice oa on oc] := Blk.new w _ _
  have HK := Lib.hid (ci_kinds hc)
  have HC := Lib.hid hc
  clear hc
  go_enter Try.func22, Try.ntmps22
  go_wp2_with fail
  generalize (w.alloc (.cells #[.int .i64 i0, .int .i64 i1, .slice ga gn gc, .slice oa on oc] 28)) = w0 at *
  refine (ciGood_any _ _ _ _ _ G _ _ _ O _ (hG.below V0) (hO.below V0)).mono ?_; rintro e w1 ⟨rfl, u1⟩
  rw [HC.out]
  have V1 := V0.trans (u1.mono V0.size)
  have C1 := B0.below u1
  have x0 : w1.cell? ⟨w.heap.size, 0, none⟩ = some (.int .i64 i0) := C1.cell 0
  have x1 : w1.cell? ⟨w.heap.size, 1, none⟩ = some (.int .i64 i1) := C1.cell 1
  have x2 : w1.cell? ⟨w.heap.size, 2, none⟩ = some (.slice ga gn gc) := C1.cell 2
  have x3 : w1.cell? ⟨w.heap.size, 3, none⟩ = some (.slice oa on oc) := C1.cell 3
  clear u1 B0 C1
  go_wp2_with fail
  refine (ciCounts_any _ _ _ _ _ _ _ _ G _ (hG.below V1) HK.out hgn).mono ?_; rintro e w2 ⟨a1, c1, rfl, o1, u2⟩
  have V2 := V1.trans (u2.mono V1.size)
  have o2 := o1.lower (b' := w.heap.size) V1.size
  clear u2 x0 x1 x2 x3 o1
  go_wp2
  go_ret2
  exact ⟨_, _, rfl, o2, V2⟩
def iwB (n : Int) : Bool := inB n 1 8
def iwV (n : Int) : Int := if iwB n then ((wid n : Nat) : Int) else 0
theorem iw_no {n : Int} (h : iwB n = false) : iwV n = 0 := by unfold iwV; rw [h]; rfl
theorem iw_yes {n : Int} (h : iwB n = true) : iwV n = ((wid n : Nat) : Int) ∧ 1 ≤ n ∧ n ≤ 8 := ⟨by unfold iwV; rw [h]; rfl, of_decide_eq_true h⟩
theorem IndexWidth_any (n : Int) (w : World) :
    Calls Try.prog 18 #[.int .i64 n] w fun e w' => e = .returned (.tuple #[.int .i64 (iwV n), .bool (iwB n)]) ∧ w = w' := by
  cases h : iwB n
  · rw [iw_no h]
    have H : Hid (inB n 1 8 = false) := Lib.hid h
    clear h
    go_enter Try.func18, Try.ntmps18
    go_wp2_with (go_at_call 50; refine (within_any _ _ _ _).mono ?_; rintro e w' ⟨rfl, rfl⟩; rw [H.out])
    go_ret2
    exact ⟨rfl, rfl⟩
  · obtain ⟨e, h1, h8⟩ := iw_yes h
    rw [e]
    have H : Hid (inB n 1 8 = true) := Lib.hid h
    clear h e
    go_enter Try.func18, Try.ntmps18
    go_wp2_with (first | (go_at_call 50; refine (within_any _ _ _ _).mono ?_; rintro e w' ⟨rfl, rfl⟩; rw [H.out]) | (go_at_call 51; refine (indexWidth_any _ _ h1 (by omega)).mono ?_; rintro e w' ⟨rfl, rfl⟩))
    go_ret2
    exact ⟨rfl, rfl⟩
theorem spec_IndexWidth_any (n : Int) (w : World) :
    Calls Try.prog 19 #[.int .i64 n] w fun e w' => e = .returned (.tuple #[.int .i64 (iwV n), .bool (iwB n)]) ∧ w = w' := by
  cases h : iwB n
  · rw [iw_no h]
    have hh := h
    unfold iwB inB at hh
    have H := Lib.hid (of_decide_eq_false hh)
    clear h hh
    by_cases h1 : 1 ≤ n
    · have h8 : ¬ n ≤ 8 := fun h => H.out ⟨h1, h⟩
      go_enter Try.func19, Try.ntmps19
      go_wp2_with go_in
      go_ret2
      exact ⟨rfl, rfl⟩
    · go_enter Try.func19, Try.ntmps19
      go_wp2_with go_in
      go_ret2
      exact ⟨rfl, rfl⟩
  · obtain ⟨e, h1, h8⟩ := iw_yes h
    rw [e]
    clear h e
    go_enter Try.func19, Try.ntmps19
    go_wp2_with (first | (go_at_call 78; refine (cvWidth_any _ _ h1 (by omega)).mono ?_; rintro e w' ⟨rfl, rfl⟩) | go_in)
    go_ret2
    exact ⟨rfl, rfl⟩
end Go.Proofs.Ytmbheimjphhamaa
