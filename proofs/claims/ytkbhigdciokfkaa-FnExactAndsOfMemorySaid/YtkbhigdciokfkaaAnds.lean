/- Gates GtAnd of circuits of cells. -/
import Derived.Test.YtkbhigdciokfkaaMeI
import Derived.Test.YtkbhigdciokfkaaCnt
namespace Go.Proofs.Ytkbhigdciokfkaa
open Go.RowKit
def amB (kind n w : Int) : Bool := inB kind 0 3 && memB n w
def amN (kind n w : Int) : Int := if amB kind n w then (cntL (mG kind.toNat n w) ((mG kind.toNat n w).length / 3)).getD 1 0 else 0
theorem m_kinds (kind : Nat) (n w : Int) (h : memB n w = true) : ∀ j, j < (mG kind n w).length / 3 → 0 ≤ (mG kind n w).getD (j * 3) 0 ∧ (mG kind n w).getD (j * 3) 0 ≤ 3 := by
  have hh := memB_true h
  obtain ⟨n, rfl⟩ : ∃ k : Nat, n = k := ⟨n.toNat, by omega⟩
  obtain ⟨w, rfl⟩ : ∃ k : Nat, w = k := ⟨w.toNat, by omega⟩
  have := ci_kinds (m_ok kind n w h)
  unfold mG
  rw [if_pos h]
  exact this
theorem am_out {kind n w : Int} (h : inB kind 0 3 = false) : amB kind n w = false ∧ amN kind n w = 0 := by
  have : amB kind n w = false := by unfold amB; rw [h]; rfl
  exact ⟨this, by unfold amN; rw [this]; rfl⟩
theorem am_no (k : Nat) (_hk : k ≤ 3) {n w : Int} (h : memB n w = false) : amB (k : Int) n w = false ∧ amN (k : Int) n w = 0 := by
  have : amB (k : Int) n w = false := by unfold amB; rw [h, Bool.and_false]
  exact ⟨this, by unfold amN; rw [this]; rfl⟩
theorem am_yes (k : Nat) (hk : k ≤ 3) {n w : Int} (h : memB n w = true) : amB (k : Int) n w = true ∧ amN (k : Int) n w = (cntL (mG k n w) ((mG k n w).length / 3)).getD 1 0 := by
  have : amB (k : Int) n w = true := by unfold amB; rw [h, Bool.and_true]; exact inB_yes (by omega) (by omega)
  exact ⟨this, by unfold amN; rw [this]; rfl⟩
set_option maxHeartbeats 8000000 in
set_option maxRecDepth 100000 in
theorem AndsOfMemory_any (kind n wd : Int) (w : World) :
    Calls Try.prog 21 #[.int .i64 kind, .int .i64 n, .int .i64 wd] w fun e w' => e = .returned (.tuple #[.int .i64 (amN kind n wd), .bool (amB kind n wd)]) ∧ Below w.heap.size w w' := by
  have V1 : Below w.heap.size w (w.alloc (.cells #[.int .i64 0, .int .i64 0, .slice none 0 0, .slice none 0 0] 25)) := (Below.refl _ _).alloc (Nat.le_refl _) _
  have R1 : Blk (w.alloc (.cells #[.int .i64 0, .int .i64 0, .slice none 0 0, .slice none 0 0] 25)) w.heap.size 25 #[.int .i64 0, .int .i64 0, .slice none 0 0, .slice none 0 0] := Blk.new w _ _
  have hz1 : w.heap.size < (w.alloc (.cells #[.int .i64 0, .int .i64 0, .slice none 0 0, .slice none 0 0] 25)).heap.size := by simp
  by_cases k0 : kind = 0
  · subst k0
    cases hm : memB n wd
    · obtain ⟨ha, hn⟩ := am_no 0 (by omega) hm
      have ha2 : amB 0 n wd = false := ha
      have hn2 : amN 0 n wd = _ := hn
      rw [ha2, hn2]
      clear ha hn ha2 hn2
      have HM := Lib.hid hm
      clear hm
      go_enter Try.func21, Try.ntmps21
      go_wp2_with fail
      generalize (w.alloc (.cells #[.int .i64 0, .int .i64 0, .slice none 0 0, .slice none 0 0] 25)) = w1 at *
      refine (ScanReadCircuit_any n wd _).mono ?_; rintro e w2 ⟨ga, gn, gc, oa, on, oc, rfl, og, oo, dd, u2⟩
      rw [HM.out]
      have V2 := V1.trans (u2.mono V1.size)
      have R2 := R1.below u2
      have Q1 := Lib.hid og.feet
      clear V1 R1 u2
      have r0 : w2.cell? ⟨w.heap.size, 0, none⟩ = some (.int .i64 0) := R2.cell 0
      have q0 : w2.frozen? ⟨w.heap.size, 0, none⟩ = false := R2.frozen 0
      have r1 : w2.cell? ⟨w.heap.size, 1, none⟩ = some (.int .i64 0) := R2.cell 1
      have q1 : w2.frozen? ⟨w.heap.size, 1, none⟩ = false := R2.frozen 1
      have r2 : w2.cell? ⟨w.heap.size, 2, none⟩ = some (.slice none 0 0) := R2.cell 2
      have q2 : w2.frozen? ⟨w.heap.size, 2, none⟩ = false := R2.frozen 2
      have r3 : w2.cell? ⟨w.heap.size, 3, none⟩ = some (.slice none 0 0) := R2.cell 3
      have q3 : w2.frozen? ⟨w.heap.size, 3, none⟩ = false := R2.frozen 3
      have GG := (((((Only.refl [w.heap.size] w2).setCell ⟨w.heap.size, 0, none⟩ (.int .i64 (mS0 n wd)) (by simp)).setCell ⟨w.heap.size, 1, none⟩ (.int .i64 (mS1 0 n wd)) (by simp)).setCell ⟨w.heap.size, 2, none⟩ (.slice ga gn gc) (by simp)).setCell ⟨w.heap.size, 3, none⟩ (.slice oa on oc) (by simp))
      have HV := Lib.hid (V2.trans (GG.below V2.size (by simp)))
      clear GG V2
      go_wp2
      go_ret2
      exact ⟨rfl, HV.out⟩
    · obtain ⟨ha, hn⟩ := am_yes 0 (by omega) hm
      have ha2 : amB 0 n wd = true := ha
      have hn2 : amN 0 n wd = _ := hn
      rw [ha2, hn2]
      clear ha hn ha2 hn2
      have hkn := m_kinds 0 n wd hm
      have hln := (m_len 0 n wd).1
      have hl4 := cntL_len (mG 0 n wd) ((mG 0 n wd).length / 3)
      obtain ⟨N, hN⟩ : ∃ N, N = (mG 0 n wd).length / 3 := ⟨_, rfl⟩
      rw [← hN] at hkn hl4 ⊢
      have HN := Lib.hid hN
      have HKN := Lib.hid hkn
      clear hN hkn
      obtain ⟨X, hX⟩ : ∃ X, X = (cntL (mG 0 n wd) N).getD 1 0 := ⟨_, rfl⟩
      rw [← hX]
      have HX := Lib.hid hX
      clear hX
      have HM := Lib.hid hm
      clear hm
      go_enter Try.func21, Try.ntmps21
      go_wp2_with fail
      generalize (w.alloc (.cells #[.int .i64 0, .int .i64 0, .slice none 0 0, .slice none 0 0] 25)) = w1 at *
      refine (ScanReadCircuit_any n wd _).mono ?_; rintro e w2 ⟨ga, gn, gc, oa, on, oc, rfl, og, oo, dd, u2⟩
      rw [HM.out]
      have V2 := V1.trans (u2.mono V1.size)
      have R2 := R1.below u2
      have Q1 := Lib.hid og.feet
      clear V1 R1 u2
      have r0 : w2.cell? ⟨w.heap.size, 0, none⟩ = some (.int .i64 0) := R2.cell 0
      have q0 : w2.frozen? ⟨w.heap.size, 0, none⟩ = false := R2.frozen 0
      have r1 : w2.cell? ⟨w.heap.size, 1, none⟩ = some (.int .i64 0) := R2.cell 1
      have q1 : w2.frozen? ⟨w.heap.size, 1, none⟩ = false := R2.frozen 1
      have r2 : w2.cell? ⟨w.heap.size, 2, none⟩ = some (.slice none 0 0) := R2.cell 2
      have q2 : w2.frozen? ⟨w.heap.size, 2, none⟩ = false := R2.frozen 2
      have r3 : w2.cell? ⟨w.heap.size, 3, none⟩ = some (.slice none 0 0) := R2.cell 3
      have q3 : w2.frozen? ⟨w.heap.size, 3, none⟩ = false := R2.frozen 3
      have GG := (((((Only.refl [w.heap.size] w2).setCell ⟨w.heap.size, 0, none⟩ (.int .i64 (mS0 n wd)) (by simp)).setCell ⟨w.heap.size, 1, none⟩ (.int .i64 (mS1 0 n wd)) (by simp)).setCell ⟨w.heap.size, 2, none⟩ (.slice ga gn gc) (by simp)).setCell ⟨w.heap.size, 3, none⟩ (.slice oa on oc) (by simp))
      have og3 := OwnF.only og GG (fun k hk hk' => by have := Q1.out k hk; simp at hk'; omega)
      have V3 := V2.trans (GG.below V2.size (by simp))
      have HO := Lib.hid og3
      have HV := Lib.hid V3
      clear og V2 GG og3 V3
      go_wp2_with fail
      have og3 := HO.out
      have V3 := HV.out
      clear HO HV r0 r1 r2 r3 q0 q1 q2 q3
      generalize ((((w2.setCell ⟨w.heap.size, 0, none⟩ (.int .i64 (mS0 n wd))).setCell ⟨w.heap.size, 1, none⟩ (.int .i64 (mS1 0 n wd))).setCell ⟨w.heap.size, 2, none⟩ (.slice ga gn gc)).setCell ⟨w.heap.size, 3, none⟩ (.slice oa on oc)) = w3 at *
      have HGN := Lib.hid (show gn = N by rw [HN.out]; have := og3.len; omega)
      refine (countKinds_any _ _ _ (mG 0 n wd) _ og3.flat (by rw [HGN.out]; exact HKN.out) (by rw [HGN.out]; have := HN.out; omega)).mono ?_; rintro e w4 ⟨a4, c4, rfl, o4, u4⟩
      rw [HGN.out] at o4
      obtain ⟨g4, p4, rfl, cx⟩ := o4.ints.at 1 (by omega)
      rw [← HX.out] at cx
      have V4 := V3.trans (u4.mono V3.size)
      clear o4 u4 V3 og3
      have hb : (1 : Int) < ((4 : Nat) : Int) := by omega
      go_wp2
      go_ret2
      exact ⟨rfl, V4⟩
  by_cases k1 : kind = 1
  · subst k1
    cases hm : memB n wd
    · obtain ⟨ha, hn⟩ := am_no 1 (by omega) hm
      have ha2 : amB 1 n wd = false := ha
      have hn2 : amN 1 n wd = _ := hn
      rw [ha2, hn2]
      clear ha hn ha2 hn2
      have HM := Lib.hid hm
      clear hm
      go_enter Try.func21, Try.ntmps21
      go_wp2_with fail
      generalize (w.alloc (.cells #[.int .i64 0, .int .i64 0, .slice none 0 0, .slice none 0 0] 25)) = w1 at *
      refine (TreeReadCircuit_any n wd _).mono ?_; rintro e w2 ⟨ga, gn, gc, oa, on, oc, rfl, og, oo, dd, u2⟩
      rw [HM.out]
      have V2 := V1.trans (u2.mono V1.size)
      have R2 := R1.below u2
      have Q1 := Lib.hid og.feet
      clear V1 R1 u2
      have r0 : w2.cell? ⟨w.heap.size, 0, none⟩ = some (.int .i64 0) := R2.cell 0
      have q0 : w2.frozen? ⟨w.heap.size, 0, none⟩ = false := R2.frozen 0
      have r1 : w2.cell? ⟨w.heap.size, 1, none⟩ = some (.int .i64 0) := R2.cell 1
      have q1 : w2.frozen? ⟨w.heap.size, 1, none⟩ = false := R2.frozen 1
      have r2 : w2.cell? ⟨w.heap.size, 2, none⟩ = some (.slice none 0 0) := R2.cell 2
      have q2 : w2.frozen? ⟨w.heap.size, 2, none⟩ = false := R2.frozen 2
      have r3 : w2.cell? ⟨w.heap.size, 3, none⟩ = some (.slice none 0 0) := R2.cell 3
      have q3 : w2.frozen? ⟨w.heap.size, 3, none⟩ = false := R2.frozen 3
      have GG := (((((Only.refl [w.heap.size] w2).setCell ⟨w.heap.size, 0, none⟩ (.int .i64 (mS0 n wd)) (by simp)).setCell ⟨w.heap.size, 1, none⟩ (.int .i64 (mS1 1 n wd)) (by simp)).setCell ⟨w.heap.size, 2, none⟩ (.slice ga gn gc) (by simp)).setCell ⟨w.heap.size, 3, none⟩ (.slice oa on oc) (by simp))
      have HV := Lib.hid (V2.trans (GG.below V2.size (by simp)))
      clear GG V2
      go_wp2
      go_ret2
      exact ⟨rfl, HV.out⟩
    · obtain ⟨ha, hn⟩ := am_yes 1 (by omega) hm
      have ha2 : amB 1 n wd = true := ha
      have hn2 : amN 1 n wd = _ := hn
      rw [ha2, hn2]
      clear ha hn ha2 hn2
      have hkn := m_kinds 1 n wd hm
      have hln := (m_len 1 n wd).1
      have hl4 := cntL_len (mG 1 n wd) ((mG 1 n wd).length / 3)
      obtain ⟨N, hN⟩ : ∃ N, N = (mG 1 n wd).length / 3 := ⟨_, rfl⟩
      rw [← hN] at hkn hl4 ⊢
      have HN := Lib.hid hN
      have HKN := Lib.hid hkn
      clear hN hkn
      obtain ⟨X, hX⟩ : ∃ X, X = (cntL (mG 1 n wd) N).getD 1 0 := ⟨_, rfl⟩
      rw [← hX]
      have HX := Lib.hid hX
      clear hX
      have HM := Lib.hid hm
      clear hm
      go_enter Try.func21, Try.ntmps21
      go_wp2_with fail
      generalize (w.alloc (.cells #[.int .i64 0, .int .i64 0, .slice none 0 0, .slice none 0 0] 25)) = w1 at *
      refine (TreeReadCircuit_any n wd _).mono ?_; rintro e w2 ⟨ga, gn, gc, oa, on, oc, rfl, og, oo, dd, u2⟩
      rw [HM.out]
      have V2 := V1.trans (u2.mono V1.size)
      have R2 := R1.below u2
      have Q1 := Lib.hid og.feet
      clear V1 R1 u2
      have r0 : w2.cell? ⟨w.heap.size, 0, none⟩ = some (.int .i64 0) := R2.cell 0
      have q0 : w2.frozen? ⟨w.heap.size, 0, none⟩ = false := R2.frozen 0
      have r1 : w2.cell? ⟨w.heap.size, 1, none⟩ = some (.int .i64 0) := R2.cell 1
      have q1 : w2.frozen? ⟨w.heap.size, 1, none⟩ = false := R2.frozen 1
      have r2 : w2.cell? ⟨w.heap.size, 2, none⟩ = some (.slice none 0 0) := R2.cell 2
      have q2 : w2.frozen? ⟨w.heap.size, 2, none⟩ = false := R2.frozen 2
      have r3 : w2.cell? ⟨w.heap.size, 3, none⟩ = some (.slice none 0 0) := R2.cell 3
      have q3 : w2.frozen? ⟨w.heap.size, 3, none⟩ = false := R2.frozen 3
      have GG := (((((Only.refl [w.heap.size] w2).setCell ⟨w.heap.size, 0, none⟩ (.int .i64 (mS0 n wd)) (by simp)).setCell ⟨w.heap.size, 1, none⟩ (.int .i64 (mS1 1 n wd)) (by simp)).setCell ⟨w.heap.size, 2, none⟩ (.slice ga gn gc) (by simp)).setCell ⟨w.heap.size, 3, none⟩ (.slice oa on oc) (by simp))
      have og3 := OwnF.only og GG (fun k hk hk' => by have := Q1.out k hk; simp at hk'; omega)
      have V3 := V2.trans (GG.below V2.size (by simp))
      have HO := Lib.hid og3
      have HV := Lib.hid V3
      clear og V2 GG og3 V3
      go_wp2_with fail
      have og3 := HO.out
      have V3 := HV.out
      clear HO HV r0 r1 r2 r3 q0 q1 q2 q3
      generalize ((((w2.setCell ⟨w.heap.size, 0, none⟩ (.int .i64 (mS0 n wd))).setCell ⟨w.heap.size, 1, none⟩ (.int .i64 (mS1 1 n wd))).setCell ⟨w.heap.size, 2, none⟩ (.slice ga gn gc)).setCell ⟨w.heap.size, 3, none⟩ (.slice oa on oc)) = w3 at *
      have HGN := Lib.hid (show gn = N by rw [HN.out]; have := og3.len; omega)
      refine (countKinds_any _ _ _ (mG 1 n wd) _ og3.flat (by rw [HGN.out]; exact HKN.out) (by rw [HGN.out]; have := HN.out; omega)).mono ?_; rintro e w4 ⟨a4, c4, rfl, o4, u4⟩
      rw [HGN.out] at o4
      obtain ⟨g4, p4, rfl, cx⟩ := o4.ints.at 1 (by omega)
      rw [← HX.out] at cx
      have V4 := V3.trans (u4.mono V3.size)
      clear o4 u4 V3 og3
      have hb : (1 : Int) < ((4 : Nat) : Int) := by omega
      go_wp2
      go_ret2
      exact ⟨rfl, V4⟩
  by_cases k2 : kind = 2
  · subst k2
    cases hm : memB n wd
    · obtain ⟨ha, hn⟩ := am_no 2 (by omega) hm
      have ha2 : amB 2 n wd = false := ha
      have hn2 : amN 2 n wd = _ := hn
      rw [ha2, hn2]
      clear ha hn ha2 hn2
      have HM := Lib.hid hm
      clear hm
      go_enter Try.func21, Try.ntmps21
      go_wp2_with fail
      generalize (w.alloc (.cells #[.int .i64 0, .int .i64 0, .slice none 0 0, .slice none 0 0] 25)) = w1 at *
      refine (WriteCircuit_any n wd _).mono ?_; rintro e w2 ⟨ga, gn, gc, oa, on, oc, rfl, og, oo, dd, u2⟩
      rw [HM.out]
      have V2 := V1.trans (u2.mono V1.size)
      have R2 := R1.below u2
      have Q1 := Lib.hid og.feet
      clear V1 R1 u2
      have r0 : w2.cell? ⟨w.heap.size, 0, none⟩ = some (.int .i64 0) := R2.cell 0
      have q0 : w2.frozen? ⟨w.heap.size, 0, none⟩ = false := R2.frozen 0
      have r1 : w2.cell? ⟨w.heap.size, 1, none⟩ = some (.int .i64 0) := R2.cell 1
      have q1 : w2.frozen? ⟨w.heap.size, 1, none⟩ = false := R2.frozen 1
      have r2 : w2.cell? ⟨w.heap.size, 2, none⟩ = some (.slice none 0 0) := R2.cell 2
      have q2 : w2.frozen? ⟨w.heap.size, 2, none⟩ = false := R2.frozen 2
      have r3 : w2.cell? ⟨w.heap.size, 3, none⟩ = some (.slice none 0 0) := R2.cell 3
      have q3 : w2.frozen? ⟨w.heap.size, 3, none⟩ = false := R2.frozen 3
      have GG := (((((Only.refl [w.heap.size] w2).setCell ⟨w.heap.size, 0, none⟩ (.int .i64 (mS0 n wd)) (by simp)).setCell ⟨w.heap.size, 1, none⟩ (.int .i64 (mS1 2 n wd)) (by simp)).setCell ⟨w.heap.size, 2, none⟩ (.slice ga gn gc) (by simp)).setCell ⟨w.heap.size, 3, none⟩ (.slice oa on oc) (by simp))
      have HV := Lib.hid (V2.trans (GG.below V2.size (by simp)))
      clear GG V2
      go_wp2
      go_ret2
      exact ⟨rfl, HV.out⟩
    · obtain ⟨ha, hn⟩ := am_yes 2 (by omega) hm
      have ha2 : amB 2 n wd = true := ha
      have hn2 : amN 2 n wd = _ := hn
      rw [ha2, hn2]
      clear ha hn ha2 hn2
      have hkn := m_kinds 2 n wd hm
      have hln := (m_len 2 n wd).1
      have hl4 := cntL_len (mG 2 n wd) ((mG 2 n wd).length / 3)
      obtain ⟨N, hN⟩ : ∃ N, N = (mG 2 n wd).length / 3 := ⟨_, rfl⟩
      rw [← hN] at hkn hl4 ⊢
      have HN := Lib.hid hN
      have HKN := Lib.hid hkn
      clear hN hkn
      obtain ⟨X, hX⟩ : ∃ X, X = (cntL (mG 2 n wd) N).getD 1 0 := ⟨_, rfl⟩
      rw [← hX]
      have HX := Lib.hid hX
      clear hX
      have HM := Lib.hid hm
      clear hm
      go_enter Try.func21, Try.ntmps21
      go_wp2_with fail
      generalize (w.alloc (.cells #[.int .i64 0, .int .i64 0, .slice none 0 0, .slice none 0 0] 25)) = w1 at *
      refine (WriteCircuit_any n wd _).mono ?_; rintro e w2 ⟨ga, gn, gc, oa, on, oc, rfl, og, oo, dd, u2⟩
      rw [HM.out]
      have V2 := V1.trans (u2.mono V1.size)
      have R2 := R1.below u2
      have Q1 := Lib.hid og.feet
      clear V1 R1 u2
      have r0 : w2.cell? ⟨w.heap.size, 0, none⟩ = some (.int .i64 0) := R2.cell 0
      have q0 : w2.frozen? ⟨w.heap.size, 0, none⟩ = false := R2.frozen 0
      have r1 : w2.cell? ⟨w.heap.size, 1, none⟩ = some (.int .i64 0) := R2.cell 1
      have q1 : w2.frozen? ⟨w.heap.size, 1, none⟩ = false := R2.frozen 1
      have r2 : w2.cell? ⟨w.heap.size, 2, none⟩ = some (.slice none 0 0) := R2.cell 2
      have q2 : w2.frozen? ⟨w.heap.size, 2, none⟩ = false := R2.frozen 2
      have r3 : w2.cell? ⟨w.heap.size, 3, none⟩ = some (.slice none 0 0) := R2.cell 3
      have q3 : w2.frozen? ⟨w.heap.size, 3, none⟩ = false := R2.frozen 3
      have GG := (((((Only.refl [w.heap.size] w2).setCell ⟨w.heap.size, 0, none⟩ (.int .i64 (mS0 n wd)) (by simp)).setCell ⟨w.heap.size, 1, none⟩ (.int .i64 (mS1 2 n wd)) (by simp)).setCell ⟨w.heap.size, 2, none⟩ (.slice ga gn gc) (by simp)).setCell ⟨w.heap.size, 3, none⟩ (.slice oa on oc) (by simp))
      have og3 := OwnF.only og GG (fun k hk hk' => by have := Q1.out k hk; simp at hk'; omega)
      have V3 := V2.trans (GG.below V2.size (by simp))
      have HO := Lib.hid og3
      have HV := Lib.hid V3
      clear og V2 GG og3 V3
      go_wp2_with fail
      have og3 := HO.out
      have V3 := HV.out
      clear HO HV r0 r1 r2 r3 q0 q1 q2 q3
      generalize ((((w2.setCell ⟨w.heap.size, 0, none⟩ (.int .i64 (mS0 n wd))).setCell ⟨w.heap.size, 1, none⟩ (.int .i64 (mS1 2 n wd))).setCell ⟨w.heap.size, 2, none⟩ (.slice ga gn gc)).setCell ⟨w.heap.size, 3, none⟩ (.slice oa on oc)) = w3 at *
      have HGN := Lib.hid (show gn = N by rw [HN.out]; have := og3.len; omega)
      refine (countKinds_any _ _ _ (mG 2 n wd) _ og3.flat (by rw [HGN.out]; exact HKN.out) (by rw [HGN.out]; have := HN.out; omega)).mono ?_; rintro e w4 ⟨a4, c4, rfl, o4, u4⟩
      rw [HGN.out] at o4
      obtain ⟨g4, p4, rfl, cx⟩ := o4.ints.at 1 (by omega)
      rw [← HX.out] at cx
      have V4 := V3.trans (u4.mono V3.size)
      clear o4 u4 V3 og3
      have hb : (1 : Int) < ((4 : Nat) : Int) := by omega
      go_wp2
      go_ret2
      exact ⟨rfl, V4⟩
  by_cases k3 : kind = 3
  · subst k3
    cases hm : memB n wd
    · obtain ⟨ha, hn⟩ := am_no 3 (by omega) hm
      have ha2 : amB 3 n wd = false := ha
      have hn2 : amN 3 n wd = _ := hn
      rw [ha2, hn2]
      clear ha hn ha2 hn2
      have HM := Lib.hid hm
      clear hm
      go_enter Try.func21, Try.ntmps21
      go_wp2_with fail
      generalize (w.alloc (.cells #[.int .i64 0, .int .i64 0, .slice none 0 0, .slice none 0 0] 25)) = w1 at *
      refine (TurnCircuit_any n wd _).mono ?_; rintro e w2 ⟨ga, gn, gc, oa, on, oc, rfl, og, oo, dd, u2⟩
      rw [HM.out]
      have V2 := V1.trans (u2.mono V1.size)
      have R2 := R1.below u2
      have Q1 := Lib.hid og.feet
      clear V1 R1 u2
      have r0 : w2.cell? ⟨w.heap.size, 0, none⟩ = some (.int .i64 0) := R2.cell 0
      have q0 : w2.frozen? ⟨w.heap.size, 0, none⟩ = false := R2.frozen 0
      have r1 : w2.cell? ⟨w.heap.size, 1, none⟩ = some (.int .i64 0) := R2.cell 1
      have q1 : w2.frozen? ⟨w.heap.size, 1, none⟩ = false := R2.frozen 1
      have r2 : w2.cell? ⟨w.heap.size, 2, none⟩ = some (.slice none 0 0) := R2.cell 2
      have q2 : w2.frozen? ⟨w.heap.size, 2, none⟩ = false := R2.frozen 2
      have r3 : w2.cell? ⟨w.heap.size, 3, none⟩ = some (.slice none 0 0) := R2.cell 3
      have q3 : w2.frozen? ⟨w.heap.size, 3, none⟩ = false := R2.frozen 3
      have GG := (((((Only.refl [w.heap.size] w2).setCell ⟨w.heap.size, 0, none⟩ (.int .i64 (mS0 n wd)) (by simp)).setCell ⟨w.heap.size, 1, none⟩ (.int .i64 (mS1 3 n wd)) (by simp)).setCell ⟨w.heap.size, 2, none⟩ (.slice ga gn gc) (by simp)).setCell ⟨w.heap.size, 3, none⟩ (.slice oa on oc) (by simp))
      have HV := Lib.hid (V2.trans (GG.below V2.size (by simp)))
      clear GG V2
      go_wp2
      go_ret2
      exact ⟨rfl, HV.out⟩
    · obtain ⟨ha, hn⟩ := am_yes 3 (by omega) hm
      have ha2 : amB 3 n wd = true := ha
      have hn2 : amN 3 n wd = _ := hn
      rw [ha2, hn2]
      clear ha hn ha2 hn2
      have hkn := m_kinds 3 n wd hm
      have hln := (m_len 3 n wd).1
      have hl4 := cntL_len (mG 3 n wd) ((mG 3 n wd).length / 3)
      obtain ⟨N, hN⟩ : ∃ N, N = (mG 3 n wd).length / 3 := ⟨_, rfl⟩
      rw [← hN] at hkn hl4 ⊢
      have HN := Lib.hid hN
      have HKN := Lib.hid hkn
      clear hN hkn
      obtain ⟨X, hX⟩ : ∃ X, X = (cntL (mG 3 n wd) N).getD 1 0 := ⟨_, rfl⟩
      rw [← hX]
      have HX := Lib.hid hX
      clear hX
      have HM := Lib.hid hm
      clear hm
      go_enter Try.func21, Try.ntmps21
      go_wp2_with fail
      generalize (w.alloc (.cells #[.int .i64 0, .int .i64 0, .slice none 0 0, .slice none 0 0] 25)) = w1 at *
      refine (TurnCircuit_any n wd _).mono ?_; rintro e w2 ⟨ga, gn, gc, oa, on, oc, rfl, og, oo, dd, u2⟩
      rw [HM.out]
      have V2 := V1.trans (u2.mono V1.size)
      have R2 := R1.below u2
      have Q1 := Lib.hid og.feet
      clear V1 R1 u2
      have r0 : w2.cell? ⟨w.heap.size, 0, none⟩ = some (.int .i64 0) := R2.cell 0
      have q0 : w2.frozen? ⟨w.heap.size, 0, none⟩ = false := R2.frozen 0
      have r1 : w2.cell? ⟨w.heap.size, 1, none⟩ = some (.int .i64 0) := R2.cell 1
      have q1 : w2.frozen? ⟨w.heap.size, 1, none⟩ = false := R2.frozen 1
      have r2 : w2.cell? ⟨w.heap.size, 2, none⟩ = some (.slice none 0 0) := R2.cell 2
      have q2 : w2.frozen? ⟨w.heap.size, 2, none⟩ = false := R2.frozen 2
      have r3 : w2.cell? ⟨w.heap.size, 3, none⟩ = some (.slice none 0 0) := R2.cell 3
      have q3 : w2.frozen? ⟨w.heap.size, 3, none⟩ = false := R2.frozen 3
      have GG := (((((Only.refl [w.heap.size] w2).setCell ⟨w.heap.size, 0, none⟩ (.int .i64 (mS0 n wd)) (by simp)).setCell ⟨w.heap.size, 1, none⟩ (.int .i64 (mS1 3 n wd)) (by simp)).setCell ⟨w.heap.size, 2, none⟩ (.slice ga gn gc) (by simp)).setCell ⟨w.heap.size, 3, none⟩ (.slice oa on oc) (by simp))
      have og3 := OwnF.only og GG (fun k hk hk' => by have := Q1.out k hk; simp at hk'; omega)
      have V3 := V2.trans (GG.below V2.size (by simp))
      have HO := Lib.hid og3
      have HV := Lib.hid V3
      clear og V2 GG og3 V3
      go_wp2_with fail
      have og3 := HO.out
      have V3 := HV.out
      clear HO HV r0 r1 r2 r3 q0 q1 q2 q3
      generalize ((((w2.setCell ⟨w.heap.size, 0, none⟩ (.int .i64 (mS0 n wd))).setCell ⟨w.heap.size, 1, none⟩ (.int .i64 (mS1 3 n wd))).setCell ⟨w.heap.size, 2, none⟩ (.slice ga gn gc)).setCell ⟨w.heap.size, 3, none⟩ (.slice oa on oc)) = w3 at *
      have HGN := Lib.hid (show gn = N by rw [HN.out]; have := og3.len; omega)
      refine (countKinds_any _ _ _ (mG 3 n wd) _ og3.flat (by rw [HGN.out]; exact HKN.out) (by rw [HGN.out]; have := HN.out; omega)).mono ?_; rintro e w4 ⟨a4, c4, rfl, o4, u4⟩
      rw [HGN.out] at o4
      obtain ⟨g4, p4, rfl, cx⟩ := o4.ints.at 1 (by omega)
      rw [← HX.out] at cx
      have V4 := V3.trans (u4.mono V3.size)
      clear o4 u4 V3 og3
      have hb : (1 : Int) < ((4 : Nat) : Int) := by omega
      go_wp2
      go_ret2
      exact ⟨rfl, V4⟩
  obtain ⟨ha, hn⟩ := am_out (n := n) (w := wd) (inB_no (n := kind) (lo := 0) (hi := 3) (by omega))
  rw [ha, hn]
  clear ha hn
  have f0 : ((kind == 0) : Bool) = false := by simp [k0]
  have f1 : ((kind == 1) : Bool) = false := by simp [k1]
  have f2 : ((kind == 2) : Bool) = false := by simp [k2]
  have f3 : ((kind == 3) : Bool) = false := by simp [k3]
  clear k0 k1 k2 k3 R1 hz1
  go_enter Try.func21, Try.ntmps21
  go_wp2
  go_ret2
  exact ⟨rfl, V1⟩
set_option maxHeartbeats 8000000 in
set_option maxRecDepth 100000 in
theorem meIf_out (kind n wd : Int) (w : World) (hk : inB kind 0 3 = false) :
    Calls Try.prog 48 #[.int .i64 kind, .int .i64 n, .int .i64 wd] w fun e w' => e = .returned (.tuple #[.agg #[.int .i64 0, .int .i64 0, .slice none 0 0, .slice none 0 0], .bool false]) ∧ Below w.heap.size w w' := by
  have V1 : Below w.heap.size w (w.alloc (.cells #[.int .i64 0, .int .i64 0, .slice none 0 0, .slice none 0 0] 25)) := (Below.refl _ _).alloc (Nat.le_refl _) _
  have R1 : Blk (w.alloc (.cells #[.int .i64 0, .int .i64 0, .slice none 0 0, .slice none 0 0] 25)) w.heap.size 25 #[.int .i64 0, .int .i64 0, .slice none 0 0, .slice none 0 0] := Blk.new w _ _
  cases hg : (inB n 1 8 && inB wd 1 4)
  · go_enter Try.func48, Try.ntmps48
    go_wp2_with fail
    generalize (w.alloc (.cells #[.int .i64 0, .int .i64 0, .slice none 0 0, .slice none 0 0] 25)) = w1 at *
    refine (meGood_any n wd _).mono ?_; rintro e w' ⟨rfl, rfl⟩
    rw [hg]
    have r0 : w1.cell? ⟨w.heap.size, 0, none⟩ = some (.int .i64 0) := R1.cell 0
    have r1 : w1.cell? ⟨w.heap.size, 1, none⟩ = some (.int .i64 0) := R1.cell 1
    have r2 : w1.cell? ⟨w.heap.size, 2, none⟩ = some (.slice none 0 0) := R1.cell 2
    have r3 : w1.cell? ⟨w.heap.size, 3, none⟩ = some (.slice none 0 0) := R1.cell 3
    have q0 : w1.frozen? ⟨w.heap.size, 0, none⟩ = false := R1.frozen 0
    have q1 : w1.frozen? ⟨w.heap.size, 1, none⟩ = false := R1.frozen 1
    have q2 : w1.frozen? ⟨w.heap.size, 2, none⟩ = false := R1.frozen 2
    have q3 : w1.frozen? ⟨w.heap.size, 3, none⟩ = false := R1.frozen 3
    go_wp2
    have GG := (((((Only.refl [w.heap.size] w1).setCell ⟨w.heap.size, 0, none⟩ (.int .i64 0) (by simp)).setCell ⟨w.heap.size, 1, none⟩ (.int .i64 0) (by simp)).setCell ⟨w.heap.size, 2, none⟩ (.slice none 0 0) (by simp)).setCell ⟨w.heap.size, 3, none⟩ (.slice none 0 0) (by simp))
    exact bodyPost_ret (v := .tuple #[.agg #[.int .i64 0, .int .i64 0, .slice none 0 0, .slice none 0 0], .bool false]) (by simp [results, Try.results48, go_sem, r0, r1, r2, r3]) rfl ⟨rfl, V1.trans (GG.below V1.size (by simp))⟩
  · go_enter Try.func48, Try.ntmps48
    go_wp2_with fail
    generalize (w.alloc (.cells #[.int .i64 0, .int .i64 0, .slice none 0 0, .slice none 0 0] 25)) = w1 at *
    refine (meGood_any n wd _).mono ?_; rintro e w' ⟨rfl, rfl⟩
    rw [hg]
    go_wp2_with fail
    refine (l1In_any _ _ _ _).mono ?_; rintro e w' ⟨rfl, rfl⟩
    rw [hk]
    have r0 : w1.cell? ⟨w.heap.size, 0, none⟩ = some (.int .i64 0) := R1.cell 0
    have r1 : w1.cell? ⟨w.heap.size, 1, none⟩ = some (.int .i64 0) := R1.cell 1
    have r2 : w1.cell? ⟨w.heap.size, 2, none⟩ = some (.slice none 0 0) := R1.cell 2
    have r3 : w1.cell? ⟨w.heap.size, 3, none⟩ = some (.slice none 0 0) := R1.cell 3
    have q0 : w1.frozen? ⟨w.heap.size, 0, none⟩ = false := R1.frozen 0
    have q1 : w1.frozen? ⟨w.heap.size, 1, none⟩ = false := R1.frozen 1
    have q2 : w1.frozen? ⟨w.heap.size, 2, none⟩ = false := R1.frozen 2
    have q3 : w1.frozen? ⟨w.heap.size, 3, none⟩ = false := R1.frozen 3
    go_wp2
    have GG := (((((Only.refl [w.heap.size] w1).setCell ⟨w.heap.size, 0, none⟩ (.int .i64 0) (by simp)).setCell ⟨w.heap.size, 1, none⟩ (.int .i64 0) (by simp)).setCell ⟨w.heap.size, 2, none⟩ (.slice none 0 0) (by simp)).setCell ⟨w.heap.size, 3, none⟩ (.slice none 0 0) (by simp))
    exact bodyPost_ret (v := .tuple #[.agg #[.int .i64 0, .int .i64 0, .slice none 0 0, .slice none 0 0], .bool false]) (by simp [results, Try.results48, go_sem, r0, r1, r2, r3]) rfl ⟨rfl, V1.trans (GG.below V1.size (by simp))⟩
set_option maxHeartbeats 8000000 in
set_option maxRecDepth 100000 in
theorem spec_AndsOfMemory_any (kind n wd : Int) (w : World) :
    Calls Try.prog 20 #[.int .i64 kind, .int .i64 n, .int .i64 wd] w fun e w' => e = .returned (.tuple #[.int .i64 (amN kind n wd), .bool (amB kind n wd)]) ∧ Below w.heap.size w w' := by
  by_cases k0 : kind = 0
  · subst k0
    cases hm : memB n wd
    · obtain ⟨ha, hn⟩ := am_no 0 (by omega) hm
      have ha2 : amB 0 n wd = false := ha
      have hn2 : amN 0 n wd = _ := hn
      rw [ha2, hn2]
      clear ha hn ha2 hn2
      have HM := Lib.hid hm
      clear hm
      go_enter Try.func20, Try.ntmps20
      go_wp2_with fail
      refine (meIf_0 n wd _).mono ?_; rintro e w2 ⟨ga, gn, gc, oa, on, oc, rfl, og, oo, dd, u2⟩
      rw [HM.out]
      have V2 := u2
      go_wp2
      go_ret2
      exact ⟨rfl, V2.alloc V2.size _⟩
    · obtain ⟨ha, hn⟩ := am_yes 0 (by omega) hm
      have ha2 : amB 0 n wd = true := ha
      have hn2 : amN 0 n wd = _ := hn
      rw [ha2, hn2]
      clear ha hn ha2 hn2
      have hkn := m_kinds 0 n wd hm
      have hln := (m_len 0 n wd).1
      have hl4 := cntL_len (mG 0 n wd) ((mG 0 n wd).length / 3)
      obtain ⟨N, hN⟩ : ∃ N, N = (mG 0 n wd).length / 3 := ⟨_, rfl⟩
      rw [← hN] at hkn hl4 ⊢
      have HN := Lib.hid hN
      have HKN := Lib.hid hkn
      clear hN hkn
      obtain ⟨X, hX⟩ : ∃ X, X = (cntL (mG 0 n wd) N).getD 1 0 := ⟨_, rfl⟩
      rw [← hX]
      have HX := Lib.hid hX
      clear hX
      have HM := Lib.hid hm
      clear hm
      go_enter Try.func20, Try.ntmps20
      go_wp2_with fail
      refine (meIf_0 n wd _).mono ?_; rintro e w2 ⟨ga, gn, gc, oa, on, oc, rfl, og, oo, dd, u2⟩
      rw [HM.out]
      have V2 := u2
      have og3 := og.alloc (.cells #[.int .i64 (mS0 n wd), .int .i64 (mS1 0 n wd), .slice ga gn gc, .slice oa on oc] 25)
      have V3 := V2.alloc V2.size (.cells #[.int .i64 (mS0 n wd), .int .i64 (mS1 0 n wd), .slice ga gn gc, .slice oa on oc] 25)
      clear og V2
      go_wp2_with fail
      generalize (w2.alloc (.cells #[.int .i64 (mS0 n wd), .int .i64 (mS1 0 n wd), .slice ga gn gc, .slice oa on oc] 25)) = w3 at *
      have HGN := Lib.hid (show gn = N by rw [HN.out]; have := og3.len; omega)
      refine (ciCounts_any _ _ _ _ _ _ _ _ (mG 0 n wd) _ og3.flat (by rw [HGN.out]; exact HKN.out) (by rw [HGN.out]; have := HN.out; omega)).mono ?_; rintro e w4 ⟨a4, c4, rfl, o4, u4⟩
      rw [HGN.out] at o4
      obtain ⟨g4, p4, rfl, cx⟩ := o4.ints.at 1 (by omega)
      rw [← HX.out] at cx
      have V4 := V3.trans (u4.mono V3.size)
      clear o4 u4 V3 og3
      have hb : (1 : Int) < ((4 : Nat) : Int) := by omega
      go_wp2
      go_ret2
      exact ⟨rfl, V4⟩
  by_cases k1 : kind = 1
  · subst k1
    cases hm : memB n wd
    · obtain ⟨ha, hn⟩ := am_no 1 (by omega) hm
      have ha2 : amB 1 n wd = false := ha
      have hn2 : amN 1 n wd = _ := hn
      rw [ha2, hn2]
      clear ha hn ha2 hn2
      have HM := Lib.hid hm
      clear hm
      go_enter Try.func20, Try.ntmps20
      go_wp2_with fail
      refine (meIf_1 n wd _).mono ?_; rintro e w2 ⟨ga, gn, gc, oa, on, oc, rfl, og, oo, dd, u2⟩
      rw [HM.out]
      have V2 := u2
      go_wp2
      go_ret2
      exact ⟨rfl, V2.alloc V2.size _⟩
    · obtain ⟨ha, hn⟩ := am_yes 1 (by omega) hm
      have ha2 : amB 1 n wd = true := ha
      have hn2 : amN 1 n wd = _ := hn
      rw [ha2, hn2]
      clear ha hn ha2 hn2
      have hkn := m_kinds 1 n wd hm
      have hln := (m_len 1 n wd).1
      have hl4 := cntL_len (mG 1 n wd) ((mG 1 n wd).length / 3)
      obtain ⟨N, hN⟩ : ∃ N, N = (mG 1 n wd).length / 3 := ⟨_, rfl⟩
      rw [← hN] at hkn hl4 ⊢
      have HN := Lib.hid hN
      have HKN := Lib.hid hkn
      clear hN hkn
      obtain ⟨X, hX⟩ : ∃ X, X = (cntL (mG 1 n wd) N).getD 1 0 := ⟨_, rfl⟩
      rw [← hX]
      have HX := Lib.hid hX
      clear hX
      have HM := Lib.hid hm
      clear hm
      go_enter Try.func20, Try.ntmps20
      go_wp2_with fail
      refine (meIf_1 n wd _).mono ?_; rintro e w2 ⟨ga, gn, gc, oa, on, oc, rfl, og, oo, dd, u2⟩
      rw [HM.out]
      have V2 := u2
      have og3 := og.alloc (.cells #[.int .i64 (mS0 n wd), .int .i64 (mS1 1 n wd), .slice ga gn gc, .slice oa on oc] 25)
      have V3 := V2.alloc V2.size (.cells #[.int .i64 (mS0 n wd), .int .i64 (mS1 1 n wd), .slice ga gn gc, .slice oa on oc] 25)
      clear og V2
      go_wp2_with fail
      generalize (w2.alloc (.cells #[.int .i64 (mS0 n wd), .int .i64 (mS1 1 n wd), .slice ga gn gc, .slice oa on oc] 25)) = w3 at *
      have HGN := Lib.hid (show gn = N by rw [HN.out]; have := og3.len; omega)
      refine (ciCounts_any _ _ _ _ _ _ _ _ (mG 1 n wd) _ og3.flat (by rw [HGN.out]; exact HKN.out) (by rw [HGN.out]; have := HN.out; omega)).mono ?_; rintro e w4 ⟨a4, c4, rfl, o4, u4⟩
      rw [HGN.out] at o4
      obtain ⟨g4, p4, rfl, cx⟩ := o4.ints.at 1 (by omega)
      rw [← HX.out] at cx
      have V4 := V3.trans (u4.mono V3.size)
      clear o4 u4 V3 og3
      have hb : (1 : Int) < ((4 : Nat) : Int) := by omega
      go_wp2
      go_ret2
      exact ⟨rfl, V4⟩
  by_cases k2 : kind = 2
  · subst k2
    cases hm : memB n wd
    · obtain ⟨ha, hn⟩ := am_no 2 (by omega) hm
      have ha2 : amB 2 n wd = false := ha
      have hn2 : amN 2 n wd = _ := hn
      rw [ha2, hn2]
      clear ha hn ha2 hn2
      have HM := Lib.hid hm
      clear hm
      go_enter Try.func20, Try.ntmps20
      go_wp2_with fail
      refine (meIf_2 n wd _).mono ?_; rintro e w2 ⟨ga, gn, gc, oa, on, oc, rfl, og, oo, dd, u2⟩
      rw [HM.out]
      have V2 := u2
      go_wp2
      go_ret2
      exact ⟨rfl, V2.alloc V2.size _⟩
    · obtain ⟨ha, hn⟩ := am_yes 2 (by omega) hm
      have ha2 : amB 2 n wd = true := ha
      have hn2 : amN 2 n wd = _ := hn
      rw [ha2, hn2]
      clear ha hn ha2 hn2
      have hkn := m_kinds 2 n wd hm
      have hln := (m_len 2 n wd).1
      have hl4 := cntL_len (mG 2 n wd) ((mG 2 n wd).length / 3)
      obtain ⟨N, hN⟩ : ∃ N, N = (mG 2 n wd).length / 3 := ⟨_, rfl⟩
      rw [← hN] at hkn hl4 ⊢
      have HN := Lib.hid hN
      have HKN := Lib.hid hkn
      clear hN hkn
      obtain ⟨X, hX⟩ : ∃ X, X = (cntL (mG 2 n wd) N).getD 1 0 := ⟨_, rfl⟩
      rw [← hX]
      have HX := Lib.hid hX
      clear hX
      have HM := Lib.hid hm
      clear hm
      go_enter Try.func20, Try.ntmps20
      go_wp2_with fail
      refine (meIf_2 n wd _).mono ?_; rintro e w2 ⟨ga, gn, gc, oa, on, oc, rfl, og, oo, dd, u2⟩
      rw [HM.out]
      have V2 := u2
      have og3 := og.alloc (.cells #[.int .i64 (mS0 n wd), .int .i64 (mS1 2 n wd), .slice ga gn gc, .slice oa on oc] 25)
      have V3 := V2.alloc V2.size (.cells #[.int .i64 (mS0 n wd), .int .i64 (mS1 2 n wd), .slice ga gn gc, .slice oa on oc] 25)
      clear og V2
      go_wp2_with fail
      generalize (w2.alloc (.cells #[.int .i64 (mS0 n wd), .int .i64 (mS1 2 n wd), .slice ga gn gc, .slice oa on oc] 25)) = w3 at *
      have HGN := Lib.hid (show gn = N by rw [HN.out]; have := og3.len; omega)
      refine (ciCounts_any _ _ _ _ _ _ _ _ (mG 2 n wd) _ og3.flat (by rw [HGN.out]; exact HKN.out) (by rw [HGN.out]; have := HN.out; omega)).mono ?_; rintro e w4 ⟨a4, c4, rfl, o4, u4⟩
      rw [HGN.out] at o4
      obtain ⟨g4, p4, rfl, cx⟩ := o4.ints.at 1 (by omega)
      rw [← HX.out] at cx
      have V4 := V3.trans (u4.mono V3.size)
      clear o4 u4 V3 og3
      have hb : (1 : Int) < ((4 : Nat) : Int) := by omega
      go_wp2
      go_ret2
      exact ⟨rfl, V4⟩
  by_cases k3 : kind = 3
  · subst k3
    cases hm : memB n wd
    · obtain ⟨ha, hn⟩ := am_no 3 (by omega) hm
      have ha2 : amB 3 n wd = false := ha
      have hn2 : amN 3 n wd = _ := hn
      rw [ha2, hn2]
      clear ha hn ha2 hn2
      have HM := Lib.hid hm
      clear hm
      go_enter Try.func20, Try.ntmps20
      go_wp2_with fail
      refine (meIf_3 n wd _).mono ?_; rintro e w2 ⟨ga, gn, gc, oa, on, oc, rfl, og, oo, dd, u2⟩
      rw [HM.out]
      have V2 := u2
      go_wp2
      go_ret2
      exact ⟨rfl, V2.alloc V2.size _⟩
    · obtain ⟨ha, hn⟩ := am_yes 3 (by omega) hm
      have ha2 : amB 3 n wd = true := ha
      have hn2 : amN 3 n wd = _ := hn
      rw [ha2, hn2]
      clear ha hn ha2 hn2
      have hkn := m_kinds 3 n wd hm
      have hln := (m_len 3 n wd).1
      have hl4 := cntL_len (mG 3 n wd) ((mG 3 n wd).length / 3)
      obtain ⟨N, hN⟩ : ∃ N, N = (mG 3 n wd).length / 3 := ⟨_, rfl⟩
      rw [← hN] at hkn hl4 ⊢
      have HN := Lib.hid hN
      have HKN := Lib.hid hkn
      clear hN hkn
      obtain ⟨X, hX⟩ : ∃ X, X = (cntL (mG 3 n wd) N).getD 1 0 := ⟨_, rfl⟩
      rw [← hX]
      have HX := Lib.hid hX
      clear hX
      have HM := Lib.hid hm
      clear hm
      go_enter Try.func20, Try.ntmps20
      go_wp2_with fail
      refine (meIf_3 n wd _).mono ?_; rintro e w2 ⟨ga, gn, gc, oa, on, oc, rfl, og, oo, dd, u2⟩
      rw [HM.out]
      have V2 := u2
      have og3 := og.alloc (.cells #[.int .i64 (mS0 n wd), .int .i64 (mS1 3 n wd), .slice ga gn gc, .slice oa on oc] 25)
      have V3 := V2.alloc V2.size (.cells #[.int .i64 (mS0 n wd), .int .i64 (mS1 3 n wd), .slice ga gn gc, .slice oa on oc] 25)
      clear og V2
      go_wp2_with fail
      generalize (w2.alloc (.cells #[.int .i64 (mS0 n wd), .int .i64 (mS1 3 n wd), .slice ga gn gc, .slice oa on oc] 25)) = w3 at *
      have HGN := Lib.hid (show gn = N by rw [HN.out]; have := og3.len; omega)
      refine (ciCounts_any _ _ _ _ _ _ _ _ (mG 3 n wd) _ og3.flat (by rw [HGN.out]; exact HKN.out) (by rw [HGN.out]; have := HN.out; omega)).mono ?_; rintro e w4 ⟨a4, c4, rfl, o4, u4⟩
      rw [HGN.out] at o4
      obtain ⟨g4, p4, rfl, cx⟩ := o4.ints.at 1 (by omega)
      rw [← HX.out] at cx
      have V4 := V3.trans (u4.mono V3.size)
      clear o4 u4 V3 og3
      have hb : (1 : Int) < ((4 : Nat) : Int) := by omega
      go_wp2
      go_ret2
      exact ⟨rfl, V4⟩
  obtain ⟨ha, hn⟩ := am_out (n := n) (w := wd) (inB_no (n := kind) (lo := 0) (hi := 3) (by omega))
  rw [ha, hn]
  clear ha hn
  have hi3 := inB_no (n := kind) (lo := 0) (hi := 3) (by omega)
  clear k0 k1 k2 k3
  go_enter Try.func20, Try.ntmps20
  go_wp2_with fail
  refine (meIf_out kind n wd _ hi3).mono ?_; rintro e w2 ⟨rfl, u2⟩
  go_wp2
  go_ret2
  exact ⟨rfl, u2.alloc u2.size _⟩
set_option maxHeartbeats 4000000 in
theorem FnExactAndsOfMemory_walk (a0 a1 a2 : Int) (w : World) (_w0 : -9223372036854775808 ≤ a0 ∧ a0 ≤ 9223372036854775807) (_w1 : -9223372036854775808 ≤ a1 ∧ a1 ≤ 9223372036854775807) (_w2 : -9223372036854775808 ≤ a2 ∧ a2 ≤ 9223372036854775807) :
    Calls Try.prog 5 #[.int .i64 a0, .int .i64 a1, .int .i64 a2] w fun e w' => e = .returned (.bool true) ∧ Below w.heap.size w w' := by
  have b1 : ((amN a0 a1 a2 != amN a0 a1 a2) : Bool) = false := by simp
  have b2 : ((amB a0 a1 a2 != amB a0 a1 a2) : Bool) = false := by simp
  go_enter Try.func5, Try.ntmps5
  go_wp2_with fail
  refine (spec_AndsOfMemory_any _ _ _ _).mono ?_; rintro e w1 ⟨rfl, u1⟩
  go_wp2_with fail
  refine (AndsOfMemory_any _ _ _ _).mono ?_; rintro e w2 ⟨rfl, u2⟩
  go_wp2
  go_ret
  exact ⟨rfl, u1.trans (u2.mono u1.size)⟩
end Go.Proofs.Ytkbhigdciokfkaa
