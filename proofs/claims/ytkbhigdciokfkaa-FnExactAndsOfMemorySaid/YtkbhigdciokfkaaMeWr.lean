/- The reference's writing. -/
import Derived.Test.YtkbhigdciokfkaaMeA
import Derived.Deep.DeepCutAuto
import Derived.Deep.RegionLaw
namespace Go.Proofs.Ytkbhigdciokfkaa
open Go.RowKit
set_option maxHeartbeats 8000000 in
set_option maxRecDepth 100000 in
theorem meWrite_any (n wd v : Nat) (w : World) (hn : 1 ≤ n ∧ n ≤ 8) (hw : 1 ≤ wd ∧ wd ≤ 4) (hv : wid (n : Int) = v) :
    Calls Try.prog 97 #[.int .i64 n, .int .i64 wd] w fun e w' => ∃ ga gn gc oa on oc, e = .returned (.agg #[.int .i64 ((n * wd : Nat) : Int), .int .i64 ((v : Int) + ((wd : Nat) : Int)), .slice ga gn gc, .slice oa on oc]) ∧ OwnF 3 eGate w' w.heap.size ga gn gc (meG 2 n wd).1 ∧ Rd w' w.heap.size oa on oc (meG 2 n wd).2 ∧ Disj (foot ga gc) (foot oa oc) ∧ Below w.heap.size w w' := by
  have hv3 : v ≤ 3 := by rw [← hv]; exact wid8 n hn.2
  have hqb : n * wd ≤ 8 * 4 := Nat.mul_le_mul hn.2 hw.2
  have HE : Hid (meG 2 n wd = wrG (meB n wd v wd) (spL ((n * wd : Nat) : Int) v) (spL ((n * wd : Nat) + v : Int) wd) (ceL wd n) [] n) := Lib.hid (by unfold meG; rw [if_neg (by decide), if_neg (by decide), if_pos rfl, hv]; rfl)
  have HB : Hid (meB n wd v wd = ((n * wd : Nat) : Int) + ((v : Int) + ((wd : Nat) : Int))) := Lib.hid (by unfold meB; simp)
  rw [HE.out, HB.out]
  clear HE HB
  have hst := meStart_any n wd wd v (w.alloc (.cells #[.int .i64 0, .int .i64 0, .slice none 0 0, .slice none 0 0] 25)) hn hw (by omega) hv
  have HST := Lib.hid hst
  clear hst hv
  have hqe : ((n : Int) * (wd : Int)) = ((n * wd : Nat) : Int) := (Int.natCast_mul _ _).symm
  obtain ⟨q, hq⟩ : ∃ q, q = n * wd := ⟨_, rfl⟩
  rw [← hq] at HST hqe hqb ⊢
  have t1 : IntKind.i64.wrap ((n : Int) * (wd : Int)) = (q : Int) := by rw [hqe]; exact IntWalk.i64_in _ (by omega)
  clear hqe hq
  have V1 : Below w.heap.size w (w.alloc (.cells #[.int .i64 0, .int .i64 0, .slice none 0 0, .slice none 0 0] 25)) := (Below.refl _ _).alloc (Nat.le_refl _) _
  have R1 : Blk (w.alloc (.cells #[.int .i64 0, .int .i64 0, .slice none 0 0, .slice none 0 0] 25)) w.heap.size 25 #[.int .i64 0, .int .i64 0, .slice none 0 0, .slice none 0 0] := Blk.new w _ _
  have Z1 : (w.alloc (.cells #[.int .i64 0, .int .i64 0, .slice none 0 0, .slice none 0 0] 25)).heap.size = w.heap.size + 1 := by simp
  obtain ⟨i1, hi1⟩ : ∃ i1, i1 = (v : Int) + ((wd : Nat) : Int) := ⟨_, rfl⟩
  rw [← hi1] at HST ⊢
  have h1 : 0 ≤ i1 ∧ i1 ≤ 1000 := by omega
  clear hi1
  have h0 : (0 : Int) ≤ (q : Int) ∧ (q : Int) ≤ 1000 := by omega
  go_enter Try.func97, Try.ntmps97
  go_wp2_with fail
  refine HST.out.mono ?_; rintro e w2 ⟨g, ca, cc, rs, ia, ic, rfl, h, dc, hd, hhi, dx, u2⟩
  have V2 := V1.trans (u2.mono V1.size)
  have R2 := R1.below u2
  have hgr : w.heap.size < g := by have := (h.feet g (by simp)).1; omega
  rw [Z1] at h hhi
  have hb : w.heap.size + 1 ≤ w2.heap.size := by have := u2.size; omega
  clear V1 R1 u2 Z1 HST
  have HI : Hid ((spL (q : Int) v).length = v) := spL_len _ _
  have HAL : Hid (AllL wd (datas' rs)) := Lib.hid (by rw [hd]; exact ceL_all wd n)
  have HR := Lib.hid dc.len
  have hle := dc.le
  have hle2 := dx.ints.le
  have HH := Lib.hid hhi
  have HD0 := Lib.hid hd
  clear hhi hd
  obtain ⟨I, hI⟩ : ∃ I, I = spL (q : Int) v := ⟨_, rfl⟩
  rw [← hI] at dx HI
  have HSI := Lib.hid hI
  clear hI
  have hvI : IntKind.i64.wrap ((q : Int) + (v : Int)) = (q : Int) + (v : Int) := IntWalk.i64_in _ (by omega)
  go_wp2_with fail
  refine (gdRange_any ((q : Int) + v) wd _ (by omega) (by omega)).mono ?_; rintro e w5 ⟨va, vc, rfl, ov, u5⟩
  have M1 := h.below u5
  have dc1 := dc.below u5
  have dx1 := dx.below u5
  have dv := ov.intD (Disj.of_rng ov.feet h.feet (.inr (Nat.le_refl _)))
  have R5 := R2.below u5
  have V5 := V2.trans (u5.mono V2.size)
  have hb5 : w.heap.size + 1 ≤ w5.heap.size := Nat.le_trans hb u5.size
  clear ov u5 h hb dc dx R2 V2
  have hb := hb5
  have R2 := R5
  have V2 := V5
  clear hb5 R5 V5
  have hvl : (spL ((q : Int) + v) wd).length = wd := spL_len _ _
  obtain ⟨V, hV⟩ : ∃ V, V = spL ((q : Int) + v) wd := ⟨_, rfl⟩
  rw [← hV] at dv hvl
  have HV := Lib.hid hV
  clear hV
  have HVL := Lib.hid hvl
  clear hvl hvI
  go_wp2
  go_loopw [30] (fun u wr => ∃ i F1, i ≤ n ∧ u = .int .i64 (i : Nat) ∧ (∃ oa on oc, Own wr w5.heap.size oa on oc (wrG ((q : Int) + i1) I V (datas' rs) [] i).2 ∧ Disj (foot oa oc) F1 ∧ Mk 79 wr (w.heap.size + 1) g q i1 (wrG ((q : Int) + i1) I V (datas' rs) [] i).1 F1 oa on oc) ∧ Stp [g] w5 F1 wr) (fun u _ => n - (intOf u).toNat)
  case atStart => exact ⟨0, [g], Nat.zero_le _, rfl, ⟨_, _, _, Own.nil0 _ _ _, foot_nil _ _, M1⟩, Stp.refl _ _⟩
  case round =>
    obtain ⟨i, F1, hk, rfl, ⟨oa, on, oc, own, dd, M2⟩, S2⟩ := hrel
    clear M1
    by_cases hlt : i < n
    · have hil : i < (datas' rs).length := by rw [datas_len, HR.out]; exact hlt
      obtain ⟨hG, hG2⟩ := wrG_len ((q : Int) + i1) I V (datas' rs) [] i
      rw [HI.out, HVL.out, List.length_nil] at hG
      rw [HVL.out] at hG2
      have hGb : (6 * v + 3 + 9 * wd) * i ≤ 250 * 8 := Nat.mul_le_mul (by omega) (by omega)
      have hOb : wd * i ≤ 20 * 8 := Nat.mul_le_mul (by omega) (by omega)
      have hml : on ≤ 160 := by have := own.len; omega
      have HS0 := wrG_succ ((q : Int) + i1) I V (datas' rs) [] i
      rw [datas_getD _ _ (by rw [HR.out]; exact hlt)] at HS0
      have hcl := HAL.out.at i hil
      rw [datas_getD _ _ (by rw [HR.out]; exact hlt)] at hcl
      obtain ⟨gc, oc', hgc, _, dr⟩ := dc1.at i hlt
      subst hgc
      have ci := (dc1.stp S2).cellsAt i hlt
      generalize rowAt rs i = r at *
      obtain ⟨ra, rc, C⟩ := r
      simp only at HS0 hcl ci dr
      obtain ⟨⟨G1, O⟩, hr⟩ : ∃ r, r = (wrG ((q : Int) + i1) I V (datas' rs) [] i) := ⟨_, rfl⟩
      rw [← hr] at HS0 hG hG2 M2 own
      clear hr
      simp only at hG hG2 M2 own
      unfold wrS at HS0
      simp only at HS0
      have hm := maG_len ((q : Int) + i1) i I G1
      rw [HI.out] at hm
      rw [hcl] at ci dr
      rw [HVL.out] at HS0
      clear hcl
      have dxs := dx1.stp S2
      go_wp2_with fail
      clear ci
      refine (meMatch_any _ _ _ _ _ (w.heap.size + 1) g q i1 _ F1 _ M2 (Nat.le_trans hb S2.size) h0 h1 dxs (by omega) (by omega) (by omega)).mono ?_; rintro e w6 ⟨rfl, F2, M3, s3⟩
      obtain ⟨ow3, dw3⟩ := own.stp dd s3
      have S3 := S2.trans s3
      clear M2 S2 own dd dxs s3
      obtain ⟨⟨G2, z⟩, hz⟩ : ∃ r, r = maG ((q : Int) + i1) i I G1 := ⟨_, rfl⟩
      rw [← hz] at HS0 hm M3
      try rw [← hz]
      clear hz
      simp only at HS0 hm M3
      have hch := chG_len ((q : Int) + i1) z V C G2 wd
      obtain ⟨⟨G3, L⟩, hr3⟩ : ∃ r, r = chG ((q : Int) + i1) z V C G2 wd := ⟨_, rfl⟩
      have HCH := Lib.hid hr3
      rw [← hr3] at HS0 hch
      clear hr3
      simp only at HS0 hch
      have HS := Lib.hid HS0
      clear HS0
      have dvs := dv.stp S3
      have drs := dr.stp S3
      go_wp2
      have M3' := M3.drew
      obtain ⟨_, x3, y3, _⟩ := M3'.outs none 0 0
      go_region_law (first | (refine step_appJ _ (by rfl) _ _ (by rfl) w5.heap.size oa on oc O (by rfl) ow7 _ wd _ _ (by rfl) o7.ints (by omega) S7.size ?_; intro a8 c8 w8 o8 _ g8 _ m8; have O8 := Only.of_grown g8; have M8 := Mk.only M7 O8 dw7; obtain ⟨_, x8, y8, _⟩ := M8.outs none 0 0) | (go_simp; go_at_call 87; refine (gdPick_any z _ wd _ V _ wd _ C (w.heap.size + 1) g q i1 G2 F2 _ M3.drew (Nat.le_trans hb S3.size) h0 h1 (dvs.below ((Below.refl _ _).drew)) (drs.below ((Below.refl _ _).drew)) (Nat.le_refl _) (by omega) (by omega)).mono ?_; rintro e w7 ⟨a7, c7, F7, rfl, o7, d7, M7, s7⟩; obtain ⟨_, x7, y7, hgF⟩ := M7.outs none 0 0; obtain ⟨ow7, dw7⟩ := (ow3.below ((Below.refl _ _).drew)).stp dw3 s7; have S7 := S3.drew.trans s7))
      all_goals have S8 := Stp.onto S7 O8 (fun k hk => (ow7.feet k hk).1)
      all_goals have d8 : Disj (foot a8 c8) F7 := m8.disj dw7 (fun k hk => (M7.feet k hk).2)
      all_goals obtain ⟨M9, _, _, _⟩ := M8.outs a8 (on + wd) c8
      all_goals have O9 : Only F7 w8 (w8.setCell ⟨g, 3, none⟩ (.slice a8 (on + wd) c8)) := (Only.refl _ _).setCell _ _ hgF
      all_goals have o9 := Own.only o8 O9 d8
      all_goals have S9 : Stp [g] w5 F7 _ := S8.trans ⟨O9, fun k hk => .inl hk⟩
      all_goals rw [← HCH.out] at o9 M9
      all_goals clear x3 y3 x7 y7 x8 y8 M3 S3 ow3 dw3 M7 S7 ow7 dw7 M8 S8 O8 O9 o7 d7 g8 m8 o8 s7 M3' dvs drs
      all_goals
        go_wp2
        go_roundw
        case rel => exact ⟨i + 1, F7, by omega, by go_num, ⟨_, _, _, by rw [HS.out]; exact o9, d8, by rw [HS.out]; exact M9⟩, S9⟩
        case measure => simp [intOf]; omega
    · obtain rfl : i = n := by omega
      rw [HSI.out, HD0.out, HV.out] at M2 own
      have hge2 : ¬ (i : Int) < (i : Int) := by omega
      obtain ⟨ga, gn, gc, hB, ho, hg, hbg, hF⟩ := M2
      have R6 := R2.only S2.only (by simp; omega)
      have V6 := V2.trans (S2.out (B := w.heap.size) V2.size (by simp; omega))
      have Z6 := S2.size
      have hdd : Disj (foot ga gc) (foot oa oc) := fun k hk hk' => dd k hk' (by rw [hF]; exact List.mem_cons_of_mem _ hk)
      have R7 := R6
      have ho7 := ho
      have oo7 := own
      have V7 := V6
      have z0 : wr.cell? ⟨g, 0, none⟩ = some (.int .i64 (q : Int)) := hB.cell 0
      have z1 : wr.cell? ⟨g, 1, none⟩ = some (.int .i64 i1) := hB.cell 1
      have z2 : wr.cell? ⟨g, 2, none⟩ = some (.slice ga gn gc) := hB.cell 2
      have z3 : wr.cell? ⟨g, 3, none⟩ = some (.slice oa on oc) := hB.cell 3
      have r0 : wr.cell? ⟨w.heap.size, 0, none⟩ = some (.int .i64 0) := R7.cell 0
      have q0 : wr.frozen? ⟨w.heap.size, 0, none⟩ = false := R7.frozen 0
      have r1 : wr.cell? ⟨w.heap.size, 1, none⟩ = some (.int .i64 0) := R7.cell 1
      have q1 : wr.frozen? ⟨w.heap.size, 1, none⟩ = false := R7.frozen 1
      have r2 : wr.cell? ⟨w.heap.size, 2, none⟩ = some (.slice none 0 0) := R7.cell 2
      have q2 : wr.frozen? ⟨w.heap.size, 2, none⟩ = false := R7.frozen 2
      have r3 : wr.cell? ⟨w.heap.size, 3, none⟩ = some (.slice none 0 0) := R7.cell 3
      have q3 : wr.frozen? ⟨w.heap.size, 3, none⟩ = false := R7.frozen 3
      have Q1 := Lib.hid ho7.feet
      have Q2 := Lib.hid oo7.feet
      have GG := (((((Only.refl [w.heap.size] wr).setCell ⟨w.heap.size, 0, none⟩ (.int .i64 (q : Int)) (by simp)).setCell ⟨w.heap.size, 1, none⟩ (.int .i64 i1) (by simp)).setCell ⟨w.heap.size, 2, none⟩ (.slice ga gn gc) (by simp)).setCell ⟨w.heap.size, 3, none⟩ (.slice oa on oc) (by simp))
      have HG := Lib.hid GG
      clear GG
      go_wp2
      have GG := HG.out
      exact bodyPost_ret (v := .agg #[.int .i64 (q : Int), .int .i64 i1, .slice ga gn gc, .slice oa on oc]) (by simp [results, Try.results97, go_sem, r0, r1, r2, r3]) rfl ⟨_, _, _, _, _, _, rfl, (ho7.only GG (fun k hk hk' => by have := Q1.out k hk; simp at hk'; omega)).lower (by omega), ((oo7.only GG (fun k hk hk' => by have := Q2.out k hk; simp at hk'; omega)).lower (by omega)).rd, hdd, V7.trans (GG.below V7.size (by simp))⟩
end Go.Proofs.Ytkbhigdciokfkaa
