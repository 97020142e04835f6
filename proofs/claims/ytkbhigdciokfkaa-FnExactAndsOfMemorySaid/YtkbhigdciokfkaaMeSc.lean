/- The reference's scan. -/
import Derived.Test.YtkbhigdciokfkaaMeA
namespace Go.Proofs.Ytkbhigdciokfkaa
open Go.RowKit
set_option maxHeartbeats 8000000 in
set_option maxRecDepth 100000 in
theorem meScan_any (n wd v : Nat) (w : World) (hn : 1 ≤ n ∧ n ≤ 8) (hw : 1 ≤ wd ∧ wd ≤ 4) (hv : wid (n : Int) = v) :
    Calls Try.prog 95 #[.int .i64 n, .int .i64 wd] w fun e w' => ∃ ga gn gc oa on oc, e = .returned (.agg #[.int .i64 ((n * wd : Nat) : Int), .int .i64 ((v : Int) + ((0 : Nat) : Int)), .slice ga gn gc, .slice oa on oc]) ∧ OwnF 3 eGate w' w.heap.size ga gn gc (meG 0 n wd).1 ∧ Rd w' w.heap.size oa on oc (meG 0 n wd).2 ∧ Disj (foot ga gc) (foot oa oc) ∧ Below w.heap.size w w' := by
  have hv3 : v ≤ 3 := by rw [← hv]; exact wid8 n hn.2
  have hqb : n * wd ≤ 8 * 4 := Nat.mul_le_mul hn.2 hw.2
  have HE : Hid (meG 0 n wd = scG (meB n wd v 0) (spL ((n * wd : Nat) : Int) v) (ceL wd n) [] n) := Lib.hid (by unfold meG; rw [if_pos rfl, hv]; rfl)
  have HB : Hid (meB n wd v 0 = ((n * wd : Nat) : Int) + ((v : Int) + ((0 : Nat) : Int))) := Lib.hid (by unfold meB; simp)
  rw [HE.out, HB.out]
  clear HE HB
  have hst := meStart_any n wd 0 v (w.alloc (.cells #[.int .i64 0, .int .i64 0, .slice none 0 0, .slice none 0 0] 25)) hn hw (by omega) hv
  have HST := Lib.hid hst
  clear hst hv
  have hqe : ((n : Int) * (wd : Int)) = ((n * wd : Nat) : Int) := (Int.natCast_mul _ _).symm
  obtain ⟨q, hq⟩ : ∃ q, q = n * wd := ⟨_, rfl⟩
  rw [← hq] at HST hqe hqb ⊢
  have t1 : IntKind.i64.wrap ((n : Int) * (wd : Int)) = (q : Int) := by rw [hqe]; exact IntWalk.i64_in _ (by omega)
  clear hqe hq
  have V1 : Below w.heap.size w (w.alloc (.cells #[.int .i64 0, .int .i64 0, .slice none 0 0, .slice none 0 0] 25)) := (Below.refl _ _).alloc (Nat.le_refl _) _
  have R1 : Blk (w.alloc (.cells #[.int .i64 0, .int .i64 0, .slice none 0 0, .slice none 0 0] 25)) w.heap.size 25 #[.int .i64 0, .int .i64 0, .slice none 0 0, .slice none 0 0] := Blk.new w _ _
  have Z1 : (w.alloc (.cells #[.int .i64 0, .int .i64 0, .slice none 0 0, .slice none 0 0] 25)).heap.size = w.heap.size + 1 := by simp
  obtain ⟨i1, hi1⟩ : ∃ i1, i1 = (v : Int) + ((0 : Nat) : Int) := ⟨_, rfl⟩
  rw [← hi1] at HST ⊢
  have h1 : 0 ≤ i1 ∧ i1 ≤ 1000 := by omega
  clear hi1
  have h0 : (0 : Int) ≤ (q : Int) ∧ (q : Int) ≤ 1000 := by omega
  go_enter Try.func95, Try.ntmps95
  go_wp2_with fail
  refine HST.out.mono ?_; rintro e w2 ⟨g, ca, cc, rs, ia, ic, rfl, h, dc, hd, hhi, dx, u2⟩
  have V2 := V1.trans (u2.mono V1.size)
  have R2 := R1.below u2
  have hgr : w.heap.size < g := by have := (h.feet g (by simp)).1; omega
  rw [Z1] at h hhi
  have hb : w.heap.size + 1 ≤ w2.heap.size := by have := u2.size; omega
  clear V1 R1 u2 Z1 HST
  have HI : Hid ((spL (q : Int) v).length = v) := spL_len _ _
  have HAL : Hid (AllL wd (datas' rs)) := Lib.hid (by rw [hd]; exact ceL_all wd n)
  have HR := Lib.hid dc.len
  have hle := dc.le
  have hle2 := dx.ints.le
  have HH := Lib.hid hhi
  have HD0 := Lib.hid hd
  clear hhi hd
  obtain ⟨I, hI⟩ : ∃ I, I = spL (q : Int) v := ⟨_, rfl⟩
  rw [← hI] at dx HI
  have HSI := Lib.hid hI
  clear hI
  go_wp2
  go_loopw [8, 25] (fun y u wr => ∃ i F1, i ≤ n ∧ u = .int .i64 (i : Nat) ∧ (∃ a1 m c1, y = .slice a1 m c1 ∧ Own wr w2.heap.size a1 m c1 (scG ((q : Int) + i1) I (datas' rs) [] i).2 ∧ Disj (foot a1 c1) F1) ∧ Mk 79 wr (w.heap.size + 1) g q i1 (scG ((q : Int) + i1) I (datas' rs) [] i).1 F1 ∧ Stp [g] w2 F1 wr) (fun _ u _ => n - (intOf u).toNat)
  case atStart => exact ⟨0, [g], Nat.zero_le _, rfl, ⟨_, 0, _, rfl, Own.nil0 _ _ _, foot_nil _ _⟩, h, Stp.refl _ _⟩
  case round =>
    obtain ⟨i, F1, hk, rfl, ⟨a1, m, c1, rfl, own, dd⟩, M1, S1⟩ := hrel
    by_cases hlt : i < n
    · have hil : i < (datas' rs).length := by rw [datas_len, HR.out]; exact hlt
      obtain ⟨hG, hG2⟩ := scG_len (B := (q : Int) + i1) (idx := I) (G := []) HAL.out i (by omega)
      rw [HI.out, List.length_nil] at hG
      have hGb : (6 * v + 3 + 6 * wd) * i ≤ 200 * 8 := Nat.mul_le_mul (by omega) (by omega)
      have HS0 := scG_succ ((q : Int) + i1) I (datas' rs) [] i
      rw [datas_getD _ _ (by rw [HR.out]; exact hlt)] at HS0
      have hcl := HAL.out.at i hil
      rw [datas_getD _ _ (by rw [HR.out]; exact hlt)] at hcl
      obtain ⟨gc, oc', hgc, _, dr⟩ := dc.at i hlt
      subst hgc
      have ci := (dc.stp S1).cellsAt i hlt
      generalize rowAt rs i = r at *
      obtain ⟨ra, rc, C⟩ := r
      simp only at HS0 hcl ci dr
      obtain ⟨⟨G1, O⟩, hr⟩ : ∃ r, r = (scG ((q : Int) + i1) I (datas' rs) [] i) := ⟨_, rfl⟩
      rw [← hr] at HS0 hG hG2 M1 own
      clear hr
      simp only at hG hG2 M1 own
      unfold scT at HS0
      simp only at HS0
      have hm := maG_len ((q : Int) + i1) i I G1
      rw [HI.out] at hm
      rw [hcl] at ci dr HS0
      have dxs := dx.stp S1
      go_wp2_with fail
      clear ci
      refine (meMatch_any _ _ _ _ _ (w.heap.size + 1) g q i1 _ F1 _ M1 (Nat.le_trans hb S1.size) h0 h1 dxs (by omega) (by omega) (by omega)).mono ?_; rintro e wm1 ⟨rfl, Fm1, Mm1, sm1⟩
      have Sm1 := S1.trans sm1
      obtain ⟨om1, dm1⟩ := own.stp dd sm1
      clear M1 S1 own dd
      clear dxs sm1
      obtain ⟨⟨G2, z⟩, hz⟩ : ∃ r, r = maG ((q : Int) + i1) i I G1 := ⟨_, rfl⟩
      rw [← hz] at HS0 hm Mm1
      try rw [← hz]
      clear hz
      simp only at HS0 hm Mm1
      by_cases hi0 : i = 0
      · have hbi : ¬ (0 : Int) < ((i : Nat) : Int) := by omega
        have HBI : Hid ((i == 0) = true) := Lib.hid (by simp [hi0])
        clear hi0
        go_wp2
        go_loopw [12, 36] (fun y u wx => ∃ k F2, k ≤ wd ∧ u = .int .i64 (k : Nat) ∧ (∃ a2 c2, y = .slice a2 k c2 ∧ Own wx w2.heap.size a2 k c2 (scI ((q : Int) + i1) z C O (i == 0) G2 k).2 ∧ Disj (foot a2 c2) F2) ∧ Mk 79 wx (w.heap.size + 1) g q i1 (scI ((q : Int) + i1) z C O (i == 0) G2 k).1 F2 ∧ Stp [g] w2 F2 wx) (fun _ u _ => wd - (intOf u).toNat)
        case atStart => exact ⟨0, Fm1, Nat.zero_le _, rfl, ⟨_, _, rfl, Own.nil0 _ _ _, foot_nil _ _⟩, Mm1, Sm1⟩
        case round =>
          obtain ⟨k, F2, hkw, rfl, ⟨a2, c2, rfl, own2, dd2⟩, M2, S2⟩ := hrel
          clear om1 dm1 Mm1 Sm1
          by_cases hlt2 : k < wd
          · obtain ⟨hI1, hI2⟩ := scI_len ((q : Int) + i1) z C O (i == 0) G2 k
            have HI0 := scI_succ ((q : Int) + i1) z C O (i == 0) G2 k
            obtain ⟨gx, ox, hgx, _⟩ := dr.ints.at k hlt2
            subst hgx
            have cx := (dr.stp S2).ints.cellsAt k hlt2
            generalize C.getD k 0 = x at *
            obtain ⟨⟨G3, N⟩, hr3⟩ : ∃ r, r = (scI ((q : Int) + i1) z C O (i == 0) G2 k) := ⟨_, rfl⟩
            rw [← hr3] at HI0 hI1 hI2 M2 own2
            clear hr3
            simp only at hI1 hI2 M2 own2
            unfold scS at HI0
            rw [HBI.out] at HI0
            simp only [if_true] at HI0
            have HS := Lib.hid HI0
            clear HI0
            go_wp2_with fail
            clear cx
            refine (sand_any _ _ (w.heap.size + 1) g q i1 _ F2 _ M2 (Nat.le_trans hb S2.size) h0 h1 (by (try simp only [gt_len]); omega)).mono ?_; rintro e wm31 ⟨rfl, Fm31, Mm31, sm31⟩
            have Sm31 := S2.trans sm31
            obtain ⟨om31, dm31⟩ := own2.stp dd2 sm31
            clear M2 S2 own2 dd2
            go_wp2_with (at_builtin; refine wpList_appJ _ rfl _ _ rfl w2.heap.size a2 k c2 N rfl (om31.alloc _) _ 1 1 [_] rfl (Ints.lit1 _ _ _) (by omega) (by have := Sm31.size; simp; omega) ?_)
            intro am32 cm32 wm32 om32 _ gm32 mm32
            have Om32 := Only.of_grown gm32
            have Mm32 := Mk.only (Mk.alloc Mm31 _) Om32 dm31
            have Sm32 := Stp.onto (Stp.alloc Sm31 _) Om32 (fun k hk => (om31.feet k hk).1)
            have dm32 : Disj (foot am32 cm32) Fm31 := mm32.disj dm31 (fun k hk => by have := (Mm31.feet k hk).2; simp; omega)
            clear Mm31 Sm31 om31 dm31 Om32 gm32 mm32
            go_wp2
            go_roundw
            case rel => exact ⟨k + 1, Fm31, by omega, by go_num, ⟨_, _, rfl, by rw [HBI.out, HS.out]; exact om32, dm32⟩, by rw [HBI.out, HS.out]; exact Mm32, Sm32⟩
            case measure => simp [intOf]; omega
          · obtain rfl : k = wd := by omega
            have HSS := Lib.hid HS0
            clear HS0
            go_wp2
            go_roundw
            case rel => exact ⟨i + 1, F2, by omega, by go_num, ⟨_, _, _, rfl, by rw [HSS.out]; exact own2, dd2⟩, by rw [HSS.out]; exact M2, S2⟩
            case measure => simp [intOf]; omega
      · have hbi : (0 : Int) < ((i : Nat) : Int) := by omega
        have hOl : O.length = wd := hG2 (by omega)
        have hmw : m = wd := by rw [om1.len]; exact hOl
        subst hmw
        have HBI : Hid ((i == 0) = false) := Lib.hid (by simp [hi0])
        clear hi0
        go_wp2
        go_loopw [12, 36] (fun y u wx => ∃ k F2, k ≤ m ∧ u = .int .i64 (k : Nat) ∧ (∃ a2 c2, y = .slice a2 k c2 ∧ Own wx w2.heap.size a2 k c2 (scI ((q : Int) + i1) z C O (i == 0) G2 k).2 ∧ Disj (foot a2 c2) F2 ∧ Own wx w2.heap.size a1 m c1 O ∧ Disj (foot a1 c1) F2 ∧ Disj (foot a2 c2) (foot a1 c1)) ∧ Mk 79 wx (w.heap.size + 1) g q i1 (scI ((q : Int) + i1) z C O (i == 0) G2 k).1 F2 ∧ Stp [g] w2 F2 wx) (fun _ u _ => m - (intOf u).toNat)
        case atStart => exact ⟨0, Fm1, Nat.zero_le _, rfl, ⟨_, _, rfl, Own.nil0 _ _ _, foot_nil _ _, om1, dm1, foot_nil _ _⟩, Mm1, Sm1⟩
        case round =>
          obtain ⟨k, F2, hkw, rfl, ⟨a2, c2, rfl, own2, dd2, ow1, dw1, dap⟩, M2, S2⟩ := hrel
          clear om1 dm1 Mm1 Sm1
          by_cases hlt2 : k < m
          · obtain ⟨hI1, hI2⟩ := scI_len ((q : Int) + i1) z C O (i == 0) G2 k
            have HI0 := scI_succ ((q : Int) + i1) z C O (i == 0) G2 k
            obtain ⟨gx, ox, hgx, _⟩ := dr.ints.at k hlt2
            subst hgx
            have cx := (dr.stp S2).ints.cellsAt k hlt2
            obtain ⟨yo, hyo⟩ : ∃ yo, yo = O.getD k 0 := ⟨_, rfl⟩
            rw [← hyo] at HI0
            have HYO := Lib.hid hyo
            clear hyo
            generalize C.getD k 0 = x at *
            obtain ⟨⟨G3, N⟩, hr3⟩ : ∃ r, r = (scI ((q : Int) + i1) z C O (i == 0) G2 k) := ⟨_, rfl⟩
            rw [← hr3] at HI0 hI1 hI2 M2 own2
            clear hr3
            simp only at hI1 hI2 M2 own2
            unfold scS at HI0
            rw [HBI.out] at HI0
            simp only [Bool.false_eq_true, if_false] at HI0
            have HS := Lib.hid HI0
            clear HI0
            go_wp2_with fail
            clear cx
            refine (sand_any _ _ (w.heap.size + 1) g q i1 _ F2 _ M2 (Nat.le_trans hb S2.size) h0 h1 (by (try simp only [gt_len]); omega)).mono ?_; rintro e wm31 ⟨rfl, Fm31, Mm31, sm31⟩
            have Sm31 := S2.trans sm31
            obtain ⟨om31, dm31⟩ := own2.stp dd2 sm31
            clear M2 S2 own2 dd2
            obtain ⟨ow2, dw2⟩ := ow1.stp dw1 sm31
            clear ow1 dw1
            obtain ⟨gy, oy, hgy, cy⟩ := ow2.ints.at k hlt2
            subst hgy
            rw [← HYO.out] at cy
            go_wp2_with fail
            clear cy sm31
            refine (sxor_any _ _ (w.heap.size + 1) g q i1 _ Fm31 _ Mm31 (Nat.le_trans hb Sm31.size) h0 h1 (by (try simp only [gt_len]); omega)).mono ?_; rintro e wm32 ⟨rfl, Fm32, Mm32, sm32⟩
            have Sm32 := Sm31.trans sm32
            obtain ⟨om32, dm32⟩ := om31.stp dm31 sm32
            clear Mm31 Sm31 om31 dm31
            obtain ⟨ow3, dw3⟩ := ow2.stp dw2 sm32
            clear ow2 dw2
            go_wp2_with (at_builtin; refine wpList_appJ _ rfl _ _ rfl w2.heap.size a2 k c2 N rfl (om32.alloc _) _ 1 1 [_] rfl (Ints.lit1 _ _ _) (by omega) (by have := Sm32.size; simp; omega) ?_)
            intro am cm wm om _ gm mm
            have Om := Only.of_grown gm
            have Mm := Mk.only (Mk.alloc Mm32 _) Om dm32
            have Sm := Stp.onto (Stp.alloc Sm32 _) Om (fun k hk => (om32.feet k hk).1)
            have dm : Disj (foot am cm) Fm32 := mm.disj dm32 (fun k hk => by have := (Mm32.feet k hk).2; simp; omega)
            have ow4 := Own.only (ow3.alloc _) Om dap.symm
            have dap4 : Disj (foot am cm) (foot (some ⟨gy, oy, none⟩) c1) := mm.disj dap (fun k hk => by have := (ow3.feet k hk).2; simp; omega)
            clear Mm32 Sm32 om32 dm32 Om gm mm ow3 dap
            go_wp2
            go_roundw
            case rel => exact ⟨k + 1, Fm32, by omega, by go_num, ⟨_, _, rfl, by rw [HBI.out, HS.out]; exact om, dm, ow4, dw3, dap4⟩, by rw [HBI.out, HS.out]; exact Mm, Sm⟩
            case measure => simp [intOf]; omega
          · obtain rfl : k = m := by omega
            have HSS := Lib.hid HS0
            clear HS0
            go_wp2
            go_roundw
            case rel => exact ⟨i + 1, F2, by omega, by go_num, ⟨_, _, _, rfl, by rw [HSS.out]; exact own2, dd2⟩, by rw [HSS.out]; exact M2, S2⟩
            case measure => simp [intOf]; omega
    · obtain rfl : i = n := by omega
      rw [HSI.out, HD0.out] at M1 own
      obtain ⟨ga, gn, gc, hB, ho, hg, hbg, hF⟩ := M1
      have R6 := R2.only S1.only (by simp; omega)
      have V6 := V2.trans (S1.out (B := w.heap.size) V2.size (by simp; omega))
      have Z6 := S1.size
      have hdd : Disj (foot ga gc) (foot a1 c1) := fun k hk hk' => dd k hk' (by rw [hF]; exact List.mem_cons_of_mem _ hk)
      have x3 := hB.cell 3
      have y3 := hB.frozen 3
      have O7 : Only [g] wr (wr.setCell ⟨g, 3, none⟩ (.slice a1 m c1)) := (Only.refl _ _).setCell _ _ (by simp)
      have B7 : Blk (wr.setCell ⟨g, 3, none⟩ (.slice a1 m c1)) g 79 #[.int .i64 (q : Int), .int .i64 i1, .slice ga gn gc, .slice a1 m c1] := hB.set_ 3 _
      have R7 := R6.only O7 (by simp; omega)
      have ho7 := OwnF.only ho O7 (fun k hk hk' => hg (by simp at hk'; subst hk'; exact hk))
      have oo7 := own.only O7 (fun k hk hk' => dd k hk (by rw [hF]; simp at hk'; subst hk'; simp))
      have V7 := V6.trans (O7.below V6.size (by simp; omega))
      have z0 : (wr.setCell ⟨g, 3, none⟩ (.slice a1 m c1)).cell? ⟨g, 0, none⟩ = some (.int .i64 (q : Int)) := B7.cell 0
      have z1 : (wr.setCell ⟨g, 3, none⟩ (.slice a1 m c1)).cell? ⟨g, 1, none⟩ = some (.int .i64 i1) := B7.cell 1
      have z2 : (wr.setCell ⟨g, 3, none⟩ (.slice a1 m c1)).cell? ⟨g, 2, none⟩ = some (.slice ga gn gc) := B7.cell 2
      have z3 : (wr.setCell ⟨g, 3, none⟩ (.slice a1 m c1)).cell? ⟨g, 3, none⟩ = some (.slice a1 m c1) := B7.cell 3
      have r0 : (wr.setCell ⟨g, 3, none⟩ (.slice a1 m c1)).cell? ⟨w.heap.size, 0, none⟩ = some (.int .i64 0) := R7.cell 0
      have q0 : (wr.setCell ⟨g, 3, none⟩ (.slice a1 m c1)).frozen? ⟨w.heap.size, 0, none⟩ = false := R7.frozen 0
      have r1 : (wr.setCell ⟨g, 3, none⟩ (.slice a1 m c1)).cell? ⟨w.heap.size, 1, none⟩ = some (.int .i64 0) := R7.cell 1
      have q1 : (wr.setCell ⟨g, 3, none⟩ (.slice a1 m c1)).frozen? ⟨w.heap.size, 1, none⟩ = false := R7.frozen 1
      have r2 : (wr.setCell ⟨g, 3, none⟩ (.slice a1 m c1)).cell? ⟨w.heap.size, 2, none⟩ = some (.slice none 0 0) := R7.cell 2
      have q2 : (wr.setCell ⟨g, 3, none⟩ (.slice a1 m c1)).frozen? ⟨w.heap.size, 2, none⟩ = false := R7.frozen 2
      have r3 : (wr.setCell ⟨g, 3, none⟩ (.slice a1 m c1)).cell? ⟨w.heap.size, 3, none⟩ = some (.slice none 0 0) := R7.cell 3
      have q3 : (wr.setCell ⟨g, 3, none⟩ (.slice a1 m c1)).frozen? ⟨w.heap.size, 3, none⟩ = false := R7.frozen 3
      have Q1 := Lib.hid ho7.feet
      have Q2 := Lib.hid oo7.feet
      have GG := (((((Only.refl [w.heap.size] (wr.setCell ⟨g, 3, none⟩ (.slice a1 m c1))).setCell ⟨w.heap.size, 0, none⟩ (.int .i64 (q : Int)) (by simp)).setCell ⟨w.heap.size, 1, none⟩ (.int .i64 i1) (by simp)).setCell ⟨w.heap.size, 2, none⟩ (.slice ga gn gc) (by simp)).setCell ⟨w.heap.size, 3, none⟩ (.slice a1 m c1) (by simp))
      have HG := Lib.hid GG
      clear GG
      go_wp2
      have GG := HG.out
      exact bodyPost_ret (v := .agg #[.int .i64 (q : Int), .int .i64 i1, .slice ga gn gc, .slice a1 m c1]) (by simp [results, Try.results95, go_sem, r0, r1, r2, r3]) rfl ⟨_, _, _, _, _, _, rfl, (ho7.only GG (fun k hk hk' => by have := Q1.out k hk; simp at hk'; omega)).lower (by omega), ((oo7.only GG (fun k hk hk' => by have := Q2.out k hk; simp at hk'; omega)).lower (by omega)).rd, hdd, V7.trans (GG.below V7.size (by simp))⟩
end Go.Proofs.Ytkbhigdciokfkaa
