/- The reference's tree. -/
import Derived.Test.YtkbhigdciokfkaaMeA
namespace Go.Proofs.Ytkbhigdciokfkaa
open Go.RowKit
set_option maxHeartbeats 8000000 in
set_option maxRecDepth 100000 in
theorem meTree_any (n wd v : Nat) (w : World) (hn : 1 ≤ n ∧ n ≤ 8) (hw : 1 ≤ wd ∧ wd ≤ 4) (hv : wid (n : Int) = v) :
    Calls Try.prog 96 #[.int .i64 n, .int .i64 wd] w fun e w' => ∃ ga gn gc oa on oc, e = .returned (.agg #[.int .i64 ((n * wd : Nat) : Int), .int .i64 ((v : Int) + ((0 : Nat) : Int)), .slice ga gn gc, .slice oa on oc]) ∧ OwnF 3 eGate w' w.heap.size ga gn gc (meG 1 n wd).1 ∧ Rd w' w.heap.size oa on oc (meG 1 n wd).2 ∧ Disj (foot ga gc) (foot oa oc) ∧ Below w.heap.size w w' := by
  have hv3 : v ≤ 3 := by rw [← hv]; exact wid8 n hn.2
  have hqb : n * wd ≤ 8 * 4 := Nat.mul_le_mul hn.2 hw.2
  have HE : Hid (meG 1 n wd = ((trG (meB n wd v 0) (spL ((n * wd : Nat) : Int) v) (ceL wd n) [] v).1, (trG (meB n wd v 0) (spL ((n * wd : Nat) : Int) v) (ceL wd n) [] v).2.getD 0 [])) := Lib.hid (by unfold meG; rw [if_neg (by decide), if_pos rfl, hv]; rfl)
  have HB : Hid (meB n wd v 0 = ((n * wd : Nat) : Int) + ((v : Int) + ((0 : Nat) : Int))) := Lib.hid (by unfold meB; simp)
  rw [HE.out, HB.out]
  clear HE HB
  have hst := meStart_any n wd 0 v (w.alloc (.cells #[.int .i64 0, .int .i64 0, .slice none 0 0, .slice none 0 0] 25)) hn hw (by omega) hv
  have HST := Lib.hid hst
  clear hst hv
  have hqe : ((n : Int) * (wd : Int)) = ((n * wd : Nat) : Int) := (Int.natCast_mul _ _).symm
  obtain ⟨q, hq⟩ : ∃ q, q = n * wd := ⟨_, rfl⟩
  rw [← hq] at HST hqe hqb ⊢
  have t1 : IntKind.i64.wrap ((n : Int) * (wd : Int)) = (q : Int) := by rw [hqe]; exact IntWalk.i64_in _ (by omega)
  clear hqe hq
  have V1 : Below w.heap.size w (w.alloc (.cells #[.int .i64 0, .int .i64 0, .slice none 0 0, .slice none 0 0] 25)) := (Below.refl _ _).alloc (Nat.le_refl _) _
  have R1 : Blk (w.alloc (.cells #[.int .i64 0, .int .i64 0, .slice none 0 0, .slice none 0 0] 25)) w.heap.size 25 #[.int .i64 0, .int .i64 0, .slice none 0 0, .slice none 0 0] := Blk.new w _ _
  have Z1 : (w.alloc (.cells #[.int .i64 0, .int .i64 0, .slice none 0 0, .slice none 0 0] 25)).heap.size = w.heap.size + 1 := by simp
  obtain ⟨i1, hi1⟩ : ∃ i1, i1 = (v : Int) + ((0 : Nat) : Int) := ⟨_, rfl⟩
  rw [← hi1] at HST ⊢
  have h1 : 0 ≤ i1 ∧ i1 ≤ 1000 := by omega
  clear hi1
  have h0 : (0 : Int) ≤ (q : Int) ∧ (q : Int) ≤ 1000 := by omega
  go_enter Try.func96, Try.ntmps96
  go_wp2_with fail
  refine HST.out.mono ?_; rintro e w2 ⟨g, ca, cc, rs, ia, ic, rfl, h, dc, hd, hhi, dx, u2⟩
  have V2 := V1.trans (u2.mono V1.size)
  have R2 := R1.below u2
  have hgr : w.heap.size < g := by have := (h.feet g (by simp)).1; omega
  rw [Z1] at h hhi
  have hb : w.heap.size + 1 ≤ w2.heap.size := by have := u2.size; omega
  clear V1 R1 u2 Z1 HST
  have HI : Hid ((spL (q : Int) v).length = v) := spL_len _ _
  have HAL : Hid (AllL wd (datas' rs)) := Lib.hid (by rw [hd]; exact ceL_all wd n)
  have HR := Lib.hid dc.len
  have hle := dc.le
  have hle2 := dx.ints.le
  have HH := Lib.hid hhi
  have HD0 := Lib.hid hd
  clear hhi hd
  obtain ⟨I, hI⟩ : ∃ I, I = spL (q : Int) v := ⟨_, rfl⟩
  rw [← hI] at dx HI
  have HSI := Lib.hid hI
  clear hI
  go_wp2
  go_loopw [6, 21] (fun y u wr => ∃ k F1, k ≤ v ∧ u = .int .i64 (k : Nat) ∧ (∃ a1 m c1 rs1, y = .slice a1 m c1 ∧ RwD wr a1 m c1 rs1 F1 ∧ datas' rs1 = (trG ((q : Int) + i1) I (datas' rs) [] k).2 ∧ (∀ r ∈ rs1, ∀ k ∈ foot r.1 r.2.1, w.heap.size + 1 ≤ k)) ∧ Mk 79 wr (w.heap.size + 1) g q i1 (trG ((q : Int) + i1) I (datas' rs) [] k).1 F1 ∧ Stp [g] w2 F1 wr) (fun _ u _ => v - (intOf u).toNat)
  case atStart => exact ⟨0, [g], Nat.zero_le _, rfl, ⟨_, _, _, rs, rfl, dc, rfl, HH.out⟩, h, Stp.refl _ _⟩
  case round =>
    obtain ⟨k, F1, hk, rfl, ⟨a1, m, c1, rs1, rfl, dc1, hd1, hh1⟩, M1, S1⟩ := hrel
    obtain ⟨hG, hG2, hG3⟩ := trG_len (B := (q : Int) + i1) (idx := I) (G := []) HAL.out (by rw [datas_len, HR.out]; omega) (by rw [datas_len, HR.out]; omega) k
    rw [List.length_nil] at hG
    have hm := dc1.len
    have hml : (datas' rs1).length = m := by rw [datas_len]; exact hm
    rw [← hd1, hml] at hG2
    rw [← hd1] at hG3
    have hGb : 36 * wd * k ≤ 36 * 20 * 8 := Nat.mul_le_mul (Nat.mul_le_mul_left _ (by omega)) (by omega)
    have HH1 := Lib.hid hh1
    clear hh1
    by_cases hlt : k < v
    · obtain ⟨wo, rfl⟩ : ∃ wo, wo = wr := ⟨_, rfl⟩
      have HS0 := trG_succ ((q : Int) + i1) I (datas' rs) [] k
      rw [← hd1, hml] at HS0
      obtain ⟨gx, ox, hgx, _⟩ := dx.ints.at k hlt
      subst hgx
      have cx := (dx.stp S1).ints.cellsAt k hlt
      generalize I.getD k 0 = x at *
      generalize hg1 : (trG ((q : Int) + i1) I (datas' rs) [] k).1 = G1 at *
      have HS := Lib.hid HS0
      clear HS0 hg1 hd1
      have HA3 := Lib.hid hG3
      have HML := Lib.hid hml
      clear hG3 hml
      have hb1 : w.heap.size + 1 ≤ wo.heap.size := Nat.le_trans hb S1.size
      go_wp2
      clear cx
      go_loopw [10, 11] (fun y u wx => ∃ j F2, 2 * j ≤ m + 1 ∧ u = .int .i64 (2 * (j : Int)) ∧ (∃ a2 c2 rs2, y = .slice a2 j c2 ∧ RwO wx wo.heap.size a2 j c2 rs2 F2 ∧ datas' rs2 = (trJ ((q : Int) + i1) x (datas' rs1) G1 j).2 ∧ (∀ r ∈ rs2, ∀ k ∈ foot r.1 r.2.1, w.heap.size + 1 ≤ k)) ∧ Mk 79 wx (w.heap.size + 1) g q i1 (trJ ((q : Int) + i1) x (datas' rs1) G1 j).1 F2 ∧ Stp F1 wo F2 wx) (fun _ u _ => m - (intOf u).toNat)
      case atStart => exact ⟨0, F1, by omega, rfl, ⟨_, _, [], rfl, RwO.nil _ _ _ _, rfl, fun r hr => by cases hr⟩, M1, Stp.refl _ _⟩
      case round =>
        obtain ⟨j, F2, hj, rfl, ⟨a2, c2, rs2, rfl, ro, hd2, hh2⟩, M2, S2⟩ := hrel
        clear M1
        have HH2 := Lib.hid hh2
        clear hh2
        obtain ⟨hJ, hJ2, hJ3⟩ := trJ_len (B := (q : Int) + i1) (b := x) (G := G1) HA3.out j (by rw [HML.out]; exact hj)
        have hJb : 9 * wd * j ≤ 9 * 20 * 5 := Nat.mul_le_mul (Nat.mul_le_mul_left _ (by omega)) (by omega)
        by_cases hlt2 : 2 * j < m
        · have HJ0 := trJ_succ ((q : Int) + i1) x (datas' rs1) G1 j
          unfold trS at HJ0
          rw [HML.out] at HJ0
          rw [← hd2] at HJ0
          have hlt3 : 2 * (j : Int) < (m : Int) := by omega
          have hz0 : (0 : Int) ≤ 2 * (j : Int) := by omega
          have hz1 : (0 : Int) ≤ 2 * (j : Int) + 1 := by omega
          have hzw : IntKind.i64.wrap (2 * (j : Int) + 1) = 2 * (j : Int) + 1 := IntWalk.i64_in _ (by omega)
          have htn : (2 * (j : Int)).toNat = 2 * j := by omega
          have htn2 : (2 * (j : Int) + 1).toNat = 2 * j + 1 := by omega
          obtain ⟨gr, o_r, hgr, _, _⟩ := dc1.at (2 * j) hlt2
          subst hgr
          have cj := (dc1.stp S2).cellsAt (2 * j) hlt2
          have dj := dc1.innAt (2 * j) hlt2
          have hhj := HH1.out _ (rowAt_mem (rs := rs1) (j := 2 * j) (by rw [← datas_len, HML.out]; exact hlt2))
          rw [datas_getD _ (2 * j) (by rw [← datas_len, HML.out]; exact hlt2)] at HJ0
          generalize hg2 : (trJ ((q : Int) + i1) x (datas' rs1) G1 j).1 = G2 at *
          clear hg2
          by_cases he : 2 * j + 1 = m
          · rw [if_pos he] at HJ0
            have HJ := Lib.hid HJ0
            clear HJ0
            have he2 : ¬ (2 * (j : Int) + 1 < (m : Int)) := by omega
            generalize rowAt rs1 (2 * j) = r at *
            have HE := Lib.hid he
            have HHJ := Lib.hid hhj
            clear he hhj
            go_wp2_with (at_builtin; refine wpList_appR _ rfl _ _ rfl wo.heap.size _ j _ _ rfl (RwO.alloc ro _).out _ 1 r rfl (RowC.litR _ _ _ rfl _) (by omega) (by have := S2.size; simp; omega) ?_)
            intro aa1 ca1 wa1 oo1 _ ga1 ma1
            have Oa1 := Only.of_grown ga1
            have Ma1 := Mk.only (Mk.alloc M2 _) Oa1 ro.dis
            have Sa1 := Stp.onto (Stp.alloc S2 _) Oa1 (fun k hk => (ro.out.feet k hk).1)
            have Ra1 := RwO.push (RwO.alloc ro _) (fun k hk => by have := (M2.feet k hk).2; simp; omega) ((dj.stp S2).below ((Below.refl _ _).alloc (Nat.le_refl _) _)) (dj.away ro.out) oo1 ga1 ma1
            clear ro M2 S2 Oa1 oo1 ga1 ma1
            clear cj
            go_wp2
            go_roundw
            case rel => exact ⟨j + 1, F2, by have := HE.out; omega, by go_num, ⟨_, _, _, rfl, Ra1, by rw [datas_push, HJ.out], fun s hs k hk => by
              rcases List.mem_append.1 hs with hs | hs
              · exact HH2.out s hs k hk
              · rw [List.mem_singleton] at hs; subst hs; exact HHJ.out k hk⟩, by rw [HJ.out]; exact Ma1, Sa1⟩
            case measure => simp [intOf]; omega
          · clear hhj
            rw [if_neg he] at HJ0
            have hlt4 : 2 * j + 1 < m := by omega
            have hlt5 : 2 * (j : Int) + 1 < (m : Int) := by omega
            have ck := (dc1.stp S2).cellsAt (2 * j + 1) hlt4
            have dk := dc1.innAt (2 * j + 1) hlt4
            rw [datas_getD _ (2 * j + 1) (by rw [← datas_len, HML.out]; exact hlt4)] at HJ0
            have lj := HA3.out.at (2 * j) (by rw [HML.out]; exact hlt2)
            have lk := HA3.out.at (2 * j + 1) (by rw [HML.out]; exact hlt4)
            rw [datas_getD _ _ (by rw [← datas_len, HML.out]; omega)] at lj lk
            have HDC := fun (W : World) (F' : List Nat) (s : Stp F1 wo F' W) => And.intro ((dc1.stp s).cellsAt (2 * j + 1) hlt4) ((dc1.stp s).cellsAt (2 * j) hlt2)
            obtain ⟨rj, hrj⟩ : ∃ r, r = rowAt rs1 (2 * j) := ⟨_, rfl⟩
            obtain ⟨rk, hrk⟩ : ∃ r, r = rowAt rs1 (2 * j + 1) := ⟨_, rfl⟩
            rw [← hrj] at cj dj lj HJ0
            rw [← hrk] at ck dk lk HJ0
            simp only [← hrj, ← hrk] at HDC
            clear hrj hrk
            obtain ⟨ja, jc, JL⟩ := rj
            obtain ⟨ka, kc, KL⟩ := rk
            simp only at cj dj lj ck dk lk HJ0 HDC
            have HDC2 := Lib.hid HDC
            clear HDC
            have lc := (chG_len ((q : Int) + i1) x KL JL G2 KL.length).2
            obtain ⟨⟨G3, L⟩, hr3⟩ : ∃ r, r = chG ((q : Int) + i1) x KL JL G2 KL.length := ⟨_, rfl⟩
            have HCH := Lib.hid hr3
            rw [← hr3] at HJ0 lc
            clear hr3
            simp only at HJ0 lc
            have HJ := Lib.hid HJ0
            clear HJ0
            have HE := Lib.hid he
            clear he
            rw [lj] at cj dj
            rw [lk] at ck dk lc
            go_wp2
            go_region_held3 (fun W => W.cell? ⟨gr, o_r + (2 * j + 1), none⟩ = some (.slice ka wd kc) ∧ W.cell? ⟨gr, o_r + 2 * j, none⟩ = some (.slice ja wd jc))
              (first | go_keep | exact (by have hh := HDC2.out _ _ (Stp.onto (Stp.alloc (S2.drew.trans s3) _) (Only.of_grown ga) (fun k hk => ((ro.drew.stp s3).out.feet k hk).1)); rw [lj, lk] at hh; exact hh) | exact (by have hh := HDC2.out _ _ (S2.drew.trans s3); rw [lj, lk] at hh; exact hh))
              (first | (go_at_call 87; refine (gdPick_any x _ wd _ _ _ wd _ _ (w.heap.size + 1) g q i1 G2 F2 _ M2.drew (Nat.le_trans hb1 S2.size) h0 h1 ((dk.stp S2).below ((Below.refl _ _).drew)) ((dj.stp S2).below ((Below.refl _ _).drew)) (Nat.le_refl _) (by omega) (by omega)).mono ?_; rintro e w3 ⟨a3, c3, F3, rfl, o3, d3, M3, s3⟩) | (refine step_appR _ (by rfl) _ _ (by rfl) wo.heap.size _ j _ _ (by rfl) (RwO.alloc (ro.drew.stp s3) _).out _ 1 (a3, c3, L) (by rfl) (RowC.litR _ _ _ (rowV_of lc) _) (by omega) (by have := (S2.drew.trans s3).size; simp; omega) ?_; intro aa ca' wa oo _ ga ma))
            all_goals have ro3 := ro.drew.stp s3
            all_goals have Oa := Only.of_grown ga
            all_goals have Ma := Mk.only (Mk.alloc M3 _) Oa ro3.dis
            all_goals have Sa := (Stp.onto (Stp.alloc (S2.drew.trans s3) _) (Only.of_grown ga) (fun k hk => ((ro.drew.stp s3).out.feet k hk).1))
            all_goals have hLe : L = (chG ((q : Int) + i1) x KL JL G2 wd).2 := by have := HCH.out; rw [lk] at this; rw [← this]
            all_goals have hGe : G3 = (chG ((q : Int) + i1) x KL JL G2 wd).1 := by have := HCH.out; rw [lk] at this; rw [← this]
            all_goals rw [← hLe] at o3
            all_goals rw [← hGe] at Ma
            all_goals have hh3 := Lib.hid (fun k (hk : k ∈ foot a3 c3) => (o3.feet k hk).1)
            all_goals have hrI := (o3.intD d3)
            all_goals have hrA := o3.away ro.drew.out (Nat.le_refl _)
            all_goals rw [← lc] at hrI hrA
            all_goals have hrB : ∀ y, 0 < L.length → a3 = some y → y.block ∉ foot a2 c2 := hrA
            all_goals have Ra := RwO.push (r := (a3, c3, L)) (RwO.alloc ro3 _) (fun k hk => by have := (M3.feet k hk).2; simp; omega) (hrI.below ((Below.refl _ _).alloc (Nat.le_refl _) _)) hrB oo ga ma
            all_goals have hb2 := Nat.le_trans hb1 S2.size
            all_goals have hdz : ∀ (W : World), W.drew.heap.size = W.heap.size := fun _ => rfl
            all_goals clear cj ck ro M2 S2 s3 o3 d3 M3 ro3 Oa oo ga ma hrI hrA hrB hLe hGe hdz
            go_wp2
            go_roundw
            case rel => exact ⟨j + 1, _, by omega, by go_num, ⟨_, _, _, rfl, Ra, by rw [datas_push, HJ.out], fun s hs k hk => by
              rcases List.mem_append.1 hs with hs | hs
              · exact HH2.out s hs k hk
              · rw [List.mem_singleton] at hs; subst hs; exact Nat.le_trans hb2 (hh3.out k hk)⟩, by rw [HJ.out]; exact Ma, Sa⟩
            case measure => simp [intOf]; omega
        · have HJE := Lib.hid (show j = (m + 1) / 2 by omega)
          have hge : ¬ 2 * (j : Int) < (m : Int) := by omega
          have HD2 := Lib.hid hd2
          clear hd2
          have rd := ro.rwD
          have ST := S1.trans S2
          clear ro S2 S1 dc1
          go_wp2
          go_roundw
          case rel => exact ⟨k + 1, F2, by omega, by go_num, ⟨_, _, _, _, rfl, rd, by rw [HS.out, ← HJE.out]; exact HD2.out, HH2.out⟩, by rw [HS.out, ← HJE.out]; exact M2, ST⟩
          case measure => simp [intOf]; omega
    · obtain rfl : k = v := by omega
      have hge : ¬ (k : Int) < (k : Int) := by omega
      obtain ⟨gr, o_r, hgr, c0, _⟩ := dc1.at 0 (by omega)
      subst hgr
      have d0 := dc1.innAt 0 (by omega)
      have HD0' := Lib.hid (datas_getD rs1 0 (by omega))
      rw [hd1] at HD0'
      have hh0 := HH1.out _ (rowAt_mem (rs := rs1) (j := 0) (by omega))
      have l0 := hG3.at 0 (by rw [hml]; omega)
      rw [datas_getD _ _ (by omega)] at l0
      rw [Nat.add_zero] at c0
      generalize rowAt rs1 0 = r at *
      obtain ⟨ra, rc, RL⟩ := r
      simp only at c0 d0 HD0' l0 hh0
      rw [l0] at c0 d0
      have hm0 : 0 < (m : Int) := by omega
      have out : Rd wr (w.heap.size + 1) ra wd rc RL := ⟨d0.1, fun k hk => ⟨hh0 k hk, by
        obtain ⟨x, hx, hc, rfl⟩ := mem_foot hk
        exact (d0.1.range x (by omega) hx).2⟩⟩
      have dd : Disj (foot ra rc) F1 := fun k hk hf => by
        obtain ⟨x, hx, hc, rfl⟩ := mem_foot hk
        exact d0.2 x (by omega) hx hf
      rw [HSI.out, HD0.out] at M1 HD0'
      have HRL := Lib.hid HD0'.out
      rw [← HRL.out] at out
      clear d0 hh0 l0 HD0'
      obtain ⟨ga, gn, gc, hB, ho, hg, hbg, hF⟩ := M1
      have R6 := R2.only S1.only (by simp; omega)
      have V6 := V2.trans (S1.out (B := w.heap.size) V2.size (by simp; omega))
      have Z6 := S1.size
      have hdd : Disj (foot ga gc) (foot ra rc) := fun k hk hk' => dd k hk' (by rw [hF]; exact List.mem_cons_of_mem _ hk)
      have x3 := hB.cell 3
      have y3 := hB.frozen 3
      have O7 : Only [g] wr (wr.setCell ⟨g, 3, none⟩ (.slice ra wd rc)) := (Only.refl _ _).setCell _ _ (by simp)
      have B7 : Blk (wr.setCell ⟨g, 3, none⟩ (.slice ra wd rc)) g 79 #[.int .i64 (q : Int), .int .i64 i1, .slice ga gn gc, .slice ra wd rc] := hB.set_ 3 _
      have R7 := R6.only O7 (by simp; omega)
      have ho7 := OwnF.only ho O7 (fun k hk hk' => hg (by simp at hk'; subst hk'; exact hk))
      have oo7 := out.only O7 (fun k hk hk' => dd k hk (by rw [hF]; simp at hk'; subst hk'; simp))
      have V7 := V6.trans (O7.below V6.size (by simp; omega))
      have z0 : (wr.setCell ⟨g, 3, none⟩ (.slice ra wd rc)).cell? ⟨g, 0, none⟩ = some (.int .i64 (q : Int)) := B7.cell 0
      have z1 : (wr.setCell ⟨g, 3, none⟩ (.slice ra wd rc)).cell? ⟨g, 1, none⟩ = some (.int .i64 i1) := B7.cell 1
      have z2 : (wr.setCell ⟨g, 3, none⟩ (.slice ra wd rc)).cell? ⟨g, 2, none⟩ = some (.slice ga gn gc) := B7.cell 2
      have z3 : (wr.setCell ⟨g, 3, none⟩ (.slice ra wd rc)).cell? ⟨g, 3, none⟩ = some (.slice ra wd rc) := B7.cell 3
      have r0 : (wr.setCell ⟨g, 3, none⟩ (.slice ra wd rc)).cell? ⟨w.heap.size, 0, none⟩ = some (.int .i64 0) := R7.cell 0
      have q0 : (wr.setCell ⟨g, 3, none⟩ (.slice ra wd rc)).frozen? ⟨w.heap.size, 0, none⟩ = false := R7.frozen 0
      have r1 : (wr.setCell ⟨g, 3, none⟩ (.slice ra wd rc)).cell? ⟨w.heap.size, 1, none⟩ = some (.int .i64 0) := R7.cell 1
      have q1 : (wr.setCell ⟨g, 3, none⟩ (.slice ra wd rc)).frozen? ⟨w.heap.size, 1, none⟩ = false := R7.frozen 1
      have r2 : (wr.setCell ⟨g, 3, none⟩ (.slice ra wd rc)).cell? ⟨w.heap.size, 2, none⟩ = some (.slice none 0 0) := R7.cell 2
      have q2 : (wr.setCell ⟨g, 3, none⟩ (.slice ra wd rc)).frozen? ⟨w.heap.size, 2, none⟩ = false := R7.frozen 2
      have r3 : (wr.setCell ⟨g, 3, none⟩ (.slice ra wd rc)).cell? ⟨w.heap.size, 3, none⟩ = some (.slice none 0 0) := R7.cell 3
      have q3 : (wr.setCell ⟨g, 3, none⟩ (.slice ra wd rc)).frozen? ⟨w.heap.size, 3, none⟩ = false := R7.frozen 3
      have Q1 := Lib.hid ho7.feet
      have Q2 := Lib.hid oo7.feet
      have GG := (((((Only.refl [w.heap.size] (wr.setCell ⟨g, 3, none⟩ (.slice ra wd rc))).setCell ⟨w.heap.size, 0, none⟩ (.int .i64 (q : Int)) (by simp)).setCell ⟨w.heap.size, 1, none⟩ (.int .i64 i1) (by simp)).setCell ⟨w.heap.size, 2, none⟩ (.slice ga gn gc) (by simp)).setCell ⟨w.heap.size, 3, none⟩ (.slice ra wd rc) (by simp))
      have HG := Lib.hid GG
      clear GG
      go_wp2
      have GG := HG.out
      exact bodyPost_ret (v := .agg #[.int .i64 (q : Int), .int .i64 i1, .slice ga gn gc, .slice ra wd rc]) (by simp [results, Try.results96, go_sem, r0, r1, r2, r3]) rfl ⟨_, _, _, _, _, _, rfl, (ho7.only GG (fun k hk hk' => by have := Q1.out k hk; simp at hk'; omega)).lower (by omega), ((oo7.only GG (fun k hk hk' => by have := Q2.out k hk; simp at hk'; omega)).lower (by omega)), hdd, V7.trans (GG.below V7.size (by simp))⟩
end Go.Proofs.Ytkbhigdciokfkaa
