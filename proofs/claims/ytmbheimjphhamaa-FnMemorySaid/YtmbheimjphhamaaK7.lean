/- Lemmas and walks that the claim's proof rests on, part 7. -/
import Derived.Deep.DeepCutAuto
import Derived.Deep.RegionLaw
import Derived.Test.YtmbheimjphhamaaK6
namespace Go.Proofs.Ytmbheimjphhamaa
open Go.RowKit
set_option maxHeartbeats 8000000 in
set_option maxRecDepth 100000 in
theorem meTree_any (n wd v : Nat) (w : World) (hn : 1 ≤ n ∧ n ≤ 8) (hw : 1 ≤ wd ∧ wd ≤ 4) (hv : wid (n : Int) = v) :
    Calls Try.prog 73 #[.int .i64 n, .int .i64 wd] w fun e w' => ∃ ga gn gc oa on oc, e = .returned (.agg #[.int .i64 ((n * wd : Nat) : Int), .int .i64 ((v : Int) + ((0 : Nat) : Int)), .slice ga gn gc, .slice oa on oc]) ∧ OwnF 3 eGate w' w.heap.size ga gn gc (meG 1 n wd).1 ∧ Rd w' w.heap.size oa on oc (meG 1 n wd).2 ∧ Disj (foot ga gc) (foot oa oc) ∧ Below w.heap.size w w' := by
  have hv3 : v ≤ 3 := by rw [← hv]; exact wid8 n hn.2
  have hqb : n * wd ≤ 8 * 4 := Nat.mul_le_mul hn.2 hw.2
  have HE : Hid (meG 1 n wd = ((trG (meB n wd v 0) (spL ((n * wd : Nat) : Int) v) (ceL wd n) [] v).1, (trG (meB n wd v 0) (spL ((n * wd : Nat) : Int) v) (ceL wd n) [] v).2.getD 0 [])) := Lib.hid (by unfold meG; rw [if_neg (by decide), if_pos rfl, hv]; rfl)
  have HB : Hid (meB n wd v 0 = ((n * wd : Nat) : Int) + ((v : Int) + ((0 : Nat) : Int))) := Lib.hid (by unfold meB; simp)
  rw [HE.out, HB.out]
  clear HE HB
  have hst := meStart_any n wd 0 v (w.alloc (.cells #[.int .i64 0, .int .i64 0, .slice none 0 0, .slice none 0 0] 28)) hn hw (by omega) hv
  have HST := Lib.hid hst
  clear hst hv
  have hqe : ((n : Int) * (wd : Int)) = ((n * wd : Nat) : Int) := (Int.natCast_mul _ _).symm
  obtain ⟨q, hq⟩ : ∃ q, q = n * wd := ⟨_, rfl⟩
  rw [← hq] at HST hqe hqb ⊢
  have t1 : IntKind.i64.wrap ((n : Int) * (wd : Int)) = (q : Int) := by rw [hqe]; exact IntWalk.i64_in _ (by omega)
  clear hqe hq
  have V1 : Below w.heap.size w (w.alloc (.cells #[.int .i64 0, .int .i64 0, .slice none 0 0, .slice none 0 0] 28)) := (Below.refl _ _).alloc (Nat.le_refl _) _
  have R1 : Blk (w.alloc (.cells #[.int .i64 0, .int .i64 0, .slice none 0 0, .slice none 0 0] 28)) w.heap.size 28 #[.int .i64 0, .int .i64 0, .slice none 0 0, .slice none 0 0] := Blk.new w _ _
  have Z1 : (w.alloc (.cells #[.int .i64 0, .int .i64 0, .slice none 0 0, .slice none 0 0] 28)).heap.size = w.heap.size + 1 := by simp
  obtain ⟨i1, hi1⟩ : ∃ i1, i1 = (v : Int) + ((0 : Nat) : Int) := ⟨_, rfl⟩
  rw [← hi1] at HST ⊢
  have h1 : 0 ≤ i1 ∧ i1 ≤ 1000 := by omega
  clear hi1
  have h0 : (0 : Int) ≤ (q : Int) ∧ (q : Int) ≤ 1000 := by omega
  go_enter Try.func73, Try.ntmps73
  go_wp2_with fail
  refine HST.out.mono ?_; rintro e w2 ⟨g, ca, cc, rs, ia, ic, rfl, h, dc, hd, hhi, dx, u2⟩
  have V2 := V1.trans (u2.mono V1.size)
  have R2 := R1.below u2
  have hgr : w.heap.size < g := by have := (h.feet g (by simp)).1; omega
  rw [Z1] at h hhi
  have hb : w.heap.size + 1 ≤ w2.heap.size := by have := u2.size; omega
  clear V1 R1 u2 Z1 HST
  have HI : Hid ((spL (q : Int) v).length = v) := spL_len _ _
  have HAL : Hid (AllL wd (datas' rs)) := Lib.hid (by rw [hd]; exact ceL_all wd n)
  have HR := Lib.hid dc.len
  have hle := dc.le
  have hle2 := dx.ints.le
  have HH := Lib.hid hhi
  have HD0 := Lib.hid hd
  clear hhi hd
  obtain ⟨I, hI⟩ : ∃ I, I = spL (q : Int) v := ⟨_, rfl⟩
  rw [← hI] at dx HI
  have HSI := Lib.hid hI
  clear hI
  go_wp2
  go_loopw [6, 21] (fun y u wr => ∃ k F1, k ≤ v ∧ u = .int .i64 (k : Nat) ∧ (∃ a1 m c1 rs1, y = .slice a1 m c1 ∧ RwD wr a1 m c1 rs1 F1 ∧ datas' rs1 = (trG ((q : Int) + i1) I (datas' rs) [] k).2 ∧ (∀ r ∈ rs1, ∀ k ∈ foot r.1 r.2.1, w.heap.size + 1 ≤ k)) ∧ Mk 105 wr (w.heap.size + 1) g q i1 (trG ((q : Int) + i1) I (datas' rs) [] k).1 F1 ∧ Stp [g] w2 F1 wr) (fun _ u _ => v - (intOf u).toNat)
  case atStart => exact ⟨0, [g], Nat.zero_le _, rfl, ⟨_, _, _, rs, rfl, dc, rfl, HH.out⟩, h, Stp.refl _ _⟩
  case round =>
    obtain ⟨k, F1, hk, rfl, ⟨a1, m, c1, rs1, rfl, dc1, hd1, hh1⟩, M1, S1⟩ := hrel
    obtain ⟨hG, hG2, hG3⟩ := trG_len (B := (q : Int) + i1) (idx := I) (G := []) HAL.out (by rw [datas_len, HR.out]; omega) (by rw [datas_len, HR.out]; omega) k
    rw [List.length_nil] at hG
    have hm := dc1.len
    have hml : (datas' rs1).length = m := by rw [datas_len]; exact hm
    rw [← hd1, hml] at hG2
    rw [← hd1] at hG3
    have hGb : 36 * wd * k ≤ 36 * 20 * 8 := Nat.mul_le_mul (Nat.mul_le_mul_left _ (by omega)) (by omega)
    have HH1 := Lib.hid hh1
    clear hh1
    by_cases hlt : k < v
    · obtain ⟨wo, rfl⟩ : ∃ wo, wo = wr := ⟨_, rfl⟩
      have HS0 := trG_succ ((q : Int) + i1) I (datas' rs) [] k
      rw [← hd1, hml] at HS0
      obtain ⟨gx, ox, hgx, _⟩ := dx.ints.at k hlt
      subst hgx
      have cx := (dx.stp S1).ints.cellsAt k hlt
      generalize I.getD k 0 = x at *
      generalize hg1 : (trG ((q : Int) + i1) I (datas' rs) [] k).1 = G1 at *
      have HS := Lib.hid HS0
      clear HS0 hg1 hd1
      have HA3 := Lib.hid hG3
      have HML := Lib.hid hml
      clear hG3 hml
      have hb1 : w.heap.size + 1 ≤ wo.heap.size := Nat.le_trans hb S1.size
      go_wp2
      clear cx
      go_loopw [10, 11] (fun y u wx => ∃ j F2, 2 * j ≤ m + 1 ∧ u = .int .i64 (2 * (j : Int)) ∧ (∃ a2 c2 rs2, y = .slice a2 j c2 ∧ RwO wx wo.heap.size a2 j c2 rs2 F2 ∧ datas' rs2 = (trJ ((q : Int) + i1) x (datas' rs1) G1 j).2 ∧ (∀ r ∈ rs2, ∀ k ∈ foot r.1 r.2.1, w.heap.size + 1 ≤ k)) ∧ Mk 105 wx (w.heap.size + 1) g q i1 (trJ ((q : Int) + i1) x (datas' rs1) G1 j).1 F2 ∧ Stp F1 wo F2 wx) (fun _ u _ => m - (intOf u).toNat)
      case atStart => exact ⟨0, F1, by omega, rfl, ⟨_, _, [], rfl, RwO.nil _ _ _ _, rfl, fun r hr => by cases hr⟩, M1, Stp.refl _ _⟩
      case round =>
        obtain ⟨j, F2, hj, rfl, ⟨a2, c2, rs2, rfl, ro, hd2, hh2⟩, M2, S2⟩ := hrel
        clear M1
        have HH2 := Lib.hid hh2
        clear hh2
        obtain ⟨hJ, hJ2, hJ3⟩ := trJ_len (B := (q : Int) + i1) (b := x) (G := G1) HA3.out j (by rw [HML.out]; exact hj)
        have hJb : 9 * wd * j ≤ 9 * 20 * 5 := Nat.mul_le_mul (Nat.mul_le_mul_left _ (by omega)) (by omega)
        by_cases hlt2 : 2 * j < m
        · have HJ0 := trJ_succ ((q : Int) + i1) x (datas' rs1) G1 j
          unfold trS at HJ0
          rw [HML.out] at HJ0
          rw [← hd2] at HJ0
          have hlt3 : 2 * (j : Int) < (m : Int) := by omega
          have hz0 : (0 : Int) ≤ 2 * (j : Int) := by omega
          have hz1 : (0 : Int) ≤ 2 * (j : Int) + 1 := by omega
          have hzw : IntKind.i64.wrap (2 * (j : Int) + 1) = 2 * (j : Int) + 1 := IntWalk.i64_in _ (by omega)
          have htn : (2 * (j : Int)).toNat = 2 * j := by omega
          have htn2 : (2 * (j : Int) + 1).toNat = 2 * j + 1 := by omega
          obtain ⟨gr, o_r, hgr, _, _⟩ := dc1.at (2 * j) hlt2
          subst hgr
          have cj := (dc1.stp S2).cellsAt (2 * j) hlt2
          have dj := dc1.innAt (2 * j) hlt2
          have hhj := HH1.out _ (rowAt_mem (rs := rs1) (j := 2 * j) (by rw [← datas_len, HML.out]; exact hlt2))
          rw [datas_getD _ (2 * j) (by rw [← datas_len, HML.out]; exact hlt2)] at HJ0
          generalize hg2 : (trJ ((q : Int) + i1) x (datas' rs1) G1 j).1 = G2 at *
          clear hg2
          by_cases he : 2 * j + 1 = m
          · rw [if_pos he] at HJ0
            have HJ := Lib.hid HJ0
            clear HJ0
            have he2 : ¬ (2 * (j : Int) + 1 < (m : Int)) := by omega
            generalize rowAt rs1 (2 * j) = r at *
            have HE := Lib.hid he
            have HHJ := Lib.hid hhj
            clear he hhj
            go_wp2_with (at_builtin; refine wpList_appR _ rfl _ _ rfl wo.heap.size _ j _ _ rfl (RwO.alloc ro _).out _ 1 r rfl (RowC.litR _ _ _ rfl _) (by omega) (by have := S2.size; simp; omega) ?_)
            intro aa1 ca1 wa1 oo1 _ ga1 ma1
            have Oa1 := Only.of_grown ga1
            have Ma1 := Mk.only (Mk.alloc M2 _) Oa1 ro.dis
            have Sa1 := Stp.onto (Stp.alloc S2 _) Oa1 (fun k hk => (ro.out.feet k hk).1)
            have Ra1 := RwO.push (RwO.alloc ro _) (fun k hk => by have := (M2.feet k hk).2; simp; omega) ((dj.stp S2).below ((Below.refl _ _).alloc (Nat.le_refl _) _)) (dj.away ro.out) oo1 ga1 ma1
            clear ro M2 S2 Oa1 oo1 ga1 ma1
            clear cj
            go_wp2
            go_roundw
            case rel => exact ⟨j + 1, F2, by have := HE.out; omega, by go_num, ⟨_, _, _, rfl, Ra1, by rw [datas_push, HJ.out], fun s hs k hk => by
              rcases List.mem_append.1 hs with hs | hs
              · exact HH2.out s hs k hk
              · rw [List.mem_singleton] at hs; subst hs; exact HHJ.out k hk⟩, by rw [HJ.out]; exact Ma1, Sa1⟩
            case measure => simp [intOf]; omega
          · clear hhj
            rw [if_neg he] at HJ0
            have hlt4 : 2 * j + 1 < m := by omega
            have hlt5 : 2 * (j : Int) + 1 < (m : Int) := by omega
            have ck := (dc1.stp S2).cellsAt (2 * j + 1) hlt4
            have dk := dc1.innAt (2 * j + 1) hlt4
            rw [datas_getD _ (2 * j + 1) (by rw [← datas_len, HML.out]; exact hlt4)] at HJ0
            have lj := HA3.out.at (2 * j) (by rw [HML.out]; exact hlt2)
            have lk := HA3.out.at (2 * j + 1) (by rw [HML.out]; exact hlt4)
            rw [datas_getD _ _ (by rw [← datas_len, HML.out]; omega)] at lj lk
            have HDC := fun (W : World) (F' : List Nat) (s : Stp F1 wo F' W) => And.intro ((dc1.stp s).cellsAt (2 * j + 1) hlt4) ((dc1.stp s).cellsAt (2 * j) hlt2)
            obtain ⟨rj, hrj⟩ : ∃ r, r = rowAt rs1 (2 * j) := ⟨_, rfl⟩
            obtain ⟨rk, hrk⟩ : ∃ r, r = rowAt rs1 (2 * j + 1) := ⟨_, rfl⟩
            rw [← hrj] at cj dj lj HJ0
            rw [← hrk] at ck dk lk HJ0
            simp only [← hrj, ← hrk] at HDC
            clear hrj hrk
            obtain ⟨ja, jc, JL⟩ := rj
            obtain ⟨ka, kc, KL⟩ := rk
            simp only at cj dj lj ck dk lk HJ0 HDC
            have HDC2 := Lib.hid HDC
            clear HDC
            have lc := (chG_len ((q : Int) + i1) x KL JL G2 KL.length).2
            obtain ⟨⟨G3, L⟩, hr3⟩ : ∃ r, r = chG ((q : Int) + i1) x KL JL G2 KL.length := ⟨_, rfl⟩
            have HCH := Lib.hid hr3
            rw [← hr3] at HJ0 lc
            clear hr3
            simp only at HJ0 lc
            have HJ := Lib.hid HJ0
            clear HJ0
            have HE := Lib.hid he
            clear he
            rw [lj] at cj dj
            rw [lk] at ck dk lc
            go_wp2
            go_region_held3 (fun W => W.cell? ⟨gr, o_r + (2 * j + 1), none⟩ = some (.slice ka wd kc) ∧ W.cell? ⟨gr, o_r + 2 * j, none⟩ = some (.slice ja wd jc))
              (first | go_keep | exact (by have hh := HDC2.out _ _ (Stp.onto (Stp.alloc (S2.drew.trans s3) _) (Only.of_grown ga) (fun k hk => ((ro.drew.stp s3).out.feet k hk).1)); rw [lj, lk] at hh; exact hh) | exact (by have hh := HDC2.out _ _ (S2.drew.trans s3); rw [lj, lk] at hh; exact hh))
              (first | (go_at_call 103; refine (gdPick_any x _ wd _ _ _ wd _ _ (w.heap.size + 1) g q i1 G2 F2 _ M2.drew (Nat.le_trans hb1 S2.size) h0 h1 ((dk.stp S2).below ((Below.refl _ _).drew)) ((dj.stp S2).below ((Below.refl _ _).drew)) (Nat.le_refl _) (by omega) (by omega)).mono ?_; rintro e w3 ⟨a3, c3, F3, rfl, o3, d3, M3, s3⟩) | (refine step_appR _ (by rfl) _ _ (by rfl) wo.heap.size _ j _ _ (by rfl) (RwO.alloc (ro.drew.stp s3) _).out _ 1 (a3, c3, L) (by rfl) (RowC.litR _ _ _ (rowV_of lc) _) (by omega) (by have := (S2.drew.trans s3).size; simp; omega) ?_; intro aa ca' wa oo _ ga ma))
            all_goals have ro3 := ro.drew.stp s3
            all_goals have Oa := Only.of_grown ga
            all_goals have Ma := Mk.only (Mk.alloc M3 _) Oa ro3.dis
            all_goals have Sa := (Stp.onto (Stp.alloc (S2.drew.trans s3) _) (Only.of_grown ga) (fun k hk => ((ro.drew.stp s3).out.feet k hk).1))
            all_goals have hLe : L = (chG ((q : Int) + i1) x KL JL G2 wd).2 := by have := HCH.out; rw [lk] at this; rw [← this]
            all_goals have hGe : G3 = (chG ((q : Int) + i1) x KL JL G2 wd).1 := by have := HCH.out; rw [lk] at this; rw [← this]
            all_goals rw [← hLe] at o3
            all_goals rw [← hGe] at Ma
            all_goals have hh3 := Lib.hid (fun k (hk : k ∈ foot a3 c3) => (o3.feet k hk).1)
            all_goals have hrI := (o3.intD d3)
            all_goals have hrA := o3.away ro.drew.out (Nat.le_refl _)
            all_goals rw [← lc] at hrI hrA
            all_goals have hrB : ∀ y, 0 < L.length → a3 = some y → y.block ∉ foot a2 c2 := hrA
            all_goals have Ra := RwO.push (r := (a3, c3, L)) (RwO.alloc ro3 _) (fun k hk => by have := (M3.feet k hk).2; simp; omega) (hrI.below ((Below.refl _ _).alloc (Nat.le_refl _) _)) hrB oo ga ma
            all_goals have hb2 := Nat.le_trans hb1 S2.size
            all_goals have hdz : ∀ (W : World), W.drew.heap.size = W.heap.size := fun _ => rfl
            all_goals clear cj ck ro M2 S2 s3 o3 d3 M3 ro3 Oa oo ga ma hrI hrA hrB hLe hGe hdz
            go_wp2
            go_roundw
            case rel => exact ⟨j + 1, _, by omega, by go_num, ⟨_, _, _, rfl, Ra, by rw [datas_push, HJ.out], fun s hs k hk => by
              rcases List.mem_append.1 hs with hs | hs
              · exact HH2.out s hs k hk
              · rw [List.mem_singleton] at hs; subst hs; exact Nat.le_trans hb2 (hh3.out k hk)⟩, by rw [HJ.out]; exact Ma, Sa⟩
            case measure => simp [intOf]; omega
        · have HJE := Lib.hid (show j = (m + 1) / 2 by omega)
          have hge : ¬ 2 * (j : Int) < (m : Int) := by omega
          have HD2 := Lib.hid hd2
          clear hd2
          have rd := ro.rwD
          have ST := S1.trans S2
          clear ro S2 S1 dc1
          go_wp2
          go_roundw
          case rel => exact ⟨k + 1, F2, by omega, by go_num, ⟨_, _, _, _, rfl, rd, by rw [HS.out, ← HJE.out]; exact HD2.out, HH2.out⟩, by rw [HS.out, ← HJE.out]; exact M2, ST⟩
          case measure => simp [intOf]; omega
    · obtain rfl : k = v := by omega
      have hge : ¬ (k : Int) < (k : Int) := by omega
      obtain ⟨gr, o_r, hgr, c0, _⟩ := dc1.at 0 (by omega)
      subst hgr
      have d0 := dc1.innAt 0 (by omega)
      have HD0' := Lib.hid (datas_getD rs1 0 (by omega))
      rw [hd1] at HD0'
      have hh0 := HH1.out _ (rowAt_mem (rs := rs1) (j := 0) (by omega))
      have l0 := hG3.at 0 (by rw [hml]; omega)
      rw [datas_getD _ _ (by omega)] at l0
      rw [Nat.add_zero] at c0
      generalize rowAt rs1 0 = r at *
      obtain ⟨ra, rc, RL⟩ := r
      simp only at c0 d0 HD0' l0 hh0
      rw [l0] at c0 d0
      have hm0 : 0 < (m : Int) := by omega
      have out : Rd wr (w.heap.size + 1) ra wd rc RL := ⟨d0.1, fun k hk => ⟨hh0 k hk, by
        obtain ⟨x, hx, hc, rfl⟩ := mem_foot hk
        exact (d0.1.range x (by omega) hx).2⟩⟩
      have dd : Disj (foot ra rc) F1 := fun k hk hf => by
        obtain ⟨x, hx, hc, rfl⟩ := mem_foot hk
        exact d0.2 x (by omega) hx hf
      rw [HSI.out, HD0.out] at M1 HD0'
      have HRL := Lib.hid HD0'.out
      rw [← HRL.out] at out
      clear d0 hh0 l0 HD0'
      obtain ⟨ga, gn, gc, hB, ho, hg, hbg, hF⟩ := M1
      have R6 := R2.only S1.only (by simp; omega)
      have V6 := V2.trans (S1.out (B := w.heap.size) V2.size (by simp; omega))
      have Z6 := S1.size
      have hdd : Disj (foot ga gc) (foot ra rc) := fun k hk hk' => dd k hk' (by rw [hF]; exact List.mem_cons_of_mem _ hk)
      have x3 := hB.cell 3
      have y3 := hB.frozen 3
      have O7 : Only [g] wr (wr.setCell ⟨g, 3, none⟩ (.slice ra wd rc)) := (Only.refl _ _).setCell _ _ (by simp)
      have B7 : Blk (wr.setCell ⟨g, 3, none⟩ (.slice ra wd rc)) g 105 #[.int .i64 (q : Int), .int .i64 i1, .slice ga gn gc, .slice ra wd rc] := hB.set_ 3 _
      have R7 := R6.only O7 (by simp; omega)
      have ho7 := OwnF.only ho O7 (fun k hk hk' => hg (by simp at hk'; subst hk'; exact hk))
      have oo7 := out.only O7 (fun k hk hk' => dd k hk (by rw [hF]; simp at hk'; subst hk'; simp))
      have V7 := V6.trans (O7.below V6.size (by simp; omega))
      have z0 : (wr.setCell ⟨g, 3, none⟩ (.slice ra wd rc)).cell? ⟨g, 0, none⟩ = some (.int .i64 (q : Int)) := B7.cell 0
      have z1 : (wr.setCell ⟨g, 3, none⟩ (.slice ra wd rc)).cell? ⟨g, 1, none⟩ = some (.int .i64 i1) := B7.cell 1
      have z2 : (wr.setCell ⟨g, 3, none⟩ (.slice ra wd rc)).cell? ⟨g, 2, none⟩ = some (.slice ga gn gc) := B7.cell 2
      have z3 : (wr.setCell ⟨g, 3, none⟩ (.slice ra wd rc)).cell? ⟨g, 3, none⟩ = some (.slice ra wd rc) := B7.cell 3
      have r0 : (wr.setCell ⟨g, 3, none⟩ (.slice ra wd rc)).cell? ⟨w.heap.size, 0, none⟩ = some (.int .i64 0) := R7.cell 0
      have q0 : (wr.setCell ⟨g, 3, none⟩ (.slice ra wd rc)).frozen? ⟨w.heap.size, 0, none⟩ = false := R7.frozen 0
      have r1 : (wr.setCell ⟨g, 3, none⟩ (.slice ra wd rc)).cell? ⟨w.heap.size, 1, none⟩ = some (.int .i64 0) := R7.cell 1
      have q1 : (wr.setCell ⟨g, 3, none⟩ (.slice ra wd rc)).frozen? ⟨w.heap.size, 1, none⟩ = false := R7.frozen 1
      have r2 : (wr.setCell ⟨g, 3, none⟩ (.slice ra wd rc)).cell? ⟨w.heap.size, 2, none⟩ = some (.slice none 0 0) := R7.cell 2
      have q2 : (wr.setCell ⟨g, 3, none⟩ (.slice ra wd rc)).frozen? ⟨w.heap.size, 2, none⟩ = false := R7.frozen 2
      have r3 : (wr.setCell ⟨g, 3, none⟩ (.slice ra wd rc)).cell? ⟨w.heap.size, 3, none⟩ = some (.slice none 0 0) := R7.cell 3
      have q3 : (wr.setCell ⟨g, 3, none⟩ (.slice ra wd rc)).frozen? ⟨w.heap.size, 3, none⟩ = false := R7.frozen 3
      have Q1 := Lib.hid ho7.feet
      have Q2 := Lib.hid oo7.feet
      have GG := (((((Only.refl [w.heap.size] (wr.setCell ⟨g, 3, none⟩ (.slice ra wd rc))).setCell ⟨w.heap.size, 0, none⟩ (.int .i64 (q : Int)) (by simp)).setCell ⟨w.heap.size, 1, none⟩ (.int .i64 i1) (by simp)).setCell ⟨w.heap.size, 2, none⟩ (.slice ga gn gc) (by simp)).setCell ⟨w.heap.size, 3, none⟩ (.slice ra wd rc) (by simp))
      have HG := Lib.hid GG
      clear GG
      go_wp2
      have GG := HG.out
      exact bodyPost_ret (v := .agg #[.int .i64 (q : Int), .int .i64 i1, .slice ga gn gc, .slice ra wd rc]) (by simp [results, Try.results73, go_sem, r0, r1, r2, r3]) rfl ⟨_, _, _, _, _, _, rfl, (ho7.only GG (fun k hk hk' => by have := Q1.out k hk; simp at hk'; omega)).lower (by omega), ((oo7.only GG (fun k hk hk' => by have := Q2.out k hk; simp at hk'; omega)).lower (by omega)), hdd, V7.trans (GG.below V7.size (by simp))⟩
end Go.Proofs.Ytmbheimjphhamaa
namespace Go.Proofs.Ytmbheimjphhamaa
open Go.RowKit
set_option maxHeartbeats 8000000 in
set_option maxRecDepth 100000 in
theorem meWrite_any (n wd v : Nat) (w : World) (hn : 1 ≤ n ∧ n ≤ 8) (hw : 1 ≤ wd ∧ wd ≤ 4) (hv : wid (n : Int) = v) :
    Calls Try.prog 74 #[.int .i64 n, .int .i64 wd] w fun e w' => ∃ ga gn gc oa on oc, e = .returned (.agg #[.int .i64 ((n * wd : Nat) : Int), .int .i64 ((v : Int) + ((wd : Nat) : Int)), .slice ga gn gc, .slice oa on oc]) ∧ OwnF 3 eGate w' w.heap.size ga gn gc (meG 2 n wd).1 ∧ Rd w' w.heap.size oa on oc (meG 2 n wd).2 ∧ Disj (foot ga gc) (foot oa oc) ∧ Below w.heap.size w w' := by
  have hv3 : v ≤ 3 := by rw [← hv]; exact wid8 n hn.2
  have hqb : n * wd ≤ 8 * 4 := Nat.mul_le_mul hn.2 hw.2
  have HE : Hid (meG 2 n wd = wrG (meB n wd v wd) (spL ((n * wd : Nat) : Int) v) (spL ((n * wd : Nat) + v : Int) wd) (ceL wd n) [] n) := Lib.hid (by unfold meG; rw [if_neg (by decide), if_neg (by decide), if_pos rfl, hv]; rfl)
  have HB : Hid (meB n wd v wd = ((n * wd : Nat) : Int) + ((v : Int) + ((wd : Nat) : Int))) := Lib.hid (by unfold meB; simp)
  rw [HE.out, HB.out]
  clear HE HB
  have hst := meStart_any n wd wd v (w.alloc (.cells #[.int .i64 0, .int .i64 0, .slice none 0 0, .slice none 0 0] 28)) hn hw (by omega) hv
  have HST := Lib.hid hst
  clear hst hv
  have hqe : ((n : Int) * (wd : Int)) = ((n * wd : Nat) : Int) := (Int.natCast_mul _ _).symm
  obtain ⟨q, hq⟩ : ∃ q, q = n * wd := ⟨_, rfl⟩
  rw [← hq] at HST hqe hqb ⊢
  have t1 : IntKind.i64.wrap ((n : Int) * (wd : Int)) = (q : Int) := by rw [hqe]; exact IntWalk.i64_in _ (by omega)
  clear hqe hq
  have V1 : Below w.heap.size w (w.alloc (.cells #[.int .i64 0, .int .i64 0, .slice none 0 0, .slice none 0 0] 28)) := (Below.refl _ _).alloc (Nat.le_refl _) _
  have R1 : Blk (w.alloc (.cells #[.int .i64 0, .int .i64 0, .slice none 0 0, .slice none 0 0] 28)) w.heap.size 28 #[.int .i64 0, .int .i64 0, .slice none 0 0, .slice none 0 0] := Blk.new w _ _
  have Z1 : (w.alloc (.cells #[.int .i64 0, .int .i64 0, .slice none 0 0, .slice none 0 0] 28)).heap.size = w.heap.size + 1 := by simp
  obtain ⟨i1, hi1⟩ : ∃ i1, i1 = (v : Int) + ((wd : Nat) : Int) := ⟨_, rfl⟩
  rw [← hi1] at HST ⊢
  have h1 : 0 ≤ i1 ∧ i1 ≤ 1000 := by omega
  clear hi1
  have h0 : (0 : Int) ≤ (q : Int) ∧ (q : Int) ≤ 1000 := by omega
  go_enter Try.func74, Try.ntmps74
  go_wp2_with fail
  refine HST.out.mono ?_; rintro e w2 ⟨g, ca, cc, rs, ia, ic, rfl, h, dc, hd, hhi, dx, u2⟩
  have V2 := V1.trans (u2.mono V1.size)
  have R2 := R1.below u2
  have hgr : w.heap.size < g := by have := (h.feet g (by simp)).1; omega
  rw [Z1] at h hhi
  have hb : w.heap.size + 1 ≤ w2.heap.size := by have := u2.size; omega
  clear V1 R1 u2 Z1 HST
  have HI : Hid ((spL (q : Int) v).length = v) := spL_len _ _
  have HAL : Hid (AllL wd (datas' rs)) := Lib.hid (by rw [hd]; exact ceL_all wd n)
  have HR := Lib.hid dc.len
  have hle := dc.le
  have hle2 := dx.ints.le
  have HH := Lib.hid hhi
  have HD0 := Lib.hid hd
  clear hhi hd
  obtain ⟨I, hI⟩ : ∃ I, I = spL (q : Int) v := ⟨_, rfl⟩
  rw [← hI] at dx HI
  have HSI := Lib.hid hI
  clear hI
  have hvI : IntKind.i64.wrap ((q : Int) + (v : Int)) = (q : Int) + (v : Int) := IntWalk.i64_in _ (by omega)
  go_wp2_with fail
  refine (gdRange_any ((q : Int) + v) wd _ (by omega) (by omega)).mono ?_; rintro e w5 ⟨va, vc, rfl, ov, u5⟩
  have M1 := h.below u5
  have dc1 := dc.below u5
  have dx1 := dx.below u5
  have dv := ov.intD (Disj.of_rng ov.feet h.feet (.inr (Nat.le_refl _)))
  have R5 := R2.below u5
  have V5 := V2.trans (u5.mono V2.size)
  have hb5 : w.heap.size + 1 ≤ w5.heap.size := Nat.le_trans hb u5.size
  clear ov u5 h hb dc dx R2 V2
  have hb := hb5
  have R2 := R5
  have V2 := V5
  clear hb5 R5 V5
  have hvl : (spL ((q : Int) + v) wd).length = wd := spL_len _ _
  obtain ⟨V, hV⟩ : ∃ V, V = spL ((q : Int) + v) wd := ⟨_, rfl⟩
  rw [← hV] at dv hvl
  have HV := Lib.hid hV
  clear hV
  have HVL := Lib.hid hvl
  clear hvl hvI
  go_wp2
  go_loopw [30] (fun u wr => ∃ i F1, i ≤ n ∧ u = .int .i64 (i : Nat) ∧ (∃ oa on oc, Own wr w5.heap.size oa on oc (wrG ((q : Int) + i1) I V (datas' rs) [] i).2 ∧ Disj (foot oa oc) F1 ∧ Mk 105 wr (w.heap.size + 1) g q i1 (wrG ((q : Int) + i1) I V (datas' rs) [] i).1 F1 oa on oc) ∧ Stp [g] w5 F1 wr) (fun u _ => n - (intOf u).toNat)
  case atStart => exact ⟨0, [g], Nat.zero_le _, rfl, ⟨_, _, _, Own.nil0 _ _ _, foot_nil _ _, M1⟩, Stp.refl _ _⟩
  case round =>
    obtain ⟨i, F1, hk, rfl, ⟨oa, on, oc, own, dd, M2⟩, S2⟩ := hrel
    clear M1
    by_cases hlt : i < n
    · have hil : i < (datas' rs).length := by rw [datas_len, HR.out]; exact hlt
      obtain ⟨hG, hG2⟩ := wrG_len ((q : Int) + i1) I V (datas' rs) [] i
      rw [HI.out, HVL.out, List.length_nil] at hG
      rw [HVL.out] at hG2
      have hGb : (6 * v + 3 + 9 * wd) * i ≤ 250 * 8 := Nat.mul_le_mul (by omega) (by omega)
      have hOb : wd * i ≤ 20 * 8 := Nat.mul_le_mul (by omega) (by omega)
      have hml : on ≤ 160 := by have := own.len; omega
      have HS0 := wrG_succ ((q : Int) + i1) I V (datas' rs) [] i
      rw [datas_getD _ _ (by rw [HR.out]; exact hlt)] at HS0
      have hcl := HAL.out.at i hil
      rw [datas_getD _ _ (by rw [HR.out]; exact hlt)] at hcl
      obtain ⟨gc, oc', hgc, _, dr⟩ := dc1.at i hlt
      subst hgc
      have ci := (dc1.stp S2).cellsAt i hlt
      generalize rowAt rs i = r at *
      obtain ⟨ra, rc, C⟩ := r
      simp only at HS0 hcl ci dr
      obtain ⟨⟨G1, O⟩, hr⟩ : ∃ r, r = (wrG ((q : Int) + i1) I V (datas' rs) [] i) := ⟨_, rfl⟩
      rw [← hr] at HS0 hG hG2 M2 own
      clear hr
      simp only at hG hG2 M2 own
      unfold wrS at HS0
      simp only at HS0
      have hm := maG_len ((q : Int) + i1) i I G1
      rw [HI.out] at hm
      rw [hcl] at ci dr
      rw [HVL.out] at HS0
      clear hcl
      have dxs := dx1.stp S2
      go_wp2_with fail
      clear ci
      refine (meMatch_any _ _ _ _ _ (w.heap.size + 1) g q i1 _ F1 _ M2 (Nat.le_trans hb S2.size) h0 h1 dxs (by omega) (by omega) (by omega)).mono ?_; rintro e w6 ⟨rfl, F2, M3, s3⟩
      obtain ⟨ow3, dw3⟩ := own.stp dd s3
      have S3 := S2.trans s3
      clear M2 S2 own dd dxs s3
      obtain ⟨⟨G2, z⟩, hz⟩ : ∃ r, r = maG ((q : Int) + i1) i I G1 := ⟨_, rfl⟩
      rw [← hz] at HS0 hm M3
      try rw [← hz]
      clear hz
      simp only at HS0 hm M3
      have hch := chG_len ((q : Int) + i1) z V C G2 wd
      obtain ⟨⟨G3, L⟩, hr3⟩ : ∃ r, r = chG ((q : Int) + i1) z V C G2 wd := ⟨_, rfl⟩
      have HCH := Lib.hid hr3
      rw [← hr3] at HS0 hch
      clear hr3
      simp only at HS0 hch
      have HS := Lib.hid HS0
      clear HS0
      have dvs := dv.stp S3
      have drs := dr.stp S3
      go_wp2
      have M3' := M3.drew
      obtain ⟨_, x3, y3, _⟩ := M3'.outs none 0 0
      go_region_law (first | (refine step_appJ _ (by rfl) _ _ (by rfl) w5.heap.size oa on oc O (by rfl) ow7 _ wd _ _ (by rfl) o7.ints (by omega) S7.size ?_; intro a8 c8 w8 o8 _ g8 _ m8; have O8 := Only.of_grown g8; have M8 := Mk.only M7 O8 dw7; obtain ⟨_, x8, y8, _⟩ := M8.outs none 0 0) | (go_simp; go_at_call 103; refine (gdPick_any z _ wd _ V _ wd _ C (w.heap.size + 1) g q i1 G2 F2 _ M3.drew (Nat.le_trans hb S3.size) h0 h1 (dvs.below ((Below.refl _ _).drew)) (drs.below ((Below.refl _ _).drew)) (Nat.le_refl _) (by omega) (by omega)).mono ?_; rintro e w7 ⟨a7, c7, F7, rfl, o7, d7, M7, s7⟩; obtain ⟨_, x7, y7, hgF⟩ := M7.outs none 0 0; obtain ⟨ow7, dw7⟩ := (ow3.below ((Below.refl _ _).drew)).stp dw3 s7; have S7 := S3.drew.trans s7))
      all_goals have S8 := Stp.onto S7 O8 (fun k hk => (ow7.feet k hk).1)
      all_goals have d8 : Disj (foot a8 c8) F7 := m8.disj dw7 (fun k hk => (M7.feet k hk).2)
      all_goals obtain ⟨M9, _, _, _⟩ := M8.outs a8 (on + wd) c8
      all_goals have O9 : Only F7 w8 (w8.setCell ⟨g, 3, none⟩ (.slice a8 (on + wd) c8)) := (Only.refl _ _).setCell _ _ hgF
      all_goals have o9 := Own.only o8 O9 d8
      all_goals have S9 : Stp [g] w5 F7 _ := S8.trans ⟨O9, fun k hk => .inl hk⟩
      all_goals rw [← HCH.out] at o9 M9
      all_goals clear x3 y3 x7 y7 x8 y8 M3 S3 ow3 dw3 M7 S7 ow7 dw7 M8 S8 O8 O9 o7 d7 g8 m8 o8 s7 M3' dvs drs
      all_goals
        go_wp2
        go_roundw
        case rel => exact ⟨i + 1, F7, by omega, by go_num, ⟨_, _, _, by rw [HS.out]; exact o9, d8, by rw [HS.out]; exact M9⟩, S9⟩
        case measure => simp [intOf]; omega
    · obtain rfl : i = n := by omega
      rw [HSI.out, HD0.out, HV.out] at M2 own
      have hge2 : ¬ (i : Int) < (i : Int) := by omega
      obtain ⟨ga, gn, gc, hB, ho, hg, hbg, hF⟩ := M2
      have R6 := R2.only S2.only (by simp; omega)
      have V6 := V2.trans (S2.out (B := w.heap.size) V2.size (by simp; omega))
      have Z6 := S2.size
      have hdd : Disj (foot ga gc) (foot oa oc) := fun k hk hk' => dd k hk' (by rw [hF]; exact List.mem_cons_of_mem _ hk)
      have R7 := R6
      have ho7 := ho
      have oo7 := own
      have V7 := V6
      have z0 : wr.cell? ⟨g, 0, none⟩ = some (.int .i64 (q : Int)) := hB.cell 0
      have z1 : wr.cell? ⟨g, 1, none⟩ = some (.int .i64 i1) := hB.cell 1
      have z2 : wr.cell? ⟨g, 2, none⟩ = some (.slice ga gn gc) := hB.cell 2
      have z3 : wr.cell? ⟨g, 3, none⟩ = some (.slice oa on oc) := hB.cell 3
      have r0 : wr.cell? ⟨w.heap.size, 0, none⟩ = some (.int .i64 0) := R7.cell 0
      have q0 : wr.frozen? ⟨w.heap.size, 0, none⟩ = false := R7.frozen 0
      have r1 : wr.cell? ⟨w.heap.size, 1, none⟩ = some (.int .i64 0) := R7.cell 1
      have q1 : wr.frozen? ⟨w.heap.size, 1, none⟩ = false := R7.frozen 1
      have r2 : wr.cell? ⟨w.heap.size, 2, none⟩ = some (.slice none 0 0) := R7.cell 2
      have q2 : wr.frozen? ⟨w.heap.size, 2, none⟩ = false := R7.frozen 2
      have r3 : wr.cell? ⟨w.heap.size, 3, none⟩ = some (.slice none 0 0) := R7.cell 3
      have q3 : wr.frozen? ⟨w.heap.size, 3, none⟩ = false := R7.frozen 3
      have Q1 := Lib.hid ho7.feet
      have Q2 := Lib.hid oo7.feet
      have GG := (((((Only.refl [w.heap.size] wr).setCell ⟨w.heap.size, 0, none⟩ (.int .i64 (q : Int)) (by simp)).setCell ⟨w.heap.size, 1, none⟩ (.int .i64 i1) (by simp)).setCell ⟨w.heap.size, 2, none⟩ (.slice ga gn gc) (by simp)).setCell ⟨w.heap.size, 3, none⟩ (.slice oa on oc) (by simp))
      have HG := Lib.hid GG
      clear GG
      go_wp2
      have GG := HG.out
      exact bodyPost_ret (v := .agg #[.int .i64 (q : Int), .int .i64 i1, .slice ga gn gc, .slice oa on oc]) (by simp [results, Try.results74, go_sem, r0, r1, r2, r3]) rfl ⟨_, _, _, _, _, _, rfl, (ho7.only GG (fun k hk hk' => by have := Q1.out k hk; simp at hk'; omega)).lower (by omega), ((oo7.only GG (fun k hk hk' => by have := Q2.out k hk; simp at hk'; omega)).lower (by omega)).rd, hdd, V7.trans (GG.below V7.size (by simp))⟩
end Go.Proofs.Ytmbheimjphhamaa
namespace Go.Proofs.Ytmbheimjphhamaa
open Go.RowKit
set_option maxHeartbeats 8000000 in
set_option maxRecDepth 100000 in
theorem meTurn_any (n wd v : Nat) (w : World) (hn : 1 ≤ n ∧ n ≤ 8) (hw : 1 ≤ wd ∧ wd ≤ 4) (hv : wid (n : Int) = v) :
    Calls Try.prog 75 #[.int .i64 n, .int .i64 wd] w fun e w' => ∃ ga gn gc oa on oc, e = .returned (.agg #[.int .i64 ((n * wd : Nat) : Int), .int .i64 ((v : Int) + ((0 : Nat) : Int)), .slice ga gn gc, .slice oa on oc]) ∧ OwnF 3 eGate w' w.heap.size ga gn gc (meG 3 n wd).1 ∧ Rd w' w.heap.size oa on oc (meG 3 n wd).2 ∧ Disj (foot ga gc) (foot oa oc) ∧ Below w.heap.size w w' := by
  have hv3 : v ≤ 3 := by rw [← hv]; exact wid8 n hn.2
  have hqb : n * wd ≤ 8 * 4 := Nat.mul_le_mul hn.2 hw.2
  have HE : Hid (meG 3 n wd = ((tuG (meB n wd v 0) (spL ((n * wd : Nat) : Int) v) (ceL wd n) [] v).1, (tuG (meB n wd v 0) (spL ((n * wd : Nat) : Int) v) (ceL wd n) [] v).2.flatten)) := Lib.hid (by unfold meG; rw [if_neg (by decide), if_neg (by decide), if_neg (by decide), hv]; rfl)
  have HB : Hid (meB n wd v 0 = ((n * wd : Nat) : Int) + ((v : Int) + ((0 : Nat) : Int))) := Lib.hid (by unfold meB; simp)
  rw [HE.out, HB.out]
  clear HE HB
  have hst := meStart_any n wd 0 v (w.alloc (.cells #[.int .i64 0, .int .i64 0, .slice none 0 0, .slice none 0 0] 28)) hn hw (by omega) hv
  have HST := Lib.hid hst
  clear hst hv
  have hqe : ((n : Int) * (wd : Int)) = ((n * wd : Nat) : Int) := (Int.natCast_mul _ _).symm
  obtain ⟨q, hq⟩ : ∃ q, q = n * wd := ⟨_, rfl⟩
  rw [← hq] at HST hqe hqb ⊢
  have t1 : IntKind.i64.wrap ((n : Int) * (wd : Int)) = (q : Int) := by rw [hqe]; exact IntWalk.i64_in _ (by omega)
  clear hqe hq
  have V1 : Below w.heap.size w (w.alloc (.cells #[.int .i64 0, .int .i64 0, .slice none 0 0, .slice none 0 0] 28)) := (Below.refl _ _).alloc (Nat.le_refl _) _
  have R1 : Blk (w.alloc (.cells #[.int .i64 0, .int .i64 0, .slice none 0 0, .slice none 0 0] 28)) w.heap.size 28 #[.int .i64 0, .int .i64 0, .slice none 0 0, .slice none 0 0] := Blk.new w _ _
  have Z1 : (w.alloc (.cells #[.int .i64 0, .int .i64 0, .slice none 0 0, .slice none 0 0] 28)).heap.size = w.heap.size + 1 := by simp
  obtain ⟨i1, hi1⟩ : ∃ i1, i1 = (v : Int) + ((0 : Nat) : Int) := ⟨_, rfl⟩
  rw [← hi1] at HST ⊢
  have h1 : 0 ≤ i1 ∧ i1 ≤ 1000 := by omega
  clear hi1
  have h0 : (0 : Int) ≤ (q : Int) ∧ (q : Int) ≤ 1000 := by omega
  go_enter Try.func75, Try.ntmps75
  go_wp2_with fail
  refine HST.out.mono ?_; rintro e w2 ⟨g, ca, cc, rs, ia, ic, rfl, h, dc, hd, hhi, dx, u2⟩
  have V2 := V1.trans (u2.mono V1.size)
  have R2 := R1.below u2
  have hgr : w.heap.size < g := by have := (h.feet g (by simp)).1; omega
  rw [Z1] at h hhi
  have hb : w.heap.size + 1 ≤ w2.heap.size := by have := u2.size; omega
  clear V1 R1 u2 Z1 HST
  have HI : Hid ((spL (q : Int) v).length = v) := spL_len _ _
  have HAL : Hid (AllL wd (datas' rs)) := Lib.hid (by rw [hd]; exact ceL_all wd n)
  have HR := Lib.hid dc.len
  have hle := dc.le
  have hle2 := dx.ints.le
  have HH := Lib.hid hhi
  have HD0 := Lib.hid hd
  clear hhi hd
  obtain ⟨I, hI⟩ : ∃ I, I = spL (q : Int) v := ⟨_, rfl⟩
  rw [← hI] at dx HI
  have HSI := Lib.hid hI
  clear hI
  go_wp2
  go_loopw [6, 23] (fun y u wr => ∃ k F1, k ≤ v ∧ u = .int .i64 (k : Nat) ∧ (∃ a1 c1 rs1, y = .slice a1 n c1 ∧ RwD wr a1 n c1 rs1 F1 ∧ datas' rs1 = (tuG ((q : Int) + i1) I (datas' rs) [] k).2 ∧ (∀ r ∈ rs1, ∀ k ∈ foot r.1 r.2.1, w.heap.size + 1 ≤ k)) ∧ Mk 105 wr (w.heap.size + 1) g q i1 (tuG ((q : Int) + i1) I (datas' rs) [] k).1 F1 ∧ Stp [g] w2 F1 wr) (fun _ u _ => v - (intOf u).toNat)
  case atStart => exact ⟨0, [g], Nat.zero_le _, rfl, ⟨_, _, rs, rfl, dc, rfl, HH.out⟩, h, Stp.refl _ _⟩
  case round =>
    obtain ⟨k, F1, hk, rfl, ⟨a1, c1, rs1, rfl, dc1, hd1, hh1⟩, M1, S1⟩ := hrel
    obtain ⟨hG, hG2, hG3⟩ := tuG_len (B := (q : Int) + i1) (idx := I) (G := []) HAL.out k
    rw [List.length_nil] at hG
    have hm := dc1.len
    have hml : (datas' rs1).length = n := by rw [datas_len]; exact hm
    rw [← hd1] at hG3
    have hGb : 9 * wd * (datas' rs).length * k ≤ 9 * 20 * 8 * 8 := by
      rw [datas_len, HR.out]; exact Nat.mul_le_mul (Nat.mul_le_mul (Nat.mul_le_mul_left _ (by omega)) hn.2) (by omega)
    have HH1 := Lib.hid hh1
    clear hh1
    by_cases hlt : k < v
    · obtain ⟨wo, rfl⟩ : ∃ wo, wo = wr := ⟨_, rfl⟩
      have HS0 := tuG_succ ((q : Int) + i1) I (datas' rs) [] k
      rw [← hd1, hml] at HS0
      obtain ⟨gx, ox, hgx, _⟩ := dx.ints.at k hlt
      subst hgx
      have cx := (dx.stp S1).ints.cellsAt k hlt
      generalize I.getD k 0 = x at *
      generalize hg1 : (tuG ((q : Int) + i1) I (datas' rs) [] k).1 = G1 at *
      have hP := pow8 k (by omega)
      obtain ⟨P, eP⟩ : ∃ P : Nat, P = 2 ^ k := ⟨_, rfl⟩
      rw [← eP] at HS0 hP
      have t1a : IntKind.i64.wrap (1 * 2 ^ k) = (P : Int) := by rw [Int.one_mul, show (2 : Int) ^ k = ((2 ^ k : Nat) : Int) by simp, ← eP]; exact IntWalk.i64_in _ (by omega)
      have t2 : IntKind.u64.wrap (k : Int) = (k : Int) := IntWalk.u64_in _ (by omega)
      have t1b : IntKind.i64.wrap (2 ^ k) = (P : Int) := by rw [← t1a, Int.one_mul]
      have t1d : IntKind.i64.wrap (P : Int) = (P : Int) := IntWalk.i64_in _ (by omega)
      have t1c : ((2 : Int) ^ k) = (P : Int) := by rw [eP]; simp
      have HS := Lib.hid HS0
      clear HS0 hg1 hd1 eP
      have HA3 := Lib.hid hG3
      have HML := Lib.hid hml
      clear hG3 hml
      have hb1 : w.heap.size + 1 ≤ wo.heap.size := Nat.le_trans hb S1.size
      go_wp2
      clear cx
      go_loopw [10, 30] (fun y u wx => ∃ j F2, j ≤ n ∧ u = .int .i64 (j : Nat) ∧ (∃ a2 c2 rs2, y = .slice a2 j c2 ∧ RwO wx wo.heap.size a2 j c2 rs2 F2 ∧ datas' rs2 = (tuJ ((q : Int) + i1) x P (datas' rs1) G1 j).2 ∧ (∀ r ∈ rs2, ∀ k ∈ foot r.1 r.2.1, w.heap.size + 1 ≤ k)) ∧ Mk 105 wx (w.heap.size + 1) g q i1 (tuJ ((q : Int) + i1) x P (datas' rs1) G1 j).1 F2 ∧ Stp F1 wo F2 wx) (fun _ u _ => n - (intOf u).toNat)
      case atStart => exact ⟨0, F1, by omega, rfl, ⟨_, _, [], rfl, RwO.nil _ _ _ _, rfl, fun r hr => by cases hr⟩, M1, Stp.refl _ _⟩
      case round =>
        obtain ⟨j, F2, hj, rfl, ⟨a2, c2, rs2, rfl, ro, hd2, hh2⟩, M2, S2⟩ := hrel
        clear M1
        have HH2 := Lib.hid hh2
        clear hh2
        obtain ⟨hJ, hJ2, hJ3⟩ := tuJ_len (B := (q : Int) + i1) (b := x) (s := P) (G := G1) HA3.out j (by rw [HML.out]; exact hj)
        have hJb : 9 * wd * j ≤ 9 * 20 * 8 := Nat.mul_le_mul (Nat.mul_le_mul_left _ (by omega)) (by omega)
        by_cases hlt2 : j < n
        · have HJ0 := tuJ_succ ((q : Int) + i1) x P (datas' rs1) G1 j
          unfold tuS at HJ0
          rw [HML.out, ← hd2] at HJ0
          have hqn : (j + P) % n < n := Nat.mod_lt _ (by omega)
          obtain ⟨Q, eQ⟩ : ∃ Q, Q = (j + P) % n := ⟨_, rfl⟩
          rw [← eQ] at HJ0 hqn
          have t3 : ((j : Int) + (P : Int)).tmod (n : Int) = (Q : Int) := by rw [Int.tmod_eq_emod_of_nonneg (by omega), eQ]; simp
          have t3b : ((j : Int) + (P : Int)) % (n : Int) = (Q : Int) := by rw [eQ]; simp
          have t4 : IntKind.i64.wrap ((j : Int) + (P : Int)) = (j : Int) + (P : Int) := IntWalk.i64_in _ (by omega)
          have t5 : IntKind.i64.wrap (Q : Int) = (Q : Int) := IntWalk.i64_in _ (by omega)
          have t6 : (((n : Nat) : Int) == 0) = false := by simp; omega
          have t7 : (((n : Nat) : Int) = 0) = False := by simp; omega
          have t8 : (n = 0) = False := by simp; omega
          have t9 : (n == 0) = false := by simp; omega
          clear eQ
          obtain ⟨gr, o_r, hgr, _, _⟩ := dc1.at j hlt2
          subst hgr
          have cj := (dc1.stp S2).cellsAt j hlt2
          have dj := dc1.innAt j hlt2
          have ck := (dc1.stp S2).cellsAt Q hqn
          have dk := dc1.innAt Q hqn
          rw [datas_getD _ j (by rw [← datas_len, HML.out]; exact hlt2), datas_getD _ Q (by rw [← datas_len, HML.out]; exact hqn)] at HJ0
          generalize hg2 : (tuJ ((q : Int) + i1) x P (datas' rs1) G1 j).1 = G2 at *
          clear hg2
          have lj := HA3.out.at j (by rw [HML.out]; exact hlt2)
          have lk := HA3.out.at Q (by rw [HML.out]; exact hqn)
          rw [datas_getD _ _ (by rw [← datas_len, HML.out]; omega)] at lj lk
          have HDC := fun (W : World) (F' : List Nat) (s : Stp F1 wo F' W) => And.intro ((dc1.stp s).cellsAt Q hqn) ((dc1.stp s).cellsAt j hlt2)
          obtain ⟨rj, hrj⟩ : ∃ r, r = rowAt rs1 j := ⟨_, rfl⟩
          obtain ⟨rk, hrk⟩ : ∃ r, r = rowAt rs1 Q := ⟨_, rfl⟩
          rw [← hrj] at cj dj lj HJ0
          rw [← hrk] at ck dk lk HJ0
          simp only [← hrj, ← hrk] at HDC
          clear hrj hrk
          have z0 : (0 : Int) ≤ (Q : Int) := by omega
          have z1 : (Q : Int) < (n : Int) := by omega
          have z2 : (0 : Int) ≤ (j : Int) := by omega
          have z3 : (j : Int) < (n : Int) := by omega
          obtain ⟨ja, jc, JL⟩ := rj
          obtain ⟨ka, kc, KL⟩ := rk
          simp only at cj dj lj ck dk lk HJ0 HDC
          have HDC2 := Lib.hid HDC
          clear HDC
          have lc := (chG_len ((q : Int) + i1) x KL JL G2 KL.length).2
          obtain ⟨⟨G3, L⟩, hr3⟩ : ∃ r, r = chG ((q : Int) + i1) x KL JL G2 KL.length := ⟨_, rfl⟩
          have HCH := Lib.hid hr3
          rw [← hr3] at HJ0 lc
          clear hr3
          simp only at HJ0 lc
          have HJ := Lib.hid HJ0
          clear HJ0
          rw [lj] at cj dj
          rw [lk] at ck dk lc
          go_wp2
          go_region_held3 (fun W => W.cell? ⟨gr, o_r + Q, none⟩ = some (.slice ka wd kc) ∧ W.cell? ⟨gr, o_r + j, none⟩ = some (.slice ja wd jc))
            (first | go_keep | exact (by have hh := HDC2.out _ _ (Stp.onto (Stp.alloc (S2.drew.trans s3) _) (Only.of_grown ga) (fun k hk => ((ro.drew.stp s3).out.feet k hk).1)); rw [lj, lk] at hh; exact hh) | exact (by have hh := HDC2.out _ _ (S2.drew.trans s3); rw [lj, lk] at hh; exact hh))
            (first | (go_at_call 103; refine (gdPick_any x _ wd _ _ _ wd _ _ (w.heap.size + 1) g q i1 G2 F2 _ M2.drew (Nat.le_trans hb1 S2.size) h0 h1 ((dk.stp S2).below ((Below.refl _ _).drew)) ((dj.stp S2).below ((Below.refl _ _).drew)) (Nat.le_refl _) (by omega) (by omega)).mono ?_; rintro e w3 ⟨a3, c3, F3, rfl, o3, d3, M3, s3⟩) | (refine step_appR _ (by rfl) _ _ (by rfl) wo.heap.size _ j _ _ (by rfl) (RwO.alloc (ro.drew.stp s3) _).out _ 1 (a3, c3, L) (by rfl) (RowC.litR _ _ _ (rowV_of lc) _) (by omega) (by have := (S2.drew.trans s3).size; simp; omega) ?_; intro aa ca' wa oo _ ga ma))
          all_goals have ro3 := ro.drew.stp s3
          all_goals have Oa := Only.of_grown ga
          all_goals have Ma := Mk.only (Mk.alloc M3 _) Oa ro3.dis
          all_goals have Sa := (Stp.onto (Stp.alloc (S2.drew.trans s3) _) (Only.of_grown ga) (fun k hk => ((ro.drew.stp s3).out.feet k hk).1))
          all_goals have hLe : L = (chG ((q : Int) + i1) x KL JL G2 wd).2 := by have := HCH.out; rw [lk] at this; rw [← this]
          all_goals have hGe : G3 = (chG ((q : Int) + i1) x KL JL G2 wd).1 := by have := HCH.out; rw [lk] at this; rw [← this]
          all_goals rw [← hLe] at o3
          all_goals rw [← hGe] at Ma
          all_goals have hh3 := Lib.hid (fun k (hk : k ∈ foot a3 c3) => (o3.feet k hk).1)
          all_goals have hrI := (o3.intD d3)
          all_goals have hrA := o3.away ro.drew.out (Nat.le_refl _)
          all_goals rw [← lc] at hrI hrA
          all_goals have hrB : ∀ y, 0 < L.length → a3 = some y → y.block ∉ foot a2 c2 := hrA
          all_goals have Ra := RwO.push (r := (a3, c3, L)) (RwO.alloc ro3 _) (fun k hk => by have := (M3.feet k hk).2; simp; omega) (hrI.below ((Below.refl _ _).alloc (Nat.le_refl _) _)) hrB oo ga ma
          all_goals have hb2 := Nat.le_trans hb1 S2.size
          all_goals have hdz : ∀ (W : World), W.drew.heap.size = W.heap.size := fun _ => rfl
          all_goals clear cj ck ro M2 S2 s3 o3 d3 M3 ro3 Oa oo ga ma hrI hrA hrB hLe hGe hdz
          go_wp2
          go_roundw
          case rel => exact ⟨j + 1, _, by omega, by go_num, ⟨_, _, _, rfl, Ra, by rw [datas_push, HJ.out], fun s hs k hk => by
            rcases List.mem_append.1 hs with hs | hs
            · exact HH2.out s hs k hk
            · rw [List.mem_singleton] at hs; subst hs; exact Nat.le_trans hb2 (hh3.out k hk)⟩, by rw [HJ.out]; exact Ma, Sa⟩
          case measure => simp [intOf]; omega
        · obtain rfl : j = n := by omega
          have HD2 := Lib.hid hd2
          clear hd2
          have rd := ro.rwD
          have ST := S1.trans S2
          clear ro S2 S1 dc1
          have hge : ¬ (j : Int) < (j : Int) := by omega
          go_wp2
          go_roundw
          case rel => exact ⟨k + 1, F2, by omega, by go_num, ⟨_, _, _, rfl, rd, by rw [HS.out]; exact HD2.out, HH2.out⟩, by rw [HS.out]; exact M2, ST⟩
          case measure => simp [intOf]; omega
    · obtain rfl : k = v := by omega
      have hge : ¬ (k : Int) < (k : Int) := by omega
      have HD := Lib.hid hd1
      have HA3 := Lib.hid hG3
      have HML := Lib.hid hml
      clear hd1 hG3 hml
      obtain ⟨wl, rfl⟩ : ∃ wl, wl = wr := ⟨_, rfl⟩
      go_wp2
      go_loopw [58] (fun u wr => ∃ j, j ≤ n ∧ u = .int .i64 (j : Nat) ∧ (∃ oa on oc, Own wr wl.heap.size oa on oc ((datas' rs1).take j).flatten ∧ Disj (foot oa oc) F1 ∧ Mk 105 wr (w.heap.size + 1) g q i1 (tuG ((q : Int) + i1) I (datas' rs) [] k).1 F1 oa on oc) ∧ Stp F1 wl F1 wr) (fun u _ => n - (intOf u).toNat)
      case atStart => exact ⟨0, Nat.zero_le _, rfl, ⟨_, _, _, Own.nil0 _ _ _, foot_nil _ _, M1⟩, Stp.refl _ _⟩
      case round =>
        obtain ⟨j, hj, rfl, ⟨oa, on, oc, own, dd, M2⟩, S2⟩ := hrel
        clear M1
        by_cases hlt2 : j < n
        · have hjl : j < (datas' rs1).length := by rw [HML.out]; exact hlt2
          have HF := Lib.hid (flat_take (datas' rs1) j hjl)
          have hfl := flat_len HA3.out j (Nat.le_of_lt hjl)
          have hon : on ≤ 8 * 8 := by rw [own.len, hfl]; exact Nat.mul_le_mul (by omega) (by omega)
          rw [datas_getD _ _ (by rw [← datas_len, HML.out]; exact hlt2)] at HF
          obtain ⟨gr, o_r, hgr, _, _⟩ := dc1.at j hlt2
          subst hgr
          have cj := (dc1.stp S2).cellsAt j hlt2
          have dj := (dc1.innAt j hlt2).stp S2
          have lj := HA3.out.at j hjl
          rw [datas_getD _ _ (by rw [← datas_len, HML.out]; exact hlt2)] at lj
          rw [lj] at cj dj
          generalize rowAt rs1 j = r at *
          obtain ⟨ra, rc, L⟩ := r
          simp only at cj dj HF
          clear lj hfl
          obtain ⟨_, x3, _, hgF⟩ := M2.outs none 0 0
          go_wp2_with (at_builtin; refine wpList_appJ _ rfl _ _ rfl wl.heap.size oa on oc _ rfl own _ wd _ L rfl dj.1 (by omega) S2.size ?_)
          intro a5 c5 w5 o5 _ g5 m5
          have O5 := Only.of_grown g5
          have M5 := Mk.only M2 O5 dd
          have S5 := Stp.onto S2 O5 (fun k hk => (own.feet k hk).1)
          have d5 : Disj (foot a5 c5) F1 := m5.disj dd (fun k hk => (M2.feet k hk).2)
          clear M2 S2 own dd O5 g5 m5 cj dj x3
          obtain ⟨M6, x5, y5, _⟩ := M5.outs a5 (on + wd) c5
          have O6 : Only F1 w5 (w5.setCell ⟨g, 3, none⟩ (.slice a5 (on + wd) c5)) := (Only.refl _ _).setCell _ _ hgF
          have o6 := Own.only o5 O6 d5
          have S6 : Stp F1 wl F1 _ := S5.trans ⟨O6, fun k hk => .inl hk⟩
          have HM6 := Lib.hid M6
          have HO6 := Lib.hid o6
          have HS6 := Lib.hid S6
          clear M6 o6 S6 O6 o5 S5 M5
          go_wp2
          go_roundw
          case rel => exact ⟨j + 1, by omega, by go_num, ⟨_, _, _, by rw [HF.out]; exact HO6.out, d5, HM6.out⟩, HS6.out⟩
          case measure => simp [intOf]; omega
        · obtain rfl : j = n := by omega
          rw [List.take_of_length_le (by rw [HML.out]; exact Nat.le_refl _), HD.out] at own
          rw [HSI.out, HD0.out] at M2 own
          have hge2 : ¬ (j : Int) < (j : Int) := by omega
          have hwl : w.heap.size + 1 ≤ wl.heap.size := Nat.le_trans hb S1.size
          have ST := S1.trans S2
          obtain ⟨ga, gn, gc, hB, ho, hg, hbg, hF⟩ := M2
          have R6 := R2.only ST.only (by simp; omega)
          have V6 := V2.trans (ST.out (B := w.heap.size) V2.size (by simp; omega))
          have Z6 := ST.size
          have hdd : Disj (foot ga gc) (foot oa oc) := fun k hk hk' => dd k hk' (by rw [hF]; exact List.mem_cons_of_mem _ hk)
          have R7 := R6
          have ho7 := ho
          have oo7 := own
          have V7 := V6
          have z0 : wr.cell? ⟨g, 0, none⟩ = some (.int .i64 (q : Int)) := hB.cell 0
          have z1 : wr.cell? ⟨g, 1, none⟩ = some (.int .i64 i1) := hB.cell 1
          have z2 : wr.cell? ⟨g, 2, none⟩ = some (.slice ga gn gc) := hB.cell 2
          have z3 : wr.cell? ⟨g, 3, none⟩ = some (.slice oa on oc) := hB.cell 3
          have r0 : wr.cell? ⟨w.heap.size, 0, none⟩ = some (.int .i64 0) := R7.cell 0
          have q0 : wr.frozen? ⟨w.heap.size, 0, none⟩ = false := R7.frozen 0
          have r1 : wr.cell? ⟨w.heap.size, 1, none⟩ = some (.int .i64 0) := R7.cell 1
          have q1 : wr.frozen? ⟨w.heap.size, 1, none⟩ = false := R7.frozen 1
          have r2 : wr.cell? ⟨w.heap.size, 2, none⟩ = some (.slice none 0 0) := R7.cell 2
          have q2 : wr.frozen? ⟨w.heap.size, 2, none⟩ = false := R7.frozen 2
          have r3 : wr.cell? ⟨w.heap.size, 3, none⟩ = some (.slice none 0 0) := R7.cell 3
          have q3 : wr.frozen? ⟨w.heap.size, 3, none⟩ = false := R7.frozen 3
          have Q1 := Lib.hid ho7.feet
          have Q2 := Lib.hid oo7.feet
          have GG := (((((Only.refl [w.heap.size] wr).setCell ⟨w.heap.size, 0, none⟩ (.int .i64 (q : Int)) (by simp)).setCell ⟨w.heap.size, 1, none⟩ (.int .i64 i1) (by simp)).setCell ⟨w.heap.size, 2, none⟩ (.slice ga gn gc) (by simp)).setCell ⟨w.heap.size, 3, none⟩ (.slice oa on oc) (by simp))
          have HG := Lib.hid GG
          clear GG
          go_wp2
          have GG := HG.out
          exact bodyPost_ret (v := .agg #[.int .i64 (q : Int), .int .i64 i1, .slice ga gn gc, .slice oa on oc]) (by simp [results, Try.results75, go_sem, r0, r1, r2, r3]) rfl ⟨_, _, _, _, _, _, rfl, (ho7.only GG (fun k hk hk' => by have := Q1.out k hk; simp at hk'; omega)).lower (by omega), ((oo7.only GG (fun k hk hk' => by have := Q2.out k hk; simp at hk'; omega)).lower (by omega)).rd, hdd, V7.trans (GG.below V7.size (by simp))⟩
end Go.Proofs.Ytmbheimjphhamaa
