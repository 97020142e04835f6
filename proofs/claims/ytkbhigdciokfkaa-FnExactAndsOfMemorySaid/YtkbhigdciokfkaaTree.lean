/- The tree of choices. -/
import Derived.Test.YtkbhigdciokfkaaMat
import Derived.Test.YtkbhigdciokfkaaMmA
namespace Go.Proofs.Ytkbhigdciokfkaa
open Go.RowKit
theorem RowC.litR (w : World) (r : RowD) (v : Value) (h : rowV r = v) (e : TypeId) : RowC (w.alloc (.cells #[v] e)) (some ⟨w.heap.size, 0, none⟩) 1 1 1 [rowV r] := by rw [h]; exact RowC.lit1 w v e
theorem rowV_of {a : Option Addr} {n c : Nat} {l : List Int} (h : l.length = n) : rowV (a, c, l) = .slice a n c := by unfold rowV; rw [h]
/-- A row that was made behind w. -/
theorem Own.away {w w' : World} {b b' a n c l a' n' c' e sz xs} (o : Own w' b a n c l) (h : OwnC w b' a' n' c' e sz xs) (hb : w.heap.size ≤ b) : ∀ x, 0 < n → a = some x → x.block ∉ foot a' c' := fun x hn hx hm => by
  have := (o.range x (by have := o.cap; omega) hx).1; have := (h.feet _ hm).2; omega
theorem IntD.away {w w' : World} {a n c l F a' n' c' e sz xs} (o : IntD w a n c l F) (h : OwnC w' w.heap.size a' n' c' e sz xs) : ∀ x, 0 < n → a = some x → x.block ∉ foot a' c' := fun x hn hx hm => by
  have := (o.1.range x hn hx).2; have := (h.feet _ hm).1; omega
set_option maxHeartbeats 8000000 in
set_option maxRecDepth 100000 in
theorem tree_any (ca : Option Addr) (n cc : Nat) (rs : List RowD) (ia : Option Addr) (v ic : Nat) (I : List Int) (wd : Nat) {oa : Option Addr} {on oc : Nat} (b g : Nat) (i0 i1 : Int) (G : List Int) (F : List Nat) (w : World) (h : Mk 81 w b g i0 i1 G F oa on oc) (hb : b ≤ w.heap.size) (h0 : 0 ≤ i0 ∧ i0 ≤ 1000) (h1 : 0 ≤ i1 ∧ i1 ≤ 1000) (dc : RwD w ca n cc rs F) (dx : IntD w ia v ic I F) (hA : AllL wd (datas' rs)) (hn : 1 ≤ n ∧ n ≤ 8) (hv : v ≤ 8) (hw : wd ≤ 20) (hl : G.length ≤ 1000) :
    Calls Try.prog 50 #[.pointer (some ⟨g, 0, none⟩), .slice ca n cc, .slice ia v ic] w fun e w' => ∃ a1 m1 c1 F', e = .returned (.slice a1 m1 c1) ∧ Own w' w.heap.size a1 m1 c1 ((trG (i0 + i1) I (datas' rs) G v).2.getD 0 []) ∧ Disj (foot a1 c1) F' ∧ Mk 81 w' b g i0 i1 (trG (i0 + i1) I (datas' rs) G v).1 F' oa on oc ∧ Stp F w F' w' := by
  have HAL := Lib.hid hA
  have HR := Lib.hid dc.len
  have hle := dc.le
  have hle2 := dx.ints.le
  clear hA
  go_enter Try.func50, Try.ntmps50
  go_wp2
  go_loopw [1, 13] (fun y u wr => ∃ k F1, k ≤ v ∧ u = .int .i64 (k : Nat) ∧ (∃ a1 m c1 rs1, y = .slice a1 m c1 ∧ RwD wr a1 m c1 rs1 F1 ∧ datas' rs1 = (trG (i0 + i1) I (datas' rs) G k).2) ∧ Mk 81 wr b g i0 i1 (trG (i0 + i1) I (datas' rs) G k).1 F1 oa on oc ∧ Stp F w F1 wr) (fun _ u _ => v - (intOf u).toNat)
  case atStart => exact ⟨0, F, Nat.zero_le _, rfl, ⟨_, _, _, rs, rfl, dc, rfl⟩, h, Stp.refl _ _⟩
  case round =>
    obtain ⟨k, F1, hk, rfl, ⟨a1, m, c1, rs1, rfl, dc1, hd1⟩, M1, S1⟩ := hrel
    obtain ⟨hG, hG2, hG3⟩ := trG_len (B := i0 + i1) (idx := I) (G := G) HAL.out (by rw [datas_len, HR.out]; omega) (by rw [datas_len, HR.out]; omega) k
    have hm := dc1.len
    have hml : (datas' rs1).length = m := by rw [datas_len]; exact hm
    rw [← hd1, hml] at hG2
    rw [← hd1] at hG3
    have hGb : 36 * wd * k ≤ 36 * 20 * 8 := Nat.mul_le_mul (Nat.mul_le_mul_left _ hw) (by omega)
    by_cases hlt : k < v
    · obtain ⟨wo, rfl⟩ : ∃ wo, wo = wr := ⟨_, rfl⟩
      have HS0 := trG_succ (i0 + i1) I (datas' rs) G k
      rw [← hd1, hml] at HS0
      obtain ⟨gx, ox, hgx, _⟩ := dx.ints.at k hlt
      subst hgx
      have cx := (dx.stp S1).ints.cellsAt k hlt
      generalize I.getD k 0 = x at *
      generalize hg1 : (trG (i0 + i1) I (datas' rs) G k).1 = G1 at *
      have HS := Lib.hid HS0
      clear HS0 hg1 hd1
      have HA3 := Lib.hid hG3
      have HML := Lib.hid hml
      clear hG3 hml
      have hb1 : b ≤ wo.heap.size := Nat.le_trans hb S1.size
      go_wp2
      clear cx
      go_loopw [9, 10] (fun y u wx => ∃ j F2, 2 * j ≤ m + 1 ∧ u = .int .i64 (2 * (j : Int)) ∧ (∃ a2 c2 rs2, y = .slice a2 j c2 ∧ RwO wx wo.heap.size a2 j c2 rs2 F2 ∧ datas' rs2 = (trJ (i0 + i1) x (datas' rs1) G1 j).2) ∧ Mk 81 wx b g i0 i1 (trJ (i0 + i1) x (datas' rs1) G1 j).1 F2 oa on oc ∧ Stp F1 wo F2 wx) (fun _ u _ => m - (intOf u).toNat)
      case atStart => exact ⟨0, F1, by omega, rfl, ⟨_, _, [], rfl, RwO.nil _ _ _ _, rfl⟩, M1.alloc _, (Stp.refl _ _).alloc _⟩
      case round =>
        obtain ⟨j, F2, hj, rfl, ⟨a2, c2, rs2, rfl, ro, hd2⟩, M2, S2⟩ := hrel
        clear M1
        obtain ⟨hJ, hJ2, hJ3⟩ := trJ_len (B := i0 + i1) (b := x) (G := G1) HA3.out j (by rw [HML.out]; exact hj)
        have hJb : 9 * wd * j ≤ 9 * 20 * 5 := Nat.mul_le_mul (Nat.mul_le_mul_left _ hw) (by omega)
        by_cases hlt2 : 2 * j < m
        · have HJ0 := trJ_succ (i0 + i1) x (datas' rs1) G1 j
          unfold trS at HJ0
          rw [HML.out] at HJ0
          rw [← hd2] at HJ0
          have hlt3 : 2 * (j : Int) < (m : Int) := by omega
          have hz0 : (0 : Int) ≤ 2 * (j : Int) := by omega
          have hz1 : (0 : Int) ≤ 2 * (j : Int) + 1 := by omega
          have hzw : IntKind.i64.wrap (2 * (j : Int) + 1) = 2 * (j : Int) + 1 := IntWalk.i64_in _ (by omega)
          have htn : (2 * (j : Int)).toNat = 2 * j := by omega
          have htn2 : (2 * (j : Int) + 1).toNat = 2 * j + 1 := by omega
          obtain ⟨gr, o_r, hgr, _, _⟩ := dc1.at (2 * j) hlt2
          subst hgr
          have cj := (dc1.stp S2).cellsAt (2 * j) hlt2
          have dj := dc1.innAt (2 * j) hlt2
          rw [datas_getD _ (2 * j) (by rw [← datas_len, HML.out]; exact hlt2)] at HJ0
          generalize hg2 : (trJ (i0 + i1) x (datas' rs1) G1 j).1 = G2 at *
          clear hg2
          by_cases he : 2 * j + 1 = m
          · rw [if_pos he] at HJ0
            have HJ := Lib.hid HJ0
            clear HJ0
            have he2 : ((2 * (j : Int)) + 1 == (m : Int)) = true := by simp; omega
            generalize rowAt rs1 (2 * j) = r at *
            have HE := Lib.hid he
            clear he
            go_wp2_with (at_builtin; refine wpList_appR _ rfl _ _ rfl wo.heap.size _ j _ _ rfl (RwO.alloc ro _).out _ 1 r rfl (RowC.litR _ _ _ rfl _) (by omega) (by have := S2.size; simp; omega) ?_)
            intro aa1 ca1 wa1 oo1 _ ga1 ma1
            have Oa1 := Only.of_grown ga1
            have Ma1 := Mk.only (Mk.alloc M2 _) Oa1 ro.dis
            have Sa1 := Stp.onto (Stp.alloc S2 _) Oa1 (fun k hk => (ro.out.feet k hk).1)
            have Ra1 := RwO.push (RwO.alloc ro _) (fun k hk => by have := (M2.feet k hk).2; simp; omega) ((dj.stp S2).below ((Below.refl _ _).alloc (Nat.le_refl _) _)) (dj.away ro.out) oo1 ga1 ma1
            clear ro M2 S2 Oa1 oo1 ga1 ma1
            clear cj
            go_wp2
            go_roundw
            case rel => exact ⟨j + 1, F2, by have := HE.out; omega, by go_num, ⟨_, _, _, rfl, Ra1, by rw [datas_push, HJ.out]⟩, by rw [HJ.out]; exact Ma1, Sa1⟩
            case measure => simp [intOf]; omega
          · rw [if_neg he] at HJ0
            have he2 : ((2 * (j : Int)) + 1 == (m : Int)) = false := by simp; omega
            have hlt4 : 2 * j + 1 < m := by omega
            have hlt5 : (2 * (j : Int)) + 1 < (m : Int) := by omega
            have ck := (dc1.stp S2).cellsAt (2 * j + 1) hlt4
            have dk := dc1.innAt (2 * j + 1) hlt4
            rw [datas_getD _ (2 * j + 1) (by rw [← datas_len, HML.out]; exact hlt4)] at HJ0
            have lj := HA3.out.at (2 * j) (by rw [HML.out]; exact hlt2)
            have lk := HA3.out.at (2 * j + 1) (by rw [HML.out]; exact hlt4)
            rw [datas_getD _ _ (by rw [← datas_len, HML.out]; omega)] at lj lk
            have HDC := fun (W : World) (F' : List Nat) (s : Stp F1 wo F' W) => And.intro ((dc1.stp s).cellsAt (2 * j + 1) hlt4) ((dc1.stp s).cellsAt (2 * j) hlt2)
            obtain ⟨rj, hrj⟩ : ∃ r, r = rowAt rs1 (2 * j) := ⟨_, rfl⟩
            obtain ⟨rk, hrk⟩ : ∃ r, r = rowAt rs1 (2 * j + 1) := ⟨_, rfl⟩
            rw [← hrj] at cj dj lj HJ0
            rw [← hrk] at ck dk lk HJ0
            simp only [← hrj, ← hrk] at HDC
            clear hrj hrk
            obtain ⟨ja, jc, JL⟩ := rj
            obtain ⟨ka, kc, KL⟩ := rk
            simp only at cj dj lj ck dk lk HJ0 HDC
            have HDC2 := Lib.hid HDC
            clear HDC
            have lc := (chG_len (i0 + i1) x KL JL G2 KL.length).2
            obtain ⟨⟨G3, L⟩, hr3⟩ : ∃ r, r = chG (i0 + i1) x KL JL G2 KL.length := ⟨_, rfl⟩
            have HCH := Lib.hid hr3
            rw [← hr3] at HJ0 lc
            clear hr3
            simp only at HJ0 lc
            have HJ := Lib.hid HJ0
            clear HJ0
            have HE := Lib.hid he
            clear he
            rw [lj] at cj dj
            rw [lk] at ck dk lc
            go_wp2
            go_region_held3 (fun W => W.cell? ⟨gr, o_r + (2 * j + 1), none⟩ = some (.slice ka wd kc) ∧ W.cell? ⟨gr, o_r + 2 * j, none⟩ = some (.slice ja wd jc))
              (first | go_keep | exact (by have hh := HDC2.out _ _ (Stp.onto (Stp.alloc (S2.drew.trans s3) _) (Only.of_grown ga) (fun k hk => ((ro.drew.stp s3).out.feet k hk).1)); rw [lj, lk] at hh; exact hh) | exact (by have hh := HDC2.out _ _ (S2.drew.trans s3); rw [lj, lk] at hh; exact hh))
              (first | (go_at_call 51; refine (choose_any x _ wd _ _ _ wd _ _ b g i0 i1 G2 F2 _ M2.drew (Nat.le_trans hb1 S2.size) h0 h1 ((dk.stp S2).below ((Below.refl _ _).drew)) ((dj.stp S2).below ((Below.refl _ _).drew)) (Nat.le_refl _) (by omega) (by omega)).mono ?_; rintro e w3 ⟨a3, c3, F3, rfl, o3, d3, M3, s3⟩) | (refine step_appR _ (by rfl) _ _ (by rfl) wo.heap.size _ j _ _ (by rfl) (RwO.alloc (ro.drew.stp s3) _).out _ 1 (a3, c3, L) (by rfl) (RowC.litR _ _ _ (rowV_of lc) _) (by omega) (by have := (S2.drew.trans s3).size; simp; omega) ?_; intro aa ca wa oo _ ga ma))
            all_goals have ro3 := ro.drew.stp s3
            all_goals have Oa := Only.of_grown ga
            all_goals have Ma := Mk.only (Mk.alloc M3 _) Oa ro3.dis
            all_goals have Sa := (Stp.onto (Stp.alloc (S2.drew.trans s3) _) (Only.of_grown ga) (fun k hk => ((ro.drew.stp s3).out.feet k hk).1))
            all_goals have hLe : L = (chG (i0 + i1) x KL JL G2 wd).2 := by have := HCH.out; rw [lk] at this; rw [← this]
            all_goals have hGe : G3 = (chG (i0 + i1) x KL JL G2 wd).1 := by have := HCH.out; rw [lk] at this; rw [← this]
            all_goals rw [← hLe] at o3
            all_goals rw [← hGe] at Ma
            all_goals have hrI := (o3.intD d3)
            all_goals have hrA := o3.away ro.drew.out (Nat.le_refl _)
            all_goals rw [← lc] at hrI hrA
            all_goals have hrB : ∀ y, 0 < L.length → a3 = some y → y.block ∉ foot a2 c2 := hrA
            all_goals have Ra := RwO.push (r := (a3, c3, L)) (RwO.alloc ro3 _) (fun k hk => by have := (M3.feet k hk).2; simp; omega) (hrI.below ((Below.refl _ _).alloc (Nat.le_refl _) _)) hrB oo ga ma
            all_goals clear cj ck ro M2 S2 s3 o3 d3 M3 ro3 Oa oo ga ma hrI hrA hrB hLe hGe
            go_wp2
            go_roundw
            case rel => exact ⟨j + 1, _, by omega, by go_num, ⟨_, _, _, rfl, Ra, by rw [datas_push, HJ.out]⟩, by rw [HJ.out]; exact Ma, Sa⟩
            case measure => simp [intOf]; omega
        · have HJE := Lib.hid (show j = (m + 1) / 2 by omega)
          have hd3 := hd2
          have hge : ¬ (2 * (j : Int)) < (m : Int) := by omega
          have HD2 := Lib.hid hd3
          clear hd2 hd3
          have rd := ro.rwD
          have ST := S1.trans S2
          clear ro S2 S1 dc1
          go_wp2
          go_roundw
          case rel => exact ⟨k + 1, F2, by omega, by go_num, ⟨_, _, _, _, rfl, rd, by rw [HS.out, ← HJE.out]; exact HD2.out⟩, by rw [HS.out, ← HJE.out]; exact M2, ST⟩
          case measure => simp [intOf]; omega
    · obtain rfl : k = v := by omega
      have hge : ¬ (k : Int) < (k : Int) := by omega
      obtain ⟨gr, o_r, hgr, c0, _⟩ := dc1.at 0 (by omega)
      subst hgr
      have d0 := dc1.innAt 0 (by omega)
      have HD0 := Lib.hid (datas_getD rs1 0 (by omega))
      rw [hd1] at HD0
      have l0 := hG3.at 0 (by rw [hml]; omega)
      rw [datas_getD _ _ (by omega)] at l0
      rw [Nat.add_zero] at c0
      generalize rowAt rs1 0 = r at *
      obtain ⟨ra, rc, RL⟩ := r
      simp only at c0 d0 HD0 l0
      rw [l0] at c0 d0
      clear l0
      have hm0 : 0 < (m : Int) := by omega
      go_wp2_with fail
      refine (Clone_any _ _ _ RL _ d0.ints (by omega)).mono ?_; rintro e w3 ⟨a3, c3, rfl, o3, u3⟩
      go_wp2
      go_ret
      exact ⟨_, _, _, F1, rfl, by rw [HD0.out]; exact o3.lower S1.size, Disj.of_rng o3.feet M1.feet (.inr (Nat.le_refl _)), M1.below u3, S1.below u3⟩
end Go.Proofs.Ytkbhigdciokfkaa
