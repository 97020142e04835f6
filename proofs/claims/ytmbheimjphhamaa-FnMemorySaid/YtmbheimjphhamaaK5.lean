/- Lemmas and walks that the claim's proof rests on, part 5. -/
import Derived.Lib.AppendZeros
import Derived.Test.YtmbheimjphhamaaK2
import Derived.Test.YtmbheimjphhamaaK3
import Derived.Test.YtmbheimjphhamaaK4
namespace Go.Proofs.Ytmbheimjphhamaa
open Go.RowKit
theorem RowC.litR (w : World) (r : RowD) (v : Value) (h : rowV r = v) (e : TypeId) : RowC (w.alloc (.cells #[v] e)) (some ⟨w.heap.size, 0, none⟩) 1 1 1 [rowV r] := by rw [h]; exact RowC.lit1 w v e
theorem rowV_of {a : Option Addr} {n c : Nat} {l : List Int} (h : l.length = n) : rowV (a, c, l) = .slice a n c := by unfold rowV; rw [h]
/-- A row that was made behind w. -/
theorem Own.away {w w' : World} {b b' a n c l a' n' c' e sz xs} (o : Own w' b a n c l) (h : OwnC w b' a' n' c' e sz xs) (hb : w.heap.size ≤ b) : ∀ x, 0 < n → a = some x → x.block ∉ foot a' c' := fun x hn hx hm => by
  have := (o.range x (by have := o.cap; omega) hx).1; have := (h.feet _ hm).2; omega
theorem IntD.away {w w' : World} {a n c l F a' n' c' e sz xs} (o : IntD w a n c l F) (h : OwnC w' w.heap.size a' n' c' e sz xs) : ∀ x, 0 < n → a = some x → x.block ∉ foot a' c' := fun x hn hx hm => by
  have := (o.1.range x hn hx).2; have := (h.feet _ hm).1; omega
set_option maxHeartbeats 8000000 in
set_option maxRecDepth 100000 in
theorem tree_any (ca : Option Addr) (n cc : Nat) (rs : List RowD) (ia : Option Addr) (v ic : Nat) (I : List Int) (wd : Nat) {oa : Option Addr} {on oc : Nat} (b g : Nat) (i0 i1 : Int) (G : List Int) (F : List Nat) (w : World) (h : Mk 82 w b g i0 i1 G F oa on oc) (hb : b ≤ w.heap.size) (h0 : 0 ≤ i0 ∧ i0 ≤ 1000) (h1 : 0 ≤ i1 ∧ i1 ≤ 1000) (dc : RwD w ca n cc rs F) (dx : IntD w ia v ic I F) (hA : AllL wd (datas' rs)) (hn : 1 ≤ n ∧ n ≤ 8) (hv : v ≤ 8) (hw : wd ≤ 20) (hl : G.length ≤ 1000) :
    Calls Try.prog 40 #[.pointer (some ⟨g, 0, none⟩), .slice ca n cc, .slice ia v ic] w fun e w' => ∃ a1 m1 c1 F', e = .returned (.slice a1 m1 c1) ∧ Own w' w.heap.size a1 m1 c1 ((trG (i0 + i1) I (datas' rs) G v).2.getD 0 []) ∧ Disj (foot a1 c1) F' ∧ Mk 82 w' b g i0 i1 (trG (i0 + i1) I (datas' rs) G v).1 F' oa on oc ∧ Stp F w F' w' := by
  have HAL := Lib.hid hA
  have HR := Lib.hid dc.len
  have hle := dc.le
  have hle2 := dx.ints.le
  clear hA
  go_enter Try.func40, Try.ntmps40
  go_wp2
  go_loopw [1, 13] (fun y u wr => ∃ k F1, k ≤ v ∧ u = .int .i64 (k : Nat) ∧ (∃ a1 m c1 rs1, y = .slice a1 m c1 ∧ RwD wr a1 m c1 rs1 F1 ∧ datas' rs1 = (trG (i0 + i1) I (datas' rs) G k).2) ∧ Mk 82 wr b g i0 i1 (trG (i0 + i1) I (datas' rs) G k).1 F1 oa on oc ∧ Stp F w F1 wr) (fun _ u _ => v - (intOf u).toNat)
  case atStart => exact ⟨0, F, Nat.zero_le _, rfl, ⟨_, _, _, rs, rfl, dc, rfl⟩, h, Stp.refl _ _⟩
  case round =>
    obtain ⟨k, F1, hk, rfl, ⟨a1, m, c1, rs1, rfl, dc1, hd1⟩, M1, S1⟩ := hrel
    obtain ⟨hG, hG2, hG3⟩ := trG_len (B := i0 + i1) (idx := I) (G := G) HAL.out (by rw [datas_len, HR.out]; omega) (by rw [datas_len, HR.out]; omega) k
    have hm := dc1.len
    have hml : (datas' rs1).length = m := by rw [datas_len]; exact hm
    rw [← hd1, hml] at hG2
    rw [← hd1] at hG3
    have hGb : 36 * wd * k ≤ 36 * 20 * 8 := Nat.mul_le_mul (Nat.mul_le_mul_left _ hw) (by omega)
    by_cases hlt : k < v
    · obtain ⟨wo, rfl⟩ : ∃ wo, wo = wr := ⟨_, rfl⟩
      have HS0 := trG_succ (i0 + i1) I (datas' rs) G k
      rw [← hd1, hml] at HS0
      obtain ⟨gx, ox, hgx, _⟩ := dx.ints.at k hlt
      subst hgx
      have cx := (dx.stp S1).ints.cellsAt k hlt
      generalize I.getD k 0 = x at *
      generalize hg1 : (trG (i0 + i1) I (datas' rs) G k).1 = G1 at *
      have HS := Lib.hid HS0
      clear HS0 hg1 hd1
      have HA3 := Lib.hid hG3
      have HML := Lib.hid hml
      clear hG3 hml
      have hb1 : b ≤ wo.heap.size := Nat.le_trans hb S1.size
      go_wp2
      clear cx
      go_loopw [9, 10] (fun y u wx => ∃ j F2, 2 * j ≤ m + 1 ∧ u = .int .i64 (2 * (j : Int)) ∧ (∃ a2 c2 rs2, y = .slice a2 j c2 ∧ RwO wx wo.heap.size a2 j c2 rs2 F2 ∧ datas' rs2 = (trJ (i0 + i1) x (datas' rs1) G1 j).2) ∧ Mk 82 wx b g i0 i1 (trJ (i0 + i1) x (datas' rs1) G1 j).1 F2 oa on oc ∧ Stp F1 wo F2 wx) (fun _ u _ => m - (intOf u).toNat)
      case atStart => exact ⟨0, F1, by omega, rfl, ⟨_, _, [], rfl, RwO.nil _ _ _ _, rfl⟩, M1.alloc _, (Stp.refl _ _).alloc _⟩
      case round =>
        obtain ⟨j, F2, hj, rfl, ⟨a2, c2, rs2, rfl, ro, hd2⟩, M2, S2⟩ := hrel
        clear M1
        obtain ⟨hJ, hJ2, hJ3⟩ := trJ_len (B := i0 + i1) (b := x) (G := G1) HA3.out j (by rw [HML.out]; exact hj)
        have hJb : 9 * wd * j ≤ 9 * 20 * 5 := Nat.mul_le_mul (Nat.mul_le_mul_left _ hw) (by omega)
        by_cases hlt2 : 2 * j < m
        · have HJ0 := trJ_succ (i0 + i1) x (datas' rs1) G1 j
          unfold trS at HJ0
          rw [HML.out] at HJ0
          rw [← hd2] at HJ0
          have hlt3 : 2 * (j : Int) < (m : Int) := by omega
          have hz0 : (0 : Int) ≤ 2 * (j : Int) := by omega
          have hz1 : (0 : Int) ≤ 2 * (j : Int) + 1 := by omega
          have hzw : IntKind.i64.wrap (2 * (j : Int) + 1) = 2 * (j : Int) + 1 := IntWalk.i64_in _ (by omega)
          have htn : (2 * (j : Int)).toNat = 2 * j := by omega
          have htn2 : (2 * (j : Int) + 1).toNat = 2 * j + 1 := by omega
          obtain ⟨gr, o_r, hgr, _, _⟩ := dc1.at (2 * j) hlt2
          subst hgr
          have cj := (dc1.stp S2).cellsAt (2 * j) hlt2
          have dj := dc1.innAt (2 * j) hlt2
          rw [datas_getD _ (2 * j) (by rw [← datas_len, HML.out]; exact hlt2)] at HJ0
          generalize hg2 : (trJ (i0 + i1) x (datas' rs1) G1 j).1 = G2 at *
          clear hg2
          by_cases he : 2 * j + 1 = m
          · rw [if_pos he] at HJ0
            have HJ := Lib.hid HJ0
            clear HJ0
            have he2 : ((2 * (j : Int)) + 1 == (m : Int)) = true := by simp; omega
            generalize rowAt rs1 (2 * j) = r at *
            have HE := Lib.hid he
            clear he
            go_wp2_with (at_builtin; refine wpList_appR _ rfl _ _ rfl wo.heap.size _ j _ _ rfl (RwO.alloc ro _).out _ 1 r rfl (RowC.litR _ _ _ rfl _) (by omega) (by have := S2.size; simp; omega) ?_)
            intro aa1 ca1 wa1 oo1 _ ga1 ma1
            have Oa1 := Only.of_grown ga1
            have Ma1 := Mk.only (Mk.alloc M2 _) Oa1 ro.dis
            have Sa1 := Stp.onto (Stp.alloc S2 _) Oa1 (fun k hk => (ro.out.feet k hk).1)
            have Ra1 := RwO.push (RwO.alloc ro _) (fun k hk => by have := (M2.feet k hk).2; simp; omega) ((dj.stp S2).below ((Below.refl _ _).alloc (Nat.le_refl _) _)) (dj.away ro.out) oo1 ga1 ma1
            clear ro M2 S2 Oa1 oo1 ga1 ma1
            clear cj
            go_wp2
            go_roundw
            case rel => exact ⟨j + 1, F2, by have := HE.out; omega, by go_num, ⟨_, _, _, rfl, Ra1, by rw [datas_push, HJ.out]⟩, by rw [HJ.out]; exact Ma1, Sa1⟩
            case measure => simp [intOf]; omega
          · rw [if_neg he] at HJ0
            have he2 : ((2 * (j : Int)) + 1 == (m : Int)) = false := by simp; omega
            have hlt4 : 2 * j + 1 < m := by omega
            have hlt5 : (2 * (j : Int)) + 1 < (m : Int) := by omega
            have ck := (dc1.stp S2).cellsAt (2 * j + 1) hlt4
            have dk := dc1.innAt (2 * j + 1) hlt4
            rw [datas_getD _ (2 * j + 1) (by rw [← datas_len, HML.out]; exact hlt4)] at HJ0
            have lj := HA3.out.at (2 * j) (by rw [HML.out]; exact hlt2)
            have lk := HA3.out.at (2 * j + 1) (by rw [HML.out]; exact hlt4)
            rw [datas_getD _ _ (by rw [← datas_len, HML.out]; omega)] at lj lk
            have HDC := fun (W : World) (F' : List Nat) (s : Stp F1 wo F' W) => And.intro ((dc1.stp s).cellsAt (2 * j + 1) hlt4) ((dc1.stp s).cellsAt (2 * j) hlt2)
            obtain ⟨rj, hrj⟩ : ∃ r, r = rowAt rs1 (2 * j) := ⟨_, rfl⟩
            obtain ⟨rk, hrk⟩ : ∃ r, r = rowAt rs1 (2 * j + 1) := ⟨_, rfl⟩
            rw [← hrj] at cj dj lj HJ0
            rw [← hrk] at ck dk lk HJ0
            simp only [← hrj, ← hrk] at HDC
            clear hrj hrk
            obtain ⟨ja, jc, JL⟩ := rj
            obtain ⟨ka, kc, KL⟩ := rk
            simp only at cj dj lj ck dk lk HJ0 HDC
            have HDC2 := Lib.hid HDC
            clear HDC
            have lc := (chG_len (i0 + i1) x KL JL G2 KL.length).2
            obtain ⟨⟨G3, L⟩, hr3⟩ : ∃ r, r = chG (i0 + i1) x KL JL G2 KL.length := ⟨_, rfl⟩
            have HCH := Lib.hid hr3
            rw [← hr3] at HJ0 lc
            clear hr3
            simp only at HJ0 lc
            have HJ := Lib.hid HJ0
            clear HJ0
            have HE := Lib.hid he
            clear he
            rw [lj] at cj dj
            rw [lk] at ck dk lc
            go_wp2
            go_region_held3 (fun W => W.cell? ⟨gr, o_r + (2 * j + 1), none⟩ = some (.slice ka wd kc) ∧ W.cell? ⟨gr, o_r + 2 * j, none⟩ = some (.slice ja wd jc))
              (first | go_keep | exact (by have hh := HDC2.out _ _ (Stp.onto (Stp.alloc (S2.drew.trans s3) _) (Only.of_grown ga) (fun k hk => ((ro.drew.stp s3).out.feet k hk).1)); rw [lj, lk] at hh; exact hh) | exact (by have hh := HDC2.out _ _ (S2.drew.trans s3); rw [lj, lk] at hh; exact hh))
              (first | (go_at_call 41; refine (choose_any x _ wd _ _ _ wd _ _ b g i0 i1 G2 F2 _ M2.drew (Nat.le_trans hb1 S2.size) h0 h1 ((dk.stp S2).below ((Below.refl _ _).drew)) ((dj.stp S2).below ((Below.refl _ _).drew)) (Nat.le_refl _) (by omega) (by omega)).mono ?_; rintro e w3 ⟨a3, c3, F3, rfl, o3, d3, M3, s3⟩) | (refine step_appR _ (by rfl) _ _ (by rfl) wo.heap.size _ j _ _ (by rfl) (RwO.alloc (ro.drew.stp s3) _).out _ 1 (a3, c3, L) (by rfl) (RowC.litR _ _ _ (rowV_of lc) _) (by omega) (by have := (S2.drew.trans s3).size; simp; omega) ?_; intro aa ca wa oo _ ga ma))
            all_goals have ro3 := ro.drew.stp s3
            all_goals have Oa := Only.of_grown ga
            all_goals have Ma := Mk.only (Mk.alloc M3 _) Oa ro3.dis
            all_goals have Sa := (Stp.onto (Stp.alloc (S2.drew.trans s3) _) (Only.of_grown ga) (fun k hk => ((ro.drew.stp s3).out.feet k hk).1))
            all_goals have hLe : L = (chG (i0 + i1) x KL JL G2 wd).2 := by have := HCH.out; rw [lk] at this; rw [← this]
            all_goals have hGe : G3 = (chG (i0 + i1) x KL JL G2 wd).1 := by have := HCH.out; rw [lk] at this; rw [← this]
            all_goals rw [← hLe] at o3
            all_goals rw [← hGe] at Ma
            all_goals have hrI := (o3.intD d3)
            all_goals have hrA := o3.away ro.drew.out (Nat.le_refl _)
            all_goals rw [← lc] at hrI hrA
            all_goals have hrB : ∀ y, 0 < L.length → a3 = some y → y.block ∉ foot a2 c2 := hrA
            all_goals have Ra := RwO.push (r := (a3, c3, L)) (RwO.alloc ro3 _) (fun k hk => by have := (M3.feet k hk).2; simp; omega) (hrI.below ((Below.refl _ _).alloc (Nat.le_refl _) _)) hrB oo ga ma
            all_goals clear cj ck ro M2 S2 s3 o3 d3 M3 ro3 Oa oo ga ma hrI hrA hrB hLe hGe
            go_wp2
            go_roundw
            case rel => exact ⟨j + 1, _, by omega, by go_num, ⟨_, _, _, rfl, Ra, by rw [datas_push, HJ.out]⟩, by rw [HJ.out]; exact Ma, Sa⟩
            case measure => simp [intOf]; omega
        · have HJE := Lib.hid (show j = (m + 1) / 2 by omega)
          have hd3 := hd2
          have hge : ¬ (2 * (j : Int)) < (m : Int) := by omega
          have HD2 := Lib.hid hd3
          clear hd2 hd3
          have rd := ro.rwD
          have ST := S1.trans S2
          clear ro S2 S1 dc1
          go_wp2
          go_roundw
          case rel => exact ⟨k + 1, F2, by omega, by go_num, ⟨_, _, _, _, rfl, rd, by rw [HS.out, ← HJE.out]; exact HD2.out⟩, by rw [HS.out, ← HJE.out]; exact M2, ST⟩
          case measure => simp [intOf]; omega
    · obtain rfl : k = v := by omega
      have hge : ¬ (k : Int) < (k : Int) := by omega
      obtain ⟨gr, o_r, hgr, c0, _⟩ := dc1.at 0 (by omega)
      subst hgr
      have d0 := dc1.innAt 0 (by omega)
      have HD0 := Lib.hid (datas_getD rs1 0 (by omega))
      rw [hd1] at HD0
      have l0 := hG3.at 0 (by rw [hml]; omega)
      rw [datas_getD _ _ (by omega)] at l0
      rw [Nat.add_zero] at c0
      generalize rowAt rs1 0 = r at *
      obtain ⟨ra, rc, RL⟩ := r
      simp only at c0 d0 HD0 l0
      rw [l0] at c0 d0
      clear l0
      have hm0 : 0 < (m : Int) := by omega
      go_wp2_with fail
      refine (Clone_any _ _ _ RL _ d0.ints (by omega)).mono ?_; rintro e w3 ⟨a3, c3, rfl, o3, u3⟩
      go_wp2
      go_ret
      exact ⟨_, _, _, F1, rfl, by rw [HD0.out]; exact o3.lower S1.size, Disj.of_rng o3.feet M1.feet (.inr (Nat.le_refl _)), M1.below u3, S1.below u3⟩
end Go.Proofs.Ytmbheimjphhamaa
namespace Go.Proofs.Ytmbheimjphhamaa
open Go.RowKit
set_option maxHeartbeats 4000000 in
set_option maxRecDepth 100000 in
theorem Grow_nil (n : Nat) (w : World) (h0 : 0 < n) (h1 : n ≤ 1000000) :
    Calls Try.prog 76 #[.slice none 0 0, .int .i64 n] w fun e w' => ∃ a c, e = .returned (.slice a 0 c) ∧ Own w' w.heap.size a 0 c [] ∧ Below w.heap.size w w' := by
  obtain ⟨i0, hi, hz0, hz1, hz2⟩ := info_parts info_int
  have hG := grownCap_ge w n 0 3
  have hG2 := grownCap_le_maxLen w n 0 3 (by unfold maxLen; omega)
  have hr : ∀ ty, (Builtin.append_ #[26, 3] ty #[.slice none 0 0, .int .i64 n]).run Try.prog w = .ok (.slice (some ⟨w.heap.size, 0, none⟩) n (grownCap w n 0 3)) (w.drew.alloc (.cells (Builtin.zeroCells (Value.int .i64 0).cells n ++ Builtin.zeroCells (Value.int .i64 0).cells (grownCap w n 0 3 - n)) 3)) := fun ty =>
    Lib.run_append_nil_zeros w 26 3 ty 3 i0 (.int .i64 0) .i64 .i64 Try.underlying26 Try.underlying3 hi hz0 n h0 (by rw [hz1]; decide) (by omega) (by rw [hz2]; omega)
  have hs : (Builtin.zeroCells (Value.int .i64 0).cells n ++ Builtin.zeroCells (Value.int .i64 0).cells (grownCap w n 0 3 - n)).size = grownCap w n 0 3 := by
    have e : ∀ k, (Builtin.zeroCells (Value.int .i64 0).cells k).size = k := fun k => by unfold Builtin.zeroCells; simp [Value.cells]
    rw [Array.size_append, e, e]; omega
  have HO : Own (w.drew.alloc (.cells (Builtin.zeroCells (Value.int .i64 0).cells n ++ Builtin.zeroCells (Value.int .i64 0).cells (grownCap w n 0 3 - n)) 3)) w.heap.size (some ⟨w.heap.size, 0, none⟩) 0 (grownCap w n 0 3) [] :=
    ⟨by simp, Nat.zero_le _, hG2, fun h => (by cases h), fun _ => ⟨w.heap.size, _, rfl, Nat.le_refl _, heap_alloc_new w.drew _, by rw [hs, Nat.mul_one], by simp⟩⟩
  have HB : Below w.heap.size w (w.drew.alloc (.cells (Builtin.zeroCells (Value.int .i64 0).cells n ++ Builtin.zeroCells (Value.int .i64 0).cells (grownCap w n 0 3 - n)) 3)) := ((Below.refl _ _).drew).alloc (Nat.le_refl _) _
  have HOH := Lib.hid HO
  have HBH := Lib.hid HB
  clear HO HB hs hz0 hz1 hz2 hi
  obtain ⟨G, hGe⟩ : ∃ G, G = grownCap w n 0 3 := ⟨_, rfl⟩
  rw [← hGe] at hG hG2 hr HOH HBH
  clear hGe
  have hG63 : (G : Int) ≤ 9223372036854775807 := by unfold maxLen at hG2; omega
  have hp : (0 : Int) < (n : Int) := by omega
  go_enter Try.func76, Try.ntmps76
  go_wp2_with (at_builtin; refine Lib.wpList_append_run _ rfl _ _ _ _ rfl _ _ rfl rfl _ _ (hr _) ?_)
  go_ret
  exact ⟨_, _, rfl, HOH.out, HBH.out⟩
theorem flat_take (l : List (List Int)) (k : Nat) (h : k < l.length) : (l.take (k + 1)).flatten = (l.take k).flatten ++ l.getD k [] := by
  rw [List.take_succ_eq_append_getElem h, List.flatten_append]
  simp [List.getD, h]
theorem flat_len {w : Nat} {l : List (List Int)} (h : AllL w l) (k : Nat) (hk : k ≤ l.length) : (l.take k).flatten.length = w * k := by
  induction k with
  | zero => simp
  | succ k ih => rw [flat_take l k (by omega), List.length_append, ih (by omega), h.at k (by omega), Nat.mul_add, Nat.mul_one]
set_option maxHeartbeats 4000000 in
set_option maxRecDepth 100000 in
theorem Concat_any (a : Option Addr) (n c : Nat) (rs : List RowD) (wd : Nat) (w : World) (h : IntSS w a n c rs) (hA : AllL wd (datas' rs)) (hn : 1 ≤ n ∧ n ≤ 100) (hw : 1 ≤ wd ∧ wd ≤ 100) :
    Calls Try.prog 46 #[.slice a n c] w fun e w' => ∃ a1 m1 c1, e = .returned (.slice a1 m1 c1) ∧ Own w' w.heap.size a1 m1 c1 (datas' rs).flatten ∧ Below w.heap.size w w' := by
  have HAL := Lib.hid hA
  have HR := Lib.hid h.len
  have hle := h.le
  clear hA
  go_enter Try.func46, Try.ntmps46
  go_wp2
  go_loop [3, 11] (fun y u => ∃ k q : Nat, k ≤ n ∧ u = .int .i64 k ∧ y = .int .i64 q ∧ wd * k = q) (fun _ u => n - (intOf u).toNat)
  case atStart => exact ⟨0, 0, Nat.zero_le _, rfl, rfl, Nat.mul_zero _⟩
  case round =>
    obtain ⟨k, q, hk, rfl, rfl, hq⟩ := hrel
    have hqb : q ≤ 100 * 100 := by rw [← hq]; exact Nat.mul_le_mul hw.2 (by omega)
    by_cases hlt : k < n
    · have HQ : Hid (wd * (k + 1) = q + wd) := Lib.hid (by rw [Nat.mul_add, hq, Nat.mul_one])
      clear hq
      obtain ⟨g, o, rfl, hc, _⟩ := h.at k hlt
      have hl := HAL.out.at k (by rw [datas_len, HR.out]; exact hlt)
      rw [datas_getD _ _ (by rw [HR.out]; exact hlt)] at hl
      rw [hl] at hc
      clear hl
      go_wp2
      go_round
      case rel => exact ⟨k + 1, q + wd, by omega, by go_num, by go_num, HQ.out⟩
      case measure => simp [intOf]; omega
    · obtain rfl : k = n := by omega
      have hq0 : 0 < q := by rw [← hq]; exact Nat.mul_pos (by omega) (by omega)
      have HQ := Lib.hid hq
      clear hq
      go_wp2_with fail
      refine (Grow_nil q _ hq0 (by omega)).mono ?_; rintro e w2 ⟨ga, gc, rfl, og, u2⟩
      have h2 := h.below u2
      go_wp2
      go_loopw [6, 27] (fun y u wr => ∃ j a1 c1 : _, ∃ m1 : Nat, j ≤ k ∧ u = .int .i64 (j : Nat) ∧ y = .slice a1 m1 c1 ∧ Own wr w.heap.size a1 m1 c1 ((datas' rs).take j).flatten ∧ Below w.heap.size w wr) (fun _ u _ => k - (intOf u).toNat)
      case atStart => exact ⟨0, _, _, _, Nat.zero_le _, rfl, rfl, og, u2⟩
      case round =>
        obtain ⟨j, a1, c1, m1, hj, rfl, rfl, own, hbel⟩ := hrel
        clear og
        by_cases hlt2 : j < k
        · have hjl : j < (datas' rs).length := by rw [datas_len, HR.out]; exact hlt2
          have HF := Lib.hid (flat_take (datas' rs) j hjl)
          have hfl := flat_len HAL.out j (Nat.le_of_lt hjl)
          have hm1 : m1 ≤ 100 * 100 := by rw [own.len, hfl]; exact Nat.mul_le_mul hw.2 (by omega)
          rw [datas_getD _ _ (by rw [HR.out]; exact hlt2)] at HF
          obtain ⟨g, o, rfl, hc, hi⟩ := (h.below hbel).at j hlt2
          have hl := HAL.out.at j hjl
          rw [datas_getD _ _ (by rw [HR.out]; exact hlt2)] at hl
          rw [hl] at hc hi
          generalize rowAt rs j = r at *
          obtain ⟨ra, rc, L⟩ := r
          simp only at hc hi HF
          clear hl hfl
          go_wp2_with (at_builtin; refine wpList_appI _ rfl _ _ rfl w.heap.size a1 m1 c1 _ rfl own _ wd _ L rfl hi (by omega) hbel.size ?_)
          intro a5 c5 w5 o5 u5 _
          have b5 := hbel.trans u5
          clear own hbel u5 hc hi
          go_wp2
          go_roundw
          case rel => exact ⟨j + 1, a5, c5, _, by omega, by go_num, rfl, by rw [HF.out]; exact o5, b5⟩
          case measure => simp [intOf]; omega
        · obtain rfl : j = k := by omega
          rw [List.take_of_length_le (by rw [datas_len, HR.out]; exact Nat.le_refl _)] at own
          go_wp2
          go_ret
          exact ⟨_, _, _, rfl, own, hbel⟩
theorem pow8 (k : Nat) (h : k ≤ 8) : 2 ^ k ≤ 256 := by
  rcases (by omega : k = 0 ∨ k = 1 ∨ k = 2 ∨ k = 3 ∨ k = 4 ∨ k = 5 ∨ k = 6 ∨ k = 7 ∨ k = 8) with rfl | rfl | rfl | rfl | rfl | rfl | rfl | rfl | rfl <;> decide
set_option maxHeartbeats 8000000 in
set_option maxRecDepth 100000 in
theorem turn_any (ca : Option Addr) (n cc : Nat) (rs : List RowD) (ia : Option Addr) (v ic : Nat) (I : List Int) (wd : Nat) {oa : Option Addr} {on oc : Nat} (b g : Nat) (i0 i1 : Int) (G : List Int) (F : List Nat) (w : World) (h : Mk 82 w b g i0 i1 G F oa on oc) (hb : b ≤ w.heap.size) (h0 : 0 ≤ i0 ∧ i0 ≤ 1000) (h1 : 0 ≤ i1 ∧ i1 ≤ 1000) (dc : RwD w ca n cc rs F) (dx : IntD w ia v ic I F) (hA : AllL wd (datas' rs)) (hn : 1 ≤ n ∧ n ≤ 8) (hv : v ≤ 8) (hw : wd ≤ 20) (hl : G.length ≤ 1000) (nb : Nat) (hw1 : 1 ≤ wd) (hnb : w.cell? ⟨nb, 0, none⟩ = some (.int .i64 n)) (hnF : nb ∉ F) :
    Calls Try.prog 45 #[.pointer (some ⟨g, 0, none⟩), .slice ca n cc, .slice ia v ic, .pointer (some ⟨nb, 0, none⟩)] w fun e w' => ∃ a1 m1 c1 F', e = .returned (.slice a1 m1 c1) ∧ Own w' w.heap.size a1 m1 c1 (tuG (i0 + i1) I (datas' rs) G v).2.flatten ∧ Disj (foot a1 c1) F' ∧ Mk 82 w' b g i0 i1 (tuG (i0 + i1) I (datas' rs) G v).1 F' oa on oc ∧ Stp F w F' w' := by
  have HAL := Lib.hid hA
  have HR := Lib.hid dc.len
  have hle := dc.le
  have hle2 := dx.ints.le
  clear hA
  have HNB : ∀ (W : World) (F' : List Nat), Stp F w F' W → W.cell? ⟨nb, 0, none⟩ = some (.int .i64 n) := fun W F' s => by
    have hb := s.only.block nb (World.block_lt_of_cell? w _ hnb) hnF
    simp only [World.cell?] at hnb ⊢
    rw [hb]; exact hnb
  have HNH := Lib.hid HNB
  clear HNB hnb
  go_enter Try.func45, Try.ntmps45
  go_wp2
  go_loopw [1, 14] (fun y u wr => ∃ k F1, k ≤ v ∧ u = .int .i64 (k : Nat) ∧ (∃ a1 c1 rs1, y = .slice a1 n c1 ∧ RwD wr a1 n c1 rs1 F1 ∧ datas' rs1 = (tuG (i0 + i1) I (datas' rs) G k).2) ∧ Mk 82 wr b g i0 i1 (tuG (i0 + i1) I (datas' rs) G k).1 F1 oa on oc ∧ Stp F w F1 wr) (fun _ u _ => v - (intOf u).toNat)
  case atStart => exact ⟨0, F, Nat.zero_le _, rfl, ⟨_, _, rs, rfl, dc, rfl⟩, h, Stp.refl _ _⟩
  case round =>
    obtain ⟨k, F1, hk, rfl, ⟨a1, c1, rs1, rfl, dc1, hd1⟩, M1, S1⟩ := hrel
    obtain ⟨hG, hG2, hG3⟩ := tuG_len (B := i0 + i1) (idx := I) (G := G) HAL.out k
    have hm := dc1.len
    have hml : (datas' rs1).length = n := by rw [datas_len]; exact hm
    rw [← hd1] at hG3
    have hGb : 9 * wd * (datas' rs).length * k ≤ 9 * 20 * 8 * 8 := by
      rw [datas_len, HR.out]; exact Nat.mul_le_mul (Nat.mul_le_mul (Nat.mul_le_mul_left _ hw) hn.2) (by omega)
    by_cases hlt : k < v
    · obtain ⟨wo, rfl⟩ : ∃ wo, wo = wr := ⟨_, rfl⟩
      have HS0 := tuG_succ (i0 + i1) I (datas' rs) G k
      rw [← hd1, hml] at HS0
      obtain ⟨gx, ox, hgx, _⟩ := dx.ints.at k hlt
      subst hgx
      have cx := (dx.stp S1).ints.cellsAt k hlt
      generalize I.getD k 0 = x at *
      generalize hg1 : (tuG (i0 + i1) I (datas' rs) G k).1 = G1 at *
      have hP := pow8 k (by omega)
      obtain ⟨P, eP⟩ : ∃ P : Nat, P = 2 ^ k := ⟨_, rfl⟩
      rw [← eP] at HS0 hP
      have t1 : IntKind.i64.wrap (1 * 2 ^ k) = (P : Int) := by rw [Int.one_mul, show (2 : Int) ^ k = ((2 ^ k : Nat) : Int) by simp, ← eP]; exact IntWalk.i64_in _ (by omega)
      have t2 : IntKind.u64.wrap (k : Int) = (k : Int) := IntWalk.u64_in _ (by omega)
      have t1b : IntKind.i64.wrap (2 ^ k) = (P : Int) := by rw [← t1, Int.one_mul]
      have t1d : IntKind.i64.wrap (P : Int) = (P : Int) := IntWalk.i64_in _ (by omega)
      have t1c : ((2 : Int) ^ k) = (P : Int) := by rw [eP]; simp
      have HS := Lib.hid HS0
      clear HS0 hg1 hd1 eP
      have HA3 := Lib.hid hG3
      have HML := Lib.hid hml
      clear hG3 hml
      have hb1 : b ≤ wo.heap.size := Nat.le_trans hb S1.size
      go_wp2
      clear cx
      go_loopw [10, 22] (fun y u wx => ∃ j F2, j ≤ n ∧ u = .int .i64 (j : Nat) ∧ (∃ a2 c2 rs2, y = .slice a2 j c2 ∧ RwO wx wo.heap.size a2 j c2 rs2 F2 ∧ datas' rs2 = (tuJ (i0 + i1) x P (datas' rs1) G1 j).2) ∧ Mk 82 wx b g i0 i1 (tuJ (i0 + i1) x P (datas' rs1) G1 j).1 F2 oa on oc ∧ Stp F1 wo F2 wx) (fun _ u _ => n - (intOf u).toNat)
      case atStart => exact ⟨0, F1, by omega, rfl, ⟨_, _, [], rfl, RwO.nil _ _ _ _, rfl⟩, M1.alloc _, (Stp.refl _ _).alloc _⟩
      case round =>
        obtain ⟨j, F2, hj, rfl, ⟨a2, c2, rs2, rfl, ro, hd2⟩, M2, S2⟩ := hrel
        clear M1
        obtain ⟨hJ, hJ2, hJ3⟩ := tuJ_len (B := i0 + i1) (b := x) (s := P) (G := G1) HA3.out j (by rw [HML.out]; exact hj)
        have hJb : 9 * wd * j ≤ 9 * 20 * 8 := Nat.mul_le_mul (Nat.mul_le_mul_left _ hw) (by omega)
        by_cases hlt2 : j < n
        · have HJ0 := tuJ_succ (i0 + i1) x P (datas' rs1) G1 j
          unfold tuS at HJ0
          rw [HML.out, ← hd2] at HJ0
          have hqn : (j + P) % n < n := Nat.mod_lt _ (by omega)
          obtain ⟨Q, eQ⟩ : ∃ Q, Q = (j + P) % n := ⟨_, rfl⟩
          rw [← eQ] at HJ0 hqn
          have t3 : ((j : Int) + (P : Int)).tmod (n : Int) = (Q : Int) := by rw [Int.tmod_eq_emod_of_nonneg (by omega), eQ]; simp
          have t3b : ((j : Int) + (P : Int)) % (n : Int) = (Q : Int) := by rw [eQ]; simp
          have t4 : IntKind.i64.wrap ((j : Int) + (P : Int)) = (j : Int) + (P : Int) := IntWalk.i64_in _ (by omega)
          have t5 : IntKind.i64.wrap (Q : Int) = (Q : Int) := IntWalk.i64_in _ (by omega)
          have t6 : (((n : Nat) : Int) == 0) = false := by simp; omega
          have t7 : (((n : Nat) : Int) = 0) = False := by simp; omega
          have t8 : (n = 0) = False := by simp; omega
          have t9 : (n == 0) = false := by simp; omega
          clear eQ
          obtain ⟨gr, o_r, hgr, _, _⟩ := dc1.at j hlt2
          subst hgr
          have cj := (dc1.stp S2).cellsAt j hlt2
          have dj := dc1.innAt j hlt2
          have ck := (dc1.stp S2).cellsAt Q hqn
          have dk := dc1.innAt Q hqn
          rw [datas_getD _ j (by rw [← datas_len, HML.out]; exact hlt2), datas_getD _ Q (by rw [← datas_len, HML.out]; exact hqn)] at HJ0
          generalize hg2 : (tuJ (i0 + i1) x P (datas' rs1) G1 j).1 = G2 at *
          clear hg2
          have lj := HA3.out.at j (by rw [HML.out]; exact hlt2)
          have lk := HA3.out.at Q (by rw [HML.out]; exact hqn)
          rw [datas_getD _ _ (by rw [← datas_len, HML.out]; omega)] at lj lk
          have HDC := fun (W : World) (F' : List Nat) (s : Stp F1 wo F' W) => And.intro ((dc1.stp s).cellsAt Q hqn) ((dc1.stp s).cellsAt j hlt2)
          obtain ⟨rj, hrj⟩ : ∃ r, r = rowAt rs1 j := ⟨_, rfl⟩
          obtain ⟨rk, hrk⟩ : ∃ r, r = rowAt rs1 Q := ⟨_, rfl⟩
          rw [← hrj] at cj dj lj HJ0
          rw [← hrk] at ck dk lk HJ0
          simp only [← hrj, ← hrk] at HDC
          clear hrj hrk
          obtain ⟨ja, jc, JL⟩ := rj
          obtain ⟨ka, kc, KL⟩ := rk
          simp only at cj dj lj ck dk lk HJ0 HDC
          have HDC2 := Lib.hid HDC
          clear HDC
          have lc := (chG_len (i0 + i1) x KL JL G2 KL.length).2
          obtain ⟨⟨G3, L⟩, hr3⟩ : ∃ r, r = chG (i0 + i1) x KL JL G2 KL.length := ⟨_, rfl⟩
          have HCH := Lib.hid hr3
          rw [← hr3] at HJ0 lc
          clear hr3
          simp only at HJ0 lc
          have HJ := Lib.hid HJ0
          clear HJ0
          rw [lj] at cj dj
          rw [lk] at ck dk lc
          have cn := HNH.out _ _ (S1.trans S2)
          go_wp2
          have z0 : (0 : Int) ≤ (Q : Int) := by omega
          have z1 : (Q : Int) < (n : Int) := by omega
          have z2 : (0 : Int) ≤ (j : Int) := by omega
          have z3 : (j : Int) < (n : Int) := by omega
          go_region_held3 (fun W => W.cell? ⟨nb, 0, none⟩ = some (.int .i64 n) ∧ W.cell? ⟨gr, o_r + Q, none⟩ = some (.slice ka wd kc) ∧ W.cell? ⟨gr, o_r + j, none⟩ = some (.slice ja wd jc))
            (first | go_keep | exact (by have hh := HDC2.out _ _ (Stp.onto (Stp.alloc (S2.drew.trans s3) _) (Only.of_grown ga) (fun k hk => ((ro.drew.stp s3).out.feet k hk).1)); rw [lj, lk] at hh; exact ⟨HNH.out _ _ (S1.trans (Stp.onto (Stp.alloc (S2.drew.trans s3) _) (Only.of_grown ga) (fun k hk => ((ro.drew.stp s3).out.feet k hk).1))), hh.1, hh.2⟩) | exact (by have hh := HDC2.out _ _ (S2.drew.trans s3); rw [lj, lk] at hh; exact ⟨HNH.out _ _ (S1.trans (S2.drew.trans s3)), hh.1, hh.2⟩))
            (first | (go_at_call 41; refine (choose_any x _ wd _ _ _ wd _ _ b g i0 i1 G2 F2 _ M2.drew (Nat.le_trans hb1 S2.size) h0 h1 ((dk.stp S2).below ((Below.refl _ _).drew)) ((dj.stp S2).below ((Below.refl _ _).drew)) (Nat.le_refl _) (by omega) (by omega)).mono ?_; rintro e w3 ⟨a3, c3, F3, rfl, o3, d3, M3, s3⟩) | (refine step_appR _ (by rfl) _ _ (by rfl) wo.heap.size _ j _ _ (by rfl) (RwO.alloc (ro.drew.stp s3) _).out _ 1 (a3, c3, L) (by rfl) (RowC.litR _ _ _ (rowV_of lc) _) (by omega) (by have := (S2.drew.trans s3).size; simp; omega) ?_; intro aa ca wa oo _ ga ma))
          all_goals have ro3 := ro.drew.stp s3
          all_goals have Oa := Only.of_grown ga
          all_goals have Ma := Mk.only (Mk.alloc M3 _) Oa ro3.dis
          all_goals have Sa := (Stp.onto (Stp.alloc (S2.drew.trans s3) _) (Only.of_grown ga) (fun k hk => ((ro.drew.stp s3).out.feet k hk).1))
          all_goals have hLe : L = (chG (i0 + i1) x KL JL G2 wd).2 := by have := HCH.out; rw [lk] at this; rw [← this]
          all_goals have hGe : G3 = (chG (i0 + i1) x KL JL G2 wd).1 := by have := HCH.out; rw [lk] at this; rw [← this]
          all_goals rw [← hLe] at o3
          all_goals rw [← hGe] at Ma
          all_goals have hrI := (o3.intD d3)
          all_goals have hrA := o3.away ro.drew.out (Nat.le_refl _)
          all_goals rw [← lc] at hrI hrA
          all_goals have hrB : ∀ y, 0 < L.length → a3 = some y → y.block ∉ foot a2 c2 := hrA
          all_goals have Ra := RwO.push (r := (a3, c3, L)) (RwO.alloc ro3 _) (fun k hk => by have := (M3.feet k hk).2; simp; omega) (hrI.below ((Below.refl _ _).alloc (Nat.le_refl _) _)) hrB oo ga ma
          all_goals clear cj ck cn ro M2 S2 s3 o3 d3 M3 ro3 Oa oo ga ma hrI hrA hrB hLe hGe
          go_wp2
          go_roundw
          case rel => exact ⟨j + 1, _, by omega, by go_num, ⟨_, _, _, rfl, Ra, by rw [datas_push, HJ.out]⟩, by rw [HJ.out]; exact Ma, Sa⟩
          case measure => simp [intOf]; omega
        · obtain rfl : j = n := by omega
          have HD2 := Lib.hid hd2
          clear hd2
          have rd := ro.rwD
          have ST := S1.trans S2
          clear ro S2 S1 dc1
          have hge : ¬ (j : Int) < (j : Int) := by omega
          go_wp2
          go_roundw
          case rel => exact ⟨k + 1, F2, by omega, by go_num, ⟨_, _, _, rfl, rd, by rw [HS.out]; exact HD2.out⟩, by rw [HS.out]; exact M2, ST⟩
          case measure => simp [intOf]; omega
    · obtain rfl : k = v := by omega
      have hge : ¬ (k : Int) < (k : Int) := by omega
      have HD := Lib.hid hd1
      clear hd1
      go_wp2_with fail
      refine (Concat_any _ _ _ rs1 wd _ ⟨dc1.row, fun r hr => (dc1.inn r hr).1⟩ hG3 (by omega) (by omega)).mono ?_; rintro e w3 ⟨a3, m3, c3, rfl, o3, u3⟩
      go_wp2
      go_ret
      exact ⟨_, _, _, F1, rfl, by rw [← HD.out]; exact o3.lower S1.size, Disj.of_rng o3.feet M1.feet (.inr (Nat.le_refl _)), M1.below u3, S1.below u3⟩
end Go.Proofs.Ytmbheimjphhamaa
namespace Go.Proofs.Ytmbheimjphhamaa
open Go.RowKit
theorem RwD.toNew {w w' : World} {a n c rs F0 F} (h : RwD w a n c rs F0) (u : Below w.heap.size w w') (hF : ∀ k ∈ F, w.heap.size ≤ k) : RwD w' a n c rs F :=
  ⟨h.row.below u, fun x hn hx hf => by have := h.row.lt (by decide) x hn hx; have := hF _ hf; omega, fun r hr => ⟨(h.inn r hr).1.below u, fun x hn hx hf => by have := ((h.inn r hr).1.range x hn hx).2; have := hF _ hf; omega⟩⟩
def memB (n w : Int) : Bool := inB n 1 8 && inB w 1 4 && decide (n * w ≤ 20)
set_option maxHeartbeats 4000000 in
theorem isMemory_any (n wd : Int) (w : World) :
    Calls Try.prog 67 #[.int .i64 n, .int .i64 wd] w fun e w' => e = .returned (.bool (memB n wd)) ∧ w = w' := by
  unfold memB
  cases h1 : inB n 1 8
  · simp only [Bool.false_and]
    go_enter Try.func67, Try.ntmps67
    go_wp2_with (first | (go_at_call 50; refine (within_any _ _ _ _).mono ?_; rintro e w' ⟨rfl, rfl⟩))
    go_ret
    exact ⟨rfl, rfl⟩
  · cases h2 : inB wd 1 4
    · simp only [Bool.false_and, Bool.and_false]
      go_enter Try.func67, Try.ntmps67
      go_wp2_with (first | (go_at_call 50; refine (within_any _ _ _ _).mono ?_; rintro e w' ⟨rfl, rfl⟩))
      go_ret
      exact ⟨rfl, rfl⟩
    · obtain ⟨a1, a2⟩ := inB_true h1
      obtain ⟨b1, b2⟩ := inB_true h2
      simp only [Bool.true_and]
      have p1 : 0 ≤ n * wd := Int.mul_nonneg (by omega) (by omega)
      have p2 : n * wd ≤ 8 * 4 := Int.mul_le_mul a2 b2 (by omega) (by omega)
      have t1 : IntKind.i64.wrap (n * wd) = n * wd := IntWalk.i64_in _ (by omega)
      go_enter Try.func67, Try.ntmps67
      go_wp2_with (first | (go_at_call 50; refine (within_any _ _ _ _).mono ?_; rintro e w' ⟨rfl, rfl⟩))
      go_ret
      exact ⟨rfl, rfl⟩
/-- What the closure of a circuit of cells does. -/
def CloP (f : Nat) (caps : Array Value) (w : World) (q n wd v more : Nat) (p : List Int × List Int) : Prop :=
  ∀ (W : World) (b g : Nat) (F : List Nat) (ca : Option Addr) (cc : Nat) (rs : List RowD) (ia : Option Addr) (ic : Nat),
    Below w.heap.size w W → Mk 82 W b g q ((v : Int) + more) [] F → b ≤ W.heap.size → (∀ k ∈ F, w.heap.size ≤ k) → RwD W ca n cc rs F → datas' rs = ceL wd n → IntD W ia v ic (spL (q : Int) v) F →
    Calls Try.prog f (#[.pointer (some ⟨g, 0, none⟩), .slice ca n cc, .slice ia v ic] ++ caps) W fun e W' => ∃ a1 m1 c1 F', e = .returned (.slice a1 m1 c1) ∧ Own W' W.heap.size a1 m1 c1 p.2 ∧ Disj (foot a1 c1) F' ∧ Mk 82 W' b g q ((v : Int) + more) p.1 F' ∧ Stp F W F' W'
set_option maxHeartbeats 8000000 in
set_option maxRecDepth 100000 in
theorem memory_no (n wd more : Int) (f : Nat) (caps : Array Value) (w : World) (hm : memB n wd = false) :
    Calls Try.prog 34 #[.int .i64 n, .int .i64 wd, .int .i64 more, .func (.func f) #[] caps] w fun e w' => e = .returned (.tuple #[.agg #[.int .i64 0, .int .i64 0, .slice none 0 0, .slice none 0 0], .bool false]) ∧ Below w.heap.size w w' := by
  have V1 : Below w.heap.size w (w.alloc (.cells #[.int .i64 0, .int .i64 0, .slice none 0 0, .slice none 0 0] 28)) := (Below.refl _ _).alloc (Nat.le_refl _) _
  have R1 : Blk (w.alloc (.cells #[.int .i64 0, .int .i64 0, .slice none 0 0, .slice none 0 0] 28)) w.heap.size 28 #[.int .i64 0, .int .i64 0, .slice none 0 0, .slice none 0 0] := Blk.new w _ _
  go_enter Try.func34, Try.ntmps34
  go_wp2_with fail
  refine (isMemory_any _ _ _).mono ?_; rintro e w' ⟨rfl, rfl⟩
  rw [hm]
  generalize (w.alloc (.cells #[.int .i64 0, .int .i64 0, .slice none 0 0, .slice none 0 0] 28)) = w1 at *
  have r0 : w1.cell? ⟨w.heap.size, 0, none⟩ = some (.int .i64 0) := R1.cell 0
  have r1 : w1.cell? ⟨w.heap.size, 1, none⟩ = some (.int .i64 0) := R1.cell 1
  have r2 : w1.cell? ⟨w.heap.size, 2, none⟩ = some (.slice none 0 0) := R1.cell 2
  have r3 : w1.cell? ⟨w.heap.size, 3, none⟩ = some (.slice none 0 0) := R1.cell 3
  have q0 : w1.frozen? ⟨w.heap.size, 0, none⟩ = false := R1.frozen 0
  have q1 : w1.frozen? ⟨w.heap.size, 1, none⟩ = false := R1.frozen 1
  have q2 : w1.frozen? ⟨w.heap.size, 2, none⟩ = false := R1.frozen 2
  have q3 : w1.frozen? ⟨w.heap.size, 3, none⟩ = false := R1.frozen 3
  go_wp2
  have GG := (((((Only.refl [w.heap.size] w1).setCell ⟨w.heap.size, 0, none⟩ (.int .i64 0) (by simp)).setCell ⟨w.heap.size, 1, none⟩ (.int .i64 0) (by simp)).setCell ⟨w.heap.size, 2, none⟩ (.slice none 0 0) (by simp)).setCell ⟨w.heap.size, 3, none⟩ (.slice none 0 0) (by simp))
  exact bodyPost_ret (v := .tuple #[.agg #[.int .i64 0, .int .i64 0, .slice none 0 0, .slice none 0 0], .bool false]) (by simp [results, Try.results34, go_sem, r0, r1, r2, r3]) rfl ⟨rfl, V1.trans (GG.below V1.size (by simp))⟩
set_option maxHeartbeats 8000000 in
set_option maxRecDepth 100000 in
theorem memory_yes (n wd more v : Nat) (f : Nat) (caps : Array Value) (p : List Int × List Int) (w : World) (hn : 1 ≤ n ∧ n ≤ 8) (hw : 1 ≤ wd ∧ wd ≤ 4) (hnw : n * wd ≤ 20) (hmo : more ≤ 4) (hv : wid (n : Int) = v) (hcl : CloP f caps w (n * wd) n wd v more p)
    (hf : ∀ args W, (callFunc f args).run Try.prog W = .ok (.enter f args) W) (hok : ciB ((n * wd : Nat) : Int) ((v : Int) + more) (p.1.length / 3) p.1 p.2 = true) :
    Calls Try.prog 34 #[.int .i64 n, .int .i64 wd, .int .i64 more, .func (.func f) #[] caps] w fun e w' => ∃ ga gn gc oa on oc, e = .returned (.tuple #[.agg #[.int .i64 ((n * wd : Nat) : Int), .int .i64 ((v : Int) + more), .slice ga gn gc, .slice oa on oc], .bool true]) ∧ OwnF 3 eGate w' w.heap.size ga gn gc p.1 ∧ Own w' w.heap.size oa on oc p.2 ∧ Disj (foot ga gc) (foot oa oc) ∧ Below w.heap.size w w' := by
  have hv3 : v ≤ 3 := by rw [← hv]; exact wid8 n hn.2
  obtain ⟨q, hq⟩ : ∃ q, q = n * wd := ⟨_, rfl⟩
  rw [← hq] at hnw hcl hok ⊢
  have t1 : IntKind.i64.wrap ((n : Int) * (wd : Int)) = (q : Int) := by rw [hq, Int.natCast_mul]; exact IntWalk.i64_in _ (by rw [← Int.natCast_mul, ← hq]; omega)
  have hmem : memB n wd = true := by unfold memB; rw [inB_yes (by omega) (by omega), inB_yes (by omega) (by omega)]; simp only [Bool.true_and, decide_eq_true_eq]; rw [← Int.natCast_mul, ← hq]; omega
  have HCL := Lib.hid hcl
  have HOK := Lib.hid hok
  have HV := Lib.hid hv
  clear hcl hok hv hq
  have t2 : IntKind.i64.wrap ((v : Int) + (more : Int)) = (v : Int) + (more : Int) := IntWalk.i64_in _ (by omega)
  go_enter Try.func34, Try.ntmps34
  go_wp2_with fail
  refine (isMemory_any _ _ _).mono ?_; rintro e w' ⟨rfl, rfl⟩
  rw [hmem]
  clear hmem
  go_wp2_with fail
  refine (indexWidth_any _ _ (by omega) (by omega)).mono ?_; rintro e w' ⟨rfl, rfl⟩
  rw [HV.out]
  go_wp2
  have V2 : Below w.heap.size w ((w.alloc (.cells #[.int .i64 0, .int .i64 0, .slice none 0 0, .slice none 0 0] 28)).alloc (.cells #[] 26)) := ((Below.refl _ _).alloc (Nat.le_refl _) _).alloc (by simp) _
  have R2 : Blk ((w.alloc (.cells #[.int .i64 0, .int .i64 0, .slice none 0 0, .slice none 0 0] 28)).alloc (.cells #[] 26)) w.heap.size 28 #[.int .i64 0, .int .i64 0, .slice none 0 0, .slice none 0 0] := (Blk.new w _ _).alloc _
  have Z2 : w.heap.size + 1 ≤ ((w.alloc (.cells #[.int .i64 0, .int .i64 0, .slice none 0 0, .slice none 0 0] 28)).alloc (.cells #[] 26)).heap.size := by simp
  generalize ((w.alloc (.cells #[.int .i64 0, .int .i64 0, .slice none 0 0, .slice none 0 0] 28)).alloc (.cells #[] 26)) = w2 at *
  go_loopw [11, 23] (fun y u wr => ∃ i, i ≤ n ∧ u = .int .i64 (i : Nat) ∧ (∃ a1 c1 rs, y = .slice a1 i c1 ∧ RwO wr w2.heap.size a1 i c1 rs [] ∧ datas' rs = ceL wd i) ∧ Below w2.heap.size w2 wr) (fun _ u _ => n - (intOf u).toNat)
  case atStart => exact ⟨0, Nat.zero_le _, rfl, ⟨_, _, [], rfl, RwO.nil _ _ _ _, rfl⟩, Below.refl _ _⟩
  case round =>
    obtain ⟨i, hk, rfl, ⟨a1, c1, rs, rfl, ro, hd⟩, hbel⟩ := hrel
    by_cases hlt : i < n
    · obtain ⟨m, hm⟩ : ∃ m, m = i * wd := ⟨_, rfl⟩
      have hmb : m ≤ 8 * 4 := by rw [hm]; exact Nat.mul_le_mul (by omega) hw.2
      have t3 : IntKind.i64.wrap ((i : Int) * (wd : Int)) = (m : Int) := by rw [hm, Int.natCast_mul]; exact IntWalk.i64_in _ (by rw [← Int.natCast_mul, ← hm]; omega)
      have HS : Hid (ceL wd (i + 1) = ceL wd i ++ [spL (m : Int) wd]) := Lib.hid (by rw [ceL_succ, hm, Int.natCast_mul])
      have HD := Lib.hid hd
      clear hm hd
      go_wp2_with fail
      refine (span_any (m : Int) wd _ (by omega) (by omega)).mono ?_; rintro e w3 ⟨a3, c3, rfl, o3, u3⟩
      have ro3 := ro.below u3
      have b3 := hbel.trans (u3.mono hbel.size)
      have hrA := o3.away ro.out (Nat.le_refl _)
      have hrI : IntD w3 a3 wd c3 (spL (m : Int) wd) [] := ⟨o3.ints, fun _ _ _ h => by cases h⟩
      have lc : (spL (m : Int) wd).length = wd := spL_len _ _
      have HSP := Lib.hid (show spL (m : Int) wd = spL (m : Int) wd from rfl)
      obtain ⟨L, hL⟩ : ∃ L, L = spL (m : Int) wd := ⟨_, rfl⟩
      rw [← hL] at hrI lc HS
      clear hL HSP o3 u3 ro hbel
      go_wp2_with (at_builtin; refine wpList_appR _ rfl _ _ rfl w2.heap.size _ i _ _ rfl (RwO.alloc ro3 _).out _ 1 (a3, c3, L) rfl (RowC.litR _ _ _ (rowV_of lc) _) (by omega) (by have := b3.size; simp; omega) ?_)
      intro aa ca wa oo ba ga ma
      rw [← lc] at hrI hrA
      have hrB : ∀ y, 0 < L.length → a3 = some y → y.block ∉ foot a1 c1 := hrA
      have Ra := RwO.push (r := (a3, c3, L)) (RwO.alloc ro3 _) (fun k hk => by cases hk) (hrI.below ((Below.refl _ _).alloc (Nat.le_refl _) _)) hrB oo ga ma
      have Ba := (b3.alloc b3.size _).trans ba
      clear ro3 b3 hrI hrA hrB oo ba ga ma
      have HLC := Lib.hid lc
      clear lc
      go_wp2
      go_roundw
      case rel => exact ⟨i + 1, by omega, by go_num, ⟨_, _, _, rfl, Ra, by rw [datas_push, HS.out, HD.out]⟩, Ba⟩
      case measure => simp [intOf]; omega
    · obtain rfl : i = n := by omega
      have HD := Lib.hid hd
      clear hd
      have hge : ¬ (i : Int) < (i : Int) := by omega
      have rd := ro.rwD
      have R3 := R2.below hbel
      have V3 := V2.trans (hbel.mono V2.size)
      have Z3 : w.heap.size + 1 ≤ wr.heap.size := Nat.le_trans Z2 hbel.size
      clear ro R2 V2 Z2 hbel
      go_wp2_with fail
      have u4 : Below wr.heap.size wr (wr.alloc (.cells #[.int .i64 (q : Int), .int .i64 ((v : Int) + (more : Int)), .slice none 0 0, .slice none 0 0] 82)) := (Below.refl _ _).alloc (Nat.le_refl _) _
      have M4 : Mk 82 (wr.alloc (.cells #[.int .i64 (q : Int), .int .i64 ((v : Int) + (more : Int)), .slice none 0 0, .slice none 0 0] 82)) wr.heap.size wr.heap.size q ((v : Int) + more) [] [wr.heap.size] := Mk.new 82 wr wr.heap.size q ((v : Int) + more) (Nat.le_refl _)
      have Z4 : wr.heap.size + 1 ≤ (wr.alloc (.cells #[.int .i64 (q : Int), .int .i64 ((v : Int) + (more : Int)), .slice none 0 0, .slice none 0 0] 82)).heap.size := by simp
      have rd4 : RwD _ _ i _ _ [wr.heap.size] := rd.toNew u4 (fun k hk => by simp at hk; omega)
      have R4 := R3.below u4
      have V4 := V3.trans (u4.mono V3.size)
      clear R3 V3 rd u4
      generalize (wr.alloc (.cells #[.int .i64 (q : Int), .int .i64 ((v : Int) + (more : Int)), .slice none 0 0, .slice none 0 0] 82)) = w4 at *
      generalize wr.heap.size = g at *
      refine (span_any (q : Int) v _ (by omega) (by omega)).mono ?_; rintro e w5 ⟨xa, xc, rfl, ox, u5⟩
      have M5 := M4.below u5
      have rd5 := rd4.below u5
      have dx := ox.intD (Disj.of_rng ox.feet M4.feet (.inr (Nat.le_refl _)))
      have R5 := R4.below u5
      have V5 := V4.trans (u5.mono V4.size)
      have Z5 := u5.size
      clear R4 V4 rd4 ox M4 u5
      have HC := Lib.hid (HCL.out w5 g g [g] _ _ rs _ _ V5 M5 (by omega) (fun k hk => by simp at hk; omega) rd5 HD.out dx)
      clear M5 rd5 dx
      go_wp2_with fail
      refine HC.out.mono ?_; rintro e w6 ⟨oa, on, oc, F6, rfl, oo, dd, M6, s6⟩
      clear HC HCL
      obtain ⟨ga, gn, gc, hB, ho, hg, hbg, hF⟩ := M6
      have x3 := hB.cell 3
      have y3 := hB.frozen 3
      have hgn := ho.len
      have HOK2 : Hid (ciB (q : Int) ((v : Int) + more) gn p.1 p.2 = true) := Lib.hid (by have := HOK.out; rw [hgn, Nat.mul_div_cancel _ (by decide)] at this; exact this)
      clear hgn HOK
      have R6 := R5.only s6.only (by simp; omega)
      have V6 := V5.trans (s6.out (B := w.heap.size) V5.size (by simp; omega))
      have Z6 := s6.size
      have O7 : Only [g] w6 (w6.setCell ⟨g, 3, none⟩ (.slice oa on oc)) := (Only.refl _ _).setCell _ _ (by simp)
      have B7 : Blk (w6.setCell ⟨g, 3, none⟩ (.slice oa on oc)) g 82 #[.int .i64 (q : Int), .int .i64 ((v : Int) + (more : Int)), .slice ga gn gc, .slice oa on oc] := hB.set_ 3 _
      have R7 := R6.only O7 (by simp; omega)
      have ho7 := OwnF.only ho O7 (fun k hk hk' => hg (by simp at hk'; subst hk'; exact hk))
      have oo7 := Own.only oo O7 (fun k hk hk' => dd k hk (by rw [hF]; simp at hk'; subst hk'; simp))
      have hdd : Disj (foot ga gc) (foot oa oc) := fun k hk hk' => dd k hk' (by rw [hF]; exact List.mem_cons_of_mem _ hk)
      have V7 := V6.trans (O7.below V6.size (by simp; omega))
      clear hB ho oo dd s6 R5 R6 V6 V5 O7 hF hg hbg
      have z0 : (w6.setCell ⟨g, 3, none⟩ (.slice oa on oc)).cell? ⟨g, 0, none⟩ = some (.int .i64 (q : Int)) := B7.cell 0
      have z1 : (w6.setCell ⟨g, 3, none⟩ (.slice oa on oc)).cell? ⟨g, 1, none⟩ = some (.int .i64 ((v : Int) + (more : Int))) := B7.cell 1
      have z2 : (w6.setCell ⟨g, 3, none⟩ (.slice oa on oc)).cell? ⟨g, 2, none⟩ = some (.slice ga gn gc) := B7.cell 2
      have z3 : (w6.setCell ⟨g, 3, none⟩ (.slice oa on oc)).cell? ⟨g, 3, none⟩ = some (.slice oa on oc) := B7.cell 3
      go_wp2_with fail
      clear x3 y3 z0 z1 z2 z3 B7
      generalize (w6.setCell ⟨g, 3, none⟩ (.slice oa on oc)) = w7 at *
      refine (valid_yes _ _ _ _ _ p.1 _ _ _ p.2 _ ho7.flat oo7.ints HOK2.out).mono ?_; rintro e w8 ⟨rfl, u8⟩
      have V8 := V7.trans (u8.mono V7.size)
      have R8 := R7.below u8
      have ho8 := ho7.below u8
      have oo8 := oo7.below u8
      have Q1 := Lib.hid ho8.feet
      have Q2 := Lib.hid oo8.feet
      clear V7 R7 ho7 oo7 u8
      have r0 : w8.cell? ⟨w.heap.size, 0, none⟩ = some (.int .i64 0) := R8.cell 0
      have r1 : w8.cell? ⟨w.heap.size, 1, none⟩ = some (.int .i64 0) := R8.cell 1
      have r2 : w8.cell? ⟨w.heap.size, 2, none⟩ = some (.slice none 0 0) := R8.cell 2
      have r3 : w8.cell? ⟨w.heap.size, 3, none⟩ = some (.slice none 0 0) := R8.cell 3
      have q0 : w8.frozen? ⟨w.heap.size, 0, none⟩ = false := R8.frozen 0
      have q1 : w8.frozen? ⟨w.heap.size, 1, none⟩ = false := R8.frozen 1
      have q2 : w8.frozen? ⟨w.heap.size, 2, none⟩ = false := R8.frozen 2
      have q3 : w8.frozen? ⟨w.heap.size, 3, none⟩ = false := R8.frozen 3
      go_wp2
      have GG := (((((Only.refl [w.heap.size] w8).setCell ⟨w.heap.size, 0, none⟩ (.int .i64 (q : Int)) (by simp)).setCell ⟨w.heap.size, 1, none⟩ (.int .i64 ((v : Int) + (more : Int))) (by simp)).setCell ⟨w.heap.size, 2, none⟩ (.slice ga gn gc) (by simp)).setCell ⟨w.heap.size, 3, none⟩ (.slice oa on oc) (by simp))
      exact bodyPost_ret (v := .tuple #[.agg #[.int .i64 (q : Int), .int .i64 ((v : Int) + (more : Int)), .slice ga gn gc, .slice oa on oc], .bool true]) (by simp [results, Try.results34, go_sem, r0, r1, r2, r3]) rfl ⟨_, _, _, _, _, _, rfl, (ho8.only GG (fun k hk hk' => by have := Q1.out k hk; simp at hk'; omega)).lower (by omega), (oo8.only GG (fun k hk hk' => by have := Q2.out k hk; simp at hk'; omega)).lower (by omega), hdd, V8.trans (GG.below V8.size (by simp))⟩
end Go.Proofs.Ytmbheimjphhamaa
