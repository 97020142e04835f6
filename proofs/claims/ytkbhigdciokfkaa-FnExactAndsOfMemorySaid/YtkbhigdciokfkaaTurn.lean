/- The turn of cells; rows joined. -/
import Derived.Test.YtkbhigdciokfkaaTree
import Derived.Lib.AppendZeros
namespace Go.Proofs.Ytkbhigdciokfkaa
open Go.RowKit
set_option maxHeartbeats 4000000 in
set_option maxRecDepth 100000 in
theorem Grow_nil (n : Nat) (w : World) (h0 : 0 < n) (h1 : n ≤ 1000000) :
    Calls Try.prog 102 #[.slice none 0 0, .int .i64 n] w fun e w' => ∃ a c, e = .returned (.slice a 0 c) ∧ Own w' w.heap.size a 0 c [] ∧ Below w.heap.size w w' := by
  obtain ⟨i0, hi, hz0, hz1, hz2⟩ := info_parts info_int
  have hG := grownCap_ge w n 0 3
  have hG2 := grownCap_le_maxLen w n 0 3 (by unfold maxLen; omega)
  have hr : ∀ ty, (Builtin.append_ #[23, 3] ty #[.slice none 0 0, .int .i64 n]).run Try.prog w = .ok (.slice (some ⟨w.heap.size, 0, none⟩) n (grownCap w n 0 3)) (w.drew.alloc (.cells (Builtin.zeroCells (Value.int .i64 0).cells n ++ Builtin.zeroCells (Value.int .i64 0).cells (grownCap w n 0 3 - n)) 3)) := fun ty =>
    Lib.run_append_nil_zeros w 23 3 ty 3 i0 (.int .i64 0) .i64 .i64 Try.underlying23 Try.underlying3 hi hz0 n h0 (by rw [hz1]; decide) (by omega) (by rw [hz2]; omega)
  have hs : (Builtin.zeroCells (Value.int .i64 0).cells n ++ Builtin.zeroCells (Value.int .i64 0).cells (grownCap w n 0 3 - n)).size = grownCap w n 0 3 := by
    have e : ∀ k, (Builtin.zeroCells (Value.int .i64 0).cells k).size = k := fun k => by unfold Builtin.zeroCells; simp [Value.cells]
    rw [Array.size_append, e, e]; omega
  have HO : Own (w.drew.alloc (.cells (Builtin.zeroCells (Value.int .i64 0).cells n ++ Builtin.zeroCells (Value.int .i64 0).cells (grownCap w n 0 3 - n)) 3)) w.heap.size (some ⟨w.heap.size, 0, none⟩) 0 (grownCap w n 0 3) [] :=
    ⟨by simp, Nat.zero_le _, hG2, fun h => (by cases h), fun _ => ⟨w.heap.size, _, rfl, Nat.le_refl _, heap_alloc_new w.drew _, by rw [hs, Nat.mul_one], by simp⟩⟩
  have HB : Below w.heap.size w (w.drew.alloc (.cells (Builtin.zeroCells (Value.int .i64 0).cells n ++ Builtin.zeroCells (Value.int .i64 0).cells (grownCap w n 0 3 - n)) 3)) := ((Below.refl _ _).drew).alloc (Nat.le_refl _) _
  have HOH := Lib.hid HO
  have HBH := Lib.hid HB
  clear HO HB hs hz0 hz1 hz2 hi
  obtain ⟨G, hGe⟩ : ∃ G, G = grownCap w n 0 3 := ⟨_, rfl⟩
  rw [← hGe] at hG hG2 hr HOH HBH
  clear hGe
  have hG63 : (G : Int) ≤ 9223372036854775807 := by unfold maxLen at hG2; omega
  have hp : (0 : Int) < (n : Int) := by omega
  go_enter Try.func102, Try.ntmps102
  go_wp2_with (at_builtin; refine Lib.wpList_append_run _ rfl _ _ _ _ rfl _ _ rfl rfl _ _ (hr _) ?_)
  go_ret
  exact ⟨_, _, rfl, HOH.out, HBH.out⟩
theorem flat_take (l : List (List Int)) (k : Nat) (h : k < l.length) : (l.take (k + 1)).flatten = (l.take k).flatten ++ l.getD k [] := by
  rw [List.take_succ_eq_append_getElem h, List.flatten_append]
  simp [List.getD, h]
theorem flat_len {w : Nat} {l : List (List Int)} (h : AllL w l) (k : Nat) (hk : k ≤ l.length) : (l.take k).flatten.length = w * k := by
  induction k with
  | zero => simp
  | succ k ih => rw [flat_take l k (by omega), List.length_append, ih (by omega), h.at k (by omega), Nat.mul_add, Nat.mul_one]
set_option maxHeartbeats 4000000 in
set_option maxRecDepth 100000 in
theorem Concat_any (a : Option Addr) (n c : Nat) (rs : List RowD) (wd : Nat) (w : World) (h : IntSS w a n c rs) (hA : AllL wd (datas' rs)) (hn : 1 ≤ n ∧ n ≤ 100) (hw : 1 ≤ wd ∧ wd ≤ 100) :
    Calls Try.prog 62 #[.slice a n c] w fun e w' => ∃ a1 m1 c1, e = .returned (.slice a1 m1 c1) ∧ Own w' w.heap.size a1 m1 c1 (datas' rs).flatten ∧ Below w.heap.size w w' := by
  have HAL := Lib.hid hA
  have HR := Lib.hid h.len
  have hle := h.le
  clear hA
  go_enter Try.func62, Try.ntmps62
  go_wp2
  go_loop [3, 11] (fun y u => ∃ k q : Nat, k ≤ n ∧ u = .int .i64 k ∧ y = .int .i64 q ∧ wd * k = q) (fun _ u => n - (intOf u).toNat)
  case atStart => exact ⟨0, 0, Nat.zero_le _, rfl, rfl, Nat.mul_zero _⟩
  case round =>
    obtain ⟨k, q, hk, rfl, rfl, hq⟩ := hrel
    have hqb : q ≤ 100 * 100 := by rw [← hq]; exact Nat.mul_le_mul hw.2 (by omega)
    by_cases hlt : k < n
    · have HQ : Hid (wd * (k + 1) = q + wd) := Lib.hid (by rw [Nat.mul_add, hq, Nat.mul_one])
      clear hq
      obtain ⟨g, o, rfl, hc, _⟩ := h.at k hlt
      have hl := HAL.out.at k (by rw [datas_len, HR.out]; exact hlt)
      rw [datas_getD _ _ (by rw [HR.out]; exact hlt)] at hl
      rw [hl] at hc
      clear hl
      go_wp2
      go_round
      case rel => exact ⟨k + 1, q + wd, by omega, by go_num, by go_num, HQ.out⟩
      case measure => simp [intOf]; omega
    · obtain rfl : k = n := by omega
      have hq0 : 0 < q := by rw [← hq]; exact Nat.mul_pos (by omega) (by omega)
      have HQ := Lib.hid hq
      clear hq
      go_wp2_with fail
      refine (Grow_nil q _ hq0 (by omega)).mono ?_; rintro e w2 ⟨ga, gc, rfl, og, u2⟩
      have h2 := h.below u2
      go_wp2
      go_loopw [6, 27] (fun y u wr => ∃ j a1 c1 : _, ∃ m1 : Nat, j ≤ k ∧ u = .int .i64 (j : Nat) ∧ y = .slice a1 m1 c1 ∧ Own wr w.heap.size a1 m1 c1 ((datas' rs).take j).flatten ∧ Below w.heap.size w wr) (fun _ u _ => k - (intOf u).toNat)
      case atStart => exact ⟨0, _, _, _, Nat.zero_le _, rfl, rfl, og, u2⟩
      case round =>
        obtain ⟨j, a1, c1, m1, hj, rfl, rfl, own, hbel⟩ := hrel
        clear og
        by_cases hlt2 : j < k
        · have hjl : j < (datas' rs).length := by rw [datas_len, HR.out]; exact hlt2
          have HF := Lib.hid (flat_take (datas' rs) j hjl)
          have hfl := flat_len HAL.out j (Nat.le_of_lt hjl)
          have hm1 : m1 ≤ 100 * 100 := by rw [own.len, hfl]; exact Nat.mul_le_mul hw.2 (by omega)
          rw [datas_getD _ _ (by rw [HR.out]; exact hlt2)] at HF
          obtain ⟨g, o, rfl, hc, hi⟩ := (h.below hbel).at j hlt2
          have hl := HAL.out.at j hjl
          rw [datas_getD _ _ (by rw [HR.out]; exact hlt2)] at hl
          rw [hl] at hc hi
          generalize rowAt rs j = r at *
          obtain ⟨ra, rc, L⟩ := r
          simp only at hc hi HF
          clear hl hfl
          go_wp2_with (at_builtin; refine wpList_appI _ rfl _ _ rfl w.heap.size a1 m1 c1 _ rfl own _ wd _ L rfl hi (by omega) hbel.size ?_)
          intro a5 c5 w5 o5 u5 _
          have b5 := hbel.trans u5
          clear own hbel u5 hc hi
          go_wp2
          go_roundw
          case rel => exact ⟨j + 1, a5, c5, _, by omega, by go_num, rfl, by rw [HF.out]; exact o5, b5⟩
          case measure => simp [intOf]; omega
        · obtain rfl : j = k := by omega
          rw [List.take_of_length_le (by rw [datas_len, HR.out]; exact Nat.le_refl _)] at own
          go_wp2
          go_ret
          exact ⟨_, _, _, rfl, own, hbel⟩
theorem pow8 (k : Nat) (h : k ≤ 8) : 2 ^ k ≤ 256 := by
  rcases (by omega : k = 0 ∨ k = 1 ∨ k = 2 ∨ k = 3 ∨ k = 4 ∨ k = 5 ∨ k = 6 ∨ k = 7 ∨ k = 8) with rfl | rfl | rfl | rfl | rfl | rfl | rfl | rfl | rfl <;> decide
set_option maxHeartbeats 8000000 in
set_option maxRecDepth 100000 in
theorem turn_any (ca : Option Addr) (n cc : Nat) (rs : List RowD) (ia : Option Addr) (v ic : Nat) (I : List Int) (wd : Nat) {oa : Option Addr} {on oc : Nat} (b g : Nat) (i0 i1 : Int) (G : List Int) (F : List Nat) (w : World) (h : Mk 81 w b g i0 i1 G F oa on oc) (hb : b ≤ w.heap.size) (h0 : 0 ≤ i0 ∧ i0 ≤ 1000) (h1 : 0 ≤ i1 ∧ i1 ≤ 1000) (dc : RwD w ca n cc rs F) (dx : IntD w ia v ic I F) (hA : AllL wd (datas' rs)) (hn : 1 ≤ n ∧ n ≤ 8) (hv : v ≤ 8) (hw : wd ≤ 20) (hl : G.length ≤ 1000) (nb : Nat) (hw1 : 1 ≤ wd) (hnb : w.cell? ⟨nb, 0, none⟩ = some (.int .i64 n)) (hnF : nb ∉ F) :
    Calls Try.prog 61 #[.pointer (some ⟨g, 0, none⟩), .slice ca n cc, .slice ia v ic, .pointer (some ⟨nb, 0, none⟩)] w fun e w' => ∃ a1 m1 c1 F', e = .returned (.slice a1 m1 c1) ∧ Own w' w.heap.size a1 m1 c1 (tuG (i0 + i1) I (datas' rs) G v).2.flatten ∧ Disj (foot a1 c1) F' ∧ Mk 81 w' b g i0 i1 (tuG (i0 + i1) I (datas' rs) G v).1 F' oa on oc ∧ Stp F w F' w' := by
  have HAL := Lib.hid hA
  have HR := Lib.hid dc.len
  have hle := dc.le
  have hle2 := dx.ints.le
  clear hA
  have HNB : ∀ (W : World) (F' : List Nat), Stp F w F' W → W.cell? ⟨nb, 0, none⟩ = some (.int .i64 n) := fun W F' s => by
    have hb := s.only.block nb (World.block_lt_of_cell? w _ hnb) hnF
    simp only [World.cell?] at hnb ⊢
    rw [hb]; exact hnb
  have HNH := Lib.hid HNB
  clear HNB hnb
  go_enter Try.func61, Try.ntmps61
  go_wp2
  go_loopw [1, 14] (fun y u wr => ∃ k F1, k ≤ v ∧ u = .int .i64 (k : Nat) ∧ (∃ a1 c1 rs1, y = .slice a1 n c1 ∧ RwD wr a1 n c1 rs1 F1 ∧ datas' rs1 = (tuG (i0 + i1) I (datas' rs) G k).2) ∧ Mk 81 wr b g i0 i1 (tuG (i0 + i1) I (datas' rs) G k).1 F1 oa on oc ∧ Stp F w F1 wr) (fun _ u _ => v - (intOf u).toNat)
  case atStart => exact ⟨0, F, Nat.zero_le _, rfl, ⟨_, _, rs, rfl, dc, rfl⟩, h, Stp.refl _ _⟩
  case round =>
    obtain ⟨k, F1, hk, rfl, ⟨a1, c1, rs1, rfl, dc1, hd1⟩, M1, S1⟩ := hrel
    obtain ⟨hG, hG2, hG3⟩ := tuG_len (B := i0 + i1) (idx := I) (G := G) HAL.out k
    have hm := dc1.len
    have hml : (datas' rs1).length = n := by rw [datas_len]; exact hm
    rw [← hd1] at hG3
    have hGb : 9 * wd * (datas' rs).length * k ≤ 9 * 20 * 8 * 8 := by
      rw [datas_len, HR.out]; exact Nat.mul_le_mul (Nat.mul_le_mul (Nat.mul_le_mul_left _ hw) hn.2) (by omega)
    by_cases hlt : k < v
    · obtain ⟨wo, rfl⟩ : ∃ wo, wo = wr := ⟨_, rfl⟩
      have HS0 := tuG_succ (i0 + i1) I (datas' rs) G k
      rw [← hd1, hml] at HS0
      obtain ⟨gx, ox, hgx, _⟩ := dx.ints.at k hlt
      subst hgx
      have cx := (dx.stp S1).ints.cellsAt k hlt
      generalize I.getD k 0 = x at *
      generalize hg1 : (tuG (i0 + i1) I (datas' rs) G k).1 = G1 at *
      have hP := pow8 k (by omega)
      obtain ⟨P, eP⟩ : ∃ P : Nat, P = 2 ^ k := ⟨_, rfl⟩
      rw [← eP] at HS0 hP
      have t1 : IntKind.i64.wrap (1 * 2 ^ k) = (P : Int) := by rw [Int.one_mul, show (2 : Int) ^ k = ((2 ^ k : Nat) : Int) by simp, ← eP]; exact IntWalk.i64_in _ (by omega)
      have t2 : IntKind.u64.wrap (k : Int) = (k : Int) := IntWalk.u64_in _ (by omega)
      have t1b : IntKind.i64.wrap (2 ^ k) = (P : Int) := by rw [← t1, Int.one_mul]
      have t1d : IntKind.i64.wrap (P : Int) = (P : Int) := IntWalk.i64_in _ (by omega)
      have t1c : ((2 : Int) ^ k) = (P : Int) := by rw [eP]; simp
      have HS := Lib.hid HS0
      clear HS0 hg1 hd1 eP
      have HA3 := Lib.hid hG3
      have HML := Lib.hid hml
      clear hG3 hml
      have hb1 : b ≤ wo.heap.size := Nat.le_trans hb S1.size
      go_wp2
      clear cx
      go_loopw [10, 22] (fun y u wx => ∃ j F2, j ≤ n ∧ u = .int .i64 (j : Nat) ∧ (∃ a2 c2 rs2, y = .slice a2 j c2 ∧ RwO wx wo.heap.size a2 j c2 rs2 F2 ∧ datas' rs2 = (tuJ (i0 + i1) x P (datas' rs1) G1 j).2) ∧ Mk 81 wx b g i0 i1 (tuJ (i0 + i1) x P (datas' rs1) G1 j).1 F2 oa on oc ∧ Stp F1 wo F2 wx) (fun _ u _ => n - (intOf u).toNat)
      case atStart => exact ⟨0, F1, by omega, rfl, ⟨_, _, [], rfl, RwO.nil _ _ _ _, rfl⟩, M1.alloc _, (Stp.refl _ _).alloc _⟩
      case round =>
        obtain ⟨j, F2, hj, rfl, ⟨a2, c2, rs2, rfl, ro, hd2⟩, M2, S2⟩ := hrel
        clear M1
        obtain ⟨hJ, hJ2, hJ3⟩ := tuJ_len (B := i0 + i1) (b := x) (s := P) (G := G1) HA3.out j (by rw [HML.out]; exact hj)
        have hJb : 9 * wd * j ≤ 9 * 20 * 8 := Nat.mul_le_mul (Nat.mul_le_mul_left _ hw) (by omega)
        by_cases hlt2 : j < n
        · have HJ0 := tuJ_succ (i0 + i1) x P (datas' rs1) G1 j
          unfold tuS at HJ0
          rw [HML.out, ← hd2] at HJ0
          have hqn : (j + P) % n < n := Nat.mod_lt _ (by omega)
          obtain ⟨Q, eQ⟩ : ∃ Q, Q = (j + P) % n := ⟨_, rfl⟩
          rw [← eQ] at HJ0 hqn
          have t3 : ((j : Int) + (P : Int)).tmod (n : Int) = (Q : Int) := by rw [Int.tmod_eq_emod_of_nonneg (by omega), eQ]; simp
          have t3b : ((j : Int) + (P : Int)) % (n : Int) = (Q : Int) := by rw [eQ]; simp
          have t4 : IntKind.i64.wrap ((j : Int) + (P : Int)) = (j : Int) + (P : Int) := IntWalk.i64_in _ (by omega)
          have t5 : IntKind.i64.wrap (Q : Int) = (Q : Int) := IntWalk.i64_in _ (by omega)
          have t6 : (((n : Nat) : Int) == 0) = false := by simp; omega
          have t7 : (((n : Nat) : Int) = 0) = False := by simp; omega
          have t8 : (n = 0) = False := by simp; omega
          have t9 : (n == 0) = false := by simp; omega
          clear eQ
          obtain ⟨gr, o_r, hgr, _, _⟩ := dc1.at j hlt2
          subst hgr
          have cj := (dc1.stp S2).cellsAt j hlt2
          have dj := dc1.innAt j hlt2
          have ck := (dc1.stp S2).cellsAt Q hqn
          have dk := dc1.innAt Q hqn
          rw [datas_getD _ j (by rw [← datas_len, HML.out]; exact hlt2), datas_getD _ Q (by rw [← datas_len, HML.out]; exact hqn)] at HJ0
          generalize hg2 : (tuJ (i0 + i1) x P (datas' rs1) G1 j).1 = G2 at *
          clear hg2
          have lj := HA3.out.at j (by rw [HML.out]; exact hlt2)
          have lk := HA3.out.at Q (by rw [HML.out]; exact hqn)
          rw [datas_getD _ _ (by rw [← datas_len, HML.out]; omega)] at lj lk
          have HDC := fun (W : World) (F' : List Nat) (s : Stp F1 wo F' W) => And.intro ((dc1.stp s).cellsAt Q hqn) ((dc1.stp s).cellsAt j hlt2)
          obtain ⟨rj, hrj⟩ : ∃ r, r = rowAt rs1 j := ⟨_, rfl⟩
          obtain ⟨rk, hrk⟩ : ∃ r, r = rowAt rs1 Q := ⟨_, rfl⟩
          rw [← hrj] at cj dj lj HJ0
          rw [← hrk] at ck dk lk HJ0
          simp only [← hrj, ← hrk] at HDC
          clear hrj hrk
          obtain ⟨ja, jc, JL⟩ := rj
          obtain ⟨ka, kc, KL⟩ := rk
          simp only at cj dj lj ck dk lk HJ0 HDC
          have HDC2 := Lib.hid HDC
          clear HDC
          have lc := (chG_len (i0 + i1) x KL JL G2 KL.length).2
          obtain ⟨⟨G3, L⟩, hr3⟩ : ∃ r, r = chG (i0 + i1) x KL JL G2 KL.length := ⟨_, rfl⟩
          have HCH := Lib.hid hr3
          rw [← hr3] at HJ0 lc
          clear hr3
          simp only at HJ0 lc
          have HJ := Lib.hid HJ0
          clear HJ0
          rw [lj] at cj dj
          rw [lk] at ck dk lc
          have cn := HNH.out _ _ (S1.trans S2)
          go_wp2
          have z0 : (0 : Int) ≤ (Q : Int) := by omega
          have z1 : (Q : Int) < (n : Int) := by omega
          have z2 : (0 : Int) ≤ (j : Int) := by omega
          have z3 : (j : Int) < (n : Int) := by omega
          go_region_held3 (fun W => W.cell? ⟨nb, 0, none⟩ = some (.int .i64 n) ∧ W.cell? ⟨gr, o_r + Q, none⟩ = some (.slice ka wd kc) ∧ W.cell? ⟨gr, o_r + j, none⟩ = some (.slice ja wd jc))
            (first | go_keep | exact (by have hh := HDC2.out _ _ (Stp.onto (Stp.alloc (S2.drew.trans s3) _) (Only.of_grown ga) (fun k hk => ((ro.drew.stp s3).out.feet k hk).1)); rw [lj, lk] at hh; exact ⟨HNH.out _ _ (S1.trans (Stp.onto (Stp.alloc (S2.drew.trans s3) _) (Only.of_grown ga) (fun k hk => ((ro.drew.stp s3).out.feet k hk).1))), hh.1, hh.2⟩) | exact (by have hh := HDC2.out _ _ (S2.drew.trans s3); rw [lj, lk] at hh; exact ⟨HNH.out _ _ (S1.trans (S2.drew.trans s3)), hh.1, hh.2⟩))
            (first | (go_at_call 51; refine (choose_any x _ wd _ _ _ wd _ _ b g i0 i1 G2 F2 _ M2.drew (Nat.le_trans hb1 S2.size) h0 h1 ((dk.stp S2).below ((Below.refl _ _).drew)) ((dj.stp S2).below ((Below.refl _ _).drew)) (Nat.le_refl _) (by omega) (by omega)).mono ?_; rintro e w3 ⟨a3, c3, F3, rfl, o3, d3, M3, s3⟩) | (refine step_appR _ (by rfl) _ _ (by rfl) wo.heap.size _ j _ _ (by rfl) (RwO.alloc (ro.drew.stp s3) _).out _ 1 (a3, c3, L) (by rfl) (RowC.litR _ _ _ (rowV_of lc) _) (by omega) (by have := (S2.drew.trans s3).size; simp; omega) ?_; intro aa ca wa oo _ ga ma))
          all_goals have ro3 := ro.drew.stp s3
          all_goals have Oa := Only.of_grown ga
          all_goals have Ma := Mk.only (Mk.alloc M3 _) Oa ro3.dis
          all_goals have Sa := (Stp.onto (Stp.alloc (S2.drew.trans s3) _) (Only.of_grown ga) (fun k hk => ((ro.drew.stp s3).out.feet k hk).1))
          all_goals have hLe : L = (chG (i0 + i1) x KL JL G2 wd).2 := by have := HCH.out; rw [lk] at this; rw [← this]
          all_goals have hGe : G3 = (chG (i0 + i1) x KL JL G2 wd).1 := by have := HCH.out; rw [lk] at this; rw [← this]
          all_goals rw [← hLe] at o3
          all_goals rw [← hGe] at Ma
          all_goals have hrI := (o3.intD d3)
          all_goals have hrA := o3.away ro.drew.out (Nat.le_refl _)
          all_goals rw [← lc] at hrI hrA
          all_goals have hrB : ∀ y, 0 < L.length → a3 = some y → y.block ∉ foot a2 c2 := hrA
          all_goals have Ra := RwO.push (r := (a3, c3, L)) (RwO.alloc ro3 _) (fun k hk => by have := (M3.feet k hk).2; simp; omega) (hrI.below ((Below.refl _ _).alloc (Nat.le_refl _) _)) hrB oo ga ma
          all_goals clear cj ck cn ro M2 S2 s3 o3 d3 M3 ro3 Oa oo ga ma hrI hrA hrB hLe hGe
          go_wp2
          go_roundw
          case rel => exact ⟨j + 1, _, by omega, by go_num, ⟨_, _, _, rfl, Ra, by rw [datas_push, HJ.out]⟩, by rw [HJ.out]; exact Ma, Sa⟩
          case measure => simp [intOf]; omega
        · obtain rfl : j = n := by omega
          have HD2 := Lib.hid hd2
          clear hd2
          have rd := ro.rwD
          have ST := S1.trans S2
          clear ro S2 S1 dc1
          have hge : ¬ (j : Int) < (j : Int) := by omega
          go_wp2
          go_roundw
          case rel => exact ⟨k + 1, F2, by omega, by go_num, ⟨_, _, _, rfl, rd, by rw [HS.out]; exact HD2.out⟩, by rw [HS.out]; exact M2, ST⟩
          case measure => simp [intOf]; omega
    · obtain rfl : k = v := by omega
      have hge : ¬ (k : Int) < (k : Int) := by omega
      have HD := Lib.hid hd1
      clear hd1
      go_wp2_with fail
      refine (Concat_any _ _ _ rs1 wd _ ⟨dc1.row, fun r hr => (dc1.inn r hr).1⟩ hG3 (by omega) (by omega)).mono ?_; rintro e w3 ⟨a3, m3, c3, rfl, o3, u3⟩
      go_wp2
      go_ret
      exact ⟨_, _, _, F1, rfl, by rw [← HD.out]; exact o3.lower S1.size, Disj.of_rng o3.feet M1.feet (.inr (Nat.le_refl _)), M1.below u3, S1.below u3⟩
end Go.Proofs.Ytkbhigdciokfkaa
