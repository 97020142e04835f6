/- Lemmas and walks that the claim's proof rests on, part 9. -/
import Derived.Deep.DeepCutAuto
import Derived.Test.YtchmakepglaijaaGreatK2
import Derived.Test.YtchmakepglaijaaGreatK3
import Derived.Test.YtchmakepglaijaaGreatK5
import Derived.Test.YtchmakepglaijaaGreatK6
import Derived.Test.YtchmakepglaijaaGreatK8
namespace Go.Proofs.YtchmakepglaijaaGreat
open Go.RowKit
set_option maxHeartbeats 8000000 in
set_option maxRecDepth 100000 in
theorem reduceCircuit_any (p : Int) (w : World) (hp : 2 ≤ p) (hp2 : p ≤ 256) :
    Calls Tryz.prog 48 #[.int .i64 p] w fun e w' => ∃ ga gn gc oa on oc, e = .returned (.agg #[.int .i64 (wid p), .int .i64 (wid p), .slice ga gn gc, .slice oa on oc]) ∧ OwnF 3 eGate w' w.heap.size ga gn gc (reG p) ∧ Own w' w.heap.size oa on oc (reO p) ∧ Disj (foot ga gc) (foot oa oc) ∧ Below w.heap.size w w' := by
  obtain ⟨n, hn⟩ : ∃ n, n = wid p := ⟨_, rfl⟩
  have hn8 := wid_le p
  have hn1 := wid_cases p
  rw [← hn] at hn8 hn1
  replace hn1 : 1 ≤ n := by omega
  unfold reG reO
  rw [← hn]
  have e1 : Hid (((n : Int) + 1) = ((n + 1 : Nat) : Int)) := rfl
  go_enter Tryz.func48, Tryz.ntmps48
  go_wp2_with fail
  refine (widthFor_any p _ (by omega) hp2).mono ?_; rintro e w' ⟨rfl, rfl⟩
  rw [← hn]
  clear hn
  go_wp2_with fail
  have R3 : Blk ((w.alloc (.cells #[.int .i64 0, .int .i64 0, .slice none 0 0, .slice none 0 0] 49)).alloc (.cells #[.int .i64 (n : Int), .int .i64 (n : Int), .slice none 0 0, .slice none 0 0] 94)) w.heap.size 49 #[.int .i64 0, .int .i64 0, .slice none 0 0, .slice none 0 0] := (Blk.new w _ _).alloc _
  have M3 : Mk 94 ((w.alloc (.cells #[.int .i64 0, .int .i64 0, .slice none 0 0, .slice none 0 0] 49)).alloc (.cells #[.int .i64 (n : Int), .int .i64 (n : Int), .slice none 0 0, .slice none 0 0] 94)) (w.heap.size + 1) (w.heap.size + 1) n n [] [w.heap.size + 1] := by simpa using Mk.new 94 (w.alloc (.cells #[.int .i64 0, .int .i64 0, .slice none 0 0, .slice none 0 0] 49)) (w.heap.size + 1) (n : Int) (n : Int) (by simp)
  have V3 : Below w.heap.size w ((w.alloc (.cells #[.int .i64 0, .int .i64 0, .slice none 0 0, .slice none 0 0] 49)).alloc (.cells #[.int .i64 (n : Int), .int .i64 (n : Int), .slice none 0 0, .slice none 0 0] 94)) := ((Below.refl _ _).alloc (Nat.le_refl _) _).alloc (by simp) _
  have Z3 : w.heap.size + 1 + 1 ≤ ((w.alloc (.cells #[.int .i64 0, .int .i64 0, .slice none 0 0, .slice none 0 0] 49)).alloc (.cells #[.int .i64 (n : Int), .int .i64 (n : Int), .slice none 0 0, .slice none 0 0] 94)).heap.size := by simp
  generalize ((w.alloc (.cells #[.int .i64 0, .int .i64 0, .slice none 0 0, .slice none 0 0] 49)).alloc (.cells #[.int .i64 (n : Int), .int .i64 (n : Int), .slice none 0 0, .slice none 0 0] 94)) = w3 at *
  refine (span_any 0 n _ (by omega) (by omega)).mono ?_; rintro e w4 ⟨xa, xc, rfl, oa4, u4⟩
  go_wp2_with fail
  refine (span_any n n _ (by omega) (by omega)).mono ?_; rintro e w5 ⟨ya, yc, rfl, ob5, u5⟩
  have M4 := M3.below u4
  have M5 := M4.below u5
  have R5 := (R3.below u4).below u5
  have V5 := (V3.trans (u4.mono V3.size)).trans (u5.mono (V3.trans (u4.mono V3.size)).size)
  have Z5 : w.heap.size + 1 + 1 ≤ w5.heap.size := Nat.le_trans Z3 (Nat.le_trans u4.size u5.size)
  have dA := (oa4.below u5).intD (Disj.of_rng oa4.feet M3.feet (.inr (Nat.le_refl _)))
  have dB := ob5.intD (Disj.of_rng ob5.feet M4.feet (.inr (Nat.le_refl _)))
  clear oa4 ob5 u4 u5 M3 M4 R3 V3 Z3
  go_wp2_with fail
  have h0 : (0 : Int) ≤ (n : Int) ∧ (n : Int) ≤ 1000 := by omega
  have L1 := adG_len ((n : Int) + n) (spL 0 n) (spL n n) [] n
  refine (add_any _ n _ _ _ n _ _ (w.heap.size + 1) (w.heap.size + 1) n n [] _ w5 M5 (by omega) h0 h0 dA dB (Nat.le_refl _) (by omega) (by simp)).mono ?_; rintro e w6 ⟨sa, sc, F6, rfl, os6, ds6, M6, s6⟩
  clear dA dB M5
  obtain ⟨⟨G1, q1, z1⟩, hr1⟩ : ∃ r, r = adG ((n : Int) + n) (spL 0 n) (spL n n) [] n := ⟨_, rfl⟩
  rw [← hr1] at os6 M6 L1
  simp only [List.length_nil] at L1
  try rw [← hr1]
  have H1 : Hid (re1 n = (G1, q1, z1)) := hr1.symm
  clear hr1
  go_wp2_with (at_builtin; refine wpList_appJ _ rfl _ _ rfl w5.heap.size sa n sc q1 rfl (os6.alloc _) _ 1 1 [z1] rfl (Ints.lit1 _ _ _) (by omega) (by have := s6.size; simp; omega) ?_)
  intro ta tc w7 ot _ g7 m7
  have O7 := Only.of_grown g7
  have M7 := Mk.only (Mk.alloc M6 _) O7 ds6
  have s7 := Stp.onto (Stp.alloc s6 _) O7 (fun k hk => (os6.feet k hk).1)
  have dt : Disj (foot ta tc) F6 := m7.disj ds6 (fun k hk => by have := (M6.feet k hk).2; simp; omega)
  clear os6 ds6 M6 s6 O7 g7 m7
  go_wp2_with fail
  rw [e1.out]
  refine (constant_any p (n + 1) (w.heap.size + 1) (w.heap.size + 1) n n G1 F6 w7 M7 (by have := s7.size; omega) h0 h0 (by omega) (by omega) (by omega)).mono ?_; rintro e w8 ⟨ca, cc, F8, rfl, oc8, dc8, M8, s8⟩
  obtain ⟨ot8, dt8⟩ := ot.stp dt s8
  have s9 := s7.trans s8
  clear ot dt M7 s7 s8
  go_wp2_with fail
  have L3 := suG_len ((n : Int) + n) (q1 ++ [z1]) (coL (gW ((n : Int) + n) (gt G1 3 0 0)) p (n + 1)) (gt (gt G1 3 0 0) 2 (gW ((n : Int) + n) G1) 0) (n + 1)
  simp only [gt_len] at L3
  refine (subtract_any _ (n + 1) _ _ _ (n + 1) _ _ (w.heap.size + 1) (w.heap.size + 1) n n _ F8 w8 M8 (by have := s9.size; omega) h0 h0 (ot8.intD dt8) (oc8.intD dc8) (Nat.le_refl _) (by omega) (by simp only [gt_len]; omega)).mono ?_; rintro e w10 ⟨da, dc, F10, rfl, od, dd, M10, s10⟩
  obtain ⟨ot10, dt10⟩ := ot8.stp dt8 s10
  have s11 := s9.trans s10
  clear ot8 dt8 oc8 dc8 M8 s9 s10
  obtain ⟨⟨G3, q3, z3⟩, hr3⟩ : ∃ r, r = suG ((n : Int) + n) (q1 ++ [z1]) (coL (gW ((n : Int) + n) (gt G1 3 0 0)) p (n + 1)) (gt (gt G1 3 0 0) 2 (gW ((n : Int) + n) G1) 0) (n + 1) := ⟨_, rfl⟩
  rw [← hr3] at od M10 L3
  try rw [← hr3]
  have H3 : Hid (re3 n p (G1, q1, z1) = (G3, q3, z3)) := hr3.symm
  clear hr3
  simp only at L1 L3 od M10
  have HC := Lib.hid (chG_take ((n : Int) + n) z3 (q1 ++ [z1]) (q3) G3 n n (Nat.le_refl _))
  have R10 := R5.only s11.only (by simp)
  have V10 := V5.trans (s11.out (B := w.heap.size) (by omega) (by simp))
  have Z10 := s11.size
  have HB := Lib.hid (fun k hk => (M10.feet k hk).1)
  clear R5 V5 s11
  have iS := (ot10.intD dt10).pre n (by omega) (by omega)
  have iD := (od.intD dd).pre n (by omega) (by omega)
  obtain ⟨gs, os, hgs, _⟩ := ot10.ints.at 0 (by omega)
  obtain ⟨gd, o_d, hgd, _⟩ := od.ints.at 0 (by omega)
  subst hgs hgd
  have capS := ot10.cap
  have capD := od.cap
  clear ot10 dt10 od dd
  obtain ⟨⟨G4, q4⟩, hr4⟩ : ∃ r, r = chG ((n : Int) + n) z3 (q1 ++ [z1]) q3 G3 n := ⟨_, rfl⟩
  have H4 : Hid (re4 n (re1 n) (re3 n p (re1 n)) = (G4, q4)) := Lib.hid (by rw [H1.out, H3.out]; exact hr4.symm)
  clear H1 H3
  have HR := Lib.hid hr4
  clear hr4
  go_upto_region 6 with fail
  go_cut [] (fun wx => ∃ ga gn gc oa oc, Blk wx (w.heap.size + 1) 94 #[.int .i64 (n : Int), .int .i64 (n : Int), .slice ga gn gc, .slice oa n oc] ∧ Blk wx w.heap.size 49 #[.int .i64 0, .int .i64 0, .slice none 0 0, .slice none 0 0] ∧ Below w.heap.size w wx ∧ OwnF 3 eGate wx (w.heap.size + 1) ga gn gc G4 ∧ Own wx (w.heap.size + 2) oa n oc q4 ∧ Disj (foot ga gc) (foot oa oc))
  case first =>
    go_region_with (go_at_call 93; refine (choose_any z3 _ n _ _ _ n _ _ (w.heap.size + 1) (w.heap.size + 1) n n G3 F10 _ M10.drew (by simp; omega) h0 h0 (iS.below ((Below.refl _ _).drew)) (iD.below ((Below.refl _ _).drew)) (Nat.le_refl _) (by omega) (by omega)).mono ?_; rintro e w11 ⟨oa, oc, F11, rfl, oo, do_, M11, s12⟩; obtain ⟨ga, gn, gc, hB, ho, hg, hbg, hF⟩ := M11; have x3 := hB.cell 3; have y3 := hB.frozen 3)
    all_goals
      rw [HC.out] at oo ho
      rw [← HR.out] at oo ho
      have B11 := hB.set_ 3 (.slice oa n oc)
      have O11 : Only [w.heap.size + 1] w11 (w11.setCell ⟨w.heap.size + 1, 3, none⟩ (.slice oa n oc)) := (Only.refl _ _).setCell _ _ (by simp)
      have R11 := ((R10.drew).only s12.only (fun hm => by have := HB.out _ hm; omega)).only O11 (by simp)
      have V11 := (V10.drew.trans (s12.out (B := w.heap.size) (Nat.le_trans V10.size (Nat.le_refl _)) (fun k hk => by have := HB.out _ hk; omega))).trans (O11.below (Nat.le_trans V10.size s12.size) (by simp))
      have ho11 := OwnF.only ho O11 (fun k hk hk' => hg (by simp at hk'; subst hk'; exact hk))
      have oo11 := Own.only oo O11 (fun k hk hk' => do_ k hk (by rw [hF]; simp at hk'; subst hk'; simp))
      have hdd : Disj (foot ga gc) (foot oa oc) := fun k hk hk' => do_ k hk' (by rw [hF]; exact List.mem_cons_of_mem _ hk)
      have Z11 : w.heap.size + 1 < w10.drew.heap.size := (show w.heap.size + 1 < w10.heap.size by omega)
      try go_wp2_with fail
      go_meet
      exact ⟨ga, gn, gc, oa, oc, B11, R11, V11, ho11, oo11.lower (by omega), hdd⟩
  case rest =>
    clear R10 V10 M10 iS iD
    obtain ⟨ga, gn, gc, oa, oc, B11, R11, V11, ho11, oo11, hdd⟩ := hcut
    have Q1 := Lib.hid ho11.feet
    have Q2 := Lib.hid oo11.feet
    have x0 : wc.cell? ⟨w.heap.size + 1, 0, none⟩ = some (.int .i64 (n : Int)) := B11.cell 0
    have x1 : wc.cell? ⟨w.heap.size + 1, 1, none⟩ = some (.int .i64 (n : Int)) := B11.cell 1
    have x2 : wc.cell? ⟨w.heap.size + 1, 2, none⟩ = some (.slice ga gn gc) := B11.cell 2
    have x3 : wc.cell? ⟨w.heap.size + 1, 3, none⟩ = some (.slice oa n oc) := B11.cell 3
    have r0 : wc.cell? ⟨w.heap.size, 0, none⟩ = some (.int .i64 0) := R11.cell 0
    have q0 : wc.frozen? ⟨w.heap.size, 0, none⟩ = false := R11.frozen 0
    have r1 : wc.cell? ⟨w.heap.size, 1, none⟩ = some (.int .i64 0) := R11.cell 1
    have q1 : wc.frozen? ⟨w.heap.size, 1, none⟩ = false := R11.frozen 1
    have r2 : wc.cell? ⟨w.heap.size, 2, none⟩ = some (.slice none 0 0) := R11.cell 2
    have q2 : wc.frozen? ⟨w.heap.size, 2, none⟩ = false := R11.frozen 2
    have r3 : wc.cell? ⟨w.heap.size, 3, none⟩ = some (.slice none 0 0) := R11.cell 3
    have q3 : wc.frozen? ⟨w.heap.size, 3, none⟩ = false := R11.frozen 3
    go_wp2
    have GG := (((((Only.refl [w.heap.size] wc).setCell ⟨w.heap.size, 0, none⟩ (.int .i64 (n : Int)) (by simp)).setCell ⟨w.heap.size, 1, none⟩ (.int .i64 (n : Int)) (by simp)).setCell ⟨w.heap.size, 2, none⟩ (.slice ga gn gc) (by simp)).setCell ⟨w.heap.size, 3, none⟩ (.slice oa n oc) (by simp))
    exact bodyPost_ret (v := .agg #[.int .i64 (n : Int), .int .i64 (n : Int), .slice ga gn gc, .slice oa n oc]) (by simp [results, Tryz.results48, go_sem, r0, r1, r2, r3]) rfl ⟨_, _, _, _, _, _, rfl, by rw [H4.out]; exact (ho11.only GG (fun k hk hk' => by have := Q1.out k hk; simp at hk'; omega)).lower (by omega), by rw [H4.out]; exact (oo11.only GG (fun k hk hk' => by have := Q2.out k hk; simp at hk'; omega)).lower (by omega), hdd, V11.trans (GG.below V11.size (by simp))⟩
set_option maxHeartbeats 8000000 in
set_option maxRecDepth 100000 in
theorem cvReduce_any (p : Int) (w : World) (hp : 2 ≤ p) (hp2 : p ≤ 256) :
    Calls Tryz.prog 55 #[.int .i64 p] w fun e w' => ∃ ga gn gc oa on oc, e = .returned (.agg #[.int .i64 (wid p), .int .i64 (wid p), .slice ga gn gc, .slice oa on oc]) ∧ OwnF 3 eGate w' w.heap.size ga gn gc (reG p) ∧ Own w' w.heap.size oa on oc (reO p) ∧ Disj (foot ga gc) (foot oa oc) ∧ Below w.heap.size w w' := by
  obtain ⟨n, hn⟩ : ∃ n, n = wid p := ⟨_, rfl⟩
  have hn8 := wid_le p
  have hn1 := wid_cases p
  rw [← hn] at hn8 hn1
  replace hn1 : 1 ≤ n := by omega
  unfold reG reO
  rw [← hn]
  have e1 : Hid (((n : Int) + 1) = ((n + 1 : Nat) : Int)) := rfl
  go_enter Tryz.func55, Tryz.ntmps55
  go_wp2_with fail
  refine (cvWidth_any p _ (by omega) hp2).mono ?_; rintro e w' ⟨rfl, rfl⟩
  rw [← hn]
  clear hn
  go_wp2_with fail
  have R1 : Blk (w.alloc (.cells #[.int .i64 0, .int .i64 0, .slice none 0 0, .slice none 0 0] 49)) w.heap.size 49 #[.int .i64 0, .int .i64 0, .slice none 0 0, .slice none 0 0] := Blk.new w _ _
  have V1 : Below w.heap.size w (w.alloc (.cells #[.int .i64 0, .int .i64 0, .slice none 0 0, .slice none 0 0] 49)) := (Below.refl _ _).alloc (Nat.le_refl _) _
  have Z1 : w.heap.size + 1 = (w.alloc (.cells #[.int .i64 0, .int .i64 0, .slice none 0 0, .slice none 0 0] 49)).heap.size := by simp
  generalize (w.alloc (.cells #[.int .i64 0, .int .i64 0, .slice none 0 0, .slice none 0 0] 49)) = w1 at *
  refine (ciNew_any _ _ w1.heap.size w1 (Nat.le_refl _)).mono ?_; rintro e w3 ⟨rfl, M3, u3, Z3⟩
  have R3 := R1.below u3
  have V3 := V1.trans (u3.mono V1.size)
  rw [← Z1] at *
  clear R1 V1 u3 Z1
  go_wp2_with fail
  refine (gdRange_any 0 n _ (by omega) (by omega)).mono ?_; rintro e w4 ⟨xa, xc, rfl, oa4, u4⟩
  go_wp2_with fail
  refine (gdRange_any n n _ (by omega) (by omega)).mono ?_; rintro e w5 ⟨ya, yc, rfl, ob5, u5⟩
  have M4 := M3.below u4
  have M5 := M4.below u5
  have R5 := (R3.below u4).below u5
  have V5 := (V3.trans (u4.mono V3.size)).trans (u5.mono (V3.trans (u4.mono V3.size)).size)
  have Z5 : w.heap.size + 1 + 1 ≤ w5.heap.size := Nat.le_trans Z3 (Nat.le_trans u4.size u5.size)
  have dA := (oa4.below u5).intD (Disj.of_rng oa4.feet M3.feet (.inr (Nat.le_refl _)))
  have dB := ob5.intD (Disj.of_rng ob5.feet M4.feet (.inr (Nat.le_refl _)))
  clear oa4 ob5 u4 u5 M3 M4 R3 V3 Z3
  go_wp2_with fail
  have h0 : (0 : Int) ≤ (n : Int) ∧ (n : Int) ≤ 1000 := by omega
  have L1 := adG_len ((n : Int) + n) (spL 0 n) (spL n n) [] n
  refine (gdAdd_any _ n _ _ _ n _ _ (w.heap.size + 1) (w.heap.size + 1) n n [] _ w5 M5 (by omega) h0 h0 dA dB (Nat.le_refl _) (by omega) (by simp)).mono ?_; rintro e w6 ⟨sa, sc, F6, rfl, os6, ds6, M6, s6⟩
  clear dA dB M5
  obtain ⟨⟨G1, q1, z1⟩, hr1⟩ : ∃ r, r = adG ((n : Int) + n) (spL 0 n) (spL n n) [] n := ⟨_, rfl⟩
  rw [← hr1] at os6 M6 L1
  simp only [List.length_nil] at L1
  try rw [← hr1]
  have H1 : Hid (re1 n = (G1, q1, z1)) := hr1.symm
  clear hr1
  have ot := os6
  have dt := ds6
  have M7 := M6
  have s7 := s6
  clear os6 ds6 M6 s6
  go_wp2_with fail
  rw [e1.out]
  refine (gdConst_any p (n + 1) (w.heap.size + 1) (w.heap.size + 1) n n G1 F6 w6 M7 (by have := s7.size; omega) h0 h0 (by omega) (by omega) (by omega)).mono ?_; rintro e w8 ⟨ca, cc, F8, rfl, oc8, dc8, M8, s8⟩
  obtain ⟨ot8, dt8⟩ := ot.stp dt s8
  have s9 := s7.trans s8
  clear ot dt M7 s7 s8
  go_wp2_with fail
  have L3 := suG_len ((n : Int) + n) (q1 ++ [z1]) (coL (gW ((n : Int) + n) (gt G1 3 0 0)) p (n + 1)) (gt (gt G1 3 0 0) 2 (gW ((n : Int) + n) G1) 0) (n + 1)
  simp only [gt_len] at L3
  refine (gdSub_any _ (n + 1) _ _ _ (n + 1) _ _ (w.heap.size + 1) (w.heap.size + 1) n n _ F8 w8 M8 (by have := s9.size; omega) h0 h0 (ot8.intD dt8) (oc8.intD dc8) (Nat.le_refl _) (by omega) (by simp only [gt_len]; omega)).mono ?_; rintro e w10 ⟨da, dc, F10, rfl, od, dd, M10, s10⟩
  obtain ⟨ot10, dt10⟩ := ot8.stp dt8 s10
  have s11 := s9.trans s10
  clear ot8 dt8 oc8 dc8 M8 s9 s10
  obtain ⟨⟨G3, q3, z3⟩, hr3⟩ : ∃ r, r = suG ((n : Int) + n) (q1 ++ [z1]) (coL (gW ((n : Int) + n) (gt G1 3 0 0)) p (n + 1)) (gt (gt G1 3 0 0) 2 (gW ((n : Int) + n) G1) 0) (n + 1) := ⟨_, rfl⟩
  rw [← hr3] at od M10 L3
  try rw [← hr3]
  have H3 : Hid (re3 n p (G1, q1, z1) = (G3, q3, z3)) := hr3.symm
  clear hr3
  simp only at L1 L3 od M10
  have HC := Lib.hid (chG_take ((n : Int) + n) z3 (q1 ++ [z1]) (q3 ++ [z3]) G3 n n (Nat.le_refl _))
  have HC2 := Lib.hid (chG_app ((n : Int) + n) z3 (q1 ++ [z1]) q3 [z3] G3 n (by omega))
  have R10 := R5.only s11.only (by simp)
  have V10 := V5.trans (s11.out (B := w.heap.size) (by omega) (by simp))
  have Z10 := s11.size
  have HB := Lib.hid (fun k hk => (M10.feet k hk).1)
  clear R5 V5 s11
  have iS := (ot10.intD dt10).pre n (by omega) (by omega)
  have iD := (od.intD dd).pre n (by omega) (by omega)
  obtain ⟨gs, os, hgs, _⟩ := ot10.ints.at 0 (by omega)
  obtain ⟨gd, o_d, hgd, cB⟩ := od.ints.at (n + 1) (by omega)
  subst hgs hgd
  have capS := ot10.cap
  have capD := od.cap
  have eB : (q3 ++ [z3]).getD (n + 1) 0 = z3 := by simp [List.getD, L3.2]
  rw [eB] at cB
  clear eB
  have hidx : ((n : Int) + 1) < ((n + 1 + 1 : Nat) : Int) := by omega
  have hidx0 : (0 : Int) ≤ (n : Int) + 1 := by omega
  have hidt : ((n : Int) + 1).toNat = n + 1 := by omega
  have hidw : IntKind.i64.wrap ((n : Int) + 1) = (n : Int) + 1 := IntWalk.i64_in _ (by omega)
  clear ot10 dt10 od dd
  obtain ⟨⟨G4, q4⟩, hr4⟩ : ∃ r, r = chG ((n : Int) + n) z3 (q1 ++ [z1]) q3 G3 n := ⟨_, rfl⟩
  have H4 : Hid (re4 n (re1 n) (re3 n p (re1 n)) = (G4, q4)) := Lib.hid (by rw [H1.out, H3.out]; exact hr4.symm)
  clear H1 H3
  have HR := Lib.hid hr4
  clear hr4
  go_upto_region 5 with fail
  go_cut [] (fun wx => ∃ ga gn gc oa oc, Blk wx (w.heap.size + 1) 110 #[.int .i64 (n : Int), .int .i64 (n : Int), .slice ga gn gc, .slice oa n oc] ∧ Blk wx w.heap.size 49 #[.int .i64 0, .int .i64 0, .slice none 0 0, .slice none 0 0] ∧ Below w.heap.size w wx ∧ OwnF 3 eGate wx (w.heap.size + 1) ga gn gc G4 ∧ Own wx (w.heap.size + 2) oa n oc q4 ∧ Disj (foot ga gc) (foot oa oc))
  case first =>
    go_region_with (go_at_call 104; refine (gdPick_any z3 _ n _ _ _ n _ _ (w.heap.size + 1) (w.heap.size + 1) n n G3 F10 _ M10.drew (by simp; omega) h0 h0 (iS.below ((Below.refl _ _).drew)) (iD.below ((Below.refl _ _).drew)) (Nat.le_refl _) (by omega) (by omega)).mono ?_; rintro e w11 ⟨oa, oc, F11, rfl, oo, do_, M11, s12⟩; obtain ⟨ga, gn, gc, hB, ho, hg, hbg, hF⟩ := M11; have x3 := hB.cell 3; have y3 := hB.frozen 3)
    all_goals
      rw [HC.out] at oo ho
      rw [HC2.out] at oo ho
      rw [← HR.out] at oo ho
      have B11 := hB.set_ 3 (.slice oa n oc)
      have O11 : Only [w.heap.size + 1] w11 (w11.setCell ⟨w.heap.size + 1, 3, none⟩ (.slice oa n oc)) := (Only.refl _ _).setCell _ _ (by simp)
      have R11 := ((R10.drew).only s12.only (fun hm => by have := HB.out _ hm; omega)).only O11 (by simp)
      have V11 := (V10.drew.trans (s12.out (B := w.heap.size) (Nat.le_trans V10.size (Nat.le_refl _)) (fun k hk => by have := HB.out _ hk; omega))).trans (O11.below (Nat.le_trans V10.size s12.size) (by simp))
      have ho11 := OwnF.only ho O11 (fun k hk hk' => hg (by simp at hk'; subst hk'; exact hk))
      have oo11 := Own.only oo O11 (fun k hk hk' => do_ k hk (by rw [hF]; simp at hk'; subst hk'; simp))
      have hdd : Disj (foot ga gc) (foot oa oc) := fun k hk hk' => do_ k hk' (by rw [hF]; exact List.mem_cons_of_mem _ hk)
      have Z11 : w.heap.size + 1 < w10.drew.heap.size := (show w.heap.size + 1 < w10.heap.size by omega)
      try go_wp2_with fail
      go_meet
      exact ⟨ga, gn, gc, oa, oc, B11, R11, V11, ho11, oo11.lower (by omega), hdd⟩
  case rest =>
    clear R10 V10 M10 iS iD
    obtain ⟨ga, gn, gc, oa, oc, B11, R11, V11, ho11, oo11, hdd⟩ := hcut
    have Q1 := Lib.hid ho11.feet
    have Q2 := Lib.hid oo11.feet
    have x0 : wc.cell? ⟨w.heap.size + 1, 0, none⟩ = some (.int .i64 (n : Int)) := B11.cell 0
    have x1 : wc.cell? ⟨w.heap.size + 1, 1, none⟩ = some (.int .i64 (n : Int)) := B11.cell 1
    have x2 : wc.cell? ⟨w.heap.size + 1, 2, none⟩ = some (.slice ga gn gc) := B11.cell 2
    have x3 : wc.cell? ⟨w.heap.size + 1, 3, none⟩ = some (.slice oa n oc) := B11.cell 3
    have r0 : wc.cell? ⟨w.heap.size, 0, none⟩ = some (.int .i64 0) := R11.cell 0
    have q0 : wc.frozen? ⟨w.heap.size, 0, none⟩ = false := R11.frozen 0
    have r1 : wc.cell? ⟨w.heap.size, 1, none⟩ = some (.int .i64 0) := R11.cell 1
    have q1 : wc.frozen? ⟨w.heap.size, 1, none⟩ = false := R11.frozen 1
    have r2 : wc.cell? ⟨w.heap.size, 2, none⟩ = some (.slice none 0 0) := R11.cell 2
    have q2 : wc.frozen? ⟨w.heap.size, 2, none⟩ = false := R11.frozen 2
    have r3 : wc.cell? ⟨w.heap.size, 3, none⟩ = some (.slice none 0 0) := R11.cell 3
    have q3 : wc.frozen? ⟨w.heap.size, 3, none⟩ = false := R11.frozen 3
    go_wp2
    have GG := (((((Only.refl [w.heap.size] wc).setCell ⟨w.heap.size, 0, none⟩ (.int .i64 (n : Int)) (by simp)).setCell ⟨w.heap.size, 1, none⟩ (.int .i64 (n : Int)) (by simp)).setCell ⟨w.heap.size, 2, none⟩ (.slice ga gn gc) (by simp)).setCell ⟨w.heap.size, 3, none⟩ (.slice oa n oc) (by simp))
    exact bodyPost_ret (v := .agg #[.int .i64 (n : Int), .int .i64 (n : Int), .slice ga gn gc, .slice oa n oc]) (by simp [results, Tryz.results55, go_sem, r0, r1, r2, r3]) rfl ⟨_, _, _, _, _, _, rfl, by rw [H4.out]; exact (ho11.only GG (fun k hk hk' => by have := Q1.out k hk; simp at hk'; omega)).lower (by omega), by rw [H4.out]; exact (oo11.only GG (fun k hk hk' => by have := Q2.out k hk; simp at hk'; omega)).lower (by omega), hdd, V11.trans (GG.below V11.size (by simp))⟩
end Go.Proofs.YtchmakepglaijaaGreat
namespace Go.Proofs.YtchmakepglaijaaGreat
open Go.RowKit
def Gd (B : Int) (G : List Int) : Prop := 0 ≤ B ∧ G.length % 3 = 0 ∧ ∀ k, k < G.length / 3 → gbAt B G k = true
def Wr (B : Int) (G : List Int) (x : Int) : Prop := 0 ≤ x ∧ x < gW B G
def Ws (B : Int) (G : List Int) (l : List Int) : Prop := ∀ x ∈ l, Wr B G x
def Mo (B : Int) (G G' : List Int) : Prop := gW B G ≤ gW B G'
theorem Mo.wr {B G G' x} (h : Mo B G G') (k : Wr B G x) : Wr B G' x := ⟨k.1, Int.lt_of_lt_of_le k.2 h⟩
theorem Mo.ws {B G G' l} (h : Mo B G G') (k : Ws B G l) : Ws B G' l := fun x hx => h.wr (k x hx)
theorem Mo.refl (B : Int) (G : List Int) : Mo B G G := Int.le_refl _
theorem Mo.trans {B G G1 G2} (h : Mo B G G1) (k : Mo B G1 G2) : Mo B G G2 := Int.le_trans h k
theorem Mo.gt (B : Int) (G : List Int) (k a b : Int) : Mo B G (gt G k a b) := by unfold Mo; rw [gW_gt]; omega
theorem Ws.app {B G l l'} (h : Ws B G l) (k : Ws B G l') : Ws B G (l ++ l') := fun x hx => by
  rcases List.mem_append.1 hx with hx | hx
  · exact h x hx
  · exact k x hx
theorem Ws.one {B G x} (h : Wr B G x) : Ws B G [x] := fun y hy => by rw [List.mem_singleton] at hy; subst hy; exact h
theorem Ws.nil (B : Int) (G : List Int) : Ws B G [] := fun x hx => by cases hx
theorem Ws.at {B G l} (h : Ws B G l) (k : Nat) (hk : k < l.length) : Wr B G (l.getD k 0) := h _ (getD_mem l k hk)
theorem Wr.new {B : Int} {G : List Int} (h : 0 ≤ B) (k a b : Int) : Wr B (gt G k a b) (gW B G) := ⟨gW_nn h, by rw [gW_gt]; omega⟩
theorem Gd.nil {B : Int} (h : 0 ≤ B) : Gd B [] := ⟨h, rfl, fun k hk => absurd hk (by simp)⟩
theorem Gd.gt {B G kd a b} (h : Gd B G) (hg : gbB kd a b (gW B G) = true) : Gd B (gt G kd a b) := by
  obtain ⟨h0, h1, h2⟩ := h
  refine ⟨h0, by rw [gt_len]; omega, fun k hk => ?_⟩
  rw [gt_len] at hk
  by_cases e : k < G.length / 3
  · have := h2 k e
    unfold gbAt at this ⊢
    unfold Proofs.YtchmakepglaijaaGreat.gt
    rw [snoc_getD _ _ _ (by omega), snoc_getD _ _ _ (by omega), snoc_getD _ _ _ (by omega)]
    exact this
  · obtain rfl : k = G.length / 3 := by omega
    have e3 : G.length / 3 * 3 = G.length := by omega
    unfold gbAt Proofs.YtchmakepglaijaaGreat.gt
    rw [e3]
    have f0 : (G ++ [kd, a, b]).getD G.length 0 = kd := by simp [List.getD]
    have f1 : (G ++ [kd, a, b]).getD (G.length + 1) 0 = a := by simp [List.getD]
    have f2 : (G ++ [kd, a, b]).getD (G.length + 2) 0 = b := by simp [List.getD]
    rw [f0, f1, f2]
    exact hg
theorem gb_xor {B G a b} (h : Wr B G a) (k : Wr B G b) : gbB 0 a b (gW B G) = true := by
  unfold gbB; rw [if_pos (by simp)]; simp only [Bool.and_eq_true]
  exact ⟨inB_yes h.1 (by have := h.2; omega), inB_yes k.1 (by have := k.2; omega)⟩
theorem gb_and {B G a b} (h : Wr B G a) (k : Wr B G b) : gbB 1 a b (gW B G) = true := by
  unfold gbB; rw [if_pos (by simp)]; simp only [Bool.and_eq_true]
  exact ⟨inB_yes h.1 (by have := h.2; omega), inB_yes k.1 (by have := k.2; omega)⟩
theorem gb_not {B G a} (h : Wr B G a) : gbB 2 a 0 (gW B G) = true := by
  unfold gbB; rw [if_neg (by simp), if_pos rfl]; simp only [Bool.and_eq_true]
  exact ⟨inB_yes h.1 (by have := h.2; omega), rfl⟩
theorem gb_one (own : Int) : gbB 3 0 0 own = true := rfl
theorem Gd.xor {B G a b} (h : Gd B G) (ha : Wr B G a) (hb : Wr B G b) : Gd B (Proofs.YtchmakepglaijaaGreat.gt G 0 a b) := h.gt (gb_xor ha hb)
theorem Gd.and {B G a b} (h : Gd B G) (ha : Wr B G a) (hb : Wr B G b) : Gd B (Proofs.YtchmakepglaijaaGreat.gt G 1 a b) := h.gt (gb_and ha hb)
theorem Gd.not {B G a} (h : Gd B G) (ha : Wr B G a) : Gd B (Proofs.YtchmakepglaijaaGreat.gt G 2 a 0) := h.gt (gb_not ha)
theorem Gd.one {B G} (h : Gd B G) : Gd B (Proofs.YtchmakepglaijaaGreat.gt G 3 0 0) := h.gt (gb_one _)
theorem chG_good {B s : Int} {x y G : List Int} (h : Gd B G) (hs : Wr B G s) (hx : Ws B G x) (hy : Ws B G y) (n : Nat) (h1 : n ≤ x.length) (h2 : n ≤ y.length) :
    Gd B (chG B s x y G n).1 ∧ Mo B G (chG B s x y G n).1 ∧ Ws B (chG B s x y G n).1 (chG B s x y G n).2 := by
  induction n with
  | zero => exact ⟨h, Mo.refl _ _, Ws.nil _ _⟩
  | succ n ih =>
    obtain ⟨g, m, r⟩ := ih (by omega) (by omega)
    rw [chG_succ]
    generalize chG B s x y G n = q at *
    have wx := m.wr (hx.at n (by omega))
    have wy := m.wr (hy.at n (by omega))
    have ws := m.wr hs
    generalize x.getD n 0 = u at *
    generalize y.getD n 0 = v at *
    have g1 := g.xor wx wy
    have m1 := Mo.gt B q.1 0 u v
    have n1 := Wr.new (G := q.1) h.1 0 u v
    have g2 := g1.and (m1.wr ws) n1
    have m2 := Mo.gt B (gt q.1 0 u v) 1 s (gW B q.1)
    have n2 := Wr.new (G := gt q.1 0 u v) h.1 1 s (gW B q.1)
    have g3 := g2.xor n2 (m2.wr (m1.wr wy))
    have m3 := Mo.gt B (gt (gt q.1 0 u v) 1 s (gW B q.1)) 0 (gW B (gt q.1 0 u v)) v
    have n3 := Wr.new (G := gt (gt q.1 0 u v) 1 s (gW B q.1)) h.1 0 (gW B (gt q.1 0 u v)) v
    exact ⟨g3, m.trans (m1.trans (m2.trans m3)), ((m1.trans (m2.trans m3)).ws r).app (Ws.one n3)⟩
theorem adS_good {B u v : Int} {f : Bool} {G : List Int} {q : List Int × List Int × Int} (g : Gd B q.1) (m : Mo B G q.1) (r : Ws B q.1 q.2.1) (wx : Wr B q.1 u) (wy : Wr B q.1 v) (wc : f = false → Wr B q.1 q.2.2) :
    Gd B (adS B u v f q).1 ∧ Mo B G (adS B u v f q).1 ∧ Ws B (adS B u v f q).1 (adS B u v f q).2.1 ∧ Wr B (adS B u v f q).1 (adS B u v f q).2.2 := by
  obtain ⟨Q, o, c⟩ := q
  simp only at *
  cases f
  · have wc := wc rfl
    unfold adS
    simp only [Bool.false_eq_true, if_false]
    have m1 := Mo.gt B Q 0 u c
    have n1 := Wr.new (G := Q) g.1 0 u c
    have g1 := g.xor wx wc
    have g2 := g1.xor (m1.wr wy) (m1.wr wc)
    have m2 := m1.trans (Mo.gt B (gt Q 0 u c) 0 v c)
    have n2 := Wr.new (G := gt Q 0 u c) g.1 0 v c
    have k2 := Mo.gt B (gt Q 0 u c) 0 v c
    generalize hG2 : gt (gt Q 0 u c) 0 v c = Q2 at *
    have g3 := g2.xor (k2.wr n1) (m2.wr wy)
    have k3 := Mo.gt B Q2 0 (gW B Q) v
    have n3 := Wr.new (G := Q2) g.1 0 (gW B Q) v
    generalize hG3 : gt Q2 0 (gW B Q) v = Q3 at *
    have g4 := g3.and ((k2.trans k3).wr n1) (k3.wr n2)
    have k4 := Mo.gt B Q3 1 (gW B Q) (gW B (gt Q 0 u c))
    have n4 := Wr.new (G := Q3) g.1 1 (gW B Q) (gW B (gt Q 0 u c))
    generalize hG4 : gt Q3 1 (gW B Q) (gW B (gt Q 0 u c)) = Q4 at *
    have m4 := m2.trans (k3.trans k4)
    have g5 := g4.xor n4 (m4.wr wc)
    have k5 := Mo.gt B Q4 0 (gW B Q3) c
    have n5 := Wr.new (G := Q4) g.1 0 (gW B Q3) c
    exact ⟨g5, m.trans (m4.trans k5), ((m4.trans k5).ws r).app (Ws.one ((k4.trans k5).wr n3)), n5⟩
  · unfold adS
    simp only [if_true]
    have m1 := Mo.gt B Q 0 u v
    have n1 := Wr.new (G := Q) g.1 0 u v
    have g2 := (g.xor wx wy).and (m1.wr wx) (m1.wr wy)
    have k2 := Mo.gt B (gt Q 0 u v) 1 u v
    have n2 := Wr.new (G := gt Q 0 u v) g.1 1 u v
    exact ⟨g2, m.trans (m1.trans k2), ((m1.trans k2).ws r).app (Ws.one (k2.wr n1)), n2⟩
theorem adG_good {B : Int} {x y G : List Int} (h : Gd B G) (hx : Ws B G x) (hy : Ws B G y) (n : Nat) (h1 : n ≤ x.length) (h2 : n ≤ y.length) :
    Gd B (adG B x y G n).1 ∧ Mo B G (adG B x y G n).1 ∧ Ws B (adG B x y G n).1 (adG B x y G n).2.1 ∧ (0 < n → Wr B (adG B x y G n).1 (adG B x y G n).2.2) := by
  induction n with
  | zero => exact ⟨h, Mo.refl _ _, Ws.nil _ _, fun h => absurd h (by omega)⟩
  | succ n ih =>
    obtain ⟨g, m, r, c⟩ := ih (by omega) (by omega)
    rw [adG_succ]
    obtain ⟨a1, a2, a3, a4⟩ := adS_good g m r (m.wr (hx.at n (by omega))) (m.wr (hy.at n (by omega))) (f := n == 0) (fun e => c (by cases n with | zero => cases e | succ n => omega))
    exact ⟨a1, a2, a3, fun _ => a4⟩
theorem suS_good {B u v : Int} {f : Bool} {G : List Int} {q : List Int × List Int × Int} (g : Gd B q.1) (m : Mo B G q.1) (r : Ws B q.1 q.2.1) (wx : Wr B q.1 u) (wy : Wr B q.1 v) (wc : f = false → Wr B q.1 q.2.2) :
    Gd B (suS B u v f q).1 ∧ Mo B G (suS B u v f q).1 ∧ Ws B (suS B u v f q).1 (suS B u v f q).2.1 ∧ Wr B (suS B u v f q).1 (suS B u v f q).2.2 := by
  obtain ⟨Q, o, c⟩ := q
  simp only at *
  cases f
  · have wc := wc rfl
    unfold suS
    simp only [Bool.false_eq_true, if_false]
    have m1 := Mo.gt B Q 0 u c
    have n1 := Wr.new (G := Q) g.1 0 u c
    have g1 := g.xor wx wc
    have g2 := g1.xor (m1.wr wy) (m1.wr wc)
    have m2 := m1.trans (Mo.gt B (gt Q 0 u c) 0 v c)
    have n2 := Wr.new (G := gt Q 0 u c) g.1 0 v c
    have k2 := Mo.gt B (gt Q 0 u c) 0 v c
    generalize hG2 : gt (gt Q 0 u c) 0 v c = Q2 at *
    have g3 := g2.xor (k2.wr n1) (m2.wr wy)
    have k3 := Mo.gt B Q2 0 (gW B Q) v
    have n3 := Wr.new (G := Q2) g.1 0 (gW B Q) v
    generalize hG3 : gt Q2 0 (gW B Q) v = Q3 at *
    have g4 := g3.not ((k2.trans k3).wr n1)
    have k4 := Mo.gt B Q3 2 (gW B Q) 0
    have n4 := Wr.new (G := Q3) g.1 2 (gW B Q) 0
    generalize hG4 : gt Q3 2 (gW B Q) 0 = Q4 at *
    have g5 := g4.and n4 ((k3.trans k4).wr n2)
    have k5 := Mo.gt B Q4 1 (gW B Q3) (gW B (gt Q 0 u c))
    have n5 := Wr.new (G := Q4) g.1 1 (gW B Q3) (gW B (gt Q 0 u c))
    generalize hG5 : gt Q4 1 (gW B Q3) (gW B (gt Q 0 u c)) = Q5 at *
    have m5 := m2.trans (k3.trans (k4.trans k5))
    have g6 := g5.xor n5 (m5.wr wc)
    have k6 := Mo.gt B Q5 0 (gW B Q4) c
    have n6 := Wr.new (G := Q5) g.1 0 (gW B Q4) c
    exact ⟨g6, m.trans (m5.trans k6), ((m5.trans k6).ws r).app (Ws.one ((k4.trans (k5.trans k6)).wr n3)), n6⟩
  · unfold suS
    simp only [if_true]
    have m1 := Mo.gt B Q 0 u v
    have n1 := Wr.new (G := Q) g.1 0 u v
    have k2 := Mo.gt B (gt Q 0 u v) 2 u 0
    have n2 := Wr.new (G := gt Q 0 u v) g.1 2 u 0
    have g2 := (g.xor wx wy).not (m1.wr wx)
    have g3 := g2.and n2 ((m1.trans k2).wr wy)
    have k3 := Mo.gt B (gt (gt Q 0 u v) 2 u 0) 1 (gW B (gt Q 0 u v)) v
    have n3 := Wr.new (G := gt (gt Q 0 u v) 2 u 0) g.1 1 (gW B (gt Q 0 u v)) v
    exact ⟨g3, m.trans (m1.trans (k2.trans k3)), ((m1.trans (k2.trans k3)).ws r).app (Ws.one ((k2.trans k3).wr n1)), n3⟩
theorem suG_good {B : Int} {x y G : List Int} (h : Gd B G) (hx : Ws B G x) (hy : Ws B G y) (n : Nat) (h1 : n ≤ x.length) (h2 : n ≤ y.length) :
    Gd B (suG B x y G n).1 ∧ Mo B G (suG B x y G n).1 ∧ Ws B (suG B x y G n).1 (suG B x y G n).2.1 ∧ (0 < n → Wr B (suG B x y G n).1 (suG B x y G n).2.2) := by
  induction n with
  | zero => exact ⟨h, Mo.refl _ _, Ws.nil _ _, fun h => absurd h (by omega)⟩
  | succ n ih =>
    obtain ⟨g, m, r, c⟩ := ih (by omega) (by omega)
    rw [suG_succ]
    obtain ⟨a1, a2, a3, a4⟩ := suS_good g m r (m.wr (hx.at n (by omega))) (m.wr (hy.at n (by omega))) (f := n == 0) (fun e => c (by cases n with | zero => cases e | succ n => omega))
    exact ⟨a1, a2, a3, fun _ => a4⟩
theorem spL_ws {B f : Int} {G : List Int} (n : Nat) (h0 : 0 ≤ f) (h1 : f + n ≤ B) : Ws B G (spL f n) := fun x hx => by
  simp only [spL, List.mem_map, List.mem_range] at hx
  obtain ⟨i, hi, rfl⟩ := hx
  exact ⟨by omega, by unfold gW; omega⟩
theorem coL_ws {B z x : Int} {G : List Int} (n : Nat) (h1 : Wr B G z) (h2 : Wr B G (z - 1)) : Ws B G (coL z x n) := fun y hy => by
  simp only [coL, List.mem_map, List.mem_range] at hy
  obtain ⟨i, hi, rfl⟩ := hy
  have : x / 2 ^ i % 2 = 0 ∨ x / 2 ^ i % 2 = 1 := by omega
  rcases this with e | e
  · rw [e, Int.sub_zero]; exact h1
  · rw [e]; exact h2
theorem ci_good {i0 i1 : Int} {gn : Nat} {G O : List Int} (h0 : 0 ≤ i0 ∧ i0 ≤ 20) (h1 : 0 ≤ i1 ∧ i1 ≤ 20) (hg : Gd (i0 + i1) G) (ho : Ws (i0 + i1) G O) (hn : gn = G.length / 3) (hgn : gn ≤ 300) (hon : O.length ≤ 40) : ciB i0 i1 gn G O = true := by
  unfold ciB
  rw [inB_yes h0.1 h0.2, inB_yes h1.1 h1.2, decide_eq_true hgn, decide_eq_true hon, gbsB_yes (fun k hk => hg.2.2 k (by omega)), (allB_iff _ _ _).2 (fun x hx => ⟨(ho x hx).1, by have := (ho x hx).2; unfold gW at this; omega⟩)]
  rfl
end Go.Proofs.YtchmakepglaijaaGreat
namespace Go.Proofs.YtchmakepglaijaaGreat
open Go.RowKit
theorem re_at {p : Int} (h : isPr p = true) : ciB (wid p) (wid p) ((reG p).length / 3) (reG p) (reO p) = true ∧ (reG p).length ≤ 900 ∧ (reO p).length ≤ 900 := by
  obtain ⟨h1, h2⟩ := isPr_range h
  have hn8 := wid_le p
  have hn1 := wid_cases p
  unfold reG reO
  obtain ⟨n, hn⟩ : ∃ n, n = wid p := ⟨_, rfl⟩
  rw [← hn] at hn1 hn8 ⊢
  replace hn1 : 1 ≤ n := by omega
  clear hn
  have hB : (0 : Int) ≤ (n : Int) + n := by omega
  have la := adG_len ((n : Int) + n) (spL 0 n) (spL n n) [] n
  obtain ⟨ga, ma, wa, ca⟩ := adG_good (Gd.nil hB) (spL_ws (B := (n : Int) + n) (G := []) n (Int.le_refl 0) (by omega)) (spL_ws (B := (n : Int) + n) (f := n) (G := []) n (by omega) (by omega)) n (by rw [spL_len]; exact Nat.le_refl _) (by rw [spL_len]; exact Nat.le_refl _)
  have e1 : re1 n = adG ((n : Int) + n) (spL 0 n) (spL n n) [] n := rfl
  rw [← e1] at la ga ma wa ca
  clear e1
  generalize re1 n = r at *
  replace ca := ca (by omega)
  have g2 := ga.one
  have n2 := Wr.new (G := r.1) hB 3 0 0
  have g3 := g2.not n2
  have m2 := Mo.gt ((n : Int) + n) r.1 3 0 0
  have m3 := Mo.gt ((n : Int) + n) (gt r.1 3 0 0) 2 (gW ((n : Int) + n) r.1) 0
  have n3 := Wr.new (G := gt r.1 3 0 0) hB 2 (gW ((n : Int) + n) r.1) 0
  have ws := ((m2.trans m3).ws wa).app (Ws.one ((m2.trans m3).wr ca))
  have wc : Ws ((n : Int) + n) (gt (gt r.1 3 0 0) 2 (gW ((n : Int) + n) r.1) 0) (coL (gW ((n : Int) + n) (gt r.1 3 0 0)) p (n + 1)) := coL_ws (n + 1) n3 (by rw [gW_gt, show gW ((n : Int) + n) r.1 + 1 - 1 = gW ((n : Int) + n) r.1 by omega]; exact m3.wr n2)
  have ls := suG_len ((n : Int) + n) (r.2.1 ++ [r.2.2]) (coL (gW ((n : Int) + n) (gt r.1 3 0 0)) p (n + 1)) (gt (gt r.1 3 0 0) 2 (gW ((n : Int) + n) r.1) 0) (n + 1)
  obtain ⟨gs, ms, wd, cd⟩ := suG_good g3 ws wc (n + 1) (by rw [List.length_append]; simp; omega) (by rw [coL_len]; exact Nat.le_refl _)
  have e3 : re3 n p r = suG ((n : Int) + n) (r.2.1 ++ [r.2.2]) (coL (gW ((n : Int) + n) (gt r.1 3 0 0)) p (n + 1)) (gt (gt r.1 3 0 0) 2 (gW ((n : Int) + n) r.1) 0) (n + 1) := rfl
  rw [← e3] at ls gs ms wd cd
  clear e3
  generalize re3 n p r = q at *
  replace cd := cd (by omega)
  have lc := chG_len ((n : Int) + n) q.2.2 (r.2.1 ++ [r.2.2]) q.2.1 q.1 n
  obtain ⟨gz, mz, wz⟩ := chG_good gs cd (ms.ws ws) wd n (by rw [List.length_append]; omega) (by omega)
  have e4 : re4 n r q = chG ((n : Int) + n) q.2.2 (r.2.1 ++ [r.2.2]) q.2.1 q.1 n := rfl
  rw [← e4] at lc gz mz wz
  simp only [gt_len, List.length_nil] at ls la
  exact ⟨ci_good (by omega) (by omega) gz wz rfl (by omega) (by omega), by omega, by omega⟩
theorem re_ok {p : Int} (h : isPr p = true) : ciB (wid p) (wid p) ((reG p).length / 3) (reG p) (reO p) = true := (re_at h).1
end Go.Proofs.YtchmakepglaijaaGreat
namespace Go.Proofs.YtchmakepglaijaaGreat
open Go.RowKit
def vl (G V : List Int) (x : Int) : Int := (evL G V (G.length / 3)).getD x.toNat 0
def Ex (B : Int) (V G G' : List Int) : Prop := Mo B G G' ∧ ∀ x, Wr B G x → vl G' V x = vl G V x
theorem Ex.refl (B : Int) (V G : List Int) : Ex B V G G := ⟨Mo.refl _ _, fun _ _ => rfl⟩
theorem Ex.trans {B : Int} {V G G1 G2 : List Int} (h : Ex B V G G1) (k : Ex B V G1 G2) : Ex B V G G2 := ⟨h.1.trans k.1, fun x hx => (k.2 x (h.1.wr hx)).trans (h.2 x hx)⟩
theorem evL_gt (G V : List Int) (k a b : Int) (j : Nat) (hj : 3 * j ≤ G.length) : evL (gt G k a b) V j = evL G V j := by
  induction j with
  | zero => rfl
  | succ j ih =>
    rw [evL_succ, evL_succ, ih (by omega)]
    unfold gt
    rw [gapp _ _ _ (by omega), gapp _ _ _ (by omega), gapp _ _ _ (by omega)]
theorem gt_at (G : List Int) (k a b : Int) : (gt G k a b).getD G.length 0 = k ∧ (gt G k a b).getD (G.length + 1) 0 = a ∧ (gt G k a b).getD (G.length + 2) 0 = b := by
  unfold gt
  exact ⟨by simp [List.getD], by simp [List.getD], by simp [List.getD]⟩
theorem evL_gt1 {B : Int} {G : List Int} (h : Gd B G) (V : List Int) (k a b : Int) : evL (gt G k a b) V ((gt G k a b).length / 3) = evL G V (G.length / 3) ++ [evS k (vl G V a) (vl G V b)] := by
  have h3 := h.2.1
  have e : (gt G k a b).length / 3 = G.length / 3 + 1 := by rw [gt_len]; omega
  have e2 : G.length / 3 * 3 = G.length := by omega
  obtain ⟨g0, g1, g2⟩ := gt_at G k a b
  rw [e, evL_succ, evL_gt _ _ _ _ _ _ (by omega), e2, g0, g1, g2]
  rfl
theorem vl_old {B : Int} {V G : List Int} (h : Gd B G) (hV : (V.length : Int) = B) (k a b x : Int) (hx : Wr B G x) : vl (gt G k a b) V x = vl G V x := by
  unfold vl
  rw [evL_gt1 h]
  have := hx.1
  have h2 := hx.2
  unfold gW at h2
  rw [gapp _ _ _ (by rw [evL_len]; omega)]
theorem gsnE (l : List Int) (x : Int) (k : Nat) (h : k = l.length) : (l ++ [x]).getD k 0 = x := by subst h; simp [List.getD]
theorem vl_new {B : Int} {V G : List Int} (h : Gd B G) (hV : (V.length : Int) = B) (k a b : Int) : vl (gt G k a b) V (gW B G) = evS k (vl G V a) (vl G V b) := by
  have hl := evL_len G V (G.length / 3)
  have e : (gW B G).toNat = (evL G V (G.length / 3)).length := by rw [hl]; unfold gW; omega
  show (evL (gt G k a b) V ((gt G k a b).length / 3)).getD (gW B G).toNat 0 = _
  rw [evL_gt1 h, e]
  exact gsnE _ _ _ rfl
theorem Ex.gt {B : Int} {V G : List Int} (h : Gd B G) (hV : (V.length : Int) = B) (k a b : Int) : Ex B V G (gt G k a b) := ⟨Mo.gt _ _ _ _ _, fun x hx => vl_old h hV k a b x hx⟩
theorem vl_bit {V : List Int} (hb : Bt V) (G : List Int) (x : Int) : vl G V x = 0 ∨ vl G V x = 1 := (evL_bits G hb _).at _
theorem ev_xor {x y : Int} (hx : x = 0 ∨ x = 1) (hy : y = 0 ∨ y = 1) : evS 0 x y = if x = y then 0 else 1 := by
  unfold evS; rw [if_pos rfl]
  rcases hx with rfl | rfl <;> rcases hy with rfl | rfl <;> decide
theorem ev_not (x y : Int) : evS 2 x y = 1 - x := by unfold evS; rw [if_neg (by decide), if_neg (by decide), if_pos rfl]
theorem ev_one (x y : Int) : evS 3 x y = 1 := by unfold evS; rw [if_neg (by decide), if_neg (by decide), if_neg (by decide)]
theorem ch_bit {s u v : Int} (hs : s = 0 ∨ s = 1) (hu : u = 0 ∨ u = 1) (hv : v = 0 ∨ v = 1) : evS 0 (evS 1 s (evS 0 u v)) v = if s = 1 then u else v := by
  rw [ev_xor hu hv]
  rcases hs with rfl | rfl <;> rcases hu with rfl | rfl <;> rcases hv with rfl | rfl <;> decide
theorem getD_snoc_lt (l : List Int) (x : Int) (k : Nat) (h : k < l.length) : (l ++ [x]).getD k 0 = l.getD k 0 := gapp _ _ _ h
theorem getD_snoc_eq (l : List Int) (x : Int) (k : Nat) (h : k = l.length) : (l ++ [x]).getD k 0 = x := by subst h; simp [List.getD]
theorem chG_val {B s : Int} {V x y G : List Int} (h : Gd B G) (hV : (V.length : Int) = B) (hb : Bt V) (hs : Wr B G s) (hx : Ws B G x) (hy : Ws B G y) (n : Nat) (h1 : n ≤ x.length) (h2 : n ≤ y.length) :
    Ex B V G (chG B s x y G n).1 ∧ ∀ k, k < n → vl (chG B s x y G n).1 V ((chG B s x y G n).2.getD k 0) = if vl G V s = 1 then vl G V (x.getD k 0) else vl G V (y.getD k 0) := by
  induction n with
  | zero => exact ⟨Ex.refl _ _ _, fun k hk => absurd hk (by omega)⟩
  | succ n ih =>
    obtain ⟨e, f⟩ := ih (by omega) (by omega)
    obtain ⟨g, m, r⟩ := chG_good h hs hx hy n (by omega) (by omega)
    have hl := (chG_len B s x y G n).2
    rw [chG_succ]
    have wx0 := hx.at n (by omega)
    have wy0 := hy.at n (by omega)
    have fx := e.2 _ wx0
    have fy := e.2 _ wy0
    have fs := e.2 _ hs
    have wx := m.wr wx0
    have wy := m.wr wy0
    have ws := m.wr hs
    generalize hq : chG B s x y G n = q at *
    have g1 := g.xor wx wy
    have x1 := Ex.gt g hV 0 (x.getD n 0) (y.getD n 0)
    have v1 := vl_new g hV 0 (x.getD n 0) (y.getD n 0)
    have n1 := Wr.new (G := q.1) h.1 0 (x.getD n 0) (y.getD n 0)
    unfold chS
    generalize hG1 : gt q.1 0 (x.getD n 0) (y.getD n 0) = G1 at *
    have g2 := g1.and (x1.1.wr ws) n1
    have x2 := Ex.gt g1 hV 1 s (gW B q.1)
    have v2 := vl_new g1 hV 1 s (gW B q.1)
    have n2 := Wr.new (G := G1) h.1 1 s (gW B q.1)
    generalize hG2 : gt G1 1 s (gW B q.1) = G2 at *
    have x3 := Ex.gt g2 hV 0 (gW B G1) (y.getD n 0)
    have v3 := vl_new g2 hV 0 (gW B G1) (y.getD n 0)
    generalize hG3 : gt G2 0 (gW B G1) (y.getD n 0) = G3 at *
    have xx := x1.trans (x2.trans x3)
    refine ⟨e.trans xx, fun k hk => ?_⟩
    dsimp only
    by_cases hkn : k < n
    · rw [getD_snoc_lt _ _ _ (by omega), xx.2 _ (r.at k (by omega))]
      exact f k hkn
    · obtain rfl : k = n := by omega
      rw [getD_snoc_eq _ _ _ (by omega), v3, v2, (x1.trans x2).2 _ wy, x1.2 _ ws, v1, fx, fy, fs]
      exact ch_bit (vl_bit hb _ _) (vl_bit hb _ _) (vl_bit hb _ _)
end Go.Proofs.YtchmakepglaijaaGreat
namespace Go.Proofs.YtchmakepglaijaaGreat
open Go.RowKit
theorem qInts_same (a : Option Addr) (n c : Nat) (a' : Option Addr) (n' c' : Nat) (l : List Int) (w : World) (h : Ints w a n c l) (h' : Ints w a' n' c' l) :
    Calls Tryz.prog 14 #[.slice a n c, .slice a' n' c'] w fun e w' => e = .returned (.bool true) ∧ ∃ m, w' = w.drewN m := by
  obtain rfl : n = n' := by rw [h.len, h'.len]
  have hn := h.le
  go_enter Tryz.func14, Tryz.ntmps14
  go_wp2
  go_loopw [13] (fun v wr => ∃ k : Nat, k ≤ n ∧ v = .int .i64 k ∧ ∃ m, wr = w.drewN m) (fun v _ => n - (intOf v).toNat)
  case atStart => exact ⟨0, Nat.zero_le _, rfl, 0, rfl⟩
  case round =>
    obtain ⟨k, hk, rfl, m, rfl⟩ := hrel
    by_cases hlt : k < n
    · obtain ⟨g, o, rfl, hcell⟩ := h.at k hlt
      obtain ⟨g', o', rfl, hcell'⟩ := h'.at k hlt
      have hb : ((l.getD k 0 != l.getD k 0) : Bool) = false := by simp
      go_wp2
      go_quiet (fail)
      go_wp2
      go_roundw
      case rel => exact ⟨k + 1, by omega, by go_num, _, by first | rfl | exact World.drewN_drewN ..⟩
      case measure => simp [intOf]; omega
    · go_wp2
      go_ret
      exact ⟨rfl, _, rfl⟩
end Go.Proofs.YtchmakepglaijaaGreat
