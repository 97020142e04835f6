/- The circuit that adds modulo a prime. -/
import Derived.Test.YtkbhigdciokfkaaMkE
import Derived.Deep.DeepCutAuto
namespace Go.Proofs.Ytkbhigdciokfkaa
open Go.RowKit
set_option maxHeartbeats 4000000 in
theorem ciNew_any (i0 i1 : Int) (b : Nat) (w : World) (hb : b ≤ w.heap.size) :
    Calls Try.prog 82 #[.int .i64 i0, .int .i64 i1] w fun e w' => e = .returned (.pointer (some ⟨w.heap.size, 0, none⟩)) ∧ Mk 79 w' b w.heap.size i0 i1 [] [w.heap.size] ∧ Below w.heap.size w w' ∧ w.heap.size + 1 ≤ w'.heap.size := by
  go_enter Try.func82, Try.ntmps82
  go_wp2
  go_ret
  exact ⟨rfl, Mk.new _ w b i0 i1 hb, (Below.refl _ _).alloc (Nat.le_refl _) _, by simp⟩
/-- A circuit that a call has made. -/
def CirO (w : World) (b : Nat) (i0 i1 : Int) (ga : Option Addr) (gn gc : Nat) (oa : Option Addr) (on oc : Nat) (G O : List Int) : Prop :=
  OwnF 3 eGate w b ga gn gc G ∧ Own w b oa on oc O ∧ Disj (foot ga gc) (foot oa oc)

set_option maxHeartbeats 8000000 in
set_option maxRecDepth 100000 in
theorem reduceCircuit_any (p : Int) (w : World) (hp : 2 ≤ p) (hp2 : p ≤ 256) :
    Calls Try.prog 43 #[.int .i64 p] w fun e w' => ∃ ga gn gc oa on oc, e = .returned (.agg #[.int .i64 (wid p), .int .i64 (wid p), .slice ga gn gc, .slice oa on oc]) ∧ OwnF 3 eGate w' w.heap.size ga gn gc (reG p) ∧ Own w' w.heap.size oa on oc (reO p) ∧ Disj (foot ga gc) (foot oa oc) ∧ Below w.heap.size w w' := by
  obtain ⟨n, hn⟩ : ∃ n, n = wid p := ⟨_, rfl⟩
  have hn8 := wid_le p
  have hn1 := wid_cases p
  rw [← hn] at hn8 hn1
  replace hn1 : 1 ≤ n := by omega
  unfold reG reO
  rw [← hn]
  have e1 : Hid (((n : Int) + 1) = ((n + 1 : Nat) : Int)) := rfl
  go_enter Try.func43, Try.ntmps43
  go_wp2_with fail
  refine (widthFor_any p _ (by omega) hp2).mono ?_; rintro e w' ⟨rfl, rfl⟩
  rw [← hn]
  clear hn
  go_wp2_with fail
  have R3 : Blk ((w.alloc (.cells #[.int .i64 0, .int .i64 0, .slice none 0 0, .slice none 0 0] 25)).alloc (.cells #[.int .i64 (n : Int), .int .i64 (n : Int), .slice none 0 0, .slice none 0 0] 81)) w.heap.size 25 #[.int .i64 0, .int .i64 0, .slice none 0 0, .slice none 0 0] := (Blk.new w _ _).alloc _
  have M3 : Mk 81 ((w.alloc (.cells #[.int .i64 0, .int .i64 0, .slice none 0 0, .slice none 0 0] 25)).alloc (.cells #[.int .i64 (n : Int), .int .i64 (n : Int), .slice none 0 0, .slice none 0 0] 81)) (w.heap.size + 1) (w.heap.size + 1) n n [] [w.heap.size + 1] := by simpa using Mk.new 81 (w.alloc (.cells #[.int .i64 0, .int .i64 0, .slice none 0 0, .slice none 0 0] 25)) (w.heap.size + 1) (n : Int) (n : Int) (by simp)
  have V3 : Below w.heap.size w ((w.alloc (.cells #[.int .i64 0, .int .i64 0, .slice none 0 0, .slice none 0 0] 25)).alloc (.cells #[.int .i64 (n : Int), .int .i64 (n : Int), .slice none 0 0, .slice none 0 0] 81)) := ((Below.refl _ _).alloc (Nat.le_refl _) _).alloc (by simp) _
  have Z3 : w.heap.size + 1 + 1 ≤ ((w.alloc (.cells #[.int .i64 0, .int .i64 0, .slice none 0 0, .slice none 0 0] 25)).alloc (.cells #[.int .i64 (n : Int), .int .i64 (n : Int), .slice none 0 0, .slice none 0 0] 81)).heap.size := by simp
  generalize ((w.alloc (.cells #[.int .i64 0, .int .i64 0, .slice none 0 0, .slice none 0 0] 25)).alloc (.cells #[.int .i64 (n : Int), .int .i64 (n : Int), .slice none 0 0, .slice none 0 0] 81)) = w3 at *
  refine (span_any 0 n _ (by omega) (by omega)).mono ?_; rintro e w4 ⟨xa, xc, rfl, oa4, u4⟩
  go_wp2_with fail
  refine (span_any n n _ (by omega) (by omega)).mono ?_; rintro e w5 ⟨ya, yc, rfl, ob5, u5⟩
  have M4 := M3.below u4
  have M5 := M4.below u5
  have R5 := (R3.below u4).below u5
  have V5 := (V3.trans (u4.mono V3.size)).trans (u5.mono (V3.trans (u4.mono V3.size)).size)
  have Z5 : w.heap.size + 1 + 1 ≤ w5.heap.size := Nat.le_trans Z3 (Nat.le_trans u4.size u5.size)
  have dA := (oa4.below u5).intD (Disj.of_rng oa4.feet M3.feet (.inr (Nat.le_refl _)))
  have dB := ob5.intD (Disj.of_rng ob5.feet M4.feet (.inr (Nat.le_refl _)))
  clear oa4 ob5 u4 u5 M3 M4 R3 V3 Z3
  go_wp2_with fail
  have h0 : (0 : Int) ≤ (n : Int) ∧ (n : Int) ≤ 1000 := by omega
  have L1 := adG_len ((n : Int) + n) (spL 0 n) (spL n n) [] n
  refine (add_any _ n _ _ _ n _ _ (w.heap.size + 1) (w.heap.size + 1) n n [] _ w5 M5 (by omega) h0 h0 dA dB (Nat.le_refl _) (by omega) (by simp)).mono ?_; rintro e w6 ⟨sa, sc, F6, rfl, os6, ds6, M6, s6⟩
  clear dA dB M5
  obtain ⟨⟨G1, q1, z1⟩, hr1⟩ : ∃ r, r = adG ((n : Int) + n) (spL 0 n) (spL n n) [] n := ⟨_, rfl⟩
  rw [← hr1] at os6 M6 L1
  simp only [List.length_nil] at L1
  try rw [← hr1]
  have H1 : Hid (re1 n = (G1, q1, z1)) := hr1.symm
  clear hr1
  go_wp2_with (at_builtin; refine wpList_appJ _ rfl _ _ rfl w5.heap.size sa n sc q1 rfl (os6.alloc _) _ 1 1 [z1] rfl (Ints.lit1 _ _ _) (by omega) (by have := s6.size; simp; omega) ?_)
  intro ta tc w7 ot _ g7 m7
  have O7 := Only.of_grown g7
  have M7 := Mk.only (Mk.alloc M6 _) O7 ds6
  have s7 := Stp.onto (Stp.alloc s6 _) O7 (fun k hk => (os6.feet k hk).1)
  have dt : Disj (foot ta tc) F6 := m7.disj ds6 (fun k hk => by have := (M6.feet k hk).2; simp; omega)
  clear os6 ds6 M6 s6 O7 g7 m7
  go_wp2_with fail
  rw [e1.out]
  refine (constant_any p (n + 1) (w.heap.size + 1) (w.heap.size + 1) n n G1 F6 w7 M7 (by have := s7.size; omega) h0 h0 (by omega) (by omega) (by omega)).mono ?_; rintro e w8 ⟨ca, cc, F8, rfl, oc8, dc8, M8, s8⟩
  obtain ⟨ot8, dt8⟩ := ot.stp dt s8
  have s9 := s7.trans s8
  clear ot dt M7 s7 s8
  go_wp2_with fail
  have L3 := suG_len ((n : Int) + n) (q1 ++ [z1]) (coL (gW ((n : Int) + n) (gt G1 3 0 0)) p (n + 1)) (gt (gt G1 3 0 0) 2 (gW ((n : Int) + n) G1) 0) (n + 1)
  simp only [gt_len] at L3
  refine (subtract_any _ (n + 1) _ _ _ (n + 1) _ _ (w.heap.size + 1) (w.heap.size + 1) n n _ F8 w8 M8 (by have := s9.size; omega) h0 h0 (ot8.intD dt8) (oc8.intD dc8) (Nat.le_refl _) (by omega) (by simp only [gt_len]; omega)).mono ?_; rintro e w10 ⟨da, dc, F10, rfl, od, dd, M10, s10⟩
  obtain ⟨ot10, dt10⟩ := ot8.stp dt8 s10
  have s11 := s9.trans s10
  clear ot8 dt8 oc8 dc8 M8 s9 s10
  obtain ⟨⟨G3, q3, z3⟩, hr3⟩ : ∃ r, r = suG ((n : Int) + n) (q1 ++ [z1]) (coL (gW ((n : Int) + n) (gt G1 3 0 0)) p (n + 1)) (gt (gt G1 3 0 0) 2 (gW ((n : Int) + n) G1) 0) (n + 1) := ⟨_, rfl⟩
  rw [← hr3] at od M10 L3
  try rw [← hr3]
  have H3 : Hid (re3 n p (G1, q1, z1) = (G3, q3, z3)) := hr3.symm
  clear hr3
  simp only at L1 L3 od M10
  have HC := Lib.hid (chG_take ((n : Int) + n) z3 (q1 ++ [z1]) (q3) G3 n n (Nat.le_refl _))
  have R10 := R5.only s11.only (by simp)
  have V10 := V5.trans (s11.out (B := w.heap.size) (by omega) (by simp))
  have Z10 := s11.size
  have HB := Lib.hid (fun k hk => (M10.feet k hk).1)
  clear R5 V5 s11
  have iS := (ot10.intD dt10).pre n (by omega) (by omega)
  have iD := (od.intD dd).pre n (by omega) (by omega)
  obtain ⟨gs, os, hgs, _⟩ := ot10.ints.at 0 (by omega)
  obtain ⟨gd, o_d, hgd, _⟩ := od.ints.at 0 (by omega)
  subst hgs hgd
  have capS := ot10.cap
  have capD := od.cap
  clear ot10 dt10 od dd
  obtain ⟨⟨G4, q4⟩, hr4⟩ : ∃ r, r = chG ((n : Int) + n) z3 (q1 ++ [z1]) q3 G3 n := ⟨_, rfl⟩
  have H4 : Hid (re4 n (re1 n) (re3 n p (re1 n)) = (G4, q4)) := Lib.hid (by rw [H1.out, H3.out]; exact hr4.symm)
  clear H1 H3
  have HR := Lib.hid hr4
  clear hr4
  go_upto_region 6 with fail
  go_cut [] (fun wx => ∃ ga gn gc oa oc, Blk wx (w.heap.size + 1) 81 #[.int .i64 (n : Int), .int .i64 (n : Int), .slice ga gn gc, .slice oa n oc] ∧ Blk wx w.heap.size 25 #[.int .i64 0, .int .i64 0, .slice none 0 0, .slice none 0 0] ∧ Below w.heap.size w wx ∧ OwnF 3 eGate wx (w.heap.size + 1) ga gn gc G4 ∧ Own wx (w.heap.size + 2) oa n oc q4 ∧ Disj (foot ga gc) (foot oa oc))
  case first =>
    go_region_with (go_at_call 51; refine (choose_any z3 _ n _ _ _ n _ _ (w.heap.size + 1) (w.heap.size + 1) n n G3 F10 _ M10.drew (by simp; omega) h0 h0 (iS.below ((Below.refl _ _).drew)) (iD.below ((Below.refl _ _).drew)) (Nat.le_refl _) (by omega) (by omega)).mono ?_; rintro e w11 ⟨oa, oc, F11, rfl, oo, do_, M11, s12⟩; obtain ⟨ga, gn, gc, hB, ho, hg, hbg, hF⟩ := M11; have x3 := hB.cell 3; have y3 := hB.frozen 3)
    all_goals
      rw [HC.out] at oo ho
      rw [← HR.out] at oo ho
      have B11 := hB.set_ 3 (.slice oa n oc)
      have O11 : Only [w.heap.size + 1] w11 (w11.setCell ⟨w.heap.size + 1, 3, none⟩ (.slice oa n oc)) := (Only.refl _ _).setCell _ _ (by simp)
      have R11 := ((R10.drew).only s12.only (fun hm => by have := HB.out _ hm; omega)).only O11 (by simp)
      have V11 := (V10.drew.trans (s12.out (B := w.heap.size) (Nat.le_trans V10.size (Nat.le_refl _)) (fun k hk => by have := HB.out _ hk; omega))).trans (O11.below (Nat.le_trans V10.size s12.size) (by simp))
      have ho11 := OwnF.only ho O11 (fun k hk hk' => hg (by simp at hk'; subst hk'; exact hk))
      have oo11 := Own.only oo O11 (fun k hk hk' => do_ k hk (by rw [hF]; simp at hk'; subst hk'; simp))
      have hdd : Disj (foot ga gc) (foot oa oc) := fun k hk hk' => do_ k hk' (by rw [hF]; exact List.mem_cons_of_mem _ hk)
      have Z11 : w.heap.size + 1 < w10.drew.heap.size := (show w.heap.size + 1 < w10.heap.size by omega)
      try go_wp2_with fail
      go_meet
      exact ⟨ga, gn, gc, oa, oc, B11, R11, V11, ho11, oo11.lower (by omega), hdd⟩
  case rest =>
    clear R10 V10 M10 iS iD
    obtain ⟨ga, gn, gc, oa, oc, B11, R11, V11, ho11, oo11, hdd⟩ := hcut
    have Q1 := Lib.hid ho11.feet
    have Q2 := Lib.hid oo11.feet
    have x0 : wc.cell? ⟨w.heap.size + 1, 0, none⟩ = some (.int .i64 (n : Int)) := B11.cell 0
    have x1 : wc.cell? ⟨w.heap.size + 1, 1, none⟩ = some (.int .i64 (n : Int)) := B11.cell 1
    have x2 : wc.cell? ⟨w.heap.size + 1, 2, none⟩ = some (.slice ga gn gc) := B11.cell 2
    have x3 : wc.cell? ⟨w.heap.size + 1, 3, none⟩ = some (.slice oa n oc) := B11.cell 3
    have r0 : wc.cell? ⟨w.heap.size, 0, none⟩ = some (.int .i64 0) := R11.cell 0
    have q0 : wc.frozen? ⟨w.heap.size, 0, none⟩ = false := R11.frozen 0
    have r1 : wc.cell? ⟨w.heap.size, 1, none⟩ = some (.int .i64 0) := R11.cell 1
    have q1 : wc.frozen? ⟨w.heap.size, 1, none⟩ = false := R11.frozen 1
    have r2 : wc.cell? ⟨w.heap.size, 2, none⟩ = some (.slice none 0 0) := R11.cell 2
    have q2 : wc.frozen? ⟨w.heap.size, 2, none⟩ = false := R11.frozen 2
    have r3 : wc.cell? ⟨w.heap.size, 3, none⟩ = some (.slice none 0 0) := R11.cell 3
    have q3 : wc.frozen? ⟨w.heap.size, 3, none⟩ = false := R11.frozen 3
    go_wp2
    have GG := (((((Only.refl [w.heap.size] wc).setCell ⟨w.heap.size, 0, none⟩ (.int .i64 (n : Int)) (by simp)).setCell ⟨w.heap.size, 1, none⟩ (.int .i64 (n : Int)) (by simp)).setCell ⟨w.heap.size, 2, none⟩ (.slice ga gn gc) (by simp)).setCell ⟨w.heap.size, 3, none⟩ (.slice oa n oc) (by simp))
    exact bodyPost_ret (v := .agg #[.int .i64 (n : Int), .int .i64 (n : Int), .slice ga gn gc, .slice oa n oc]) (by simp [results, Try.results43, go_sem, r0, r1, r2, r3]) rfl ⟨_, _, _, _, _, _, rfl, by rw [H4.out]; exact (ho11.only GG (fun k hk hk' => by have := Q1.out k hk; simp at hk'; omega)).lower (by omega), by rw [H4.out]; exact (oo11.only GG (fun k hk hk' => by have := Q2.out k hk; simp at hk'; omega)).lower (by omega), hdd, V11.trans (GG.below V11.size (by simp))⟩
set_option maxHeartbeats 8000000 in
set_option maxRecDepth 100000 in
theorem cvReduce_any (p : Int) (w : World) (hp : 2 ≤ p) (hp2 : p ≤ 256) :
    Calls Try.prog 41 #[.int .i64 p] w fun e w' => ∃ ga gn gc oa on oc, e = .returned (.agg #[.int .i64 (wid p), .int .i64 (wid p), .slice ga gn gc, .slice oa on oc]) ∧ OwnF 3 eGate w' w.heap.size ga gn gc (reG p) ∧ Own w' w.heap.size oa on oc (reO p) ∧ Disj (foot ga gc) (foot oa oc) ∧ Below w.heap.size w w' := by
  obtain ⟨n, hn⟩ : ∃ n, n = wid p := ⟨_, rfl⟩
  have hn8 := wid_le p
  have hn1 := wid_cases p
  rw [← hn] at hn8 hn1
  replace hn1 : 1 ≤ n := by omega
  unfold reG reO
  rw [← hn]
  have e1 : Hid (((n : Int) + 1) = ((n + 1 : Nat) : Int)) := rfl
  go_enter Try.func41, Try.ntmps41
  go_wp2_with fail
  refine (cvWidth_any p _ (by omega) hp2).mono ?_; rintro e w' ⟨rfl, rfl⟩
  rw [← hn]
  clear hn
  go_wp2_with fail
  have R1 : Blk (w.alloc (.cells #[.int .i64 0, .int .i64 0, .slice none 0 0, .slice none 0 0] 25)) w.heap.size 25 #[.int .i64 0, .int .i64 0, .slice none 0 0, .slice none 0 0] := Blk.new w _ _
  have V1 : Below w.heap.size w (w.alloc (.cells #[.int .i64 0, .int .i64 0, .slice none 0 0, .slice none 0 0] 25)) := (Below.refl _ _).alloc (Nat.le_refl _) _
  have Z1 : w.heap.size + 1 = (w.alloc (.cells #[.int .i64 0, .int .i64 0, .slice none 0 0, .slice none 0 0] 25)).heap.size := by simp
  generalize (w.alloc (.cells #[.int .i64 0, .int .i64 0, .slice none 0 0, .slice none 0 0] 25)) = w1 at *
  refine (ciNew_any _ _ w1.heap.size w1 (Nat.le_refl _)).mono ?_; rintro e w3 ⟨rfl, M3, u3, Z3⟩
  have R3 := R1.below u3
  have V3 := V1.trans (u3.mono V1.size)
  rw [← Z1] at *
  clear R1 V1 u3 Z1
  go_wp2_with fail
  refine (gdRange_any 0 n _ (by omega) (by omega)).mono ?_; rintro e w4 ⟨xa, xc, rfl, oa4, u4⟩
  go_wp2_with fail
  refine (gdRange_any n n _ (by omega) (by omega)).mono ?_; rintro e w5 ⟨ya, yc, rfl, ob5, u5⟩
  have M4 := M3.below u4
  have M5 := M4.below u5
  have R5 := (R3.below u4).below u5
  have V5 := (V3.trans (u4.mono V3.size)).trans (u5.mono (V3.trans (u4.mono V3.size)).size)
  have Z5 : w.heap.size + 1 + 1 ≤ w5.heap.size := Nat.le_trans Z3 (Nat.le_trans u4.size u5.size)
  have dA := (oa4.below u5).intD (Disj.of_rng oa4.feet M3.feet (.inr (Nat.le_refl _)))
  have dB := ob5.intD (Disj.of_rng ob5.feet M4.feet (.inr (Nat.le_refl _)))
  clear oa4 ob5 u4 u5 M3 M4 R3 V3 Z3
  go_wp2_with fail
  have h0 : (0 : Int) ≤ (n : Int) ∧ (n : Int) ≤ 1000 := by omega
  have L1 := adG_len ((n : Int) + n) (spL 0 n) (spL n n) [] n
  refine (gdAdd_any _ n _ _ _ n _ _ (w.heap.size + 1) (w.heap.size + 1) n n [] _ w5 M5 (by omega) h0 h0 dA dB (Nat.le_refl _) (by omega) (by simp)).mono ?_; rintro e w6 ⟨sa, sc, F6, rfl, os6, ds6, M6, s6⟩
  clear dA dB M5
  obtain ⟨⟨G1, q1, z1⟩, hr1⟩ : ∃ r, r = adG ((n : Int) + n) (spL 0 n) (spL n n) [] n := ⟨_, rfl⟩
  rw [← hr1] at os6 M6 L1
  simp only [List.length_nil] at L1
  try rw [← hr1]
  have H1 : Hid (re1 n = (G1, q1, z1)) := hr1.symm
  clear hr1
  have ot := os6
  have dt := ds6
  have M7 := M6
  have s7 := s6
  clear os6 ds6 M6 s6
  go_wp2_with fail
  rw [e1.out]
  refine (gdConst_any p (n + 1) (w.heap.size + 1) (w.heap.size + 1) n n G1 F6 w6 M7 (by have := s7.size; omega) h0 h0 (by omega) (by omega) (by omega)).mono ?_; rintro e w8 ⟨ca, cc, F8, rfl, oc8, dc8, M8, s8⟩
  obtain ⟨ot8, dt8⟩ := ot.stp dt s8
  have s9 := s7.trans s8
  clear ot dt M7 s7 s8
  go_wp2_with fail
  have L3 := suG_len ((n : Int) + n) (q1 ++ [z1]) (coL (gW ((n : Int) + n) (gt G1 3 0 0)) p (n + 1)) (gt (gt G1 3 0 0) 2 (gW ((n : Int) + n) G1) 0) (n + 1)
  simp only [gt_len] at L3
  refine (gdSub_any _ (n + 1) _ _ _ (n + 1) _ _ (w.heap.size + 1) (w.heap.size + 1) n n _ F8 w8 M8 (by have := s9.size; omega) h0 h0 (ot8.intD dt8) (oc8.intD dc8) (Nat.le_refl _) (by omega) (by simp only [gt_len]; omega)).mono ?_; rintro e w10 ⟨da, dc, F10, rfl, od, dd, M10, s10⟩
  obtain ⟨ot10, dt10⟩ := ot8.stp dt8 s10
  have s11 := s9.trans s10
  clear ot8 dt8 oc8 dc8 M8 s9 s10
  obtain ⟨⟨G3, q3, z3⟩, hr3⟩ : ∃ r, r = suG ((n : Int) + n) (q1 ++ [z1]) (coL (gW ((n : Int) + n) (gt G1 3 0 0)) p (n + 1)) (gt (gt G1 3 0 0) 2 (gW ((n : Int) + n) G1) 0) (n + 1) := ⟨_, rfl⟩
  rw [← hr3] at od M10 L3
  try rw [← hr3]
  have H3 : Hid (re3 n p (G1, q1, z1) = (G3, q3, z3)) := hr3.symm
  clear hr3
  simp only at L1 L3 od M10
  have HC := Lib.hid (chG_take ((n : Int) + n) z3 (q1 ++ [z1]) (q3 ++ [z3]) G3 n n (Nat.le_refl _))
  have HC2 := Lib.hid (chG_app ((n : Int) + n) z3 (q1 ++ [z1]) q3 [z3] G3 n (by omega))
  have R10 := R5.only s11.only (by simp)
  have V10 := V5.trans (s11.out (B := w.heap.size) (by omega) (by simp))
  have Z10 := s11.size
  have HB := Lib.hid (fun k hk => (M10.feet k hk).1)
  clear R5 V5 s11
  have iS := (ot10.intD dt10).pre n (by omega) (by omega)
  have iD := (od.intD dd).pre n (by omega) (by omega)
  obtain ⟨gs, os, hgs, _⟩ := ot10.ints.at 0 (by omega)
  obtain ⟨gd, o_d, hgd, cB⟩ := od.ints.at (n + 1) (by omega)
  subst hgs hgd
  have capS := ot10.cap
  have capD := od.cap
  have eB : (q3 ++ [z3]).getD (n + 1) 0 = z3 := by simp [List.getD, L3.2]
  rw [eB] at cB
  clear eB
  have hidx : ((n : Int) + 1) < ((n + 1 + 1 : Nat) : Int) := by omega
  have hidx0 : (0 : Int) ≤ (n : Int) + 1 := by omega
  have hidt : ((n : Int) + 1).toNat = n + 1 := by omega
  have hidw : IntKind.i64.wrap ((n : Int) + 1) = (n : Int) + 1 := IntWalk.i64_in _ (by omega)
  clear ot10 dt10 od dd
  obtain ⟨⟨G4, q4⟩, hr4⟩ : ∃ r, r = chG ((n : Int) + n) z3 (q1 ++ [z1]) q3 G3 n := ⟨_, rfl⟩
  have H4 : Hid (re4 n (re1 n) (re3 n p (re1 n)) = (G4, q4)) := Lib.hid (by rw [H1.out, H3.out]; exact hr4.symm)
  clear H1 H3
  have HR := Lib.hid hr4
  clear hr4
  go_upto_region 5 with fail
  go_cut [] (fun wx => ∃ ga gn gc oa oc, Blk wx (w.heap.size + 1) 79 #[.int .i64 (n : Int), .int .i64 (n : Int), .slice ga gn gc, .slice oa n oc] ∧ Blk wx w.heap.size 25 #[.int .i64 0, .int .i64 0, .slice none 0 0, .slice none 0 0] ∧ Below w.heap.size w wx ∧ OwnF 3 eGate wx (w.heap.size + 1) ga gn gc G4 ∧ Own wx (w.heap.size + 2) oa n oc q4 ∧ Disj (foot ga gc) (foot oa oc))
  case first =>
    go_region_with (go_at_call 87; refine (gdPick_any z3 _ n _ _ _ n _ _ (w.heap.size + 1) (w.heap.size + 1) n n G3 F10 _ M10.drew (by simp; omega) h0 h0 (iS.below ((Below.refl _ _).drew)) (iD.below ((Below.refl _ _).drew)) (Nat.le_refl _) (by omega) (by omega)).mono ?_; rintro e w11 ⟨oa, oc, F11, rfl, oo, do_, M11, s12⟩; obtain ⟨ga, gn, gc, hB, ho, hg, hbg, hF⟩ := M11; have x3 := hB.cell 3; have y3 := hB.frozen 3)
    all_goals
      rw [HC.out] at oo ho
      rw [HC2.out] at oo ho
      rw [← HR.out] at oo ho
      have B11 := hB.set_ 3 (.slice oa n oc)
      have O11 : Only [w.heap.size + 1] w11 (w11.setCell ⟨w.heap.size + 1, 3, none⟩ (.slice oa n oc)) := (Only.refl _ _).setCell _ _ (by simp)
      have R11 := ((R10.drew).only s12.only (fun hm => by have := HB.out _ hm; omega)).only O11 (by simp)
      have V11 := (V10.drew.trans (s12.out (B := w.heap.size) (Nat.le_trans V10.size (Nat.le_refl _)) (fun k hk => by have := HB.out _ hk; omega))).trans (O11.below (Nat.le_trans V10.size s12.size) (by simp))
      have ho11 := OwnF.only ho O11 (fun k hk hk' => hg (by simp at hk'; subst hk'; exact hk))
      have oo11 := Own.only oo O11 (fun k hk hk' => do_ k hk (by rw [hF]; simp at hk'; subst hk'; simp))
      have hdd : Disj (foot ga gc) (foot oa oc) := fun k hk hk' => do_ k hk' (by rw [hF]; exact List.mem_cons_of_mem _ hk)
      have Z11 : w.heap.size + 1 < w10.drew.heap.size := (show w.heap.size + 1 < w10.heap.size by omega)
      try go_wp2_with fail
      go_meet
      exact ⟨ga, gn, gc, oa, oc, B11, R11, V11, ho11, oo11.lower (by omega), hdd⟩
  case rest =>
    clear R10 V10 M10 iS iD
    obtain ⟨ga, gn, gc, oa, oc, B11, R11, V11, ho11, oo11, hdd⟩ := hcut
    have Q1 := Lib.hid ho11.feet
    have Q2 := Lib.hid oo11.feet
    have x0 : wc.cell? ⟨w.heap.size + 1, 0, none⟩ = some (.int .i64 (n : Int)) := B11.cell 0
    have x1 : wc.cell? ⟨w.heap.size + 1, 1, none⟩ = some (.int .i64 (n : Int)) := B11.cell 1
    have x2 : wc.cell? ⟨w.heap.size + 1, 2, none⟩ = some (.slice ga gn gc) := B11.cell 2
    have x3 : wc.cell? ⟨w.heap.size + 1, 3, none⟩ = some (.slice oa n oc) := B11.cell 3
    have r0 : wc.cell? ⟨w.heap.size, 0, none⟩ = some (.int .i64 0) := R11.cell 0
    have q0 : wc.frozen? ⟨w.heap.size, 0, none⟩ = false := R11.frozen 0
    have r1 : wc.cell? ⟨w.heap.size, 1, none⟩ = some (.int .i64 0) := R11.cell 1
    have q1 : wc.frozen? ⟨w.heap.size, 1, none⟩ = false := R11.frozen 1
    have r2 : wc.cell? ⟨w.heap.size, 2, none⟩ = some (.slice none 0 0) := R11.cell 2
    have q2 : wc.frozen? ⟨w.heap.size, 2, none⟩ = false := R11.frozen 2
    have r3 : wc.cell? ⟨w.heap.size, 3, none⟩ = some (.slice none 0 0) := R11.cell 3
    have q3 : wc.frozen? ⟨w.heap.size, 3, none⟩ = false := R11.frozen 3
    go_wp2
    have GG := (((((Only.refl [w.heap.size] wc).setCell ⟨w.heap.size, 0, none⟩ (.int .i64 (n : Int)) (by simp)).setCell ⟨w.heap.size, 1, none⟩ (.int .i64 (n : Int)) (by simp)).setCell ⟨w.heap.size, 2, none⟩ (.slice ga gn gc) (by simp)).setCell ⟨w.heap.size, 3, none⟩ (.slice oa n oc) (by simp))
    exact bodyPost_ret (v := .agg #[.int .i64 (n : Int), .int .i64 (n : Int), .slice ga gn gc, .slice oa n oc]) (by simp [results, Try.results41, go_sem, r0, r1, r2, r3]) rfl ⟨_, _, _, _, _, _, rfl, by rw [H4.out]; exact (ho11.only GG (fun k hk hk' => by have := Q1.out k hk; simp at hk'; omega)).lower (by omega), by rw [H4.out]; exact (oo11.only GG (fun k hk hk' => by have := Q2.out k hk; simp at hk'; omega)).lower (by omega), hdd, V11.trans (GG.below V11.size (by simp))⟩
end Go.Proofs.Ytkbhigdciokfkaa
