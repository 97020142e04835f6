/- Further lemmas and walks that the claim's proof rests on, part 2. -/
import Derived.Test.YtmbheimjphhamaaK1
import Derived.Test.YtmbheimjphhamaaK2
import Derived.Test.YtmbheimjphhamaaK3
import Derived.Test.YtmbheimjphhamaaK4
import Derived.Test.YtmbheimjphhamaaK5
import Derived.Test.YtmbheimjphhamaaK6
import Derived.Test.YtmbheimjphhamaaK7
import Derived.Test.YtmbheimjphhamaaK8
import Derived.Test.YtmbheimjphhamaaK9
import Derived.Test.YtmbheimjphhamaaL1
namespace Go.Proofs.Ytmbheimjphhamaa
open Go.RowKit
set_option maxHeartbeats 8000000 in
set_option maxRecDepth 100000 in
theorem TurnCells_any (wd : Int) (a : Option Addr) (n c : Nat) (l : List Int) (i : Int) (w : World) (h : Ints w a n c l) :
    Calls Try.prog 31 #[.int .i64 wd, .slice a n c, .int .i64 i] w fun e w' => ∃ a1 n1 c1, e = .returned (.tuple #[.slice a1 n1 c1, .bool (celB wd l i)]) ∧ Own w' w.heap.size a1 n1 c1 (tcR wd l i) ∧ Below w.heap.size w w' := by
  have hlen := h.len
  have hle := h.le
  cases hc : celB wd l i
  · have HC := Lib.hid hc
    have e1 : tcR wd l i = [] := by unfold tcR; rw [hc]; rfl
    rw [e1]
    clear hc e1 hlen
    go_enter Try.func31, Try.ntmps31
    go_wp2_with fail
    refine (areCells_any wd a n c l i _ h).mono ?_; rintro e w1 ⟨rfl, V1⟩; rw [HC.out]
    go_wp2
    go_ret2
    exact ⟨none, 0, 0, rfl, Own.nil0 _ _ _, V1⟩
  · have hc2 := hc
    unfold celB at hc2
    rw [Bool.and_eq_true] at hc2
    obtain ⟨hm, hT⟩ := hc2
    rw [← hlen] at hm
    obtain ⟨⟨n1, n8⟩, ⟨w1', w4'⟩, _⟩ := memB_true hm
    obtain ⟨wd, rfl⟩ : ∃ k : Nat, wd = k := ⟨wd.toNat, by omega⟩
    obtain ⟨hl, hi⟩ := celT_true (wd := wd) (by omega) (by omega) hT
    have e1 : tcR wd l i = mrR 3 n wd l i [] := by unfold tcR; rw [hc, if_pos rfl, hlen]; rfl
    rw [e1]
    clear e1
    have HC := Lib.hid hc
    have hw3 := wid8 n (by omega)
    have hNI := mrNI_le 3 n wd (by omega) (by omega)
    have hGA := mr_gates 3 n wd hm
    have hOU := mr_outs 3 n wd hm
    have hGL : mG 3 n wd = (meG 3 n wd).1 := by unfold mG; rw [if_pos hm]; rfl
    have hOL : mO 3 n wd = (meG 3 n wd).2 := by unfold mO; rw [if_pos hm]; rfl
    have hON := meO_len 3 n wd (by omega) (by omega)
    have hG3 := (m_len 3 n wd).1
    rw [hGL] at hG3
    have hQ : mrNI 3 n wd = n * wd + wid (n : Int) := by unfold mrNI meMore; simp
    rw [hQ] at hGA hOU hNI
    clear hQ
    have hM8 : meN 3 n ≤ 8 ∧ 1 ≤ meN 3 n := by unfold meN; split <;> omega
    obtain ⟨RS, hRS⟩ : ∃ r, r = mrR 3 n wd l i ([]) := ⟨_, rfl⟩
    rw [← hRS]
    have HR := Lib.hid (show RS = cnL (pkL (evL (meG 3 n wd).1 (cbL l wd n ++ (btL i (wid (n : Int)))) ((meG 3 n wd).1.length / 3)) (meG 3 n wd).2 (meN 3 n * wd)) wd (meN 3 n) from by rw [hRS]; unfold mrR mrO mrV; rw [List.append_nil])
    clear hRS
    have HBW : Hid (Bt (btL i (wid (n : Int)))) := Lib.hid (btL_bits _ _)
    have HM := Lib.hid hm
    have HL := Lib.hid hl
    have HI := Lib.hid hi
    clear hm hc hT hl hi hlen
    obtain ⟨V, hV⟩ : ∃ V, V = wid (n : Int) := ⟨_, rfl⟩
    rw [← hV] at hw3 HR HBW hGA hOU hNI
    have HV := Lib.hid hV
    clear hV
    replace hGA := Lib.hid hGA
    replace hOU := Lib.hid hOU
    obtain ⟨m, hmN⟩ : ∃ m, m = meN 3 n := ⟨_, rfl⟩
    rw [← hmN] at hON hM8 HR
    have HMN := Lib.hid hmN
    clear hmN
    obtain ⟨mw, hmw⟩ : ∃ mw, mw = m * wd := ⟨_, rfl⟩
    rw [← hmw] at hON HR
    have HMW := Lib.hid hmw
    clear hmw
    have hwd1 : 1 ≤ wd := by omega
    have hwd4 : wd ≤ 4 := by omega
    have hn1 : (1 : Int) ≤ n := by omega
    have hn256 : (n : Int) ≤ 256 := by omega
    have hM1 := hM8.1
    have hM2 := hM8.2
    clear hM8
    have hM0 : (0 : Int) < (m : Int) := by omega
    go_enter Try.func31, Try.ntmps31
    go_wp2_with fail
    refine (areCells_any wd a n c l i _ h).mono ?_; rintro e w1 ⟨rfl, V1⟩; rw [HC.out]
    go_wp2_with fail
    refine (TurnCircuit_any n wd _).mono ?_; rintro e w2 ⟨ga, gn, gc, oa, on, oc, rfl, og, ro, dd, u2⟩
    rw [HM.out]
    rw [hGL] at og
    rw [hOL] at ro
    clear dd hGL hOL
    generalize mS0 n wd = s0 at *
    generalize mS1 3 n wd = s1 at *
    generalize (meG 3 n wd).1 = G at *
    generalize (meG 3 n wd).2 = O at *
    have V2 := V1.trans (u2.mono V1.size)
    have Z2 := V2.size
    have VV := V2.alloc V2.size (.cells #[.int .i64 s0, .int .i64 s1, .slice ga gn gc, .slice oa on oc] 28)
    have R : Blk (w2.alloc (.cells #[.int .i64 s0, .int .i64 s1, .slice ga gn gc, .slice oa on oc] 28)) w2.heap.size 28 #[.int .i64 s0, .int .i64 s1, .slice ga gn gc, .slice oa on oc] := Blk.new w2 _ _
    have og2 := og.flat.below ((Below.refl w2.heap.size w2).alloc (Nat.le_refl _) (.cells #[.int .i64 s0, .int .i64 s1, .slice ga gn gc, .slice oa on oc] 28))
    have ro2 := ro.ints.below ((Below.refl w2.heap.size w2).alloc (Nat.le_refl _) (.cells #[.int .i64 s0, .int .i64 s1, .slice ga gn gc, .slice oa on oc] 28))
    have hon := ro.len
    have hgn := og.len
    clear u2 V1 V2 og ro
    have hon2 : on = mw := by rw [hon, hON]
    subst hon2
    have HGN : Hid (gn = G.length / 3) := Lib.hid (by omega)
    clear hon hgn hON
    go_wp2_with fail
    generalize (w2.alloc (.cells #[.int .i64 s0, .int .i64 s1, .slice ga gn gc, .slice oa on oc] 28)) = w9 at *
    have h9 := h.below VV
    have hz9 := VV.size
    have x0 : w9.cell? ⟨w2.heap.size, 0, none⟩ = some (.int .i64 s0) := R.cell 0
    have x1 : w9.cell? ⟨w2.heap.size, 1, none⟩ = some (.int .i64 s1) := R.cell 1
    have x2 : w9.cell? ⟨w2.heap.size, 2, none⟩ = some (.slice ga gn gc) := R.cell 2
    have x3 : w9.cell? ⟨w2.heap.size, 3, none⟩ = some (.slice oa on oc) := R.cell 3
    clear R h
    go_region_held3 (fun W => W.cell? ⟨w2.heap.size, 0, none⟩ = some (.int .i64 s0) ∧ W.cell? ⟨w2.heap.size, 1, none⟩ = some (.int .i64 s1) ∧ W.cell? ⟨w2.heap.size, 2, none⟩ = some (.slice ga gn gc) ∧ W.cell? ⟨w2.heap.size, 3, none⟩ = some (.slice oa on oc))
      (first | exact ⟨keepC u13 (keepC u10 x0), keepC u13 (keepC u10 x1), keepC u13 (keepC u10 x2), keepC u13 (keepC u10 x3)⟩ | exact ⟨keepC u10 x0, keepC u10 x1, keepC u10 x2, keepC u10 x3⟩ | go_keep)
      (first | (go_at_call 51; refine (indexWidth_any n _ hn1 hn256).mono ?_; rintro e w' ⟨rfl, rfl⟩; rw [← HV.out]) | (go_at_call 61; refine (bitsOf_any i V _ HI.out (by omega)).mono ?_; rintro e w10 ⟨a10, c10, rfl, o10, u10⟩) | (go_at_call 60; refine (runMemory_any s0 s1 ga gn gc oa on oc wd a n c a10 V c10 G O l (btL i V) m _ (og2.drew.below u10) (ro2.drew.below u10) (h9.drew.below u10) (o10.ints) (by rw [HGN.out]; exact hGA.out) (by rw [HGN.out]; exact hOU.out) HBW.out HL.out (by omega) ⟨hwd1, hwd4⟩ (by omega) (by have := HGN.out; omega) (by omega) HMW.out).mono ?_; rintro e w13 ⟨a13, c13, rfl, o13, u13⟩))
    all_goals
      rw [HGN.out, ← HR.out] at o13
      have U := (Below.refl w9.heap.size w9).drew.trans (u10.trans (u13.mono u10.size))
      have VF := VV.trans (U.mono VV.size)
      have oF := o13.lower (b' := w.heap.size) (Nat.le_trans hz9 u10.size)
      clear u10 u13 o10 o13 U
      go_wp2
      go_ret2
      exact ⟨_, _, _, rfl, oF, VF⟩
end Go.Proofs.Ytmbheimjphhamaa
namespace Go.Proofs.Ytmbheimjphhamaa
open Go.RowKit
set_option maxHeartbeats 8000000 in
set_option maxRecDepth 100000 in
theorem ReadCell_0_any (wd : Int) (a : Option Addr) (n c : Nat) (l : List Int) (i : Int) (w : World) (h : Ints w a n c l) :
    Calls Try.prog 25 #[.bool false, .int .i64 wd, .slice a n c, .int .i64 i] w fun e w' => e = .returned (.tuple #[.int .i64 (rcV 0 wd l i), .bool (celB wd l i)]) ∧ Below w.heap.size w w' := by
  have hlen := h.len
  have hle := h.le
  cases hc : celB wd l i
  · have HC := Lib.hid hc
    have e1 : rcV 0 wd l i = 0 := by unfold rcV; rw [hc]; rfl
    rw [e1]
    clear hc e1 hlen
    go_enter Try.func25, Try.ntmps25
    go_wp2_with fail
    refine (areCells_any wd a n c l i _ h).mono ?_; rintro e w1 ⟨rfl, V1⟩; rw [HC.out]
    go_wp2
    go_ret2
    exact ⟨rfl, V1⟩
  · have hc2 := hc
    unfold celB at hc2
    rw [Bool.and_eq_true] at hc2
    obtain ⟨hm, hT⟩ := hc2
    rw [← hlen] at hm
    obtain ⟨⟨n1, n8⟩, ⟨w1', w4'⟩, _⟩ := memB_true hm
    obtain ⟨wd, rfl⟩ : ∃ k : Nat, wd = k := ⟨wd.toNat, by omega⟩
    obtain ⟨hl, hi⟩ := celT_true (wd := wd) (by omega) (by omega) hT
    have e1 : rcV 0 wd l i = (mrR 0 n wd l i []).getD 0 0 := by unfold rcV; rw [hc, if_pos rfl, hlen]; rfl
    rw [e1]
    clear e1
    have HC := Lib.hid hc
    have hw3 := wid8 n (by omega)
    have hNI := mrNI_le 0 n wd (by omega) (by omega)
    have hGA := mr_gates 0 n wd hm
    have hOU := mr_outs 0 n wd hm
    have hGL : mG 0 n wd = (meG 0 n wd).1 := by unfold mG; rw [if_pos hm]; rfl
    have hOL : mO 0 n wd = (meG 0 n wd).2 := by unfold mO; rw [if_pos hm]; rfl
    have hON := meO_len 0 n wd (by omega) (by omega)
    have hG3 := (m_len 0 n wd).1
    rw [hGL] at hG3
    have hQ : mrNI 0 n wd = n * wd + wid (n : Int) := by unfold mrNI meMore; simp
    rw [hQ] at hGA hOU hNI
    clear hQ
    have hM8 : meN 0 n ≤ 8 ∧ 1 ≤ meN 0 n := by unfold meN; split <;> omega
    obtain ⟨RS, hRS⟩ : ∃ r, r = mrR 0 n wd l i ([]) := ⟨_, rfl⟩
    rw [← hRS]
    have HR := Lib.hid (show RS = cnL (pkL (evL (meG 0 n wd).1 (cbL l wd n ++ (btL i (wid (n : Int)))) ((meG 0 n wd).1.length / 3)) (meG 0 n wd).2 (meN 0 n * wd)) wd (meN 0 n) from by rw [hRS]; unfold mrR mrO mrV; rw [List.append_nil])
    clear hRS
    have HBW : Hid (Bt (btL i (wid (n : Int)))) := Lib.hid (btL_bits _ _)
    have HM := Lib.hid hm
    have HL := Lib.hid hl
    have HI := Lib.hid hi
    clear hm hc hT hl hi hlen
    obtain ⟨V, hV⟩ : ∃ V, V = wid (n : Int) := ⟨_, rfl⟩
    rw [← hV] at hw3 HR HBW hGA hOU hNI
    have HV := Lib.hid hV
    clear hV
    replace hGA := Lib.hid hGA
    replace hOU := Lib.hid hOU
    obtain ⟨m, hmN⟩ : ∃ m, m = meN 0 n := ⟨_, rfl⟩
    rw [← hmN] at hON hM8 HR
    have HMN := Lib.hid hmN
    clear hmN
    obtain ⟨mw, hmw⟩ : ∃ mw, mw = m * wd := ⟨_, rfl⟩
    rw [← hmw] at hON HR
    have HMW := Lib.hid hmw
    clear hmw
    have hwd1 : 1 ≤ wd := by omega
    have hwd4 : wd ≤ 4 := by omega
    have hn1 : (1 : Int) ≤ n := by omega
    have hn256 : (n : Int) ≤ 256 := by omega
    have hM1 := hM8.1
    have hM2 := hM8.2
    clear hM8
    have hM0 : (0 : Int) < (m : Int) := by omega
    obtain ⟨res, hres⟩ : ∃ r, r = RS.getD 0 0 := ⟨_, rfl⟩
    rw [← hres]
    have HRES := Lib.hid hres
    clear hres
    go_enter Try.func25, Try.ntmps25
    go_wp2_with fail
    refine (areCells_any wd a n c l i _ h).mono ?_; rintro e w1 ⟨rfl, V1⟩; rw [HC.out]
    go_wp2_with fail
    refine (ScanReadCircuit_any n wd _).mono ?_; rintro e w2 ⟨ga, gn, gc, oa, on, oc, rfl, og, ro, dd, u2⟩
    rw [HM.out]
    rw [hGL] at og
    rw [hOL] at ro
    clear dd hGL hOL
    generalize mS0 n wd = s0 at *
    generalize mS1 0 n wd = s1 at *
    generalize (meG 0 n wd).1 = G at *
    generalize (meG 0 n wd).2 = O at *
    have V2 := V1.trans (u2.mono V1.size)
    have Z2 := V2.size
    have VV := V2.alloc V2.size (.cells #[.int .i64 s0, .int .i64 s1, .slice ga gn gc, .slice oa on oc] 28)
    have R : Blk (w2.alloc (.cells #[.int .i64 s0, .int .i64 s1, .slice ga gn gc, .slice oa on oc] 28)) w2.heap.size 28 #[.int .i64 s0, .int .i64 s1, .slice ga gn gc, .slice oa on oc] := Blk.new w2 _ _
    have og2 := og.flat.below ((Below.refl w2.heap.size w2).alloc (Nat.le_refl _) (.cells #[.int .i64 s0, .int .i64 s1, .slice ga gn gc, .slice oa on oc] 28))
    have ro2 := ro.ints.below ((Below.refl w2.heap.size w2).alloc (Nat.le_refl _) (.cells #[.int .i64 s0, .int .i64 s1, .slice ga gn gc, .slice oa on oc] 28))
    have hon := ro.len
    have hgn := og.len
    clear u2 V1 V2 og ro
    have hon2 : on = mw := by rw [hon, hON]
    subst hon2
    have HGN : Hid (gn = G.length / 3) := Lib.hid (by omega)
    clear hon hgn hON
    go_wp2_with fail
    generalize (w2.alloc (.cells #[.int .i64 s0, .int .i64 s1, .slice ga gn gc, .slice oa on oc] 28)) = w9 at *
    have h9 := h.below VV
    have hz9 := VV.size
    have x0 : w9.cell? ⟨w2.heap.size, 0, none⟩ = some (.int .i64 s0) := R.cell 0
    have x1 : w9.cell? ⟨w2.heap.size, 1, none⟩ = some (.int .i64 s1) := R.cell 1
    have x2 : w9.cell? ⟨w2.heap.size, 2, none⟩ = some (.slice ga gn gc) := R.cell 2
    have x3 : w9.cell? ⟨w2.heap.size, 3, none⟩ = some (.slice oa on oc) := R.cell 3
    clear R h
    go_region_with (first | (go_at_call 51; refine (indexWidth_any n _ hn1 hn256).mono ?_; rintro e w' ⟨rfl, rfl⟩; rw [← HV.out]) | (go_at_call 61; refine (bitsOf_any i V _ HI.out (by omega)).mono ?_; rintro e w10 ⟨a10, c10, rfl, o10, u10⟩; have y0 := keepC u10 x0; have y1 := keepC u10 x1; have y2 := keepC u10 x2; have y3 := keepC u10 x3) | (go_at_call 60; refine (runMemory_any s0 s1 ga gn gc oa on oc wd a n c a10 V c10 G O l (btL i V) m _ (og2.drew.below u10) (ro2.drew.below u10) (h9.drew.below u10) (o10.ints) (by rw [HGN.out]; exact hGA.out) (by rw [HGN.out]; exact hOU.out) HBW.out HL.out (by omega) ⟨hwd1, hwd4⟩ (by omega) (by have := HGN.out; omega) (by omega) HMW.out).mono ?_; rintro e w13 ⟨a13, c13, rfl, o13, u13⟩; rw [HGN.out, ← HR.out] at o13; obtain ⟨g13, p13, rfl, cx⟩ := o13.ints.at 0 (by omega); rw [Nat.add_zero, ← HRES.out] at cx))
    all_goals
      have U := (Below.refl w9.heap.size w9).drew.trans (u10.trans (u13.mono u10.size))
      have VF := VV.trans (U.mono VV.size)
      clear u10 o10 u13 o13 U VV
      go_wp2
      go_ret2
      exact ⟨rfl, VF⟩
set_option maxHeartbeats 8000000 in
set_option maxRecDepth 100000 in
theorem ReadCell_1_any (wd : Int) (a : Option Addr) (n c : Nat) (l : List Int) (i : Int) (w : World) (h : Ints w a n c l) :
    Calls Try.prog 25 #[.bool true, .int .i64 wd, .slice a n c, .int .i64 i] w fun e w' => e = .returned (.tuple #[.int .i64 (rcV 1 wd l i), .bool (celB wd l i)]) ∧ Below w.heap.size w w' := by
  have hlen := h.len
  have hle := h.le
  cases hc : celB wd l i
  · have HC := Lib.hid hc
    have e1 : rcV 1 wd l i = 0 := by unfold rcV; rw [hc]; rfl
    rw [e1]
    clear hc e1 hlen
    go_enter Try.func25, Try.ntmps25
    go_wp2_with fail
    refine (areCells_any wd a n c l i _ h).mono ?_; rintro e w1 ⟨rfl, V1⟩; rw [HC.out]
    go_wp2
    go_ret2
    exact ⟨rfl, V1⟩
  · have hc2 := hc
    unfold celB at hc2
    rw [Bool.and_eq_true] at hc2
    obtain ⟨hm, hT⟩ := hc2
    rw [← hlen] at hm
    obtain ⟨⟨n1, n8⟩, ⟨w1', w4'⟩, _⟩ := memB_true hm
    obtain ⟨wd, rfl⟩ : ∃ k : Nat, wd = k := ⟨wd.toNat, by omega⟩
    obtain ⟨hl, hi⟩ := celT_true (wd := wd) (by omega) (by omega) hT
    have e1 : rcV 1 wd l i = (mrR 1 n wd l i []).getD 0 0 := by unfold rcV; rw [hc, if_pos rfl, hlen]; rfl
    rw [e1]
    clear e1
    have HC := Lib.hid hc
    have hw3 := wid8 n (by omega)
    have hNI := mrNI_le 1 n wd (by omega) (by omega)
    have hGA := mr_gates 1 n wd hm
    have hOU := mr_outs 1 n wd hm
    have hGL : mG 1 n wd = (meG 1 n wd).1 := by unfold mG; rw [if_pos hm]; rfl
    have hOL : mO 1 n wd = (meG 1 n wd).2 := by unfold mO; rw [if_pos hm]; rfl
    have hON := meO_len 1 n wd (by omega) (by omega)
    have hG3 := (m_len 1 n wd).1
    rw [hGL] at hG3
    have hQ : mrNI 1 n wd = n * wd + wid (n : Int) := by unfold mrNI meMore; simp
    rw [hQ] at hGA hOU hNI
    clear hQ
    have hM8 : meN 1 n ≤ 8 ∧ 1 ≤ meN 1 n := by unfold meN; split <;> omega
    obtain ⟨RS, hRS⟩ : ∃ r, r = mrR 1 n wd l i ([]) := ⟨_, rfl⟩
    rw [← hRS]
    have HR := Lib.hid (show RS = cnL (pkL (evL (meG 1 n wd).1 (cbL l wd n ++ (btL i (wid (n : Int)))) ((meG 1 n wd).1.length / 3)) (meG 1 n wd).2 (meN 1 n * wd)) wd (meN 1 n) from by rw [hRS]; unfold mrR mrO mrV; rw [List.append_nil])
    clear hRS
    have HBW : Hid (Bt (btL i (wid (n : Int)))) := Lib.hid (btL_bits _ _)
    have HM := Lib.hid hm
    have HL := Lib.hid hl
    have HI := Lib.hid hi
    clear hm hc hT hl hi hlen
    obtain ⟨V, hV⟩ : ∃ V, V = wid (n : Int) := ⟨_, rfl⟩
    rw [← hV] at hw3 HR HBW hGA hOU hNI
    have HV := Lib.hid hV
    clear hV
    replace hGA := Lib.hid hGA
    replace hOU := Lib.hid hOU
    obtain ⟨m, hmN⟩ : ∃ m, m = meN 1 n := ⟨_, rfl⟩
    rw [← hmN] at hON hM8 HR
    have HMN := Lib.hid hmN
    clear hmN
    obtain ⟨mw, hmw⟩ : ∃ mw, mw = m * wd := ⟨_, rfl⟩
    rw [← hmw] at hON HR
    have HMW := Lib.hid hmw
    clear hmw
    have hwd1 : 1 ≤ wd := by omega
    have hwd4 : wd ≤ 4 := by omega
    have hn1 : (1 : Int) ≤ n := by omega
    have hn256 : (n : Int) ≤ 256 := by omega
    have hM1 := hM8.1
    have hM2 := hM8.2
    clear hM8
    have hM0 : (0 : Int) < (m : Int) := by omega
    obtain ⟨res, hres⟩ : ∃ r, r = RS.getD 0 0 := ⟨_, rfl⟩
    rw [← hres]
    have HRES := Lib.hid hres
    clear hres
    go_enter Try.func25, Try.ntmps25
    go_wp2_with fail
    refine (areCells_any wd a n c l i _ h).mono ?_; rintro e w1 ⟨rfl, V1⟩; rw [HC.out]
    go_wp2_with fail
    refine (ScanReadCircuit_any n wd _).mono ?_; rintro e w2 ⟨ha, hn, hc, pa, pn, pc, rfl, oh, op, dh, u2⟩
    rw [HM.out]
    clear oh op dh
    generalize mS0 n wd = z0 at *
    generalize mS1 0 n wd = z1 at *
    have V2 := V1.trans (u2.mono V1.size)
    have V3 := V2.alloc V2.size (.cells #[.int .i64 z0, .int .i64 z1, .slice ha hn hc, .slice pa pn pc] 28)
    have R3 : Blk (w2.alloc (.cells #[.int .i64 z0, .int .i64 z1, .slice ha hn hc, .slice pa pn pc] 28)) w2.heap.size 28 #[.int .i64 z0, .int .i64 z1, .slice ha hn hc, .slice pa pn pc] := Blk.new w2 _ _
    have Z3 : w2.heap.size < (w2.alloc (.cells #[.int .i64 z0, .int .i64 z1, .slice ha hn hc, .slice pa pn pc] 28)).heap.size := by simp
    have Z2 := V2.size
    clear u2 V1 V2
    go_wp2_with fail
    generalize (w2.alloc (.cells #[.int .i64 z0, .int .i64 z1, .slice ha hn hc, .slice pa pn pc] 28)) = w3 at *
    refine (TreeReadCircuit_any n wd _).mono ?_; rintro e w4 ⟨ga, gn, gc, oa, on, oc, rfl, og, ro, dd, u4⟩
    rw [HM.out]
    rw [hGL] at og
    rw [hOL] at ro
    clear dd hGL hOL
    generalize mS0 n wd = s0 at *
    generalize mS1 1 n wd = s1 at *
    generalize (meG 1 n wd).1 = G at *
    generalize (meG 1 n wd).2 = O at *
    have V4 := V3.trans (u4.mono V3.size)
    have R4 := R3.below u4
    have Q1 := Lib.hid og.feet
    have Q2 := Lib.hid ro.feet
    clear u4 R3 V3
    have r0 : w4.cell? ⟨w2.heap.size, 0, none⟩ = some (.int .i64 z0) := R4.cell 0
    have q0 : w4.frozen? ⟨w2.heap.size, 0, none⟩ = false := R4.frozen 0
    have r1 : w4.cell? ⟨w2.heap.size, 1, none⟩ = some (.int .i64 z1) := R4.cell 1
    have q1 : w4.frozen? ⟨w2.heap.size, 1, none⟩ = false := R4.frozen 1
    have r2 : w4.cell? ⟨w2.heap.size, 2, none⟩ = some (.slice ha hn hc) := R4.cell 2
    have q2 : w4.frozen? ⟨w2.heap.size, 2, none⟩ = false := R4.frozen 2
    have r3 : w4.cell? ⟨w2.heap.size, 3, none⟩ = some (.slice pa pn pc) := R4.cell 3
    have q3 : w4.frozen? ⟨w2.heap.size, 3, none⟩ = false := R4.frozen 3
    have GG := (((((Only.refl [w2.heap.size] w4).setCell ⟨w2.heap.size, 0, none⟩ (.int .i64 s0) (by simp)).setCell ⟨w2.heap.size, 1, none⟩ (.int .i64 s1) (by simp)).setCell ⟨w2.heap.size, 2, none⟩ (.slice ga gn gc) (by simp)).setCell ⟨w2.heap.size, 3, none⟩ (.slice oa on oc) (by simp))
    have R5 : Blk ((((w4.setCell ⟨w2.heap.size, 0, none⟩ (.int .i64 s0)).setCell ⟨w2.heap.size, 1, none⟩ (.int .i64 s1)).setCell ⟨w2.heap.size, 2, none⟩ (.slice ga gn gc)).setCell ⟨w2.heap.size, 3, none⟩ (.slice oa on oc)) w2.heap.size 28 #[.int .i64 s0, .int .i64 s1, .slice ga gn gc, .slice oa on oc] := by have := ((((R4.set_ 0 (.int .i64 s0)).set_ 1 (.int .i64 s1)).set_ 2 (.slice ga gn gc)).set_ 3 (.slice oa on oc)); simpa using this
    have og2 := Lib.hid (OwnF.only og GG (fun k hk hk' => by have := Q1.out k hk; simp at hk'; omega)).flat
    have ro2 := Lib.hid (ro.only GG (fun k hk hk' => by have := Q2.out k hk; simp at hk'; omega)).ints
    have V5 := Lib.hid (V4.trans (GG.below V4.size (by simp; exact Z2)))
    have RR := Lib.hid R5
    have hon := Lib.hid ro.len
    have hgn := Lib.hid og.len
    have HON := Lib.hid hON
    clear hON
    clear og ro GG R4 R5 V4 Q1 Q2
    go_wp2_with fail
    have R := RR.out
    have VV := V5.out
    replace og2 := og2.out
    replace ro2 := ro2.out
    replace hon := hon.out
    replace hgn := hgn.out
    have hON := HON.out
    clear HON
    clear RR V5 r0 r1 r2 r3 q0 q1 q2 q3 Z3
    generalize ((((w4.setCell ⟨w2.heap.size, 0, none⟩ (.int .i64 s0)).setCell ⟨w2.heap.size, 1, none⟩ (.int .i64 s1)).setCell ⟨w2.heap.size, 2, none⟩ (.slice ga gn gc)).setCell ⟨w2.heap.size, 3, none⟩ (.slice oa on oc)) = w9 at *
    have hon2 : on = mw := by rw [hon, hON]
    subst hon2
    have HGN : Hid (gn = G.length / 3) := Lib.hid (by omega)
    clear hon hgn hON
    have h9 := h.below VV
    have hz9 := VV.size
    have x0 : w9.cell? ⟨w2.heap.size, 0, none⟩ = some (.int .i64 s0) := R.cell 0
    have x1 : w9.cell? ⟨w2.heap.size, 1, none⟩ = some (.int .i64 s1) := R.cell 1
    have x2 : w9.cell? ⟨w2.heap.size, 2, none⟩ = some (.slice ga gn gc) := R.cell 2
    have x3 : w9.cell? ⟨w2.heap.size, 3, none⟩ = some (.slice oa on oc) := R.cell 3
    clear R h
    go_region_with (first | (go_at_call 51; refine (indexWidth_any n _ hn1 hn256).mono ?_; rintro e w' ⟨rfl, rfl⟩; rw [← HV.out]) | (go_at_call 61; refine (bitsOf_any i V _ HI.out (by omega)).mono ?_; rintro e w10 ⟨a10, c10, rfl, o10, u10⟩; have y0 := keepC u10 x0; have y1 := keepC u10 x1; have y2 := keepC u10 x2; have y3 := keepC u10 x3) | (go_at_call 60; refine (runMemory_any s0 s1 ga gn gc oa on oc wd a n c a10 V c10 G O l (btL i V) m _ (og2.drew.below u10) (ro2.drew.below u10) (h9.drew.below u10) (o10.ints) (by rw [HGN.out]; exact hGA.out) (by rw [HGN.out]; exact hOU.out) HBW.out HL.out (by omega) ⟨hwd1, hwd4⟩ (by omega) (by have := HGN.out; omega) (by omega) HMW.out).mono ?_; rintro e w13 ⟨a13, c13, rfl, o13, u13⟩; rw [HGN.out, ← HR.out] at o13; obtain ⟨g13, p13, rfl, cx⟩ := o13.ints.at 0 (by omega); rw [Nat.add_zero, ← HRES.out] at cx))
    all_goals
      have U := (Below.refl w9.heap.size w9).drew.trans (u10.trans (u13.mono u10.size))
      have VF := VV.trans (U.mono VV.size)
      clear u10 o10 u13 o13 U VV
      go_wp2
      go_ret2
      exact ⟨rfl, VF⟩
end Go.Proofs.Ytmbheimjphhamaa
namespace Go.Proofs.Ytmbheimjphhamaa
open Go.RowKit
set_option maxHeartbeats 8000000 in
set_option maxRecDepth 100000 in
theorem WriteCell_any (wd : Int) (a : Option Addr) (n c : Nat) (l : List Int) (i : Int) (v : Int) (w : World) (h : Ints w a n c l) :
    Calls Try.prog 28 #[.int .i64 wd, .slice a n c, .int .i64 i, .int .i64 v] w fun e w' => ∃ a1 n1 c1, e = .returned (.tuple #[.slice a1 n1 c1, .bool (wcB wd l i v)]) ∧ Own w' w.heap.size a1 n1 c1 (wcR wd l i v) ∧ Below w.heap.size w w' := by
  have hlen := h.len
  have hle := h.le
  cases hc : celB wd l i
  · have HC := Lib.hid hc
    have e0 : wcB wd l i v = false := by unfold wcB; rw [hc]; rfl
    have e1 : wcR wd l i v = [] := by unfold wcR; rw [e0]; rfl
    rw [e1, e0]
    clear e0
    clear hc e1 hlen
    go_enter Try.func28, Try.ntmps28
    go_wp2_with fail
    refine (areCells_any wd a n c l i _ h).mono ?_; rintro e w1 ⟨rfl, V1⟩; rw [HC.out]
    go_wp2
    go_ret2
    exact ⟨none, 0, 0, rfl, Own.nil0 _ _ _, V1⟩
  · have hc2 := hc
    unfold celB at hc2
    rw [Bool.and_eq_true] at hc2
    obtain ⟨hm, hT⟩ := hc2
    rw [← hlen] at hm
    obtain ⟨⟨n1, n8⟩, ⟨w1', w4'⟩, _⟩ := memB_true hm
    obtain ⟨wd, rfl⟩ : ∃ k : Nat, wd = k := ⟨wd.toNat, by omega⟩
    obtain ⟨hl, hi⟩ := celT_true (wd := wd) (by omega) (by omega) hT
    have hp2 := p2_le (k := wd) (by omega)
    cases hv : inB v 0 (2 ^ wd - 1)
    · have HC := Lib.hid hc
      have HVV := Lib.hid hv
      have e0 : wcB wd l i v = false := by unfold wcB; rw [hc, Int.toNat_natCast, hv]; rfl
      have e1 : wcR wd l i v = [] := by unfold wcR; rw [e0]; rfl
      rw [e1, e0]
      clear hc e1 e0 hlen hm hT hl hi hv
      have hw1 : 1 ≤ wd ∧ wd ≤ 4 := by omega
      clear hp2 w1' w4'
      have hwd4 := hw1.2
      have hs64 : (wd : Int) < 64 := by omega
      have hu : IntKind.u64.wrap (wd : Int) = (wd : Int) := IntWalk.u64_in _ (by omega)
      have hq2 : wrap64 ((2 : Int) ^ wd) = 2 ^ wd := by obtain ⟨h1, h2⟩ := p2_le hwd4; generalize (2 : Int) ^ wd = P at *; exact IntWalk.wrap64_in _ (by omega)
      have hq3 : wrap64 (1 * 2 ^ wd) = 2 ^ wd := by rw [Int.one_mul]; exact hq2
      have hq4 : wrap64 ((2 : Int) ^ wd - 1) = 2 ^ wd - 1 := by obtain ⟨h1, h2⟩ := p2_le hwd4; generalize (2 : Int) ^ wd = P at *; exact IntWalk.wrap64_in _ (by omega)
      have hq5 : (1 : Int) * 2 ^ wd = 2 ^ wd := Int.one_mul _
      go_enter Try.func28, Try.ntmps28
      go_wp2_with fail
      refine (areCells_any wd a n c l i _ h).mono ?_; rintro e w1 ⟨rfl, V1⟩; rw [HC.out]
      go_wp2_with fail
      refine (within_any _ _ _ _).mono ?_; rintro e w' ⟨rfl, rfl⟩; rw [HVV.out]
      go_wp2
      go_ret2
      exact ⟨none, 0, 0, rfl, Own.nil0 _ _ _, V1⟩
    · have HVV := Lib.hid hv
      have hvr := of_decide_eq_true hv
      have e0 : wcB wd l i v = true := by unfold wcB; rw [hc, Int.toNat_natCast, hv]; rfl
      have e1 : wcR wd l i v = mrR 2 n wd l i (btL v wd) := by unfold wcR; rw [e0, if_pos rfl, hlen]; rfl
      rw [e1, e0]
      clear e1 e0 hv
      have HC := Lib.hid hc
      have hw3 := wid8 n (by omega)
      have hNI := mrNI_le 2 n wd (by omega) (by omega)
      have hGA := mr_gates 2 n wd hm
      have hOU := mr_outs 2 n wd hm
      have hGL : mG 2 n wd = (meG 2 n wd).1 := by unfold mG; rw [if_pos hm]; rfl
      have hOL : mO 2 n wd = (meG 2 n wd).2 := by unfold mO; rw [if_pos hm]; rfl
      have hON := meO_len 2 n wd (by omega) (by omega)
      have hG3 := (m_len 2 n wd).1
      rw [hGL] at hG3
      have hQ : mrNI 2 n wd = n * wd + (wid (n : Int) + wd) := by unfold mrNI meMore; simp
      rw [hQ] at hGA hOU hNI
      clear hQ
      have hM8 : meN 2 n ≤ 8 ∧ 1 ≤ meN 2 n := by unfold meN; split <;> omega
      obtain ⟨RS, hRS⟩ : ∃ r, r = mrR 2 n wd l i (btL v wd) := ⟨_, rfl⟩
      rw [← hRS]
      have HR := Lib.hid (show RS = cnL (pkL (evL (meG 2 n wd).1 (cbL l wd n ++ (btL i (wid (n : Int)) ++ btL v wd)) ((meG 2 n wd).1.length / 3)) (meG 2 n wd).2 (meN 2 n * wd)) wd (meN 2 n) from by rw [hRS]; rfl)
      clear hRS
      have HBW : Hid (Bt (btL i (wid (n : Int)) ++ btL v wd)) := Lib.hid ((btL_bits _ _).app (btL_bits _ _))
      have HM := Lib.hid hm
      have HL := Lib.hid hl
      have HI := Lib.hid hi
      clear hm hc hT hl hi hlen
      obtain ⟨V, hV⟩ : ∃ V, V = wid (n : Int) := ⟨_, rfl⟩
      rw [← hV] at hw3 HR HBW hGA hOU hNI
      have HV := Lib.hid hV
      clear hV
      replace hGA := Lib.hid hGA
      replace hOU := Lib.hid hOU
      obtain ⟨m, hmN⟩ : ∃ m, m = meN 2 n := ⟨_, rfl⟩
      rw [← hmN] at hON hM8 HR
      have HMN := Lib.hid hmN
      clear hmN
      obtain ⟨mw, hmw⟩ : ∃ mw, mw = m * wd := ⟨_, rfl⟩
      rw [← hmw] at hON HR
      have HMW := Lib.hid hmw
      clear hmw
      have hwd1 : 1 ≤ wd := by omega
      have hwd4 : wd ≤ 4 := by omega
      have hn1 : (1 : Int) ≤ n := by omega
      have hn256 : (n : Int) ≤ 256 := by omega
      have hM1 := hM8.1
      have hM2 := hM8.2
      clear hM8
      have hM0 : (0 : Int) < (m : Int) := by omega
      have hv1 : 0 ≤ v ∧ v ≤ 1000000000 := by omega
      have HVR := Lib.hid hv1
      clear hv1 hvr
      have HW4 := Lib.hid (show wd = 1 ∨ wd = 2 ∨ wd = 3 ∨ wd = 4 by omega)
      clear hp2
      go_enter Try.func28, Try.ntmps28
      go_wp2_with fail
      refine (areCells_any wd a n c l i _ h).mono ?_; rintro e w1 ⟨rfl, V1⟩; rw [HC.out]
      have hs64 : (wd : Int) < 64 := by omega
      have hu : IntKind.u64.wrap (wd : Int) = (wd : Int) := IntWalk.u64_in _ (by omega)
      have hq2 : wrap64 ((2 : Int) ^ wd) = 2 ^ wd := by obtain ⟨h1, h2⟩ := p2_le hwd4; generalize (2 : Int) ^ wd = P at *; exact IntWalk.wrap64_in _ (by omega)
      have hq3 : wrap64 (1 * 2 ^ wd) = 2 ^ wd := by rw [Int.one_mul]; exact hq2
      have hq4 : wrap64 ((2 : Int) ^ wd - 1) = 2 ^ wd - 1 := by obtain ⟨h1, h2⟩ := p2_le hwd4; generalize (2 : Int) ^ wd = P at *; exact IntWalk.wrap64_in _ (by omega)
      have hq5 : (1 : Int) * 2 ^ wd = 2 ^ wd := Int.one_mul _
      go_wp2_with fail
      refine (within_any _ _ _ _).mono ?_; rintro e w' ⟨rfl, rfl⟩; rw [HVV.out]
      clear hs64 hu hq2 hq3 hq4 hq5
      go_wp2_with fail
      refine (WriteCircuit_any n wd _).mono ?_; rintro e w2 ⟨ga, gn, gc, oa, on, oc, rfl, og, ro, dd, u2⟩
      rw [HM.out]
      rw [hGL] at og
      rw [hOL] at ro
      clear dd hGL hOL
      generalize mS0 n wd = s0 at *
      generalize mS1 2 n wd = s1 at *
      generalize (meG 2 n wd).1 = G at *
      generalize (meG 2 n wd).2 = O at *
      have V2 := V1.trans (u2.mono V1.size)
      have Z2 := V2.size
      have VV := V2.alloc V2.size (.cells #[.int .i64 s0, .int .i64 s1, .slice ga gn gc, .slice oa on oc] 28)
      have R : Blk (w2.alloc (.cells #[.int .i64 s0, .int .i64 s1, .slice ga gn gc, .slice oa on oc] 28)) w2.heap.size 28 #[.int .i64 s0, .int .i64 s1, .slice ga gn gc, .slice oa on oc] := Blk.new w2 _ _
      have og2 := og.flat.below ((Below.refl w2.heap.size w2).alloc (Nat.le_refl _) (.cells #[.int .i64 s0, .int .i64 s1, .slice ga gn gc, .slice oa on oc] 28))
      have ro2 := ro.ints.below ((Below.refl w2.heap.size w2).alloc (Nat.le_refl _) (.cells #[.int .i64 s0, .int .i64 s1, .slice ga gn gc, .slice oa on oc] 28))
      have hon := ro.len
      have hgn := og.len
      clear u2 V1 V2 og ro
      have hon2 : on = mw := by rw [hon, hON]
      subst hon2
      have HGN : Hid (gn = G.length / 3) := Lib.hid (by omega)
      clear hon hgn hON
      go_wp2_with fail
      generalize (w2.alloc (.cells #[.int .i64 s0, .int .i64 s1, .slice ga gn gc, .slice oa on oc] 28)) = w9 at *
      have h9 := h.below VV
      have hz9 := VV.size
      have x0 : w9.cell? ⟨w2.heap.size, 0, none⟩ = some (.int .i64 s0) := R.cell 0
      have x1 : w9.cell? ⟨w2.heap.size, 1, none⟩ = some (.int .i64 s1) := R.cell 1
      have x2 : w9.cell? ⟨w2.heap.size, 2, none⟩ = some (.slice ga gn gc) := R.cell 2
      have x3 : w9.cell? ⟨w2.heap.size, 3, none⟩ = some (.slice oa on oc) := R.cell 3
      have hzB : w2.heap.size < w9.drew.heap.size := R.lt
      clear R h
      go_region_held3 (fun W => W.cell? ⟨w2.heap.size, 0, none⟩ = some (.int .i64 s0) ∧ W.cell? ⟨w2.heap.size, 1, none⟩ = some (.int .i64 s1) ∧ W.cell? ⟨w2.heap.size, 2, none⟩ = some (.slice ga gn gc) ∧ W.cell? ⟨w2.heap.size, 3, none⟩ = some (.slice oa on oc))
        (first | exact ⟨keepC u13 (keepL u12 hzB (keepC u11 (keepC u10 x0))), keepC u13 (keepL u12 hzB (keepC u11 (keepC u10 x1))), keepC u13 (keepL u12 hzB (keepC u11 (keepC u10 x2))), keepC u13 (keepL u12 hzB (keepC u11 (keepC u10 x3)))⟩ | exact ⟨keepL u12 hzB (keepC u11 (keepC u10 x0)), keepL u12 hzB (keepC u11 (keepC u10 x1)), keepL u12 hzB (keepC u11 (keepC u10 x2)), keepL u12 hzB (keepC u11 (keepC u10 x3))⟩ | exact ⟨keepC u11 (keepC u10 x0), keepC u11 (keepC u10 x1), keepC u11 (keepC u10 x2), keepC u11 (keepC u10 x3)⟩ | exact ⟨keepC u10 x0, keepC u10 x1, keepC u10 x2, keepC u10 x3⟩ | go_keep)
        (first | (go_at_call 51; refine (indexWidth_any n _ hn1 hn256).mono ?_; rintro e w' ⟨rfl, rfl⟩; rw [← HV.out]) | (go_at_call 61; have _ := u10; refine (bitsOf_any v wd _ HVR.out (by omega)).mono ?_; rintro e w11 ⟨a11, c11, rfl, o11, u11⟩) | (go_at_call 61; refine (bitsOf_any i V _ HI.out (by omega)).mono ?_; rintro e w10 ⟨a10, c10, rfl, o10, u10⟩) | (refine step_appI _ (by rfl) _ _ (by rfl) w9.drew.heap.size a10 V c10 (btL i V) (by rfl) (o10.below u11) _ wd c11 (btL v wd) (by rfl) o11.ints (by omega) (by exact Nat.le_trans u10.size u11.size) ?_; intro a12 c12 w12 o12 u12 g12 hold12) | (go_at_call 60; refine (runMemory_any s0 s1 ga gn gc oa on oc wd a n c a12 (V + wd) c12 G O l (btL i V ++ btL v wd) m _ (og2.drew.below ((u10.trans (u11.mono u10.size)).trans u12)) (ro2.drew.below ((u10.trans (u11.mono u10.size)).trans u12)) (h9.drew.below ((u10.trans (u11.mono u10.size)).trans u12)) (o12.ints) (by rw [HGN.out]; exact hGA.out) (by rw [HGN.out]; exact hOU.out) HBW.out HL.out (by omega) ⟨hwd1, hwd4⟩ (by omega) (by have := HGN.out; omega) (by omega) HMW.out).mono ?_; rintro e w13 ⟨a13, c13, rfl, o13, u13⟩))
      all_goals
        rw [HGN.out, ← HR.out] at o13
        have U12 := (u10.trans (u11.mono u10.size)).trans u12
        have U := (Below.refl w9.heap.size w9).drew.trans (U12.trans (u13.mono U12.size))
        have VF := VV.trans (U.mono VV.size)
        have oF := o13.lower (b' := w.heap.size) (Nat.le_trans hz9 U12.size)
        clear u10 u11 u12 u13 o10 o11 o12 o13 U U12 g12 hold12
        go_wp2
        go_ret2
        exact ⟨_, _, _, rfl, oF, VF⟩
end Go.Proofs.Ytmbheimjphhamaa
namespace Go.Proofs.Ytmbheimjphhamaa
open Go.RowKit
set_option maxHeartbeats 8000000 in
set_option maxRecDepth 100000 in
theorem meRun_0_no (wd i : Int) (n : Nat) (a : Option Addr) (c : Nat) (l : List Int) (ma : Option Addr) (mn mc : Nat) (w : World) (h : Ints w a n c l) (hm : memB n wd = false) :
    Calls Try.prog 63 #[.int .i64 0, .int .i64 wd, .slice a n c, .int .i64 i, .slice ma mn mc] w fun e w' => e = .returned (.tuple #[.slice none 0 0, .bool false]) ∧ Below w.heap.size w w' := by
  have hn := h.le
  have HM := Lib.hid hm
  clear hm
  go_enter Try.func63, Try.ntmps63
  go_wp2_with fail
  refine (meIf_0 n wd _).mono ?_; rintro e w1 ⟨ga, gn, gc, oa, on, oc, rfl, og, ro, dd, u1⟩
  rw [HM.out]
  clear og ro dd
  go_wp2
  go_ret2
  exact ⟨rfl, u1.alloc u1.size _⟩
set_option maxHeartbeats 8000000 in
set_option maxRecDepth 100000 in
theorem meRun_0_yes (wd n : Nat) (a : Option Addr) (c : Nat) (l : List Int) (i : Int) (ma : Option Addr) (mn mc : Nat) (mo : List Int) (w : World) (h : Ints w a n c l) (hmo : Ints w ma mn mc mo) (hm : memB n wd = true) (hl : ∀ x ∈ l, 0 ≤ x ∧ x ≤ 1000000000) (hi : 0 ≤ i ∧ i ≤ 1000000000) (hml : mn = meMore 0 wd) (hmb : Bt mo) :
    Calls Try.prog 63 #[.int .i64 0, .int .i64 wd, .slice a n c, .int .i64 i, .slice ma mn mc] w fun e w' => ∃ a1 c1, e = .returned (.tuple #[.slice a1 (meN 0 n) c1, .bool true]) ∧ Own w' w.heap.size a1 (meN 0 n) c1 (mrR 0 n wd l i mo) ∧ Below w.heap.size w w' := by
  obtain ⟨⟨n1, n8⟩, ⟨w1', w4'⟩, _⟩ := memB_true hm
  have hn := h.le
  have hw3 := wid8 n (by omega)
  have hNI := mrNI_le 0 n wd (by omega) (by omega)
  have hGA := Lib.hid (mr_gates 0 n wd hm)
  have hOU := Lib.hid (mr_outs 0 n wd hm)
  have hGL : mG 0 n wd = (meG 0 n wd).1 := by unfold mG; rw [if_pos hm]; rfl
  have hOL : mO 0 n wd = (meG 0 n wd).2 := by unfold mO; rw [if_pos hm]; rfl
  have hON := meO_len 0 n wd (by omega) (by omega)
  have hG3 := (m_len 0 n wd).1
  rw [hGL] at hG3
  have hQ := Lib.hid (show n * wd + (wid (n : Int) + mn) = mrNI 0 n wd by unfold mrNI; rw [hml])
  have hnw : n * wd ≤ 8 * 4 := Nat.mul_le_mul (by omega) (by omega)
  have hM8 : meN 0 n ≤ 8 := by unfold meN; split <;> omega
  have hdiv : (((meN 0 n * wd : Nat) : Int)).tdiv (wd : Int) = ((meN 0 n : Nat) : Int) := by rw [Int.natCast_mul, Int.mul_tdiv_cancel _ (by omega)]
  have HR := Lib.hid (show mrR 0 n wd l i mo = cnL (pkL (evL (meG 0 n wd).1 (cbL l wd n ++ (btL i (wid n) ++ mo)) ((meG 0 n wd).1.length / 3)) (meG 0 n wd).2 (meN 0 n * wd)) wd (meN 0 n) from rfl)
  have HBV := Lib.hid (mrV_bits n wd l i mo hmb)
  have HBO := Lib.hid (mrO_bits 0 n wd l i mo hmb)
  unfold mrV at HBV
  unfold mrO mrV at HBO
  have HM := Lib.hid hm
  have HML := Lib.hid (show mn ≤ 4 by rw [hml]; unfold meMore; split <;> omega)
  clear hm hml
  obtain ⟨V, hV⟩ : ∃ V, V = wid (n : Int) := ⟨_, rfl⟩
  rw [← hV] at hw3 HR HBV HBO hQ
  have HV := Lib.hid hV
  clear hV
  obtain ⟨m, hmN⟩ : ∃ m, m = meN 0 n := ⟨_, rfl⟩
  rw [← hmN] at hON hM8 hdiv HR HBO ⊢
  have HMN := Lib.hid hmN
  clear hmN
  obtain ⟨mw, hmw⟩ : ∃ mw, mw = m * wd := ⟨_, rfl⟩
  rw [← hmw] at hON hdiv HR HBO
  have HMW := Lib.hid hmw
  have hmw32 : mw ≤ 32 := by rw [hmw]; exact Nat.mul_le_mul hM8 (show wd ≤ 4 by omega)
  clear hmw
  have hdz : ((wd : Int) == 0) = false := by simp; omega
  have hdz2 : ¬ (wd : Int) = 0 := by omega
  have z1 : ((wd : Int) = 0) = False := by simp; omega
  have z2 : (wd = 0) = False := by simp; omega
  have hwr : IntKind.i64.wrap (m : Int) = (m : Int) := IntWalk.i64_in _ (by omega)
  have hwd1 : 1 ≤ wd := by omega
  have hwd4 : wd ≤ 4 := by omega
  go_enter Try.func63, Try.ntmps63
  go_wp2_with fail
  refine (meIf_0 n wd _).mono ?_; rintro e w1 ⟨ga, gn, gc, oa, on, oc, rfl, og, ro, dd, u1⟩
  rw [HM.out]
  rw [hGL] at og
  rw [hOL] at ro
  clear dd hGL hOL
  generalize mS0 n wd = s0 at *
  generalize mS1 0 n wd = s1 at *
  generalize (meG 0 n wd).1 = G at *
  generalize (meG 0 n wd).2 = O at *
  have hon : on = mw := by have := ro.len; omega
  subst hon
  have hgn : gn = G.length / 3 := by have := og.len; omega
  have HGN := Lib.hid hgn
  have V2 := u1.alloc u1.size (.cells #[.int .i64 s0, .int .i64 s1, .slice ga gn gc, .slice oa on oc] 28)
  have R2 : Blk (w1.alloc (.cells #[.int .i64 s0, .int .i64 s1, .slice ga gn gc, .slice oa on oc] 28)) w1.heap.size 28 #[.int .i64 s0, .int .i64 s1, .slice ga gn gc, .slice oa on oc] := Blk.new w1 _ _
  have og2 := og.flat.below ((Below.refl w1.heap.size w1).alloc (Nat.le_refl _) (.cells #[.int .i64 s0, .int .i64 s1, .slice ga gn gc, .slice oa on oc] 28))
  have ro2 := ro.ints.below ((Below.refl w1.heap.size w1).alloc (Nat.le_refl _) (.cells #[.int .i64 s0, .int .i64 s1, .slice ga gn gc, .slice oa on oc] 28))
  have hz2 : w.heap.size ≤ w1.heap.size := u1.size
  have hz3 : w1.heap.size < (w1.alloc (.cells #[.int .i64 s0, .int .i64 s1, .slice ga gn gc, .slice oa on oc] 28)).heap.size := by simp
  clear og ro u1 hgn
  go_wp2_with fail
  generalize (w1.alloc (.cells #[.int .i64 s0, .int .i64 s1, .slice ga gn gc, .slice oa on oc] 28)) = w2 at *
  refine (meWidths_any wd n _ (by omega)).mono ?_; rintro e w4 ⟨a4, c4, rfl, o4, u4⟩
  have V4 := V2.trans (u4.mono V2.size)
  go_wp2_with fail
  refine (coBits_any wd n a4 c4 a n c l _ o4.ints (h.below V4) (by omega) (Nat.le_refl _) (by omega) hl).mono ?_; rintro e w5 ⟨a5, c5, rfl, o5, u5⟩
  have V5 := V4.trans (u5.mono V4.size)
  go_wp2_with fail
  refine (meIndex_any n _ n1 (by omega)).mono ?_; rintro e w' ⟨rfl, rfl⟩
  rw [← HV.out]
  go_wp2_with fail
  refine (btOf_any i V _ hi (by omega)).mono ?_; rintro e w6 ⟨a6, c6, rfl, o6, u6⟩
  have V6 := V5.trans (u6.mono V5.size)
  go_wp2_with fail
  refine (ciJoin_any a6 V c6 _ ma mn mc mo _ o6.ints (hmo.below V6) (by omega) (by have := HML.out; omega)).mono ?_; rintro e w7 ⟨a7, c7, rfl, o7, u7⟩
  have V7 := V6.trans (u7.mono V6.size)
  go_wp2_with fail
  refine (ciJoin_any a5 (n * wd) c5 _ a7 (V + mn) c7 _ _ (o5.ints.below (u6.trans (u7.mono u6.size))) o7.ints (by omega) (by have := HML.out; omega)).mono ?_; rintro e w8 ⟨a8, c8, rfl, o8, u8⟩
  have V8 := V7.trans (u8.mono V7.size)
  rw [hQ.out] at o8 ⊢
  have U8 : Below w2.heap.size w2 w8 := u4.trans ((u5.trans ((u6.trans ((u7.trans (u8.mono u7.size)).mono u6.size)).mono u5.size)).mono u4.size)
  have R8 := R2.below U8
  have og8 := og2.below U8
  have ro8 := ro2.below U8
  have iv8 := o8.ints
  have x0 : w8.cell? ⟨w1.heap.size, 0, none⟩ = some (.int .i64 s0) := R8.cell 0
  have x1 : w8.cell? ⟨w1.heap.size, 1, none⟩ = some (.int .i64 s1) := R8.cell 1
  have x2 : w8.cell? ⟨w1.heap.size, 2, none⟩ = some (.slice ga gn gc) := R8.cell 2
  have x3 : w8.cell? ⟨w1.heap.size, 3, none⟩ = some (.slice oa on oc) := R8.cell 3
  clear R2 R8 U8 u4 u5 u6 u7 u8 o4 o5 o6 o7 o8 V2 V4 V5 V6 V7 og2 ro2 h hmo
  generalize mrNI 0 n wd = NI at *
  go_wp2_with fail
  go_region_held3 (fun W => W.cell? ⟨w1.heap.size, 0, none⟩ = some (.int .i64 s0) ∧ W.cell? ⟨w1.heap.size, 1, none⟩ = some (.int .i64 s1) ∧ W.cell? ⟨w1.heap.size, 2, none⟩ = some (.slice ga gn gc) ∧ W.cell? ⟨w1.heap.size, 3, none⟩ = some (.slice oa on oc))
    (first | exact ⟨keepC u11 (keepC u10 (keepC u9 x0)), keepC u11 (keepC u10 (keepC u9 x1)), keepC u11 (keepC u10 (keepC u9 x2)), keepC u11 (keepC u10 (keepC u9 x3))⟩ | exact ⟨keepC u11 (keepC u9 (keepC u10 x0)), keepC u11 (keepC u9 (keepC u10 x1)), keepC u11 (keepC u9 (keepC u10 x2)), keepC u11 (keepC u9 (keepC u10 x3))⟩ | exact ⟨keepC u10 (keepC u9 x0), keepC u10 (keepC u9 x1), keepC u10 (keepC u9 x2), keepC u10 (keepC u9 x3)⟩ | exact ⟨keepC u9 (keepC u10 x0), keepC u9 (keepC u10 x1), keepC u9 (keepC u10 x2), keepC u9 (keepC u10 x3)⟩ | exact ⟨keepC u10 x0, keepC u10 x1, keepC u10 x2, keepC u10 x3⟩ | exact ⟨keepC u9 x0, keepC u9 x1, keepC u9 x2, keepC u9 x3⟩ | go_keep)
    (first | (go_at_call 96; refine (meWidths_any wd m _ (by omega)).mono ?_; rintro e w9 ⟨a9, c9, rfl, o9, u9⟩) | (go_at_call 98; have _ := u9; refine (ciOuts_any s0 s1 ga gn gc oa on oc a8 NI c8 G _ O _ (og8.drew.below u9) (iv8.drew.below u9) (ro8.drew.below u9) (by rw [HGN.out]; exact hGA.out) HBV.out (by omega) (by have := HGN.out; omega) (by omega) (by rw [HGN.out]; exact hOU.out)).mono ?_; rintro e w10 ⟨a10, c10, rfl, o10, u10⟩) | (go_at_call 98; refine (ciOuts_any s0 s1 ga gn gc oa on oc a8 NI c8 G _ O _ og8.drew iv8.drew ro8.drew (by rw [HGN.out]; exact hGA.out) HBV.out (by omega) (by have := HGN.out; omega) (by omega) (by rw [HGN.out]; exact hOU.out)).mono ?_; rintro e w10 ⟨a10, c10, rfl, o10, u10⟩) | (go_at_call 97; refine (coNumbers_any wd m a9 c9 a10 on c10 _ _ (o9.ints.below u10) (o10.ints) (by omega) HMW.out hwd4 (by rw [HGN.out]; exact HBO.out)).mono ?_; rintro e w11 ⟨a11, c11, rfl, o11, u11⟩) | (go_at_call 97; refine (coNumbers_any wd m a9 c9 a10 on c10 _ _ (o9.ints) (o10.ints.below u9) (by omega) HMW.out hwd4 (by rw [HGN.out]; exact HBO.out)).mono ?_; rintro e w11 ⟨a11, c11, rfl, o11, u11⟩))
  all_goals
    rw [HGN.out, ← HR.out] at o11
    first
      | (have U := (Below.refl w8.heap.size w8).drew.trans (u9.trans ((u10.trans (u11.mono u10.size)).mono u9.size)); have Z := Nat.le_trans u9.size u10.size)
      | (have U := (Below.refl w8.heap.size w8).drew.trans (u10.trans ((u9.trans (u11.mono u9.size)).mono u10.size)); have Z := Nat.le_trans u10.size u9.size)
    have VF := V8.trans (U.mono V8.size)
    have oF := o11.lower (b' := w.heap.size) (Nat.le_trans V8.size Z)
    clear u9 u10 u11 o9 o10 o11 U Z V8
    go_wp2
    go_ret2
    exact ⟨_, _, rfl, oF, VF⟩
set_option maxHeartbeats 8000000 in
set_option maxRecDepth 100000 in
theorem meRun_1_no (wd i : Int) (n : Nat) (a : Option Addr) (c : Nat) (l : List Int) (ma : Option Addr) (mn mc : Nat) (w : World) (h : Ints w a n c l) (hm : memB n wd = false) :
    Calls Try.prog 63 #[.int .i64 1, .int .i64 wd, .slice a n c, .int .i64 i, .slice ma mn mc] w fun e w' => e = .returned (.tuple #[.slice none 0 0, .bool false]) ∧ Below w.heap.size w w' := by
  have hn := h.le
  have HM := Lib.hid hm
  clear hm
  go_enter Try.func63, Try.ntmps63
  go_wp2_with fail
  refine (meIf_1 n wd _).mono ?_; rintro e w1 ⟨ga, gn, gc, oa, on, oc, rfl, og, ro, dd, u1⟩
  rw [HM.out]
  clear og ro dd
  go_wp2
  go_ret2
  exact ⟨rfl, u1.alloc u1.size _⟩
set_option maxHeartbeats 8000000 in
set_option maxRecDepth 100000 in
theorem meRun_1_yes (wd n : Nat) (a : Option Addr) (c : Nat) (l : List Int) (i : Int) (ma : Option Addr) (mn mc : Nat) (mo : List Int) (w : World) (h : Ints w a n c l) (hmo : Ints w ma mn mc mo) (hm : memB n wd = true) (hl : ∀ x ∈ l, 0 ≤ x ∧ x ≤ 1000000000) (hi : 0 ≤ i ∧ i ≤ 1000000000) (hml : mn = meMore 1 wd) (hmb : Bt mo) :
    Calls Try.prog 63 #[.int .i64 1, .int .i64 wd, .slice a n c, .int .i64 i, .slice ma mn mc] w fun e w' => ∃ a1 c1, e = .returned (.tuple #[.slice a1 (meN 1 n) c1, .bool true]) ∧ Own w' w.heap.size a1 (meN 1 n) c1 (mrR 1 n wd l i mo) ∧ Below w.heap.size w w' := by
  obtain ⟨⟨n1, n8⟩, ⟨w1', w4'⟩, _⟩ := memB_true hm
  have hn := h.le
  have hw3 := wid8 n (by omega)
  have hNI := mrNI_le 1 n wd (by omega) (by omega)
  have hGA := Lib.hid (mr_gates 1 n wd hm)
  have hOU := Lib.hid (mr_outs 1 n wd hm)
  have hGL : mG 1 n wd = (meG 1 n wd).1 := by unfold mG; rw [if_pos hm]; rfl
  have hOL : mO 1 n wd = (meG 1 n wd).2 := by unfold mO; rw [if_pos hm]; rfl
  have hON := meO_len 1 n wd (by omega) (by omega)
  have hG3 := (m_len 1 n wd).1
  rw [hGL] at hG3
  have hQ := Lib.hid (show n * wd + (wid (n : Int) + mn) = mrNI 1 n wd by unfold mrNI; rw [hml])
  have hnw : n * wd ≤ 8 * 4 := Nat.mul_le_mul (by omega) (by omega)
  have hM8 : meN 1 n ≤ 8 := by unfold meN; split <;> omega
  have hdiv : (((meN 1 n * wd : Nat) : Int)).tdiv (wd : Int) = ((meN 1 n : Nat) : Int) := by rw [Int.natCast_mul, Int.mul_tdiv_cancel _ (by omega)]
  have HR := Lib.hid (show mrR 1 n wd l i mo = cnL (pkL (evL (meG 1 n wd).1 (cbL l wd n ++ (btL i (wid n) ++ mo)) ((meG 1 n wd).1.length / 3)) (meG 1 n wd).2 (meN 1 n * wd)) wd (meN 1 n) from rfl)
  have HBV := Lib.hid (mrV_bits n wd l i mo hmb)
  have HBO := Lib.hid (mrO_bits 1 n wd l i mo hmb)
  unfold mrV at HBV
  unfold mrO mrV at HBO
  have HM := Lib.hid hm
  have HML := Lib.hid (show mn ≤ 4 by rw [hml]; unfold meMore; split <;> omega)
  clear hm hml
  obtain ⟨V, hV⟩ : ∃ V, V = wid (n : Int) := ⟨_, rfl⟩
  rw [← hV] at hw3 HR HBV HBO hQ
  have HV := Lib.hid hV
  clear hV
  obtain ⟨m, hmN⟩ : ∃ m, m = meN 1 n := ⟨_, rfl⟩
  rw [← hmN] at hON hM8 hdiv HR HBO ⊢
  have HMN := Lib.hid hmN
  clear hmN
  obtain ⟨mw, hmw⟩ : ∃ mw, mw = m * wd := ⟨_, rfl⟩
  rw [← hmw] at hON hdiv HR HBO
  have HMW := Lib.hid hmw
  have hmw32 : mw ≤ 32 := by rw [hmw]; exact Nat.mul_le_mul hM8 (show wd ≤ 4 by omega)
  clear hmw
  have hdz : ((wd : Int) == 0) = false := by simp; omega
  have hdz2 : ¬ (wd : Int) = 0 := by omega
  have z1 : ((wd : Int) = 0) = False := by simp; omega
  have z2 : (wd = 0) = False := by simp; omega
  have hwr : IntKind.i64.wrap (m : Int) = (m : Int) := IntWalk.i64_in _ (by omega)
  have hwd1 : 1 ≤ wd := by omega
  have hwd4 : wd ≤ 4 := by omega
  go_enter Try.func63, Try.ntmps63
  go_wp2_with fail
  refine (meIf_1 n wd _).mono ?_; rintro e w1 ⟨ga, gn, gc, oa, on, oc, rfl, og, ro, dd, u1⟩
  rw [HM.out]
  rw [hGL] at og
  rw [hOL] at ro
  clear dd hGL hOL
  generalize mS0 n wd = s0 at *
  generalize mS1 1 n wd = s1 at *
  generalize (meG 1 n wd).1 = G at *
  generalize (meG 1 n wd).2 = O at *
  have hon : on = mw := by have := ro.len; omega
  subst hon
  have hgn : gn = G.length / 3 := by have := og.len; omega
  have HGN := Lib.hid hgn
  have V2 := u1.alloc u1.size (.cells #[.int .i64 s0, .int .i64 s1, .slice ga gn gc, .slice oa on oc] 28)
  have R2 : Blk (w1.alloc (.cells #[.int .i64 s0, .int .i64 s1, .slice ga gn gc, .slice oa on oc] 28)) w1.heap.size 28 #[.int .i64 s0, .int .i64 s1, .slice ga gn gc, .slice oa on oc] := Blk.new w1 _ _
  have og2 := og.flat.below ((Below.refl w1.heap.size w1).alloc (Nat.le_refl _) (.cells #[.int .i64 s0, .int .i64 s1, .slice ga gn gc, .slice oa on oc] 28))
  have ro2 := ro.ints.below ((Below.refl w1.heap.size w1).alloc (Nat.le_refl _) (.cells #[.int .i64 s0, .int .i64 s1, .slice ga gn gc, .slice oa on oc] 28))
  have hz2 : w.heap.size ≤ w1.heap.size := u1.size
  have hz3 : w1.heap.size < (w1.alloc (.cells #[.int .i64 s0, .int .i64 s1, .slice ga gn gc, .slice oa on oc] 28)).heap.size := by simp
  clear og ro u1 hgn
  go_wp2_with fail
  generalize (w1.alloc (.cells #[.int .i64 s0, .int .i64 s1, .slice ga gn gc, .slice oa on oc] 28)) = w2 at *
  refine (meWidths_any wd n _ (by omega)).mono ?_; rintro e w4 ⟨a4, c4, rfl, o4, u4⟩
  have V4 := V2.trans (u4.mono V2.size)
  go_wp2_with fail
  refine (coBits_any wd n a4 c4 a n c l _ o4.ints (h.below V4) (by omega) (Nat.le_refl _) (by omega) hl).mono ?_; rintro e w5 ⟨a5, c5, rfl, o5, u5⟩
  have V5 := V4.trans (u5.mono V4.size)
  go_wp2_with fail
  refine (meIndex_any n _ n1 (by omega)).mono ?_; rintro e w' ⟨rfl, rfl⟩
  rw [← HV.out]
  go_wp2_with fail
  refine (btOf_any i V _ hi (by omega)).mono ?_; rintro e w6 ⟨a6, c6, rfl, o6, u6⟩
  have V6 := V5.trans (u6.mono V5.size)
  go_wp2_with fail
  refine (ciJoin_any a6 V c6 _ ma mn mc mo _ o6.ints (hmo.below V6) (by omega) (by have := HML.out; omega)).mono ?_; rintro e w7 ⟨a7, c7, rfl, o7, u7⟩
  have V7 := V6.trans (u7.mono V6.size)
  go_wp2_with fail
  refine (ciJoin_any a5 (n * wd) c5 _ a7 (V + mn) c7 _ _ (o5.ints.below (u6.trans (u7.mono u6.size))) o7.ints (by omega) (by have := HML.out; omega)).mono ?_; rintro e w8 ⟨a8, c8, rfl, o8, u8⟩
  have V8 := V7.trans (u8.mono V7.size)
  rw [hQ.out] at o8 ⊢
  have U8 : Below w2.heap.size w2 w8 := u4.trans ((u5.trans ((u6.trans ((u7.trans (u8.mono u7.size)).mono u6.size)).mono u5.size)).mono u4.size)
  have R8 := R2.below U8
  have og8 := og2.below U8
  have ro8 := ro2.below U8
  have iv8 := o8.ints
  have x0 : w8.cell? ⟨w1.heap.size, 0, none⟩ = some (.int .i64 s0) := R8.cell 0
  have x1 : w8.cell? ⟨w1.heap.size, 1, none⟩ = some (.int .i64 s1) := R8.cell 1
  have x2 : w8.cell? ⟨w1.heap.size, 2, none⟩ = some (.slice ga gn gc) := R8.cell 2
  have x3 : w8.cell? ⟨w1.heap.size, 3, none⟩ = some (.slice oa on oc) := R8.cell 3
  clear R2 R8 U8 u4 u5 u6 u7 u8 o4 o5 o6 o7 o8 V2 V4 V5 V6 V7 og2 ro2 h hmo
  generalize mrNI 1 n wd = NI at *
  go_wp2_with fail
  go_region_held3 (fun W => W.cell? ⟨w1.heap.size, 0, none⟩ = some (.int .i64 s0) ∧ W.cell? ⟨w1.heap.size, 1, none⟩ = some (.int .i64 s1) ∧ W.cell? ⟨w1.heap.size, 2, none⟩ = some (.slice ga gn gc) ∧ W.cell? ⟨w1.heap.size, 3, none⟩ = some (.slice oa on oc))
    (first | exact ⟨keepC u11 (keepC u10 (keepC u9 x0)), keepC u11 (keepC u10 (keepC u9 x1)), keepC u11 (keepC u10 (keepC u9 x2)), keepC u11 (keepC u10 (keepC u9 x3))⟩ | exact ⟨keepC u11 (keepC u9 (keepC u10 x0)), keepC u11 (keepC u9 (keepC u10 x1)), keepC u11 (keepC u9 (keepC u10 x2)), keepC u11 (keepC u9 (keepC u10 x3))⟩ | exact ⟨keepC u10 (keepC u9 x0), keepC u10 (keepC u9 x1), keepC u10 (keepC u9 x2), keepC u10 (keepC u9 x3)⟩ | exact ⟨keepC u9 (keepC u10 x0), keepC u9 (keepC u10 x1), keepC u9 (keepC u10 x2), keepC u9 (keepC u10 x3)⟩ | exact ⟨keepC u10 x0, keepC u10 x1, keepC u10 x2, keepC u10 x3⟩ | exact ⟨keepC u9 x0, keepC u9 x1, keepC u9 x2, keepC u9 x3⟩ | go_keep)
    (first | (go_at_call 96; refine (meWidths_any wd m _ (by omega)).mono ?_; rintro e w9 ⟨a9, c9, rfl, o9, u9⟩) | (go_at_call 98; have _ := u9; refine (ciOuts_any s0 s1 ga gn gc oa on oc a8 NI c8 G _ O _ (og8.drew.below u9) (iv8.drew.below u9) (ro8.drew.below u9) (by rw [HGN.out]; exact hGA.out) HBV.out (by omega) (by have := HGN.out; omega) (by omega) (by rw [HGN.out]; exact hOU.out)).mono ?_; rintro e w10 ⟨a10, c10, rfl, o10, u10⟩) | (go_at_call 98; refine (ciOuts_any s0 s1 ga gn gc oa on oc a8 NI c8 G _ O _ og8.drew iv8.drew ro8.drew (by rw [HGN.out]; exact hGA.out) HBV.out (by omega) (by have := HGN.out; omega) (by omega) (by rw [HGN.out]; exact hOU.out)).mono ?_; rintro e w10 ⟨a10, c10, rfl, o10, u10⟩) | (go_at_call 97; refine (coNumbers_any wd m a9 c9 a10 on c10 _ _ (o9.ints.below u10) (o10.ints) (by omega) HMW.out hwd4 (by rw [HGN.out]; exact HBO.out)).mono ?_; rintro e w11 ⟨a11, c11, rfl, o11, u11⟩) | (go_at_call 97; refine (coNumbers_any wd m a9 c9 a10 on c10 _ _ (o9.ints) (o10.ints.below u9) (by omega) HMW.out hwd4 (by rw [HGN.out]; exact HBO.out)).mono ?_; rintro e w11 ⟨a11, c11, rfl, o11, u11⟩))
  all_goals
    rw [HGN.out, ← HR.out] at o11
    first
      | (have U := (Below.refl w8.heap.size w8).drew.trans (u9.trans ((u10.trans (u11.mono u10.size)).mono u9.size)); have Z := Nat.le_trans u9.size u10.size)
      | (have U := (Below.refl w8.heap.size w8).drew.trans (u10.trans ((u9.trans (u11.mono u9.size)).mono u10.size)); have Z := Nat.le_trans u10.size u9.size)
    have VF := V8.trans (U.mono V8.size)
    have oF := o11.lower (b' := w.heap.size) (Nat.le_trans V8.size Z)
    clear u9 u10 u11 o9 o10 o11 U Z V8
    go_wp2
    go_ret2
    exact ⟨_, _, rfl, oF, VF⟩
set_option maxHeartbeats 8000000 in
set_option maxRecDepth 100000 in
theorem meRun_2_no (wd i : Int) (n : Nat) (a : Option Addr) (c : Nat) (l : List Int) (ma : Option Addr) (mn mc : Nat) (w : World) (h : Ints w a n c l) (hm : memB n wd = false) :
    Calls Try.prog 63 #[.int .i64 2, .int .i64 wd, .slice a n c, .int .i64 i, .slice ma mn mc] w fun e w' => e = .returned (.tuple #[.slice none 0 0, .bool false]) ∧ Below w.heap.size w w' := by
  have hn := h.le
  have HM := Lib.hid hm
  clear hm
  go_enter Try.func63, Try.ntmps63
  go_wp2_with fail
  refine (meIf_2 n wd _).mono ?_; rintro e w1 ⟨ga, gn, gc, oa, on, oc, rfl, og, ro, dd, u1⟩
  rw [HM.out]
  clear og ro dd
  go_wp2
  go_ret2
  exact ⟨rfl, u1.alloc u1.size _⟩
set_option maxHeartbeats 8000000 in
set_option maxRecDepth 100000 in
theorem meRun_2_yes (wd n : Nat) (a : Option Addr) (c : Nat) (l : List Int) (i : Int) (ma : Option Addr) (mn mc : Nat) (mo : List Int) (w : World) (h : Ints w a n c l) (hmo : Ints w ma mn mc mo) (hm : memB n wd = true) (hl : ∀ x ∈ l, 0 ≤ x ∧ x ≤ 1000000000) (hi : 0 ≤ i ∧ i ≤ 1000000000) (hml : mn = meMore 2 wd) (hmb : Bt mo) :
    Calls Try.prog 63 #[.int .i64 2, .int .i64 wd, .slice a n c, .int .i64 i, .slice ma mn mc] w fun e w' => ∃ a1 c1, e = .returned (.tuple #[.slice a1 (meN 2 n) c1, .bool true]) ∧ Own w' w.heap.size a1 (meN 2 n) c1 (mrR 2 n wd l i mo) ∧ Below w.heap.size w w' := by
  obtain ⟨⟨n1, n8⟩, ⟨w1', w4'⟩, _⟩ := memB_true hm
  have hn := h.le
  have hw3 := wid8 n (by omega)
  have hNI := mrNI_le 2 n wd (by omega) (by omega)
  have hGA := Lib.hid (mr_gates 2 n wd hm)
  have hOU := Lib.hid (mr_outs 2 n wd hm)
  have hGL : mG 2 n wd = (meG 2 n wd).1 := by unfold mG; rw [if_pos hm]; rfl
  have hOL : mO 2 n wd = (meG 2 n wd).2 := by unfold mO; rw [if_pos hm]; rfl
  have hON := meO_len 2 n wd (by omega) (by omega)
  have hG3 := (m_len 2 n wd).1
  rw [hGL] at hG3
  have hQ := Lib.hid (show n * wd + (wid (n : Int) + mn) = mrNI 2 n wd by unfold mrNI; rw [hml])
  have hnw : n * wd ≤ 8 * 4 := Nat.mul_le_mul (by omega) (by omega)
  have hM8 : meN 2 n ≤ 8 := by unfold meN; split <;> omega
  have hdiv : (((meN 2 n * wd : Nat) : Int)).tdiv (wd : Int) = ((meN 2 n : Nat) : Int) := by rw [Int.natCast_mul, Int.mul_tdiv_cancel _ (by omega)]
  have HR := Lib.hid (show mrR 2 n wd l i mo = cnL (pkL (evL (meG 2 n wd).1 (cbL l wd n ++ (btL i (wid n) ++ mo)) ((meG 2 n wd).1.length / 3)) (meG 2 n wd).2 (meN 2 n * wd)) wd (meN 2 n) from rfl)
  have HBV := Lib.hid (mrV_bits n wd l i mo hmb)
  have HBO := Lib.hid (mrO_bits 2 n wd l i mo hmb)
  unfold mrV at HBV
  unfold mrO mrV at HBO
  have HM := Lib.hid hm
  have HML := Lib.hid (show mn ≤ 4 by rw [hml]; unfold meMore; split <;> omega)
  clear hm hml
  obtain ⟨V, hV⟩ : ∃ V, V = wid (n : Int) := ⟨_, rfl⟩
  rw [← hV] at hw3 HR HBV HBO hQ
  have HV := Lib.hid hV
  clear hV
  obtain ⟨m, hmN⟩ : ∃ m, m = meN 2 n := ⟨_, rfl⟩
  rw [← hmN] at hON hM8 hdiv HR HBO ⊢
  have HMN := Lib.hid hmN
  clear hmN
  obtain ⟨mw, hmw⟩ : ∃ mw, mw = m * wd := ⟨_, rfl⟩
  rw [← hmw] at hON hdiv HR HBO
  have HMW := Lib.hid hmw
  have hmw32 : mw ≤ 32 := by rw [hmw]; exact Nat.mul_le_mul hM8 (show wd ≤ 4 by omega)
  clear hmw
  have hdz : ((wd : Int) == 0) = false := by simp; omega
  have hdz2 : ¬ (wd : Int) = 0 := by omega
  have z1 : ((wd : Int) = 0) = False := by simp; omega
  have z2 : (wd = 0) = False := by simp; omega
  have hwr : IntKind.i64.wrap (m : Int) = (m : Int) := IntWalk.i64_in _ (by omega)
  have hwd1 : 1 ≤ wd := by omega
  have hwd4 : wd ≤ 4 := by omega
  go_enter Try.func63, Try.ntmps63
  go_wp2_with fail
  refine (meIf_2 n wd _).mono ?_; rintro e w1 ⟨ga, gn, gc, oa, on, oc, rfl, og, ro, dd, u1⟩
  rw [HM.out]
  rw [hGL] at og
  rw [hOL] at ro
  clear dd hGL hOL
  generalize mS0 n wd = s0 at *
  generalize mS1 2 n wd = s1 at *
  generalize (meG 2 n wd).1 = G at *
  generalize (meG 2 n wd).2 = O at *
  have hon : on = mw := by have := ro.len; omega
  subst hon
  have hgn : gn = G.length / 3 := by have := og.len; omega
  have HGN := Lib.hid hgn
  have V2 := u1.alloc u1.size (.cells #[.int .i64 s0, .int .i64 s1, .slice ga gn gc, .slice oa on oc] 28)
  have R2 : Blk (w1.alloc (.cells #[.int .i64 s0, .int .i64 s1, .slice ga gn gc, .slice oa on oc] 28)) w1.heap.size 28 #[.int .i64 s0, .int .i64 s1, .slice ga gn gc, .slice oa on oc] := Blk.new w1 _ _
  have og2 := og.flat.below ((Below.refl w1.heap.size w1).alloc (Nat.le_refl _) (.cells #[.int .i64 s0, .int .i64 s1, .slice ga gn gc, .slice oa on oc] 28))
  have ro2 := ro.ints.below ((Below.refl w1.heap.size w1).alloc (Nat.le_refl _) (.cells #[.int .i64 s0, .int .i64 s1, .slice ga gn gc, .slice oa on oc] 28))
  have hz2 : w.heap.size ≤ w1.heap.size := u1.size
  have hz3 : w1.heap.size < (w1.alloc (.cells #[.int .i64 s0, .int .i64 s1, .slice ga gn gc, .slice oa on oc] 28)).heap.size := by simp
  clear og ro u1 hgn
  go_wp2_with fail
  generalize (w1.alloc (.cells #[.int .i64 s0, .int .i64 s1, .slice ga gn gc, .slice oa on oc] 28)) = w2 at *
  refine (meWidths_any wd n _ (by omega)).mono ?_; rintro e w4 ⟨a4, c4, rfl, o4, u4⟩
  have V4 := V2.trans (u4.mono V2.size)
  go_wp2_with fail
  refine (coBits_any wd n a4 c4 a n c l _ o4.ints (h.below V4) (by omega) (Nat.le_refl _) (by omega) hl).mono ?_; rintro e w5 ⟨a5, c5, rfl, o5, u5⟩
  have V5 := V4.trans (u5.mono V4.size)
  go_wp2_with fail
  refine (meIndex_any n _ n1 (by omega)).mono ?_; rintro e w' ⟨rfl, rfl⟩
  rw [← HV.out]
  go_wp2_with fail
  refine (btOf_any i V _ hi (by omega)).mono ?_; rintro e w6 ⟨a6, c6, rfl, o6, u6⟩
  have V6 := V5.trans (u6.mono V5.size)
  go_wp2_with fail
  refine (ciJoin_any a6 V c6 _ ma mn mc mo _ o6.ints (hmo.below V6) (by omega) (by have := HML.out; omega)).mono ?_; rintro e w7 ⟨a7, c7, rfl, o7, u7⟩
  have V7 := V6.trans (u7.mono V6.size)
  go_wp2_with fail
  refine (ciJoin_any a5 (n * wd) c5 _ a7 (V + mn) c7 _ _ (o5.ints.below (u6.trans (u7.mono u6.size))) o7.ints (by omega) (by have := HML.out; omega)).mono ?_; rintro e w8 ⟨a8, c8, rfl, o8, u8⟩
  have V8 := V7.trans (u8.mono V7.size)
  rw [hQ.out] at o8 ⊢
  have U8 : Below w2.heap.size w2 w8 := u4.trans ((u5.trans ((u6.trans ((u7.trans (u8.mono u7.size)).mono u6.size)).mono u5.size)).mono u4.size)
  have R8 := R2.below U8
  have og8 := og2.below U8
  have ro8 := ro2.below U8
  have iv8 := o8.ints
  have x0 : w8.cell? ⟨w1.heap.size, 0, none⟩ = some (.int .i64 s0) := R8.cell 0
  have x1 : w8.cell? ⟨w1.heap.size, 1, none⟩ = some (.int .i64 s1) := R8.cell 1
  have x2 : w8.cell? ⟨w1.heap.size, 2, none⟩ = some (.slice ga gn gc) := R8.cell 2
  have x3 : w8.cell? ⟨w1.heap.size, 3, none⟩ = some (.slice oa on oc) := R8.cell 3
  clear R2 R8 U8 u4 u5 u6 u7 u8 o4 o5 o6 o7 o8 V2 V4 V5 V6 V7 og2 ro2 h hmo
  generalize mrNI 2 n wd = NI at *
  go_wp2_with fail
  go_region_held3 (fun W => W.cell? ⟨w1.heap.size, 0, none⟩ = some (.int .i64 s0) ∧ W.cell? ⟨w1.heap.size, 1, none⟩ = some (.int .i64 s1) ∧ W.cell? ⟨w1.heap.size, 2, none⟩ = some (.slice ga gn gc) ∧ W.cell? ⟨w1.heap.size, 3, none⟩ = some (.slice oa on oc))
    (first | exact ⟨keepC u11 (keepC u10 (keepC u9 x0)), keepC u11 (keepC u10 (keepC u9 x1)), keepC u11 (keepC u10 (keepC u9 x2)), keepC u11 (keepC u10 (keepC u9 x3))⟩ | exact ⟨keepC u11 (keepC u9 (keepC u10 x0)), keepC u11 (keepC u9 (keepC u10 x1)), keepC u11 (keepC u9 (keepC u10 x2)), keepC u11 (keepC u9 (keepC u10 x3))⟩ | exact ⟨keepC u10 (keepC u9 x0), keepC u10 (keepC u9 x1), keepC u10 (keepC u9 x2), keepC u10 (keepC u9 x3)⟩ | exact ⟨keepC u9 (keepC u10 x0), keepC u9 (keepC u10 x1), keepC u9 (keepC u10 x2), keepC u9 (keepC u10 x3)⟩ | exact ⟨keepC u10 x0, keepC u10 x1, keepC u10 x2, keepC u10 x3⟩ | exact ⟨keepC u9 x0, keepC u9 x1, keepC u9 x2, keepC u9 x3⟩ | go_keep)
    (first | (go_at_call 96; refine (meWidths_any wd m _ (by omega)).mono ?_; rintro e w9 ⟨a9, c9, rfl, o9, u9⟩) | (go_at_call 98; have _ := u9; refine (ciOuts_any s0 s1 ga gn gc oa on oc a8 NI c8 G _ O _ (og8.drew.below u9) (iv8.drew.below u9) (ro8.drew.below u9) (by rw [HGN.out]; exact hGA.out) HBV.out (by omega) (by have := HGN.out; omega) (by omega) (by rw [HGN.out]; exact hOU.out)).mono ?_; rintro e w10 ⟨a10, c10, rfl, o10, u10⟩) | (go_at_call 98; refine (ciOuts_any s0 s1 ga gn gc oa on oc a8 NI c8 G _ O _ og8.drew iv8.drew ro8.drew (by rw [HGN.out]; exact hGA.out) HBV.out (by omega) (by have := HGN.out; omega) (by omega) (by rw [HGN.out]; exact hOU.out)).mono ?_; rintro e w10 ⟨a10, c10, rfl, o10, u10⟩) | (go_at_call 97; refine (coNumbers_any wd m a9 c9 a10 on c10 _ _ (o9.ints.below u10) (o10.ints) (by omega) HMW.out hwd4 (by rw [HGN.out]; exact HBO.out)).mono ?_; rintro e w11 ⟨a11, c11, rfl, o11, u11⟩) | (go_at_call 97; refine (coNumbers_any wd m a9 c9 a10 on c10 _ _ (o9.ints) (o10.ints.below u9) (by omega) HMW.out hwd4 (by rw [HGN.out]; exact HBO.out)).mono ?_; rintro e w11 ⟨a11, c11, rfl, o11, u11⟩))
  all_goals
    rw [HGN.out, ← HR.out] at o11
    first
      | (have U := (Below.refl w8.heap.size w8).drew.trans (u9.trans ((u10.trans (u11.mono u10.size)).mono u9.size)); have Z := Nat.le_trans u9.size u10.size)
      | (have U := (Below.refl w8.heap.size w8).drew.trans (u10.trans ((u9.trans (u11.mono u9.size)).mono u10.size)); have Z := Nat.le_trans u10.size u9.size)
    have VF := V8.trans (U.mono V8.size)
    have oF := o11.lower (b' := w.heap.size) (Nat.le_trans V8.size Z)
    clear u9 u10 u11 o9 o10 o11 U Z V8
    go_wp2
    go_ret2
    exact ⟨_, _, rfl, oF, VF⟩
set_option maxHeartbeats 8000000 in
set_option maxRecDepth 100000 in
theorem meRun_3_no (wd i : Int) (n : Nat) (a : Option Addr) (c : Nat) (l : List Int) (ma : Option Addr) (mn mc : Nat) (w : World) (h : Ints w a n c l) (hm : memB n wd = false) :
    Calls Try.prog 63 #[.int .i64 3, .int .i64 wd, .slice a n c, .int .i64 i, .slice ma mn mc] w fun e w' => e = .returned (.tuple #[.slice none 0 0, .bool false]) ∧ Below w.heap.size w w' := by
  have hn := h.le
  have HM := Lib.hid hm
  clear hm
  go_enter Try.func63, Try.ntmps63
  go_wp2_with fail
  refine (meIf_3 n wd _).mono ?_; rintro e w1 ⟨ga, gn, gc, oa, on, oc, rfl, og, ro, dd, u1⟩
  rw [HM.out]
  clear og ro dd
  go_wp2
  go_ret2
  exact ⟨rfl, u1.alloc u1.size _⟩
set_option maxHeartbeats 8000000 in
set_option maxRecDepth 100000 in
theorem meRun_3_yes (wd n : Nat) (a : Option Addr) (c : Nat) (l : List Int) (i : Int) (ma : Option Addr) (mn mc : Nat) (mo : List Int) (w : World) (h : Ints w a n c l) (hmo : Ints w ma mn mc mo) (hm : memB n wd = true) (hl : ∀ x ∈ l, 0 ≤ x ∧ x ≤ 1000000000) (hi : 0 ≤ i ∧ i ≤ 1000000000) (hml : mn = meMore 3 wd) (hmb : Bt mo) :
    Calls Try.prog 63 #[.int .i64 3, .int .i64 wd, .slice a n c, .int .i64 i, .slice ma mn mc] w fun e w' => ∃ a1 c1, e = .returned (.tuple #[.slice a1 (meN 3 n) c1, .bool true]) ∧ Own w' w.heap.size a1 (meN 3 n) c1 (mrR 3 n wd l i mo) ∧ Below w.heap.size w w' := by
  obtain ⟨⟨n1, n8⟩, ⟨w1', w4'⟩, _⟩ := memB_true hm
  have hn := h.le
  have hw3 := wid8 n (by omega)
  have hNI := mrNI_le 3 n wd (by omega) (by omega)
  have hGA := Lib.hid (mr_gates 3 n wd hm)
  have hOU := Lib.hid (mr_outs 3 n wd hm)
  have hGL : mG 3 n wd = (meG 3 n wd).1 := by unfold mG; rw [if_pos hm]; rfl
  have hOL : mO 3 n wd = (meG 3 n wd).2 := by unfold mO; rw [if_pos hm]; rfl
  have hON := meO_len 3 n wd (by omega) (by omega)
  have hG3 := (m_len 3 n wd).1
  rw [hGL] at hG3
  have hQ := Lib.hid (show n * wd + (wid (n : Int) + mn) = mrNI 3 n wd by unfold mrNI; rw [hml])
  have hnw : n * wd ≤ 8 * 4 := Nat.mul_le_mul (by omega) (by omega)
  have hM8 : meN 3 n ≤ 8 := by unfold meN; split <;> omega
  have hdiv : (((meN 3 n * wd : Nat) : Int)).tdiv (wd : Int) = ((meN 3 n : Nat) : Int) := by rw [Int.natCast_mul, Int.mul_tdiv_cancel _ (by omega)]
  have HR := Lib.hid (show mrR 3 n wd l i mo = cnL (pkL (evL (meG 3 n wd).1 (cbL l wd n ++ (btL i (wid n) ++ mo)) ((meG 3 n wd).1.length / 3)) (meG 3 n wd).2 (meN 3 n * wd)) wd (meN 3 n) from rfl)
  have HBV := Lib.hid (mrV_bits n wd l i mo hmb)
  have HBO := Lib.hid (mrO_bits 3 n wd l i mo hmb)
  unfold mrV at HBV
  unfold mrO mrV at HBO
  have HM := Lib.hid hm
  have HML := Lib.hid (show mn ≤ 4 by rw [hml]; unfold meMore; split <;> omega)
  clear hm hml
  obtain ⟨V, hV⟩ : ∃ V, V = wid (n : Int) := ⟨_, rfl⟩
  rw [← hV] at hw3 HR HBV HBO hQ
  have HV := Lib.hid hV
  clear hV
  obtain ⟨m, hmN⟩ : ∃ m, m = meN 3 n := ⟨_, rfl⟩
  rw [← hmN] at hON hM8 hdiv HR HBO ⊢
  have HMN := Lib.hid hmN
  clear hmN
  obtain ⟨mw, hmw⟩ : ∃ mw, mw = m * wd := ⟨_, rfl⟩
  rw [← hmw] at hON hdiv HR HBO
  have HMW := Lib.hid hmw
  have hmw32 : mw ≤ 32 := by rw [hmw]; exact Nat.mul_le_mul hM8 (show wd ≤ 4 by omega)
  clear hmw
  have hdz : ((wd : Int) == 0) = false := by simp; omega
  have hdz2 : ¬ (wd : Int) = 0 := by omega
  have z1 : ((wd : Int) = 0) = False := by simp; omega
  have z2 : (wd = 0) = False := by simp; omega
  have hwr : IntKind.i64.wrap (m : Int) = (m : Int) := IntWalk.i64_in _ (by omega)
  have hwd1 : 1 ≤ wd := by omega
  have hwd4 : wd ≤ 4 := by omega
  go_enter Try.func63, Try.ntmps63
  go_wp2_with fail
  refine (meIf_3 n wd _).mono ?_; rintro e w1 ⟨ga, gn, gc, oa, on, oc, rfl, og, ro, dd, u1⟩
  rw [HM.out]
  rw [hGL] at og
  rw [hOL] at ro
  clear dd hGL hOL
  generalize mS0 n wd = s0 at *
  generalize mS1 3 n wd = s1 at *
  generalize (meG 3 n wd).1 = G at *
  generalize (meG 3 n wd).2 = O at *
  have hon : on = mw := by have := ro.len; omega
  subst hon
  have hgn : gn = G.length / 3 := by have := og.len; omega
  have HGN := Lib.hid hgn
  have V2 := u1.alloc u1.size (.cells #[.int .i64 s0, .int .i64 s1, .slice ga gn gc, .slice oa on oc] 28)
  have R2 : Blk (w1.alloc (.cells #[.int .i64 s0, .int .i64 s1, .slice ga gn gc, .slice oa on oc] 28)) w1.heap.size 28 #[.int .i64 s0, .int .i64 s1, .slice ga gn gc, .slice oa on oc] := Blk.new w1 _ _
  have og2 := og.flat.below ((Below.refl w1.heap.size w1).alloc (Nat.le_refl _) (.cells #[.int .i64 s0, .int .i64 s1, .slice ga gn gc, .slice oa on oc] 28))
  have ro2 := ro.ints.below ((Below.refl w1.heap.size w1).alloc (Nat.le_refl _) (.cells #[.int .i64 s0, .int .i64 s1, .slice ga gn gc, .slice oa on oc] 28))
  have hz2 : w.heap.size ≤ w1.heap.size := u1.size
  have hz3 : w1.heap.size < (w1.alloc (.cells #[.int .i64 s0, .int .i64 s1, .slice ga gn gc, .slice oa on oc] 28)).heap.size := by simp
  clear og ro u1 hgn
  go_wp2_with fail
  generalize (w1.alloc (.cells #[.int .i64 s0, .int .i64 s1, .slice ga gn gc, .slice oa on oc] 28)) = w2 at *
  refine (meWidths_any wd n _ (by omega)).mono ?_; rintro e w4 ⟨a4, c4, rfl, o4, u4⟩
  have V4 := V2.trans (u4.mono V2.size)
  go_wp2_with fail
  refine (coBits_any wd n a4 c4 a n c l _ o4.ints (h.below V4) (by omega) (Nat.le_refl _) (by omega) hl).mono ?_; rintro e w5 ⟨a5, c5, rfl, o5, u5⟩
  have V5 := V4.trans (u5.mono V4.size)
  go_wp2_with fail
  refine (meIndex_any n _ n1 (by omega)).mono ?_; rintro e w' ⟨rfl, rfl⟩
  rw [← HV.out]
  go_wp2_with fail
  refine (btOf_any i V _ hi (by omega)).mono ?_; rintro e w6 ⟨a6, c6, rfl, o6, u6⟩
  have V6 := V5.trans (u6.mono V5.size)
  go_wp2_with fail
  refine (ciJoin_any a6 V c6 _ ma mn mc mo _ o6.ints (hmo.below V6) (by omega) (by have := HML.out; omega)).mono ?_; rintro e w7 ⟨a7, c7, rfl, o7, u7⟩
  have V7 := V6.trans (u7.mono V6.size)
  go_wp2_with fail
  refine (ciJoin_any a5 (n * wd) c5 _ a7 (V + mn) c7 _ _ (o5.ints.below (u6.trans (u7.mono u6.size))) o7.ints (by omega) (by have := HML.out; omega)).mono ?_; rintro e w8 ⟨a8, c8, rfl, o8, u8⟩
  have V8 := V7.trans (u8.mono V7.size)
  rw [hQ.out] at o8 ⊢
  have U8 : Below w2.heap.size w2 w8 := u4.trans ((u5.trans ((u6.trans ((u7.trans (u8.mono u7.size)).mono u6.size)).mono u5.size)).mono u4.size)
  have R8 := R2.below U8
  have og8 := og2.below U8
  have ro8 := ro2.below U8
  have iv8 := o8.ints
  have x0 : w8.cell? ⟨w1.heap.size, 0, none⟩ = some (.int .i64 s0) := R8.cell 0
  have x1 : w8.cell? ⟨w1.heap.size, 1, none⟩ = some (.int .i64 s1) := R8.cell 1
  have x2 : w8.cell? ⟨w1.heap.size, 2, none⟩ = some (.slice ga gn gc) := R8.cell 2
  have x3 : w8.cell? ⟨w1.heap.size, 3, none⟩ = some (.slice oa on oc) := R8.cell 3
  clear R2 R8 U8 u4 u5 u6 u7 u8 o4 o5 o6 o7 o8 V2 V4 V5 V6 V7 og2 ro2 h hmo
  generalize mrNI 3 n wd = NI at *
  go_wp2_with fail
  go_region_held3 (fun W => W.cell? ⟨w1.heap.size, 0, none⟩ = some (.int .i64 s0) ∧ W.cell? ⟨w1.heap.size, 1, none⟩ = some (.int .i64 s1) ∧ W.cell? ⟨w1.heap.size, 2, none⟩ = some (.slice ga gn gc) ∧ W.cell? ⟨w1.heap.size, 3, none⟩ = some (.slice oa on oc))
    (first | exact ⟨keepC u11 (keepC u10 (keepC u9 x0)), keepC u11 (keepC u10 (keepC u9 x1)), keepC u11 (keepC u10 (keepC u9 x2)), keepC u11 (keepC u10 (keepC u9 x3))⟩ | exact ⟨keepC u11 (keepC u9 (keepC u10 x0)), keepC u11 (keepC u9 (keepC u10 x1)), keepC u11 (keepC u9 (keepC u10 x2)), keepC u11 (keepC u9 (keepC u10 x3))⟩ | exact ⟨keepC u10 (keepC u9 x0), keepC u10 (keepC u9 x1), keepC u10 (keepC u9 x2), keepC u10 (keepC u9 x3)⟩ | exact ⟨keepC u9 (keepC u10 x0), keepC u9 (keepC u10 x1), keepC u9 (keepC u10 x2), keepC u9 (keepC u10 x3)⟩ | exact ⟨keepC u10 x0, keepC u10 x1, keepC u10 x2, keepC u10 x3⟩ | exact ⟨keepC u9 x0, keepC u9 x1, keepC u9 x2, keepC u9 x3⟩ | go_keep)
    (first | (go_at_call 96; refine (meWidths_any wd m _ (by omega)).mono ?_; rintro e w9 ⟨a9, c9, rfl, o9, u9⟩) | (go_at_call 98; have _ := u9; refine (ciOuts_any s0 s1 ga gn gc oa on oc a8 NI c8 G _ O _ (og8.drew.below u9) (iv8.drew.below u9) (ro8.drew.below u9) (by rw [HGN.out]; exact hGA.out) HBV.out (by omega) (by have := HGN.out; omega) (by omega) (by rw [HGN.out]; exact hOU.out)).mono ?_; rintro e w10 ⟨a10, c10, rfl, o10, u10⟩) | (go_at_call 98; refine (ciOuts_any s0 s1 ga gn gc oa on oc a8 NI c8 G _ O _ og8.drew iv8.drew ro8.drew (by rw [HGN.out]; exact hGA.out) HBV.out (by omega) (by have := HGN.out; omega) (by omega) (by rw [HGN.out]; exact hOU.out)).mono ?_; rintro e w10 ⟨a10, c10, rfl, o10, u10⟩) | (go_at_call 97; refine (coNumbers_any wd m a9 c9 a10 on c10 _ _ (o9.ints.below u10) (o10.ints) (by omega) HMW.out hwd4 (by rw [HGN.out]; exact HBO.out)).mono ?_; rintro e w11 ⟨a11, c11, rfl, o11, u11⟩) | (go_at_call 97; refine (coNumbers_any wd m a9 c9 a10 on c10 _ _ (o9.ints) (o10.ints.below u9) (by omega) HMW.out hwd4 (by rw [HGN.out]; exact HBO.out)).mono ?_; rintro e w11 ⟨a11, c11, rfl, o11, u11⟩))
  all_goals
    rw [HGN.out, ← HR.out] at o11
    first
      | (have U := (Below.refl w8.heap.size w8).drew.trans (u9.trans ((u10.trans (u11.mono u10.size)).mono u9.size)); have Z := Nat.le_trans u9.size u10.size)
      | (have U := (Below.refl w8.heap.size w8).drew.trans (u10.trans ((u9.trans (u11.mono u9.size)).mono u10.size)); have Z := Nat.le_trans u10.size u9.size)
    have VF := V8.trans (U.mono V8.size)
    have oF := o11.lower (b' := w.heap.size) (Nat.le_trans V8.size Z)
    clear u9 u10 u11 o9 o10 o11 U Z V8
    go_wp2
    go_ret2
    exact ⟨_, _, rfl, oF, VF⟩
end Go.Proofs.Ytmbheimjphhamaa
namespace Go.Proofs.Ytmbheimjphhamaa
open Go.RowKit
set_option maxHeartbeats 8000000 in
set_option maxRecDepth 100000 in
theorem spec_TurnCells_any (wd : Int) (a : Option Addr) (n c : Nat) (l : List Int) (i : Int) (w : World) (h : Ints w a n c l) :
    Calls Try.prog 32 #[.int .i64 wd, .slice a n c, .int .i64 i] w fun e w' => ∃ a1 n1 c1, e = .returned (.tuple #[.slice a1 n1 c1, .bool (celB wd l i)]) ∧ Own w' w.heap.size a1 n1 c1 (tcR wd l i) ∧ Below w.heap.size w w' := by
  have hlen := h.len
  have hle := h.le
  have hme := celB_me wd l i
  cases hc : meCB wd l i
  · have HC := Lib.hid hc
    have hb : celB wd l i = false := by rw [hme, hc]; rfl
    have e1 : tcR wd l i = [] := by unfold tcR; rw [hb]; rfl
    rw [e1, hb]
    clear e1 hb
    clear hc hme hlen
    go_enter Try.func32, Try.ntmps32
    go_wp2_with fail
    refine (meCells_any wd a n c l i _ h).mono ?_; rintro e w1 ⟨rfl, V1⟩; rw [HC.out]
    go_wp2
    go_ret2
    exact ⟨none, 0, 0, rfl, Own.nil0 _ _ _, V1⟩
  · have hc2 := hc
    unfold meCB at hc2
    rw [Bool.and_eq_true, Bool.and_eq_true] at hc2
    obtain ⟨⟨hn8, hw4⟩, hT⟩ := hc2
    replace hn8 := of_decide_eq_true hn8
    replace hw4 := of_decide_eq_true hw4
    obtain ⟨wd, rfl⟩ : ∃ k : Nat, wd = k := ⟨wd.toNat, by omega⟩
    obtain ⟨hl, hi⟩ := celT_true (wd := wd) (by omega) (by omega) hT
    have hwd4 : wd ≤ 4 := by omega
    have hwd1 : 1 ≤ wd := by omega
    have HC := Lib.hid hc
    rw [hc, Bool.true_and] at hme
    have HT := Lib.hid hT
    have HL := Lib.hid hl
    have HI := Lib.hid hi
    clear hT hl hi hc
    cases hm : memB l.length wd
    · rw [hm] at hme
      have hb : celB (wd : Int) l i = false := hme
      have e1 : tcR wd l i = [] := by unfold tcR; rw [hb]; rfl
      rw [e1, hb]
      clear e1 hb
      rw [← hlen] at hm
      have HM := Lib.hid hm
      clear hm hme hlen
      go_enter Try.func32, Try.ntmps32
      go_wp2_with fail
      refine (meCells_any wd a n c l i _ h).mono ?_; rintro e w1 ⟨rfl, V1⟩; rw [HC.out]
      go_wp2_with fail
      refine (meRun_3_no _ i n a c l none 0 0 _ (h.below V1) HM.out).mono ?_; rintro e w5 ⟨rfl, u5⟩
      have VF := V1.trans (u5.mono V1.size)
      clear u5 V1
      go_wp2
      go_ret2
      exact ⟨none, 0, 0, rfl, Own.nil0 _ _ _, VF⟩
    · rw [hm] at hme
      have hb : celB (wd : Int) l i = true := hme
      have e1 : tcR wd l i = mrR 3 n wd l i [] := by unfold tcR; rw [hb, if_pos rfl, hlen]; rfl
      rw [e1, hb]
      rw [← hlen] at hm
      have HM := Lib.hid hm
      have hM8 : 1 ≤ meN 3 n := by unfold meN; split <;> omega
      clear e1 hb hm hme
      clear hlen
      go_enter Try.func32, Try.ntmps32
      go_wp2_with fail
      refine (meCells_any wd a n c l i _ h).mono ?_; rintro e w1 ⟨rfl, V1⟩; rw [HC.out]
      go_wp2_with fail
      refine (meRun_3_yes wd n a c l i none 0 0 [] _ (h.below V1) (Ints.nil0 _) HM.out HL.out HI.out rfl Bt.nil).mono ?_; rintro e w5 ⟨a5, c5, rfl, o5, u5⟩
      have VF := V1.trans (u5.mono V1.size)
      have oF := o5.lower (b' := w.heap.size) V1.size
      clear u5 o5 V1
      go_wp2
      go_ret2
      exact ⟨_, _, _, rfl, oF, VF⟩
set_option maxHeartbeats 8000000 in
set_option maxRecDepth 100000 in
theorem spec_ReadCell_0_any (wd : Int) (a : Option Addr) (n c : Nat) (l : List Int) (i : Int) (w : World) (h : Ints w a n c l) :
    Calls Try.prog 26 #[.bool false, .int .i64 wd, .slice a n c, .int .i64 i] w fun e w' => e = .returned (.tuple #[.int .i64 (rcV 0 wd l i), .bool (celB wd l i)]) ∧ Below w.heap.size w w' := by
  have hlen := h.len
  have hle := h.le
  have hme := celB_me wd l i
  cases hc : meCB wd l i
  · have HC := Lib.hid hc
    have hb : celB wd l i = false := by rw [hme, hc]; rfl
    have e1 : rcV 0 wd l i = 0 := by unfold rcV; rw [hb]; rfl
    rw [e1, hb]
    clear e1 hb
    clear hc hme hlen
    go_enter Try.func26, Try.ntmps26
    go_wp2_with fail
    refine (meCells_any wd a n c l i _ h).mono ?_; rintro e w1 ⟨rfl, V1⟩; rw [HC.out]
    go_wp2
    go_ret2
    exact ⟨rfl, V1⟩
  · have hc2 := hc
    unfold meCB at hc2
    rw [Bool.and_eq_true, Bool.and_eq_true] at hc2
    obtain ⟨⟨hn8, hw4⟩, hT⟩ := hc2
    replace hn8 := of_decide_eq_true hn8
    replace hw4 := of_decide_eq_true hw4
    obtain ⟨wd, rfl⟩ : ∃ k : Nat, wd = k := ⟨wd.toNat, by omega⟩
    obtain ⟨hl, hi⟩ := celT_true (wd := wd) (by omega) (by omega) hT
    have hwd4 : wd ≤ 4 := by omega
    have hwd1 : 1 ≤ wd := by omega
    have HC := Lib.hid hc
    rw [hc, Bool.true_and] at hme
    have HT := Lib.hid hT
    have HL := Lib.hid hl
    have HI := Lib.hid hi
    clear hT hl hi hc
    cases hm : memB l.length wd
    · rw [hm] at hme
      have hb : celB (wd : Int) l i = false := hme
      have e1 : rcV 0 wd l i = 0 := by unfold rcV; rw [hb]; rfl
      rw [e1, hb]
      clear e1 hb
      rw [← hlen] at hm
      have HM := Lib.hid hm
      clear hm hme hlen
      go_enter Try.func26, Try.ntmps26
      go_wp2_with fail
      refine (meCells_any wd a n c l i _ h).mono ?_; rintro e w1 ⟨rfl, V1⟩; rw [HC.out]
      go_wp2_with fail
      refine (meRun_0_no _ i n a c l none 0 0 _ (h.below V1) HM.out).mono ?_; rintro e w5 ⟨rfl, u5⟩
      have VF := V1.trans (u5.mono V1.size)
      clear u5 V1
      go_wp2
      go_ret2
      exact ⟨rfl, VF⟩
    · rw [hm] at hme
      have hb : celB (wd : Int) l i = true := hme
      have e1 : rcV 0 wd l i = (mrR 0 n wd l i []).getD 0 0 := by unfold rcV; rw [hb, if_pos rfl, hlen]; rfl
      rw [e1, hb]
      rw [← hlen] at hm
      have HM := Lib.hid hm
      have hM8 : 1 ≤ meN 0 n := by unfold meN; split <;> omega
      clear e1 hb hm hme
      obtain ⟨RS, hRS⟩ : ∃ r, r = mrR 0 n wd l i [] := ⟨_, rfl⟩
      rw [← hRS]
      have HR := Lib.hid hRS
      clear hRS
      obtain ⟨res, hres⟩ : ∃ r, r = RS.getD 0 0 := ⟨_, rfl⟩
      rw [← hres]
      have HRES := Lib.hid hres
      clear hres
      clear hlen
      go_enter Try.func26, Try.ntmps26
      go_wp2_with fail
      refine (meCells_any wd a n c l i _ h).mono ?_; rintro e w1 ⟨rfl, V1⟩; rw [HC.out]
      go_wp2_with fail
      refine (meRun_0_yes wd n a c l i none 0 0 [] _ (h.below V1) (Ints.nil0 _) HM.out HL.out HI.out rfl Bt.nil).mono ?_; rintro e w5 ⟨a5, c5, rfl, o5, u5⟩
      have VF := V1.trans (u5.mono V1.size)
      have oF := o5.lower (b' := w.heap.size) V1.size
      rw [← HR.out] at oF
      obtain ⟨m, hm⟩ : ∃ m, m = meN 0 n := ⟨_, rfl⟩
      rw [← hm] at oF hM8 ⊢
      clear hm
      have hM0 : (0 : Int) < (m : Int) := by omega
      obtain ⟨g5, p5, rfl, cx⟩ := oF.ints.at 0 (by omega)
      rw [Nat.add_zero, ← HRES.out] at cx
      clear u5 o5 V1 oF
      go_wp2
      go_ret2
      exact ⟨rfl, VF⟩
set_option maxHeartbeats 8000000 in
set_option maxRecDepth 100000 in
theorem spec_ReadCell_1_any (wd : Int) (a : Option Addr) (n c : Nat) (l : List Int) (i : Int) (w : World) (h : Ints w a n c l) :
    Calls Try.prog 26 #[.bool true, .int .i64 wd, .slice a n c, .int .i64 i] w fun e w' => e = .returned (.tuple #[.int .i64 (rcV 1 wd l i), .bool (celB wd l i)]) ∧ Below w.heap.size w w' := by
  have hlen := h.len
  have hle := h.le
  have hme := celB_me wd l i
  cases hc : meCB wd l i
  · have HC := Lib.hid hc
    have hb : celB wd l i = false := by rw [hme, hc]; rfl
    have e1 : rcV 1 wd l i = 0 := by unfold rcV; rw [hb]; rfl
    rw [e1, hb]
    clear e1 hb
    clear hc hme hlen
    go_enter Try.func26, Try.ntmps26
    go_wp2_with fail
    refine (meCells_any wd a n c l i _ h).mono ?_; rintro e w1 ⟨rfl, V1⟩; rw [HC.out]
    go_wp2
    go_ret2
    exact ⟨rfl, V1⟩
  · have hc2 := hc
    unfold meCB at hc2
    rw [Bool.and_eq_true, Bool.and_eq_true] at hc2
    obtain ⟨⟨hn8, hw4⟩, hT⟩ := hc2
    replace hn8 := of_decide_eq_true hn8
    replace hw4 := of_decide_eq_true hw4
    obtain ⟨wd, rfl⟩ : ∃ k : Nat, wd = k := ⟨wd.toNat, by omega⟩
    obtain ⟨hl, hi⟩ := celT_true (wd := wd) (by omega) (by omega) hT
    have hwd4 : wd ≤ 4 := by omega
    have hwd1 : 1 ≤ wd := by omega
    have HC := Lib.hid hc
    rw [hc, Bool.true_and] at hme
    have HT := Lib.hid hT
    have HL := Lib.hid hl
    have HI := Lib.hid hi
    clear hT hl hi hc
    cases hm : memB l.length wd
    · rw [hm] at hme
      have hb : celB (wd : Int) l i = false := hme
      have e1 : rcV 1 wd l i = 0 := by unfold rcV; rw [hb]; rfl
      rw [e1, hb]
      clear e1 hb
      rw [← hlen] at hm
      have HM := Lib.hid hm
      clear hm hme hlen
      go_enter Try.func26, Try.ntmps26
      go_wp2_with fail
      refine (meCells_any wd a n c l i _ h).mono ?_; rintro e w1 ⟨rfl, V1⟩; rw [HC.out]
      go_wp2_with fail
      refine (meRun_1_no _ i n a c l none 0 0 _ (h.below V1) HM.out).mono ?_; rintro e w5 ⟨rfl, u5⟩
      have VF := V1.trans (u5.mono V1.size)
      clear u5 V1
      go_wp2
      go_ret2
      exact ⟨rfl, VF⟩
    · rw [hm] at hme
      have hb : celB (wd : Int) l i = true := hme
      have e1 : rcV 1 wd l i = (mrR 1 n wd l i []).getD 0 0 := by unfold rcV; rw [hb, if_pos rfl, hlen]; rfl
      rw [e1, hb]
      rw [← hlen] at hm
      have HM := Lib.hid hm
      have hM8 : 1 ≤ meN 1 n := by unfold meN; split <;> omega
      clear e1 hb hm hme
      obtain ⟨RS, hRS⟩ : ∃ r, r = mrR 1 n wd l i [] := ⟨_, rfl⟩
      rw [← hRS]
      have HR := Lib.hid hRS
      clear hRS
      obtain ⟨res, hres⟩ : ∃ r, r = RS.getD 0 0 := ⟨_, rfl⟩
      rw [← hres]
      have HRES := Lib.hid hres
      clear hres
      clear hlen
      go_enter Try.func26, Try.ntmps26
      go_wp2_with fail
      refine (meCells_any wd a n c l i _ h).mono ?_; rintro e w1 ⟨rfl, V1⟩; rw [HC.out]
      go_wp2_with fail
      refine (meRun_1_yes wd n a c l i none 0 0 [] _ (h.below V1) (Ints.nil0 _) HM.out HL.out HI.out rfl Bt.nil).mono ?_; rintro e w5 ⟨a5, c5, rfl, o5, u5⟩
      have VF := V1.trans (u5.mono V1.size)
      have oF := o5.lower (b' := w.heap.size) V1.size
      rw [← HR.out] at oF
      obtain ⟨m, hm⟩ : ∃ m, m = meN 1 n := ⟨_, rfl⟩
      rw [← hm] at oF hM8 ⊢
      clear hm
      have hM0 : (0 : Int) < (m : Int) := by omega
      obtain ⟨g5, p5, rfl, cx⟩ := oF.ints.at 0 (by omega)
      rw [Nat.add_zero, ← HRES.out] at cx
      clear u5 o5 V1 oF
      go_wp2
      go_ret2
      exact ⟨rfl, VF⟩
set_option maxHeartbeats 8000000 in
set_option maxRecDepth 100000 in
theorem spec_WriteCell_any (wd : Int) (a : Option Addr) (n c : Nat) (l : List Int) (i : Int) (v : Int) (w : World) (h : Ints w a n c l) :
    Calls Try.prog 29 #[.int .i64 wd, .slice a n c, .int .i64 i, .int .i64 v] w fun e w' => ∃ a1 n1 c1, e = .returned (.tuple #[.slice a1 n1 c1, .bool (wcB wd l i v)]) ∧ Own w' w.heap.size a1 n1 c1 (wcR wd l i v) ∧ Below w.heap.size w w' := by
  have hlen := h.len
  have hle := h.le
  have hme := celB_me wd l i
  cases hc : meCB wd l i
  · have HC := Lib.hid hc
    have hb : celB wd l i = false := by rw [hme, hc]; rfl
    have e0 : wcB wd l i v = false := by unfold wcB; rw [hb]; rfl
    have e1 : wcR wd l i v = [] := by unfold wcR; rw [e0]; rfl
    rw [e1, e0]
    clear e1 e0 hb
    clear hc hme hlen
    go_enter Try.func29, Try.ntmps29
    go_wp2_with fail
    refine (meCells_any wd a n c l i _ h).mono ?_; rintro e w1 ⟨rfl, V1⟩; rw [HC.out]
    go_wp2
    go_ret2
    exact ⟨none, 0, 0, rfl, Own.nil0 _ _ _, V1⟩
  · have hc2 := hc
    unfold meCB at hc2
    rw [Bool.and_eq_true, Bool.and_eq_true] at hc2
    obtain ⟨⟨hn8, hw4⟩, hT⟩ := hc2
    replace hn8 := of_decide_eq_true hn8
    replace hw4 := of_decide_eq_true hw4
    obtain ⟨wd, rfl⟩ : ∃ k : Nat, wd = k := ⟨wd.toNat, by omega⟩
    obtain ⟨hl, hi⟩ := celT_true (wd := wd) (by omega) (by omega) hT
    have hwd4 : wd ≤ 4 := by omega
    have hwd1 : 1 ≤ wd := by omega
    have HC := Lib.hid hc
    cases hv : inB v 0 (2 ^ wd - 1)
    · have HVV := Lib.hid hv
      have e0 : wcB wd l i v = false := by unfold wcB; rw [Int.toNat_natCast, hv, Bool.and_false]
      have e1 : wcR wd l i v = [] := by unfold wcR; rw [e0]; rfl
      rw [e1, e0]
      clear hc e1 e0 hlen hT hl hi hv hme hn8 hw4
      have hs64 : (wd : Int) < 64 := by omega
      have hu : IntKind.u64.wrap (wd : Int) = (wd : Int) := IntWalk.u64_in _ (by omega)
      have hq2 : wrap64 ((2 : Int) ^ wd) = 2 ^ wd := by obtain ⟨h1, h2⟩ := p2_le hwd4; generalize (2 : Int) ^ wd = P at *; exact IntWalk.wrap64_in _ (by omega)
      have hq3 : wrap64 (1 * 2 ^ wd) = 2 ^ wd := by rw [Int.one_mul]; exact hq2
      have hq4 : wrap64 ((2 : Int) ^ wd - 1) = 2 ^ wd - 1 := by obtain ⟨h1, h2⟩ := p2_le hwd4; generalize (2 : Int) ^ wd = P at *; exact IntWalk.wrap64_in _ (by omega)
      have hq5 : (1 : Int) * 2 ^ wd = 2 ^ wd := Int.one_mul _
      go_enter Try.func29, Try.ntmps29
      go_wp2_with fail
      refine (meCells_any wd a n c l i _ h).mono ?_; rintro e w1 ⟨rfl, V1⟩; rw [HC.out]
      go_wp2_with fail
      refine (l1In_any _ _ _ _).mono ?_; rintro e w' ⟨rfl, rfl⟩; rw [HVV.out]
      go_wp2
      go_ret2
      exact ⟨none, 0, 0, rfl, Own.nil0 _ _ _, V1⟩
    · have HVV := Lib.hid hv
      have hvr := of_decide_eq_true hv
      have hv1 : 0 ≤ v ∧ v ≤ 1000000000 := by have := p2_le hwd4; generalize (2 : Int) ^ wd = P at *; omega
      have HVR := Lib.hid hv1
      clear hv1 hvr
      rw [hc, Bool.true_and] at hme
      have HT := Lib.hid hT
      have HL := Lib.hid hl
      have HI := Lib.hid hi
      clear hT hl hi hc
      cases hm : memB l.length wd
      · rw [hm] at hme
        have hb : celB (wd : Int) l i = false := hme
        have e0 : wcB wd l i v = false := by unfold wcB; rw [hb]; rfl
        have e1 : wcR wd l i v = [] := by unfold wcR; rw [e0]; rfl
        rw [e1, e0]
        clear e1 e0 hb
        rw [← hlen] at hm
        have HM := Lib.hid hm
        clear hm hme hlen
        go_enter Try.func29, Try.ntmps29
        go_wp2_with fail
        refine (meCells_any wd a n c l i _ h).mono ?_; rintro e w1 ⟨rfl, V1⟩; rw [HC.out]
        have hs64 : (wd : Int) < 64 := by omega
        have hu : IntKind.u64.wrap (wd : Int) = (wd : Int) := IntWalk.u64_in _ (by omega)
        have hq2 : wrap64 ((2 : Int) ^ wd) = 2 ^ wd := by obtain ⟨h1, h2⟩ := p2_le hwd4; generalize (2 : Int) ^ wd = P at *; exact IntWalk.wrap64_in _ (by omega)
        have hq3 : wrap64 (1 * 2 ^ wd) = 2 ^ wd := by rw [Int.one_mul]; exact hq2
        have hq4 : wrap64 ((2 : Int) ^ wd - 1) = 2 ^ wd - 1 := by obtain ⟨h1, h2⟩ := p2_le hwd4; generalize (2 : Int) ^ wd = P at *; exact IntWalk.wrap64_in _ (by omega)
        have hq5 : (1 : Int) * 2 ^ wd = 2 ^ wd := Int.one_mul _
        go_wp2_with fail
        refine (l1In_any _ _ _ _).mono ?_; rintro e w' ⟨rfl, rfl⟩; rw [HVV.out]
        clear hs64 hu hq2 hq3 hq4 hq5
        go_wp2_with fail
        refine (btOf_any v wd _ HVR.out (by omega)).mono ?_; rintro e w3 ⟨a3, c3, rfl, o3, u3⟩
        have V3 := V1.trans (u3.mono V1.size)
        clear u3
        go_wp2_with fail
        refine (meRun_2_no _ i n a c l a3 wd c3 _ (h.below V3) HM.out).mono ?_; rintro e w5 ⟨rfl, u5⟩
        have VF := V3.trans (u5.mono V3.size)
        clear u5 V1
        go_wp2
        go_ret2
        exact ⟨none, 0, 0, rfl, Own.nil0 _ _ _, VF⟩
      · rw [hm] at hme
        have hb : celB (wd : Int) l i = true := hme
        have e0 : wcB wd l i v = true := by unfold wcB; rw [hb, Int.toNat_natCast, hv]; rfl
        have e1 : wcR wd l i v = mrR 2 n wd l i (btL v wd) := by unfold wcR; rw [e0, if_pos rfl, hlen]; rfl
        rw [e1, e0]
        clear e0
        rw [← hlen] at hm
        have HM := Lib.hid hm
        have hM8 : 1 ≤ meN 2 n := by unfold meN; split <;> omega
        clear e1 hb hm hme hv
        clear hlen
        go_enter Try.func29, Try.ntmps29
        go_wp2_with fail
        refine (meCells_any wd a n c l i _ h).mono ?_; rintro e w1 ⟨rfl, V1⟩; rw [HC.out]
        have hs64 : (wd : Int) < 64 := by omega
        have hu : IntKind.u64.wrap (wd : Int) = (wd : Int) := IntWalk.u64_in _ (by omega)
        have hq2 : wrap64 ((2 : Int) ^ wd) = 2 ^ wd := by obtain ⟨h1, h2⟩ := p2_le hwd4; generalize (2 : Int) ^ wd = P at *; exact IntWalk.wrap64_in _ (by omega)
        have hq3 : wrap64 (1 * 2 ^ wd) = 2 ^ wd := by rw [Int.one_mul]; exact hq2
        have hq4 : wrap64 ((2 : Int) ^ wd - 1) = 2 ^ wd - 1 := by obtain ⟨h1, h2⟩ := p2_le hwd4; generalize (2 : Int) ^ wd = P at *; exact IntWalk.wrap64_in _ (by omega)
        have hq5 : (1 : Int) * 2 ^ wd = 2 ^ wd := Int.one_mul _
        go_wp2_with fail
        refine (l1In_any _ _ _ _).mono ?_; rintro e w' ⟨rfl, rfl⟩; rw [HVV.out]
        clear hs64 hu hq2 hq3 hq4 hq5
        go_wp2_with fail
        refine (btOf_any v wd _ HVR.out (by omega)).mono ?_; rintro e w3 ⟨a3, c3, rfl, o3, u3⟩
        have V3 := V1.trans (u3.mono V1.size)
        clear u3
        go_wp2_with fail
        refine (meRun_2_yes wd n a c l i a3 wd c3 (btL v wd) _ (h.below V3) o3.ints HM.out HL.out HI.out (by unfold meMore; simp) (btL_bits _ _)).mono ?_; rintro e w5 ⟨a5, c5, rfl, o5, u5⟩
        have VF := V3.trans (u5.mono V3.size)
        have oF := o5.lower (b' := w.heap.size) V3.size
        clear u5 o5 V1
        go_wp2
        go_ret2
        exact ⟨_, _, _, rfl, oF, VF⟩
end Go.Proofs.Ytmbheimjphhamaa
namespace Go.Proofs.Ytmbheimjphhamaa
open Go.RowKit
theorem ReadCell_any (t : Bool) (wd : Int) (a : Option Addr) (n c : Nat) (l : List Int) (i : Int) (w : World) (h : Ints w a n c l) :
    Calls Try.prog 25 #[.bool t, .int .i64 wd, .slice a n c, .int .i64 i] w fun e w' => e = .returned (.tuple #[.int .i64 (rcV (trK t) wd l i), .bool (celB wd l i)]) ∧ Below w.heap.size w w' := by
  cases t
  · exact ReadCell_0_any wd a n c l i w h
  · exact ReadCell_1_any wd a n c l i w h
theorem spec_ReadCell_any (t : Bool) (wd : Int) (a : Option Addr) (n c : Nat) (l : List Int) (i : Int) (w : World) (h : Ints w a n c l) :
    Calls Try.prog 26 #[.bool t, .int .i64 wd, .slice a n c, .int .i64 i] w fun e w' => e = .returned (.tuple #[.int .i64 (rcV (trK t) wd l i), .bool (celB wd l i)]) ∧ Below w.heap.size w w' := by
  cases t
  · exact spec_ReadCell_0_any wd a n c l i w h
  · exact spec_ReadCell_1_any wd a n c l i w h
end Go.Proofs.Ytmbheimjphhamaa
namespace Go.Proofs.Ytmbheimjphhamaa
open Go.RowKit
/-- The value of a wire. -/
def vl (G V : List Int) (x : Int) : Int := (evL G V (G.length / 3)).getD x.toNat 0
/-- The wires that there are stay, with their values. -/
def Ex (B : Int) (V G G' : List Int) : Prop := Mo B G G' ∧ ∀ x, Wr B G x → vl G' V x = vl G V x
theorem Ex.refl (B : Int) (V G : List Int) : Ex B V G G := ⟨Mo.refl _ _, fun _ _ => rfl⟩
theorem Ex.trans {B : Int} {V G G1 G2 : List Int} (h : Ex B V G G1) (k : Ex B V G1 G2) : Ex B V G G2 := ⟨h.1.trans k.1, fun x hx => (k.2 x (h.1.wr hx)).trans (h.2 x hx)⟩
theorem evL_gt (G V : List Int) (k a b : Int) (j : Nat) (hj : 3 * j ≤ G.length) : evL (gt G k a b) V j = evL G V j := by
  induction j with
  | zero => rfl
  | succ j ih =>
    rw [evL_succ, evL_succ, ih (by omega)]
    unfold gt
    rw [gapp _ _ _ (by omega), gapp _ _ _ (by omega), gapp _ _ _ (by omega)]
theorem gt_at (G : List Int) (k a b : Int) : (gt G k a b).getD G.length 0 = k ∧ (gt G k a b).getD (G.length + 1) 0 = a ∧ (gt G k a b).getD (G.length + 2) 0 = b := by
  unfold gt
  exact ⟨by simp [List.getD], by simp [List.getD], by simp [List.getD]⟩
theorem evL_gt1 {B : Int} {G : List Int} (h : Gd B G) (V : List Int) (k a b : Int) : evL (gt G k a b) V ((gt G k a b).length / 3) = evL G V (G.length / 3) ++ [evS k (vl G V a) (vl G V b)] := by
  have h3 := h.2.1
  have e : (gt G k a b).length / 3 = G.length / 3 + 1 := by rw [gt_len]; omega
  have e2 : G.length / 3 * 3 = G.length := by omega
  obtain ⟨g0, g1, g2⟩ := gt_at G k a b
  rw [e, evL_succ, evL_gt _ _ _ _ _ _ (by omega), e2, g0, g1, g2]
  rfl
theorem vl_old {B : Int} {V G : List Int} (h : Gd B G) (hV : (V.length : Int) = B) (k a b x : Int) (hx : Wr B G x) : vl (gt G k a b) V x = vl G V x := by
  unfold vl
  rw [evL_gt1 h]
  have := hx.1
  have h2 := hx.2
  unfold gW at h2
  rw [gapp _ _ _ (by rw [evL_len]; omega)]
theorem gsnE (l : List Int) (x : Int) (k : Nat) (h : k = l.length) : (l ++ [x]).getD k 0 = x := by subst h; simp [List.getD]
theorem vl_new {B : Int} {V G : List Int} (h : Gd B G) (hV : (V.length : Int) = B) (k a b : Int) : vl (gt G k a b) V (gW B G) = evS k (vl G V a) (vl G V b) := by
  have hl := evL_len G V (G.length / 3)
  have e : (gW B G).toNat = (evL G V (G.length / 3)).length := by rw [hl]; unfold gW; omega
  show (evL (gt G k a b) V ((gt G k a b).length / 3)).getD (gW B G).toNat 0 = _
  rw [evL_gt1 h, e]
  exact gsnE _ _ _ rfl
theorem Ex.gt {B : Int} {V G : List Int} (h : Gd B G) (hV : (V.length : Int) = B) (k a b : Int) : Ex B V G (gt G k a b) := ⟨Mo.gt _ _ _ _ _, fun x hx => vl_old h hV k a b x hx⟩
theorem vl_bit {V : List Int} (hb : Bt V) (G : List Int) (x : Int) : vl G V x = 0 ∨ vl G V x = 1 := (evL_bits G hb _).at _
theorem ev_xor {x y : Int} (hx : x = 0 ∨ x = 1) (hy : y = 0 ∨ y = 1) : evS 0 x y = if x = y then 0 else 1 := by
  unfold evS; rw [if_pos rfl]
  rcases hx with rfl | rfl <;> rcases hy with rfl | rfl <;> decide
theorem ev_and {x y : Int} (hx : x = 0 ∨ x = 1) (hy : y = 0 ∨ y = 1) : evS 1 x y = if x = 1 then y else 0 := by
  unfold evS; rw [if_neg (by decide), if_pos rfl]
  rcases hx with rfl | rfl <;> rcases hy with rfl | rfl <;> decide
theorem ev_not (x y : Int) : evS 2 x y = 1 - x := by unfold evS; rw [if_neg (by decide), if_neg (by decide), if_pos rfl]
theorem ev_one (x y : Int) : evS 3 x y = 1 := by unfold evS; rw [if_neg (by decide), if_neg (by decide), if_neg (by decide)]
/-- The choice of a bit. -/
theorem ch_bit {s u v : Int} (hs : s = 0 ∨ s = 1) (hu : u = 0 ∨ u = 1) (hv : v = 0 ∨ v = 1) : evS 0 (evS 1 s (evS 0 u v)) v = if s = 1 then u else v := by
  rw [ev_xor hu hv]
  rcases hs with rfl | rfl <;> rcases hu with rfl | rfl <;> rcases hv with rfl | rfl <;> decide
theorem getD_snoc_lt (l : List Int) (x : Int) (k : Nat) (h : k < l.length) : (l ++ [x]).getD k 0 = l.getD k 0 := gapp _ _ _ h
theorem getD_snoc_eq (l : List Int) (x : Int) (k : Nat) (h : k = l.length) : (l ++ [x]).getD k 0 = x := by subst h; simp [List.getD]
theorem chG_val {B s : Int} {V x y G : List Int} (h : Gd B G) (hV : (V.length : Int) = B) (hb : Bt V) (hs : Wr B G s) (hx : Ws B G x) (hy : Ws B G y) (n : Nat) (h1 : n ≤ x.length) (h2 : n ≤ y.length) :
    Ex B V G (chG B s x y G n).1 ∧ ∀ k, k < n → vl (chG B s x y G n).1 V ((chG B s x y G n).2.getD k 0) = if vl G V s = 1 then vl G V (x.getD k 0) else vl G V (y.getD k 0) := by
  induction n with
  | zero => exact ⟨Ex.refl _ _ _, fun k hk => absurd hk (by omega)⟩
  | succ n ih =>
    obtain ⟨e, f⟩ := ih (by omega) (by omega)
    obtain ⟨g, m, r⟩ := chG_good h hs hx hy n (by omega) (by omega)
    have hl := (chG_len B s x y G n).2
    rw [chG_succ]
    have wx0 := hx.at n (by omega)
    have wy0 := hy.at n (by omega)
    have fx := e.2 _ wx0
    have fy := e.2 _ wy0
    have fs := e.2 _ hs
    have wx := m.wr wx0
    have wy := m.wr wy0
    have ws := m.wr hs
    generalize hq : chG B s x y G n = q at *
    have g1 := g.xor wx wy
    have x1 := Ex.gt g hV 0 (x.getD n 0) (y.getD n 0)
    have v1 := vl_new g hV 0 (x.getD n 0) (y.getD n 0)
    have n1 := Wr.new (G := q.1) h.1 0 (x.getD n 0) (y.getD n 0)
    unfold chS
    generalize hG1 : gt q.1 0 (x.getD n 0) (y.getD n 0) = G1 at *
    have g2 := g1.and (x1.1.wr ws) n1
    have x2 := Ex.gt g1 hV 1 s (gW B q.1)
    have v2 := vl_new g1 hV 1 s (gW B q.1)
    have n2 := Wr.new (G := G1) h.1 1 s (gW B q.1)
    generalize hG2 : gt G1 1 s (gW B q.1) = G2 at *
    have x3 := Ex.gt g2 hV 0 (gW B G1) (y.getD n 0)
    have v3 := vl_new g2 hV 0 (gW B G1) (y.getD n 0)
    generalize hG3 : gt G2 0 (gW B G1) (y.getD n 0) = G3 at *
    have xx := x1.trans (x2.trans x3)
    refine ⟨e.trans xx, fun k hk => ?_⟩
    dsimp only
    by_cases hkn : k < n
    · rw [getD_snoc_lt _ _ _ (by omega), xx.2 _ (r.at k (by omega))]
      exact f k hkn
    · obtain rfl : k = n := by omega
      rw [getD_snoc_eq _ _ _ (by omega), v3, v2, (x1.trans x2).2 _ wy, x1.2 _ ws, v1, fx, fy, fs]
      exact ch_bit (vl_bit hb _ _) (vl_bit hb _ _) (vl_bit hb _ _)
theorem mnG_val {B i : Int} {V idx G : List Int} (h : Gd B G) (hV : (V.length : Int) = B) (hx : Ws B G idx) (n : Nat) (hn : n ≤ idx.length) :
    Ex B V G (mnG B i idx G n).1 ∧ ∀ k, k < n → vl (mnG B i idx G n).1 V ((mnG B i idx G n).2.getD k 0) = if i / 2 ^ k % 2 = 1 then vl G V (idx.getD k 0) else 1 - vl G V (idx.getD k 0) := by
  induction n with
  | zero => exact ⟨Ex.refl _ _ _, fun k hk => absurd hk (by omega)⟩
  | succ n ih =>
    obtain ⟨e, f⟩ := ih (by omega)
    obtain ⟨g, m, r⟩ := mnG_good (i := i) h hx n (by omega)
    have hl := (mnG_len B i idx G n).2
    rw [mnG_succ]
    have fx := e.2 _ (hx.at n (by omega))
    generalize mnG B i idx G n = q at *
    unfold mnS
    by_cases hi : i / 2 ^ n % 2 = 1
    · rw [if_pos hi]
      refine ⟨e, fun k hk => ?_⟩
      dsimp only
      by_cases hkn : k < n
      · rw [getD_snoc_lt _ _ _ (by omega)]; exact f k hkn
      · obtain rfl : k = n := by omega
        rw [getD_snoc_eq _ _ _ (by omega), if_pos hi, fx]
    · rw [if_neg hi]
      have x1 := Ex.gt g hV 2 (idx.getD n 0) 0
      have v1 := vl_new g hV 2 (idx.getD n 0) 0
      refine ⟨e.trans x1, fun k hk => ?_⟩
      dsimp only
      by_cases hkn : k < n
      · rw [getD_snoc_lt _ _ _ (by omega), x1.2 _ (r.at k (by omega))]; exact f k hkn
      · obtain rfl : k = n := by omega
        rw [getD_snoc_eq _ _ _ (by omega), if_neg hi, v1, ev_not, fx]
theorem anG_val {B : Int} {V l G : List Int} (h : Gd B G) (hV : (V.length : Int) = B) (hb : Bt V) (hl : Ws B G l) (j : Nat) (hj : j < l.length) :
    Ex B V G (anG B l G j).1 ∧ (vl (anG B l G j).1 V (anG B l G j).2 = 1 ↔ ∀ k, k ≤ j → vl G V (l.getD k 0) = 1) := by
  induction j with
  | zero => exact ⟨Ex.refl _ _ _, fun h k hk => by rw [show k = 0 from (by omega)]; exact h, fun h => h 0 (Nat.le_refl _)⟩
  | succ j ih =>
    obtain ⟨e, f⟩ := ih (by omega)
    obtain ⟨g, m, r⟩ := anG_good h hl j (by omega)
    rw [anG_succ]
    have fx := e.2 _ (hl.at (j + 1) hj)
    generalize anG B l G j = q at *
    unfold anS
    have x1 := Ex.gt g hV 1 q.2 (l.getD (j + 1) 0)
    have v1 := vl_new g hV 1 q.2 (l.getD (j + 1) 0)
    refine ⟨e.trans x1, ?_⟩
    dsimp only
    rw [v1, ev_and (vl_bit hb _ _) (vl_bit hb _ _), fx]
    constructor
    · intro hh k hk
      split at hh
      · rename_i h1
        by_cases hkj : k ≤ j
        · exact f.1 h1 k hkj
        · obtain rfl : k = j + 1 := by omega
          exact hh
      · cases hh
    · intro hh
      rw [if_pos (f.2 fun k hk => hh k (by omega))]
      exact hh (j + 1) (Nat.le_refl _)
theorem maG_val {B i : Int} {V idx G : List Int} (h : Gd B G) (hV : (V.length : Int) = B) (hb : Bt V) (hx : Ws B G idx) :
    Ex B V G (maG B i idx G).1 ∧ (vl (maG B i idx G).1 V (maG B i idx G).2 = 1 ↔ ∀ k, k < idx.length → vl G V (idx.getD k 0) = i / 2 ^ k % 2) := by
  unfold maG
  by_cases h0 : idx.length = 0
  · rw [if_pos h0]
    refine ⟨Ex.gt h hV _ _ _, ?_⟩
    dsimp only
    rw [vl_new h hV, ev_one]
    exact ⟨fun _ k hk => absurd hk (by omega), fun _ => rfl⟩
  · rw [if_neg h0]
    obtain ⟨g, m, r⟩ := mnG_good (i := i) h hx idx.length (Nat.le_refl _)
    obtain ⟨e, f⟩ := mnG_val (i := i) h hV hx idx.length (Nat.le_refl _)
    have hl := (mnG_len B i idx G idx.length).2
    generalize mnG B i idx G idx.length = q at *
    obtain ⟨e2, f2⟩ := anG_val g hV hb r (idx.length - 1) (by omega)
    refine ⟨e.trans e2, f2.trans ⟨fun hh k hk => ?_, fun hh k hk => ?_⟩⟩
    · have h1 := hh k (by omega)
      rw [f k hk] at h1
      split at h1
      · rename_i h2; rw [h1, h2]
      · have : i / 2 ^ k % 2 = 0 := by omega
        omega
    · rw [f k (by omega), hh k (by omega)]
      split
      · assumption
      · omega
/-- The wires of an index hold the number I. -/
def IxV (V G idx : List Int) (I : Int) : Prop := ∀ k, k < idx.length → vl G V (idx.getD k 0) = I / 2 ^ k % 2
theorem IxV.ex {B I : Int} {V G G' idx : List Int} (h : IxV V G idx I) (e : Ex B V G G') (hx : Ws B G idx) : IxV V G' idx I := fun k hk => by rw [e.2 _ (hx.at k hk)]; exact h k hk
theorem div_two (x : Int) (k : Nat) : x / 2 ^ (k + 1) = x / 2 / 2 ^ k := by rw [Int.pow_succ, Int.mul_comm]; exact (Int.ediv_ediv_of_nonneg (by omega)).symm
theorem bits_eq (v : Nat) : ∀ (I i : Int), 0 ≤ I → I < 2 ^ v → 0 ≤ i → i < 2 ^ v → (∀ k, k < v → I / 2 ^ k % 2 = i / 2 ^ k % 2) → I = i := by
  induction v with
  | zero => intro I i h1 h2 h3 h4 _; simp at h2 h4; omega
  | succ v ih =>
    intro I i h1 h2 h3 h4 h
    rw [Int.pow_succ] at h2 h4
    have h0 := h 0 (by omega)
    simp only [Int.pow_zero, Int.ediv_one] at h0
    have := ih (I / 2) (i / 2) (by omega) (by omega) (by omega) (by omega) (fun k hk => by
      have := h (k + 1) (by omega)
      rw [div_two, div_two] at this
      exact this)
    omega
theorem maG_is {B i I : Int} {V idx G : List Int} (h : Gd B G) (hV : (V.length : Int) = B) (hb : Bt V) (hx : Ws B G idx) (hI : IxV V G idx I) (h1 : 0 ≤ I) (h2 : I < 2 ^ idx.length) (h3 : 0 ≤ i) (h4 : i < 2 ^ idx.length) :
    Ex B V G (maG B i idx G).1 ∧ (vl (maG B i idx G).1 V (maG B i idx G).2 = 1 ↔ I = i) := by
  obtain ⟨e, f⟩ := maG_val (i := i) h hV hb hx
  refine ⟨e, f.trans ⟨fun hh => bits_eq _ I i h1 h2 h3 h4 fun k hk => by rw [← hI k hk]; exact hh k hk, fun hh k hk => by subst hh; exact hI k hk⟩⟩
/-- The values of the wires of a row. -/
def RwV (V G r : List Int) (val : Nat → Int) : Prop := ∀ k, k < r.length → vl G V (r.getD k 0) = val k
theorem RwV.ex {B : Int} {V G G' r : List Int} {val : Nat → Int} (h : RwV V G r val) (e : Ex B V G G') (hx : Ws B G r) : RwV V G' r val := fun k hk => by rw [e.2 _ (hx.at k hk)]; exact h k hk
theorem scI_val {B m : Int} {V cell out G : List Int} {first : Bool} {cv ov : Nat → Int} (h : Gd B G) (hV : (V.length : Int) = B) (hb : Bt V) (hm : Wr B G m) (hc : Ws B G cell) (ho : first = false → Ws B G out ∧ cell.length ≤ out.length)
    (hcv : RwV V G cell cv) (hov : first = false → RwV V G out ov) (hz : first = false → vl G V m = 1 → ∀ k, ov k = 0) (n : Nat) (hn : n ≤ cell.length) :
    Ex B V G (scI B m cell out first G n).1 ∧ RwV V (scI B m cell out first G n).1 (scI B m cell out first G n).2 (fun k => if vl G V m = 1 then cv k else if first = true then 0 else ov k) := by
  induction n with
  | zero => exact ⟨Ex.refl _ _ _, fun k hk => absurd hk (by simp [scI])⟩
  | succ n ih =>
    obtain ⟨e, f⟩ := ih (by omega)
    obtain ⟨g, kk, r⟩ := scI_good h hm hc ho n (by omega)
    have hl := (scI_len B m cell out first G n).2
    rw [scI_succ]
    have fc := (e.2 _ (hc.at n (by omega))).trans (hcv n (by omega))
    have fm := e.2 _ hm
    have fo : first = false → vl (scI B m cell out first G n).1 V (out.getD n 0) = ov n := fun q => (e.2 _ ((ho q).1.at n (by have := (ho q).2; omega))).trans (hov q n (by have := (ho q).2; omega))
    have wo : first = false → Wr B (scI B m cell out first G n).1 (out.getD n 0) := fun q => kk.wr ((ho q).1.at n (by have := (ho q).2; omega))
    have bc : cv n = 0 ∨ cv n = 1 := by rw [← fc]; exact vl_bit hb _ _
    have bo : first = false → (ov n = 0 ∨ ov n = 1) := fun q => by rw [← fo q]; exact vl_bit hb _ _
    have wm := kk.wr hm
    have wc := kk.wr (hc.at n (by omega))
    generalize scI B m cell out first G n = q at *
    have x1 := Ex.gt g hV 1 m (cell.getD n 0)
    have v1 := vl_new g hV 1 m (cell.getD n 0)
    rw [ev_and (vl_bit hb _ _) (vl_bit hb _ _), fc, fm] at v1
    have g1 := g.and wm wc
    unfold scS
    cases first
    · simp only [Bool.false_eq_true, if_false] at *
      have x2 := Ex.gt g1 hV 0 (out.getD n 0) (gW B q.1)
      have v2 := vl_new g1 hV 0 (out.getD n 0) (gW B q.1)
      refine ⟨e.trans (x1.trans x2), fun k hk => ?_⟩
      rw [List.length_append, List.length_cons, List.length_nil] at hk
      dsimp only
      by_cases hkn : k < n
      · rw [getD_snoc_lt _ _ _ (by omega), (x1.trans x2).2 _ (r.at k (by omega))]; exact f k (by omega)
      · obtain rfl : k = n := by omega
        rw [getD_snoc_eq _ _ _ (by omega), v2, x1.2 _ (wo trivial), fo trivial, v1]
        by_cases hm1 : vl G V m = 1
        · rw [if_pos hm1, if_pos hm1, hz trivial hm1 k, ev_xor (Or.inl rfl) bc]
          rcases bc with e | e <;> rw [e] <;> decide
        · rw [if_neg hm1, if_neg hm1, ev_xor (bo trivial) (Or.inl rfl)]
          rcases bo trivial with e | e <;> rw [e] <;> decide
    · simp only [if_true] at *
      refine ⟨e.trans x1, fun k hk => ?_⟩
      rw [List.length_append, List.length_cons, List.length_nil] at hk
      dsimp only
      by_cases hkn : k < n
      · rw [getD_snoc_lt _ _ _ (by omega), x1.2 _ (r.at k (by omega))]; exact f k (by omega)
      · obtain rfl : k = n := by omega
        rw [getD_snoc_eq _ _ _ (by omega), v1]
/-- The values of the wires of all cells: bit k of cell j. -/
def CeV (V G : List Int) (cells : List (List Int)) (cv : Nat → Nat → Int) : Prop := ∀ j, j < cells.length → RwV V G (cells.getD j []) (cv j)
theorem CeV.ex {B : Int} {V G G' : List Int} {cells : List (List Int)} {cv : Nat → Nat → Int} (h : CeV V G cells cv) (e : Ex B V G G') (hx : Wa B G cells) : CeV V G' cells cv := fun j hj => (h j hj).ex e (hx.at j hj)
theorem scG_val {B I : Int} {V idx : List Int} {cells : List (List Int)} {G : List Int} {w : Nat} {cv : Nat → Nat → Int} (h : Gd B G) (hV : (V.length : Int) = B) (hb : Bt V) (hx : Ws B G idx) (hc : Wa B G cells) (hw : AllL w cells)
    (hI : IxV V G idx I) (h1 : 0 ≤ I) (h2 : I < 2 ^ idx.length) (h3 : (cells.length : Int) ≤ 2 ^ idx.length) (hcv : CeV V G cells cv) (i : Nat) (hi : i ≤ cells.length) :
    Ex B V G (scG B idx cells G i).1 ∧ (0 < i → RwV V (scG B idx cells G i).1 (scG B idx cells G i).2 (fun k => if I < i then cv I.toNat k else 0)) := by
  induction i with
  | zero => exact ⟨Ex.refl _ _ _, fun h => absurd h (by omega)⟩
  | succ i ih =>
    obtain ⟨e, f⟩ := ih (by omega)
    obtain ⟨g, k, r⟩ := scG_good h hx hc hw i (by omega)
    have hl := (scG_len (B := B) (idx := idx) (G := G) hw i (by omega)).2
    have hc2 := (k.wa hc).at i (by omega)
    have hl2 := hw.at i (by omega)
    have hcv2 := (hcv.ex e hc) i (by omega)
    have hI2 := hI.ex e hx
    rw [scG_succ]
    generalize scG B idx cells G i = q at *
    generalize cells.getD i [] = C at *
    unfold scT
    obtain ⟨g2, k2, r2⟩ := maG_good (i := (i : Int)) g (k.ws hx)
    obtain ⟨e2, f2⟩ := maG_is (i := (i : Int)) g hV hb (k.ws hx) hI2 h1 h2 (by omega) (by omega)
    have hi0 : (i == 0) = false → 0 < i := fun e => by cases i with | zero => cases e | succ i => omega
    obtain ⟨e3, f3⟩ := scI_val (out := q.2) (first := i == 0) (cv := cv i) (ov := fun k => if I < i then cv I.toNat k else 0) g2 hV hb r2 (k2.ws hc2) (fun e => ⟨k2.ws r, by rw [hl (hi0 e)]; omega⟩)
      (hcv2.ex e2 hc2) (fun q0 => (f (hi0 q0)).ex e2 r) (fun _ hm k => by rw [f2.1 hm, if_neg (by omega)]) C.length (Nat.le_refl _)
    refine ⟨e.trans (e2.trans e3), fun _ k hk => ?_⟩
    have h7 := f3 k hk
    dsimp only at h7 ⊢
    rw [h7]
    by_cases hIi : I = i
    · rw [if_pos (f2.2 hIi), if_pos (by omega), hIi]; rfl
    · rw [if_neg (fun hh => hIi (f2.1 hh))]
      by_cases h0 : (i == 0) = true
      · rw [if_pos h0, if_neg (by have : i = 0 := by simpa using h0
                                  omega)]
      · rw [if_neg h0]
        by_cases hlt : I < i
        · rw [if_pos hlt, if_pos (by omega)]
        · rw [if_neg hlt, if_neg (by omega)]
theorem chG_row {B s : Int} {V x y G : List Int} {xv yv : Nat → Int} (h : Gd B G) (hV : (V.length : Int) = B) (hb : Bt V) (hs : Wr B G s) (hx : Ws B G x) (hy : Ws B G y) (n : Nat) (h1 : n ≤ x.length) (h2 : n ≤ y.length) (hxv : vl G V s = 1 → RwV V G x xv) (hyv : vl G V s ≠ 1 → RwV V G y yv) :
    Ex B V G (chG B s x y G n).1 ∧ RwV V (chG B s x y G n).1 (chG B s x y G n).2 (fun k => if vl G V s = 1 then xv k else yv k) := by
  obtain ⟨e, f⟩ := chG_val h hV hb hs hx hy n h1 h2
  refine ⟨e, fun k hk => ?_⟩
  rw [(chG_len B s x y G n).2] at hk
  rw [f k hk]
  dsimp only
  by_cases hs1 : vl G V s = 1
  · rw [if_pos hs1, if_pos hs1]; exact hxv hs1 k (by omega)
  · rw [if_neg hs1, if_neg hs1]; exact hyv hs1 k (by omega)
/-- Rows of some of which the values are known: row j holds val j if P j. -/
def RsV (V G : List Int) (rows : List (List Int)) (P : Nat → Prop) (val : Nat → Nat → Int) : Prop := ∀ j, j < rows.length → P j → RwV V G (rows.getD j []) (val j)
theorem RsV.ex {B : Int} {V G G' : List Int} {rows : List (List Int)} {P : Nat → Prop} {val : Nat → Nat → Int} (h : RsV V G rows P val) (e : Ex B V G G') (hx : Wa B G rows) : RsV V G' rows P val := fun j hj hp => (h j hj hp).ex e (hx.at j hj)
theorem rappL (l : List (List Int)) (r : List Int) (k : Nat) (h : k < l.length) : (l ++ [r]).getD k [] = l.getD k [] := by rw [List.getD_eq_getElem?_getD, List.getD_eq_getElem?_getD, List.getElem?_append_left h]
theorem rappE (l : List (List Int)) (r : List Int) (k : Nat) (h : k = l.length) : (l ++ [r]).getD k [] = r := by subst h; simp [List.getD]
theorem RsV.push {V G : List Int} {rows : List (List Int)} {P : Nat → Prop} {val : Nat → Nat → Int} {r : List Int} (h : RsV V G rows P val) (hr : P rows.length → RwV V G r (val rows.length)) : RsV V G (rows ++ [r]) P val := fun j hj hp => by
  rw [List.length_append, List.length_cons, List.length_nil] at hj
  by_cases hjl : j < rows.length
  · rw [rappL _ _ _ hjl]; exact h j hjl hp
  · obtain rfl : j = rows.length := by omega
    rw [rappE _ _ _ rfl]; exact hr hp
theorem trJ_val {B b : Int} {V : List Int} {cells : List (List Int)} {G : List Int} {w : Nat} {P Q : Nat → Prop} {cv dv : Nat → Nat → Int} (h : Gd B G) (hV : (V.length : Int) = B) (hb : Bt V) (hs : Wr B G b) (hc : Wa B G cells) (hw : AllL w cells) (hcv : RsV V G cells P cv)
    (hQ1 : ∀ j, Q j → vl G V b = 1 → 2 * j + 1 < cells.length ∧ P (2 * j + 1) ∧ dv j = cv (2 * j + 1)) (hQ0 : ∀ j, Q j → vl G V b ≠ 1 → P (2 * j) ∧ dv j = cv (2 * j)) (j : Nat) (hj : 2 * j ≤ cells.length + 1) :
    Ex B V G (trJ B b cells G j).1 ∧ RsV V (trJ B b cells G j).1 (trJ B b cells G j).2 Q dv := by
  induction j with
  | zero => exact ⟨Ex.refl _ _ _, fun k hk => absurd hk (by simp [trJ])⟩
  | succ j ih =>
    obtain ⟨e, f⟩ := ih (by omega)
    obtain ⟨g, k, r⟩ := trJ_good h hs hc hw j (by omega)
    have hl := (trJ_len (B := B) (b := b) (G := G) hw j (by omega)).2.1
    rw [trJ_succ]
    have hb2 := e.2 _ hs
    have hcv2 := hcv.ex e hc
    generalize trJ B b cells G j = q at *
    unfold trS
    by_cases hlast : 2 * j + 1 = cells.length
    · rw [if_pos hlast]
      refine ⟨e, f.push fun hp => ?_⟩
      rw [hl] at hp ⊢
      by_cases hv : vl G V b = 1
      · exact absurd (hQ1 j hp hv).1 (by omega)
      · rw [(hQ0 j hp hv).2]
        exact hcv2 (2 * j) (by omega) (hQ0 j hp hv).1
    · rw [if_neg hlast]
      have e1 := hw.at (2 * j) (by omega)
      have e2 := hw.at (2 * j + 1) (by omega)
      by_cases hp : Q j
      · obtain ⟨x1, f1⟩ := chG_row (xv := cv (2 * j + 1)) (yv := cv (2 * j)) g hV hb (k.wr hs) ((k.wa hc).at (2 * j + 1) (by omega)) ((k.wa hc).at (2 * j) (by omega)) (cells.getD (2 * j + 1) []).length (Nat.le_refl _) (by omega)
          (fun hv => hcv2 (2 * j + 1) (by omega) (hQ1 j hp (hb2 ▸ hv)).2.1) (fun hv => hcv2 (2 * j) (by omega) (hQ0 j hp (hb2 ▸ hv)).1)
        refine ⟨e.trans x1, (f.ex x1 r).push fun _ => ?_⟩
        rw [hl]
        intro k2 hk2
        have h7 := f1 k2 hk2
        dsimp only at h7 ⊢
        rw [h7, hb2]
        by_cases hv : vl G V b = 1
        · rw [if_pos hv, (hQ1 j hp hv).2.2]
        · rw [if_neg hv, (hQ0 j hp hv).2]
      · obtain ⟨x1, _⟩ := chG_val g hV hb (k.wr hs) ((k.wa hc).at (2 * j + 1) (by omega)) ((k.wa hc).at (2 * j) (by omega)) (cells.getD (2 * j + 1) []).length (Nat.le_refl _) (by omega)
        exact ⟨e.trans x1, (f.ex x1 r).push fun hp2 => absurd (hl ▸ hp2) hp⟩
/-- The low bits of an index. -/
theorem low_succ (I : Int) (k : Nat) : I % 2 ^ (k + 1) = I % 2 ^ k + 2 ^ k * (I / 2 ^ k % 2) := by
  have hp : (0 : Int) < 2 ^ k := Int.pow_pos (by decide)
  have h1 := Int.emod_add_mul_ediv I (2 ^ k)
  have h2 := Int.emod_add_mul_ediv (I / 2 ^ k) 2
  have hr := Int.emod_nonneg I (show (2 ^ k : Int) ≠ 0 by omega)
  have hr2 := Int.emod_lt_of_pos I hp
  have hb := Int.emod_two_eq (I / 2 ^ k)
  rw [Int.pow_succ]
  have e : I = (I % 2 ^ k + 2 ^ k * (I / 2 ^ k % 2)) + (2 ^ k * 2) * (I / 2 ^ k / 2) := by
    rw [Int.mul_assoc, Int.add_assoc, ← Int.mul_add, h2, h1]
  have b : 0 ≤ I % 2 ^ k + 2 ^ k * (I / 2 ^ k % 2) ∧ I % 2 ^ k + 2 ^ k * (I / 2 ^ k % 2) < 2 ^ k * 2 := by rcases hb with hb | hb <;> rw [hb] <;> omega
  rw [e, Int.add_mul_emod_self_left, Int.emod_eq_of_lt b.1 b.2]
  rw [← e]
theorem trG_val {B : Int} {V idx : List Int} {cells : List (List Int)} {G : List Int} {w : Nat} {cv : Nat → Nat → Int} {I : Int} (h : Gd B G) (hV : (V.length : Int) = B) (hb : Bt V) (hx : Ws B G idx) (hc : Wa B G cells) (hw : AllL w cells) (h0 : 0 < cells.length) (h8 : cells.length ≤ 8)
    (hI : IxV V G idx I) (hcv : CeV V G cells cv) (k : Nat) (hk : k ≤ idx.length) :
    Ex B V G (trG B idx cells G k).1 ∧ (trG B idx cells G k).2.length = (cells.length + (2 ^ k - 1)) / 2 ^ k ∧
      RsV V (trG B idx cells G k).1 (trG B idx cells G k).2 (fun j => j * 2 ^ k + (I % 2 ^ k).toNat < cells.length) (fun j => cv (j * 2 ^ k + (I % 2 ^ k).toNat)) := by
  induction k with
  | zero =>
    refine ⟨Ex.refl _ _ _, by simp [trG], fun j hj _ => ?_⟩
    have e : j * 2 ^ 0 + (I % 2 ^ 0).toNat = j := by rw [Int.pow_zero, Int.emod_one]; simp
    dsimp only
    rw [e]
    exact hcv j hj
  | succ k ih =>
    obtain ⟨e, f0, f⟩ := ih (by omega)
    obtain ⟨g, m, r⟩ := trG_good h hx hc hw h0 h8 k (by omega)
    obtain ⟨_, _, hw2⟩ := trG_len (B := B) (idx := idx) (G := G) hw h0 h8 k
    rw [trG_succ]
    have wx := m.wr (hx.at k (by omega))
    have hv := (e.2 _ (hx.at k (by omega))).trans (hI k (by omega))
    generalize trG B idx cells G k = q at *
    have hl2 := (trJ_len (B := B) (b := idx.getD k 0) (G := q.1) hw2 ((q.2.length + 1) / 2) (by omega)).2.1
    have hp : 0 < 2 ^ k := Nat.two_pow_pos k
    have hpi : ((2 ^ k : Nat) : Int) = 2 ^ k := by simp
    have hr := Int.emod_nonneg I (show (2 ^ k : Int) ≠ 0 by omega)
    have hr2 := Int.emod_lt_of_pos I (show (0 : Int) < 2 ^ k by omega)
    have hlow := low_succ I k
    have hps : 2 ^ (k + 1) = 2 ^ k * 2 := Nat.pow_succ ..
    have hmul : ∀ j : Nat, (2 * j + 1) * 2 ^ k = j * 2 ^ (k + 1) + 2 ^ k ∧ 2 * j * 2 ^ k = j * 2 ^ (k + 1) := fun j => by
      rw [hps, Nat.add_mul, Nat.one_mul, Nat.mul_assoc, Nat.mul_comm (2 ^ k) 2, Nat.mul_left_comm j 2]; exact ⟨rfl, rfl⟩
    have hin : ∀ j : Nat, j * 2 ^ k < cells.length → j < (cells.length + (2 ^ k - 1)) / 2 ^ k := fun j hj => by
      rw [Nat.lt_iff_add_one_le, Nat.le_div_iff_mul_le hp, Nat.add_mul, Nat.one_mul]; omega
    obtain ⟨x1, f1⟩ := trJ_val (Q := fun j => j * 2 ^ (k + 1) + (I % 2 ^ (k + 1)).toNat < cells.length) (dv := fun j => cv (j * 2 ^ (k + 1) + (I % 2 ^ (k + 1)).toNat)) g hV hb wx r hw2 f
      (fun j hq hb1 => by
        rw [hv] at hb1
        rw [hb1, Int.mul_one] at hlow
        have el : (I % 2 ^ (k + 1)).toNat = (I % 2 ^ k).toNat + 2 ^ k := by omega
        rw [el] at hq
        have h5 := (hmul j).1
        refine ⟨by rw [f0]; exact hin _ (by omega), by omega, ?_⟩
        rw [el, h5]; congr 1; omega)
      (fun j hq hb1 => by
        rw [hv] at hb1
        have hb0 : I / 2 ^ k % 2 = 0 := by omega
        rw [hb0, Int.mul_zero, Int.add_zero] at hlow
        rw [hlow] at hq ⊢
        rw [(hmul j).2]
        exact ⟨hq, rfl⟩)
      ((q.2.length + 1) / 2) (by omega)
    refine ⟨e.trans x1, ?_, f1⟩
    rw [hl2, f0, hps]
    generalize 2 ^ k = p at hp
    rw [← Nat.div_div_eq_div_mul]
    have e1 : (cells.length + (p - 1)) / p + 1 = (cells.length + (p * 2 - 1)) / p := by
      have : cells.length + (p * 2 - 1) = (cells.length + (p - 1)) + p := by omega
      rw [this, Nat.add_div_right _ hp]
    rw [e1]
theorem wrG_val {B I : Int} {V idx value : List Int} {cells : List (List Int)} {G : List Int} {w : Nat} {cv : Nat → Nat → Int} {vv : Nat → Int} (h : Gd B G) (hV : (V.length : Int) = B) (hb : Bt V) (hx : Ws B G idx) (hvw : Ws B G value) (hc : Wa B G cells) (hw : AllL w cells) (hvl : value.length = w) (hw0 : 0 < w)
    (hI : IxV V G idx I) (h1 : 0 ≤ I) (h2 : I < 2 ^ idx.length) (h3 : (cells.length : Int) ≤ 2 ^ idx.length) (hcv : CeV V G cells cv) (hvv : RwV V G value vv) (i : Nat) (hi : i ≤ cells.length) :
    Ex B V G (wrG B idx value cells G i).1 ∧ RwV V (wrG B idx value cells G i).1 (wrG B idx value cells G i).2 (fun k => if I = (k / w : Nat) then vv (k % w) else cv (k / w) (k % w)) := by
  induction i with
  | zero => exact ⟨Ex.refl _ _ _, fun k hk => absurd hk (by simp [wrG])⟩
  | succ i ih =>
    obtain ⟨e, f⟩ := ih (by omega)
    obtain ⟨g, k, r⟩ := wrG_good h hx hvw hc hw hvl i (by omega)
    have hl := (wrG_len B idx value cells G i).2
    have hc2 := (k.wa hc).at i (by omega)
    have hl2 := hw.at i (by omega)
    have hcv2 := (hcv.ex e hc) i (by omega)
    have hvv2 := hvv.ex e hvw
    have hI2 := hI.ex e hx
    rw [wrG_succ]
    generalize wrG B idx value cells G i = q at *
    generalize cells.getD i [] = C at *
    unfold wrS
    obtain ⟨g2, k2, r2⟩ := maG_good (i := (i : Int)) g (k.ws hx)
    obtain ⟨e2, f2⟩ := maG_is (i := (i : Int)) g hV hb (k.ws hx) hI2 h1 h2 (by omega) (by omega)
    obtain ⟨e3, f3⟩ := chG_row (xv := vv) (yv := cv i) g2 hV hb r2 (k2.ws (k.ws hvw)) (k2.ws hc2) value.length (Nat.le_refl _) (by omega) (fun _ => hvv2.ex e2 (k.ws hvw)) (fun _ => hcv2.ex e2 hc2)
    refine ⟨e.trans (e2.trans e3), fun k3 hk3 => ?_⟩
    have hl4 := (chG_len B (maG B i idx q.1).2 value C (maG B i idx q.1).1 value.length).2
    dsimp only at hk3 ⊢
    rw [List.length_append, hl4, hl, hvl] at hk3
    have em : w * i = i * w := Nat.mul_comm _ _
    by_cases hk4 : k3 < w * i
    · rw [gapp _ _ _ (by rw [hl, hvl]; exact hk4), (e2.trans e3).2 _ (r.at k3 (by rw [hl, hvl]; exact hk4))]
      exact f k3 (by rw [hl, hvl]; exact hk4)
    · obtain ⟨t, rfl⟩ : ∃ t, k3 = t + i * w := ⟨k3 - i * w, by omega⟩
      have ht : t < w := by omega
      have e5 : (t + i * w) / w = i := by rw [Nat.add_mul_div_right _ _ hw0, Nat.div_eq_of_lt ht, Nat.zero_add]
      have e6 : (t + i * w) % w = t := by rw [Nat.add_mul_mod_self_right, Nat.mod_eq_of_lt ht]
      have e7 : t + i * w - q.2.length = t := by rw [hl, hvl]; omega
      rw [gappR _ _ _ (by rw [hl, hvl]; omega), e7, f3 t (by rw [hl4, hvl]; exact ht), e5, e6]
      dsimp only
      by_cases hIi : I = i
      · rw [if_pos (f2.2 hIi), if_pos hIi]
      · rw [if_neg (fun hh => hIi (f2.1 hh)), if_neg hIi]
theorem tuJ_val {B b : Int} {V : List Int} {s : Nat} {cells : List (List Int)} {G : List Int} {w : Nat} {cv : Nat → Nat → Int} (h : Gd B G) (hV : (V.length : Int) = B) (hb : Bt V) (hs : Wr B G b) (hc : Wa B G cells) (hw : AllL w cells) (hcv : CeV V G cells cv) (j : Nat) (hj : j ≤ cells.length) :
    Ex B V G (tuJ B b s cells G j).1 ∧ CeV V (tuJ B b s cells G j).1 (tuJ B b s cells G j).2 (fun i => if vl G V b = 1 then cv ((i + s) % cells.length) else cv i) := by
  induction j with
  | zero => exact ⟨Ex.refl _ _ _, fun k hk => absurd hk (by simp [tuJ])⟩
  | succ j ih =>
    obtain ⟨e, f⟩ := ih (by omega)
    obtain ⟨g, k, r⟩ := tuJ_good (s := s) h hs hc hw j (by omega)
    have hl := (tuJ_len (B := B) (b := b) (s := s) (G := G) hw j (by omega)).2.1
    rw [tuJ_succ]
    have hb2 := e.2 _ hs
    have hcv2 := hcv.ex e hc
    generalize tuJ B b s cells G j = q at *
    unfold tuS
    have hq : (j + s) % cells.length < cells.length := Nat.mod_lt _ (by omega)
    have e1 := hw.at j (by omega)
    have e2 := hw.at _ hq
    obtain ⟨x1, f1⟩ := chG_row (xv := cv ((j + s) % cells.length)) (yv := cv j) g hV hb (k.wr hs) ((k.wa hc).at _ hq) ((k.wa hc).at j (by omega)) (cells.getD ((j + s) % cells.length) []).length (Nat.le_refl _) (by omega) (fun _ => hcv2 _ hq) (fun _ => hcv2 j (by omega))
    refine ⟨e.trans x1, fun i hi => ?_⟩
    rw [List.length_append, List.length_cons, List.length_nil, hl] at hi
    by_cases hij : i < j
    · rw [rappL _ _ _ (by omega)]
      exact ((f i (by omega)).ex x1 (r.at i (by omega)))
    · obtain rfl : i = j := by omega
      rw [rappE _ _ _ hl.symm]
      intro k2 hk2
      have h7 := f1 k2 hk2
      dsimp only at h7 ⊢
      rw [h7, hb2]
      by_cases hv : vl G V b = 1
      · rw [if_pos hv, if_pos hv]
      · rw [if_neg hv, if_neg hv]
theorem tuG_val {B : Int} {V idx : List Int} {cells : List (List Int)} {G : List Int} {w : Nat} {cv : Nat → Nat → Int} {I : Int} (h : Gd B G) (hV : (V.length : Int) = B) (hb : Bt V) (hx : Ws B G idx) (hc : Wa B G cells) (hw : AllL w cells)
    (hI : IxV V G idx I) (hcv : CeV V G cells cv) (k : Nat) (hk : k ≤ idx.length) :
    Ex B V G (tuG B idx cells G k).1 ∧ CeV V (tuG B idx cells G k).1 (tuG B idx cells G k).2 (fun j => cv ((j + (I % 2 ^ k).toNat) % cells.length)) := by
  induction k with
  | zero =>
    refine ⟨Ex.refl _ _ _, fun j hj => ?_⟩
    have e : (j + (I % 2 ^ 0).toNat) % cells.length = j := by rw [Int.pow_zero, Int.emod_one]; exact Nat.mod_eq_of_lt hj
    dsimp only
    rw [e]
    exact hcv j hj
  | succ k ih =>
    obtain ⟨e, f⟩ := ih (by omega)
    obtain ⟨g, m, r⟩ := tuG_good h hx hc hw k (by omega)
    obtain ⟨_, hl2, hw2⟩ := tuG_len (B := B) (idx := idx) (G := G) hw k
    rw [tuG_succ]
    have wx := m.wr (hx.at k (by omega))
    have hv := (e.2 _ (hx.at k (by omega))).trans (hI k (by omega))
    generalize tuG B idx cells G k = q at *
    have hp : 0 < 2 ^ k := Nat.two_pow_pos k
    have hpi : ((2 ^ k : Nat) : Int) = 2 ^ k := by simp
    have hr := Int.emod_nonneg I (show (2 ^ k : Int) ≠ 0 by omega)
    have hlow := low_succ I k
    obtain ⟨x1, f1⟩ := tuJ_val (s := 2 ^ k) g hV hb wx r hw2 f q.2.length (Nat.le_refl _)
    refine ⟨e.trans x1, fun j hj => ?_⟩
    intro t ht
    have h7 := f1 j hj t ht
    dsimp only at h7 ⊢
    rw [h7, hl2]
    by_cases hb1 : vl q.1 V (idx.getD k 0) = 1
    · rw [if_pos hb1]
      rw [hv] at hb1
      rw [hb1, Int.mul_one] at hlow
      have el : (I % 2 ^ (k + 1)).toNat = 2 ^ k + (I % 2 ^ k).toNat := by omega
      rw [el, Nat.mod_add_mod, ← Nat.add_assoc]
    · rw [if_neg hb1]
      rw [hv] at hb1
      have hb0 : I / 2 ^ k % 2 = 0 := by omega
      rw [hb0, Int.mul_zero, Int.add_zero] at hlow
      rw [hlow]
end Go.Proofs.Ytmbheimjphhamaa
