/- Players: outputs, two players. -/
import Derived.Test.YtlmdckcohoddnaaDoorPtGood
namespace Go.Proofs.YtlmdckcohoddnaaDoor
open Go.RowKit
set_option maxHeartbeats 4000000 in
set_option maxRecDepth 100000 in
theorem spec_IsPlayer_any (a : Pl) (x : PlX) (w : World) (h : PlR w x a.shares a.keys a.heard) (_hT : Tbl w) :
    Calls Tryd.prog 14 #[.agg #[.int .i64 a.P, .int .i64 a.party, .int .i64 a.input, .int .i64 a.mask, .int .i64 a.delta, .slice x.sa x.sn x.sc, .slice x.ka x.kn x.kc, .int .i64 a.step, .slice x.ha x.hn x.hc, .int .i64 a.status, .int .i64 a.out]] w fun e w' => e = .returned (.bool (plB a)) ∧ Below w.heap.size w w' := by
  have V0 : Below w.heap.size w (w.alloc (.cells #[.int .i64 a.P, .int .i64 a.party, .int .i64 a.input, .int .i64 a.mask, .int .i64 a.delta, .slice x.sa x.sn x.sc, .slice x.ka x.kn x.kc, .int .i64 a.step, .slice x.ha x.hn x.hc, .int .i64 a.status, .int .i64 a.out] 31)) := (Below.refl _ _).alloc (Nat.le_refl _) _
  go_enter Tryd.func14, Tryd.ntmps14
  go_wp2_with fail
  refine (ptGood_any a x _ (h.below V0)).mono ?_; rintro e w' ⟨rfl, u⟩
  have V1 := V0.trans (u.mono V0.size)
  go_wp2
  go_ret
  exact ⟨rfl, V1⟩
def ooB (a : Pl) : Bool := plB a && decide (a.status = 1)
def ooV (a : Pl) : Int := if ooB a then a.out else 0
theorem plB_parts {a : Pl} (h : plB a = true) : isPr a.P = true ∧ (0 ≤ a.input ∧ a.input ≤ a.P - 1) ∧ (0 ≤ a.mask ∧ a.mask ≤ a.P - 1) ∧ (0 ≤ a.delta ∧ a.delta ≤ a.P - 1) ∧ (0 ≤ a.out ∧ a.out ≤ a.P - 1) ∧ (0 ≤ a.party ∧ a.party ≤ 1) ∧ a.delta ≠ 0 ∧ a.shares.length = 10 ∧ a.keys.length = 5 ∧ (∀ x ∈ a.keys, 0 ≤ x ∧ x ≤ a.P - 1) ∧ (∀ i, i < 5 → tagAt a.P a.shares i = true) ∧ (0 ≤ a.step ∧ a.step ≤ 3) ∧ (a.heard.length : Int) = a.step ∧ (∀ i, i < a.heard.length → heardAt a.P a.heard i = true) ∧ (0 ≤ a.status ∧ a.status ≤ 2) := by
  unfold plB at h
  simp only [Bool.and_eq_true] at h
  obtain ⟨h0, h1, h2, h3, h4, h5, h6, h7, h8, h9, h10⟩ := h
  obtain ⟨g0, g1⟩ := elsB_pr h0
  refine ⟨g0, g1 _ (by simp), g1 _ (by simp), g1 _ (by simp), g1 _ (by simp), of_decide_eq_true h1, by simpa using h2, of_decide_eq_true h3, of_decide_eq_true h4, (allB_iff _ _ _).1 h5, fun i hi => rangeAll_at h6 i hi, inB_true h7, of_decide_eq_true h8, fun i hi => rangeAll_at h9 i hi, ?_⟩
  unfold endB at h10
  split at h10
  · have := of_decide_eq_true h10; omega
  · simp only [Bool.and_eq_true, Bool.or_eq_true, decide_eq_true_eq] at h10
    omega
set_option maxHeartbeats 4000000 in
set_option maxRecDepth 100000 in
theorem OutputOf_any (a : Pl) (x : PlX) (w : World) (h : PlR w x a.shares a.keys a.heard) (hT : Tbl w) :
    Calls Tryd.prog 19 #[.agg #[.int .i64 a.P, .int .i64 a.party, .int .i64 a.input, .int .i64 a.mask, .int .i64 a.delta, .slice x.sa x.sn x.sc, .slice x.ka x.kn x.kc, .int .i64 a.step, .slice x.ha x.hn x.hc, .int .i64 a.status, .int .i64 a.out]] w fun e w' => e = .returned (.tuple #[.int .i64 (ooV a), .bool (ooB a)]) ∧ Below w.heap.size w w' := by
  have V0 : Below w.heap.size w (w.alloc (.cells #[.int .i64 a.P, .int .i64 a.party, .int .i64 a.input, .int .i64 a.mask, .int .i64 a.delta, .slice x.sa x.sn x.sc, .slice x.ka x.kn x.kc, .int .i64 a.step, .slice x.ha x.hn x.hc, .int .i64 a.status, .int .i64 a.out] 31)) := (Below.refl _ _).alloc (Nat.le_refl _) _
  have CG := IsPlayer_any a x _ (h.below V0) (hT.below V0)
  have B0 : Blk (w.alloc (.cells #[.int .i64 a.P, .int .i64 a.party, .int .i64 a.input, .int .i64 a.mask, .int .i64 a.delta, .slice x.sa x.sn x.sc, .slice x.ka x.kn x.kc, .int .i64 a.step, .slice x.ha x.hn x.hc, .int .i64 a.status, .int .i64 a.out] 31)) w.heap.size 31 #[.int .i64 a.P, .int .i64 a.party, .int .i64 a.input, .int .i64 a.mask, .int .i64 a.delta, .slice x.sa x.sn x.sc, .slice x.ka x.kn x.kc, .int .i64 a.step, .slice x.ha x.hn x.hc, .int .i64 a.status, .int .i64 a.out] := Blk.new _ _ _
  unfold ooV ooB
  generalize plB a = b0 at *
  generalize hb1 : decide (a.status = 1) = b1
  have HB1 := Lib.hid hb1
  replace CG := Lib.hid CG
  clear hb1
  go_enter Tryd.func19, Tryd.ntmps19
  go_wp2_with fail
  refine CG.out.mono ?_; rintro e w1 ⟨rfl, u⟩
  have V1 := V0.trans (u.mono V0.size)
  have B1 := B0.below u
  have e9 : w1.cell? ⟨w.heap.size, 9, none⟩ = some (.int .i64 a.status) := B1.cell 9
  have e10 : w1.cell? ⟨w.heap.size, 10, none⟩ = some (.int .i64 a.out) := B1.cell 10
  cases b0
  · go_wp2
    go_ret2
    exact ⟨rfl, V1⟩
  cases b1
  · have d1 : ((a.status != 1) : Bool) = true := by simpa using HB1.out
    go_wp2
    go_ret2
    exact ⟨rfl, V1⟩
  · have d1 : ((a.status != 1) : Bool) = false := by simpa using HB1.out
    go_wp2
    go_ret2
    exact ⟨rfl, V1⟩
set_option maxHeartbeats 4000000 in
set_option maxRecDepth 100000 in
theorem spec_OutputOf_any (a : Pl) (x : PlX) (w : World) (h : PlR w x a.shares a.keys a.heard) (_hT : Tbl w) :
    Calls Tryd.prog 18 #[.agg #[.int .i64 a.P, .int .i64 a.party, .int .i64 a.input, .int .i64 a.mask, .int .i64 a.delta, .slice x.sa x.sn x.sc, .slice x.ka x.kn x.kc, .int .i64 a.step, .slice x.ha x.hn x.hc, .int .i64 a.status, .int .i64 a.out]] w fun e w' => e = .returned (.tuple #[.int .i64 (ooV a), .bool (ooB a)]) ∧ Below w.heap.size w w' := by
  have V0 : Below w.heap.size w (w.alloc (.cells #[.int .i64 a.P, .int .i64 a.party, .int .i64 a.input, .int .i64 a.mask, .int .i64 a.delta, .slice x.sa x.sn x.sc, .slice x.ka x.kn x.kc, .int .i64 a.step, .slice x.ha x.hn x.hc, .int .i64 a.status, .int .i64 a.out] 31)) := (Below.refl _ _).alloc (Nat.le_refl _) _
  have CG := ptGood_any a x _ (h.below V0)
  have B0 : Blk (w.alloc (.cells #[.int .i64 a.P, .int .i64 a.party, .int .i64 a.input, .int .i64 a.mask, .int .i64 a.delta, .slice x.sa x.sn x.sc, .slice x.ka x.kn x.kc, .int .i64 a.step, .slice x.ha x.hn x.hc, .int .i64 a.status, .int .i64 a.out] 31)) w.heap.size 31 #[.int .i64 a.P, .int .i64 a.party, .int .i64 a.input, .int .i64 a.mask, .int .i64 a.delta, .slice x.sa x.sn x.sc, .slice x.ka x.kn x.kc, .int .i64 a.step, .slice x.ha x.hn x.hc, .int .i64 a.status, .int .i64 a.out] := Blk.new _ _ _
  unfold ooV ooB
  generalize plB a = b0 at *
  generalize hb1 : decide (a.status = 1) = b1
  have HB1 := Lib.hid hb1
  replace CG := Lib.hid CG
  clear hb1
  go_enter Tryd.func18, Tryd.ntmps18
  go_wp2_with fail
  refine CG.out.mono ?_; rintro e w1 ⟨rfl, u⟩
  have V1 := V0.trans (u.mono V0.size)
  have B1 := B0.below u
  have e9 : w1.cell? ⟨w.heap.size, 9, none⟩ = some (.int .i64 a.status) := B1.cell 9
  have e10 : w1.cell? ⟨w.heap.size, 10, none⟩ = some (.int .i64 a.out) := B1.cell 10
  cases b0
  · go_wp2
    go_ret2
    exact ⟨rfl, V1⟩
  cases b1
  · have d1 : ((a.status != 1) : Bool) = true := by simpa using HB1.out
    go_wp2
    go_ret2
    exact ⟨rfl, V1⟩
  · have d1 : ((a.status != 1) : Bool) = false := by simpa using HB1.out
    go_wp2
    go_ret2
    exact ⟨rfl, V1⟩
def twoB (a b : Pl) : Bool := plB a && (plB b && (decide (a.P = b.P) && (decide (a.party = 0) && (decide (b.party = 1) && (decide (a.step = 0) && (decide (b.step = 0) && (decide (a.status = 0) && (decide (b.status = 0)))))))))
set_option maxHeartbeats 8000000 in
set_option maxRecDepth 100000 in
theorem areTwo_any (a : Pl) (x : PlX) (b : Pl) (y : PlX) (w : World) (h : PlR w x a.shares a.keys a.heard) (k : PlR w y b.shares b.keys b.heard) (hT : Tbl w) :
    Calls Tryd.prog 68 #[.agg #[.int .i64 a.P, .int .i64 a.party, .int .i64 a.input, .int .i64 a.mask, .int .i64 a.delta, .slice x.sa x.sn x.sc, .slice x.ka x.kn x.kc, .int .i64 a.step, .slice x.ha x.hn x.hc, .int .i64 a.status, .int .i64 a.out], .agg #[.int .i64 b.P, .int .i64 b.party, .int .i64 b.input, .int .i64 b.mask, .int .i64 b.delta, .slice y.sa y.sn y.sc, .slice y.ka y.kn y.kc, .int .i64 b.step, .slice y.ha y.hn y.hc, .int .i64 b.status, .int .i64 b.out]] w fun e w' => e = .returned (.bool (twoB a b)) ∧ Below w.heap.size w w' := by
  have CA := fun (W : World) (h2 : PlR W x a.shares a.keys a.heard) (hT2 : Tbl W) => IsPlayer_any a x W h2 hT2
  have CB := fun (W : World) (k2 : PlR W y b.shares b.keys b.heard) (hT2 : Tbl W) => IsPlayer_any b y W k2 hT2
  unfold twoB
  generalize plB a = b0 at *
  generalize plB b = b1 at *
  generalize hb2 : decide (a.P = b.P) = b2
  replace hb2 := Lib.hid hb2
  generalize hb3 : decide (a.party = 0) = b3
  replace hb3 := Lib.hid hb3
  generalize hb4 : decide (b.party = 1) = b4
  replace hb4 := Lib.hid hb4
  generalize hb5 : decide (a.step = 0) = b5
  replace hb5 := Lib.hid hb5
  generalize hb6 : decide (b.step = 0) = b6
  replace hb6 := Lib.hid hb6
  generalize hb7 : decide (a.status = 0) = b7
  replace hb7 := Lib.hid hb7
  generalize hb8 : decide (b.status = 0) = b8
  replace hb8 := Lib.hid hb8
  have LX := Lib.hid hT
  clear hT
  replace CA := Lib.hid CA
  replace CB := Lib.hid CB


  go_enter Tryd.func68, Tryd.ntmps68
  go_wp2_with fail
  have V_w1'_1 : Below w.heap.size w (w.alloc (.cells #[.int .i64 a.P, .int .i64 a.party, .int .i64 a.input, .int .i64 a.mask, .int .i64 a.delta, .slice x.sa x.sn x.sc, .slice x.ka x.kn x.kc, .int .i64 a.step, .slice x.ha x.hn x.hc, .int .i64 a.status, .int .i64 a.out] 31)) := ((Below.refl w.heap.size w)).alloc (by have := ((Below.refl w.heap.size w)).size; first | exact this | (simp at *; omega)) _
  replace h := h.alloc (.cells #[.int .i64 a.P, .int .i64 a.party, .int .i64 a.input, .int .i64 a.mask, .int .i64 a.delta, .slice x.sa x.sn x.sc, .slice x.ka x.kn x.kc, .int .i64 a.step, .slice x.ha x.hn x.hc, .int .i64 a.status, .int .i64 a.out] 31)
  replace k := k.alloc (.cells #[.int .i64 a.P, .int .i64 a.party, .int .i64 a.input, .int .i64 a.mask, .int .i64 a.delta, .slice x.sa x.sn x.sc, .slice x.ka x.kn x.kc, .int .i64 a.step, .slice x.ha x.hn x.hc, .int .i64 a.status, .int .i64 a.out] 31)
  have B_a : Blk (w.alloc (.cells #[.int .i64 a.P, .int .i64 a.party, .int .i64 a.input, .int .i64 a.mask, .int .i64 a.delta, .slice x.sa x.sn x.sc, .slice x.ka x.kn x.kc, .int .i64 a.step, .slice x.ha x.hn x.hc, .int .i64 a.status, .int .i64 a.out] 31)) (w.heap.size) 31 #[.int .i64 a.P, .int .i64 a.party, .int .i64 a.input, .int .i64 a.mask, .int .i64 a.delta, .slice x.sa x.sn x.sc, .slice x.ka x.kn x.kc, .int .i64 a.step, .slice x.ha x.hn x.hc, .int .i64 a.status, .int .i64 a.out] := by exact Blk.new w 31 #[.int .i64 a.P, .int .i64 a.party, .int .i64 a.input, .int .i64 a.mask, .int .i64 a.delta, .slice x.sa x.sn x.sc, .slice x.ka x.kn x.kc, .int .i64 a.step, .slice x.ha x.hn x.hc, .int .i64 a.status, .int .i64 a.out]
  have V_w1'_2 : Below w.heap.size w ((w.alloc (.cells #[.int .i64 a.P, .int .i64 a.party, .int .i64 a.input, .int .i64 a.mask, .int .i64 a.delta, .slice x.sa x.sn x.sc, .slice x.ka x.kn x.kc, .int .i64 a.step, .slice x.ha x.hn x.hc, .int .i64 a.status, .int .i64 a.out] 31)).alloc (.cells #[.int .i64 b.P, .int .i64 b.party, .int .i64 b.input, .int .i64 b.mask, .int .i64 b.delta, .slice y.sa y.sn y.sc, .slice y.ka y.kn y.kc, .int .i64 b.step, .slice y.ha y.hn y.hc, .int .i64 b.status, .int .i64 b.out] 31)) := (V_w1'_1).alloc (by have := (V_w1'_1).size; first | exact this | (simp at *; omega)) _
  replace B_a := B_a.alloc (.cells #[.int .i64 b.P, .int .i64 b.party, .int .i64 b.input, .int .i64 b.mask, .int .i64 b.delta, .slice y.sa y.sn y.sc, .slice y.ka y.kn y.kc, .int .i64 b.step, .slice y.ha y.hn y.hc, .int .i64 b.status, .int .i64 b.out] 31)
  replace h := h.alloc (.cells #[.int .i64 b.P, .int .i64 b.party, .int .i64 b.input, .int .i64 b.mask, .int .i64 b.delta, .slice y.sa y.sn y.sc, .slice y.ka y.kn y.kc, .int .i64 b.step, .slice y.ha y.hn y.hc, .int .i64 b.status, .int .i64 b.out] 31)
  replace k := k.alloc (.cells #[.int .i64 b.P, .int .i64 b.party, .int .i64 b.input, .int .i64 b.mask, .int .i64 b.delta, .slice y.sa y.sn y.sc, .slice y.ka y.kn y.kc, .int .i64 b.step, .slice y.ha y.hn y.hc, .int .i64 b.status, .int .i64 b.out] 31)
  have B_b : Blk ((w.alloc (.cells #[.int .i64 a.P, .int .i64 a.party, .int .i64 a.input, .int .i64 a.mask, .int .i64 a.delta, .slice x.sa x.sn x.sc, .slice x.ka x.kn x.kc, .int .i64 a.step, .slice x.ha x.hn x.hc, .int .i64 a.status, .int .i64 a.out] 31)).alloc (.cells #[.int .i64 b.P, .int .i64 b.party, .int .i64 b.input, .int .i64 b.mask, .int .i64 b.delta, .slice y.sa y.sn y.sc, .slice y.ka y.kn y.kc, .int .i64 b.step, .slice y.ha y.hn y.hc, .int .i64 b.status, .int .i64 b.out] 31)) (w.heap.size + 1) 31 #[.int .i64 b.P, .int .i64 b.party, .int .i64 b.input, .int .i64 b.mask, .int .i64 b.delta, .slice y.sa y.sn y.sc, .slice y.ka y.kn y.kc, .int .i64 b.step, .slice y.ha y.hn y.hc, .int .i64 b.status, .int .i64 b.out] := by simpa [World.setCell] using (Blk.new (w.alloc (.cells #[.int .i64 a.P, .int .i64 a.party, .int .i64 a.input, .int .i64 a.mask, .int .i64 a.delta, .slice x.sa x.sn x.sc, .slice x.ka x.kn x.kc, .int .i64 a.step, .slice x.ha x.hn x.hc, .int .i64 a.status, .int .i64 a.out] 31)) 31 #[.int .i64 b.P, .int .i64 b.party, .int .i64 b.input, .int .i64 b.mask, .int .i64 b.delta, .slice y.sa y.sn y.sc, .slice y.ka y.kn y.kc, .int .i64 b.step, .slice y.ha y.hn y.hc, .int .i64 b.status, .int .i64 b.out])
  have S_w1' : w.heap.size + 2 ≤ ((w.alloc (.cells #[.int .i64 a.P, .int .i64 a.party, .int .i64 a.input, .int .i64 a.mask, .int .i64 a.delta, .slice x.sa x.sn x.sc, .slice x.ka x.kn x.kc, .int .i64 a.step, .slice x.ha x.hn x.hc, .int .i64 a.status, .int .i64 a.out] 31)).alloc (.cells #[.int .i64 b.P, .int .i64 b.party, .int .i64 b.input, .int .i64 b.mask, .int .i64 b.delta, .slice y.sa y.sn y.sc, .slice y.ka y.kn y.kc, .int .i64 b.step, .slice y.ha y.hn y.hc, .int .i64 b.status, .int .i64 b.out] 31)).heap.size := by first | (simp; done) | (simp; omega) | (simp [World.setCell]; done) | (simp [World.setCell]; omega)
  generalize ((w.alloc (.cells #[.int .i64 a.P, .int .i64 a.party, .int .i64 a.input, .int .i64 a.mask, .int .i64 a.delta, .slice x.sa x.sn x.sc, .slice x.ka x.kn x.kc, .int .i64 a.step, .slice x.ha x.hn x.hc, .int .i64 a.status, .int .i64 a.out] 31)).alloc (.cells #[.int .i64 b.P, .int .i64 b.party, .int .i64 b.input, .int .i64 b.mask, .int .i64 b.delta, .slice y.sa y.sn y.sc, .slice y.ka y.kn y.kc, .int .i64 b.step, .slice y.ha y.hn y.hc, .int .i64 b.status, .int .i64 b.out] 31)) = w1' at *
  clear V_w1'_1
  have V_w1' : Below w.heap.size w w1' := V_w1'_2
  clear V_w1'_2
  refine (CA.out _ h (LX.out.below V_w1')).mono ?_
  rintro e w2' ⟨rfl, u_w2'⟩
  replace B_a := B_a.below u_w2'
  replace B_b := B_b.below u_w2'
  replace h := h.below u_w2'
  replace k := k.below u_w2'
  have S_w2' := u_w2'.size
  have V_w2' : Below w.heap.size w w2' := V_w1'.trans (u_w2'.mono V_w1'.size)
  clear V_w1'
  clear u_w2'
  cases b0
  · go_wp2
    go_ret
    exact ⟨rfl, V_w2'⟩
  have e_a_0 : w2'.cell? ⟨w.heap.size, 0, none⟩ = some (.int .i64 a.P) := B_a.cell 0
  have e_a_1 : w2'.cell? ⟨w.heap.size, 1, none⟩ = some (.int .i64 a.party) := B_a.cell 1
  have e_a_2 : w2'.cell? ⟨w.heap.size, 2, none⟩ = some (.int .i64 a.input) := B_a.cell 2
  have e_a_3 : w2'.cell? ⟨w.heap.size, 3, none⟩ = some (.int .i64 a.mask) := B_a.cell 3
  have e_a_4 : w2'.cell? ⟨w.heap.size, 4, none⟩ = some (.int .i64 a.delta) := B_a.cell 4
  have e_a_5 : w2'.cell? ⟨w.heap.size, 5, none⟩ = some (.slice x.sa x.sn x.sc) := B_a.cell 5
  have e_a_6 : w2'.cell? ⟨w.heap.size, 6, none⟩ = some (.slice x.ka x.kn x.kc) := B_a.cell 6
  have e_a_7 : w2'.cell? ⟨w.heap.size, 7, none⟩ = some (.int .i64 a.step) := B_a.cell 7
  have e_a_8 : w2'.cell? ⟨w.heap.size, 8, none⟩ = some (.slice x.ha x.hn x.hc) := B_a.cell 8
  have e_a_9 : w2'.cell? ⟨w.heap.size, 9, none⟩ = some (.int .i64 a.status) := B_a.cell 9
  have e_a_10 : w2'.cell? ⟨w.heap.size, 10, none⟩ = some (.int .i64 a.out) := B_a.cell 10
  have e_b_0 : w2'.cell? ⟨w.heap.size + 1, 0, none⟩ = some (.int .i64 b.P) := B_b.cell 0
  have e_b_1 : w2'.cell? ⟨w.heap.size + 1, 1, none⟩ = some (.int .i64 b.party) := B_b.cell 1
  have e_b_2 : w2'.cell? ⟨w.heap.size + 1, 2, none⟩ = some (.int .i64 b.input) := B_b.cell 2
  have e_b_3 : w2'.cell? ⟨w.heap.size + 1, 3, none⟩ = some (.int .i64 b.mask) := B_b.cell 3
  have e_b_4 : w2'.cell? ⟨w.heap.size + 1, 4, none⟩ = some (.int .i64 b.delta) := B_b.cell 4
  have e_b_5 : w2'.cell? ⟨w.heap.size + 1, 5, none⟩ = some (.slice y.sa y.sn y.sc) := B_b.cell 5
  have e_b_6 : w2'.cell? ⟨w.heap.size + 1, 6, none⟩ = some (.slice y.ka y.kn y.kc) := B_b.cell 6
  have e_b_7 : w2'.cell? ⟨w.heap.size + 1, 7, none⟩ = some (.int .i64 b.step) := B_b.cell 7
  have e_b_8 : w2'.cell? ⟨w.heap.size + 1, 8, none⟩ = some (.slice y.ha y.hn y.hc) := B_b.cell 8
  have e_b_9 : w2'.cell? ⟨w.heap.size + 1, 9, none⟩ = some (.int .i64 b.status) := B_b.cell 9
  have e_b_10 : w2'.cell? ⟨w.heap.size + 1, 10, none⟩ = some (.int .i64 b.out) := B_b.cell 10
  go_wp2_with fail
  clear e_a_0 e_a_1 e_a_2 e_a_3 e_a_4 e_a_5 e_a_6 e_a_7 e_a_8 e_a_9 e_a_10 e_b_0 e_b_1 e_b_2 e_b_3 e_b_4 e_b_5 e_b_6 e_b_7 e_b_8 e_b_9 e_b_10
  refine (CB.out _ k (LX.out.below V_w2')).mono ?_
  rintro e w3' ⟨rfl, u_w3'⟩
  replace B_a := B_a.below u_w3'
  replace B_b := B_b.below u_w3'
  replace h := h.below u_w3'
  replace k := k.below u_w3'
  have S_w3' := u_w3'.size
  have V_w3' : Below w.heap.size w w3' := V_w2'.trans (u_w3'.mono V_w2'.size)
  clear V_w2'
  clear u_w3'
  cases b1
  · go_wp2
    go_ret
    exact ⟨rfl, V_w3'⟩
  have e_a_0 : w3'.cell? ⟨w.heap.size, 0, none⟩ = some (.int .i64 a.P) := B_a.cell 0
  have e_a_1 : w3'.cell? ⟨w.heap.size, 1, none⟩ = some (.int .i64 a.party) := B_a.cell 1
  have e_a_2 : w3'.cell? ⟨w.heap.size, 2, none⟩ = some (.int .i64 a.input) := B_a.cell 2
  have e_a_3 : w3'.cell? ⟨w.heap.size, 3, none⟩ = some (.int .i64 a.mask) := B_a.cell 3
  have e_a_4 : w3'.cell? ⟨w.heap.size, 4, none⟩ = some (.int .i64 a.delta) := B_a.cell 4
  have e_a_5 : w3'.cell? ⟨w.heap.size, 5, none⟩ = some (.slice x.sa x.sn x.sc) := B_a.cell 5
  have e_a_6 : w3'.cell? ⟨w.heap.size, 6, none⟩ = some (.slice x.ka x.kn x.kc) := B_a.cell 6
  have e_a_7 : w3'.cell? ⟨w.heap.size, 7, none⟩ = some (.int .i64 a.step) := B_a.cell 7
  have e_a_8 : w3'.cell? ⟨w.heap.size, 8, none⟩ = some (.slice x.ha x.hn x.hc) := B_a.cell 8
  have e_a_9 : w3'.cell? ⟨w.heap.size, 9, none⟩ = some (.int .i64 a.status) := B_a.cell 9
  have e_a_10 : w3'.cell? ⟨w.heap.size, 10, none⟩ = some (.int .i64 a.out) := B_a.cell 10
  have e_b_0 : w3'.cell? ⟨w.heap.size + 1, 0, none⟩ = some (.int .i64 b.P) := B_b.cell 0
  have e_b_1 : w3'.cell? ⟨w.heap.size + 1, 1, none⟩ = some (.int .i64 b.party) := B_b.cell 1
  have e_b_2 : w3'.cell? ⟨w.heap.size + 1, 2, none⟩ = some (.int .i64 b.input) := B_b.cell 2
  have e_b_3 : w3'.cell? ⟨w.heap.size + 1, 3, none⟩ = some (.int .i64 b.mask) := B_b.cell 3
  have e_b_4 : w3'.cell? ⟨w.heap.size + 1, 4, none⟩ = some (.int .i64 b.delta) := B_b.cell 4
  have e_b_5 : w3'.cell? ⟨w.heap.size + 1, 5, none⟩ = some (.slice y.sa y.sn y.sc) := B_b.cell 5
  have e_b_6 : w3'.cell? ⟨w.heap.size + 1, 6, none⟩ = some (.slice y.ka y.kn y.kc) := B_b.cell 6
  have e_b_7 : w3'.cell? ⟨w.heap.size + 1, 7, none⟩ = some (.int .i64 b.step) := B_b.cell 7
  have e_b_8 : w3'.cell? ⟨w.heap.size + 1, 8, none⟩ = some (.slice y.ha y.hn y.hc) := B_b.cell 8
  have e_b_9 : w3'.cell? ⟨w.heap.size + 1, 9, none⟩ = some (.int .i64 b.status) := B_b.cell 9
  have e_b_10 : w3'.cell? ⟨w.heap.size + 1, 10, none⟩ = some (.int .i64 b.out) := B_b.cell 10
  cases b2
  · have d2 : ((a.P == b.P) : Bool) = false := by simpa using hb2.out
    go_wp2
    go_ret
    exact ⟨rfl, V_w3'⟩
  have d2 : ((a.P == b.P) : Bool) = true := by simpa using hb2.out
  cases b3
  · have d3 : ((a.party == 0) : Bool) = false := by simpa using hb3.out
    go_wp2
    go_ret
    exact ⟨rfl, V_w3'⟩
  have d3 : ((a.party == 0) : Bool) = true := by simpa using hb3.out
  cases b4
  · have d4 : ((b.party == 1) : Bool) = false := by simpa using hb4.out
    go_wp2
    go_ret
    exact ⟨rfl, V_w3'⟩
  have d4 : ((b.party == 1) : Bool) = true := by simpa using hb4.out
  cases b5
  · have d5 : ((a.step == 0) : Bool) = false := by simpa using hb5.out
    go_wp2
    go_ret
    exact ⟨rfl, V_w3'⟩
  have d5 : ((a.step == 0) : Bool) = true := by simpa using hb5.out
  cases b6
  · have d6 : ((b.step == 0) : Bool) = false := by simpa using hb6.out
    go_wp2
    go_ret
    exact ⟨rfl, V_w3'⟩
  have d6 : ((b.step == 0) : Bool) = true := by simpa using hb6.out
  cases b7
  · have d7 : ((a.status == 0) : Bool) = false := by simpa using hb7.out
    go_wp2
    go_ret
    exact ⟨rfl, V_w3'⟩
  have d7 : ((a.status == 0) : Bool) = true := by simpa using hb7.out
  cases b8
  · have d8 : ((b.status == 0) : Bool) = false := by simpa using hb8.out
    go_wp2
    go_ret
    exact ⟨rfl, V_w3'⟩
  have d8 : ((b.status == 0) : Bool) = true := by simpa using hb8.out
  go_wp2
  go_ret
  exact ⟨rfl, V_w3'⟩
set_option maxHeartbeats 8000000 in
set_option maxRecDepth 100000 in
theorem ptBoth_any (a : Pl) (x : PlX) (b : Pl) (y : PlX) (w : World) (h : PlR w x a.shares a.keys a.heard) (k : PlR w y b.shares b.keys b.heard) (_hT : Tbl w) :
    Calls Tryd.prog 67 #[.agg #[.int .i64 a.P, .int .i64 a.party, .int .i64 a.input, .int .i64 a.mask, .int .i64 a.delta, .slice x.sa x.sn x.sc, .slice x.ka x.kn x.kc, .int .i64 a.step, .slice x.ha x.hn x.hc, .int .i64 a.status, .int .i64 a.out], .agg #[.int .i64 b.P, .int .i64 b.party, .int .i64 b.input, .int .i64 b.mask, .int .i64 b.delta, .slice y.sa y.sn y.sc, .slice y.ka y.kn y.kc, .int .i64 b.step, .slice y.ha y.hn y.hc, .int .i64 b.status, .int .i64 b.out]] w fun e w' => e = .returned (.bool (twoB a b)) ∧ Below w.heap.size w w' := by
  have CA := fun (W : World) (h2 : PlR W x a.shares a.keys a.heard) => ptGood_any a x W h2
  have CB := fun (W : World) (k2 : PlR W y b.shares b.keys b.heard) => ptGood_any b y W k2
  have FA := fun (H : plB a = true) => (plB_parts H).2.2.2.2.2.2.2.2.2.2.2
  have FB := fun (H : plB b = true) => (plB_parts H).2.2.2.2.2.2.2.2.2.2.2
  unfold twoB
  generalize plB a = b0 at *
  generalize plB b = b1 at *
  generalize hb2 : decide (a.P = b.P) = b2
  replace hb2 := Lib.hid hb2
  generalize hb3 : decide (a.party = 0) = b3
  replace hb3 := Lib.hid hb3
  generalize hb4 : decide (b.party = 1) = b4
  replace hb4 := Lib.hid hb4
  generalize hb5 : decide (a.step = 0) = b5
  replace hb5 := Lib.hid hb5
  generalize hb6 : decide (b.step = 0) = b6
  replace hb6 := Lib.hid hb6
  generalize hb7 : decide (a.status = 0) = b7
  replace hb7 := Lib.hid hb7
  generalize hb8 : decide (b.status = 0) = b8
  replace hb8 := Lib.hid hb8
  replace FA := Lib.hid FA
  replace FB := Lib.hid FB
  replace CA := Lib.hid CA
  replace CB := Lib.hid CB


  go_enter Tryd.func67, Tryd.ntmps67
  go_wp2_with fail
  have V_w4'_1 : Below w.heap.size w (w.alloc (.cells #[.int .i64 a.P, .int .i64 a.party, .int .i64 a.input, .int .i64 a.mask, .int .i64 a.delta, .slice x.sa x.sn x.sc, .slice x.ka x.kn x.kc, .int .i64 a.step, .slice x.ha x.hn x.hc, .int .i64 a.status, .int .i64 a.out] 31)) := ((Below.refl w.heap.size w)).alloc (by have := ((Below.refl w.heap.size w)).size; first | exact this | (simp at *; omega)) _
  replace h := h.alloc (.cells #[.int .i64 a.P, .int .i64 a.party, .int .i64 a.input, .int .i64 a.mask, .int .i64 a.delta, .slice x.sa x.sn x.sc, .slice x.ka x.kn x.kc, .int .i64 a.step, .slice x.ha x.hn x.hc, .int .i64 a.status, .int .i64 a.out] 31)
  replace k := k.alloc (.cells #[.int .i64 a.P, .int .i64 a.party, .int .i64 a.input, .int .i64 a.mask, .int .i64 a.delta, .slice x.sa x.sn x.sc, .slice x.ka x.kn x.kc, .int .i64 a.step, .slice x.ha x.hn x.hc, .int .i64 a.status, .int .i64 a.out] 31)
  have B_a : Blk (w.alloc (.cells #[.int .i64 a.P, .int .i64 a.party, .int .i64 a.input, .int .i64 a.mask, .int .i64 a.delta, .slice x.sa x.sn x.sc, .slice x.ka x.kn x.kc, .int .i64 a.step, .slice x.ha x.hn x.hc, .int .i64 a.status, .int .i64 a.out] 31)) (w.heap.size) 31 #[.int .i64 a.P, .int .i64 a.party, .int .i64 a.input, .int .i64 a.mask, .int .i64 a.delta, .slice x.sa x.sn x.sc, .slice x.ka x.kn x.kc, .int .i64 a.step, .slice x.ha x.hn x.hc, .int .i64 a.status, .int .i64 a.out] := by exact Blk.new w 31 #[.int .i64 a.P, .int .i64 a.party, .int .i64 a.input, .int .i64 a.mask, .int .i64 a.delta, .slice x.sa x.sn x.sc, .slice x.ka x.kn x.kc, .int .i64 a.step, .slice x.ha x.hn x.hc, .int .i64 a.status, .int .i64 a.out]
  have V_w4'_2 : Below w.heap.size w ((w.alloc (.cells #[.int .i64 a.P, .int .i64 a.party, .int .i64 a.input, .int .i64 a.mask, .int .i64 a.delta, .slice x.sa x.sn x.sc, .slice x.ka x.kn x.kc, .int .i64 a.step, .slice x.ha x.hn x.hc, .int .i64 a.status, .int .i64 a.out] 31)).alloc (.cells #[.int .i64 b.P, .int .i64 b.party, .int .i64 b.input, .int .i64 b.mask, .int .i64 b.delta, .slice y.sa y.sn y.sc, .slice y.ka y.kn y.kc, .int .i64 b.step, .slice y.ha y.hn y.hc, .int .i64 b.status, .int .i64 b.out] 31)) := (V_w4'_1).alloc (by have := (V_w4'_1).size; first | exact this | (simp at *; omega)) _
  replace B_a := B_a.alloc (.cells #[.int .i64 b.P, .int .i64 b.party, .int .i64 b.input, .int .i64 b.mask, .int .i64 b.delta, .slice y.sa y.sn y.sc, .slice y.ka y.kn y.kc, .int .i64 b.step, .slice y.ha y.hn y.hc, .int .i64 b.status, .int .i64 b.out] 31)
  replace h := h.alloc (.cells #[.int .i64 b.P, .int .i64 b.party, .int .i64 b.input, .int .i64 b.mask, .int .i64 b.delta, .slice y.sa y.sn y.sc, .slice y.ka y.kn y.kc, .int .i64 b.step, .slice y.ha y.hn y.hc, .int .i64 b.status, .int .i64 b.out] 31)
  replace k := k.alloc (.cells #[.int .i64 b.P, .int .i64 b.party, .int .i64 b.input, .int .i64 b.mask, .int .i64 b.delta, .slice y.sa y.sn y.sc, .slice y.ka y.kn y.kc, .int .i64 b.step, .slice y.ha y.hn y.hc, .int .i64 b.status, .int .i64 b.out] 31)
  have B_b : Blk ((w.alloc (.cells #[.int .i64 a.P, .int .i64 a.party, .int .i64 a.input, .int .i64 a.mask, .int .i64 a.delta, .slice x.sa x.sn x.sc, .slice x.ka x.kn x.kc, .int .i64 a.step, .slice x.ha x.hn x.hc, .int .i64 a.status, .int .i64 a.out] 31)).alloc (.cells #[.int .i64 b.P, .int .i64 b.party, .int .i64 b.input, .int .i64 b.mask, .int .i64 b.delta, .slice y.sa y.sn y.sc, .slice y.ka y.kn y.kc, .int .i64 b.step, .slice y.ha y.hn y.hc, .int .i64 b.status, .int .i64 b.out] 31)) (w.heap.size + 1) 31 #[.int .i64 b.P, .int .i64 b.party, .int .i64 b.input, .int .i64 b.mask, .int .i64 b.delta, .slice y.sa y.sn y.sc, .slice y.ka y.kn y.kc, .int .i64 b.step, .slice y.ha y.hn y.hc, .int .i64 b.status, .int .i64 b.out] := by simpa [World.setCell] using (Blk.new (w.alloc (.cells #[.int .i64 a.P, .int .i64 a.party, .int .i64 a.input, .int .i64 a.mask, .int .i64 a.delta, .slice x.sa x.sn x.sc, .slice x.ka x.kn x.kc, .int .i64 a.step, .slice x.ha x.hn x.hc, .int .i64 a.status, .int .i64 a.out] 31)) 31 #[.int .i64 b.P, .int .i64 b.party, .int .i64 b.input, .int .i64 b.mask, .int .i64 b.delta, .slice y.sa y.sn y.sc, .slice y.ka y.kn y.kc, .int .i64 b.step, .slice y.ha y.hn y.hc, .int .i64 b.status, .int .i64 b.out])
  have S_w4' : w.heap.size + 2 ≤ ((w.alloc (.cells #[.int .i64 a.P, .int .i64 a.party, .int .i64 a.input, .int .i64 a.mask, .int .i64 a.delta, .slice x.sa x.sn x.sc, .slice x.ka x.kn x.kc, .int .i64 a.step, .slice x.ha x.hn x.hc, .int .i64 a.status, .int .i64 a.out] 31)).alloc (.cells #[.int .i64 b.P, .int .i64 b.party, .int .i64 b.input, .int .i64 b.mask, .int .i64 b.delta, .slice y.sa y.sn y.sc, .slice y.ka y.kn y.kc, .int .i64 b.step, .slice y.ha y.hn y.hc, .int .i64 b.status, .int .i64 b.out] 31)).heap.size := by first | (simp; done) | (simp; omega) | (simp [World.setCell]; done) | (simp [World.setCell]; omega)
  generalize ((w.alloc (.cells #[.int .i64 a.P, .int .i64 a.party, .int .i64 a.input, .int .i64 a.mask, .int .i64 a.delta, .slice x.sa x.sn x.sc, .slice x.ka x.kn x.kc, .int .i64 a.step, .slice x.ha x.hn x.hc, .int .i64 a.status, .int .i64 a.out] 31)).alloc (.cells #[.int .i64 b.P, .int .i64 b.party, .int .i64 b.input, .int .i64 b.mask, .int .i64 b.delta, .slice y.sa y.sn y.sc, .slice y.ka y.kn y.kc, .int .i64 b.step, .slice y.ha y.hn y.hc, .int .i64 b.status, .int .i64 b.out] 31)) = w4' at *
  clear V_w4'_1
  have V_w4' : Below w.heap.size w w4' := V_w4'_2
  clear V_w4'_2
  refine (CA.out _ h).mono ?_
  rintro e w5' ⟨rfl, u_w5'⟩
  replace B_a := B_a.below u_w5'
  replace B_b := B_b.below u_w5'
  replace h := h.below u_w5'
  replace k := k.below u_w5'
  have S_w5' := u_w5'.size
  have V_w5' : Below w.heap.size w w5' := V_w4'.trans (u_w5'.mono V_w4'.size)
  clear V_w4'
  clear u_w5'
  cases b0
  · go_wp2
    go_ret
    exact ⟨rfl, V_w5'⟩
  have e_a_0 : w5'.cell? ⟨w.heap.size, 0, none⟩ = some (.int .i64 a.P) := B_a.cell 0
  have e_a_1 : w5'.cell? ⟨w.heap.size, 1, none⟩ = some (.int .i64 a.party) := B_a.cell 1
  have e_a_2 : w5'.cell? ⟨w.heap.size, 2, none⟩ = some (.int .i64 a.input) := B_a.cell 2
  have e_a_3 : w5'.cell? ⟨w.heap.size, 3, none⟩ = some (.int .i64 a.mask) := B_a.cell 3
  have e_a_4 : w5'.cell? ⟨w.heap.size, 4, none⟩ = some (.int .i64 a.delta) := B_a.cell 4
  have e_a_5 : w5'.cell? ⟨w.heap.size, 5, none⟩ = some (.slice x.sa x.sn x.sc) := B_a.cell 5
  have e_a_6 : w5'.cell? ⟨w.heap.size, 6, none⟩ = some (.slice x.ka x.kn x.kc) := B_a.cell 6
  have e_a_7 : w5'.cell? ⟨w.heap.size, 7, none⟩ = some (.int .i64 a.step) := B_a.cell 7
  have e_a_8 : w5'.cell? ⟨w.heap.size, 8, none⟩ = some (.slice x.ha x.hn x.hc) := B_a.cell 8
  have e_a_9 : w5'.cell? ⟨w.heap.size, 9, none⟩ = some (.int .i64 a.status) := B_a.cell 9
  have e_a_10 : w5'.cell? ⟨w.heap.size, 10, none⟩ = some (.int .i64 a.out) := B_a.cell 10
  have e_b_0 : w5'.cell? ⟨w.heap.size + 1, 0, none⟩ = some (.int .i64 b.P) := B_b.cell 0
  have e_b_1 : w5'.cell? ⟨w.heap.size + 1, 1, none⟩ = some (.int .i64 b.party) := B_b.cell 1
  have e_b_2 : w5'.cell? ⟨w.heap.size + 1, 2, none⟩ = some (.int .i64 b.input) := B_b.cell 2
  have e_b_3 : w5'.cell? ⟨w.heap.size + 1, 3, none⟩ = some (.int .i64 b.mask) := B_b.cell 3
  have e_b_4 : w5'.cell? ⟨w.heap.size + 1, 4, none⟩ = some (.int .i64 b.delta) := B_b.cell 4
  have e_b_5 : w5'.cell? ⟨w.heap.size + 1, 5, none⟩ = some (.slice y.sa y.sn y.sc) := B_b.cell 5
  have e_b_6 : w5'.cell? ⟨w.heap.size + 1, 6, none⟩ = some (.slice y.ka y.kn y.kc) := B_b.cell 6
  have e_b_7 : w5'.cell? ⟨w.heap.size + 1, 7, none⟩ = some (.int .i64 b.step) := B_b.cell 7
  have e_b_8 : w5'.cell? ⟨w.heap.size + 1, 8, none⟩ = some (.slice y.ha y.hn y.hc) := B_b.cell 8
  have e_b_9 : w5'.cell? ⟨w.heap.size + 1, 9, none⟩ = some (.int .i64 b.status) := B_b.cell 9
  have e_b_10 : w5'.cell? ⟨w.heap.size + 1, 10, none⟩ = some (.int .i64 b.out) := B_b.cell 10
  go_wp2_with fail
  clear e_a_0 e_a_1 e_a_2 e_a_3 e_a_4 e_a_5 e_a_6 e_a_7 e_a_8 e_a_9 e_a_10 e_b_0 e_b_1 e_b_2 e_b_3 e_b_4 e_b_5 e_b_6 e_b_7 e_b_8 e_b_9 e_b_10
  refine (CB.out _ k).mono ?_
  rintro e w6' ⟨rfl, u_w6'⟩
  replace B_a := B_a.below u_w6'
  replace B_b := B_b.below u_w6'
  replace h := h.below u_w6'
  replace k := k.below u_w6'
  have S_w6' := u_w6'.size
  have V_w6' : Below w.heap.size w w6' := V_w5'.trans (u_w6'.mono V_w5'.size)
  clear V_w5'
  clear u_w6'
  cases b1
  · go_wp2
    go_ret
    exact ⟨rfl, V_w6'⟩
  have e_a_0 : w6'.cell? ⟨w.heap.size, 0, none⟩ = some (.int .i64 a.P) := B_a.cell 0
  have e_a_1 : w6'.cell? ⟨w.heap.size, 1, none⟩ = some (.int .i64 a.party) := B_a.cell 1
  have e_a_2 : w6'.cell? ⟨w.heap.size, 2, none⟩ = some (.int .i64 a.input) := B_a.cell 2
  have e_a_3 : w6'.cell? ⟨w.heap.size, 3, none⟩ = some (.int .i64 a.mask) := B_a.cell 3
  have e_a_4 : w6'.cell? ⟨w.heap.size, 4, none⟩ = some (.int .i64 a.delta) := B_a.cell 4
  have e_a_5 : w6'.cell? ⟨w.heap.size, 5, none⟩ = some (.slice x.sa x.sn x.sc) := B_a.cell 5
  have e_a_6 : w6'.cell? ⟨w.heap.size, 6, none⟩ = some (.slice x.ka x.kn x.kc) := B_a.cell 6
  have e_a_7 : w6'.cell? ⟨w.heap.size, 7, none⟩ = some (.int .i64 a.step) := B_a.cell 7
  have e_a_8 : w6'.cell? ⟨w.heap.size, 8, none⟩ = some (.slice x.ha x.hn x.hc) := B_a.cell 8
  have e_a_9 : w6'.cell? ⟨w.heap.size, 9, none⟩ = some (.int .i64 a.status) := B_a.cell 9
  have e_a_10 : w6'.cell? ⟨w.heap.size, 10, none⟩ = some (.int .i64 a.out) := B_a.cell 10
  have e_b_0 : w6'.cell? ⟨w.heap.size + 1, 0, none⟩ = some (.int .i64 b.P) := B_b.cell 0
  have e_b_1 : w6'.cell? ⟨w.heap.size + 1, 1, none⟩ = some (.int .i64 b.party) := B_b.cell 1
  have e_b_2 : w6'.cell? ⟨w.heap.size + 1, 2, none⟩ = some (.int .i64 b.input) := B_b.cell 2
  have e_b_3 : w6'.cell? ⟨w.heap.size + 1, 3, none⟩ = some (.int .i64 b.mask) := B_b.cell 3
  have e_b_4 : w6'.cell? ⟨w.heap.size + 1, 4, none⟩ = some (.int .i64 b.delta) := B_b.cell 4
  have e_b_5 : w6'.cell? ⟨w.heap.size + 1, 5, none⟩ = some (.slice y.sa y.sn y.sc) := B_b.cell 5
  have e_b_6 : w6'.cell? ⟨w.heap.size + 1, 6, none⟩ = some (.slice y.ka y.kn y.kc) := B_b.cell 6
  have e_b_7 : w6'.cell? ⟨w.heap.size + 1, 7, none⟩ = some (.int .i64 b.step) := B_b.cell 7
  have e_b_8 : w6'.cell? ⟨w.heap.size + 1, 8, none⟩ = some (.slice y.ha y.hn y.hc) := B_b.cell 8
  have e_b_9 : w6'.cell? ⟨w.heap.size + 1, 9, none⟩ = some (.int .i64 b.status) := B_b.cell 9
  have e_b_10 : w6'.cell? ⟨w.heap.size + 1, 10, none⟩ = some (.int .i64 b.out) := B_b.cell 10
  cases b2
  · have d2 : ((a.P == b.P) : Bool) = false := by simpa using hb2.out
    go_wp2
    go_ret
    exact ⟨rfl, V_w6'⟩
  have d2 : ((a.P == b.P) : Bool) = true := by simpa using hb2.out
  cases b3
  · have d3 : ((a.party == 0) : Bool) = false := by simpa using hb3.out
    go_wp2
    go_ret
    exact ⟨rfl, V_w6'⟩
  have d3 : ((a.party == 0) : Bool) = true := by simpa using hb3.out
  cases b4
  · have d4 : ((b.party == 1) : Bool) = false := by simpa using hb4.out
    go_wp2
    go_ret
    exact ⟨rfl, V_w6'⟩
  have d4 : ((b.party == 1) : Bool) = true := by simpa using hb4.out
  obtain ⟨s1, _, _, s2⟩ := FA.out (by first | rfl | trivial)
  obtain ⟨s3, _, _, s4⟩ := FB.out (by first | rfl | trivial)
  have q5 := hb5.out
  have q6 := hb6.out
  have q7 := hb7.out
  have q8 := hb8.out
  by_cases z : a.step + b.step + a.status + b.status = 0
  · have z0 : ((a.step + b.step + a.status + b.status == 0) : Bool) = true := by simpa using z
    have HR : Hid ((b5 && (b6 && (b7 && b8))) = true) := Lib.hid (by
      rw [← q5, ← q6, ← q7, ← q8]
      rw [decide_eq_true (by omega : a.step = 0), decide_eq_true (by omega : b.step = 0), decide_eq_true (by omega : a.status = 0), decide_eq_true (by omega : b.status = 0)]; rfl)
    clear q5 q6 q7 q8 z hb5 hb6 hb7 hb8 FA FB
    go_wp2
    go_ret
    exact ⟨ret_bool HR.out.symm, V_w6'⟩
  · have z0 : ((a.step + b.step + a.status + b.status == 0) : Bool) = false := by simpa using z
    have HR : Hid ((b5 && (b6 && (b7 && b8))) = false) := Lib.hid (by
      rw [← q5, ← q6, ← q7, ← q8]
      by_cases z1 : a.step = 0
      · by_cases z2 : b.step = 0
        · by_cases z3 : a.status = 0
          · rw [decide_eq_false (by omega : ¬ b.status = 0)]; simp
          · rw [decide_eq_false z3]; simp
        · rw [decide_eq_false z2]; simp
      · rw [decide_eq_false z1]; simp)
    clear q5 q6 q7 q8 z hb5 hb6 hb7 hb8 FA FB
    go_wp2
    go_ret
    exact ⟨ret_bool HR.out.symm, V_w6'⟩
end Go.Proofs.YtlmdckcohoddnaaDoor
