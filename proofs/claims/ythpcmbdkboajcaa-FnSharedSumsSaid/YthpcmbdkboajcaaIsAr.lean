/- Arithmetic circuits: valid gates, valid circuits. -/
import Derived.Test.YthpcmbdkboajcaaFindB
import Derived.Test.YthpcmbdkboajcaaArk
namespace Go.Proofs.Ythpcmbdkboajcaa
open Go.RowKit

def gateB (p kd a b own : Int) : Bool :=
  if kd = 0 ∨ kd = 1 then inB a 0 (own - 1) && inB b 0 (own - 1) else if kd = 2 then inB a 0 (own - 1) && inB b 0 (p - 1) else if kd = 3 then inB a 0 (p - 1) && (b == 0) else false
def gateAt (p own : Int) (G : List Int) (k : Nat) : Bool := gateB p (G.getD (k * 3) 0) (G.getD (k * 3 + 1) 0) (G.getD (k * 3 + 2) 0) (own + k)
def gatesB (p own : Int) (G : List Int) (n : Nat) : Bool := (List.range n).all (gateAt p own G)
theorem gatesB_no {p own : Int} {G : List Int} {n k : Nat} (hk : k < n) (h : gateAt p own G k = false) : gatesB p own G n = false := by
  rw [Bool.eq_false_iff]
  intro H
  have := List.all_eq_true.1 H k (List.mem_range.2 hk)
  rw [h] at this
  cases this
theorem gatesB_yes {p own : Int} {G : List Int} {n : Nat} (h : ∀ k, k < n → gateAt p own G k = true) : gatesB p own G n = true :=
  List.all_eq_true.2 fun k hk => h k (List.mem_range.1 hk)
/-- The circuit (P, i0, i1, gates G, outs O) is valid. -/
def arB (P i0 i1 : Int) (gn : Nat) (G O : List Int) : Bool :=
  isPr P && inB i0 0 8 && inB i1 0 8 && decide (gn ≤ 100) && decide (O.length ≤ 20) && gatesB P (i0 + i1) G gn && allB O 0 (i0 + i1 + gn - 1)
set_option maxHeartbeats 2000000 in
theorem arithGateOk_any (p kd a b own : Int) (w : World) (hp : 1 ≤ p) (hp2 : p ≤ 1000) (ho : 0 ≤ own) (ho2 : own ≤ 1000) :
    Calls Try.prog 95 #[.int .i64 p, .agg #[.int .i64 kd, .int .i64 a, .int .i64 b], .int .i64 own] w fun e w' => e = .returned (.bool (gateB p kd a b own)) ∧ Below w.heap.size w w' := by
  have V0 : Below w.heap.size w (w.alloc (.cells #[.int .i64 kd, .int .i64 a, .int .i64 b] 78)) := (Below.refl _ _).alloc (Nat.le_refl _) _
  unfold gateB
  by_cases k0 : kd = 0
  · subst k0
    rw [if_pos (by simp)]
    cases h1 : inB a 0 (own - 1)
    all_goals
      go_enter Try.func95, Try.ntmps95
      go_wp2_with (first | (go_at_call 54; refine (within_any _ _ _ _).mono ?_; rintro e w' ⟨rfl, rfl⟩))
      go_ret
      exact ⟨by simp, V0⟩
  by_cases k1 : kd = 1
  · subst k1
    rw [if_pos (by simp)]
    cases h1 : inB a 0 (own - 1)
    all_goals
      go_enter Try.func95, Try.ntmps95
      go_wp2_with (first | (go_at_call 54; refine (within_any _ _ _ _).mono ?_; rintro e w' ⟨rfl, rfl⟩))
      go_ret
      exact ⟨by simp, V0⟩
  rw [if_neg (by simp [k0, k1])]
  by_cases k2 : kd = 2
  · subst k2
    rw [if_pos rfl]
    clear k0 k1
    cases h1 : inB a 0 (own - 1)
    all_goals
      go_enter Try.func95, Try.ntmps95
      go_wp2_with (first | (go_at_call 54; refine (within_any _ _ _ _).mono ?_; rintro e w' ⟨rfl, rfl⟩))
      go_ret
      exact ⟨by simp, V0⟩
  rw [if_neg k2]
  by_cases k3 : kd = 3
  · subst k3
    rw [if_pos rfl]
    clear k0 k1 k2
    cases h1 : inB a 0 (p - 1)
    all_goals
      go_enter Try.func95, Try.ntmps95
      go_wp2_with (first | (go_at_call 54; refine (within_any _ _ _ _).mono ?_; rintro e w' ⟨rfl, rfl⟩))
      go_ret
      exact ⟨by simp, V0⟩
  rw [if_neg k3]
  have f0 : ((kd == 0) : Bool) = false := by simp [k0]
  have f1 : ((kd == 1) : Bool) = false := by simp [k1]
  have f2 : ((kd == 2) : Bool) = false := by simp [k2]
  have f3 : ((kd == 3) : Bool) = false := by simp [k3]
  clear k0 k1 k2 k3
  go_enter Try.func95, Try.ntmps95
  go_wp2
  go_ret
  exact ⟨rfl, V0⟩
set_option maxHeartbeats 2000000 in
theorem arGate_any (p kd a b own : Int) (w : World) (hp : 1 ≤ p) (hp2 : p ≤ 1000) (ho : 0 ≤ own) (ho2 : own ≤ 1000) :
    Calls Try.prog 99 #[.int .i64 p, .agg #[.int .i64 kd, .int .i64 a, .int .i64 b], .int .i64 own] w fun e w' => e = .returned (.bool (gateB p kd a b own)) ∧ Below w.heap.size w w' := by
  have V0 : Below w.heap.size w (w.alloc (.cells #[.int .i64 kd, .int .i64 a, .int .i64 b] 78)) := (Below.refl _ _).alloc (Nat.le_refl _) _
  unfold gateB
  by_cases k0 : kd = 0
  · subst k0
    rw [if_pos (by simp)]
    cases h1 : inB a 0 (own - 1)
    all_goals
      go_enter Try.func99, Try.ntmps99
      go_wp2_with (first | (go_at_call 57; refine (l1In_any _ _ _ _).mono ?_; rintro e w' ⟨rfl, rfl⟩))
      go_ret
      exact ⟨by simp, V0⟩
  by_cases k1 : kd = 1
  · subst k1
    rw [if_pos (by simp)]
    cases h1 : inB a 0 (own - 1)
    all_goals
      go_enter Try.func99, Try.ntmps99
      go_wp2_with (first | (go_at_call 57; refine (l1In_any _ _ _ _).mono ?_; rintro e w' ⟨rfl, rfl⟩))
      go_ret
      exact ⟨by simp, V0⟩
  rw [if_neg (by simp [k0, k1])]
  by_cases k2 : kd = 2
  · subst k2
    rw [if_pos rfl]
    clear k0 k1
    cases h1 : inB a 0 (own - 1)
    all_goals
      go_enter Try.func99, Try.ntmps99
      go_wp2_with (first | (go_at_call 57; refine (l1In_any _ _ _ _).mono ?_; rintro e w' ⟨rfl, rfl⟩))
      go_ret
      exact ⟨by simp, V0⟩
  rw [if_neg k2]
  by_cases k3 : kd = 3
  · subst k3
    rw [if_pos rfl]
    clear k0 k1 k2
    cases h1 : inB a 0 (p - 1)
    all_goals
      go_enter Try.func99, Try.ntmps99
      go_wp2_with (first | (go_at_call 57; refine (l1In_any _ _ _ _).mono ?_; rintro e w' ⟨rfl, rfl⟩))
      go_ret
      exact ⟨by simp, V0⟩
  rw [if_neg k3]
  have f0 : ((kd == 0) : Bool) = false := by simp [k0]
  have f1 : ((kd == 1) : Bool) = false := by simp [k1]
  have f2 : ((kd == 2) : Bool) = false := by simp [k2]
  have f3 : ((kd == 3) : Bool) = false := by simp [k3]
  clear k0 k1 k2 k3
  go_enter Try.func99, Try.ntmps99
  go_wp2
  go_ret
  exact ⟨rfl, V0⟩
theorem inputs_any (P i0 i1 : Int) (v3 v4 : Value) (w : World) (h0 : 0 ≤ i0 ∧ i0 ≤ 1000) (h1 : 0 ≤ i1 ∧ i1 ≤ 1000) (_c3 : v3.oneCell' = true) (_c4 : v4.oneCell' = true) :
    Calls Try.prog 66 #[.agg #[.int .i64 P, .int .i64 i0, .int .i64 i1, v3, v4]] w fun e w' => e = .returned (.int .i64 (i0 + i1)) ∧ Below w.heap.size w w' := by
  go_enter Try.func66, Try.ntmps66
  go_wp2
  go_ret
  exact ⟨rfl, (Below.refl _ _).alloc (Nat.le_refl _) _⟩
set_option maxHeartbeats 2000000 in
theorem IsArith_1_any (x P i0 i1 : Int) (ga : Option Addr) (gn gc : Nat) (oa : Option Addr) (on oc : Nat) (g : Nat) (w : World) (B : Blk w g 41 #[.int .i64 P, .int .i64 i0, .int .i64 i1, .slice ga gn gc, .slice oa on oc]) (h0 : 0 ≤ i0 ∧ i0 ≤ 8) (h1 : 0 ≤ i1 ∧ i1 ≤ 8) (hg : gn ≤ 100) :
    Calls Try.prog 97 #[.int .i64 x, .pointer (some ⟨g, 0, none⟩)] w fun e w' => e = .returned (.bool (decide (0 ≤ x ∧ x ≤ i0 + i1 + gn - 1))) ∧ Below w.heap.size w w' := by
  have e0 : w.cell? ⟨g, 0, none⟩ = some (.int .i64 P) := B.cell 0
  have e1 : w.cell? ⟨g, 1, none⟩ = some (.int .i64 i0) := B.cell 1
  have e2 : w.cell? ⟨g, 2, none⟩ = some (.int .i64 i1) := B.cell 2
  have e3 : w.cell? ⟨g, 3, none⟩ = some (.slice ga gn gc) := B.cell 3
  have e4 : w.cell? ⟨g, 4, none⟩ = some (.slice oa on oc) := B.cell 4
  have t1 : IntKind.i64.wrap (i0 + i1 + (gn : Int)) = i0 + i1 + gn := IntWalk.i64_in _ (by omega)
  have t2 : IntKind.i64.wrap (i0 + i1 + (gn : Int) - 1) = i0 + i1 + gn - 1 := IntWalk.i64_in _ (by omega)
  go_enter Try.func97, Try.ntmps97
  go_wp2
  go_region_held3 (fun W => W.cell? ⟨g, 0, none⟩ = some (.int .i64 P) ∧ W.cell? ⟨g, 1, none⟩ = some (.int .i64 i0) ∧ W.cell? ⟨g, 2, none⟩ = some (.int .i64 i1) ∧ W.cell? ⟨g, 3, none⟩ = some (.slice ga gn gc) ∧ W.cell? ⟨g, 4, none⟩ = some (.slice oa on oc))
    (first | go_keep | exact ⟨keepC u e0, keepC u e1, keepC u e2, keepC u e3, keepC u e4⟩)
    (first | (go_at_call 66; refine (inputs_any _ _ _ _ _ _ (by omega) (by omega) rfl rfl).mono ?_; rintro e w2 ⟨rfl, u⟩) | (go_at_call 54; refine (within_any _ _ _ _).mono ?_; rintro e w' ⟨rfl, rfl⟩))
  all_goals have u' : Below w.heap.size w w2 := (Below.refl _ _).drew.trans u
  all_goals go_wp2
  all_goals go_ret
  all_goals exact ⟨rfl, u'⟩
theorem IsArith_1_enters (args : Array Value) (W : World) : (callFunc 97 args).run Try.prog W = .ok (.enter 97 args) W :=
  enters Try.func97 (by kernel_rfl) (by kernel_rfl) args W
set_option maxHeartbeats 8000000 in
set_option maxRecDepth 100000 in
theorem IsArith_any (P i0 i1 : Int) (ga : Option Addr) (gn gc : Nat) (G : List Int) (oa : Option Addr) (on oc : Nat) (O : List Int) (w : World) (hG : Flat 3 w ga gn gc G) (hO : Ints w oa on oc O) :
    Calls Try.prog 63 #[.agg #[.int .i64 P, .int .i64 i0, .int .i64 i1, .slice ga gn gc, .slice oa on oc]] w fun e w' => e = .returned (.bool (arB P i0 i1 gn G O)) ∧ Below w.heap.size w w' := by
  have V0 : Below w.heap.size w (w.alloc (.cells #[.int .i64 P, .int .i64 i0, .int .i64 i1, .slice ga gn gc, .slice oa on oc] 41)) := (Below.refl _ _).alloc (Nat.le_refl _) _
  have B0 : Blk (w.alloc (.cells #[.int .i64 P, .int .i64 i0, .int .i64 i1, .slice ga gn gc, .slice oa on oc] 41)) w.heap.size 41 #[.int .i64 P, .int .i64 i0, .int .i64 i1, .slice ga gn gc, .slice oa on oc] := Blk.new w _ _
  have hgl := hG.le
  have hol := hO.le
  unfold arB
  rw [← hO.len]
  cases h1 : isPr P
  · simp only [Bool.false_and]
    go_enter Try.func63, Try.ntmps63
    go_wp2_with (first | (go_at_call 52; refine (IsPrime_any _ _).mono ?_; rintro e w' ⟨rfl, m, rfl⟩) | (go_at_call 54; refine (within_any _ _ _ _).mono ?_; rintro e w' ⟨rfl, rfl⟩))
    go_ret
    exact ⟨rfl, below_drewN V0 _⟩
  cases h2 : inB i0 0 8
  · simp only [Bool.false_and, Bool.and_false]
    go_enter Try.func63, Try.ntmps63
    go_wp2_with (first | (go_at_call 52; refine (IsPrime_any _ _).mono ?_; rintro e w' ⟨rfl, m, rfl⟩) | (go_at_call 54; refine (within_any _ _ _ _).mono ?_; rintro e w' ⟨rfl, rfl⟩))
    go_ret
    exact ⟨rfl, below_drewN V0 _⟩
  cases h3 : inB i1 0 8
  · simp only [Bool.false_and, Bool.and_false]
    go_enter Try.func63, Try.ntmps63
    go_wp2_with (first | (go_at_call 52; refine (IsPrime_any _ _).mono ?_; rintro e w' ⟨rfl, m, rfl⟩) | (go_at_call 54; refine (within_any _ _ _ _).mono ?_; rintro e w' ⟨rfl, rfl⟩))
    go_ret
    exact ⟨rfl, below_drewN V0 _⟩
  by_cases h4 : gn ≤ 100
  case neg =>
    rw [decide_eq_false h4]
    simp only [Bool.false_and, Bool.and_false]
    have h4' : (100 : Int) < (gn : Int) := by omega
    clear h4
    go_enter Try.func63, Try.ntmps63
    go_wp2_with (first | (go_at_call 52; refine (IsPrime_any _ _).mono ?_; rintro e w' ⟨rfl, m, rfl⟩) | (go_at_call 54; refine (within_any _ _ _ _).mono ?_; rintro e w' ⟨rfl, rfl⟩))
    go_ret
    exact ⟨rfl, below_drewN V0 _⟩
  by_cases h5 : on ≤ 20
  case neg =>
    rw [decide_eq_false h5]
    simp only [Bool.false_and, Bool.and_false]
    have h5' : (20 : Int) < (on : Int) := by omega
    clear h5
    have h4' : ¬ (100 : Int) < (gn : Int) := by omega
    go_enter Try.func63, Try.ntmps63
    go_wp2_with (first | (go_at_call 52; refine (IsPrime_any _ _).mono ?_; rintro e w' ⟨rfl, m, rfl⟩) | (go_at_call 54; refine (within_any _ _ _ _).mono ?_; rintro e w' ⟨rfl, rfl⟩))
    go_ret
    exact ⟨rfl, below_drewN V0 _⟩
  rw [decide_eq_true h4, decide_eq_true h5]
  simp only [Bool.true_and]
  obtain ⟨p1, p2⟩ := isPr_range h1
  obtain ⟨j1, j1'⟩ := inB_true h2
  obtain ⟨j2, j2'⟩ := inB_true h3
  go_enter Try.func63, Try.ntmps63
  go_wp2_with (first | (go_at_call 52; refine (IsPrime_any _ _).mono ?_; rintro e w' ⟨rfl, m, rfl⟩) | (go_at_call 54; refine (within_any _ _ _ _).mono ?_; rintro e w' ⟨rfl, rfl⟩))
  go_loopw [36] (fun v wr => ∃ k : Nat, k ≤ gn ∧ v = .int .i64 k ∧ (∀ i, i < k → gateAt P (i0 + i1) G i = true) ∧ Below w.heap.size w wr ∧ Blk wr w.heap.size 41 #[.int .i64 P, .int .i64 i0, .int .i64 i1, .slice ga gn gc, .slice oa on oc]) (fun v _ => gn - (intOf v).toNat)
  case atStart => exact ⟨0, Nat.zero_le _, rfl, fun i hi => absurd hi (by omega), below_drewN V0 _, B0⟩
  case round =>
    obtain ⟨k, hk, rfl, hj, hbel, hB⟩ := hrel
    have HJ := Lib.hid hj
    clear hj B0 V0
    by_cases hlt : k < gn
    · obtain ⟨g, o, rfl, hc⟩ := (hG.below hbel).at (by omega)
      have c0 : wr.cell? ⟨g, o + k * 3, none⟩ = some (.int .i64 (G.getD (k * 3) 0)) := hc (k * 3) (by omega)
      have c1 : wr.cell? ⟨g, o + k * 3 + 1, none⟩ = some (.int .i64 (G.getD (k * 3 + 1) 0)) := by have := hc (k * 3 + 1) (by omega); simpa only [Nat.add_assoc] using this
      have c2 : wr.cell? ⟨g, o + k * 3 + 2, none⟩ = some (.int .i64 (G.getD (k * 3 + 2) 0)) := by have := hc (k * 3 + 2) (by omega); simpa only [Nat.add_assoc] using this
      clear hc
      have HGa : Hid (gateAt P (i0 + i1) G k = gateB P (G.getD (k * 3) 0) (G.getD (k * 3 + 1) 0) (G.getD (k * 3 + 2) 0) (i0 + i1 + k)) := rfl
      generalize G.getD (k * 3) 0 = kd at *
      generalize G.getD (k * 3 + 1) 0 = ka at *
      generalize G.getD (k * 3 + 2) 0 = kb at *
      have x0 : wr.cell? ⟨w.heap.size, 0, none⟩ = some (.int .i64 P) := hB.cell 0
      have x3 : wr.cell? ⟨w.heap.size, 3, none⟩ = some (.slice (some ⟨g, o, none⟩) gn gc) := hB.cell 3
      go_wp2
      have V2 : Below w.heap.size w (wr.alloc (.cells #[.int .i64 kd, .int .i64 ka, .int .i64 kb] 78)) := hbel.alloc hbel.size _
      have Bg : Blk (wr.alloc (.cells #[.int .i64 kd, .int .i64 ka, .int .i64 kb] 78)) wr.heap.size 78 #[.int .i64 kd, .int .i64 ka, .int .i64 kb] := Blk.new wr _ _
      have B2 := hB.alloc (.cells #[.int .i64 kd, .int .i64 ka, .int .i64 kb] 78)
      clear x0 x3 c0 c1 c2 hB hbel
      generalize (wr.alloc (.cells #[.int .i64 kd, .int .i64 ka, .int .i64 kb] 78)) = w2 at *
      have y0 : w2.cell? ⟨wr.heap.size, 0, none⟩ = some (.int .i64 kd) := Bg.cell 0
      have y1 : w2.cell? ⟨wr.heap.size, 1, none⟩ = some (.int .i64 ka) := Bg.cell 1
      have y2 : w2.cell? ⟨wr.heap.size, 2, none⟩ = some (.int .i64 kb) := Bg.cell 2
      have x0 : w2.cell? ⟨w.heap.size, 0, none⟩ = some (.int .i64 P) := B2.cell 0
      have x1 : w2.cell? ⟨w.heap.size, 1, none⟩ = some (.int .i64 i0) := B2.cell 1
      have x2 : w2.cell? ⟨w.heap.size, 2, none⟩ = some (.int .i64 i1) := B2.cell 2
      have x3 : w2.cell? ⟨w.heap.size, 3, none⟩ = some (.slice (some ⟨g, o, none⟩) gn gc) := B2.cell 3
      have x4 : w2.cell? ⟨w.heap.size, 4, none⟩ = some (.slice oa on oc) := B2.cell 4
      have t1 : IntKind.i64.wrap (i0 + i1 + (k : Int)) = i0 + i1 + k := IntWalk.i64_in _ (by omega)
      go_region_held3 (fun W => W.cell? ⟨wr.heap.size, 0, none⟩ = some (.int .i64 kd) ∧ W.cell? ⟨wr.heap.size, 1, none⟩ = some (.int .i64 ka) ∧ W.cell? ⟨wr.heap.size, 2, none⟩ = some (.int .i64 kb) ∧ W.cell? ⟨w.heap.size, 0, none⟩ = some (.int .i64 P) ∧ W.cell? ⟨w.heap.size, 1, none⟩ = some (.int .i64 i0) ∧ W.cell? ⟨w.heap.size, 2, none⟩ = some (.int .i64 i1) ∧ W.cell? ⟨w.heap.size, 3, none⟩ = some (.slice (some ⟨g, o, none⟩) gn gc) ∧ W.cell? ⟨w.heap.size, 4, none⟩ = some (.slice oa on oc))
        (first | go_keep | exact ⟨keepC u4 (keepC u3 y0), keepC u4 (keepC u3 y1), keepC u4 (keepC u3 y2), keepC u4 (keepC u3 x0), keepC u4 (keepC u3 x1), keepC u4 (keepC u3 x2), keepC u4 (keepC u3 x3), keepC u4 (keepC u3 x4)⟩ | exact ⟨keepC u3 y0, keepC u3 y1, keepC u3 y2, keepC u3 x0, keepC u3 x1, keepC u3 x2, keepC u3 x3, keepC u3 x4⟩)
        (first | (go_at_call 66; refine (inputs_any _ _ _ _ _ _ (by omega) (by omega) rfl rfl).mono ?_; rintro e w3 ⟨rfl, u3⟩) | (go_at_call 95; refine (arithGateOk_any _ _ _ _ _ _ (by omega) (by omega) (by omega) (by omega)).mono ?_; rintro e w4 ⟨rfl, u4⟩))
      all_goals have u5 : Below w2.heap.size w2 w4 := (Below.refl _ _).drew.trans (u3.trans (u4.mono u3.size))
      all_goals have V5 := V2.trans (u5.mono V2.size)
      all_goals have B5 := B2.below u5
      all_goals clear y0 y1 y2 x0 x1 x2 x3 x4 u3 u4 u5 B2 Bg V2 t1
      all_goals cases hb : gateB P kd ka kb (i0 + i1 + k)
      · have HB := Lib.hid (gatesB_no hlt (HGa.out.trans hb))
        go_wp2
        go_ret
        exact ⟨ret_bool (by rw [HB.out, Bool.false_and]), V5⟩
      · have HB := Lib.hid (HGa.out.trans hb)
        go_wp2
        go_roundw
        case rel => exact ⟨k + 1, by omega, by go_num, fun i hi => by
          by_cases e : i = k
          · subst e; exact HB.out
          · exact HJ.out i (by omega), V5, B5⟩
        case measure => simp [intOf]; omega
    · obtain rfl : k = gn := by omega
      have HGY := Lib.hid (gatesB_yes HJ.out)
      have z1 : wr.cell? ⟨w.heap.size, 4, none⟩ = some (.slice oa on oc) := hB.cell 4
      have HAA := Lib.hid (areAll_b oa on oc O 97 #[.pointer (some ⟨w.heap.size, 0, none⟩)] (fun x => decide (0 ≤ x ∧ x ≤ i0 + i1 + k - 1)) wr (hO.below hbel) IsArith_1_enters
        (fun W x hb _ => IsArith_1_any x P i0 i1 ga k gc oa on oc w.heap.size W (hB.below hb) ⟨j1, j1'⟩ ⟨j2, j2'⟩ h4))
      have HE : Hid (allB O 0 (i0 + i1 + k - 1) = O.all (fun x => decide (0 ≤ x ∧ x ≤ i0 + i1 + k - 1))) := rfl
      go_wp2_with fail
      refine HAA.out.mono ?_; rintro e w2 ⟨rfl, u2⟩
      go_wp2
      go_ret
      exact ⟨ret_bool (by rw [HGY.out, Bool.true_and, HE.out]; simp only [Bool.decide_and]), hbel.trans (u2.mono hbel.size)⟩
theorem arInputs_any (P i0 i1 : Int) (v3 v4 : Value) (w : World) (h0 : 0 ≤ i0 ∧ i0 ≤ 1000) (h1 : 0 ≤ i1 ∧ i1 ≤ 1000) (_c3 : v3.oneCell' = true) (_c4 : v4.oneCell' = true) :
    Calls Try.prog 100 #[.agg #[.int .i64 P, .int .i64 i0, .int .i64 i1, v3, v4]] w fun e w' => e = .returned (.int .i64 (i0 + i1)) ∧ Below w.heap.size w w' := by
  go_enter Try.func100, Try.ntmps100
  go_wp2
  go_ret
  exact ⟨rfl, (Below.refl _ _).alloc (Nat.le_refl _) _⟩
set_option maxHeartbeats 2000000 in
theorem arWires_any (P i0 i1 : Int) (ga : Option Addr) (gn gc : Nat) (v4 : Value) (w : World) (c4 : v4.oneCell' = true) (h0 : 0 ≤ i0 ∧ i0 ≤ 1000) (h1 : 0 ≤ i1 ∧ i1 ≤ 1000) (hg : gn ≤ 100) :
    Calls Try.prog 94 #[.agg #[.int .i64 P, .int .i64 i0, .int .i64 i1, .slice ga gn gc, v4]] w fun e w' => e = .returned (.int .i64 (i0 + i1 + gn)) ∧ Below w.heap.size w w' := by
  go_enter Try.func94, Try.ntmps94
  go_wp2_with fail
  have V0 : Below w.heap.size w (w.alloc (.cells #[.int .i64 P, .int .i64 i0, .int .i64 i1, .slice ga gn gc, v4] 41)) := (Below.refl _ _).alloc (Nat.le_refl _) _
  have B0 : Blk (w.alloc (.cells #[.int .i64 P, .int .i64 i0, .int .i64 i1, .slice ga gn gc, v4] 41)) w.heap.size 41 #[.int .i64 P, .int .i64 i0, .int .i64 i1, .slice ga gn gc, v4] := Blk.new w _ _
  generalize (w.alloc (.cells #[.int .i64 P, .int .i64 i0, .int .i64 i1, .slice ga gn gc, v4] 41)) = w1 at *
  have x0 : w1.cell? ⟨w.heap.size, 0, none⟩ = some (.int .i64 P) := B0.cell 0
  have x1 : w1.cell? ⟨w.heap.size, 1, none⟩ = some (.int .i64 i0) := B0.cell 1
  have x2 : w1.cell? ⟨w.heap.size, 2, none⟩ = some (.int .i64 i1) := B0.cell 2
  have x3 : w1.cell? ⟨w.heap.size, 3, none⟩ = some (.slice ga gn gc) := B0.cell 3
  have x4 : w1.cell? ⟨w.heap.size, 4, none⟩ = some v4 := B0.cell 4
  have t1 : IntKind.i64.wrap (i0 + i1 + (gn : Int)) = i0 + i1 + gn := IntWalk.i64_in _ (by omega)
  go_region_held3 (fun W => W.cell? ⟨w.heap.size, 0, none⟩ = some (.int .i64 P) ∧ W.cell? ⟨w.heap.size, 1, none⟩ = some (.int .i64 i0) ∧ W.cell? ⟨w.heap.size, 2, none⟩ = some (.int .i64 i1) ∧ W.cell? ⟨w.heap.size, 3, none⟩ = some (.slice ga gn gc) ∧ W.cell? ⟨w.heap.size, 4, none⟩ = some v4)
    (first | go_keep | exact ⟨keepC u x0, keepC u x1, keepC u x2, keepC u x3, keepC u x4⟩)
    (first | (go_at_call 100; refine (arInputs_any _ _ _ _ _ _ (by omega) (by omega) rfl c4).mono ?_; rintro e w2 ⟨rfl, u⟩))
  all_goals have u' : Below w1.heap.size w1 w2 := (Below.refl _ _).drew.trans u
  all_goals go_wp2
  all_goals go_ret
  all_goals exact ⟨rfl, V0.trans (u'.mono V0.size)⟩
set_option maxHeartbeats 8000000 in
set_option maxRecDepth 100000 in
theorem arGood_any (P i0 i1 : Int) (ga : Option Addr) (gn gc : Nat) (G : List Int) (oa : Option Addr) (on oc : Nat) (O : List Int) (w : World) (hG : Flat 3 w ga gn gc G) (hO : Ints w oa on oc O) :
    Calls Try.prog 68 #[.agg #[.int .i64 P, .int .i64 i0, .int .i64 i1, .slice ga gn gc, .slice oa on oc]] w fun e w' => e = .returned (.bool (arB P i0 i1 gn G O)) ∧ Below w.heap.size w w' := by
  have V0 : Below w.heap.size w (w.alloc (.cells #[.int .i64 P, .int .i64 i0, .int .i64 i1, .slice ga gn gc, .slice oa on oc] 41)) := (Below.refl _ _).alloc (Nat.le_refl _) _
  have B0 : Blk (w.alloc (.cells #[.int .i64 P, .int .i64 i0, .int .i64 i1, .slice ga gn gc, .slice oa on oc] 41)) w.heap.size 41 #[.int .i64 P, .int .i64 i0, .int .i64 i1, .slice ga gn gc, .slice oa on oc] := Blk.new w _ _
  have hgl := hG.le
  have hol := hO.le
  unfold arB
  rw [← hO.len]
  cases h1 : isPr P
  · simp only [Bool.false_and]
    go_enter Try.func68, Try.ntmps68
    go_wp2_with (first | (go_at_call 40; refine (fpGood_any _ _).mono ?_; rintro e w' ⟨rfl, m, rfl⟩) | (go_at_call 57; refine (l1In_any _ _ _ _).mono ?_; rintro e w' ⟨rfl, rfl⟩))
    go_ret
    exact ⟨rfl, below_drewN V0 _⟩
  cases h2 : inB i0 0 8
  · simp only [Bool.false_and, Bool.and_false]
    go_enter Try.func68, Try.ntmps68
    go_wp2_with (first | (go_at_call 40; refine (fpGood_any _ _).mono ?_; rintro e w' ⟨rfl, m, rfl⟩) | (go_at_call 57; refine (l1In_any _ _ _ _).mono ?_; rintro e w' ⟨rfl, rfl⟩))
    go_ret
    exact ⟨rfl, below_drewN V0 _⟩
  cases h3 : inB i1 0 8
  · simp only [Bool.false_and, Bool.and_false]
    go_enter Try.func68, Try.ntmps68
    go_wp2_with (first | (go_at_call 40; refine (fpGood_any _ _).mono ?_; rintro e w' ⟨rfl, m, rfl⟩) | (go_at_call 57; refine (l1In_any _ _ _ _).mono ?_; rintro e w' ⟨rfl, rfl⟩))
    go_ret
    exact ⟨rfl, below_drewN V0 _⟩
  by_cases h4 : gn ≤ 100
  case neg =>
    rw [decide_eq_false h4]
    simp only [Bool.false_and, Bool.and_false]
    have h4' : (100 : Int) < (gn : Int) := by omega
    clear h4
    go_enter Try.func68, Try.ntmps68
    go_wp2_with (first | (go_at_call 40; refine (fpGood_any _ _).mono ?_; rintro e w' ⟨rfl, m, rfl⟩) | (go_at_call 57; refine (l1In_any _ _ _ _).mono ?_; rintro e w' ⟨rfl, rfl⟩))
    go_ret
    exact ⟨rfl, below_drewN V0 _⟩
  by_cases h5 : on ≤ 20
  case neg =>
    rw [decide_eq_false h5]
    simp only [Bool.false_and, Bool.and_false]
    have h5' : (20 : Int) < (on : Int) := by omega
    clear h5
    have h4' : ¬ (100 : Int) < (gn : Int) := by omega
    go_enter Try.func68, Try.ntmps68
    go_wp2_with (first | (go_at_call 40; refine (fpGood_any _ _).mono ?_; rintro e w' ⟨rfl, m, rfl⟩) | (go_at_call 57; refine (l1In_any _ _ _ _).mono ?_; rintro e w' ⟨rfl, rfl⟩))
    go_ret
    exact ⟨rfl, below_drewN V0 _⟩
  rw [decide_eq_true h4, decide_eq_true h5]
  simp only [Bool.true_and]
  obtain ⟨p1, p2⟩ := isPr_range h1
  obtain ⟨j1, j1'⟩ := inB_true h2
  obtain ⟨j2, j2'⟩ := inB_true h3
  go_enter Try.func68, Try.ntmps68
  go_wp2_with (first | (go_at_call 40; refine (fpGood_any _ _).mono ?_; rintro e w' ⟨rfl, m, rfl⟩) | (go_at_call 57; refine (l1In_any _ _ _ _).mono ?_; rintro e w' ⟨rfl, rfl⟩))
  go_loopw [36] (fun v wr => ∃ k : Nat, k ≤ gn ∧ v = .int .i64 k ∧ (∀ i, i < k → gateAt P (i0 + i1) G i = true) ∧ Below w.heap.size w wr ∧ Blk wr w.heap.size 41 #[.int .i64 P, .int .i64 i0, .int .i64 i1, .slice ga gn gc, .slice oa on oc]) (fun v _ => gn - (intOf v).toNat)
  case atStart => exact ⟨0, Nat.zero_le _, rfl, fun i hi => absurd hi (by omega), below_drewN V0 _, B0⟩
  case round =>
    obtain ⟨k, hk, rfl, hj, hbel, hB⟩ := hrel
    have HJ := Lib.hid hj
    clear hj B0 V0
    by_cases hlt : k < gn
    · obtain ⟨g, o, rfl, hc⟩ := (hG.below hbel).at (by omega)
      have c0 : wr.cell? ⟨g, o + k * 3, none⟩ = some (.int .i64 (G.getD (k * 3) 0)) := hc (k * 3) (by omega)
      have c1 : wr.cell? ⟨g, o + k * 3 + 1, none⟩ = some (.int .i64 (G.getD (k * 3 + 1) 0)) := by have := hc (k * 3 + 1) (by omega); simpa only [Nat.add_assoc] using this
      have c2 : wr.cell? ⟨g, o + k * 3 + 2, none⟩ = some (.int .i64 (G.getD (k * 3 + 2) 0)) := by have := hc (k * 3 + 2) (by omega); simpa only [Nat.add_assoc] using this
      clear hc
      have HGa : Hid (gateAt P (i0 + i1) G k = gateB P (G.getD (k * 3) 0) (G.getD (k * 3 + 1) 0) (G.getD (k * 3 + 2) 0) (i0 + i1 + k)) := rfl
      generalize G.getD (k * 3) 0 = kd at *
      generalize G.getD (k * 3 + 1) 0 = ka at *
      generalize G.getD (k * 3 + 2) 0 = kb at *
      have x0 : wr.cell? ⟨w.heap.size, 0, none⟩ = some (.int .i64 P) := hB.cell 0
      have x3 : wr.cell? ⟨w.heap.size, 3, none⟩ = some (.slice (some ⟨g, o, none⟩) gn gc) := hB.cell 3
      go_wp2
      have V2 : Below w.heap.size w (wr.alloc (.cells #[.int .i64 kd, .int .i64 ka, .int .i64 kb] 78)) := hbel.alloc hbel.size _
      have Bg : Blk (wr.alloc (.cells #[.int .i64 kd, .int .i64 ka, .int .i64 kb] 78)) wr.heap.size 78 #[.int .i64 kd, .int .i64 ka, .int .i64 kb] := Blk.new wr _ _
      have B2 := hB.alloc (.cells #[.int .i64 kd, .int .i64 ka, .int .i64 kb] 78)
      clear x0 x3 c0 c1 c2 hB hbel
      generalize (wr.alloc (.cells #[.int .i64 kd, .int .i64 ka, .int .i64 kb] 78)) = w2 at *
      have y0 : w2.cell? ⟨wr.heap.size, 0, none⟩ = some (.int .i64 kd) := Bg.cell 0
      have y1 : w2.cell? ⟨wr.heap.size, 1, none⟩ = some (.int .i64 ka) := Bg.cell 1
      have y2 : w2.cell? ⟨wr.heap.size, 2, none⟩ = some (.int .i64 kb) := Bg.cell 2
      have x0 : w2.cell? ⟨w.heap.size, 0, none⟩ = some (.int .i64 P) := B2.cell 0
      have x1 : w2.cell? ⟨w.heap.size, 1, none⟩ = some (.int .i64 i0) := B2.cell 1
      have x2 : w2.cell? ⟨w.heap.size, 2, none⟩ = some (.int .i64 i1) := B2.cell 2
      have x3 : w2.cell? ⟨w.heap.size, 3, none⟩ = some (.slice (some ⟨g, o, none⟩) gn gc) := B2.cell 3
      have x4 : w2.cell? ⟨w.heap.size, 4, none⟩ = some (.slice oa on oc) := B2.cell 4
      have t1 : IntKind.i64.wrap (i0 + i1 + (k : Int)) = i0 + i1 + k := IntWalk.i64_in _ (by omega)
      go_region_held3 (fun W => W.cell? ⟨wr.heap.size, 0, none⟩ = some (.int .i64 kd) ∧ W.cell? ⟨wr.heap.size, 1, none⟩ = some (.int .i64 ka) ∧ W.cell? ⟨wr.heap.size, 2, none⟩ = some (.int .i64 kb) ∧ W.cell? ⟨w.heap.size, 0, none⟩ = some (.int .i64 P) ∧ W.cell? ⟨w.heap.size, 1, none⟩ = some (.int .i64 i0) ∧ W.cell? ⟨w.heap.size, 2, none⟩ = some (.int .i64 i1) ∧ W.cell? ⟨w.heap.size, 3, none⟩ = some (.slice (some ⟨g, o, none⟩) gn gc) ∧ W.cell? ⟨w.heap.size, 4, none⟩ = some (.slice oa on oc))
        (first | go_keep | exact ⟨keepC u4 (keepC u3 y0), keepC u4 (keepC u3 y1), keepC u4 (keepC u3 y2), keepC u4 (keepC u3 x0), keepC u4 (keepC u3 x1), keepC u4 (keepC u3 x2), keepC u4 (keepC u3 x3), keepC u4 (keepC u3 x4)⟩ | exact ⟨keepC u3 y0, keepC u3 y1, keepC u3 y2, keepC u3 x0, keepC u3 x1, keepC u3 x2, keepC u3 x3, keepC u3 x4⟩)
        (first | (go_at_call 100; refine (arInputs_any _ _ _ _ _ _ (by omega) (by omega) rfl rfl).mono ?_; rintro e w3 ⟨rfl, u3⟩) | (go_at_call 99; refine (arGate_any _ _ _ _ _ _ (by omega) (by omega) (by omega) (by omega)).mono ?_; rintro e w4 ⟨rfl, u4⟩))
      all_goals have u5 : Below w2.heap.size w2 w4 := (Below.refl _ _).drew.trans (u3.trans (u4.mono u3.size))
      all_goals have V5 := V2.trans (u5.mono V2.size)
      all_goals have B5 := B2.below u5
      all_goals clear y0 y1 y2 x0 x1 x2 x3 x4 u3 u4 u5 B2 Bg V2 t1
      all_goals cases hb : gateB P kd ka kb (i0 + i1 + k)
      · have HB := Lib.hid (gatesB_no hlt (HGa.out.trans hb))
        go_wp2
        go_ret
        exact ⟨ret_bool (by rw [HB.out, Bool.false_and]), V5⟩
      · have HB := Lib.hid (HGa.out.trans hb)
        go_wp2
        go_roundw
        case rel => exact ⟨k + 1, by omega, by go_num, fun i hi => by
          by_cases e : i = k
          · subst e; exact HB.out
          · exact HJ.out i (by omega), V5, B5⟩
        case measure => simp [intOf]; omega
    · obtain rfl : k = gn := by omega
      have HGY := Lib.hid (gatesB_yes HJ.out)
      have x0 : wr.cell? ⟨w.heap.size, 0, none⟩ = some (.int .i64 P) := hB.cell 0
      have x1 : wr.cell? ⟨w.heap.size, 1, none⟩ = some (.int .i64 i0) := hB.cell 1
      have x2 : wr.cell? ⟨w.heap.size, 2, none⟩ = some (.int .i64 i1) := hB.cell 2
      have x3 : wr.cell? ⟨w.heap.size, 3, none⟩ = some (.slice ga k gc) := hB.cell 3
      have x4 : wr.cell? ⟨w.heap.size, 4, none⟩ = some (.slice oa on oc) := hB.cell 4
      have t1 : IntKind.i64.wrap (i0 + i1 + (k : Int) - 1) = i0 + i1 + k - 1 := IntWalk.i64_in _ (by omega)
      go_wp2
      go_region_held3 (fun W => W.cell? ⟨w.heap.size, 0, none⟩ = some (.int .i64 P) ∧ W.cell? ⟨w.heap.size, 1, none⟩ = some (.int .i64 i0) ∧ W.cell? ⟨w.heap.size, 2, none⟩ = some (.int .i64 i1) ∧ W.cell? ⟨w.heap.size, 3, none⟩ = some (.slice ga k gc) ∧ W.cell? ⟨w.heap.size, 4, none⟩ = some (.slice oa on oc))
        (first | go_keep | exact ⟨keepC u4 (keepC u3 x0), keepC u4 (keepC u3 x1), keepC u4 (keepC u3 x2), keepC u4 (keepC u3 x3), keepC u4 (keepC u3 x4)⟩ | exact ⟨keepC u3 x0, keepC u3 x1, keepC u3 x2, keepC u3 x3, keepC u3 x4⟩)
        (first | (go_at_call 94; refine (arWires_any _ _ _ _ _ _ _ _ rfl (by omega) (by omega) (by omega)).mono ?_; rintro e w3 ⟨rfl, u3⟩) | (go_at_call 48; refine (l1All_any _ _ _ O _ _ _ ((hO.below hbel).drew.below u3)).mono ?_; rintro e w4 ⟨rfl, u4⟩; replace u4 := below_of_quiet u4))
      all_goals have u5 : Below wr.heap.size wr w4 := (Below.refl _ _).drew.trans (u3.trans (u4.mono u3.size))
      all_goals go_wp2
      all_goals go_ret
      all_goals exact ⟨ret_bool (by rw [HGY.out, Bool.true_and]), hbel.trans (u5.mono hbel.size)⟩
end Go.Proofs.Ythpcmbdkboajcaa
