/- Lemmas and walks that the claim's proof rests on, part 7. -/
import Derived.Deep.DeepCutAuto
import Derived.OrdersHeld
import Derived.Test.YtchmakepglaijaaGreatK2
import Derived.Test.YtchmakepglaijaaGreatK3
import Derived.Test.YtchmakepglaijaaGreatK6
namespace Go.Proofs.YtchmakepglaijaaGreat
open Go.RowKit
def gbB (kd a b own : Int) : Bool :=
  if kd = 0 ∨ kd = 1 then inB a 0 (own - 1) && inB b 0 (own - 1) else if kd = 2 then inB a 0 (own - 1) && (b == 0) else if kd = 3 then (a == 0) && (b == 0) else false
def gbAt (own : Int) (G : List Int) (k : Nat) : Bool := gbB (G.getD (k * 3) 0) (G.getD (k * 3 + 1) 0) (G.getD (k * 3 + 2) 0) (own + k)
def gbsB (own : Int) (G : List Int) (n : Nat) : Bool := (List.range n).all (gbAt own G)
theorem gbsB_no {own : Int} {G : List Int} {n k : Nat} (hk : k < n) (h : gbAt own G k = false) : gbsB own G n = false := by
  rw [Bool.eq_false_iff]
  intro H
  have := List.all_eq_true.1 H k (List.mem_range.2 hk)
  rw [h] at this
  cases this
theorem gbsB_yes {own : Int} {G : List Int} {n : Nat} (h : ∀ k, k < n → gbAt own G k = true) : gbsB own G n = true :=
  List.all_eq_true.2 fun k hk => h k (List.mem_range.1 hk)
def ciB (i0 i1 : Int) (gn : Nat) (G O : List Int) : Bool :=
  inB i0 0 20 && inB i1 0 20 && decide (gn ≤ 300) && decide (O.length ≤ 40) && gbsB (i0 + i1) G gn && allB O 0 (i0 + i1 + gn - 1)
set_option maxHeartbeats 2000000 in
theorem gateOk_any (kd a b own : Int) (w : World) (ho : 0 ≤ own) (ho2 : own ≤ 1000) :
    Calls Tryz.prog 120 #[.agg #[.int .i64 kd, .int .i64 a, .int .i64 b], .int .i64 own] w fun e w' => e = .returned (.bool (gbB kd a b own)) ∧ Below w.heap.size w w' := by
  have V0 : Below w.heap.size w (w.alloc (.cells #[.int .i64 kd, .int .i64 a, .int .i64 b] 98)) := (Below.refl _ _).alloc (Nat.le_refl _) _
  unfold gbB
  by_cases k0 : kd = 0
  · subst k0
    rw [if_pos (by simp)]
    cases h1 : inB a 0 (own - 1)
    all_goals
      go_enter Tryz.func120, Tryz.ntmps120
      go_wp2_with (first | (go_at_call 62; refine (within_any _ _ _ _).mono ?_; rintro e w' ⟨rfl, rfl⟩))
      go_ret
      exact ⟨by simp, V0⟩
  by_cases k1 : kd = 1
  · subst k1
    rw [if_pos (by simp)]
    cases h1 : inB a 0 (own - 1)
    all_goals
      go_enter Tryz.func120, Tryz.ntmps120
      go_wp2_with (first | (go_at_call 62; refine (within_any _ _ _ _).mono ?_; rintro e w' ⟨rfl, rfl⟩))
      go_ret
      exact ⟨by simp, V0⟩
  rw [if_neg (by simp [k0, k1])]
  by_cases k2 : kd = 2
  · subst k2
    rw [if_pos rfl]
    clear k0 k1
    cases h1 : inB a 0 (own - 1)
    all_goals
      go_enter Tryz.func120, Tryz.ntmps120
      go_wp2_with (first | (go_at_call 62; refine (within_any _ _ _ _).mono ?_; rintro e w' ⟨rfl, rfl⟩))
      go_ret
      exact ⟨by simp, V0⟩
  rw [if_neg k2]
  by_cases k3 : kd = 3
  · subst k3
    rw [if_pos rfl]
    clear k0 k1 k2
    cases h1 : (a == 0 : Bool)
    all_goals
      go_enter Tryz.func120, Tryz.ntmps120
      go_wp2_with (first | (go_at_call 62; refine (within_any _ _ _ _).mono ?_; rintro e w' ⟨rfl, rfl⟩))
      go_ret
      exact ⟨by simp, V0⟩
  rw [if_neg k3]
  have f0 : ((kd == 0) : Bool) = false := by simp [k0]
  have f1 : ((kd == 1) : Bool) = false := by simp [k1]
  have f2 : ((kd == 2) : Bool) = false := by simp [k2]
  have f3 : ((kd == 3) : Bool) = false := by simp [k3]
  clear k0 k1 k2 k3
  go_enter Tryz.func120, Tryz.ntmps120
  go_wp2
  go_ret
  exact ⟨rfl, V0⟩
set_option maxHeartbeats 2000000 in
theorem IsCircuit_1_any (x i0 i1 : Int) (ga : Option Addr) (gn gc : Nat) (oa : Option Addr) (on oc : Nat) (g : Nat) (w : World) (B : Blk w g 49 #[.int .i64 i0, .int .i64 i1, .slice ga gn gc, .slice oa on oc]) (h0 : 0 ≤ i0 ∧ i0 ≤ 20) (h1 : 0 ≤ i1 ∧ i1 ≤ 20) (hg : gn ≤ 300) :
    Calls Tryz.prog 122 #[.int .i64 x, .pointer (some ⟨g, 0, none⟩)] w fun e w' => e = .returned (.bool (decide (0 ≤ x ∧ x ≤ i0 + i1 + gn - 1))) ∧ Below w.heap.size w w' := by
  have x0 : w.cell? ⟨g, 0, none⟩ = some (.int .i64 i0) := B.cell 0
  have x1 : w.cell? ⟨g, 1, none⟩ = some (.int .i64 i1) := B.cell 1
  have x2 : w.cell? ⟨g, 2, none⟩ = some (.slice ga gn gc) := B.cell 2
  have x3 : w.cell? ⟨g, 3, none⟩ = some (.slice oa on oc) := B.cell 3
  have t2 : IntKind.i64.wrap (i0 + i1 + (gn : Int) - 1) = i0 + i1 + gn - 1 := IntWalk.i64_in _ (by omega)
  go_enter Tryz.func122, Tryz.ntmps122
  go_wp2_with fail
  refine (wires_any _ _ _ _ _ _ _ _ _ (by omega) (by omega) (by omega)).mono ?_; rintro e w2 ⟨rfl, u⟩
  go_wp2_with (first | (go_at_call 62; refine (within_any _ _ _ _).mono ?_; rintro e w' ⟨rfl, rfl⟩))
  go_ret
  exact ⟨rfl, u⟩
theorem IsCircuit_1_enters (args : Array Value) (W : World) : (callFunc 122 args).run Tryz.prog W = .ok (.enter 122 args) W :=
  enters Tryz.func122 (by kernel_rfl) (by kernel_rfl) args W
set_option maxHeartbeats 8000000 in
set_option maxRecDepth 100000 in
theorem IsCircuit_any (i0 i1 : Int) (ga : Option Addr) (gn gc : Nat) (G : List Int) (oa : Option Addr) (on oc : Nat) (O : List Int) (w : World) (hG : Flat 3 w ga gn gc G) (hO : Ints w oa on oc O) :
    Calls Tryz.prog 78 #[.agg #[.int .i64 i0, .int .i64 i1, .slice ga gn gc, .slice oa on oc]] w fun e w' => e = .returned (.bool (ciB i0 i1 gn G O)) ∧ Below w.heap.size w w' := by
  have V0 : Below w.heap.size w (w.alloc (.cells #[.int .i64 i0, .int .i64 i1, .slice ga gn gc, .slice oa on oc] 49)) := (Below.refl _ _).alloc (Nat.le_refl _) _
  have B0 : Blk (w.alloc (.cells #[.int .i64 i0, .int .i64 i1, .slice ga gn gc, .slice oa on oc] 49)) w.heap.size 49 #[.int .i64 i0, .int .i64 i1, .slice ga gn gc, .slice oa on oc] := Blk.new w _ _
  have hgl := hG.le
  have hol := hO.le
  unfold ciB
  rw [← hO.len]
  cases h2 : inB i0 0 20
  · simp only [Bool.false_and]
    go_enter Tryz.func78, Tryz.ntmps78
    go_wp2_with (first | (go_at_call 62; refine (within_any _ _ _ _).mono ?_; rintro e w' ⟨rfl, rfl⟩))
    go_ret
    exact ⟨rfl, V0⟩
  cases h3 : inB i1 0 20
  · simp only [Bool.false_and, Bool.and_false]
    go_enter Tryz.func78, Tryz.ntmps78
    go_wp2_with (first | (go_at_call 62; refine (within_any _ _ _ _).mono ?_; rintro e w' ⟨rfl, rfl⟩))
    go_ret
    exact ⟨rfl, V0⟩
  by_cases h4 : gn ≤ 300
  case neg =>
    rw [decide_eq_false h4]
    simp only [Bool.false_and, Bool.and_false]
    have h4' : (300 : Int) < (gn : Int) := by omega
    clear h4
    go_enter Tryz.func78, Tryz.ntmps78
    go_wp2_with (first | (go_at_call 62; refine (within_any _ _ _ _).mono ?_; rintro e w' ⟨rfl, rfl⟩))
    go_ret
    exact ⟨rfl, V0⟩
  by_cases h5 : on ≤ 40
  case neg =>
    rw [decide_eq_false h5]
    simp only [Bool.false_and, Bool.and_false]
    have h5' : (40 : Int) < (on : Int) := by omega
    clear h5
    have h4' : ¬ (300 : Int) < (gn : Int) := by omega
    go_enter Tryz.func78, Tryz.ntmps78
    go_wp2_with (first | (go_at_call 62; refine (within_any _ _ _ _).mono ?_; rintro e w' ⟨rfl, rfl⟩))
    go_ret
    exact ⟨rfl, V0⟩
  rw [decide_eq_true h4, decide_eq_true h5]
  simp only [Bool.true_and]
  obtain ⟨j1, j1'⟩ := inB_true h2
  obtain ⟨j2, j2'⟩ := inB_true h3
  go_enter Tryz.func78, Tryz.ntmps78
  go_wp2_with (first | (go_at_call 62; refine (within_any _ _ _ _).mono ?_; rintro e w' ⟨rfl, rfl⟩))
  go_loopw [30] (fun v wr => ∃ k : Nat, k ≤ gn ∧ v = .int .i64 k ∧ (∀ i, i < k → gbAt (i0 + i1) G i = true) ∧ Below w.heap.size w wr ∧ Blk wr w.heap.size 49 #[.int .i64 i0, .int .i64 i1, .slice ga gn gc, .slice oa on oc]) (fun v _ => gn - (intOf v).toNat)
  case atStart => exact ⟨0, Nat.zero_le _, rfl, fun i hi => absurd hi (by omega), V0, B0⟩
  case round =>
    obtain ⟨k, hk, rfl, hj, hbel, hB⟩ := hrel
    have HJ := Lib.hid hj
    clear hj B0 V0
    by_cases hlt : k < gn
    · obtain ⟨g, o, rfl, hc⟩ := (hG.below hbel).at (by omega)
      have c0 : wr.cell? ⟨g, o + k * 3, none⟩ = some (.int .i64 (G.getD (k * 3) 0)) := hc (k * 3) (by omega)
      have c1 : wr.cell? ⟨g, o + k * 3 + 1, none⟩ = some (.int .i64 (G.getD (k * 3 + 1) 0)) := by have := hc (k * 3 + 1) (by omega); simpa only [Nat.add_assoc] using this
      have c2 : wr.cell? ⟨g, o + k * 3 + 2, none⟩ = some (.int .i64 (G.getD (k * 3 + 2) 0)) := by have := hc (k * 3 + 2) (by omega); simpa only [Nat.add_assoc] using this
      clear hc
      have HGa : Hid (gbAt (i0 + i1) G k = gbB (G.getD (k * 3) 0) (G.getD (k * 3 + 1) 0) (G.getD (k * 3 + 2) 0) (i0 + i1 + k)) := rfl
      generalize G.getD (k * 3) 0 = kd at *
      generalize G.getD (k * 3 + 1) 0 = ka at *
      generalize G.getD (k * 3 + 2) 0 = kb at *
      have x2 : wr.cell? ⟨w.heap.size, 2, none⟩ = some (.slice (some ⟨g, o, none⟩) gn gc) := hB.cell 2
      go_wp2
      have V2 : Below w.heap.size w (wr.alloc (.cells #[.int .i64 kd, .int .i64 ka, .int .i64 kb] 98)) := hbel.alloc hbel.size _
      have Bg : Blk (wr.alloc (.cells #[.int .i64 kd, .int .i64 ka, .int .i64 kb] 98)) wr.heap.size 98 #[.int .i64 kd, .int .i64 ka, .int .i64 kb] := Blk.new wr _ _
      have B2 := hB.alloc (.cells #[.int .i64 kd, .int .i64 ka, .int .i64 kb] 98)
      clear x2 c0 c1 c2 hB hbel
      generalize (wr.alloc (.cells #[.int .i64 kd, .int .i64 ka, .int .i64 kb] 98)) = w2 at *
      have y0 : w2.cell? ⟨wr.heap.size, 0, none⟩ = some (.int .i64 kd) := Bg.cell 0
      have y1 : w2.cell? ⟨wr.heap.size, 1, none⟩ = some (.int .i64 ka) := Bg.cell 1
      have y2 : w2.cell? ⟨wr.heap.size, 2, none⟩ = some (.int .i64 kb) := Bg.cell 2
      have x0 : w2.cell? ⟨w.heap.size, 0, none⟩ = some (.int .i64 i0) := B2.cell 0
      have x1 : w2.cell? ⟨w.heap.size, 1, none⟩ = some (.int .i64 i1) := B2.cell 1
      have x2 : w2.cell? ⟨w.heap.size, 2, none⟩ = some (.slice (some ⟨g, o, none⟩) gn gc) := B2.cell 2
      have x3 : w2.cell? ⟨w.heap.size, 3, none⟩ = some (.slice oa on oc) := B2.cell 3
      have t1 : IntKind.i64.wrap (i0 + i1 + (k : Int)) = i0 + i1 + k := IntWalk.i64_in _ (by omega)
      go_region_held3 (fun W => W.cell? ⟨wr.heap.size, 0, none⟩ = some (.int .i64 kd) ∧ W.cell? ⟨wr.heap.size, 1, none⟩ = some (.int .i64 ka) ∧ W.cell? ⟨wr.heap.size, 2, none⟩ = some (.int .i64 kb) ∧ W.cell? ⟨w.heap.size, 0, none⟩ = some (.int .i64 i0) ∧ W.cell? ⟨w.heap.size, 1, none⟩ = some (.int .i64 i1) ∧ W.cell? ⟨w.heap.size, 2, none⟩ = some (.slice (some ⟨g, o, none⟩) gn gc) ∧ W.cell? ⟨w.heap.size, 3, none⟩ = some (.slice oa on oc))
        (first | go_keep | exact ⟨keepC u4 (keepC u3 y0), keepC u4 (keepC u3 y1), keepC u4 (keepC u3 y2), keepC u4 (keepC u3 x0), keepC u4 (keepC u3 x1), keepC u4 (keepC u3 x2), keepC u4 (keepC u3 x3)⟩ | exact ⟨keepC u3 y0, keepC u3 y1, keepC u3 y2, keepC u3 x0, keepC u3 x1, keepC u3 x2, keepC u3 x3⟩)
        (first | (go_at_call 121; refine (inputs_any _ _ _ _ _ _ _ _ _ (by omega) (by omega)).mono ?_; rintro e w3 ⟨rfl, u3⟩) | (go_at_call 120; refine (gateOk_any _ _ _ _ _ (by omega) (by omega)).mono ?_; rintro e w4 ⟨rfl, u4⟩))
      all_goals have u5 : Below w2.heap.size w2 w4 := (Below.refl _ _).drew.trans (u3.trans (u4.mono u3.size))
      all_goals have V5 := V2.trans (u5.mono V2.size)
      all_goals have B5 := B2.below u5
      all_goals clear y0 y1 y2 x0 x1 x2 x3 u3 u4 u5 B2 Bg V2 t1
      all_goals cases hb : gbB kd ka kb (i0 + i1 + k)
      · have HB := Lib.hid (gbsB_no hlt (HGa.out.trans hb))
        go_wp2
        go_ret
        exact ⟨ret_bool (by rw [HB.out, Bool.false_and]), V5⟩
      · have HB := Lib.hid (HGa.out.trans hb)
        go_wp2
        go_roundw
        case rel => exact ⟨k + 1, by omega, by go_num, fun i hi => by
          by_cases e : i = k
          · subst e; exact HB.out
          · exact HJ.out i (by omega), V5, B5⟩
        case measure => simp [intOf]; omega
    · obtain rfl : k = gn := by omega
      have HGY := Lib.hid (gbsB_yes HJ.out)
      have z1 : wr.cell? ⟨w.heap.size, 3, none⟩ = some (.slice oa on oc) := hB.cell 3
      have HAA := Lib.hid (areAll_b oa on oc O 122 #[.pointer (some ⟨w.heap.size, 0, none⟩)] (fun x => decide (0 ≤ x ∧ x ≤ i0 + i1 + k - 1)) wr (hO.below hbel) IsCircuit_1_enters
        (fun W x hb _ => IsCircuit_1_any x i0 i1 ga k gc oa on oc w.heap.size W (hB.below hb) ⟨j1, j1'⟩ ⟨j2, j2'⟩ h4))
      have HE : Hid (allB O 0 (i0 + i1 + k - 1) = O.all (fun x => decide (0 ≤ x ∧ x ≤ i0 + i1 + k - 1))) := rfl
      go_wp2_with fail
      refine HAA.out.mono ?_; rintro e w2 ⟨rfl, u2⟩
      go_wp2
      go_ret
      exact ⟨ret_bool (by rw [HGY.out, Bool.true_and, HE.out]; simp only [Bool.decide_and]), hbel.trans (u2.mono hbel.size)⟩
end Go.Proofs.YtchmakepglaijaaGreat
namespace Go.Proofs.YtchmakepglaijaaGreat
open Go.RowKit
end Go.Proofs.YtchmakepglaijaaGreat
namespace Go.Proofs.YtchmakepglaijaaGreat
open Go.RowKit
def Bt (l : List Int) : Prop := ∀ x ∈ l, x = 0 ∨ x = 1
theorem Bt.nil : Bt [] := fun x hx => by cases hx
theorem Bt.app {l l' : List Int} (h : Bt l) (k : Bt l') : Bt (l ++ l') := fun x hx => by
  rcases List.mem_append.1 hx with h1 | h1
  · exact h x h1
  · exact k x h1
theorem Bt.one {x : Int} (h : x = 0 ∨ x = 1) : Bt [x] := fun y hy => by rw [List.mem_singleton] at hy; subst hy; exact h
theorem Bt.at {l : List Int} (h : Bt l) (k : Nat) : l.getD k 0 = 0 ∨ l.getD k 0 = 1 := by
  by_cases hk : k < l.length
  · exact h _ (getD_mem l k hk)
  · left; simp [List.getD, Nat.not_lt.1 hk]
def evS (kd x y : Int) : Int := if kd = 0 then bits BinOp.xor IntKind.i64 x y else if kd = 1 then bits BinOp.and IntKind.i64 x y else if kd = 2 then 1 - x else 1
theorem evS_bit (kd : Int) {x y : Int} (hx : x = 0 ∨ x = 1) (hy : y = 0 ∨ y = 1) : evS kd x y = 0 ∨ evS kd x y = 1 := by
  unfold evS
  split
  · rcases hx with rfl | rfl <;> rcases hy with rfl | rfl <;> decide
  · split
    · rcases hx with rfl | rfl <;> rcases hy with rfl | rfl <;> decide
    · split
      · omega
      · right; rfl
def evL (G V : List Int) : Nat → List Int
  | 0 => V
  | j + 1 => evL G V j ++ [evS (G.getD (j * 3) 0) ((evL G V j).getD (G.getD (j * 3 + 1) 0).toNat 0) ((evL G V j).getD (G.getD (j * 3 + 2) 0).toNat 0)]
theorem evL_succ (G V : List Int) (j : Nat) : evL G V (j + 1) = evL G V j ++ [evS (G.getD (j * 3) 0) ((evL G V j).getD (G.getD (j * 3 + 1) 0).toNat 0) ((evL G V j).getD (G.getD (j * 3 + 2) 0).toNat 0)] := rfl
theorem evL_len (G V : List Int) (j : Nat) : (evL G V j).length = V.length + j := by
  induction j with
  | zero => rfl
  | succ j ih => rw [evL_succ, List.length_append, ih]; simp; omega
theorem evL_bits (G : List Int) {V : List Int} (h : Bt V) (j : Nat) : Bt (evL G V j) := by
  induction j with
  | zero => exact h
  | succ j ih => rw [evL_succ]; exact ih.app (Bt.one (evS_bit _ (ih.at _) (ih.at _)))
theorem gb_cases {kd a b own : Int} (h : gbB kd a b own = true) : (kd = 0 ∧ 0 ≤ a ∧ a ≤ own - 1 ∧ 0 ≤ b ∧ b ≤ own - 1) ∨ (kd = 1 ∧ 0 ≤ a ∧ a ≤ own - 1 ∧ 0 ≤ b ∧ b ≤ own - 1) ∨ (kd = 2 ∧ 0 ≤ a ∧ a ≤ own - 1) ∨ kd = 3 := by
  unfold gbB at h
  split at h
  · rename_i hk
    simp only [Bool.and_eq_true, inB, decide_eq_true_eq] at h
    rcases hk with rfl | rfl
    · exact Or.inl ⟨rfl, h.1.1, h.1.2, h.2.1, h.2.2⟩
    · exact Or.inr (Or.inl ⟨rfl, h.1.1, h.1.2, h.2.1, h.2.2⟩)
  · split at h
    · rename_i hk
      simp only [Bool.and_eq_true, inB, decide_eq_true_eq] at h
      exact Or.inr (Or.inr (Or.inl ⟨hk, h.1.1, h.1.2⟩))
    · split at h
      · rename_i hk
        exact Or.inr (Or.inr (Or.inr hk))
      · cases h
set_option maxHeartbeats 8000000 in
set_option maxRecDepth 100000 in
theorem values_any (i0 i1 : Int) (ga : Option Addr) (gn gc : Nat) (oa : Option Addr) (on oc : Nat) (a : Option Addr) (n c : Nat) (G V : List Int) (w : World) (hg : Flat 3 w ga gn gc G) (hv : Ints w a n c V) (hk : ∀ j, j < gn → gbB (G.getD (j * 3) 0) (G.getD (j * 3 + 1) 0) (G.getD (j * 3 + 2) 0) ((n + j : Nat) : Int) = true) (hV : Bt V) (hn : n ≤ 100) (hgn : gn ≤ 1000) :
    Calls Tryz.prog 80 #[.agg #[.int .i64 i0, .int .i64 i1, .slice ga gn gc, .slice oa on oc], .slice a n c] w fun e w' => ∃ a1 c1, e = .returned (.slice a1 (n + gn) c1) ∧ Own w' w.heap.size a1 (n + gn) c1 (evL G V gn) ∧ Below w.heap.size w w' := by
  have HK := Lib.hid hk
  clear hk
  have HB := Lib.hid (fun j => evL_bits G hV j)
  clear hV
  have HL := Lib.hid hv.len
  have V0 : Below w.heap.size w (w.alloc (.cells #[.int .i64 i0, .int .i64 i1, .slice ga gn gc, .slice oa on oc] 49)) := (Below.refl _ _).alloc (Nat.le_refl _) _
  have R0 : Blk (w.alloc (.cells #[.int .i64 i0, .int .i64 i1, .slice ga gn gc, .slice oa on oc] 49)) w.heap.size 49 #[.int .i64 i0, .int .i64 i1, .slice ga gn gc, .slice oa on oc] := Blk.new w _ _
  have hv0 := hv.below V0
  have hg0 := hg.below V0
  have hz0 : w.heap.size < (w.alloc (.cells #[.int .i64 i0, .int .i64 i1, .slice ga gn gc, .slice oa on oc] 49)).heap.size := by simp
  go_enter Tryz.func80, Tryz.ntmps80
  go_wp2_with fail
  generalize (w.alloc (.cells #[.int .i64 i0, .int .i64 i1, .slice ga gn gc, .slice oa on oc] 49)) = w0 at *
  refine (Clone_any _ _ _ _ _ hv0 (by omega)).mono ?_; rintro e w1 ⟨a1, c1, rfl, o1, u1⟩
  have V1 := V0.trans (u1.mono V0.size)
  have R1 := R0.below u1
  have own1 := o1.lower V0.size
  have x2 : w1.cell? ⟨w.heap.size, 2, none⟩ = some (.slice ga gn gc) := R1.cell 2
  clear o1 u1 V0 R0 hg0 hv0 hz0 R1
  go_wp2
  go_loopw [14, 5] (fun u v wr => ∃ j, j ≤ gn ∧ u = .int .i64 (j : Nat) ∧ ∃ a1 c1, v = .slice a1 (n + j) c1 ∧ Own wr w.heap.size a1 (n + j) c1 (evL G V j) ∧ Below w.heap.size w wr) (fun u _ _ => gn - (intOf u).toNat)
  case atStart => exact ⟨0, Nat.zero_le _, rfl, _, _, rfl, own1, V1⟩
  case round =>
    obtain ⟨j, hj, rfl, a2, c2, rfl, own, hbel⟩ := hrel
    clear own1 V1
    by_cases hlt : j < gn
    · obtain ⟨g, o, rfl, hc⟩ := (hg.below hbel).at (by omega)
      have c0 : wr.cell? ⟨g, o + j * 3, none⟩ = some (.int .i64 (G.getD (j * 3) 0)) := by have := hc (j * 3) (by omega); simpa only [Nat.add_assoc] using this
      have c1 : wr.cell? ⟨g, o + j * 3 + 1, none⟩ = some (.int .i64 (G.getD (j * 3 + 1) 0)) := by have := hc (j * 3 + 1) (by omega); simpa only [Nat.add_assoc] using this
      have c2 : wr.cell? ⟨g, o + j * 3 + 2, none⟩ = some (.int .i64 (G.getD (j * 3 + 2) 0)) := by have := hc (j * 3 + 2) (by omega); simpa only [Nat.add_assoc] using this
      clear hc
      have hgb := HK.out j hlt
      have HS := Lib.hid (evL_succ G V j)
      have hbt := HB.out j
      generalize G.getD (j * 3) 0 = kd at *
      generalize G.getD (j * 3 + 1) 0 = ka at *
      generalize G.getD (j * 3 + 2) 0 = kb at *
      generalize evL G V j = L at *
      have HFT := Lib.hid (fun k hk => (own.feet k hk).2)
      obtain ⟨N, hN⟩ : ∃ N, N = n + j := ⟨_, rfl⟩
      rw [← hN] at own hgb ⊢
      have hN1 : n + (j + 1) = N + 1 := by omega
      have HN := Lib.hid hN1
      have hNb : N ≤ 2000 := by omega
      clear hN1 hN
      go_upto_region 5 with fail
      have u2 : Below wr.heap.size wr (wr.alloc (.cells #[.int .i64 kd, .int .i64 ka, .int .i64 kb] 98)) := (Below.refl _ _).alloc (Nat.le_refl _) _
      have B2 : Blk (wr.alloc (.cells #[.int .i64 kd, .int .i64 ka, .int .i64 kb] 98)) wr.heap.size 98 #[.int .i64 kd, .int .i64 ka, .int .i64 kb] := Blk.new wr _ _
      have hw2 : wr.heap.size < (wr.alloc (.cells #[.int .i64 kd, .int .i64 ka, .int .i64 kb] 98)).heap.size := by simp
      have own2 := own.below u2
      have bel2 := hbel.trans (u2.mono hbel.size)
      clear own hbel u2 c0 c1 c2
      generalize (wr.alloc (.cells #[.int .i64 kd, .int .i64 ka, .int .i64 kb] 98)) = w2 at *
      have y0 : w2.cell? ⟨wr.heap.size, 0, none⟩ = some (.int .i64 kd) := B2.cell 0
      have y1 : w2.cell? ⟨wr.heap.size, 1, none⟩ = some (.int .i64 ka) := B2.cell 1
      have y2 : w2.cell? ⟨wr.heap.size, 2, none⟩ = some (.int .i64 kb) := B2.cell 2
      have hs2 : w.heap.size ≤ w2.heap.size := bel2.size
      clear B2
      rcases gb_cases hgb with ⟨rfl, ha0, ha1, hb0, hb1⟩ | ⟨rfl, ha0, ha1, hb0, hb1⟩ | ⟨rfl, ha0, ha1⟩ | rfl
      · clear hgb
        obtain ⟨ia, rfl⟩ : ∃ ia : Nat, ka = ia := ⟨ka.toNat, by omega⟩
        have hia : ia < N := by omega
        obtain ⟨g1, rfl, hgb1, hgw1, d1, -⟩ := own2.at ia hia
        have hx := hbt.at ia
        simp only [Int.toNat_natCast] at HS
        have hia2 : (ia : Int) < (N : Int) := by omega
        obtain ⟨ib, rfl⟩ : ∃ ib : Nat, kb = ib := ⟨kb.toNat, by omega⟩
        have hib : ib < N := by omega
        obtain ⟨_, E, -, -, d2, -⟩ := own2.at ib hib
        cases E
        simp only [Int.toNat_natCast] at HS
        have hib2 : (ib : Int) < (N : Int) := by omega
        generalize hy : L.getD ib 0 = y at *
        have HY := Lib.hid hy
        clear hy
        generalize hx1 : L.getD ia 0 = x at *
        have HX := Lib.hid hx1
        clear hx1
        have HE : Hid (evL G V (j + 1) = L ++ [bits BinOp.xor IntKind.i64 x y]) := HS.out
        clear HS
        go_wp2_with fail
        go_quiet (fail)
        go_wp2_with (at_builtin; refine wpList_appI _ rfl _ _ rfl w.heap.size _ N _ L rfl ((own2.below (below_of_drewN _)).alloc _) _ 1 1 [bits BinOp.xor IntKind.i64 x y] rfl (Ints.lit1 _ _ _) (by omega) (by simp; omega) ?_)
        intro a6 c6 w5 o6 u6 _
        have b3 := ((below_drewN bel2 _).alloc (below_drewN bel2 _).size (.cells #[.int .i64 (bits BinOp.xor IntKind.i64 x y)] 3)).trans u6
        rw [← HE.out] at o6
        clear u6 bel2 own2 y0 y1 y2 d1 d2
        go_wp2
        go_roundw
        case rel => exact ⟨j + 1, by omega, by go_num, a6, c6, by rw [HN.out], by rw [HN.out]; exact o6, b3⟩
        case measure => simp [intOf]; omega
      · clear hgb
        obtain ⟨ia, rfl⟩ : ∃ ia : Nat, ka = ia := ⟨ka.toNat, by omega⟩
        have hia : ia < N := by omega
        obtain ⟨g1, rfl, hgb1, hgw1, d1, -⟩ := own2.at ia hia
        have hx := hbt.at ia
        simp only [Int.toNat_natCast] at HS
        have hia2 : (ia : Int) < (N : Int) := by omega
        obtain ⟨ib, rfl⟩ : ∃ ib : Nat, kb = ib := ⟨kb.toNat, by omega⟩
        have hib : ib < N := by omega
        obtain ⟨_, E, -, -, d2, -⟩ := own2.at ib hib
        cases E
        simp only [Int.toNat_natCast] at HS
        have hib2 : (ib : Int) < (N : Int) := by omega
        generalize hy : L.getD ib 0 = y at *
        have HY := Lib.hid hy
        clear hy
        generalize hx1 : L.getD ia 0 = x at *
        have HX := Lib.hid hx1
        clear hx1
        have HE : Hid (evL G V (j + 1) = L ++ [bits BinOp.and IntKind.i64 x y]) := HS.out
        clear HS
        go_wp2_with fail
        go_quiet (fail)
        go_wp2_with (at_builtin; refine wpList_appI _ rfl _ _ rfl w.heap.size _ N _ L rfl ((own2.below (below_of_drewN _)).alloc _) _ 1 1 [bits BinOp.and IntKind.i64 x y] rfl (Ints.lit1 _ _ _) (by omega) (by simp; omega) ?_)
        intro a6 c6 w5 o6 u6 _
        have b3 := ((below_drewN bel2 _).alloc (below_drewN bel2 _).size (.cells #[.int .i64 (bits BinOp.and IntKind.i64 x y)] 3)).trans u6
        rw [← HE.out] at o6
        clear u6 bel2 own2 y0 y1 y2 d1 d2
        go_wp2
        go_roundw
        case rel => exact ⟨j + 1, by omega, by go_num, a6, c6, by rw [HN.out], by rw [HN.out]; exact o6, b3⟩
        case measure => simp [intOf]; omega
      · clear hgb
        obtain ⟨ia, rfl⟩ : ∃ ia : Nat, ka = ia := ⟨ka.toNat, by omega⟩
        have hia : ia < N := by omega
        obtain ⟨g1, rfl, hgb1, hgw1, d1, -⟩ := own2.at ia hia
        have hx := hbt.at ia
        simp only [Int.toNat_natCast] at HS
        have hia2 : (ia : Int) < (N : Int) := by omega
        generalize hx1 : L.getD ia 0 = x at *
        have HX := Lib.hid hx1
        clear hx1
        have HE : Hid (evL G V (j + 1) = L ++ [1 - x]) := HS.out
        clear HS
        have t1 : IntKind.i64.wrap (1 - x) = 1 - x := IntWalk.i64_in _ (by omega)
        go_wp2_with (at_builtin; refine wpList_appI _ rfl _ _ rfl w.heap.size _ N _ L rfl (own2.alloc _) _ 1 1 [1 - x] rfl (Ints.lit1 _ _ _) (by omega) (by simp; omega) ?_)
        intro a6 c6 w5 o6 u6 _
        have b3 := (bel2.alloc bel2.size (.cells #[.int .i64 (1 - x)] 3)).trans u6
        rw [← HE.out] at o6
        clear u6 bel2 own2 y0 y1 y2 d1
        go_wp2
        go_roundw
        case rel => exact ⟨j + 1, by omega, by go_num, a6, c6, by rw [HN.out], by rw [HN.out]; exact o6, b3⟩
        case measure => simp [intOf]; omega
      · clear hgb
        have HE : Hid (evL G V (j + 1) = L ++ [1]) := HS.out
        clear HS
        go_wp2_with (at_builtin; refine wpList_appI _ rfl _ _ rfl w.heap.size _ N _ L rfl (own2.alloc _) _ 1 1 [1] rfl (Ints.lit1 _ _ _) (by omega) (by simp; omega) ?_)
        intro a6 c6 w5 o6 u6 _
        have b3 := (bel2.alloc bel2.size (.cells #[.int .i64 (1)] 3)).trans u6
        rw [← HE.out] at o6
        clear u6 bel2 own2 y0 y1 y2
        go_wp2
        go_roundw
        case rel => exact ⟨j + 1, by omega, by go_num, a6, c6, by rw [HN.out], by rw [HN.out]; exact o6, b3⟩
        case measure => simp [intOf]; omega
    · obtain rfl : j = gn := by omega
      go_wp2
      go_ret
      exact ⟨_, _, rfl, own, hbel⟩
end Go.Proofs.YtchmakepglaijaaGreat
namespace Go.Proofs.YtchmakepglaijaaGreat
open Go.RowKit
def num : List Int → Int
  | [] => 0
  | x :: l => x + 2 * num l
theorem num_snoc (l : List Int) (x : Int) : num (l ++ [x]) = num l + x * 2 ^ l.length := by
  induction l with
  | nil => simp [num]
  | cons y l ih => simp only [List.cons_append, num, ih, List.length_cons, Int.pow_succ]; rw [Int.mul_add, ← Int.add_assoc, Int.mul_left_comm 2 x, Int.mul_comm 2 (2 ^ l.length)]
theorem num_take (l : List Int) (k : Nat) (h : k < l.length) : num (l.take (k + 1)) = num (l.take k) + l.getD k 0 * 2 ^ k := by
  rw [List.take_succ_eq_append_getElem h, num_snoc, List.length_take, Nat.min_eq_left (by omega)]
  simp [List.getD, h]
theorem Bt.take {l : List Int} (h : Bt l) (k : Nat) : Bt (l.take k) := fun x hx => h x (List.mem_of_mem_take hx)
theorem Bt.drop {l : List Int} (h : Bt l) (k : Nat) : Bt (l.drop k) := fun x hx => h x (List.mem_of_mem_drop hx)
def pkL (F O : List Int) (k : Nat) : List Int := (List.range k).map fun i => F.getD (O.getD i 0).toNat 0
theorem pkL_succ (F O : List Int) (k : Nat) : pkL F O (k + 1) = pkL F O k ++ [F.getD (O.getD k 0).toNat 0] := by simp [pkL, List.range_succ]
theorem pkL_len (F O : List Int) (k : Nat) : (pkL F O k).length = k := by simp [pkL]
theorem pkL_bits {F : List Int} (h : Bt F) (O : List Int) (k : Nat) : Bt (pkL F O k) := fun x hx => by
  obtain ⟨i, _, rfl⟩ := List.mem_map.1 hx
  exact h.at _
set_option maxHeartbeats 4000000 in
set_option maxRecDepth 100000 in
theorem pk_at (a : Option Addr) (n c : Nat) (F : List Int) (oa : Option Addr) (on oc : Nat) (O : List Int) (w : World) (h : Ints w a n c F) (hO : Ints w oa on oc O) (_hn : n ≤ 100000) (hon : on ≤ 100000) (hr : ∀ x ∈ O, 0 ≤ x ∧ x ≤ (n : Int) - 1) :
    Calls Tryz.prog 52 #[.slice a n c, .slice oa on oc] w fun e w' => ∃ a1 c1, e = .returned (.slice a1 on c1) ∧ Own w' w.heap.size a1 on c1 (pkL F O on) ∧ Below w.heap.size w w' := by
  have HR := Lib.hid hr
  have HL := Lib.hid hO.len
  clear hr
  go_enter Tryz.func52, Tryz.ntmps52
  go_wp2
  go_loopw [11, 5] (fun v u wr => ∃ k : Nat, k ≤ on ∧ v = .int .i64 k ∧ Below w.heap.size w wr ∧ ∃ a1 c1, u = .slice a1 k c1 ∧ Own wr w.heap.size a1 k c1 (pkL F O k)) (fun v _ _ => on - (intOf v).toNat)
  case atStart => exact ⟨0, Nat.zero_le _, rfl, (Below.refl _ _).alloc (Nat.le_refl _) _, _, _, rfl, Own.nil0 _ _ _⟩
  case round =>
    obtain ⟨k, hkn, rfl, hbel, a1, c1, rfl, own⟩ := hrel
    by_cases hlt : k < on
    · have ro := HR.out _ (getD_mem O k (by rw [← HL.out]; exact hlt))
      have HS := Lib.hid (pkL_succ F O k)
      obtain ⟨g, o, rfl, e0⟩ := (hO.below hbel).at k hlt
      generalize O.getD k 0 = q at *
      obtain ⟨j, rfl⟩ : ∃ j : Nat, q = j := ⟨q.toNat, by omega⟩
      simp only [Int.toNat_natCast] at HS
      have hj : j < n := by omega
      obtain ⟨g', o', rfl, e1⟩ := (h.below hbel).at j hj
      generalize F.getD j 0 = x at *
      go_wp2_with (at_builtin; refine wpList_appI _ rfl _ _ rfl w.heap.size a1 k c1 (pkL F O k) rfl (own.alloc _) _ 1 1 [x] rfl (Ints.lit1 _ _ _) (by omega) (by have := hbel.size; simp; omega) ?_)
      intro a5 c5 w3 o5 u5 _
      rw [← HS.out] at o5
      have b3 := (hbel.alloc hbel.size _).trans u5
      clear u5 hbel own e0 e1
      go_wp2
      go_roundw
      case rel => exact ⟨k + 1, by omega, by go_num, b3, a5, c5, rfl, o5⟩
      case measure => simp [intOf]; omega
    · obtain rfl : k = on := by omega
      go_wp2
      go_ret
      exact ⟨_, _, rfl, own, hbel⟩
end Go.Proofs.YtchmakepglaijaaGreat
namespace Go.Proofs.YtchmakepglaijaaGreat
open Go.RowKit
end Go.Proofs.YtchmakepglaijaaGreat
namespace Go.Proofs.YtchmakepglaijaaGreat
open Go.RowKit
end Go.Proofs.YtchmakepglaijaaGreat
namespace Go.Proofs.YtchmakepglaijaaGreat
open Go.RowKit
def Gd (B : Int) (G : List Int) : Prop := 0 ≤ B ∧ G.length % 3 = 0 ∧ ∀ k, k < G.length / 3 → gbAt B G k = true
def Wr (B : Int) (G : List Int) (x : Int) : Prop := 0 ≤ x ∧ x < gW B G
def Ws (B : Int) (G : List Int) (l : List Int) : Prop := ∀ x ∈ l, Wr B G x
def Mo (B : Int) (G G' : List Int) : Prop := gW B G ≤ gW B G'
theorem Mo.wr {B G G' x} (h : Mo B G G') (k : Wr B G x) : Wr B G' x := ⟨k.1, Int.lt_of_lt_of_le k.2 h⟩
theorem Mo.ws {B G G' l} (h : Mo B G G') (k : Ws B G l) : Ws B G' l := fun x hx => h.wr (k x hx)
theorem Mo.refl (B : Int) (G : List Int) : Mo B G G := Int.le_refl _
theorem Mo.trans {B G G1 G2} (h : Mo B G G1) (k : Mo B G1 G2) : Mo B G G2 := Int.le_trans h k
theorem Mo.gt (B : Int) (G : List Int) (k a b : Int) : Mo B G (gt G k a b) := by unfold Mo; rw [gW_gt]; omega
theorem Ws.app {B G l l'} (h : Ws B G l) (k : Ws B G l') : Ws B G (l ++ l') := fun x hx => by
  rcases List.mem_append.1 hx with hx | hx
  · exact h x hx
  · exact k x hx
theorem Ws.one {B G x} (h : Wr B G x) : Ws B G [x] := fun y hy => by rw [List.mem_singleton] at hy; subst hy; exact h
theorem Ws.nil (B : Int) (G : List Int) : Ws B G [] := fun x hx => by cases hx
theorem Ws.at {B G l} (h : Ws B G l) (k : Nat) (hk : k < l.length) : Wr B G (l.getD k 0) := h _ (getD_mem l k hk)
theorem Wr.new {B : Int} {G : List Int} (h : 0 ≤ B) (k a b : Int) : Wr B (gt G k a b) (gW B G) := ⟨gW_nn h, by rw [gW_gt]; omega⟩
theorem Gd.nil {B : Int} (h : 0 ≤ B) : Gd B [] := ⟨h, rfl, fun k hk => absurd hk (by simp)⟩
theorem Gd.gt {B G kd a b} (h : Gd B G) (hg : gbB kd a b (gW B G) = true) : Gd B (gt G kd a b) := by
  obtain ⟨h0, h1, h2⟩ := h
  refine ⟨h0, by rw [gt_len]; omega, fun k hk => ?_⟩
  rw [gt_len] at hk
  by_cases e : k < G.length / 3
  · have := h2 k e
    unfold gbAt at this ⊢
    unfold Proofs.YtchmakepglaijaaGreat.gt
    rw [snoc_getD _ _ _ (by omega), snoc_getD _ _ _ (by omega), snoc_getD _ _ _ (by omega)]
    exact this
  · obtain rfl : k = G.length / 3 := by omega
    have e3 : G.length / 3 * 3 = G.length := by omega
    unfold gbAt Proofs.YtchmakepglaijaaGreat.gt
    rw [e3]
    have f0 : (G ++ [kd, a, b]).getD G.length 0 = kd := by simp [List.getD]
    have f1 : (G ++ [kd, a, b]).getD (G.length + 1) 0 = a := by simp [List.getD]
    have f2 : (G ++ [kd, a, b]).getD (G.length + 2) 0 = b := by simp [List.getD]
    rw [f0, f1, f2]
    exact hg
theorem gb_xor {B G a b} (h : Wr B G a) (k : Wr B G b) : gbB 0 a b (gW B G) = true := by
  unfold gbB; rw [if_pos (by simp)]; simp only [Bool.and_eq_true]
  exact ⟨inB_yes h.1 (by have := h.2; omega), inB_yes k.1 (by have := k.2; omega)⟩
theorem gb_and {B G a b} (h : Wr B G a) (k : Wr B G b) : gbB 1 a b (gW B G) = true := by
  unfold gbB; rw [if_pos (by simp)]; simp only [Bool.and_eq_true]
  exact ⟨inB_yes h.1 (by have := h.2; omega), inB_yes k.1 (by have := k.2; omega)⟩
theorem gb_not {B G a} (h : Wr B G a) : gbB 2 a 0 (gW B G) = true := by
  unfold gbB; rw [if_neg (by simp), if_pos rfl]; simp only [Bool.and_eq_true]
  exact ⟨inB_yes h.1 (by have := h.2; omega), rfl⟩
theorem gb_one (own : Int) : gbB 3 0 0 own = true := rfl
theorem Gd.xor {B G a b} (h : Gd B G) (ha : Wr B G a) (hb : Wr B G b) : Gd B (Proofs.YtchmakepglaijaaGreat.gt G 0 a b) := h.gt (gb_xor ha hb)
theorem Gd.and {B G a b} (h : Gd B G) (ha : Wr B G a) (hb : Wr B G b) : Gd B (Proofs.YtchmakepglaijaaGreat.gt G 1 a b) := h.gt (gb_and ha hb)
theorem Gd.not {B G a} (h : Gd B G) (ha : Wr B G a) : Gd B (Proofs.YtchmakepglaijaaGreat.gt G 2 a 0) := h.gt (gb_not ha)
theorem Gd.one {B G} (h : Gd B G) : Gd B (Proofs.YtchmakepglaijaaGreat.gt G 3 0 0) := h.gt (gb_one _)
theorem chG_good {B s : Int} {x y G : List Int} (h : Gd B G) (hs : Wr B G s) (hx : Ws B G x) (hy : Ws B G y) (n : Nat) (h1 : n ≤ x.length) (h2 : n ≤ y.length) :
    Gd B (chG B s x y G n).1 ∧ Mo B G (chG B s x y G n).1 ∧ Ws B (chG B s x y G n).1 (chG B s x y G n).2 := by
  induction n with
  | zero => exact ⟨h, Mo.refl _ _, Ws.nil _ _⟩
  | succ n ih =>
    obtain ⟨g, m, r⟩ := ih (by omega) (by omega)
    rw [chG_succ]
    generalize chG B s x y G n = q at *
    have wx := m.wr (hx.at n (by omega))
    have wy := m.wr (hy.at n (by omega))
    have ws := m.wr hs
    generalize x.getD n 0 = u at *
    generalize y.getD n 0 = v at *
    have g1 := g.xor wx wy
    have m1 := Mo.gt B q.1 0 u v
    have n1 := Wr.new (G := q.1) h.1 0 u v
    have g2 := g1.and (m1.wr ws) n1
    have m2 := Mo.gt B (gt q.1 0 u v) 1 s (gW B q.1)
    have n2 := Wr.new (G := gt q.1 0 u v) h.1 1 s (gW B q.1)
    have g3 := g2.xor n2 (m2.wr (m1.wr wy))
    have m3 := Mo.gt B (gt (gt q.1 0 u v) 1 s (gW B q.1)) 0 (gW B (gt q.1 0 u v)) v
    have n3 := Wr.new (G := gt (gt q.1 0 u v) 1 s (gW B q.1)) h.1 0 (gW B (gt q.1 0 u v)) v
    exact ⟨g3, m.trans (m1.trans (m2.trans m3)), ((m1.trans (m2.trans m3)).ws r).app (Ws.one n3)⟩
theorem adS_good {B u v : Int} {f : Bool} {G : List Int} {q : List Int × List Int × Int} (g : Gd B q.1) (m : Mo B G q.1) (r : Ws B q.1 q.2.1) (wx : Wr B q.1 u) (wy : Wr B q.1 v) (wc : f = false → Wr B q.1 q.2.2) :
    Gd B (adS B u v f q).1 ∧ Mo B G (adS B u v f q).1 ∧ Ws B (adS B u v f q).1 (adS B u v f q).2.1 ∧ Wr B (adS B u v f q).1 (adS B u v f q).2.2 := by
  obtain ⟨Q, o, c⟩ := q
  simp only at *
  cases f
  · have wc := wc rfl
    unfold adS
    simp only [Bool.false_eq_true, if_false]
    have m1 := Mo.gt B Q 0 u c
    have n1 := Wr.new (G := Q) g.1 0 u c
    have g1 := g.xor wx wc
    have g2 := g1.xor (m1.wr wy) (m1.wr wc)
    have m2 := m1.trans (Mo.gt B (gt Q 0 u c) 0 v c)
    have n2 := Wr.new (G := gt Q 0 u c) g.1 0 v c
    have k2 := Mo.gt B (gt Q 0 u c) 0 v c
    generalize hG2 : gt (gt Q 0 u c) 0 v c = Q2 at *
    have g3 := g2.xor (k2.wr n1) (m2.wr wy)
    have k3 := Mo.gt B Q2 0 (gW B Q) v
    have n3 := Wr.new (G := Q2) g.1 0 (gW B Q) v
    generalize hG3 : gt Q2 0 (gW B Q) v = Q3 at *
    have g4 := g3.and ((k2.trans k3).wr n1) (k3.wr n2)
    have k4 := Mo.gt B Q3 1 (gW B Q) (gW B (gt Q 0 u c))
    have n4 := Wr.new (G := Q3) g.1 1 (gW B Q) (gW B (gt Q 0 u c))
    generalize hG4 : gt Q3 1 (gW B Q) (gW B (gt Q 0 u c)) = Q4 at *
    have m4 := m2.trans (k3.trans k4)
    have g5 := g4.xor n4 (m4.wr wc)
    have k5 := Mo.gt B Q4 0 (gW B Q3) c
    have n5 := Wr.new (G := Q4) g.1 0 (gW B Q3) c
    exact ⟨g5, m.trans (m4.trans k5), ((m4.trans k5).ws r).app (Ws.one ((k4.trans k5).wr n3)), n5⟩
  · unfold adS
    simp only [if_true]
    have m1 := Mo.gt B Q 0 u v
    have n1 := Wr.new (G := Q) g.1 0 u v
    have g2 := (g.xor wx wy).and (m1.wr wx) (m1.wr wy)
    have k2 := Mo.gt B (gt Q 0 u v) 1 u v
    have n2 := Wr.new (G := gt Q 0 u v) g.1 1 u v
    exact ⟨g2, m.trans (m1.trans k2), ((m1.trans k2).ws r).app (Ws.one (k2.wr n1)), n2⟩
theorem adG_good {B : Int} {x y G : List Int} (h : Gd B G) (hx : Ws B G x) (hy : Ws B G y) (n : Nat) (h1 : n ≤ x.length) (h2 : n ≤ y.length) :
    Gd B (adG B x y G n).1 ∧ Mo B G (adG B x y G n).1 ∧ Ws B (adG B x y G n).1 (adG B x y G n).2.1 ∧ (0 < n → Wr B (adG B x y G n).1 (adG B x y G n).2.2) := by
  induction n with
  | zero => exact ⟨h, Mo.refl _ _, Ws.nil _ _, fun h => absurd h (by omega)⟩
  | succ n ih =>
    obtain ⟨g, m, r, c⟩ := ih (by omega) (by omega)
    rw [adG_succ]
    obtain ⟨a1, a2, a3, a4⟩ := adS_good g m r (m.wr (hx.at n (by omega))) (m.wr (hy.at n (by omega))) (f := n == 0) (fun e => c (by cases n with | zero => cases e | succ n => omega))
    exact ⟨a1, a2, a3, fun _ => a4⟩
theorem suS_good {B u v : Int} {f : Bool} {G : List Int} {q : List Int × List Int × Int} (g : Gd B q.1) (m : Mo B G q.1) (r : Ws B q.1 q.2.1) (wx : Wr B q.1 u) (wy : Wr B q.1 v) (wc : f = false → Wr B q.1 q.2.2) :
    Gd B (suS B u v f q).1 ∧ Mo B G (suS B u v f q).1 ∧ Ws B (suS B u v f q).1 (suS B u v f q).2.1 ∧ Wr B (suS B u v f q).1 (suS B u v f q).2.2 := by
  obtain ⟨Q, o, c⟩ := q
  simp only at *
  cases f
  · have wc := wc rfl
    unfold suS
    simp only [Bool.false_eq_true, if_false]
    have m1 := Mo.gt B Q 0 u c
    have n1 := Wr.new (G := Q) g.1 0 u c
    have g1 := g.xor wx wc
    have g2 := g1.xor (m1.wr wy) (m1.wr wc)
    have m2 := m1.trans (Mo.gt B (gt Q 0 u c) 0 v c)
    have n2 := Wr.new (G := gt Q 0 u c) g.1 0 v c
    have k2 := Mo.gt B (gt Q 0 u c) 0 v c
    generalize hG2 : gt (gt Q 0 u c) 0 v c = Q2 at *
    have g3 := g2.xor (k2.wr n1) (m2.wr wy)
    have k3 := Mo.gt B Q2 0 (gW B Q) v
    have n3 := Wr.new (G := Q2) g.1 0 (gW B Q) v
    generalize hG3 : gt Q2 0 (gW B Q) v = Q3 at *
    have g4 := g3.not ((k2.trans k3).wr n1)
    have k4 := Mo.gt B Q3 2 (gW B Q) 0
    have n4 := Wr.new (G := Q3) g.1 2 (gW B Q) 0
    generalize hG4 : gt Q3 2 (gW B Q) 0 = Q4 at *
    have g5 := g4.and n4 ((k3.trans k4).wr n2)
    have k5 := Mo.gt B Q4 1 (gW B Q3) (gW B (gt Q 0 u c))
    have n5 := Wr.new (G := Q4) g.1 1 (gW B Q3) (gW B (gt Q 0 u c))
    generalize hG5 : gt Q4 1 (gW B Q3) (gW B (gt Q 0 u c)) = Q5 at *
    have m5 := m2.trans (k3.trans (k4.trans k5))
    have g6 := g5.xor n5 (m5.wr wc)
    have k6 := Mo.gt B Q5 0 (gW B Q4) c
    have n6 := Wr.new (G := Q5) g.1 0 (gW B Q4) c
    exact ⟨g6, m.trans (m5.trans k6), ((m5.trans k6).ws r).app (Ws.one ((k4.trans (k5.trans k6)).wr n3)), n6⟩
  · unfold suS
    simp only [if_true]
    have m1 := Mo.gt B Q 0 u v
    have n1 := Wr.new (G := Q) g.1 0 u v
    have k2 := Mo.gt B (gt Q 0 u v) 2 u 0
    have n2 := Wr.new (G := gt Q 0 u v) g.1 2 u 0
    have g2 := (g.xor wx wy).not (m1.wr wx)
    have g3 := g2.and n2 ((m1.trans k2).wr wy)
    have k3 := Mo.gt B (gt (gt Q 0 u v) 2 u 0) 1 (gW B (gt Q 0 u v)) v
    have n3 := Wr.new (G := gt (gt Q 0 u v) 2 u 0) g.1 1 (gW B (gt Q 0 u v)) v
    exact ⟨g3, m.trans (m1.trans (k2.trans k3)), ((m1.trans (k2.trans k3)).ws r).app (Ws.one ((k2.trans k3).wr n1)), n3⟩
theorem suG_good {B : Int} {x y G : List Int} (h : Gd B G) (hx : Ws B G x) (hy : Ws B G y) (n : Nat) (h1 : n ≤ x.length) (h2 : n ≤ y.length) :
    Gd B (suG B x y G n).1 ∧ Mo B G (suG B x y G n).1 ∧ Ws B (suG B x y G n).1 (suG B x y G n).2.1 ∧ (0 < n → Wr B (suG B x y G n).1 (suG B x y G n).2.2) := by
  induction n with
  | zero => exact ⟨h, Mo.refl _ _, Ws.nil _ _, fun h => absurd h (by omega)⟩
  | succ n ih =>
    obtain ⟨g, m, r, c⟩ := ih (by omega) (by omega)
    rw [suG_succ]
    obtain ⟨a1, a2, a3, a4⟩ := suS_good g m r (m.wr (hx.at n (by omega))) (m.wr (hy.at n (by omega))) (f := n == 0) (fun e => c (by cases n with | zero => cases e | succ n => omega))
    exact ⟨a1, a2, a3, fun _ => a4⟩
theorem spL_ws {B f : Int} {G : List Int} (n : Nat) (h0 : 0 ≤ f) (h1 : f + n ≤ B) : Ws B G (spL f n) := fun x hx => by
  simp only [spL, List.mem_map, List.mem_range] at hx
  obtain ⟨i, hi, rfl⟩ := hx
  exact ⟨by omega, by unfold gW; omega⟩
theorem coL_ws {B z x : Int} {G : List Int} (n : Nat) (h1 : Wr B G z) (h2 : Wr B G (z - 1)) : Ws B G (coL z x n) := fun y hy => by
  simp only [coL, List.mem_map, List.mem_range] at hy
  obtain ⟨i, hi, rfl⟩ := hy
  have : x / 2 ^ i % 2 = 0 ∨ x / 2 ^ i % 2 = 1 := by omega
  rcases this with e | e
  · rw [e, Int.sub_zero]; exact h1
  · rw [e]; exact h2
theorem ci_good {i0 i1 : Int} {gn : Nat} {G O : List Int} (h0 : 0 ≤ i0 ∧ i0 ≤ 20) (h1 : 0 ≤ i1 ∧ i1 ≤ 20) (hg : Gd (i0 + i1) G) (ho : Ws (i0 + i1) G O) (hn : gn = G.length / 3) (hgn : gn ≤ 300) (hon : O.length ≤ 40) : ciB i0 i1 gn G O = true := by
  unfold ciB
  rw [inB_yes h0.1 h0.2, inB_yes h1.1 h1.2, decide_eq_true hgn, decide_eq_true hon, gbsB_yes (fun k hk => hg.2.2 k (by omega)), (allB_iff _ _ _).2 (fun x hx => ⟨(ho x hx).1, by have := (ho x hx).2; unfold gW at this; omega⟩)]
  rfl
end Go.Proofs.YtchmakepglaijaaGreat
namespace Go.Proofs.YtchmakepglaijaaGreat
open Go.RowKit
set_option maxHeartbeats 8000000 in
set_option maxRecDepth 100000 in
theorem valid_yes (i0 i1 : Int) (ga : Option Addr) (gn gc : Nat) (G : List Int) (oa : Option Addr) (on oc : Nat) (O : List Int) (w : World) (hG : Flat 3 w ga gn gc G) (hO : Ints w oa on oc O) (hv : ciB i0 i1 gn G O = true) :
    Calls Tryz.prog 75 #[.agg #[.int .i64 i0, .int .i64 i1, .slice ga gn gc, .slice oa on oc]] w fun e w' => e = .returned (.tuple #[.agg #[.int .i64 i0, .int .i64 i1, .slice ga gn gc, .slice oa on oc], .bool true]) ∧ Below w.heap.size w w' := by
  have V2 : Below w.heap.size w ((w.alloc (.cells #[.int .i64 i0, .int .i64 i1, .slice ga gn gc, .slice oa on oc] 49)).alloc (.cells #[.int .i64 0, .int .i64 0, .slice none 0 0, .slice none 0 0] 49)) := ((Below.refl _ _).alloc (Nat.le_refl _) _).alloc (by simp) _
  have P2 : Blk ((w.alloc (.cells #[.int .i64 i0, .int .i64 i1, .slice ga gn gc, .slice oa on oc] 49)).alloc (.cells #[.int .i64 0, .int .i64 0, .slice none 0 0, .slice none 0 0] 49)) w.heap.size 49 #[.int .i64 i0, .int .i64 i1, .slice ga gn gc, .slice oa on oc] := (Blk.new w _ _).alloc _
  have R2 : Blk ((w.alloc (.cells #[.int .i64 i0, .int .i64 i1, .slice ga gn gc, .slice oa on oc] 49)).alloc (.cells #[.int .i64 0, .int .i64 0, .slice none 0 0, .slice none 0 0] 49)) (w.heap.size + 1) 49 #[.int .i64 0, .int .i64 0, .slice none 0 0, .slice none 0 0] := by simpa using (Blk.new (w.alloc (.cells #[.int .i64 i0, .int .i64 i1, .slice ga gn gc, .slice oa on oc] 49)) 49 #[.int .i64 0, .int .i64 0, .slice none 0 0, .slice none 0 0])
  go_enter Tryz.func75, Tryz.ntmps75
  go_wp2_with fail
  refine (IsCircuit_any _ _ _ _ _ G _ _ _ O _ (hG.below V2) (hO.below V2)).mono ?_; rintro e w3 ⟨rfl, u3⟩
  rw [hv]
  have V3 := V2.trans (u3.mono V2.size)
  have P3 := P2.below u3
  have R3 := R2.below u3
  have x0 : w3.cell? ⟨w.heap.size, 0, none⟩ = some (.int .i64 i0) := P3.cell 0
  have x1 : w3.cell? ⟨w.heap.size, 1, none⟩ = some (.int .i64 i1) := P3.cell 1
  have x2 : w3.cell? ⟨w.heap.size, 2, none⟩ = some (.slice ga gn gc) := P3.cell 2
  have x3 : w3.cell? ⟨w.heap.size, 3, none⟩ = some (.slice oa on oc) := P3.cell 3
  have r0 : w3.cell? ⟨w.heap.size + 1, 0, none⟩ = some (.int .i64 0) := R3.cell 0
  have q0 : w3.frozen? ⟨w.heap.size + 1, 0, none⟩ = false := R3.frozen 0
  have r1 : w3.cell? ⟨w.heap.size + 1, 1, none⟩ = some (.int .i64 0) := R3.cell 1
  have q1 : w3.frozen? ⟨w.heap.size + 1, 1, none⟩ = false := R3.frozen 1
  have r2 : w3.cell? ⟨w.heap.size + 1, 2, none⟩ = some (.slice none 0 0) := R3.cell 2
  have q2 : w3.frozen? ⟨w.heap.size + 1, 2, none⟩ = false := R3.frozen 2
  have r3 : w3.cell? ⟨w.heap.size + 1, 3, none⟩ = some (.slice none 0 0) := R3.cell 3
  have q3 : w3.frozen? ⟨w.heap.size + 1, 3, none⟩ = false := R3.frozen 3
  clear P2 R2 V2 u3 P3 R3
  go_wp2
  have GG := (((((Only.refl [w.heap.size + 1] w3).setCell ⟨w.heap.size + 1, 0, none⟩ (.int .i64 i0) (by simp)).setCell ⟨w.heap.size + 1, 1, none⟩ (.int .i64 i1) (by simp)).setCell ⟨w.heap.size + 1, 2, none⟩ (.slice ga gn gc) (by simp)).setCell ⟨w.heap.size + 1, 3, none⟩ (.slice oa on oc) (by simp))
  exact bodyPost_ret (v := .tuple #[.agg #[.int .i64 i0, .int .i64 i1, .slice ga gn gc, .slice oa on oc], .bool true]) (by simp [results, Tryz.results75, go_sem, r0, r1, r2, r3]) rfl ⟨rfl, V3.trans (GG.below V3.size (by simp))⟩
end Go.Proofs.YtchmakepglaijaaGreat
namespace Go.Proofs.YtchmakepglaijaaGreat
open Go.RowKit
def vl (G V : List Int) (x : Int) : Int := (evL G V (G.length / 3)).getD x.toNat 0
def Ex (B : Int) (V G G' : List Int) : Prop := Mo B G G' ∧ ∀ x, Wr B G x → vl G' V x = vl G V x
theorem Ex.refl (B : Int) (V G : List Int) : Ex B V G G := ⟨Mo.refl _ _, fun _ _ => rfl⟩
theorem Ex.trans {B : Int} {V G G1 G2 : List Int} (h : Ex B V G G1) (k : Ex B V G1 G2) : Ex B V G G2 := ⟨h.1.trans k.1, fun x hx => (k.2 x (h.1.wr hx)).trans (h.2 x hx)⟩
theorem evL_gt (G V : List Int) (k a b : Int) (j : Nat) (hj : 3 * j ≤ G.length) : evL (gt G k a b) V j = evL G V j := by
  induction j with
  | zero => rfl
  | succ j ih =>
    rw [evL_succ, evL_succ, ih (by omega)]
    unfold gt
    rw [gapp _ _ _ (by omega), gapp _ _ _ (by omega), gapp _ _ _ (by omega)]
theorem gt_at (G : List Int) (k a b : Int) : (gt G k a b).getD G.length 0 = k ∧ (gt G k a b).getD (G.length + 1) 0 = a ∧ (gt G k a b).getD (G.length + 2) 0 = b := by
  unfold gt
  exact ⟨by simp [List.getD], by simp [List.getD], by simp [List.getD]⟩
theorem evL_gt1 {B : Int} {G : List Int} (h : Gd B G) (V : List Int) (k a b : Int) : evL (gt G k a b) V ((gt G k a b).length / 3) = evL G V (G.length / 3) ++ [evS k (vl G V a) (vl G V b)] := by
  have h3 := h.2.1
  have e : (gt G k a b).length / 3 = G.length / 3 + 1 := by rw [gt_len]; omega
  have e2 : G.length / 3 * 3 = G.length := by omega
  obtain ⟨g0, g1, g2⟩ := gt_at G k a b
  rw [e, evL_succ, evL_gt _ _ _ _ _ _ (by omega), e2, g0, g1, g2]
  rfl
theorem vl_old {B : Int} {V G : List Int} (h : Gd B G) (hV : (V.length : Int) = B) (k a b x : Int) (hx : Wr B G x) : vl (gt G k a b) V x = vl G V x := by
  unfold vl
  rw [evL_gt1 h]
  have := hx.1
  have h2 := hx.2
  unfold gW at h2
  rw [gapp _ _ _ (by rw [evL_len]; omega)]
theorem gsnE (l : List Int) (x : Int) (k : Nat) (h : k = l.length) : (l ++ [x]).getD k 0 = x := by subst h; simp [List.getD]
theorem vl_new {B : Int} {V G : List Int} (h : Gd B G) (hV : (V.length : Int) = B) (k a b : Int) : vl (gt G k a b) V (gW B G) = evS k (vl G V a) (vl G V b) := by
  have hl := evL_len G V (G.length / 3)
  have e : (gW B G).toNat = (evL G V (G.length / 3)).length := by rw [hl]; unfold gW; omega
  show (evL (gt G k a b) V ((gt G k a b).length / 3)).getD (gW B G).toNat 0 = _
  rw [evL_gt1 h, e]
  exact gsnE _ _ _ rfl
theorem Ex.gt {B : Int} {V G : List Int} (h : Gd B G) (hV : (V.length : Int) = B) (k a b : Int) : Ex B V G (gt G k a b) := ⟨Mo.gt _ _ _ _ _, fun x hx => vl_old h hV k a b x hx⟩
theorem vl_bit {V : List Int} (hb : Bt V) (G : List Int) (x : Int) : vl G V x = 0 ∨ vl G V x = 1 := (evL_bits G hb _).at _
theorem ev_xor {x y : Int} (hx : x = 0 ∨ x = 1) (hy : y = 0 ∨ y = 1) : evS 0 x y = if x = y then 0 else 1 := by
  unfold evS; rw [if_pos rfl]
  rcases hx with rfl | rfl <;> rcases hy with rfl | rfl <;> decide
theorem ev_not (x y : Int) : evS 2 x y = 1 - x := by unfold evS; rw [if_neg (by decide), if_neg (by decide), if_pos rfl]
theorem ev_one (x y : Int) : evS 3 x y = 1 := by unfold evS; rw [if_neg (by decide), if_neg (by decide), if_neg (by decide)]
theorem ch_bit {s u v : Int} (hs : s = 0 ∨ s = 1) (hu : u = 0 ∨ u = 1) (hv : v = 0 ∨ v = 1) : evS 0 (evS 1 s (evS 0 u v)) v = if s = 1 then u else v := by
  rw [ev_xor hu hv]
  rcases hs with rfl | rfl <;> rcases hu with rfl | rfl <;> rcases hv with rfl | rfl <;> decide
theorem getD_snoc_lt (l : List Int) (x : Int) (k : Nat) (h : k < l.length) : (l ++ [x]).getD k 0 = l.getD k 0 := gapp _ _ _ h
theorem getD_snoc_eq (l : List Int) (x : Int) (k : Nat) (h : k = l.length) : (l ++ [x]).getD k 0 = x := by subst h; simp [List.getD]
theorem chG_val {B s : Int} {V x y G : List Int} (h : Gd B G) (hV : (V.length : Int) = B) (hb : Bt V) (hs : Wr B G s) (hx : Ws B G x) (hy : Ws B G y) (n : Nat) (h1 : n ≤ x.length) (h2 : n ≤ y.length) :
    Ex B V G (chG B s x y G n).1 ∧ ∀ k, k < n → vl (chG B s x y G n).1 V ((chG B s x y G n).2.getD k 0) = if vl G V s = 1 then vl G V (x.getD k 0) else vl G V (y.getD k 0) := by
  induction n with
  | zero => exact ⟨Ex.refl _ _ _, fun k hk => absurd hk (by omega)⟩
  | succ n ih =>
    obtain ⟨e, f⟩ := ih (by omega) (by omega)
    obtain ⟨g, m, r⟩ := chG_good h hs hx hy n (by omega) (by omega)
    have hl := (chG_len B s x y G n).2
    rw [chG_succ]
    have wx0 := hx.at n (by omega)
    have wy0 := hy.at n (by omega)
    have fx := e.2 _ wx0
    have fy := e.2 _ wy0
    have fs := e.2 _ hs
    have wx := m.wr wx0
    have wy := m.wr wy0
    have ws := m.wr hs
    generalize hq : chG B s x y G n = q at *
    have g1 := g.xor wx wy
    have x1 := Ex.gt g hV 0 (x.getD n 0) (y.getD n 0)
    have v1 := vl_new g hV 0 (x.getD n 0) (y.getD n 0)
    have n1 := Wr.new (G := q.1) h.1 0 (x.getD n 0) (y.getD n 0)
    unfold chS
    generalize hG1 : gt q.1 0 (x.getD n 0) (y.getD n 0) = G1 at *
    have g2 := g1.and (x1.1.wr ws) n1
    have x2 := Ex.gt g1 hV 1 s (gW B q.1)
    have v2 := vl_new g1 hV 1 s (gW B q.1)
    have n2 := Wr.new (G := G1) h.1 1 s (gW B q.1)
    generalize hG2 : gt G1 1 s (gW B q.1) = G2 at *
    have x3 := Ex.gt g2 hV 0 (gW B G1) (y.getD n 0)
    have v3 := vl_new g2 hV 0 (gW B G1) (y.getD n 0)
    generalize hG3 : gt G2 0 (gW B G1) (y.getD n 0) = G3 at *
    have xx := x1.trans (x2.trans x3)
    refine ⟨e.trans xx, fun k hk => ?_⟩
    dsimp only
    by_cases hkn : k < n
    · rw [getD_snoc_lt _ _ _ (by omega), xx.2 _ (r.at k (by omega))]
      exact f k hkn
    · obtain rfl : k = n := by omega
      rw [getD_snoc_eq _ _ _ (by omega), v3, v2, (x1.trans x2).2 _ wy, x1.2 _ ws, v1, fx, fy, fs]
      exact ch_bit (vl_bit hb _ _) (vl_bit hb _ _) (vl_bit hb _ _)
end Go.Proofs.YtchmakepglaijaaGreat
