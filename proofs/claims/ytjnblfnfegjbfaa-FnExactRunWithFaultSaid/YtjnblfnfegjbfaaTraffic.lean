/- How much the parties send. -/
import Derived.Test.YtjnblfnfegjbfaaIsAr
import Derived.Test.YtjnblfnfegjbfaaLocal
import Derived.Test.YtjnblfnfegjbfaaDigest
namespace Go.Proofs.Ytjnblfnfegjbfaa
open Go.RowKit

/-- How many of the first k gates are of kind d. -/
def cnt (G : List Int) (d : Int) : Nat → Int
  | 0 => 0
  | k + 1 => cnt G d k + if G.getD (k * 3) 0 = d then 1 else 0
theorem cnt_rng (G : List Int) (d : Int) (k : Nat) : 0 ≤ cnt G d k ∧ cnt G d k ≤ k := by
  induction k with
  | zero => exact ⟨Int.le_refl _, Int.le_refl _⟩
  | succ k ih => unfold cnt; split <;> omega
def cntL (G : List Int) (k : Nat) : List Int := [cnt G 0 k, cnt G 1 k, cnt G 2 k, cnt G 3 k]
theorem cntL_at (G : List Int) (k d : Nat) (h : d < 4) : (cntL G k).getD d 0 = cnt G d k := by
  match d, h with
  | 0, _ => rfl
  | 1, _ => rfl
  | 2, _ => rfl
  | 3, _ => rfl
theorem cntL_set (G : List Int) (k d : Nat) (h : d < 4) (hd : G.getD (k * 3) 0 = d) : (cntL G k).set d (cnt G d k + 1) = cntL G (k + 1) := by
  unfold cntL
  simp only [cnt]
  match d, h, hd with
  | 0, _, hd => rw [hd]; simp
  | 1, _, hd => rw [hd]; simp
  | 2, _, hd => rw [hd]; simp
  | 3, _, hd => rw [hd]; simp
set_option maxHeartbeats 4000000 in
set_option maxRecDepth 100000 in
theorem countKinds_any (ga : Option Addr) (gn gc : Nat) (G : List Int) (w : World) (hG : Flat 3 w ga gn gc G) (hg : gn ≤ 100000) (hk : ∀ i, i < gn → 0 ≤ G.getD (i * 3) 0 ∧ G.getD (i * 3) 0 ≤ 3) :
    Calls Try.prog 70 #[.slice ga gn gc] w fun e w' => ∃ a c, e = .returned (.slice a 4 c) ∧ Own w' w.heap.size a 4 c (cntL G gn) ∧ Below w.heap.size w w' := by
  have HK := Lib.hid hk
  clear hk
  have hmk : ∀ W, (Instr.makeSlice 23 (.int .i64 4) (.int .i64 4)).run Try.prog W = .ok (.slice (some ⟨W.heap.size, 0, none⟩) 4 4) (W.alloc (.cells #[.int .i64 0, .int .i64 0, .int .i64 0, .int .i64 0] 3)) := fun _ => by kernel_rfl
  have own0 : Own (w.alloc (.cells #[.int .i64 0, .int .i64 0, .int .i64 0, .int .i64 0] 3)) w.heap.size (some ⟨w.heap.size, 0, none⟩) 4 4 (cntL G 0) := Own.lit w w.heap.size [0, 0, 0, 0] (Nat.le_refl _) (by simp [maxLen])
  have bel0 : Below w.heap.size w (w.alloc (.cells #[.int .i64 0, .int .i64 0, .int .i64 0, .int .i64 0] 3)) := (Below.refl _ _).alloc (Nat.le_refl _) _
  go_enter Try.func70, Try.ntmps70
  go_wp2
  clear hmk
  go_loopw [9] (fun v wr => ∃ k : Nat, k ≤ gn ∧ v = .int .i64 k ∧ Below w.heap.size w wr ∧ Own wr w.heap.size (some ⟨w.heap.size, 0, none⟩) 4 4 (cntL G k)) (fun v _ => gn - (intOf v).toNat)
  case atStart => exact ⟨0, Nat.zero_le _, rfl, bel0, own0⟩
  case round =>
    obtain ⟨k, hk, rfl, hbel, own⟩ := hrel
    clear own0 bel0
    by_cases hlt : k < gn
    · obtain ⟨g, o, rfl, hc⟩ := (hG.below hbel).at (by omega)
      have c0 : wr.cell? ⟨g, o + k * 3, none⟩ = some (.int .i64 (G.getD (k * 3) 0)) := hc (k * 3) (by omega)
      have c1 : wr.cell? ⟨g, o + k * 3 + 1, none⟩ = some (.int .i64 (G.getD (k * 3 + 1) 0)) := by have := hc (k * 3 + 1) (by omega); simpa only [Nat.add_assoc] using this
      have c2 : wr.cell? ⟨g, o + k * 3 + 2, none⟩ = some (.int .i64 (G.getD (k * 3 + 2) 0)) := by have := hc (k * 3 + 2) (by omega); simpa only [Nat.add_assoc] using this
      obtain ⟨ka, hka⟩ : ∃ x, G.getD (k * 3 + 1) 0 = x := ⟨_, rfl⟩
      obtain ⟨kb, hkb⟩ : ∃ x, G.getD (k * 3 + 2) 0 = x := ⟨_, rfl⟩
      rw [hka] at c1
      rw [hkb] at c2
      clear hc hka hkb
      obtain ⟨r0, r1⟩ := HK.out k hlt
      obtain ⟨d, hd⟩ : ∃ d : Nat, G.getD (k * 3) 0 = d := ⟨(G.getD (k * 3) 0).toNat, by omega⟩
      rw [hd] at c0 r0 r1
      have hd4 : d < 4 := by omega
      have HS := Lib.hid (cntL_set G k d hd4 hd)
      have HA := Lib.hid (cntL_at G k d hd4)
      have rn := cnt_rng G d k
      clear hd
      obtain ⟨_, E, _, _, y0, y1, y2⟩ := own.at d hd4
      cases E
      rw [HA.out] at y0
      have y3 := y2 (cnt G d k + 1)
      rw [HS.out] at y3
      generalize cnt G d k = cd at *
      have o1 := own.alloc (.cells #[.int .i64 d, .int .i64 ka, .int .i64 kb] 77)
      obtain ⟨_, E, _, _, z0, z1, z2⟩ := o1.at d hd4
      cases E
      rw [HA.out] at z0
      have HZ := Lib.hid (y3.alloc (.cells #[.int .i64 d, .int .i64 ka, .int .i64 kb] 77))
      have HB := Lib.hid ((hbel.setCell (p := ⟨w.heap.size, d, none⟩) (Nat.le_refl _) (.int .i64 (cd + 1))).alloc (by have := hbel.size; simpa [World.setCell] using this) (.cells #[.int .i64 d, .int .i64 ka, .int .i64 kb] 77))
      clear y0 y1 y2 y3 z2 own o1 hbel
      go_wp2
      go_roundw
      case rel => exact ⟨k + 1, by omega, by go_num, HB.out, HZ.out⟩
      case measure => simp [intOf]; omega
    · obtain rfl : k = gn := by omega
      go_wp2
      go_ret
      exact ⟨_, _, rfl, own, hbel⟩
def trfL (P i0 i1 : Int) (gn : Nat) (G O : List Int) : List Int := if arB P i0 i1 gn G O then [i0 + (2 * cnt G 1 gn + O.length), i1 + (2 * cnt G 1 gn + O.length)] else []
theorem trfL_len (P i0 i1 : Int) (gn : Nat) (G O : List Int) : (trfL P i0 i1 gn G O).length ≤ 1000000 := by unfold trfL; split <;> simp
theorem arB_all {P i0 i1 : Int} {gn : Nat} {G O : List Int} (h : arB P i0 i1 gn G O = true) : (0 ≤ i0 ∧ i0 ≤ 8) ∧ (0 ≤ i1 ∧ i1 ≤ 8) ∧ gn ≤ 100 ∧ O.length ≤ 20 ∧ isPr P = true ∧ (∀ k, k < gn → gateAt P (i0 + i1) G k = true) ∧ ∀ x ∈ O, 0 ≤ x ∧ x ≤ i0 + i1 + gn - 1 := by
  simp only [arB, Bool.and_eq_true, decide_eq_true_eq] at h
  obtain ⟨⟨⟨⟨⟨⟨h1, h2⟩, h3⟩, h4⟩, h5⟩, h6⟩, h7⟩ := h
  exact ⟨inB_true h2, inB_true h3, h4, h5, h1, fun k hk => List.all_eq_true.1 h6 k (List.mem_range.2 hk), (allB_iff ..).1 h7⟩
theorem gateAt_kind {P own : Int} {G : List Int} {k : Nat} (h : gateAt P own G k = true) : 0 ≤ G.getD (k * 3) 0 ∧ G.getD (k * 3) 0 ≤ 3 := by
  unfold gateAt gateB at h
  split at h
  · rename_i h1; omega
  · split at h
    · rename_i h2; omega
    · split at h
      · rename_i h3; omega
      · cases h
set_option maxHeartbeats 8000000 in
set_option maxRecDepth 100000 in
theorem TrafficOf_any (P i0 i1 : Int) (ga : Option Addr) (gn gc : Nat) (G : List Int) (oa : Option Addr) (on oc : Nat) (O : List Int) (w : World) (hG : Flat 3 w ga gn gc G) (hO : Ints w oa on oc O) :
    Calls Try.prog 20 #[.agg #[.int .i64 P, .int .i64 i0, .int .i64 i1, .slice ga gn gc, .slice oa on oc]] w fun e w' => ∃ a n c, e = .returned (.tuple #[.slice a n c, .bool (arB P i0 i1 gn G O)]) ∧ Own w' w.heap.size a n c (trfL P i0 i1 gn G O) ∧ Below w.heap.size w w' := by
  have V0 : Below w.heap.size w (w.alloc (.cells #[.int .i64 P, .int .i64 i0, .int .i64 i1, .slice ga gn gc, .slice oa on oc] 31)) := (Below.refl _ _).alloc (Nat.le_refl _) _
  have B0 : Blk (w.alloc (.cells #[.int .i64 P, .int .i64 i0, .int .i64 i1, .slice ga gn gc, .slice oa on oc] 31)) w.heap.size 31 #[.int .i64 P, .int .i64 i0, .int .i64 i1, .slice ga gn gc, .slice oa on oc] := Blk.new w _ _
  have hgl := hG.le
  have hol := hO.le
  unfold trfL
  cases h1 : arB P i0 i1 gn G O
  · simp only [Bool.false_eq_true, if_false]
    go_enter Try.func20, Try.ntmps20
    go_wp2_with fail
    generalize (w.alloc (.cells #[.int .i64 P, .int .i64 i0, .int .i64 i1, .slice ga gn gc, .slice oa on oc] 31)) = w0 at *
    refine (IsArith_any _ _ _ _ _ _ G _ _ _ O _ (hG.below V0) (hO.below V0)).mono ?_; rintro e w1 ⟨rfl, u⟩
    rw [h1]
    go_wp2
    go_ret2
    exact ⟨_, _, _, rfl, Own.nil0 _ _ _, V0.trans (u.mono V0.size)⟩
  simp only [if_true]
  obtain ⟨⟨r0, r0'⟩, ⟨r1, r1'⟩, r2, r3, _, hga, _⟩ := arB_all h1
  have HGA := Lib.hid hga
  clear hga
  rw [← hO.len] at r3 ⊢
  go_enter Try.func20, Try.ntmps20
  go_wp2_with fail
  generalize (w.alloc (.cells #[.int .i64 P, .int .i64 i0, .int .i64 i1, .slice ga gn gc, .slice oa on oc] 31)) = w0 at *
  refine (IsArith_any _ _ _ _ _ _ G _ _ _ O _ (hG.below V0) (hO.below V0)).mono ?_; rintro e w1 ⟨rfl, u⟩
  rw [h1]
  have V1 := V0.trans (u.mono V0.size)
  have B1 := B0.below u
  clear u V0 B0
  have x3 : w1.cell? ⟨w.heap.size, 3, none⟩ = some (.slice ga gn gc) := B1.cell 3
  have x4 : w1.cell? ⟨w.heap.size, 4, none⟩ = some (.slice oa on oc) := B1.cell 4
  have rc := cnt_rng G 1 gn
  have HC : Hid ((cntL G gn).getD 1 0 = cnt G 1 gn) := Lib.hid (cntL_at G gn 1 (by omega))
  obtain ⟨c1, hc1⟩ : ∃ x, cnt G 1 gn = x := ⟨_, rfl⟩
  have HC1 := Lib.hid hc1
  rw [hc1] at rc
  clear hc1
  have t1 : IntKind.i64.wrap (2 * c1) = 2 * c1 := IntWalk.i64_in _ (by omega)
  have t2 : IntKind.i64.wrap (2 * c1 + (on : Int)) = 2 * c1 + on := IntWalk.i64_in _ (by omega)
  go_wp2
  go_region_with ((go_at_call 70; refine (countKinds_any _ _ _ G _ (hG.below V1.drew) (by omega) (fun i hi => gateAt_kind (HGA.out i hi))).mono ?_; rintro e w2 ⟨a2, c2, rfl, o2, u⟩; obtain ⟨g2, p2, rfl, hc2⟩ := o2.ints.cells (by omega); have y1 := hc2 1 (by omega); rw [HC.out] at y1; rw [HC1.out] at y1; have y4 : w2.cell? ⟨w.heap.size, 4, none⟩ = some (.slice oa on oc) := keepC u x4; clear hc2))
  all_goals
    have u' : Below w1.heap.size w1 w2 := (Below.refl _ _).drew.trans u
    have V2 := V1.trans (u'.mono V1.size)
    have B2 := B1.below u'
    clear u u' V1 B1 o2 x3 x4
    have x1 : w2.cell? ⟨w.heap.size, 1, none⟩ = some (.int .i64 i0) := B2.cell 1
    have x2 : w2.cell? ⟨w.heap.size, 2, none⟩ = some (.int .i64 i1) := B2.cell 2
    have hlit := Ints.lit2 w2 (i0 + (2 * c1 + on)) (i1 + (2 * c1 + on)) 3
    go_wp2_with fail
    refine (Clone_any _ 2 2 [i0 + (2 * c1 + on), i1 + (2 * c1 + on)] _ hlit (by omega)).mono ?_; rintro e w3 ⟨a3, c3, rfl, o3, u3⟩
    go_wp2
    go_ret2
    exact ⟨_, _, _, rfl, by rw [HC1.out]; exact o3.lower (by have := V2.size; simp; omega), V2.trans ((below_a1 u3).mono V2.size)⟩
set_option maxHeartbeats 8000000 in
set_option maxRecDepth 100000 in
theorem spec_TrafficOf_any (P i0 i1 : Int) (ga : Option Addr) (gn gc : Nat) (G : List Int) (oa : Option Addr) (on oc : Nat) (O : List Int) (w : World) (hG : Flat 3 w ga gn gc G) (hO : Ints w oa on oc O) :
    Calls Try.prog 19 #[.agg #[.int .i64 P, .int .i64 i0, .int .i64 i1, .slice ga gn gc, .slice oa on oc]] w fun e w' => ∃ a n c, e = .returned (.tuple #[.slice a n c, .bool (arB P i0 i1 gn G O)]) ∧ Own w' w.heap.size a n c (trfL P i0 i1 gn G O) ∧ Below w.heap.size w w' := by
  have V0 : Below w.heap.size w (w.alloc (.cells #[.int .i64 P, .int .i64 i0, .int .i64 i1, .slice ga gn gc, .slice oa on oc] 31)) := (Below.refl _ _).alloc (Nat.le_refl _) _
  have B0 : Blk (w.alloc (.cells #[.int .i64 P, .int .i64 i0, .int .i64 i1, .slice ga gn gc, .slice oa on oc] 31)) w.heap.size 31 #[.int .i64 P, .int .i64 i0, .int .i64 i1, .slice ga gn gc, .slice oa on oc] := Blk.new w _ _
  have hgl := hG.le
  have hol := hO.le
  unfold trfL
  cases h1 : arB P i0 i1 gn G O
  · simp only [Bool.false_eq_true, if_false]
    go_enter Try.func19, Try.ntmps19
    go_wp2_with fail
    generalize (w.alloc (.cells #[.int .i64 P, .int .i64 i0, .int .i64 i1, .slice ga gn gc, .slice oa on oc] 31)) = w0 at *
    refine (arGood_any _ _ _ _ _ _ G _ _ _ O _ (hG.below V0) (hO.below V0)).mono ?_; rintro e w1 ⟨rfl, u⟩
    rw [h1]
    go_wp2
    go_ret2
    exact ⟨_, _, _, rfl, Own.nil0 _ _ _, V0.trans (u.mono V0.size)⟩
  simp only [if_true]
  obtain ⟨⟨r0, r0'⟩, ⟨r1, r1'⟩, r2, r3, _, hga, _⟩ := arB_all h1
  have HGA := Lib.hid hga
  clear hga
  rw [← hO.len] at r3 ⊢
  go_enter Try.func19, Try.ntmps19
  go_wp2_with fail
  generalize (w.alloc (.cells #[.int .i64 P, .int .i64 i0, .int .i64 i1, .slice ga gn gc, .slice oa on oc] 31)) = w0 at *
  refine (arGood_any _ _ _ _ _ _ G _ _ _ O _ (hG.below V0) (hO.below V0)).mono ?_; rintro e w1 ⟨rfl, u⟩
  rw [h1]
  have V1 := V0.trans (u.mono V0.size)
  have B1 := B0.below u
  clear u V0 B0
  have x3 : w1.cell? ⟨w.heap.size, 3, none⟩ = some (.slice ga gn gc) := B1.cell 3
  have x4 : w1.cell? ⟨w.heap.size, 4, none⟩ = some (.slice oa on oc) := B1.cell 4
  have HC : Hid (∀ k, cnt G 1 (k + 1) = cnt G 1 k + if G.getD (k * 3) 0 = 1 then 1 else 0) := fun _ => rfl
  go_wp2
  go_loopw [4, 16] (fun u v wr => ∃ k : Nat, k ≤ gn ∧ v = .int .i64 k ∧ u = .int .i64 (2 * cnt G 1 k + on) ∧ Below w.heap.size w wr ∧ Blk wr w.heap.size 31 #[.int .i64 P, .int .i64 i0, .int .i64 i1, .slice ga gn gc, .slice oa on oc]) (fun _ v _ => gn - (intOf v).toNat)
  case atStart => exact ⟨0, Nat.zero_le _, rfl, by simp [cnt], V1, B1⟩
  case round =>
    obtain ⟨k, hk, rfl, rfl, hbel, hB⟩ := hrel
    clear V1 B1 x3 x4
    have rc := cnt_rng G 1 k
    by_cases hlt : k < gn
    · obtain ⟨g, o, rfl, hc⟩ := (hG.below hbel).at (by omega)
      have c0 : wr.cell? ⟨g, o + k * 3, none⟩ = some (.int .i64 (G.getD (k * 3) 0)) := hc (k * 3) (by omega)
      have c1 : wr.cell? ⟨g, o + k * 3 + 1, none⟩ = some (.int .i64 (G.getD (k * 3 + 1) 0)) := by have := hc (k * 3 + 1) (by omega); simpa only [Nat.add_assoc] using this
      have c2 : wr.cell? ⟨g, o + k * 3 + 2, none⟩ = some (.int .i64 (G.getD (k * 3 + 2) 0)) := by have := hc (k * 3 + 2) (by omega); simpa only [Nat.add_assoc] using this
      obtain ⟨ka, hka⟩ : ∃ x, G.getD (k * 3 + 1) 0 = x := ⟨_, rfl⟩
      obtain ⟨kb, hkb⟩ : ∃ x, G.getD (k * 3 + 2) 0 = x := ⟨_, rfl⟩
      rw [hka] at c1
      rw [hkb] at c2
      clear hc hka hkb
      have HS := Lib.hid (HC.out k)
      obtain ⟨kd, hkd⟩ : ∃ x, G.getD (k * 3) 0 = x := ⟨_, rfl⟩
      rw [hkd] at c0
      have HKD := Lib.hid hkd
      have V2 := hbel.alloc hbel.size (.cells #[.int .i64 kd, .int .i64 ka, .int .i64 kb] 77)
      have B2 := hB.alloc (.cells #[.int .i64 kd, .int .i64 ka, .int .i64 kb] 77)
      clear hkd
      by_cases hk1 : kd = 1
      · have f1 : ((kd == 1) : Bool) = true := by simpa using hk1
        have HE := Lib.hid (HS.out.trans (by rw [HKD.out, if_pos hk1]))
        clear hk1
        go_wp2
        go_roundw
        case rel => exact ⟨k + 1, by omega, by go_num, v_int (by rw [HE.out]; omega), V2, B2⟩
        case measure => simp [intOf]; omega
      · have f1 : ((kd == 1) : Bool) = false := by simpa using hk1
        have HE := Lib.hid (HS.out.trans (by rw [HKD.out, if_neg hk1]))
        clear hk1
        go_wp2
        go_roundw
        case rel => exact ⟨k + 1, by omega, by go_num, v_int (by rw [HE.out]; omega), V2, B2⟩
        case measure => simp [intOf]; omega
    · obtain rfl : k = gn := by omega
      have x1 : wr.cell? ⟨w.heap.size, 1, none⟩ = some (.int .i64 i0) := hB.cell 1
      have x2 : wr.cell? ⟨w.heap.size, 2, none⟩ = some (.int .i64 i1) := hB.cell 2
      have e0 : ([2 * cnt G 1 k + (on : Int) + i0, 2 * cnt G 1 k + (on : Int) + i1] : List Int) = [i0 + (2 * cnt G 1 k + on), i1 + (2 * cnt G 1 k + on)] := by rw [Int.add_comm _ i0, Int.add_comm _ i1]
      have HE := Lib.hid e0
      clear e0
      go_wp2
      go_ret2
      exact ⟨_, _, _, rfl, HE.out ▸ Own.lit wr _ [2 * cnt G 1 k + (on : Int) + i0, 2 * cnt G 1 k + (on : Int) + i1] hbel.size (by simp [maxLen]), hbel.alloc hbel.size _⟩
set_option maxHeartbeats 8000000 in
set_option maxRecDepth 100000 in
theorem FnExactTrafficOf_walk (a0_0 : Int) (a0_1 : Int) (a0_2 : Int) (a0_3 : Option Addr) (n0_3 c0_3 : Nat) (l0_3 : List Int) (a0_4 : Option Addr) (n0_4 c0_4 : Nat) (l0_4 : List Int) (w : World) (_w0_0 : -9223372036854775808 ≤ a0_0 ∧ a0_0 ≤ 9223372036854775807) (_w0_1 : -9223372036854775808 ≤ a0_1 ∧ a0_1 ≤ 9223372036854775807) (_w0_2 : -9223372036854775808 ≤ a0_2 ∧ a0_2 ≤ 9223372036854775807) (z0_3 : Flat 3 w a0_3 n0_3 c0_3 l0_3) (_wf0_3 : Wf l0_3) (z0_4 : Ints w a0_4 n0_4 c0_4 l0_4) (_wf0_4 : Wf l0_4) :
    Calls Try.prog 4 #[.agg #[.int .i64 a0_0, .int .i64 a0_1, .int .i64 a0_2, .slice a0_3 n0_3 c0_3, .slice a0_4 n0_4 c0_4]] w fun e w' => e = .returned (.bool true) ∧ Below w.heap.size w w' := by
  have hn0_3 : (n0_3 : Int) ≤ 9223372036854775807 := z0_3.le
  have hn0_4 : (n0_4 : Int) ≤ 9223372036854775807 := z0_4.le
  by_cases ht0 : (n0_3 : Int) + (n0_4 : Int) ≤ 1048576
  · skip
    go_enter Try.func4, Try.ntmps4
    go_wp2_with fail
    have V_w1' : Below w.heap.size w (w.alloc (.cells #[.int .i64 a0_0, .int .i64 a0_1, .int .i64 a0_2, .slice a0_3 n0_3 c0_3, .slice a0_4 n0_4 c0_4] 25)) := (((Below.refl w.heap.size w)).alloc (by have := ((Below.refl w.heap.size w)).size; first | exact this | (simp; omega) | simp) _)
    have B_p0 : Blk (w.alloc (.cells #[.int .i64 a0_0, .int .i64 a0_1, .int .i64 a0_2, .slice a0_3 n0_3 c0_3, .slice a0_4 n0_4 c0_4] 25)) (w.heap.size) 25 #[.int .i64 a0_0, .int .i64 a0_1, .int .i64 a0_2, .slice a0_3 n0_3 c0_3, .slice a0_4 n0_4 c0_4] := Blk.new w 25 #[.int .i64 a0_0, .int .i64 a0_1, .int .i64 a0_2, .slice a0_3 n0_3 c0_3, .slice a0_4 n0_4 c0_4]
    have S_w1' : w.heap.size + 1 ≤ (w.alloc (.cells #[.int .i64 a0_0, .int .i64 a0_1, .int .i64 a0_2, .slice a0_3 n0_3 c0_3, .slice a0_4 n0_4 c0_4] 25)).heap.size := by simp
    generalize (w.alloc (.cells #[.int .i64 a0_0, .int .i64 a0_1, .int .i64 a0_2, .slice a0_3 n0_3 c0_3, .slice a0_4 n0_4 c0_4] 25)) = w1' at *
    refine (szArith_yes _ _ _ _ _ _ _ _ _ _ _ hn0_3 hn0_4 (by omega) (by omega)).mono ?_
    rintro e w2' ⟨rfl, u_w2'⟩
    replace B_p0 := B_p0.below u_w2'
    have V_w2' := V_w1'.trans (u_w2'.mono (V_w1').size)
    have S_w2' := u_w2'.size
    clear u_w2' V_w1'
    have e_p0_0 : w2'.cell? ⟨w.heap.size, 0, none⟩ = some (.int .i64 a0_0) := B_p0.cell 0
    have e_p0_1 : w2'.cell? ⟨w.heap.size, 1, none⟩ = some (.int .i64 a0_1) := B_p0.cell 1
    have e_p0_2 : w2'.cell? ⟨w.heap.size, 2, none⟩ = some (.int .i64 a0_2) := B_p0.cell 2
    have e_p0_3 : w2'.cell? ⟨w.heap.size, 3, none⟩ = some (.slice a0_3 n0_3 c0_3) := B_p0.cell 3
    have e_p0_4 : w2'.cell? ⟨w.heap.size, 4, none⟩ = some (.slice a0_4 n0_4 c0_4) := B_p0.cell 4
    go_wp2_with fail
    clear e_p0_0 e_p0_1 e_p0_2 e_p0_3 e_p0_4
    refine (toArith_any _ _ _ _ _ _ l0_3 _ _ _ l0_4 _ (z0_3.below V_w2') (z0_4.below V_w2') (by omega) (by omega)).mono ?_
    rintro e w3' ⟨y_a0_3, y_c0_3, y_a0_4, y_c0_4, rfl, y0_3, y0_4, dj_y0_3_0_4, u_w3'⟩
    replace B_p0 := B_p0.below u_w3'
    have V_w3' := V_w2'.trans (u_w3'.mono (V_w2').size)
    have S_w3' := u_w3'.size
    clear u_w3' V_w2'
    have Q_y0_3 := Lib.hid y0_3.feet
    have Q_y0_4 := Lib.hid y0_4.feet
    go_wp2_with fail
    refine (spec_TrafficOf_any _ _ _ _ _ _ l0_3 _ _ _ l0_4 _ y0_3.flat y0_4.ints).mono ?_
    rintro e w4' ⟨r_a0, r_n0, r_c0, rfl, r0, u_w4'⟩
    replace B_p0 := B_p0.below u_w4'
    replace y0_3 := y0_3.below u_w4'
    replace y0_4 := y0_4.below u_w4'
    have V_w4' := V_w3'.trans (u_w4'.mono (V_w3').size)
    have S_w4' := u_w4'.size
    clear u_w4' V_w3'
    have Q_r0 := Lib.hid r0.feet
    clear y0_3
    clear y0_4
    have e_p0_0 : w4'.cell? ⟨w.heap.size, 0, none⟩ = some (.int .i64 a0_0) := B_p0.cell 0
    have e_p0_1 : w4'.cell? ⟨w.heap.size, 1, none⟩ = some (.int .i64 a0_1) := B_p0.cell 1
    have e_p0_2 : w4'.cell? ⟨w.heap.size, 2, none⟩ = some (.int .i64 a0_2) := B_p0.cell 2
    have e_p0_3 : w4'.cell? ⟨w.heap.size, 3, none⟩ = some (.slice a0_3 n0_3 c0_3) := B_p0.cell 3
    have e_p0_4 : w4'.cell? ⟨w.heap.size, 4, none⟩ = some (.slice a0_4 n0_4 c0_4) := B_p0.cell 4
    go_wp2_with fail
    clear e_p0_0 e_p0_1 e_p0_2 e_p0_3 e_p0_4
    refine (toArith_any _ _ _ _ _ _ l0_3 _ _ _ l0_4 _ (z0_3.below V_w4') (z0_4.below V_w4') (by omega) (by omega)).mono ?_
    rintro e w5' ⟨x_a0_3, x_c0_3, x_a0_4, x_c0_4, rfl, x0_3, x0_4, dj_x0_3_0_4, u_w5'⟩
    replace B_p0 := B_p0.below u_w5'
    replace r0 := r0.below u_w5'
    have V_w5' := V_w4'.trans (u_w5'.mono (V_w4').size)
    have S_w5' := u_w5'.size
    clear u_w5' V_w4'
    have Q_x0_3 := Lib.hid x0_3.feet
    have Q_x0_4 := Lib.hid x0_4.feet
    go_wp2_with fail
    have V_w6' : Below w.heap.size w (w5'.alloc (.cells #[.int .i64 a0_0, .int .i64 a0_1, .int .i64 a0_2, .slice x_a0_3 n0_3 x_c0_3, .slice x_a0_4 n0_4 x_c0_4] 31)) := ((V_w5').alloc (by have := (V_w5').size; first | exact this | (simp; omega) | simp) _)
    replace B_p0 := B_p0.alloc (.cells #[.int .i64 a0_0, .int .i64 a0_1, .int .i64 a0_2, .slice x_a0_3 n0_3 x_c0_3, .slice x_a0_4 n0_4 x_c0_4] 31)
    replace r0 := r0.alloc (.cells #[.int .i64 a0_0, .int .i64 a0_1, .int .i64 a0_2, .slice x_a0_3 n0_3 x_c0_3, .slice x_a0_4 n0_4 x_c0_4] 31)
    replace x0_3 := x0_3.alloc (.cells #[.int .i64 a0_0, .int .i64 a0_1, .int .i64 a0_2, .slice x_a0_3 n0_3 x_c0_3, .slice x_a0_4 n0_4 x_c0_4] 31)
    replace x0_4 := x0_4.alloc (.cells #[.int .i64 a0_0, .int .i64 a0_1, .int .i64 a0_2, .slice x_a0_3 n0_3 x_c0_3, .slice x_a0_4 n0_4 x_c0_4] 31)
    have B_x0 : Blk (w5'.alloc (.cells #[.int .i64 a0_0, .int .i64 a0_1, .int .i64 a0_2, .slice x_a0_3 n0_3 x_c0_3, .slice x_a0_4 n0_4 x_c0_4] 31)) (w5'.heap.size) 31 #[.int .i64 a0_0, .int .i64 a0_1, .int .i64 a0_2, .slice x_a0_3 n0_3 x_c0_3, .slice x_a0_4 n0_4 x_c0_4] := Blk.new w5' 31 #[.int .i64 a0_0, .int .i64 a0_1, .int .i64 a0_2, .slice x_a0_3 n0_3 x_c0_3, .slice x_a0_4 n0_4 x_c0_4]
    have S_w6' : w5'.heap.size + 1 ≤ (w5'.alloc (.cells #[.int .i64 a0_0, .int .i64 a0_1, .int .i64 a0_2, .slice x_a0_3 n0_3 x_c0_3, .slice x_a0_4 n0_4 x_c0_4] 31)).heap.size := by simp
    generalize (w5'.alloc (.cells #[.int .i64 a0_0, .int .i64 a0_1, .int .i64 a0_2, .slice x_a0_3 n0_3 x_c0_3, .slice x_a0_4 n0_4 x_c0_4] 31)) = w6' at *
    clear V_w5'
    refine (TrafficOf_any _ _ _ _ _ _ l0_3 _ _ _ l0_4 _ x0_3.flat x0_4.ints).mono ?_
    rintro e w7' ⟨g_a0, g_n0, g_c0, rfl, g0, u_w7'⟩
    replace B_p0 := B_p0.below u_w7'
    replace B_x0 := B_x0.below u_w7'
    replace r0 := r0.below u_w7'
    replace x0_3 := x0_3.below u_w7'
    replace x0_4 := x0_4.below u_w7'
    have V_w7' := V_w6'.trans (u_w7'.mono (V_w6').size)
    have S_w7' := u_w7'.size
    clear u_w7' V_w6'
    have Q_g0 := Lib.hid g0.feet
    go_wp2_with fail
    refine (eqIntS_b _ _ _ _ _ _ _ _ g0.ints r0.ints).mono ?_
    rintro e w8' ⟨rfl, u_w8'⟩
    replace B_p0 := B_p0.below u_w8'
    replace B_x0 := B_x0.below u_w8'
    replace r0 := r0.below u_w8'
    replace x0_3 := x0_3.below u_w8'
    replace x0_4 := x0_4.below u_w8'
    replace g0 := g0.below u_w8'
    have V_w8' := V_w7'.trans (u_w8'.mono (V_w7').size)
    have S_w8' := u_w8'.size
    clear u_w8' V_w7'
    have e_x0_0 : w8'.cell? ⟨w5'.heap.size, 0, none⟩ = some (.int .i64 a0_0) := B_x0.cell 0
    have e_x0_1 : w8'.cell? ⟨w5'.heap.size, 1, none⟩ = some (.int .i64 a0_1) := B_x0.cell 1
    have e_x0_2 : w8'.cell? ⟨w5'.heap.size, 2, none⟩ = some (.int .i64 a0_2) := B_x0.cell 2
    have e_x0_3 : w8'.cell? ⟨w5'.heap.size, 3, none⟩ = some (.slice x_a0_3 n0_3 x_c0_3) := B_x0.cell 3
    have e_x0_4 : w8'.cell? ⟨w5'.heap.size, 4, none⟩ = some (.slice x_a0_4 n0_4 x_c0_4) := B_x0.cell 4
    have e_p0_0 : w8'.cell? ⟨w.heap.size, 0, none⟩ = some (.int .i64 a0_0) := B_p0.cell 0
    have e_p0_1 : w8'.cell? ⟨w.heap.size, 1, none⟩ = some (.int .i64 a0_1) := B_p0.cell 1
    have e_p0_2 : w8'.cell? ⟨w.heap.size, 2, none⟩ = some (.int .i64 a0_2) := B_p0.cell 2
    have e_p0_3 : w8'.cell? ⟨w.heap.size, 3, none⟩ = some (.slice a0_3 n0_3 c0_3) := B_p0.cell 3
    have e_p0_4 : w8'.cell? ⟨w.heap.size, 4, none⟩ = some (.slice a0_4 n0_4 c0_4) := B_p0.cell 4
    go_wp2
    go_region_held3 (fun W => W.cell? ⟨w5'.heap.size, 0, none⟩ = some (.int .i64 a0_0) ∧ W.cell? ⟨w5'.heap.size, 1, none⟩ = some (.int .i64 a0_1) ∧ W.cell? ⟨w5'.heap.size, 2, none⟩ = some (.int .i64 a0_2) ∧ W.cell? ⟨w5'.heap.size, 3, none⟩ = some (.slice x_a0_3 n0_3 x_c0_3) ∧ W.cell? ⟨w5'.heap.size, 4, none⟩ = some (.slice x_a0_4 n0_4 x_c0_4) ∧ W.cell? ⟨w.heap.size, 0, none⟩ = some (.int .i64 a0_0) ∧ W.cell? ⟨w.heap.size, 1, none⟩ = some (.int .i64 a0_1) ∧ W.cell? ⟨w.heap.size, 2, none⟩ = some (.int .i64 a0_2) ∧ W.cell? ⟨w.heap.size, 3, none⟩ = some (.slice a0_3 n0_3 c0_3) ∧ W.cell? ⟨w.heap.size, 4, none⟩ = some (.slice a0_4 n0_4 c0_4))
      (first | go_keep | exact ⟨keepC tv (keepC tu e_x0_0), keepC tv (keepC tu e_x0_1), keepC tv (keepC tu e_x0_2), keepC tv (keepC tu e_x0_3), keepC tv (keepC tu e_x0_4), keepC tv (keepC tu e_p0_0), keepC tv (keepC tu e_p0_1), keepC tv (keepC tu e_p0_2), keepC tv (keepC tu e_p0_3), keepC tv (keepC tu e_p0_4)⟩ | exact ⟨keepC tu e_x0_0, keepC tu e_x0_1, keepC tu e_x0_2, keepC tu e_x0_3, keepC tu e_x0_4, keepC tu e_p0_0, keepC tu e_p0_1, keepC tu e_p0_2, keepC tu e_p0_3, keepC tu e_p0_4⟩)
      (first | (go_at_call 14; refine (toArith_any _ _ _ _ _ _ l0_3 _ _ _ l0_4 _ (z0_3.below V_w8'.drew) (z0_4.below V_w8'.drew) (by omega) (by omega)).mono ?_; rintro e wt ⟨t_a0_3, t_c0_3, t_a0_4, t_c0_4, rfl, t0_3, t0_4, _, tu⟩) | (go_at_call 17; refine (eqArith_same _ _ _ _ _ _ _ _ _ l0_3 _ _ _ _ _ _ l0_4 _ (x0_3.drew.below tu).flat t0_3.flat (x0_4.drew.below tu).ints t0_4.ints).mono ?_; rintro e wq ⟨rfl, tv⟩))
    have u_w9' : Below w8'.heap.size w8' wq := (Below.refl _ _).drew.trans (tu.trans (tv.mono tu.size))
    clear tu tv e_x0_0 e_x0_1 e_x0_2 e_x0_3 e_x0_4 e_p0_0 e_p0_1 e_p0_2 e_p0_3 e_p0_4 t0_3 t0_4
    replace B_p0 := B_p0.below u_w9'
    replace B_x0 := B_x0.below u_w9'
    replace r0 := r0.below u_w9'
    replace x0_3 := x0_3.below u_w9'
    replace x0_4 := x0_4.below u_w9'
    replace g0 := g0.below u_w9'
    have V_wq := V_w8'.trans (u_w9'.mono (V_w8').size)
    have S_wq := u_w9'.size
    clear u_w9' V_w8'
    generalize wq = w9' at *
    have V_w9' := V_wq
    clear V_wq
    have S_w9' := S_wq
    clear S_wq
    have e_x0_0 : w9'.cell? ⟨w5'.heap.size, 0, none⟩ = some (.int .i64 a0_0) := B_x0.cell 0
    have e_x0_1 : w9'.cell? ⟨w5'.heap.size, 1, none⟩ = some (.int .i64 a0_1) := B_x0.cell 1
    have e_x0_2 : w9'.cell? ⟨w5'.heap.size, 2, none⟩ = some (.int .i64 a0_2) := B_x0.cell 2
    have e_x0_3 : w9'.cell? ⟨w5'.heap.size, 3, none⟩ = some (.slice x_a0_3 n0_3 x_c0_3) := B_x0.cell 3
    have e_x0_4 : w9'.cell? ⟨w5'.heap.size, 4, none⟩ = some (.slice x_a0_4 n0_4 x_c0_4) := B_x0.cell 4
    go_wp2_with fail
    clear e_x0_0 e_x0_1 e_x0_2 e_x0_3 e_x0_4
    refine (markArith_any _ _ _ _ _ _ _ _ _ _ _ _ _ _ _ x0_3 x0_4 dj_x0_3_0_4 (by omega) (by omega)).mono ?_
    rintro e w10' ⟨rfl, ⟨L_x0_3, x0_3, U_x0_3⟩, ⟨L_x0_4, x0_4, U_x0_4⟩, G⟩
    replace U_x0_3 := Lib.hid U_x0_3
    replace U_x0_4 := Lib.hid U_x0_4
    have RG : ∀ k ∈ foot x_a0_3 x_c0_3 ++ foot x_a0_4 x_c0_4, k ∈ foot x_a0_3 x_c0_3 ∨ k ∈ foot x_a0_4 x_c0_4 := fun k hk => by
      simpa [or_assoc] using hk
    replace r0 := r0.only G (Disj.app (fun k hk hk' => by have := Q_r0.out k hk; have := Q_x0_3.out k hk'; omega) (fun k hk hk' => by have := Q_r0.out k hk; have := Q_x0_4.out k hk'; omega))
    replace g0 := g0.only G (Disj.app (fun k hk hk' => by have := Q_g0.out k hk; have := Q_x0_3.out k hk'; omega) (fun k hk hk' => by have := Q_g0.out k hk; have := Q_x0_4.out k hk'; omega))
    replace B_p0 := B_p0.only G (fun hm => by rcases RG _ hm with h | h <;> first | (have := Q_x0_3.out _ h; omega) | (have := Q_x0_4.out _ h; omega))
    replace B_x0 := B_x0.only G (fun hm => by rcases RG _ hm with h | h <;> first | (have := Q_x0_3.out _ h; omega) | (have := Q_x0_4.out _ h; omega))
    have V_w10' := V_w9'.trans (G.below V_w9'.size (fun k hm => by have := V_w9'.size; rcases RG _ hm with h | h <;> first | (have := Q_x0_3.out _ h; omega) | (have := Q_x0_4.out _ h; omega)))
    have S_w10' := G.size
    clear G RG V_w9'
    go_wp2_with fail
    refine (eqIntS_b _ _ _ _ _ _ _ _ g0.ints r0.ints).mono ?_
    rintro e w11' ⟨rfl, u_w11'⟩
    replace B_p0 := B_p0.below u_w11'
    replace B_x0 := B_x0.below u_w11'
    replace r0 := r0.below u_w11'
    replace x0_3 := x0_3.below u_w11'
    replace x0_4 := x0_4.below u_w11'
    replace g0 := g0.below u_w11'
    have V_w11' := V_w10'.trans (u_w11'.mono (V_w10').size)
    have S_w11' := u_w11'.size
    clear u_w11' V_w10'
    clear x0_3
    clear x0_4
    clear B_x0
    have hlg0 : g_n0 ≤ 1000000 := by rw [g0.len]; exact trfL_len a0_0 a0_1 a0_2 n0_3 l0_3 l0_4
    go_wp2_with fail
    refine (markIntS_o _ _ _ _ _ _ _ g0 (by omega) (by omega)).mono ?_
    rintro e w12' ⟨rfl, ⟨L_g0, g0, U_g0⟩, G⟩
    replace U_g0 := Lib.hid U_g0
    have RG : ∀ k ∈ foot g_a0 g_c0, k ∈ foot g_a0 g_c0 := fun k hk => by
      simpa [or_assoc] using hk
    replace r0 := r0.only G (fun k hk hk' => by have := Q_r0.out k hk; have := Q_g0.out k hk'; omega)
    replace B_p0 := B_p0.only G (fun hm => by rcases RG _ hm with h <;> first | (have := Q_g0.out _ h; omega))
    have V_w12' := V_w11'.trans (G.below V_w11'.size (fun k hm => by have := V_w11'.size; rcases RG _ hm with h <;> first | (have := Q_g0.out _ h; omega)))
    have S_w12' := G.size
    clear G RG V_w11'
    go_wp2_with fail
    refine (heldIntS_b _ _ _ _ _ _ g0.ints U_g0.out (by omega) (by omega)).mono ?_
    rintro e w13' ⟨rfl, u_w13'⟩
    replace B_p0 := B_p0.below u_w13'
    replace r0 := r0.below u_w13'
    replace g0 := g0.below u_w13'
    have V_w13' := V_w12'.trans (u_w13'.mono (V_w12').size)
    have S_w13' := u_w13'.size
    clear u_w13' V_w12'
    have e_p0_0 : w13'.cell? ⟨w.heap.size, 0, none⟩ = some (.int .i64 a0_0) := B_p0.cell 0
    have e_p0_1 : w13'.cell? ⟨w.heap.size, 1, none⟩ = some (.int .i64 a0_1) := B_p0.cell 1
    have e_p0_2 : w13'.cell? ⟨w.heap.size, 2, none⟩ = some (.int .i64 a0_2) := B_p0.cell 2
    have e_p0_3 : w13'.cell? ⟨w.heap.size, 3, none⟩ = some (.slice a0_3 n0_3 c0_3) := B_p0.cell 3
    have e_p0_4 : w13'.cell? ⟨w.heap.size, 4, none⟩ = some (.slice a0_4 n0_4 c0_4) := B_p0.cell 4
    go_wp2_with fail
    clear e_p0_0 e_p0_1 e_p0_2 e_p0_3 e_p0_4
    refine (toArith_any _ _ _ _ _ _ l0_3 _ _ _ l0_4 _ (z0_3.below V_w13') (z0_4.below V_w13') (by omega) (by omega)).mono ?_
    rintro e w14' ⟨x_a0_3, x_c0_3, x_a0_4, x_c0_4, rfl, x0_3, x0_4, dj_x0_3_0_4, u_w14'⟩
    replace B_p0 := B_p0.below u_w14'
    replace r0 := r0.below u_w14'
    replace g0 := g0.below u_w14'
    have V_w14' := V_w13'.trans (u_w14'.mono (V_w13').size)
    have S_w14' := u_w14'.size
    clear u_w14' V_w13'
    have Q_x0_3 := Lib.hid x0_3.feet
    have Q_x0_4 := Lib.hid x0_4.feet
    go_wp2_with fail
    refine (TrafficOf_any _ _ _ _ _ _ l0_3 _ _ _ l0_4 _ x0_3.flat x0_4.ints).mono ?_
    rintro e w15' ⟨h_a0, h_n0, h_c0, rfl, h0, u_w15'⟩
    replace B_p0 := B_p0.below u_w15'
    replace r0 := r0.below u_w15'
    replace g0 := g0.below u_w15'
    replace x0_3 := x0_3.below u_w15'
    replace x0_4 := x0_4.below u_w15'
    have V_w15' := V_w14'.trans (u_w15'.mono (V_w14').size)
    have S_w15' := u_w15'.size
    clear u_w15' V_w14'
    have Q_h0 := Lib.hid h0.feet
    clear x0_3
    clear x0_4
    go_wp2_with fail
    refine (eqIntS_b _ _ _ _ _ _ _ _ h0.ints r0.ints).mono ?_
    rintro e w16' ⟨rfl, u_w16'⟩
    replace B_p0 := B_p0.below u_w16'
    replace r0 := r0.below u_w16'
    replace g0 := g0.below u_w16'
    replace h0 := h0.below u_w16'
    have V_w16' := V_w15'.trans (u_w16'.mono (V_w15').size)
    have S_w16' := u_w16'.size
    clear u_w16' V_w15'
    go_wp2_with fail
    refine (heldIntS_b _ _ _ _ _ _ g0.ints U_g0.out (by omega) (by omega)).mono ?_
    rintro e w17' ⟨rfl, u_w17'⟩
    replace B_p0 := B_p0.below u_w17'
    replace r0 := r0.below u_w17'
    replace g0 := g0.below u_w17'
    replace h0 := h0.below u_w17'
    have V_w17' := V_w16'.trans (u_w17'.mono (V_w16').size)
    have S_w17' := u_w17'.size
    clear u_w17' V_w16'
    go_wp2
    go_ret
    exact ⟨rfl, V_w17'⟩
  · skip
    go_enter Try.func4, Try.ntmps4
    go_wp2_with fail
    have V_w18' : Below w.heap.size w (w.alloc (.cells #[.int .i64 a0_0, .int .i64 a0_1, .int .i64 a0_2, .slice a0_3 n0_3 c0_3, .slice a0_4 n0_4 c0_4] 25)) := (((Below.refl w.heap.size w)).alloc (by have := ((Below.refl w.heap.size w)).size; first | exact this | (simp; omega) | simp) _)
    have B_p0 : Blk (w.alloc (.cells #[.int .i64 a0_0, .int .i64 a0_1, .int .i64 a0_2, .slice a0_3 n0_3 c0_3, .slice a0_4 n0_4 c0_4] 25)) (w.heap.size) 25 #[.int .i64 a0_0, .int .i64 a0_1, .int .i64 a0_2, .slice a0_3 n0_3 c0_3, .slice a0_4 n0_4 c0_4] := Blk.new w 25 #[.int .i64 a0_0, .int .i64 a0_1, .int .i64 a0_2, .slice a0_3 n0_3 c0_3, .slice a0_4 n0_4 c0_4]
    have S_w18' : w.heap.size + 1 ≤ (w.alloc (.cells #[.int .i64 a0_0, .int .i64 a0_1, .int .i64 a0_2, .slice a0_3 n0_3 c0_3, .slice a0_4 n0_4 c0_4] 25)).heap.size := by simp
    generalize (w.alloc (.cells #[.int .i64 a0_0, .int .i64 a0_1, .int .i64 a0_2, .slice a0_3 n0_3 c0_3, .slice a0_4 n0_4 c0_4] 25)) = w18' at *
    refine (szArith_no _ _ _ _ _ _ _ _ _ _ _ hn0_3 hn0_4 (by omega) (by omega) (by omega)).mono ?_
    rintro e w19' ⟨rfl, u_w19'⟩
    replace B_p0 := B_p0.below u_w19'
    have V_w19' := V_w18'.trans (u_w19'.mono (V_w18').size)
    have S_w19' := u_w19'.size
    clear u_w19' V_w18'
    go_wp2
    go_ret
    exact ⟨rfl, V_w19'⟩
end Go.Proofs.Ytjnblfnfegjbfaa
