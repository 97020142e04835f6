/- How much the parties send. -/
import Derived.Test.YthpcmbdkboajcaaIsAr
import Derived.Test.YthpcmbdkboajcaaLocal
import Derived.Test.YthpcmbdkboajcaaDigest
namespace Go.Proofs.Ythpcmbdkboajcaa
open Go.RowKit

/-- How many of the first k gates are of kind d. -/
def cnt (G : List Int) (d : Int) : Nat → Int
  | 0 => 0
  | k + 1 => cnt G d k + if G.getD (k * 3) 0 = d then 1 else 0
theorem cnt_rng (G : List Int) (d : Int) (k : Nat) : 0 ≤ cnt G d k ∧ cnt G d k ≤ k := by
  induction k with
  | zero => exact ⟨Int.le_refl _, Int.le_refl _⟩
  | succ k ih => unfold cnt; split <;> omega
def cntL (G : List Int) (k : Nat) : List Int := [cnt G 0 k, cnt G 1 k, cnt G 2 k, cnt G 3 k]
theorem cntL_at (G : List Int) (k d : Nat) (h : d < 4) : (cntL G k).getD d 0 = cnt G d k := by
  match d, h with
  | 0, _ => rfl
  | 1, _ => rfl
  | 2, _ => rfl
  | 3, _ => rfl
theorem cntL_set (G : List Int) (k d : Nat) (h : d < 4) (hd : G.getD (k * 3) 0 = d) : (cntL G k).set d (cnt G d k + 1) = cntL G (k + 1) := by
  unfold cntL
  simp only [cnt]
  match d, h, hd with
  | 0, _, hd => rw [hd]; simp
  | 1, _, hd => rw [hd]; simp
  | 2, _, hd => rw [hd]; simp
  | 3, _, hd => rw [hd]; simp
set_option maxHeartbeats 4000000 in
set_option maxRecDepth 100000 in
theorem countKinds_any (ga : Option Addr) (gn gc : Nat) (G : List Int) (w : World) (hG : Flat 3 w ga gn gc G) (hg : gn ≤ 100000) (hk : ∀ i, i < gn → 0 ≤ G.getD (i * 3) 0 ∧ G.getD (i * 3) 0 ≤ 3) :
    Calls Try.prog 80 #[.slice ga gn gc] w fun e w' => ∃ a c, e = .returned (.slice a 4 c) ∧ Own w' w.heap.size a 4 c (cntL G gn) ∧ Below w.heap.size w w' := by
  have HK := Lib.hid hk
  clear hk
  have hmk : ∀ W, (Instr.makeSlice 24 (.int .i64 4) (.int .i64 4)).run Try.prog W = .ok (.slice (some ⟨W.heap.size, 0, none⟩) 4 4) (W.alloc (.cells #[.int .i64 0, .int .i64 0, .int .i64 0, .int .i64 0] 3)) := fun _ => by kernel_rfl
  have own0 : Own (w.alloc (.cells #[.int .i64 0, .int .i64 0, .int .i64 0, .int .i64 0] 3)) w.heap.size (some ⟨w.heap.size, 0, none⟩) 4 4 (cntL G 0) := Own.lit w w.heap.size [0, 0, 0, 0] (Nat.le_refl _) (by simp [maxLen])
  have bel0 : Below w.heap.size w (w.alloc (.cells #[.int .i64 0, .int .i64 0, .int .i64 0, .int .i64 0] 3)) := (Below.refl _ _).alloc (Nat.le_refl _) _
  go_enter Try.func80, Try.ntmps80
  go_wp2
  clear hmk
  go_loopw [9] (fun v wr => ∃ k : Nat, k ≤ gn ∧ v = .int .i64 k ∧ Below w.heap.size w wr ∧ Own wr w.heap.size (some ⟨w.heap.size, 0, none⟩) 4 4 (cntL G k)) (fun v _ => gn - (intOf v).toNat)
  case atStart => exact ⟨0, Nat.zero_le _, rfl, bel0, own0⟩
  case round =>
    obtain ⟨k, hk, rfl, hbel, own⟩ := hrel
    clear own0 bel0
    by_cases hlt : k < gn
    · obtain ⟨g, o, rfl, hc⟩ := (hG.below hbel).at (by omega)
      have c0 : wr.cell? ⟨g, o + k * 3, none⟩ = some (.int .i64 (G.getD (k * 3) 0)) := hc (k * 3) (by omega)
      have c1 : wr.cell? ⟨g, o + k * 3 + 1, none⟩ = some (.int .i64 (G.getD (k * 3 + 1) 0)) := by have := hc (k * 3 + 1) (by omega); simpa only [Nat.add_assoc] using this
      have c2 : wr.cell? ⟨g, o + k * 3 + 2, none⟩ = some (.int .i64 (G.getD (k * 3 + 2) 0)) := by have := hc (k * 3 + 2) (by omega); simpa only [Nat.add_assoc] using this
      obtain ⟨ka, hka⟩ : ∃ x, G.getD (k * 3 + 1) 0 = x := ⟨_, rfl⟩
      obtain ⟨kb, hkb⟩ : ∃ x, G.getD (k * 3 + 2) 0 = x := ⟨_, rfl⟩
      rw [hka] at c1
      rw [hkb] at c2
      clear hc hka hkb
      obtain ⟨r0, r1⟩ := HK.out k hlt
      obtain ⟨d, hd⟩ : ∃ d : Nat, G.getD (k * 3) 0 = d := ⟨(G.getD (k * 3) 0).toNat, by omega⟩
      rw [hd] at c0 r0 r1
      have hd4 : d < 4 := by omega
      have HS := Lib.hid (cntL_set G k d hd4 hd)
      have HA := Lib.hid (cntL_at G k d hd4)
      have rn := cnt_rng G d k
      clear hd
      obtain ⟨_, E, _, _, y0, y1, y2⟩ := own.at d hd4
      cases E
      rw [HA.out] at y0
      have y3 := y2 (cnt G d k + 1)
      rw [HS.out] at y3
      generalize cnt G d k = cd at *
      have o1 := own.alloc (.cells #[.int .i64 d, .int .i64 ka, .int .i64 kb] 78)
      obtain ⟨_, E, _, _, z0, z1, z2⟩ := o1.at d hd4
      cases E
      rw [HA.out] at z0
      have HZ := Lib.hid (y3.alloc (.cells #[.int .i64 d, .int .i64 ka, .int .i64 kb] 78))
      have HB := Lib.hid ((hbel.setCell (p := ⟨w.heap.size, d, none⟩) (Nat.le_refl _) (.int .i64 (cd + 1))).alloc (by have := hbel.size; simpa [World.setCell] using this) (.cells #[.int .i64 d, .int .i64 ka, .int .i64 kb] 78))
      clear y0 y1 y2 y3 z2 own o1 hbel
      go_wp2
      go_roundw
      case rel => exact ⟨k + 1, by omega, by go_num, HB.out, HZ.out⟩
      case measure => simp [intOf]; omega
    · obtain rfl : k = gn := by omega
      go_wp2
      go_ret
      exact ⟨_, _, rfl, own, hbel⟩
def trfL (P i0 i1 : Int) (gn : Nat) (G O : List Int) : List Int := if arB P i0 i1 gn G O then [i0 + (2 * cnt G 1 gn + O.length), i1 + (2 * cnt G 1 gn + O.length)] else []
theorem trfL_len (P i0 i1 : Int) (gn : Nat) (G O : List Int) : (trfL P i0 i1 gn G O).length ≤ 1000000 := by unfold trfL; split <;> simp
theorem arB_all {P i0 i1 : Int} {gn : Nat} {G O : List Int} (h : arB P i0 i1 gn G O = true) : (0 ≤ i0 ∧ i0 ≤ 8) ∧ (0 ≤ i1 ∧ i1 ≤ 8) ∧ gn ≤ 100 ∧ O.length ≤ 20 ∧ isPr P = true ∧ (∀ k, k < gn → gateAt P (i0 + i1) G k = true) ∧ ∀ x ∈ O, 0 ≤ x ∧ x ≤ i0 + i1 + gn - 1 := by
  simp only [arB, Bool.and_eq_true, decide_eq_true_eq] at h
  obtain ⟨⟨⟨⟨⟨⟨h1, h2⟩, h3⟩, h4⟩, h5⟩, h6⟩, h7⟩ := h
  exact ⟨inB_true h2, inB_true h3, h4, h5, h1, fun k hk => List.all_eq_true.1 h6 k (List.mem_range.2 hk), (allB_iff ..).1 h7⟩
theorem gateAt_kind {P own : Int} {G : List Int} {k : Nat} (h : gateAt P own G k = true) : 0 ≤ G.getD (k * 3) 0 ∧ G.getD (k * 3) 0 ≤ 3 := by
  unfold gateAt gateB at h
  split at h
  · rename_i h1; omega
  · split at h
    · rename_i h2; omega
    · split at h
      · rename_i h3; omega
      · cases h
set_option maxHeartbeats 8000000 in
set_option maxRecDepth 100000 in
theorem TrafficOf_any (P i0 i1 : Int) (ga : Option Addr) (gn gc : Nat) (G : List Int) (oa : Option Addr) (on oc : Nat) (O : List Int) (w : World) (hG : Flat 3 w ga gn gc G) (hO : Ints w oa on oc O) :
    Calls Try.prog 29 #[.agg #[.int .i64 P, .int .i64 i0, .int .i64 i1, .slice ga gn gc, .slice oa on oc]] w fun e w' => ∃ a n c, e = .returned (.tuple #[.slice a n c, .bool (arB P i0 i1 gn G O)]) ∧ Own w' w.heap.size a n c (trfL P i0 i1 gn G O) ∧ Below w.heap.size w w' := by
  have V0 : Below w.heap.size w (w.alloc (.cells #[.int .i64 P, .int .i64 i0, .int .i64 i1, .slice ga gn gc, .slice oa on oc] 41)) := (Below.refl _ _).alloc (Nat.le_refl _) _
  have B0 : Blk (w.alloc (.cells #[.int .i64 P, .int .i64 i0, .int .i64 i1, .slice ga gn gc, .slice oa on oc] 41)) w.heap.size 41 #[.int .i64 P, .int .i64 i0, .int .i64 i1, .slice ga gn gc, .slice oa on oc] := Blk.new w _ _
  have hgl := hG.le
  have hol := hO.le
  unfold trfL
  cases h1 : arB P i0 i1 gn G O
  · simp only [Bool.false_eq_true, if_false]
    go_enter Try.func29, Try.ntmps29
    go_wp2_with fail
    generalize (w.alloc (.cells #[.int .i64 P, .int .i64 i0, .int .i64 i1, .slice ga gn gc, .slice oa on oc] 41)) = w0 at *
    refine (IsArith_any _ _ _ _ _ _ G _ _ _ O _ (hG.below V0) (hO.below V0)).mono ?_; rintro e w1 ⟨rfl, u⟩
    rw [h1]
    go_wp2
    go_ret2
    exact ⟨_, _, _, rfl, Own.nil0 _ _ _, V0.trans (u.mono V0.size)⟩
  simp only [if_true]
  obtain ⟨⟨r0, r0'⟩, ⟨r1, r1'⟩, r2, r3, _, hga, _⟩ := arB_all h1
  have HGA := Lib.hid hga
  clear hga
  rw [← hO.len] at r3 ⊢
  go_enter Try.func29, Try.ntmps29
  go_wp2_with fail
  generalize (w.alloc (.cells #[.int .i64 P, .int .i64 i0, .int .i64 i1, .slice ga gn gc, .slice oa on oc] 41)) = w0 at *
  refine (IsArith_any _ _ _ _ _ _ G _ _ _ O _ (hG.below V0) (hO.below V0)).mono ?_; rintro e w1 ⟨rfl, u⟩
  rw [h1]
  have V1 := V0.trans (u.mono V0.size)
  have B1 := B0.below u
  clear u V0 B0
  have x3 : w1.cell? ⟨w.heap.size, 3, none⟩ = some (.slice ga gn gc) := B1.cell 3
  have x4 : w1.cell? ⟨w.heap.size, 4, none⟩ = some (.slice oa on oc) := B1.cell 4
  have rc := cnt_rng G 1 gn
  have HC : Hid ((cntL G gn).getD 1 0 = cnt G 1 gn) := Lib.hid (cntL_at G gn 1 (by omega))
  obtain ⟨c1, hc1⟩ : ∃ x, cnt G 1 gn = x := ⟨_, rfl⟩
  have HC1 := Lib.hid hc1
  rw [hc1] at rc
  clear hc1
  have t1 : IntKind.i64.wrap (2 * c1) = 2 * c1 := IntWalk.i64_in _ (by omega)
  have t2 : IntKind.i64.wrap (2 * c1 + (on : Int)) = 2 * c1 + on := IntWalk.i64_in _ (by omega)
  go_wp2
  go_region_with ((go_at_call 80; refine (countKinds_any _ _ _ G _ (hG.below V1.drew) (by omega) (fun i hi => gateAt_kind (HGA.out i hi))).mono ?_; rintro e w2 ⟨a2, c2, rfl, o2, u⟩; obtain ⟨g2, p2, rfl, hc2⟩ := o2.ints.cells (by omega); have y1 := hc2 1 (by omega); rw [HC.out] at y1; rw [HC1.out] at y1; have y4 : w2.cell? ⟨w.heap.size, 4, none⟩ = some (.slice oa on oc) := keepC u x4; clear hc2))
  all_goals
    have u' : Below w1.heap.size w1 w2 := (Below.refl _ _).drew.trans u
    have V2 := V1.trans (u'.mono V1.size)
    have B2 := B1.below u'
    clear u u' V1 B1 o2 x3 x4
    have x1 : w2.cell? ⟨w.heap.size, 1, none⟩ = some (.int .i64 i0) := B2.cell 1
    have x2 : w2.cell? ⟨w.heap.size, 2, none⟩ = some (.int .i64 i1) := B2.cell 2
    have hlit := Ints.lit2 w2 (i0 + (2 * c1 + on)) (i1 + (2 * c1 + on)) 3
    go_wp2_with fail
    refine (Clone_any _ 2 2 [i0 + (2 * c1 + on), i1 + (2 * c1 + on)] _ hlit (by omega)).mono ?_; rintro e w3 ⟨a3, c3, rfl, o3, u3⟩
    go_wp2
    go_ret2
    exact ⟨_, _, _, rfl, by rw [HC1.out]; exact o3.lower (by have := V2.size; simp; omega), V2.trans ((below_a1 u3).mono V2.size)⟩
set_option maxHeartbeats 8000000 in
set_option maxRecDepth 100000 in
theorem spec_TrafficOf_any (P i0 i1 : Int) (ga : Option Addr) (gn gc : Nat) (G : List Int) (oa : Option Addr) (on oc : Nat) (O : List Int) (w : World) (hG : Flat 3 w ga gn gc G) (hO : Ints w oa on oc O) :
    Calls Try.prog 30 #[.agg #[.int .i64 P, .int .i64 i0, .int .i64 i1, .slice ga gn gc, .slice oa on oc]] w fun e w' => ∃ a n c, e = .returned (.tuple #[.slice a n c, .bool (arB P i0 i1 gn G O)]) ∧ Own w' w.heap.size a n c (trfL P i0 i1 gn G O) ∧ Below w.heap.size w w' := by
  have V0 : Below w.heap.size w (w.alloc (.cells #[.int .i64 P, .int .i64 i0, .int .i64 i1, .slice ga gn gc, .slice oa on oc] 41)) := (Below.refl _ _).alloc (Nat.le_refl _) _
  have B0 : Blk (w.alloc (.cells #[.int .i64 P, .int .i64 i0, .int .i64 i1, .slice ga gn gc, .slice oa on oc] 41)) w.heap.size 41 #[.int .i64 P, .int .i64 i0, .int .i64 i1, .slice ga gn gc, .slice oa on oc] := Blk.new w _ _
  have hgl := hG.le
  have hol := hO.le
  unfold trfL
  cases h1 : arB P i0 i1 gn G O
  · simp only [Bool.false_eq_true, if_false]
    go_enter Try.func30, Try.ntmps30
    go_wp2_with fail
    generalize (w.alloc (.cells #[.int .i64 P, .int .i64 i0, .int .i64 i1, .slice ga gn gc, .slice oa on oc] 41)) = w0 at *
    refine (arGood_any _ _ _ _ _ _ G _ _ _ O _ (hG.below V0) (hO.below V0)).mono ?_; rintro e w1 ⟨rfl, u⟩
    rw [h1]
    go_wp2
    go_ret2
    exact ⟨_, _, _, rfl, Own.nil0 _ _ _, V0.trans (u.mono V0.size)⟩
  simp only [if_true]
  obtain ⟨⟨r0, r0'⟩, ⟨r1, r1'⟩, r2, r3, _, hga, _⟩ := arB_all h1
  have HGA := Lib.hid hga
  clear hga
  rw [← hO.len] at r3 ⊢
  go_enter Try.func30, Try.ntmps30
  go_wp2_with fail
  generalize (w.alloc (.cells #[.int .i64 P, .int .i64 i0, .int .i64 i1, .slice ga gn gc, .slice oa on oc] 41)) = w0 at *
  refine (arGood_any _ _ _ _ _ _ G _ _ _ O _ (hG.below V0) (hO.below V0)).mono ?_; rintro e w1 ⟨rfl, u⟩
  rw [h1]
  have V1 := V0.trans (u.mono V0.size)
  have B1 := B0.below u
  clear u V0 B0
  have x3 : w1.cell? ⟨w.heap.size, 3, none⟩ = some (.slice ga gn gc) := B1.cell 3
  have x4 : w1.cell? ⟨w.heap.size, 4, none⟩ = some (.slice oa on oc) := B1.cell 4
  have HC : Hid (∀ k, cnt G 1 (k + 1) = cnt G 1 k + if G.getD (k * 3) 0 = 1 then 1 else 0) := fun _ => rfl
  go_wp2
  go_loopw [4, 16] (fun u v wr => ∃ k : Nat, k ≤ gn ∧ v = .int .i64 k ∧ u = .int .i64 (2 * cnt G 1 k + on) ∧ Below w.heap.size w wr ∧ Blk wr w.heap.size 41 #[.int .i64 P, .int .i64 i0, .int .i64 i1, .slice ga gn gc, .slice oa on oc]) (fun _ v _ => gn - (intOf v).toNat)
  case atStart => exact ⟨0, Nat.zero_le _, rfl, by simp [cnt], V1, B1⟩
  case round =>
    obtain ⟨k, hk, rfl, rfl, hbel, hB⟩ := hrel
    clear V1 B1 x3 x4
    have rc := cnt_rng G 1 k
    by_cases hlt : k < gn
    · obtain ⟨g, o, rfl, hc⟩ := (hG.below hbel).at (by omega)
      have c0 : wr.cell? ⟨g, o + k * 3, none⟩ = some (.int .i64 (G.getD (k * 3) 0)) := hc (k * 3) (by omega)
      have c1 : wr.cell? ⟨g, o + k * 3 + 1, none⟩ = some (.int .i64 (G.getD (k * 3 + 1) 0)) := by have := hc (k * 3 + 1) (by omega); simpa only [Nat.add_assoc] using this
      have c2 : wr.cell? ⟨g, o + k * 3 + 2, none⟩ = some (.int .i64 (G.getD (k * 3 + 2) 0)) := by have := hc (k * 3 + 2) (by omega); simpa only [Nat.add_assoc] using this
      obtain ⟨ka, hka⟩ : ∃ x, G.getD (k * 3 + 1) 0 = x := ⟨_, rfl⟩
      obtain ⟨kb, hkb⟩ : ∃ x, G.getD (k * 3 + 2) 0 = x := ⟨_, rfl⟩
      rw [hka] at c1
      rw [hkb] at c2
      clear hc hka hkb
      have HS := Lib.hid (HC.out k)
      obtain ⟨kd, hkd⟩ : ∃ x, G.getD (k * 3) 0 = x := ⟨_, rfl⟩
      rw [hkd] at c0
      have HKD := Lib.hid hkd
      have V2 := hbel.alloc hbel.size (.cells #[.int .i64 kd, .int .i64 ka, .int .i64 kb] 78)
      have B2 := hB.alloc (.cells #[.int .i64 kd, .int .i64 ka, .int .i64 kb] 78)
      clear hkd
      by_cases hk1 : kd = 1
      · have f1 : ((kd == 1) : Bool) = true := by simpa using hk1
        have HE := Lib.hid (HS.out.trans (by rw [HKD.out, if_pos hk1]))
        clear hk1
        go_wp2
        go_roundw
        case rel => exact ⟨k + 1, by omega, by go_num, v_int (by rw [HE.out]; omega), V2, B2⟩
        case measure => simp [intOf]; omega
      · have f1 : ((kd == 1) : Bool) = false := by simpa using hk1
        have HE := Lib.hid (HS.out.trans (by rw [HKD.out, if_neg hk1]))
        clear hk1
        go_wp2
        go_roundw
        case rel => exact ⟨k + 1, by omega, by go_num, v_int (by rw [HE.out]; omega), V2, B2⟩
        case measure => simp [intOf]; omega
    · obtain rfl : k = gn := by omega
      have x1 : wr.cell? ⟨w.heap.size, 1, none⟩ = some (.int .i64 i0) := hB.cell 1
      have x2 : wr.cell? ⟨w.heap.size, 2, none⟩ = some (.int .i64 i1) := hB.cell 2
      have e0 : ([2 * cnt G 1 k + (on : Int) + i0, 2 * cnt G 1 k + (on : Int) + i1] : List Int) = [i0 + (2 * cnt G 1 k + on), i1 + (2 * cnt G 1 k + on)] := by rw [Int.add_comm _ i0, Int.add_comm _ i1]
      have HE := Lib.hid e0
      clear e0
      go_wp2
      go_ret2
      exact ⟨_, _, _, rfl, HE.out ▸ Own.lit wr _ [2 * cnt G 1 k + (on : Int) + i0, 2 * cnt G 1 k + (on : Int) + i1] hbel.size (by simp [maxLen]), hbel.alloc hbel.size _⟩
end Go.Proofs.Ythpcmbdkboajcaa
