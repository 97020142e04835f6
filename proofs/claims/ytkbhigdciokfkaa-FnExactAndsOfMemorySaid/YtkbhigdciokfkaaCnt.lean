/- The numbers of gates of all kinds. -/
import Derived.Test.YtkbhigdciokfkaaIsCi
import Derived.Deep.DeepCutAuto
namespace Go.Proofs.Ytkbhigdciokfkaa
open Go.RowKit
/-- The numbers of the kinds of the first gates. -/
def cntS (x : Int) (l : List Int) : List Int := l.set x.toNat (l.getD x.toNat 0 + 1)
def cntL (G : List Int) : Nat → List Int
  | 0 => [0, 0, 0, 0]
  | j + 1 => cntS (G.getD (j * 3) 0) (cntL G j)
theorem cntL_succ (G : List Int) (j : Nat) : cntL G (j + 1) = cntS (G.getD (j * 3) 0) (cntL G j) := rfl
theorem cntL_len (G : List Int) (j : Nat) : (cntL G j).length = 4 := by
  induction j with
  | zero => rfl
  | succ j ih => rw [cntL_succ]; unfold cntS; rw [List.length_set]; exact ih
theorem cntL_rng (G : List Int) (j k : Nat) : 0 ≤ (cntL G j).getD k 0 ∧ (cntL G j).getD k 0 ≤ j := by
  induction j generalizing k with
  | zero =>
    have : (cntL G 0).getD k 0 = 0 := by
      unfold cntL
      rcases k with _ | _ | _ | _ | k <;> simp [List.getD]
    rw [this]; omega
  | succ j ih =>
    rw [cntL_succ]
    unfold cntS
    rw [getD_set]
    have h1 := ih k
    have h2 := ih (G.getD (j * 3) 0).toNat
    split <;> omega
theorem gb_kind {kd a b own : Int} (h : gbB kd a b own = true) : 0 ≤ kd ∧ kd ≤ 3 := by
  unfold gbB at h
  split at h
  · omega
  · split at h
    · omega
    · split at h
      · omega
      · cases h
theorem ci_kinds {i0 i1 : Int} {gn : Nat} {G O : List Int} (h : ciB i0 i1 gn G O = true) : ∀ j, j < gn → 0 ≤ G.getD (j * 3) 0 ∧ G.getD (j * 3) 0 ≤ 3 := fun j hj => by
  unfold ciB at h
  simp only [Bool.and_eq_true] at h
  exact gb_kind (List.all_eq_true.1 h.1.2 j (List.mem_range.2 hj))
set_option maxHeartbeats 8000000 in
set_option maxRecDepth 100000 in
theorem countKinds_any (a : Option Addr) (n c : Nat) (G : List Int) (w : World) (h : Flat 3 w a n c G) (hk : ∀ j, j < n → 0 ≤ G.getD (j * 3) 0 ∧ G.getD (j * 3) 0 ≤ 3) (hn : n ≤ 1000) :
    Calls Try.prog 54 #[.slice a n c] w fun e w' => ∃ a1 c1, e = .returned (.slice a1 4 c1) ∧ Own w' w.heap.size a1 4 c1 (cntL G n) ∧ Below w.heap.size w w' := by
  have HK := Lib.hid hk
  clear hk
  obtain ⟨i0, hi, hz0, hz1, hz2⟩ := info_parts info_int
  go_enter Try.func54, Try.ntmps54
  go_wp2_with (at_make; refine wpList_make_full _ rfl _ _ 23 rfl w.heap.size 3 i0 (.int .i64 0) 1 Try.underlying23 hi hz0 hz1 _ _ _ _ 4 rfl rfl rfl rfl (by rw [hz2]; omega) (by unfold maxLen; omega) (by exact Nat.le_refl _) ?_)
  intro w1 hown hgrow
  have own1 : Own w1 w.heap.size (some ⟨w.heap.size, 0, none⟩) 4 4 (cntL G 0) := by
    obtain ⟨a1, c1, e1, h1⟩ := Own.of_owns (l := List.replicate 4 0) (by simpa [toList_madeCells_one, Value.cells] using hown)
    cases e1
    exact h1
  have bel1 : Below w.heap.size w w1 := (Below.refl _ _).grown hgrow (Nat.le_refl _) (fun k hk => by cases hk)
  clear hown hgrow
  go_wp2
  go_loopw [9] (fun u wr => ∃ j, j ≤ n ∧ u = .int .i64 (j : Nat) ∧ Own wr w.heap.size (some ⟨w.heap.size, 0, none⟩) 4 4 (cntL G j) ∧ Below w.heap.size w wr) (fun u _ => n - (intOf u).toNat)
  case atStart => exact ⟨0, Nat.zero_le _, rfl, own1, bel1⟩
  case round =>
    obtain ⟨j, hj, rfl, own, hbel⟩ := hrel
    clear own1 bel1
    by_cases hlt : j < n
    · obtain ⟨g, o, rfl, hc⟩ := (h.below hbel).at (by omega)
      have c0 : wr.cell? ⟨g, o + j * 3, none⟩ = some (.int .i64 (G.getD (j * 3) 0)) := by have := hc (j * 3) (by omega); simpa only [Nat.add_assoc] using this
      have c1 : wr.cell? ⟨g, o + j * 3 + 1, none⟩ = some (.int .i64 (G.getD (j * 3 + 1) 0)) := by have := hc (j * 3 + 1) (by omega); simpa only [Nat.add_assoc] using this
      have c2 : wr.cell? ⟨g, o + j * 3 + 2, none⟩ = some (.int .i64 (G.getD (j * 3 + 2) 0)) := by have := hc (j * 3 + 2) (by omega); simpa only [Nat.add_assoc] using this
      clear hc
      have hkd := HK.out j hlt
      have HS := Lib.hid (cntL_succ G j)
      have hl4 := cntL_len G j
      obtain ⟨kd, hkd2⟩ : ∃ kd : Nat, G.getD (j * 3) 0 = (kd : Int) := ⟨(G.getD (j * 3) 0).toNat, by omega⟩
      rw [hkd2] at c0 HS hkd
      clear hkd2
      have hrg := cntL_rng G j kd
      generalize G.getD (j * 3 + 1) 0 = ka at *
      generalize G.getD (j * 3 + 2) 0 = kb at *
      go_upto_region 5 with fail
      have u2 : Below wr.heap.size wr (wr.alloc (.cells #[.int .i64 (kd : Int), .int .i64 ka, .int .i64 kb] 87)) := (Below.refl _ _).alloc (Nat.le_refl _) _
      have B2 : Blk (wr.alloc (.cells #[.int .i64 (kd : Int), .int .i64 ka, .int .i64 kb] 87)) wr.heap.size 87 #[.int .i64 (kd : Int), .int .i64 ka, .int .i64 kb] := Blk.new wr _ _
      have own2 := own.below u2
      have bel2 := hbel.trans (u2.mono hbel.size)
      clear own hbel u2 c0 c1 c2
      generalize (wr.alloc (.cells #[.int .i64 (kd : Int), .int .i64 ka, .int .i64 kb] 87)) = w2 at *
      have y0 : w2.cell? ⟨wr.heap.size, 0, none⟩ = some (.int .i64 (kd : Int)) := B2.cell 0
      generalize cntL G j = l at *
      obtain ⟨_, E, hb', hg', hc', hf', hst⟩ := own2.at kd (by omega)
      cases E
      have hst' := hst (l.getD kd 0 + 1)
      have hk4 : (kd : Int) < 4 := by omega
      generalize hx : l.getD kd 0 = x at *
      have HX := Lib.hid hx
      clear hx hst
      have HST := Lib.hid hst'
      clear hst'
      have HB := Lib.hid (bel2.setCell (p := ⟨w.heap.size, kd, none⟩) hb' (.int .i64 (x + 1)))
      clear own2 bel2 B2 hb'
      go_wp2
      go_roundw
      case rel => exact ⟨j + 1, by omega, by go_num, by rw [HS.out]; unfold cntS; rw [Int.toNat_natCast, HX.out]; exact HST.out, HB.out⟩
      case measure => simp [intOf]; omega
    · obtain rfl : j = n := by omega
      go_wp2
      go_ret
      exact ⟨_, _, rfl, own, hbel⟩
set_option maxHeartbeats 8000000 in
set_option maxRecDepth 100000 in
theorem ciCounts_any (s0 s1 : Int) (oa : Option Addr) (on oc : Nat) (a : Option Addr) (n c : Nat) (G : List Int) (w : World) (h : Flat 3 w a n c G) (hk : ∀ j, j < n → 0 ≤ G.getD (j * 3) 0 ∧ G.getD (j * 3) 0 ≤ 3) (hn : n ≤ 1000) :
    Calls Try.prog 53 #[.agg #[.int .i64 s0, .int .i64 s1, .slice a n c, .slice oa on oc]] w fun e w' => ∃ a1 c1, e = .returned (.slice a1 4 c1) ∧ Own w' w.heap.size a1 4 c1 (cntL G n) ∧ Below w.heap.size w w' := by
  have HK := Lib.hid hk
  clear hk
  obtain ⟨i0, hi, hz0, hz1, hz2⟩ := info_parts info_int
  have V0 : Below w.heap.size w (w.alloc (.cells #[.int .i64 s0, .int .i64 s1, .slice a n c, .slice oa on oc] 25)) := (Below.refl _ _).alloc (Nat.le_refl _) _
  go_enter Try.func53, Try.ntmps53
  go_wp2_with (at_make; refine wpList_make_full _ rfl _ _ 23 rfl w.heap.size 3 i0 (.int .i64 0) 1 Try.underlying23 hi hz0 hz1 _ _ _ _ 4 rfl rfl rfl rfl (by rw [hz2]; omega) (by unfold maxLen; omega) (by simp) ?_)
  intro w1 hown hgrow
  have own1 : Own w1 w.heap.size (some ⟨w.heap.size + 1, 0, none⟩) 4 4 (cntL G 0) := by
    obtain ⟨a1, c1, e1, h1⟩ := Own.of_owns (l := List.replicate 4 0) (by simpa [toList_madeCells_one, Value.cells] using hown)
    cases e1
    have h2 : Own w1 w.heap.size (some ⟨w.heap.size + 1, 0, none⟩) 4 4 [0, 0, 0, 0] := by simpa using h1
    exact h2
  have bel1 : Below w.heap.size w w1 := V0.trans ((Below.refl _ _).grown hgrow (by simp) (fun k hk => by cases hk))
  have x2 : w1.cell? ⟨w.heap.size, 2, none⟩ = some (.slice a n c) := ((Blk.new w 25 #[.int .i64 s0, .int .i64 s1, .slice a n c, .slice oa on oc]).below ((Below.refl _ _).grown hgrow (Nat.le_refl _) (fun k hk => by cases hk))).cell 2
  clear hown hgrow
  go_wp2
  go_loopw [10] (fun u wr => ∃ j, j ≤ n ∧ u = .int .i64 (j : Nat) ∧ Own wr w.heap.size (some ⟨w.heap.size + 1, 0, none⟩) 4 4 (cntL G j) ∧ Below w.heap.size w wr) (fun u _ => n - (intOf u).toNat)
  case atStart => exact ⟨0, Nat.zero_le _, rfl, own1, bel1⟩
  case round =>
    obtain ⟨j, hj, rfl, own, hbel⟩ := hrel
    clear own1 bel1
    by_cases hlt : j < n
    · obtain ⟨g, o, rfl, hc⟩ := (h.below hbel).at (by omega)
      have c0 : wr.cell? ⟨g, o + j * 3, none⟩ = some (.int .i64 (G.getD (j * 3) 0)) := by have := hc (j * 3) (by omega); simpa only [Nat.add_assoc] using this
      have c1 : wr.cell? ⟨g, o + j * 3 + 1, none⟩ = some (.int .i64 (G.getD (j * 3 + 1) 0)) := by have := hc (j * 3 + 1) (by omega); simpa only [Nat.add_assoc] using this
      have c2 : wr.cell? ⟨g, o + j * 3 + 2, none⟩ = some (.int .i64 (G.getD (j * 3 + 2) 0)) := by have := hc (j * 3 + 2) (by omega); simpa only [Nat.add_assoc] using this
      clear hc
      have hkd := HK.out j hlt
      have HS := Lib.hid (cntL_succ G j)
      have hl4 := cntL_len G j
      obtain ⟨kd, hkd2⟩ : ∃ kd : Nat, G.getD (j * 3) 0 = (kd : Int) := ⟨(G.getD (j * 3) 0).toNat, by omega⟩
      rw [hkd2] at c0 HS hkd
      clear hkd2
      have hrg := cntL_rng G j kd
      generalize G.getD (j * 3 + 1) 0 = ka at *
      generalize G.getD (j * 3 + 2) 0 = kb at *
      go_upto_region 5 with fail
      have u2 : Below wr.heap.size wr (wr.alloc (.cells #[.int .i64 (kd : Int), .int .i64 ka, .int .i64 kb] 87)) := (Below.refl _ _).alloc (Nat.le_refl _) _
      have B2 : Blk (wr.alloc (.cells #[.int .i64 (kd : Int), .int .i64 ka, .int .i64 kb] 87)) wr.heap.size 87 #[.int .i64 (kd : Int), .int .i64 ka, .int .i64 kb] := Blk.new wr _ _
      have own2 := own.below u2
      have bel2 := hbel.trans (u2.mono hbel.size)
      clear own hbel u2 c0 c1 c2
      generalize (wr.alloc (.cells #[.int .i64 (kd : Int), .int .i64 ka, .int .i64 kb] 87)) = w2 at *
      have y0 : w2.cell? ⟨wr.heap.size, 0, none⟩ = some (.int .i64 (kd : Int)) := B2.cell 0
      generalize cntL G j = l at *
      obtain ⟨_, E, hb', hg', hc', hf', hst⟩ := own2.at kd (by omega)
      cases E
      have hst' := hst (l.getD kd 0 + 1)
      have hk4 : (kd : Int) < 4 := by omega
      generalize hx : l.getD kd 0 = x at *
      have HX := Lib.hid hx
      clear hx hst
      have HST := Lib.hid hst'
      clear hst'
      have HB := Lib.hid (bel2.setCell (p := ⟨w.heap.size + 1, kd, none⟩) hb' (.int .i64 (x + 1)))
      clear own2 bel2 B2 hb'
      go_wp2
      go_roundw
      case rel => exact ⟨j + 1, by omega, by go_num, by rw [HS.out]; unfold cntS; rw [Int.toNat_natCast, HX.out]; exact HST.out, HB.out⟩
      case measure => simp [intOf]; omega
    · obtain rfl : j = n := by omega
      go_wp2
      go_ret
      exact ⟨_, _, rfl, own, hbel⟩
end Go.Proofs.Ytkbhigdciokfkaa
