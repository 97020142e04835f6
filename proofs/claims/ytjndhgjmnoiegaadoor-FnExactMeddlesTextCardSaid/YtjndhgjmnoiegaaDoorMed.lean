/- Meddles: which are valid. -/
import Derived.Test.YtjndhgjmnoiegaaDoorTbl
import Derived.Test.YtjndhgjmnoiegaaDoorFind
import Derived.BigRegion
import Derived.Deep.DeepCutAuto
namespace Go.Proofs.YtjndhgjmnoiegaaDoor
open Go.RowKit
def eMeddle : Nat := 35
theorem info_Meddle : (Tryd.prog.info? 35).map (fun i => (i.zero, i.size, i.bytes)) = some (some (.agg #[.int .i64 0, .int .i64 0, .int .i64 0, .int .i64 0]), 4, 32) := by kernel_rfl
theorem madeCells_Meddle (n : Nat) : (madeCells #[.int .i64 0, .int .i64 0, .int .i64 0, .int .i64 0] (n * 4)).toList = List.replicate (n * 4) (Value.int .i64 0) := by
  apply List.ext_getElem (by simp [madeCells])
  intro i h1 h2
  have hm : i % 4 < 4 := Nat.mod_lt _ (by decide)
  simp only [madeCells, Array.toList_map, Array.toList_range, List.getElem_map, List.getElem_range, List.getElem_replicate]
  show (#[.int .i64 0, .int .i64 0, .int .i64 0, .int .i64 0] : Array Value)[i % 4]! = _
  generalize i % 4 = j at hm
  match j, hm with
  | 0, _ => rfl
  | 1, _ => rfl
  | 2, _ => rfl
  | 3, _ => rfl
set_option maxHeartbeats 4000000 in
set_option maxRecDepth 100000 in
theorem toMeddle_any (x0 x1 x2 x3 : Int) (w : World) :
    Calls Tryd.prog 14 #[.agg #[.int .i64 x0, .int .i64 x1, .int .i64 x2, .int .i64 x3]] w fun e w' => e = .returned (.agg #[.int .i64 x0, .int .i64 x1, .int .i64 x2, .int .i64 x3]) ∧ Below w.heap.size w w' := by
  go_enter Tryd.func14, Tryd.ntmps14
  go_wp2
  exact bodyPost_ret (v := .agg #[.int .i64 x0, .int .i64 x1, .int .i64 x2, .int .i64 x3]) (by simp [results, Tryd.results14, go_sem]) rfl ⟨rfl, (((Below.refl _ _).alloc (Nat.le_refl _) _).alloc (by simp) _).alloc (by simp; omega) _⟩
set_option maxHeartbeats 4000000 in
set_option maxRecDepth 100000 in
theorem toMeddleS_any (a : Option Addr) (n c : Nat) (l : List Int) (w : World) (h : Flat 4 w a n c l) (hs : n ≤ 1048576) :
    Calls Tryd.prog 7 #[.slice a n c] w fun e w' => ∃ a' c', e = .returned (.slice a' n c') ∧ OwnF 4 eMeddle w' w.heap.size a' n c' l ∧ Below w.heap.size w w' := by
  have hn := h.le
  obtain ⟨i0, hi, hz0, hz1, hz2⟩ := info_parts info_Meddle
  go_enter Tryd.func7, Tryd.ntmps7
  go_wp2_with (at_make; refine wpList_make_full _ rfl _ _ 26 rfl w.heap.size 35 i0 (.agg #[.int .i64 0, .int .i64 0, .int .i64 0, .int .i64 0]) 4 Tryd.underlying26 hi hz0 hz1 _ _ _ _ n rfl rfl rfl rfl (by rw [hz2]; omega) (by unfold maxLen; omega) (Nat.le_refl _) ?_)
  intro w1 hown hgrow
  have own1 : OwnF 4 eMeddle w1 w.heap.size (some ⟨w.heap.size, 0, none⟩) n n (List.replicate (n * 4) 0) := by
    obtain ⟨a1, c1, e1, h1⟩ := OwnC.of_owns hown
    cases e1
    unfold OwnF
    rw [List.map_replicate, ← madeCells_Meddle]
    exact h1
  have bel1 : Below w.heap.size w w1 := (Below.refl _ _).grown hgrow (Nat.le_refl _) (fun k hk => by cases hk)
  clear hown hgrow
  go_wp2
  go_loopw [4] (fun v wr => ∃ i : Nat, i ≤ n ∧ v = .int .i64 i ∧ Below w.heap.size w wr ∧ ∃ l', OwnF 4 eMeddle wr w.heap.size (some ⟨w.heap.size, 0, none⟩) n n l' ∧ ∀ j, j < i * 4 → l'.getD j 0 = l.getD j 0) (fun v _ => n - (intOf v).toNat)
  case atStart => exact ⟨0, Nat.zero_le _, rfl, bel1, _, own1, fun i hi => absurd hi (by omega)⟩
  case round =>
    obtain ⟨i, hk, rfl, hbel, l', own, hl⟩ := hrel
    have HL := Lib.hid hl
    clear hl
    by_cases hlt : i < n
    · obtain ⟨g, o, rfl, hc⟩ := (h.below hbel).at (by omega)
      have c0 : wr.cell? ⟨g, o + i * 4, none⟩ = some (.int .i64 (l.getD (i * 4) 0)) := by have := hc (i * 4) (by omega); simpa only [Nat.add_assoc] using this
      have c1 : wr.cell? ⟨g, o + i * 4 + 1, none⟩ = some (.int .i64 (l.getD (i * 4 + 1) 0)) := by have := hc (i * 4 + 1) (by omega); simpa only [Nat.add_assoc] using this
      have c2 : wr.cell? ⟨g, o + i * 4 + 2, none⟩ = some (.int .i64 (l.getD (i * 4 + 2) 0)) := by have := hc (i * 4 + 2) (by omega); simpa only [Nat.add_assoc] using this
      have c3 : wr.cell? ⟨g, o + i * 4 + 3, none⟩ = some (.int .i64 (l.getD (i * 4 + 3) 0)) := by have := hc (i * 4 + 3) (by omega); simpa only [Nat.add_assoc] using this
      clear hc
      obtain ⟨x0, hx0⟩ : ∃ x, x = l.getD (i * 4) 0 := ⟨_, rfl⟩
      rw [← hx0] at c0
      have X0 := Lib.hid hx0
      clear hx0
      obtain ⟨x1, hx1⟩ : ∃ x, x = l.getD (i * 4 + 1) 0 := ⟨_, rfl⟩
      rw [← hx1] at c1
      have X1 := Lib.hid hx1
      clear hx1
      obtain ⟨x2, hx2⟩ : ∃ x, x = l.getD (i * 4 + 2) 0 := ⟨_, rfl⟩
      rw [← hx2] at c2
      have X2 := Lib.hid hx2
      clear hx2
      obtain ⟨x3, hx3⟩ : ∃ x, x = l.getD (i * 4 + 3) 0 := ⟨_, rfl⟩
      rw [← hx3] at c3
      have X3 := Lib.hid hx3
      clear hx3
      go_wp2_with fail
      refine (toMeddle_any _ _ _ _ _).mono ?_; rintro e w2 ⟨rfl, u2⟩
      have own2 := own.below u2
      have bel2 := hbel.trans (u2.mono hbel.size)
      obtain ⟨d0, f0⟩ := own2.cf (i * 4) (by omega)
      obtain ⟨d1, f1⟩ := own2.cf (i * 4 + 1) (by omega)
      obtain ⟨d2, f2⟩ := own2.cf (i * 4 + 2) (by omega)
      obtain ⟨d3, f3⟩ := own2.cf (i * 4 + 3) (by omega)
      have st0 := own2.put (i * 4) (by omega) x0
      have st1 := st0.put (i * 4 + 1) (by omega) x1
      have st2 := st1.put (i * 4 + 2) (by omega) x2
      have st3 := st2.put (i * 4 + 3) (by omega) x3
      have HST := Lib.hid st3
      have HB := Lib.hid ((((bel2.setCell (p := ⟨w.heap.size, i * 4, none⟩) (Nat.le_refl _) (.int .i64 x0)).setCell (p := ⟨w.heap.size, i * 4 + 1, none⟩) (Nat.le_refl _) (.int .i64 x1)).setCell (p := ⟨w.heap.size, i * 4 + 2, none⟩) (Nat.le_refl _) (.int .i64 x2)).setCell (p := ⟨w.heap.size, i * 4 + 3, none⟩) (Nat.le_refl _) (.int .i64 x3))
      have hl' := own2.len
      clear own2 own bel2 hbel u2 st0 st1 st2 st3
      go_wp2
      go_roundw
      case rel => exact ⟨i + 1, by omega, by go_num, HB.out, _, HST.out, fun j hj => by
        rw [getD_set, getD_set, getD_set, getD_set]
        simp only [List.length_set]
        by_cases z3 : j = i * 4 + 3
        · subst z3; rw [if_pos ⟨rfl, by omega⟩]; exact X3.out
        by_cases z2 : j = i * 4 + 2
        · subst z2; rw [if_neg (by omega)]; rw [if_pos ⟨rfl, by omega⟩]; exact X2.out
        by_cases z1 : j = i * 4 + 1
        · subst z1; rw [if_neg (by omega)]; rw [if_neg (by omega)]; rw [if_pos ⟨rfl, by omega⟩]; exact X1.out
        by_cases z0 : j = i * 4
        · subst z0; rw [if_neg (by omega)]; rw [if_neg (by omega)]; rw [if_neg (by omega)]; rw [if_pos ⟨rfl, by omega⟩]; exact X0.out
        rw [if_neg (by omega), if_neg (by omega), if_neg (by omega), if_neg (by omega)]
        exact HL.out j (by omega)⟩
      case measure => simp [intOf]; omega
    · obtain rfl : i = n := by omega
      go_wp2
      go_ret
      have e : l' = l := list_ext_getD _ _ (by rw [own.len, h.len]) (fun j hj => HL.out j (by have := own.len; omega))
      subst e
      exact ⟨_, _, rfl, own, hbel⟩
theorem szMeddleS_yes (a : Option Addr) (n c : Nat) (left : Int) (w : World) (h0 : (n : Int) ≤ 9223372036854775807) (h1 : left ≤ 1048576) (h2 : (n : Int) ≤ left) :
    Calls Tryd.prog 5 #[.slice a n c, .int .i64 left] w fun e w' => e = .returned (.int .i64 (left - n)) ∧ w = w' := by
  go_enter Tryd.func5, Tryd.ntmps5
  go_wp2
  go_ret
  exact ⟨rfl, rfl⟩
theorem szMeddleS_no (a : Option Addr) (n c : Nat) (left : Int) (w : World) (h0 : (n : Int) ≤ 9223372036854775807) (h1 : 0 ≤ left ∧ left ≤ 1048576) (h2 : ¬ (n : Int) ≤ left) :
    Calls Tryd.prog 5 #[.slice a n c, .int .i64 left] w fun e w' => e = .returned (.int .i64 (-1)) ∧ w = w' := by
  have h3 : left - (n : Int) < 0 := by omega
  go_enter Tryd.func5, Tryd.ntmps5
  go_wp2
  go_ret
  exact ⟨rfl, rfl⟩
set_option maxHeartbeats 4000000 in
set_option maxRecDepth 100000 in
theorem eqMeddle_same (x0 x1 x2 x3 : Int) (w : World) :
    Calls Tryd.prog 17 #[.agg #[.int .i64 x0, .int .i64 x1, .int .i64 x2, .int .i64 x3], .agg #[.int .i64 x0, .int .i64 x1, .int .i64 x2, .int .i64 x3]] w fun e w' => e = .returned (.bool true) ∧ Below w.heap.size w w' := by
  have b0 : ((x0 != x0) : Bool) = false := by simp
  have b1 : ((x1 != x1) : Bool) = false := by simp
  have b2 : ((x2 != x2) : Bool) = false := by simp
  have b3 : ((x3 != x3) : Bool) = false := by simp
  go_enter Tryd.func17, Tryd.ntmps17
  go_wp2
  go_ret
  exact ⟨rfl, ((Below.refl _ _).alloc (Nat.le_refl _) _).alloc (by simp) _⟩
set_option maxHeartbeats 4000000 in
set_option maxRecDepth 100000 in
theorem eqMeddleS_b (a : Option Addr) (n c : Nat) (a' : Option Addr) (n' c' : Nat) (l : List Int) (w : World) (h : Flat 4 w a n c l) (h' : Flat 4 w a' n' c' l) :
    Calls Tryd.prog 9 #[.slice a n c, .slice a' n' c'] w fun e w' => e = .returned (.bool true) ∧ Below w.heap.size w w' := by
  obtain rfl : n = n' := by have := h.len; have := h'.len; omega
  have hn := h.le
  go_enter Tryd.func9, Tryd.ntmps9
  go_wp2
  go_loopw [5] (fun v wr => ∃ i : Nat, i ≤ n ∧ v = .int .i64 i ∧ Below w.heap.size w wr) (fun v _ => n - (intOf v).toNat)
  case atStart => exact ⟨0, Nat.zero_le _, rfl, Below.refl _ _⟩
  case round =>
    obtain ⟨i, hk, rfl, hbel⟩ := hrel
    by_cases hlt : i < n
    · obtain ⟨g, o, rfl, hc⟩ := (h.below hbel).at (by omega)
      have c0 : wr.cell? ⟨g, o + i * 4, none⟩ = some (.int .i64 (l.getD (i * 4) 0)) := by have := hc (i * 4) (by omega); simpa only [Nat.add_assoc] using this
      have c1 : wr.cell? ⟨g, o + i * 4 + 1, none⟩ = some (.int .i64 (l.getD (i * 4 + 1) 0)) := by have := hc (i * 4 + 1) (by omega); simpa only [Nat.add_assoc] using this
      have c2 : wr.cell? ⟨g, o + i * 4 + 2, none⟩ = some (.int .i64 (l.getD (i * 4 + 2) 0)) := by have := hc (i * 4 + 2) (by omega); simpa only [Nat.add_assoc] using this
      have c3 : wr.cell? ⟨g, o + i * 4 + 3, none⟩ = some (.int .i64 (l.getD (i * 4 + 3) 0)) := by have := hc (i * 4 + 3) (by omega); simpa only [Nat.add_assoc] using this
      clear hc
      obtain ⟨g', o', rfl, hc⟩ := (h'.below hbel).at (by omega)
      have d0 : wr.cell? ⟨g', o' + i * 4, none⟩ = some (.int .i64 (l.getD (i * 4) 0)) := by have := hc (i * 4) (by omega); simpa only [Nat.add_assoc] using this
      have d1 : wr.cell? ⟨g', o' + i * 4 + 1, none⟩ = some (.int .i64 (l.getD (i * 4 + 1) 0)) := by have := hc (i * 4 + 1) (by omega); simpa only [Nat.add_assoc] using this
      have d2 : wr.cell? ⟨g', o' + i * 4 + 2, none⟩ = some (.int .i64 (l.getD (i * 4 + 2) 0)) := by have := hc (i * 4 + 2) (by omega); simpa only [Nat.add_assoc] using this
      have d3 : wr.cell? ⟨g', o' + i * 4 + 3, none⟩ = some (.int .i64 (l.getD (i * 4 + 3) 0)) := by have := hc (i * 4 + 3) (by omega); simpa only [Nat.add_assoc] using this
      clear hc
      generalize l.getD (i * 4) 0 = x0 at *
      generalize l.getD (i * 4 + 1) 0 = x1 at *
      generalize l.getD (i * 4 + 2) 0 = x2 at *
      generalize l.getD (i * 4 + 3) 0 = x3 at *
      go_wp2
      go_region_held3 (fun W => W.cell? ⟨g, o + i * 4, none⟩ = some (.int .i64 x0) ∧ W.cell? ⟨g, o + i * 4 + 1, none⟩ = some (.int .i64 x1) ∧ W.cell? ⟨g, o + i * 4 + 2, none⟩ = some (.int .i64 x2) ∧ W.cell? ⟨g, o + i * 4 + 3, none⟩ = some (.int .i64 x3) ∧ W.cell? ⟨g', o' + i * 4, none⟩ = some (.int .i64 x0) ∧ W.cell? ⟨g', o' + i * 4 + 1, none⟩ = some (.int .i64 x1) ∧ W.cell? ⟨g', o' + i * 4 + 2, none⟩ = some (.int .i64 x2) ∧ W.cell? ⟨g', o' + i * 4 + 3, none⟩ = some (.int .i64 x3))
        (first | go_keep | exact ⟨keepC u2 c0, keepC u2 c1, keepC u2 c2, keepC u2 c3, keepC u2 d0, keepC u2 d1, keepC u2 d2, keepC u2 d3⟩)
        (first | (go_at_call 17; refine (eqMeddle_same _ _ _ _ _).mono ?_; rintro e w2 ⟨rfl, u2⟩))
      all_goals have bel2 : Below w.heap.size w w2 := hbel.drew.trans (u2.mono hbel.size)
      all_goals go_wp2
      all_goals go_roundw
      case rel => exact ⟨i + 1, by omega, by go_num, bel2⟩
      case measure => simp [intOf]; omega
    · go_wp2
      go_ret
      exact ⟨rfl, hbel⟩
def medB (p kd at_ ix vl : Int) : Bool :=
  inB at_ 0 5 && (inB kd 1 4 && (if kd = 1 then inB ix 0 ((blen (at_ / 2).toNat : Int) - 1) && inB vl 0 (p - 1) else (decide (ix = 0) && (decide (vl = 0) && (decide (kd ≠ 3) || decide (2 ≤ at_))))))
def medAt (p : Int) (L : List Int) (i : Nat) : Bool := medB p (L.getD (i * 4) 0) (L.getD (i * 4 + 1) 0) (L.getD (i * 4 + 2) 0) (L.getD (i * 4 + 3) 0) && (decide (i = 0) || decide (L.getD ((i - 1) * 4 + 1) 0 < L.getD (i * 4 + 1) 0))
def medsB (p : Int) (L : List Int) (n : Nat) : Bool := (List.range n).all (medAt p L)
theorem medsB_no (p : Int) (L : List Int) (n k : Nat) (hk : k < n) (h : medAt p L k = false) : medsB p L n = false := by
  rw [Bool.eq_false_iff]; intro H
  have := List.all_eq_true.1 H k (List.mem_range.2 hk)
  rw [h] at this; cases this
theorem medsB_yes (p : Int) (L : List Int) (n : Nat) (h : ∀ k, k < n → medAt p L k = true) : medsB p L n = true :=
  List.all_eq_true.2 fun k hk => h k (List.mem_range.1 hk)
theorem at_cases {x : Int} (h : inB x 0 5 = true) : x = 0 ∨ x = 1 ∨ x = 2 ∨ x = 3 ∨ x = 4 ∨ x = 5 := by have := inB_true h; omega
theorem kd_cases {x : Int} (h : inB x 1 4 = true) : x = 1 ∨ x = 2 ∨ x = 3 ∨ x = 4 := by have := inB_true h; omega
theorem ptLen_any (i : Nat) (w : World) (hi : i < 3) :
    Calls Tryd.prog 27 #[.int .i64 i] w fun e w' => e = .returned (.int .i64 (blen i)) ∧ Below w.heap.size w w' := by
  have : i = 0 ∨ i = 1 ∨ i = 2 := by omega
  rcases this with rfl | rfl | rfl
  all_goals
    go_enter Tryd.func27, Tryd.ntmps27
    go_wp2
    go_ret
    exact ⟨rfl, (Below.refl _ _).alloc (Nat.le_refl _) _⟩
set_option maxHeartbeats 1000000 in
set_option maxRecDepth 100000 in
theorem meddleOk_any (p kd at_ ix vl : Int) (w : World) (hT : Tbl w) (hp : 1 ≤ p) (hp2 : p ≤ 1000) :
    Calls Tryd.prog 23 #[.int .i64 p, .agg #[.int .i64 kd, .int .i64 at_, .int .i64 ix, .int .i64 vl]] w fun e w' => e = .returned (.bool (medB p kd at_ ix vl)) ∧ Below w.heap.size w w' := by
  have V0 : Below w.heap.size w (w.alloc (.cells #[.int .i64 kd, .int .i64 at_, .int .i64 ix, .int .i64 vl] 35)) := (Below.refl _ _).alloc (Nat.le_refl _) _
  have B0 : Blk (w.alloc (.cells #[.int .i64 kd, .int .i64 at_, .int .i64 ix, .int .i64 vl] 35)) w.heap.size 35 #[.int .i64 kd, .int .i64 at_, .int .i64 ix, .int .i64 vl] := Blk.new w _ _
  unfold medB
  cases h1 : inB at_ 0 5
  · simp only [Bool.false_and]
    go_enter Tryd.func23, Tryd.ntmps23
    go_wp2_with (first | (go_at_call 22; refine (within_any _ _ _ _).mono ?_; rintro e w' ⟨rfl, rfl⟩; rw [h1]))
    go_ret
    exact ⟨rfl, V0⟩
  cases h2 : inB kd 1 4
  · simp only [Bool.false_and, Bool.and_false]
    go_enter Tryd.func23, Tryd.ntmps23
    go_wp2_with fail
    refine (within_any _ _ _ _).mono ?_; rintro e w' ⟨rfl, rfl⟩
    rw [h1]
    go_wp2_with fail
    refine (within_any _ _ _ _).mono ?_; rintro e w' ⟨rfl, rfl⟩
    rw [h2]
    go_wp2
    go_ret
    exact ⟨rfl, V0⟩
  have K0 := inB_true h2
  have A0 := inB_true h1
  simp only [Bool.true_and]
  have T0 := (hT.alloc (.cells #[.int .i64 kd, .int .i64 at_, .int .i64 ix, .int .i64 vl] 35))










  by_cases k1 : kd = 1
  · subst k1
    rw [if_pos rfl]
    clear K0
    obtain ⟨q, hq⟩ : ∃ q : Nat, (q : Int) = at_ / 2 := ⟨(at_ / 2).toNat, by omega⟩
    have hq3 : q < 3 := by omega
    have td : at_.tdiv 2 = (q : Int) := by rw [hq]; exact Int.tdiv_eq_ediv_of_nonneg A0.1
    have hqq : (at_ / 2).toNat = q := by omega
    rw [hqq]
    have bb := blen_bd q
    have tq := T0.at q hq3
    have td2 : IntKind.i64.wrap (q : Int) = (q : Int) := IntWalk.i64_in _ (by omega)
    obtain ⟨pq, hpq⟩ : ∃ x, x = p - 1 := ⟨_, rfl⟩
    obtain ⟨bq, hbq⟩ : ∃ x, x = (blen q : Int) - 1 := ⟨_, rfl⟩
    have tw : IntKind.i64.wrap ((blen q : Int) - 1) = bq := by rw [hbq]; exact IntWalk.i64_in _ (by omega)
    have tp : IntKind.i64.wrap (p - 1) = pq := by rw [hpq]; exact IntWalk.i64_in _ (by omega)
    have tp' : wrap64 (p - 1) = pq := by rw [hpq]; exact IntWalk.wrap64_in _ (by omega)
    have tw' : wrap64 ((blen q : Int) - 1) = bq := by rw [hbq]; exact IntWalk.wrap64_in _ (by omega)
    rw [← hpq, ← hbq]
    have q3 : (q : Int) < 3 := by omega
    have q0 : (0 : Int) ≤ (q : Int) := by omega
    have CX : ∀ W, Calls Tryd.prog 22 #[.int .i64 ix, .int .i64 0, .int .i64 bq] W (fun e w' => e = .returned (.bool (inB ix 0 bq)) ∧ w' = W) := fun W => (within_any _ _ _ _).mono fun e w' h => ⟨h.1, h.2.symm⟩
    have CV : ∀ W, Calls Tryd.prog 22 #[.int .i64 vl, .int .i64 0, .int .i64 pq] W (fun e w' => e = .returned (.bool (inB vl 0 pq)) ∧ w' = W) := fun W => (within_any _ _ _ _).mono fun e w' h => ⟨h.1, h.2.symm⟩
    clear hq hqq hT hpq hbq
    generalize inB vl 0 pq = bv at *
    cases h3 : inB ix 0 bq
    all_goals
      rw [h3] at CX
      replace CX := Lib.hid CX
      replace CV := Lib.hid CV
      clear h3
      simp only [Bool.false_and, Bool.true_and]
      go_enter Tryd.func23, Tryd.ntmps23
      go_wp2_with fail
      refine (within_any _ _ _ _).mono ?_; rintro e w' ⟨rfl, rfl⟩
      rw [h1]
      go_wp2_with fail
      refine (within_any _ _ _ _).mono ?_; rintro e w' ⟨rfl, rfl⟩
      rw [h2]
      clear h1 h2
      generalize (w.alloc (.cells #[.int .i64 1, .int .i64 at_, .int .i64 ix, .int .i64 vl] 35)) = w0 at *
      have e0 : w0.cell? ⟨w.heap.size, 0, none⟩ = some (.int .i64 1) := B0.cell 0
      have e1 : w0.cell? ⟨w.heap.size, 1, none⟩ = some (.int .i64 at_) := B0.cell 1
      have e2 : w0.cell? ⟨w.heap.size, 2, none⟩ = some (.int .i64 ix) := B0.cell 2
      have e3 : w0.cell? ⟨w.heap.size, 3, none⟩ = some (.int .i64 vl) := B0.cell 3
      go_wp2
      go_quiet ((first | (go_at_call 22; with_reducible exact Calls.quiet_of_same (CX.out _)) | (go_at_call 22; with_reducible exact Calls.quiet_of_same (CV.out _))))
      go_wp2
      go_ret
      exact ⟨rfl, below_drewN V0 _⟩
  · rw [if_neg k1]
    have b1 : ((kd == 1) : Bool) = false := by simpa using k1
    have e0' := B0.cell 0
    have e1' := B0.cell 1
    have e2' := B0.cell 2
    have e3' := B0.cell 3
    by_cases i0 : ix = 0
    · subst i0
      by_cases v0 : vl = 0
      · subst v0
        by_cases k3 : kd = 3
        · subst k3
          by_cases a2 : 2 ≤ at_
          · have hr : (decide ((0 : Int) = 0) && (decide ((0 : Int) = 0) && (decide ((3 : Int) ≠ 3) || decide (2 ≤ at_)))) = true := by simp [a2]
            rw [hr]
            clear hr
            go_enter Tryd.func23, Tryd.ntmps23
            go_wp2_with fail
            refine (within_any _ _ _ _).mono ?_; rintro e w' ⟨rfl, rfl⟩
            rw [h1]
            go_wp2_with fail
            refine (within_any _ _ _ _).mono ?_; rintro e w' ⟨rfl, rfl⟩
            rw [h2]
            clear h1 h2
            generalize (w.alloc (.cells #[.int .i64 3, .int .i64 at_, .int .i64 0, .int .i64 0] 35)) = w0 at *






            clear T0 B0 A0 K0
            go_wp2
            go_ret
            exact ⟨rfl, V0⟩
          · have hr : (decide ((0 : Int) = 0) && (decide ((0 : Int) = 0) && (decide ((3 : Int) ≠ 3) || decide (2 ≤ at_)))) = false := by simp [a2]
            rw [hr]
            clear hr
            have d2 : decide (at_ ≥ 2) = false := by simp; omega
            go_enter Tryd.func23, Tryd.ntmps23
            go_wp2_with fail
            refine (within_any _ _ _ _).mono ?_; rintro e w' ⟨rfl, rfl⟩
            rw [h1]
            go_wp2_with fail
            refine (within_any _ _ _ _).mono ?_; rintro e w' ⟨rfl, rfl⟩
            rw [h2]
            clear h1 h2
            generalize (w.alloc (.cells #[.int .i64 3, .int .i64 at_, .int .i64 0, .int .i64 0] 35)) = w0 at *
            clear T0 B0 A0 K0
            go_wp2
            go_ret
            exact ⟨rfl, V0⟩
        · have hr : (decide ((0 : Int) = 0) && (decide ((0 : Int) = 0) && (decide (kd ≠ 3) || decide (2 ≤ at_)))) = true := by simp [k3]
          rw [hr]
          clear hr
          have b3 : ((kd != 3) : Bool) = true := by simpa using k3
          go_enter Tryd.func23, Tryd.ntmps23
          go_wp2_with fail
          refine (within_any _ _ _ _).mono ?_; rintro e w' ⟨rfl, rfl⟩
          rw [h1]
          go_wp2_with fail
          refine (within_any _ _ _ _).mono ?_; rintro e w' ⟨rfl, rfl⟩
          rw [h2]
          clear h1 h2
          generalize (w.alloc (.cells #[.int .i64 kd, .int .i64 at_, .int .i64 0, .int .i64 0] 35)) = w0 at *
          clear T0 B0 A0 K0
          go_wp2
          go_ret
          exact ⟨rfl, V0⟩
      · have hr : (decide ((0 : Int) = 0) && (decide (vl = 0) && (decide (kd ≠ 3) || decide (2 ≤ at_)))) = false := by simp [v0]
        rw [hr]
        clear hr
        have b3 : ((vl == 0) : Bool) = false := by simpa using v0
        go_enter Tryd.func23, Tryd.ntmps23
        go_wp2_with fail
        refine (within_any _ _ _ _).mono ?_; rintro e w' ⟨rfl, rfl⟩
        rw [h1]
        go_wp2_with fail
        refine (within_any _ _ _ _).mono ?_; rintro e w' ⟨rfl, rfl⟩
        rw [h2]
        clear h1 h2
        generalize (w.alloc (.cells #[.int .i64 kd, .int .i64 at_, .int .i64 0, .int .i64 vl] 35)) = w0 at *
        clear T0 B0 A0 K0
        go_wp2
        go_ret
        exact ⟨rfl, V0⟩
    · have hr : (decide (ix = 0) && (decide (vl = 0) && (decide (kd ≠ 3) || decide (2 ≤ at_)))) = false := by simp [i0]
      rw [hr]
      clear hr
      have b3 : ((ix == 0) : Bool) = false := by simpa using i0
      go_enter Tryd.func23, Tryd.ntmps23
      go_wp2_with fail
      refine (within_any _ _ _ _).mono ?_; rintro e w' ⟨rfl, rfl⟩
      rw [h1]
      go_wp2_with fail
      refine (within_any _ _ _ _).mono ?_; rintro e w' ⟨rfl, rfl⟩
      rw [h2]
      clear h1 h2
      generalize (w.alloc (.cells #[.int .i64 kd, .int .i64 at_, .int .i64 ix, .int .i64 vl] 35)) = w0 at *
      clear T0 B0 A0 K0
      go_wp2
      go_ret
      exact ⟨rfl, V0⟩
set_option maxHeartbeats 4000000 in
set_option maxRecDepth 100000 in
theorem nwOne_any (p kd at_ ix vl : Int) (w : World) (hp : 1 ≤ p) (hp2 : p ≤ 1000) :
    Calls Tryd.prog 21 #[.int .i64 p, .agg #[.int .i64 kd, .int .i64 at_, .int .i64 ix, .int .i64 vl]] w fun e w' => e = .returned (.bool (medB p kd at_ ix vl)) ∧ Below w.heap.size w w' := by

  have V0 : Below w.heap.size w (w.alloc (.cells #[.int .i64 kd, .int .i64 at_, .int .i64 ix, .int .i64 vl] 35)) := (Below.refl _ _).alloc (Nat.le_refl _) _
  have B_m : Blk (w.alloc (.cells #[.int .i64 kd, .int .i64 at_, .int .i64 ix, .int .i64 vl] 35)) w.heap.size 35 #[.int .i64 kd, .int .i64 at_, .int .i64 ix, .int .i64 vl] := Blk.new w _ _
  unfold medB
  cases h1 : inB at_ 0 5
  · simp only [Bool.false_and]
    go_enter Tryd.func21, Tryd.ntmps21
    go_wp2_with (first | (go_at_call 20; refine (l1In_any _ _ _ _).mono ?_; rintro e w' ⟨rfl, rfl⟩; rw [h1]))
    go_ret
    exact ⟨rfl, V0⟩
  have A0 := inB_true h1
  simp only [Bool.true_and]







  by_cases k1 : kd = 1
  · subst k1
    have h14 : inB 1 1 4 = true := inB_yes (by omega) (by omega)
    rw [if_pos rfl, h14]
    simp only [Bool.true_and]
    clear h14
    obtain ⟨q, hq⟩ : ∃ q : Nat, (q : Int) = at_ / 2 := ⟨(at_ / 2).toNat, by omega⟩
    have hq3 : q < 3 := by omega
    have td : at_.tdiv 2 = (q : Int) := by rw [hq]; exact Int.tdiv_eq_ediv_of_nonneg A0.1
    have hqq : (at_ / 2).toNat = q := by omega
    rw [hqq]
    have bb := blen_bd q
    have td2 : IntKind.i64.wrap (q : Int) = (q : Int) := IntWalk.i64_in _ (by omega)
    obtain ⟨pq, hpq⟩ : ∃ x, x = p - 1 := ⟨_, rfl⟩
    obtain ⟨bq, hbq⟩ : ∃ x, x = (blen q : Int) - 1 := ⟨_, rfl⟩
    have tw : IntKind.i64.wrap ((blen q : Int) - 1) = bq := by rw [hbq]; exact IntWalk.i64_in _ (by omega)
    have tp : IntKind.i64.wrap (p - 1) = pq := by rw [hpq]; exact IntWalk.i64_in _ (by omega)
    have tp' : wrap64 (p - 1) = pq := by rw [hpq]; exact IntWalk.wrap64_in _ (by omega)
    have tw' : wrap64 ((blen q : Int) - 1) = bq := by rw [hbq]; exact IntWalk.wrap64_in _ (by omega)
    rw [← hpq, ← hbq]
    have CX : ∀ W, Calls Tryd.prog 20 #[.int .i64 ix, .int .i64 0, .int .i64 bq] W (fun e w' => e = .returned (.bool (inB ix 0 bq)) ∧ W = w') := fun W => l1In_any _ _ _ _
    have CV : ∀ W, Calls Tryd.prog 20 #[.int .i64 vl, .int .i64 0, .int .i64 pq] W (fun e w' => e = .returned (.bool (inB vl 0 pq)) ∧ W = w') := fun W => l1In_any _ _ _ _
    clear hq hqq hpq hbq
    generalize inB vl 0 pq = bv at *
    go_enter Tryd.func21, Tryd.ntmps21
    go_wp2_with fail
    refine (l1In_any _ _ _ _).mono ?_; rintro e w' ⟨rfl, rfl⟩
    rw [h1]
    clear h1



















    cases h3 : inB ix 0 bq
    · skip
      rw [h3] at CX
      replace CX := Lib.hid CX
      replace CV := Lib.hid CV
      replace h3 := Lib.hid h3
      generalize (w.alloc (.cells #[.int .i64 1, .int .i64 at_, .int .i64 ix, .int .i64 vl] 35)) = w0 at *
      have CL := Lib.hid (fun W => ptLen_any q W hq3)
      have e0 := B_m.cell 0
      have e1 := B_m.cell 1
      go_wp2
      clear e0 e1
      refine wp_region_noPanic ?_
      refine wp_region_held_drew (S := (fun W => Blk W (w.heap.size) 35 #[.int .i64 1, .int .i64 at_, .int .i64 ix, .int .i64 vl])) (by kernel_rfl) ?hS1 (fun hHeld => ?go1)
      case hS1 => exact B_m.drew
      refine tk (i := 0) (oi := ⟨some 12, _, _, _, _, _⟩) (v := ?v0_2) hHeld rfl ?y0_2 ?r0_2
      case y0_2 => (intro w _; first | (go_simp; done) | (go_simp; with_reducible rfl) | (with_reducible rfl))
      (try simp only [pt_])
      refine tk (i := 1) (oi := ⟨some 13, _, _, _, _, _⟩) (v := ?v1_3) hHeld rfl ?y1_3 ?r1_3
      case y1_3 => (intro w qS0; have cS0 := qS0.all4; first | (go_simp; done) | (go_simp; with_reducible rfl) | (with_reducible rfl))
      (try simp only [pt_])
      refine tk (i := 2) (oi := ⟨some 14, _, _, _, _, _⟩) (v := ?v2_4) hHeld rfl ?y2_4 ?r2_4
      case y2_4 => (intro w _; first | (go_simp; done) | (go_simp; with_reducible rfl) | (with_reducible rfl))
      (try simp only [pt_])
      refine tk (i := 3) (oi := ⟨some 15, _, _, _, _, _⟩) (v := ?v3_5) hHeld rfl ?y3_5 ?r3_5
      case y3_5 => (intro w qS0; have cS0 := qS0.all4; first | (go_simp; done) | (go_simp; with_reducible rfl) | (with_reducible rfl))
      (try simp only [pt_])
      refine tk (i := 4) (oi := ⟨some 16, _, _, _, _, _⟩) (v := ?v4_6) hHeld rfl ?y4_6 ?r4_6
      case y4_6 => (intro w _; first | (go_simp; done) | (go_simp; with_reducible rfl) | (with_reducible rfl))
      (try simp only [pt_])
      refine wpAnyH_ready (rs := [5]) (by kernel_rfl) (by simp) ?_
      refine AllReadyH.cons (o := { dst := some 17, op := _, type := _, pos := _, after := _, guard := _ }) rfl (fun K hK => ?_) ?_
      go_simp
      refine (CL.out _).mono ?_
      rintro e wj ⟨rfl, uj⟩
      have K_m := Blk.below B_m.drew uj
      refine hK.out _ _ ?_ (fun hHeld => ?_)
      · exact K_m
      clear hK K
      (try simp only [pt_])
      refine tk (i := 6) (oi := ⟨some 18, _, _, _, _, _⟩) (v := ?v6_7) hHeld rfl ?y6_7 ?r6_7
      case y6_7 => (intro w _; first | (go_simp; done) | (go_simp; with_reducible rfl) | (with_reducible rfl))
      (try simp only [pt_])
      refine wpAnyH_ready (rs := [7]) (by kernel_rfl) (by simp) ?_
      refine AllReadyH.cons (o := { dst := some 19, op := _, type := _, pos := _, after := _, guard := _ }) rfl (fun K hK => ?_) ?_
      go_simp
      refine (CX.out _).mono ?_
      rintro e wk ⟨rfl, rfl⟩
      refine hK.out _ _ ?_ (fun hHeld => ?_)
      · exact K_m
      clear hK K
      (try simp only [pt_])
      refine tk (i := 8) (oi := ⟨some 20, _, _, _, _, _⟩) (v := ?v8_8) hHeld rfl ?y8_8 ?r8_8
      case y8_8 => (intro w _; first | (go_simp; done) | (go_simp; with_reducible rfl) | (with_reducible rfl))
      (try simp only [pt_])
      refine tko (i := 9) (oi := ⟨some 21, _, _, _, _, _⟩) hHeld rfl ?r9_9
      (try simp only [pt_])
      refine tko (i := 10) (oi := ⟨some 22, _, _, _, _, _⟩) hHeld rfl ?r10_10
      (try simp only [pt_])
      refine tko (i := 11) (oi := ⟨some 23, _, _, _, _, _⟩) hHeld rfl ?r11_11
      (try simp only [pt_])
      refine tko (i := 12) (oi := ⟨some 24, _, _, _, _, _⟩) hHeld rfl ?r12_12
      (try simp only [pt_])
      refine tko (i := 13) (oi := ⟨some 25, _, _, _, _, _⟩) hHeld rfl ?r13_13
      (try simp only [pt_])
      refine tk (i := 14) (oi := ⟨some 26, _, _, _, _, _⟩) (v := ?v14_14) hHeld rfl ?y14_14 ?r14_14
      case y14_14 => (intro w _; first | (go_simp; done) | (go_simp; with_reducible rfl) | (with_reducible rfl))
      (try simp only [pt_])
      refine tk (i := 15) (oi := ⟨some 4, _, _, _, _, _⟩) (v := ?v15_15) hHeld rfl ?y15_15 ?r15_15
      case y15_15 => (intro w _; first | (go_simp; done) | (go_simp; with_reducible rfl) | (with_reducible rfl))
      (try simp only [pt_])
      refine wpAnyH_done (by kernel_rfl) ?_ _
      refine NoPanic.normal ?_
      rotate_left 1
      exact AllReadyH.nil
      exact AllReadyH.nil
      have u9 : Below w0.heap.size w0 wj := (Below.refl _ _).drew.trans uj
      clear K_m
      go_wp2
      go_ret
      exact ⟨ret_bool (by rw [h3.out]; rfl), V0.trans (u9.mono V0.size)⟩
    · skip
      rw [h3] at CX
      replace CX := Lib.hid CX
      replace CV := Lib.hid CV
      replace h3 := Lib.hid h3
      generalize (w.alloc (.cells #[.int .i64 1, .int .i64 at_, .int .i64 ix, .int .i64 vl] 35)) = w0 at *
      have CL := Lib.hid (fun W => ptLen_any q W hq3)
      have e0 := B_m.cell 0
      have e1 := B_m.cell 1
      go_wp2
      clear e0 e1
      refine wp_region_noPanic ?_
      refine wp_region_held_drew (S := (fun W => Blk W (w.heap.size) 35 #[.int .i64 1, .int .i64 at_, .int .i64 ix, .int .i64 vl])) (by kernel_rfl) ?hS16 (fun hHeld => ?go16)
      case hS16 => exact B_m.drew
      refine tk (i := 0) (oi := ⟨some 12, _, _, _, _, _⟩) (v := ?v0_17) hHeld rfl ?y0_17 ?r0_17
      case y0_17 => (intro w _; first | (go_simp; done) | (go_simp; with_reducible rfl) | (with_reducible rfl))
      (try simp only [pt_])
      refine tk (i := 1) (oi := ⟨some 13, _, _, _, _, _⟩) (v := ?v1_18) hHeld rfl ?y1_18 ?r1_18
      case y1_18 => (intro w qS0; have cS0 := qS0.all4; first | (go_simp; done) | (go_simp; with_reducible rfl) | (with_reducible rfl))
      (try simp only [pt_])
      refine tk (i := 2) (oi := ⟨some 14, _, _, _, _, _⟩) (v := ?v2_19) hHeld rfl ?y2_19 ?r2_19
      case y2_19 => (intro w _; first | (go_simp; done) | (go_simp; with_reducible rfl) | (with_reducible rfl))
      (try simp only [pt_])
      refine tk (i := 3) (oi := ⟨some 15, _, _, _, _, _⟩) (v := ?v3_20) hHeld rfl ?y3_20 ?r3_20
      case y3_20 => (intro w qS0; have cS0 := qS0.all4; first | (go_simp; done) | (go_simp; with_reducible rfl) | (with_reducible rfl))
      (try simp only [pt_])
      refine tk (i := 4) (oi := ⟨some 16, _, _, _, _, _⟩) (v := ?v4_21) hHeld rfl ?y4_21 ?r4_21
      case y4_21 => (intro w _; first | (go_simp; done) | (go_simp; with_reducible rfl) | (with_reducible rfl))
      (try simp only [pt_])
      refine wpAnyH_ready (rs := [5]) (by kernel_rfl) (by simp) ?_
      refine AllReadyH.cons (o := { dst := some 17, op := _, type := _, pos := _, after := _, guard := _ }) rfl (fun K hK => ?_) ?_
      go_simp
      refine (CL.out _).mono ?_
      rintro e wj ⟨rfl, uj⟩
      have K_m := Blk.below B_m.drew uj
      refine hK.out _ _ ?_ (fun hHeld => ?_)
      · exact K_m
      clear hK K
      (try simp only [pt_])
      refine tk (i := 6) (oi := ⟨some 18, _, _, _, _, _⟩) (v := ?v6_22) hHeld rfl ?y6_22 ?r6_22
      case y6_22 => (intro w _; first | (go_simp; done) | (go_simp; with_reducible rfl) | (with_reducible rfl))
      (try simp only [pt_])
      refine wpAnyH_ready (rs := [7]) (by kernel_rfl) (by simp) ?_
      refine AllReadyH.cons (o := { dst := some 19, op := _, type := _, pos := _, after := _, guard := _ }) rfl (fun K hK => ?_) ?_
      go_simp
      refine (CX.out _).mono ?_
      rintro e wk ⟨rfl, rfl⟩
      refine hK.out _ _ ?_ (fun hHeld => ?_)
      · exact K_m
      clear hK K
      (try simp only [pt_])
      refine tk (i := 8) (oi := ⟨some 20, _, _, _, _, _⟩) (v := ?v8_23) hHeld rfl ?y8_23 ?r8_23
      case y8_23 => (intro w _; first | (go_simp; done) | (go_simp; with_reducible rfl) | (with_reducible rfl))
      (try simp only [pt_])
      refine tk (i := 9) (oi := ⟨some 21, _, _, _, _, _⟩) (v := ?v9_24) hHeld rfl ?y9_24 ?r9_24
      case y9_24 => (intro w _; first | (go_simp; done) | (go_simp; with_reducible rfl) | (with_reducible rfl))
      (try simp only [pt_])
      refine tk (i := 10) (oi := ⟨some 22, _, _, _, _, _⟩) (v := ?v10_25) hHeld rfl ?y10_25 ?r10_25
      case y10_25 => (intro w qS0; have cS0 := qS0.all4; first | (go_simp; done) | (go_simp; with_reducible rfl) | (with_reducible rfl))
      (try simp only [pt_])
      refine tk (i := 11) (oi := ⟨some 23, _, _, _, _, _⟩) (v := ?v11_26) hHeld rfl ?y11_26 ?r11_26
      case y11_26 => (intro w _; first | (go_simp; done) | (go_simp; with_reducible rfl) | (with_reducible rfl))
      (try simp only [pt_])
      refine tk (i := 12) (oi := ⟨some 24, _, _, _, _, _⟩) (v := ?v12_27) hHeld rfl ?y12_27 ?r12_27
      case y12_27 => (intro w _; first | (go_simp; done) | (go_simp; with_reducible rfl) | (with_reducible rfl))
      (try simp only [pt_])
      refine wpAnyH_ready (rs := [13]) (by kernel_rfl) (by simp) ?_
      refine AllReadyH.cons (o := { dst := some 25, op := _, type := _, pos := _, after := _, guard := _ }) rfl (fun K hK => ?_) ?_
      go_simp
      refine (CV.out _).mono ?_
      rintro e wk ⟨rfl, rfl⟩
      refine hK.out _ _ ?_ (fun hHeld => ?_)
      · exact K_m
      clear hK K
      (try simp only [pt_])
      refine tk (i := 14) (oi := ⟨some 26, _, _, _, _, _⟩) (v := ?v14_28) hHeld rfl ?y14_28 ?r14_28
      case y14_28 => (intro w _; first | (go_simp; done) | (go_simp; with_reducible rfl) | (with_reducible rfl))
      (try simp only [pt_])
      refine tk (i := 15) (oi := ⟨some 4, _, _, _, _, _⟩) (v := ?v15_29) hHeld rfl ?y15_29 ?r15_29
      case y15_29 => (intro w _; first | (go_simp; done) | (go_simp; with_reducible rfl) | (with_reducible rfl))
      (try simp only [pt_])
      refine wpAnyH_done (by kernel_rfl) ?_ _
      refine NoPanic.normal ?_
      rotate_left 1
      exact AllReadyH.nil
      exact AllReadyH.nil
      exact AllReadyH.nil
      have u9 : Below w0.heap.size w0 wj := (Below.refl _ _).drew.trans uj
      clear K_m
      go_wp2
      go_ret
      exact ⟨ret_bool (by rw [h3.out]; rfl), V0.trans (u9.mono V0.size)⟩
  · have hk : inB kd 1 4 = inB kd 2 4 := by unfold inB; rw [decide_eq_decide]; omega
    rw [if_neg k1, hk]
    clear hk
    have b1 : ((kd == 1) : Bool) = false := by simpa using k1
    cases h2 : inB kd 2 4
    · simp only [Bool.false_and]
      go_enter Tryd.func21, Tryd.ntmps21
      go_wp2_with fail
      refine (l1In_any _ _ _ _).mono ?_; rintro e w' ⟨rfl, rfl⟩
      rw [h1]
      clear h1
      have e0 := B_m.cell 0
      generalize (w.alloc (.cells #[.int .i64 kd, .int .i64 at_, .int .i64 ix, .int .i64 vl] 35)) = w0 at *
      go_wp2_with (first | (go_at_call 20; refine (l1In_any _ _ _ _).mono ?_; rintro e w' ⟨rfl, rfl⟩; rw [h2]))
      go_ret
      exact ⟨rfl, V0⟩
    have K0 := inB_true h2
    simp only [Bool.true_and]
    have e0' := B_m.cell 0
    have e1' := B_m.cell 1
    have e2' := B_m.cell 2
    have e3' := B_m.cell 3






    by_cases i0 : ix = 0
    · subst i0
      by_cases v0 : vl = 0
      · subst v0
        by_cases k3 : kd = 3
        · subst k3
          by_cases a2 : 2 ≤ at_
          · have hr : (decide ((0 : Int) = 0) && (decide ((0 : Int) = 0) && (decide ((3 : Int) ≠ 3) || decide (2 ≤ at_)))) = true := by simp [a2]
            rw [hr]
            clear hr
            go_enter Tryd.func21, Tryd.ntmps21
            go_wp2_with fail
            refine (l1In_any _ _ _ _).mono ?_; rintro e w' ⟨rfl, rfl⟩
            rw [h1]
            clear h1
            generalize (w.alloc (.cells #[.int .i64 3, .int .i64 at_, .int .i64 0, .int .i64 0] 35)) = w0 at *
            clear B_m A0 K0
            go_wp2_with (first | (go_at_call 20; refine (l1In_any _ _ _ _).mono ?_; rintro e w' ⟨rfl, rfl⟩; rw [h2]))
            go_ret
            exact ⟨rfl, V0⟩
          · have hr : (decide ((0 : Int) = 0) && (decide ((0 : Int) = 0) && (decide ((3 : Int) ≠ 3) || decide (2 ≤ at_)))) = false := by simp [a2]
            rw [hr]
            clear hr
            have d2 : decide (at_ ≥ 2) = false := by simp; omega
            go_enter Tryd.func21, Tryd.ntmps21
            go_wp2_with fail
            refine (l1In_any _ _ _ _).mono ?_; rintro e w' ⟨rfl, rfl⟩
            rw [h1]
            clear h1
            generalize (w.alloc (.cells #[.int .i64 3, .int .i64 at_, .int .i64 0, .int .i64 0] 35)) = w0 at *
            clear B_m A0 K0
            go_wp2_with (first | (go_at_call 20; refine (l1In_any _ _ _ _).mono ?_; rintro e w' ⟨rfl, rfl⟩; rw [h2]))
            go_ret
            exact ⟨rfl, V0⟩
        · have hr : (decide ((0 : Int) = 0) && (decide ((0 : Int) = 0) && (decide (kd ≠ 3) || decide (2 ≤ at_)))) = true := by simp [k3]
          rw [hr]
          clear hr
          have b3 : ((kd != 3) : Bool) = true := by simpa using k3
          go_enter Tryd.func21, Tryd.ntmps21
          go_wp2_with fail
          refine (l1In_any _ _ _ _).mono ?_; rintro e w' ⟨rfl, rfl⟩
          rw [h1]
          clear h1
          generalize (w.alloc (.cells #[.int .i64 kd, .int .i64 at_, .int .i64 0, .int .i64 0] 35)) = w0 at *
          clear B_m A0 K0
          go_wp2_with (first | (go_at_call 20; refine (l1In_any _ _ _ _).mono ?_; rintro e w' ⟨rfl, rfl⟩; rw [h2]))
          go_ret
          exact ⟨rfl, V0⟩
      · have hr : (decide ((0 : Int) = 0) && (decide (vl = 0) && (decide (kd ≠ 3) || decide (2 ≤ at_)))) = false := by simp [v0]
        rw [hr]
        clear hr
        have b3 : ((vl == 0) : Bool) = false := by simpa using v0
        go_enter Tryd.func21, Tryd.ntmps21
        go_wp2_with fail
        refine (l1In_any _ _ _ _).mono ?_; rintro e w' ⟨rfl, rfl⟩
        rw [h1]
        clear h1
        generalize (w.alloc (.cells #[.int .i64 kd, .int .i64 at_, .int .i64 0, .int .i64 vl] 35)) = w0 at *
        clear B_m A0 K0
        go_wp2_with (first | (go_at_call 20; refine (l1In_any _ _ _ _).mono ?_; rintro e w' ⟨rfl, rfl⟩; rw [h2]))
        go_ret
        exact ⟨rfl, V0⟩
    · have hr : (decide (ix = 0) && (decide (vl = 0) && (decide (kd ≠ 3) || decide (2 ≤ at_)))) = false := by simp [i0]
      rw [hr]
      clear hr
      have b3 : ((ix == 0) : Bool) = false := by simpa using i0
      go_enter Tryd.func21, Tryd.ntmps21
      go_wp2_with fail
      refine (l1In_any _ _ _ _).mono ?_; rintro e w' ⟨rfl, rfl⟩
      rw [h1]
      clear h1
      generalize (w.alloc (.cells #[.int .i64 kd, .int .i64 at_, .int .i64 ix, .int .i64 vl] 35)) = w0 at *
      clear B_m A0 K0
      go_wp2_with (first | (go_at_call 20; refine (l1In_any _ _ _ _).mono ?_; rintro e w' ⟨rfl, rfl⟩; rw [h2]))
      go_ret
      exact ⟨rfl, V0⟩
theorem Flat.le4 {w a n c L} (h : Flat 4 w a n c L) : (n : Int) ≤ 9223372036854775807 := by have := h.2.1; have := h.2.2.1; unfold maxLen at this; omega































































































































































































































































































































































set_option maxHeartbeats 8000000 in
set_option maxRecDepth 100000 in
theorem areMeddles_any (p : Int) (a : Option Addr) (n c : Nat) (L : List Int) (w : World) (hL : Flat 4 w a n c L) (hT : Tbl w) (hp : 1 ≤ p) (hp2 : p ≤ 1000) :
    Calls Tryd.prog 16 #[.int .i64 p, .slice a n c] w fun e w' => e = .returned (.bool (medsB p L n)) ∧ Below w.heap.size w w' := by
  have hT' := Lib.hid hT
  clear hT

  go_enter Tryd.func16, Tryd.ntmps16
  have hLn := hL.le4
  go_wp2
  go_loopw [9] (fun v wr => ∃ k : Nat, k ≤ n ∧ v = .int .i64 k ∧ (∀ i, i < k → medAt p L i = true) ∧ Below w.heap.size w wr) (fun v _ => n - (intOf v).toNat)
  case atStart => exact ⟨0, Nat.zero_le _, rfl, fun i hi => absurd hi (by omega), Below.refl _ _⟩
  case round =>
    obtain ⟨k, hk, rfl, hj, hbel⟩ := hrel
    have HJ := Lib.hid hj
    clear hj
    by_cases hlt : k < n
    · obtain ⟨g, o, rfl, hc⟩ := (hL.below hbel).at (by omega)
      have c0 : wr.cell? ⟨g, o + k * 4, none⟩ = some (.int .i64 (L.getD (k * 4) 0)) := hc (k * 4) (by omega)
      have c1 : wr.cell? ⟨g, o + k * 4 + 1, none⟩ = some (.int .i64 (L.getD (k * 4 + 1) 0)) := by have := hc (k * 4 + 1) (by omega); simpa only [Nat.add_assoc] using this
      have c2 : wr.cell? ⟨g, o + k * 4 + 2, none⟩ = some (.int .i64 (L.getD (k * 4 + 2) 0)) := by have := hc (k * 4 + 2) (by omega); simpa only [Nat.add_assoc] using this
      have c3 : wr.cell? ⟨g, o + k * 4 + 3, none⟩ = some (.int .i64 (L.getD (k * 4 + 3) 0)) := by have := hc (k * 4 + 3) (by omega); simpa only [Nat.add_assoc] using this
      have cp : wr.cell? ⟨g, o + (k - 1) * 4 + 1, none⟩ = some (.int .i64 (L.getD ((k - 1) * 4 + 1) 0)) := by have := hc ((k - 1) * 4 + 1) (by omega); simpa only [Nat.add_assoc] using this
      clear hc
      have HA : Hid (medAt p L k = (medB p (L.getD (k * 4) 0) (L.getD (k * 4 + 1) 0) (L.getD (k * 4 + 2) 0) (L.getD (k * 4 + 3) 0) && (decide (k = 0) || decide (L.getD ((k - 1) * 4 + 1) 0 < L.getD (k * 4 + 1) 0)))) := rfl
      have CM : ∀ W, Below w.heap.size w W → Calls Tryd.prog 23 #[.int .i64 p, .agg #[.int .i64 (L.getD (k * 4) 0), .int .i64 (L.getD (k * 4 + 1) 0), .int .i64 (L.getD (k * 4 + 2) 0), .int .i64 (L.getD (k * 4 + 3) 0)]] W (fun e w' => e = .returned (.bool (medB p (L.getD (k * 4) 0) (L.getD (k * 4 + 1) 0) (L.getD (k * 4 + 2) 0) (L.getD (k * 4 + 3) 0))) ∧ Below W.heap.size W w') := fun W _hW => (meddleOk_any p _ _ _ _ W (hT'.out.below _hW) hp hp2)
      generalize L.getD ((k - 1) * 4 + 1) 0 = pa at *
      generalize L.getD (k * 4) 0 = kd at *
      generalize L.getD (k * 4 + 1) 0 = ka at *
      generalize L.getD (k * 4 + 2) 0 = kx at *
      generalize L.getD (k * 4 + 3) 0 = kv at *
      replace CM := Lib.hid CM
      generalize medB p kd ka kx kv = b at *


      go_upto_region 4 with fail
      clear c0 c1 c2 c3
      have V2 := hbel.alloc hbel.size (.cells #[.int .i64 kd, .int .i64 ka, .int .i64 kx, .int .i64 kv] 35)
      have B_m : Blk (wr.alloc (.cells #[.int .i64 kd, .int .i64 ka, .int .i64 kx, .int .i64 kv] 35)) wr.heap.size 35 #[.int .i64 kd, .int .i64 ka, .int .i64 kx, .int .i64 kv] := Blk.new wr _ _
      have cq : (wr.alloc (.cells #[.int .i64 kd, .int .i64 ka, .int .i64 kx, .int .i64 kv] 35)).cell? ⟨g, o + (k - 1) * 4 + 1, none⟩ = some (.int .i64 pa) := keepA _ cp
      clear cp
      generalize (wr.alloc (.cells #[.int .i64 kd, .int .i64 ka, .int .i64 kx, .int .i64 kv] 35)) = w2 at *
      cases b
      · skip
        have HB := Lib.hid (medsB_no p L n k hlt (by rw [HA.out]; rfl))
        refine wp_region_noPanic ?_
        refine wp_region_held_drew (S := (fun W => Blk W (wr.heap.size) 35 #[.int .i64 kd, .int .i64 ka, .int .i64 kx, .int .i64 kv] ∧ W.cell? ⟨g, o + (k - 1) * 4 + 1, none⟩ = some (.int .i64 pa))) (by kernel_rfl) ?hS30 (fun hHeld => ?go30)
        case hS30 => exact ⟨B_m.drew, cq⟩
        refine tk (i := 0) (oi := ⟨some 14, _, _, _, _, _⟩) (v := ?v0_31) hHeld rfl ?y0_31 ?r0_31
        case y0_31 => (intro w _; first | (go_simp; done) | (go_simp; with_reducible rfl) | (with_reducible rfl))
        (try simp only [pt_])
        refine tk (i := 1) (oi := ⟨some 15, _, _, _, _, _⟩) (v := ?v1_32) hHeld rfl ?y1_32 ?r1_32
        case y1_32 => (intro w hSw; obtain ⟨qS0, qS1⟩ := hSw; have cS0 := qS0.all4; first | (go_simp; done) | (go_simp; with_reducible rfl) | (with_reducible rfl))
        (try simp only [pt_])
        refine wpAnyH_ready (rs := [2]) (by kernel_rfl) (by simp) ?_
        refine AllReadyH.cons (o := { dst := some 16, op := _, type := _, pos := _, after := _, guard := _ }) rfl (fun K hK => ?_) ?_
        go_simp
        refine (CM.out _ (V2.drew)).mono ?_
        rintro e wj ⟨rfl, uj⟩
        have K_m := Blk.below B_m.drew uj
        have K_p := keepC uj (show w2.drew.cell? _ = _ from cq)
        refine hK.out _ _ ?_ (fun hHeld => ?_)
        · exact ⟨K_m, K_p⟩
        clear hK K
        (try simp only [pt_])
        refine tk (i := 3) (oi := ⟨some 17, _, _, _, _, _⟩) (v := ?v3_33) hHeld rfl ?y3_33 ?r3_33
        case y3_33 => (intro w _; first | (go_simp; done) | (go_simp; with_reducible rfl) | (with_reducible rfl))
        (try simp only [pt_])
        refine tk (i := 4) (oi := ⟨some 18, _, _, _, _, _⟩) (v := ?v4_34) hHeld rfl ?y4_34 ?r4_34
        case y4_34 => (intro w _; first | (go_simp; done) | (go_simp; with_reducible rfl) | (with_reducible rfl))
        (try simp only [pt_])
        refine tko (i := 5) (oi := ⟨some 19, _, _, _, _, _⟩) hHeld rfl ?r5_35
        (try simp only [pt_])
        refine tko (i := 6) (oi := ⟨some 20, _, _, _, _, _⟩) hHeld rfl ?r6_36
        (try simp only [pt_])
        refine tko (i := 7) (oi := ⟨some 21, _, _, _, _, _⟩) hHeld rfl ?r7_37
        (try simp only [pt_])
        refine tko (i := 8) (oi := ⟨some 22, _, _, _, _, _⟩) hHeld rfl ?r8_38
        (try simp only [pt_])
        refine tko (i := 9) (oi := ⟨some 23, _, _, _, _, _⟩) hHeld rfl ?r9_39
        (try simp only [pt_])
        refine tko (i := 10) (oi := ⟨some 24, _, _, _, _, _⟩) hHeld rfl ?r10_40
        (try simp only [pt_])
        refine tko (i := 11) (oi := ⟨some 25, _, _, _, _, _⟩) hHeld rfl ?r11_41
        (try simp only [pt_])
        refine tko (i := 12) (oi := ⟨some 26, _, _, _, _, _⟩) hHeld rfl ?r12_42
        (try simp only [pt_])
        refine tko (i := 13) (oi := ⟨some 27, _, _, _, _, _⟩) hHeld rfl ?r13_43
        (try simp only [pt_])
        refine tko (i := 14) (oi := ⟨some 28, _, _, _, _, _⟩) hHeld rfl ?r14_44
        (try simp only [pt_])
        refine tko (i := 15) (oi := ⟨some 29, _, _, _, _, _⟩) hHeld rfl ?r15_45
        (try simp only [pt_])
        refine tko (i := 16) (oi := ⟨some 30, _, _, _, _, _⟩) hHeld rfl ?r16_46
        (try simp only [pt_])
        refine tko (i := 17) (oi := ⟨some 31, _, _, _, _, _⟩) hHeld rfl ?r17_47
        (try simp only [pt_])
        refine tk (i := 18) (oi := ⟨some 32, _, _, _, _, _⟩) (v := ?v18_48) hHeld rfl ?y18_48 ?r18_48
        case y18_48 => (intro w _; first | (go_simp; done) | (go_simp; with_reducible rfl) | (with_reducible rfl))
        (try simp only [pt_])
        refine wpAnyH_done (by kernel_rfl) ?_ _
        refine NoPanic.normal ?_
        rotate_left 1
        exact AllReadyH.nil
        have u9 := V2.trans ((((Below.refl _ _).drew.trans uj)).mono V2.size)
        clear K_m K_p B_m cq uj V2 CM HA
        go_wp2
        go_ret
        exact ⟨ret_bool HB.out.symm, u9⟩
      · by_cases k0 : k = 0
        · subst k0
          have HB : Hid (medAt p L 0 = true) := Lib.hid (by rw [HA.out]; rfl)
          refine wp_region_noPanic ?_
          refine wp_region_held_drew (S := (fun W => Blk W (wr.heap.size) 35 #[.int .i64 kd, .int .i64 ka, .int .i64 kx, .int .i64 kv] ∧ W.cell? ⟨g, o + (0 - 1) * 4 + 1, none⟩ = some (.int .i64 pa))) (by kernel_rfl) ?hS49 (fun hHeld => ?go49)
          case hS49 => exact ⟨B_m.drew, cq⟩
          refine tk (i := 0) (oi := ⟨some 14, _, _, _, _, _⟩) (v := ?v0_50) hHeld rfl ?y0_50 ?r0_50
          case y0_50 => (intro w _; first | (go_simp; done) | (go_simp; with_reducible rfl) | (with_reducible rfl))
          (try simp only [pt_])
          refine tk (i := 1) (oi := ⟨some 15, _, _, _, _, _⟩) (v := ?v1_51) hHeld rfl ?y1_51 ?r1_51
          case y1_51 => (intro w hSw; obtain ⟨qS0, qS1⟩ := hSw; have cS0 := qS0.all4; first | (go_simp; done) | (go_simp; with_reducible rfl) | (with_reducible rfl))
          (try simp only [pt_])
          refine wpAnyH_ready (rs := [2]) (by kernel_rfl) (by simp) ?_
          refine AllReadyH.cons (o := { dst := some 16, op := _, type := _, pos := _, after := _, guard := _ }) rfl (fun K hK => ?_) ?_
          go_simp
          refine (CM.out _ (V2.drew)).mono ?_
          rintro e wj ⟨rfl, uj⟩
          have K_m := Blk.below B_m.drew uj
          have K_p := keepC uj (show w2.drew.cell? _ = _ from cq)
          refine hK.out _ _ ?_ (fun hHeld => ?_)
          · exact ⟨K_m, K_p⟩
          clear hK K
          (try simp only [pt_])
          refine tk (i := 3) (oi := ⟨some 17, _, _, _, _, _⟩) (v := ?v3_52) hHeld rfl ?y3_52 ?r3_52
          case y3_52 => (intro w _; first | (go_simp; done) | (go_simp; with_reducible rfl) | (with_reducible rfl))
          (try simp only [pt_])
          refine tk (i := 4) (oi := ⟨some 18, _, _, _, _, _⟩) (v := ?v4_53) hHeld rfl ?y4_53 ?r4_53
          case y4_53 => (intro w _; first | (go_simp; done) | (go_simp; with_reducible rfl) | (with_reducible rfl))
          (try simp only [pt_])
          refine tk (i := 5) (oi := ⟨some 19, _, _, _, _, _⟩) (v := ?v5_54) hHeld rfl ?y5_54 ?r5_54
          case y5_54 => (intro w _; first | (go_simp; done) | (go_simp; with_reducible rfl) | (with_reducible rfl))
          (try simp only [pt_])
          refine tk (i := 6) (oi := ⟨some 20, _, _, _, _, _⟩) (v := ?v6_55) hHeld rfl ?y6_55 ?r6_55
          case y6_55 => (intro w _; first | (go_simp; done) | (go_simp; with_reducible rfl) | (with_reducible rfl))
          (try simp only [pt_])
          refine tk (i := 7) (oi := ⟨some 21, _, _, _, _, _⟩) (v := ?v7_56) hHeld rfl ?y7_56 ?r7_56
          case y7_56 => (intro w _; first | (go_simp; done) | (go_simp; with_reducible rfl) | (with_reducible rfl))
          (try simp only [pt_])
          refine tko (i := 8) (oi := ⟨some 22, _, _, _, _, _⟩) hHeld rfl ?r8_57
          (try simp only [pt_])
          refine tko (i := 9) (oi := ⟨some 23, _, _, _, _, _⟩) hHeld rfl ?r9_58
          (try simp only [pt_])
          refine tko (i := 10) (oi := ⟨some 24, _, _, _, _, _⟩) hHeld rfl ?r10_59
          (try simp only [pt_])
          refine tko (i := 11) (oi := ⟨some 25, _, _, _, _, _⟩) hHeld rfl ?r11_60
          (try simp only [pt_])
          refine tko (i := 12) (oi := ⟨some 26, _, _, _, _, _⟩) hHeld rfl ?r12_61
          (try simp only [pt_])
          refine tko (i := 13) (oi := ⟨some 27, _, _, _, _, _⟩) hHeld rfl ?r13_62
          (try simp only [pt_])
          refine tko (i := 14) (oi := ⟨some 28, _, _, _, _, _⟩) hHeld rfl ?r14_63
          (try simp only [pt_])
          refine tko (i := 15) (oi := ⟨some 29, _, _, _, _, _⟩) hHeld rfl ?r15_64
          (try simp only [pt_])
          refine tko (i := 16) (oi := ⟨some 30, _, _, _, _, _⟩) hHeld rfl ?r16_65
          (try simp only [pt_])
          refine tk (i := 17) (oi := ⟨some 31, _, _, _, _, _⟩) (v := ?v17_66) hHeld rfl ?y17_66 ?r17_66
          case y17_66 => (intro w _; first | (go_simp; done) | (go_simp; with_reducible rfl) | (with_reducible rfl))
          (try simp only [pt_])
          refine tk (i := 18) (oi := ⟨some 32, _, _, _, _, _⟩) (v := ?v18_67) hHeld rfl ?y18_67 ?r18_67
          case y18_67 => (intro w _; first | (go_simp; done) | (go_simp; with_reducible rfl) | (with_reducible rfl))
          (try simp only [pt_])
          refine wpAnyH_done (by kernel_rfl) ?_ _
          refine NoPanic.normal ?_
          rotate_left 1
          exact AllReadyH.nil
          have u9 := V2.trans ((((Below.refl _ _).drew.trans uj)).mono V2.size)
          clear K_m K_p B_m cq uj V2 CM HA
          go_wp2
          go_roundw
          case rel => exact ⟨1, by omega, by first | rfl | go_num, fun i hi => by
            obtain rfl : i = 0 := by omega
            exact HB.out, u9⟩
          case measure => simp [intOf]; omega
        · have kp : (0 : Int) < (k : Int) := by omega
          have dk0 : decide (0 < k) = true := decide_eq_true (by omega)
          have hk1 : ((k : Int) - 1).toNat = k - 1 := by omega
          have hk3 : (k : Int) - 1 < (n : Int) := by omega
          have hk4 : (1 : Int) ≤ (k : Int) := by omega
          have hk2 : IntKind.i64.wrap ((k : Int) - 1) = (k : Int) - 1 := IntWalk.i64_in _ (by omega)
          by_cases hpa : pa < ka
          · have HB : Hid (medAt p L k = true) := Lib.hid (by rw [HA.out]; simp [hpa])
            have d1 : decide (pa ≥ ka) = false := by simp; omega
            refine wp_region_noPanic ?_
            refine wp_region_held_drew (S := (fun W => Blk W (wr.heap.size) 35 #[.int .i64 kd, .int .i64 ka, .int .i64 kx, .int .i64 kv] ∧ W.cell? ⟨g, o + (k - 1) * 4 + 1, none⟩ = some (.int .i64 pa))) (by kernel_rfl) ?hS68 (fun hHeld => ?go68)
            case hS68 => exact ⟨B_m.drew, cq⟩
            refine tk (i := 0) (oi := ⟨some 14, _, _, _, _, _⟩) (v := ?v0_69) hHeld rfl ?y0_69 ?r0_69
            case y0_69 => (intro w _; first | (go_simp; done) | (go_simp; with_reducible rfl) | (with_reducible rfl))
            (try simp only [pt_])
            refine tk (i := 1) (oi := ⟨some 15, _, _, _, _, _⟩) (v := ?v1_70) hHeld rfl ?y1_70 ?r1_70
            case y1_70 => (intro w hSw; obtain ⟨qS0, qS1⟩ := hSw; have cS0 := qS0.all4; first | (go_simp; done) | (go_simp; with_reducible rfl) | (with_reducible rfl))
            (try simp only [pt_])
            refine wpAnyH_ready (rs := [2]) (by kernel_rfl) (by simp) ?_
            refine AllReadyH.cons (o := { dst := some 16, op := _, type := _, pos := _, after := _, guard := _ }) rfl (fun K hK => ?_) ?_
            go_simp
            refine (CM.out _ (V2.drew)).mono ?_
            rintro e wj ⟨rfl, uj⟩
            have K_m := Blk.below B_m.drew uj
            have K_p := keepC uj (show w2.drew.cell? _ = _ from cq)
            refine hK.out _ _ ?_ (fun hHeld => ?_)
            · exact ⟨K_m, K_p⟩
            clear hK K
            (try simp only [pt_])
            refine tk (i := 3) (oi := ⟨some 17, _, _, _, _, _⟩) (v := ?v3_71) hHeld rfl ?y3_71 ?r3_71
            case y3_71 => (intro w _; first | (go_simp; done) | (go_simp; with_reducible rfl) | (with_reducible rfl))
            (try simp only [pt_])
            refine tk (i := 4) (oi := ⟨some 18, _, _, _, _, _⟩) (v := ?v4_72) hHeld rfl ?y4_72 ?r4_72
            case y4_72 => (intro w _; first | (go_simp; done) | (go_simp; with_reducible rfl) | (with_reducible rfl))
            (try simp only [pt_])
            refine tk (i := 5) (oi := ⟨some 19, _, _, _, _, _⟩) (v := ?v5_73) hHeld rfl ?y5_73 ?r5_73
            case y5_73 => (intro w _; first | (go_simp; done) | (go_simp; with_reducible rfl) | (with_reducible rfl))
            (try simp only [pt_])
            refine tk (i := 6) (oi := ⟨some 20, _, _, _, _, _⟩) (v := ?v6_74) hHeld rfl ?y6_74 ?r6_74
            case y6_74 => (intro w _; first | (go_simp; done) | (go_simp; with_reducible rfl) | (with_reducible rfl))
            (try simp only [pt_])
            try simp only [dk0]
            refine tk (i := 7) (oi := ⟨some 21, _, _, _, _, _⟩) (v := ?v7_75) hHeld rfl ?y7_75 ?r7_75
            case y7_75 => (intro w _; first | (go_simp; done) | (go_simp; with_reducible rfl) | (with_reducible rfl))
            (try simp only [pt_])
            refine tk (i := 8) (oi := ⟨some 22, _, _, _, _, _⟩) (v := ?v8_76) hHeld rfl ?y8_76 ?r8_76
            case y8_76 => (intro w _; first | (go_simp; done) | (go_simp; with_reducible rfl) | (with_reducible rfl))
            (try simp only [pt_])
            refine tk (i := 9) (oi := ⟨some 23, _, _, _, _, _⟩) (v := ?v9_77) hHeld rfl ?y9_77 ?r9_77
            case y9_77 => (intro w _; first | (go_simp; done) | (go_simp; with_reducible rfl) | (with_reducible rfl))
            (try simp only [pt_])
            refine tk (i := 10) (oi := ⟨some 24, _, _, _, _, _⟩) (v := ?v10_78) hHeld rfl ?y10_78 ?r10_78
            case y10_78 => (intro w _; first | (go_simp; done) | (go_simp; with_reducible rfl) | (with_reducible rfl))
            (try simp only [pt_])
            refine tk (i := 11) (oi := ⟨some 25, _, _, _, _, _⟩) (v := ?v11_79) hHeld rfl ?y11_79 ?r11_79
            case y11_79 => (intro w _; first | (go_simp; done) | (go_simp; with_reducible rfl) | (with_reducible rfl))
            (try simp only [pt_])
            refine tk (i := 12) (oi := ⟨some 26, _, _, _, _, _⟩) (v := ?v12_80) hHeld rfl ?y12_80 ?r12_80
            case y12_80 => (intro w _; first | (go_simp; done) | (go_simp; with_reducible rfl) | (with_reducible rfl))
            (try simp only [pt_])
            refine tk (i := 13) (oi := ⟨some 27, _, _, _, _, _⟩) (v := ?v13_81) hHeld rfl ?y13_81 ?r13_81
            case y13_81 => (intro w hSw; obtain ⟨qS0, qS1⟩ := hSw; have cS0 := qS0.all4; first | (go_simp; done) | (go_simp; with_reducible rfl) | (with_reducible rfl))
            (try simp only [pt_])
            refine tk (i := 14) (oi := ⟨some 28, _, _, _, _, _⟩) (v := ?v14_82) hHeld rfl ?y14_82 ?r14_82
            case y14_82 => (intro w _; first | (go_simp; done) | (go_simp; with_reducible rfl) | (with_reducible rfl))
            (try simp only [pt_])
            refine tk (i := 15) (oi := ⟨some 29, _, _, _, _, _⟩) (v := ?v15_83) hHeld rfl ?y15_83 ?r15_83
            case y15_83 => (intro w hSw; obtain ⟨qS0, qS1⟩ := hSw; have cS0 := qS0.all4; first | (go_simp; done) | (go_simp; with_reducible rfl) | (with_reducible rfl))
            (try simp only [pt_])
            refine tk (i := 16) (oi := ⟨some 30, _, _, _, _, _⟩) (v := ?v16_84) hHeld rfl ?y16_84 ?r16_84
            case y16_84 => (intro w _; first | (go_simp; done) | (go_simp; with_reducible rfl) | (with_reducible rfl))
            (try simp only [pt_])
            refine tk (i := 17) (oi := ⟨some 31, _, _, _, _, _⟩) (v := ?v17_85) hHeld rfl ?y17_85 ?r17_85
            case y17_85 => (intro w _; first | (go_simp; done) | (go_simp; with_reducible rfl) | (with_reducible rfl))
            (try simp only [pt_])
            refine tk (i := 18) (oi := ⟨some 32, _, _, _, _, _⟩) (v := ?v18_86) hHeld rfl ?y18_86 ?r18_86
            case y18_86 => (intro w _; first | (go_simp; done) | (go_simp; with_reducible rfl) | (with_reducible rfl))
            (try simp only [pt_])
            refine wpAnyH_done (by kernel_rfl) ?_ _
            refine NoPanic.normal ?_
            rotate_left 1
            exact AllReadyH.nil
            have u9 := V2.trans ((((Below.refl _ _).drew.trans uj)).mono V2.size)
            clear K_m K_p B_m cq uj V2 CM HA
            go_wp2
            go_roundw
            case rel => exact ⟨k + 1, by omega, by go_num, fun i hi => by
              by_cases e : i = k
              · subst e; exact HB.out
              · exact HJ.out i (by omega), u9⟩
            case measure => simp [intOf]; omega
          · have HB := Lib.hid (medsB_no p L n k hlt (by rw [HA.out]; simp [hpa, k0]))
            have d1 : pa ≥ ka := by omega
            refine wp_region_noPanic ?_
            refine wp_region_held_drew (S := (fun W => Blk W (wr.heap.size) 35 #[.int .i64 kd, .int .i64 ka, .int .i64 kx, .int .i64 kv] ∧ W.cell? ⟨g, o + (k - 1) * 4 + 1, none⟩ = some (.int .i64 pa))) (by kernel_rfl) ?hS87 (fun hHeld => ?go87)
            case hS87 => exact ⟨B_m.drew, cq⟩
            refine tk (i := 0) (oi := ⟨some 14, _, _, _, _, _⟩) (v := ?v0_88) hHeld rfl ?y0_88 ?r0_88
            case y0_88 => (intro w _; first | (go_simp; done) | (go_simp; with_reducible rfl) | (with_reducible rfl))
            (try simp only [pt_])
            refine tk (i := 1) (oi := ⟨some 15, _, _, _, _, _⟩) (v := ?v1_89) hHeld rfl ?y1_89 ?r1_89
            case y1_89 => (intro w hSw; obtain ⟨qS0, qS1⟩ := hSw; have cS0 := qS0.all4; first | (go_simp; done) | (go_simp; with_reducible rfl) | (with_reducible rfl))
            (try simp only [pt_])
            refine wpAnyH_ready (rs := [2]) (by kernel_rfl) (by simp) ?_
            refine AllReadyH.cons (o := { dst := some 16, op := _, type := _, pos := _, after := _, guard := _ }) rfl (fun K hK => ?_) ?_
            go_simp
            refine (CM.out _ (V2.drew)).mono ?_
            rintro e wj ⟨rfl, uj⟩
            have K_m := Blk.below B_m.drew uj
            have K_p := keepC uj (show w2.drew.cell? _ = _ from cq)
            refine hK.out _ _ ?_ (fun hHeld => ?_)
            · exact ⟨K_m, K_p⟩
            clear hK K
            (try simp only [pt_])
            refine tk (i := 3) (oi := ⟨some 17, _, _, _, _, _⟩) (v := ?v3_90) hHeld rfl ?y3_90 ?r3_90
            case y3_90 => (intro w _; first | (go_simp; done) | (go_simp; with_reducible rfl) | (with_reducible rfl))
            (try simp only [pt_])
            refine tk (i := 4) (oi := ⟨some 18, _, _, _, _, _⟩) (v := ?v4_91) hHeld rfl ?y4_91 ?r4_91
            case y4_91 => (intro w _; first | (go_simp; done) | (go_simp; with_reducible rfl) | (with_reducible rfl))
            (try simp only [pt_])
            refine tk (i := 5) (oi := ⟨some 19, _, _, _, _, _⟩) (v := ?v5_92) hHeld rfl ?y5_92 ?r5_92
            case y5_92 => (intro w _; first | (go_simp; done) | (go_simp; with_reducible rfl) | (with_reducible rfl))
            (try simp only [pt_])
            refine tk (i := 6) (oi := ⟨some 20, _, _, _, _, _⟩) (v := ?v6_93) hHeld rfl ?y6_93 ?r6_93
            case y6_93 => (intro w _; first | (go_simp; done) | (go_simp; with_reducible rfl) | (with_reducible rfl))
            (try simp only [pt_])
            try simp only [dk0]
            refine tk (i := 7) (oi := ⟨some 21, _, _, _, _, _⟩) (v := ?v7_94) hHeld rfl ?y7_94 ?r7_94
            case y7_94 => (intro w _; first | (go_simp; done) | (go_simp; with_reducible rfl) | (with_reducible rfl))
            (try simp only [pt_])
            refine tk (i := 8) (oi := ⟨some 22, _, _, _, _, _⟩) (v := ?v8_95) hHeld rfl ?y8_95 ?r8_95
            case y8_95 => (intro w _; first | (go_simp; done) | (go_simp; with_reducible rfl) | (with_reducible rfl))
            (try simp only [pt_])
            refine tk (i := 9) (oi := ⟨some 23, _, _, _, _, _⟩) (v := ?v9_96) hHeld rfl ?y9_96 ?r9_96
            case y9_96 => (intro w _; first | (go_simp; done) | (go_simp; with_reducible rfl) | (with_reducible rfl))
            (try simp only [pt_])
            refine tk (i := 10) (oi := ⟨some 24, _, _, _, _, _⟩) (v := ?v10_97) hHeld rfl ?y10_97 ?r10_97
            case y10_97 => (intro w _; first | (go_simp; done) | (go_simp; with_reducible rfl) | (with_reducible rfl))
            (try simp only [pt_])
            refine tk (i := 11) (oi := ⟨some 25, _, _, _, _, _⟩) (v := ?v11_98) hHeld rfl ?y11_98 ?r11_98
            case y11_98 => (intro w _; first | (go_simp; done) | (go_simp; with_reducible rfl) | (with_reducible rfl))
            (try simp only [pt_])
            refine tk (i := 12) (oi := ⟨some 26, _, _, _, _, _⟩) (v := ?v12_99) hHeld rfl ?y12_99 ?r12_99
            case y12_99 => (intro w _; first | (go_simp; done) | (go_simp; with_reducible rfl) | (with_reducible rfl))
            (try simp only [pt_])
            refine tk (i := 13) (oi := ⟨some 27, _, _, _, _, _⟩) (v := ?v13_100) hHeld rfl ?y13_100 ?r13_100
            case y13_100 => (intro w hSw; obtain ⟨qS0, qS1⟩ := hSw; have cS0 := qS0.all4; first | (go_simp; done) | (go_simp; with_reducible rfl) | (with_reducible rfl))
            (try simp only [pt_])
            refine tk (i := 14) (oi := ⟨some 28, _, _, _, _, _⟩) (v := ?v14_101) hHeld rfl ?y14_101 ?r14_101
            case y14_101 => (intro w _; first | (go_simp; done) | (go_simp; with_reducible rfl) | (with_reducible rfl))
            (try simp only [pt_])
            refine tk (i := 15) (oi := ⟨some 29, _, _, _, _, _⟩) (v := ?v15_102) hHeld rfl ?y15_102 ?r15_102
            case y15_102 => (intro w hSw; obtain ⟨qS0, qS1⟩ := hSw; have cS0 := qS0.all4; first | (go_simp; done) | (go_simp; with_reducible rfl) | (with_reducible rfl))
            (try simp only [pt_])
            refine tk (i := 16) (oi := ⟨some 30, _, _, _, _, _⟩) (v := ?v16_103) hHeld rfl ?y16_103 ?r16_103
            case y16_103 => (intro w _; first | (go_simp; done) | (go_simp; with_reducible rfl) | (with_reducible rfl))
            (try simp only [pt_])
            refine tk (i := 17) (oi := ⟨some 31, _, _, _, _, _⟩) (v := ?v17_104) hHeld rfl ?y17_104 ?r17_104
            case y17_104 => (intro w _; first | (go_simp; done) | (go_simp; with_reducible rfl) | (with_reducible rfl))
            (try simp only [pt_])
            refine tk (i := 18) (oi := ⟨some 32, _, _, _, _, _⟩) (v := ?v18_105) hHeld rfl ?y18_105 ?r18_105
            case y18_105 => (intro w _; first | (go_simp; done) | (go_simp; with_reducible rfl) | (with_reducible rfl))
            (try simp only [pt_])
            refine wpAnyH_done (by kernel_rfl) ?_ _
            refine NoPanic.normal ?_
            rotate_left 1
            exact AllReadyH.nil
            have u9 := V2.trans ((((Below.refl _ _).drew.trans uj)).mono V2.size)
            clear K_m K_p B_m cq uj V2 CM HA
            go_wp2
            go_ret
            exact ⟨ret_bool HB.out.symm, u9⟩

    · obtain rfl : k = n := by omega
      have HB := Lib.hid (medsB_yes p L k HJ.out)
      go_wp2
      go_ret
      exact ⟨ret_bool HB.out.symm, hbel⟩
set_option maxHeartbeats 8000000 in
set_option maxRecDepth 100000 in
theorem nwGood_any (p : Int) (a : Option Addr) (n c : Nat) (L : List Int) (w : World) (hL : Flat 4 w a n c L) (hp : isPr p = true) :
    Calls Tryd.prog 13 #[.int .i64 p, .slice a n c] w fun e w' => e = .returned (.bool (medsB p L n)) ∧ Below w.heap.size w w' := by
  have hpr := isPr_range hp

  go_enter Tryd.func13, Tryd.ntmps13
  have hLn := hL.le4
  go_wp2
  go_loopw [9] (fun v wr => ∃ k : Nat, k ≤ n ∧ v = .int .i64 k ∧ (∀ i, i < k → medAt p L i = true) ∧ Below w.heap.size w wr) (fun v _ => n - (intOf v).toNat)
  case atStart => exact ⟨0, Nat.zero_le _, rfl, fun i hi => absurd hi (by omega), Below.refl _ _⟩
  case round =>
    obtain ⟨k, hk, rfl, hj, hbel⟩ := hrel
    have HJ := Lib.hid hj
    clear hj
    by_cases hlt : k < n
    · obtain ⟨g, o, rfl, hc⟩ := (hL.below hbel).at (by omega)
      have c0 : wr.cell? ⟨g, o + k * 4, none⟩ = some (.int .i64 (L.getD (k * 4) 0)) := hc (k * 4) (by omega)
      have c1 : wr.cell? ⟨g, o + k * 4 + 1, none⟩ = some (.int .i64 (L.getD (k * 4 + 1) 0)) := by have := hc (k * 4 + 1) (by omega); simpa only [Nat.add_assoc] using this
      have c2 : wr.cell? ⟨g, o + k * 4 + 2, none⟩ = some (.int .i64 (L.getD (k * 4 + 2) 0)) := by have := hc (k * 4 + 2) (by omega); simpa only [Nat.add_assoc] using this
      have c3 : wr.cell? ⟨g, o + k * 4 + 3, none⟩ = some (.int .i64 (L.getD (k * 4 + 3) 0)) := by have := hc (k * 4 + 3) (by omega); simpa only [Nat.add_assoc] using this
      have cp : wr.cell? ⟨g, o + (k - 1) * 4 + 1, none⟩ = some (.int .i64 (L.getD ((k - 1) * 4 + 1) 0)) := by have := hc ((k - 1) * 4 + 1) (by omega); simpa only [Nat.add_assoc] using this
      clear hc
      have HA : Hid (medAt p L k = (medB p (L.getD (k * 4) 0) (L.getD (k * 4 + 1) 0) (L.getD (k * 4 + 2) 0) (L.getD (k * 4 + 3) 0) && (decide (k = 0) || decide (L.getD ((k - 1) * 4 + 1) 0 < L.getD (k * 4 + 1) 0)))) := rfl
      have CM : ∀ W, Below w.heap.size w W → Calls Tryd.prog 21 #[.int .i64 p, .agg #[.int .i64 (L.getD (k * 4) 0), .int .i64 (L.getD (k * 4 + 1) 0), .int .i64 (L.getD (k * 4 + 2) 0), .int .i64 (L.getD (k * 4 + 3) 0)]] W (fun e w' => e = .returned (.bool (medB p (L.getD (k * 4) 0) (L.getD (k * 4 + 1) 0) (L.getD (k * 4 + 2) 0) (L.getD (k * 4 + 3) 0))) ∧ Below W.heap.size W w') := fun W _hW => (nwOne_any p _ _ _ _ W (by omega) (by omega))
      generalize L.getD ((k - 1) * 4 + 1) 0 = pa at *
      generalize L.getD (k * 4) 0 = kd at *
      generalize L.getD (k * 4 + 1) 0 = ka at *
      generalize L.getD (k * 4 + 2) 0 = kx at *
      generalize L.getD (k * 4 + 3) 0 = kv at *
      replace CM := Lib.hid CM
      generalize medB p kd ka kx kv = b at *


      go_upto_region 4 with fail
      clear c0 c1 c2 c3
      have V2 := hbel.alloc hbel.size (.cells #[.int .i64 kd, .int .i64 ka, .int .i64 kx, .int .i64 kv] 35)
      have B_m : Blk (wr.alloc (.cells #[.int .i64 kd, .int .i64 ka, .int .i64 kx, .int .i64 kv] 35)) wr.heap.size 35 #[.int .i64 kd, .int .i64 ka, .int .i64 kx, .int .i64 kv] := Blk.new wr _ _
      have cq : (wr.alloc (.cells #[.int .i64 kd, .int .i64 ka, .int .i64 kx, .int .i64 kv] 35)).cell? ⟨g, o + (k - 1) * 4 + 1, none⟩ = some (.int .i64 pa) := keepA _ cp
      clear cp
      generalize (wr.alloc (.cells #[.int .i64 kd, .int .i64 ka, .int .i64 kx, .int .i64 kv] 35)) = w2 at *
      cases b
      · skip
        have HB := Lib.hid (medsB_no p L n k hlt (by rw [HA.out]; rfl))
        refine wp_region_noPanic ?_
        refine wp_region_held_drew (S := (fun W => Blk W (wr.heap.size) 35 #[.int .i64 kd, .int .i64 ka, .int .i64 kx, .int .i64 kv] ∧ W.cell? ⟨g, o + (k - 1) * 4 + 1, none⟩ = some (.int .i64 pa))) (by kernel_rfl) ?hS30 (fun hHeld => ?go30)
        case hS30 => exact ⟨B_m.drew, cq⟩
        refine tk (i := 0) (oi := ⟨some 14, _, _, _, _, _⟩) (v := ?v0_31) hHeld rfl ?y0_31 ?r0_31
        case y0_31 => (intro w _; first | (go_simp; done) | (go_simp; with_reducible rfl) | (with_reducible rfl))
        (try simp only [pt_])
        refine tk (i := 1) (oi := ⟨some 15, _, _, _, _, _⟩) (v := ?v1_32) hHeld rfl ?y1_32 ?r1_32
        case y1_32 => (intro w hSw; obtain ⟨qS0, qS1⟩ := hSw; have cS0 := qS0.all4; first | (go_simp; done) | (go_simp; with_reducible rfl) | (with_reducible rfl))
        (try simp only [pt_])
        refine wpAnyH_ready (rs := [2]) (by kernel_rfl) (by simp) ?_
        refine AllReadyH.cons (o := { dst := some 16, op := _, type := _, pos := _, after := _, guard := _ }) rfl (fun K hK => ?_) ?_
        go_simp
        refine (CM.out _ (V2.drew)).mono ?_
        rintro e wj ⟨rfl, uj⟩
        have K_m := Blk.below B_m.drew uj
        have K_p := keepC uj (show w2.drew.cell? _ = _ from cq)
        refine hK.out _ _ ?_ (fun hHeld => ?_)
        · exact ⟨K_m, K_p⟩
        clear hK K
        (try simp only [pt_])
        refine tk (i := 3) (oi := ⟨some 17, _, _, _, _, _⟩) (v := ?v3_33) hHeld rfl ?y3_33 ?r3_33
        case y3_33 => (intro w _; first | (go_simp; done) | (go_simp; with_reducible rfl) | (with_reducible rfl))
        (try simp only [pt_])
        refine tk (i := 4) (oi := ⟨some 18, _, _, _, _, _⟩) (v := ?v4_34) hHeld rfl ?y4_34 ?r4_34
        case y4_34 => (intro w _; first | (go_simp; done) | (go_simp; with_reducible rfl) | (with_reducible rfl))
        (try simp only [pt_])
        refine tko (i := 5) (oi := ⟨some 19, _, _, _, _, _⟩) hHeld rfl ?r5_35
        (try simp only [pt_])
        refine tko (i := 6) (oi := ⟨some 20, _, _, _, _, _⟩) hHeld rfl ?r6_36
        (try simp only [pt_])
        refine tko (i := 7) (oi := ⟨some 21, _, _, _, _, _⟩) hHeld rfl ?r7_37
        (try simp only [pt_])
        refine tko (i := 8) (oi := ⟨some 22, _, _, _, _, _⟩) hHeld rfl ?r8_38
        (try simp only [pt_])
        refine tko (i := 9) (oi := ⟨some 23, _, _, _, _, _⟩) hHeld rfl ?r9_39
        (try simp only [pt_])
        refine tko (i := 10) (oi := ⟨some 24, _, _, _, _, _⟩) hHeld rfl ?r10_40
        (try simp only [pt_])
        refine tko (i := 11) (oi := ⟨some 25, _, _, _, _, _⟩) hHeld rfl ?r11_41
        (try simp only [pt_])
        refine tko (i := 12) (oi := ⟨some 26, _, _, _, _, _⟩) hHeld rfl ?r12_42
        (try simp only [pt_])
        refine tko (i := 13) (oi := ⟨some 27, _, _, _, _, _⟩) hHeld rfl ?r13_43
        (try simp only [pt_])
        refine tko (i := 14) (oi := ⟨some 28, _, _, _, _, _⟩) hHeld rfl ?r14_44
        (try simp only [pt_])
        refine tko (i := 15) (oi := ⟨some 29, _, _, _, _, _⟩) hHeld rfl ?r15_45
        (try simp only [pt_])
        refine tko (i := 16) (oi := ⟨some 30, _, _, _, _, _⟩) hHeld rfl ?r16_46
        (try simp only [pt_])
        refine tko (i := 17) (oi := ⟨some 31, _, _, _, _, _⟩) hHeld rfl ?r17_47
        (try simp only [pt_])
        refine tk (i := 18) (oi := ⟨some 32, _, _, _, _, _⟩) (v := ?v18_48) hHeld rfl ?y18_48 ?r18_48
        case y18_48 => (intro w _; first | (go_simp; done) | (go_simp; with_reducible rfl) | (with_reducible rfl))
        (try simp only [pt_])
        refine wpAnyH_done (by kernel_rfl) ?_ _
        refine NoPanic.normal ?_
        rotate_left 1
        exact AllReadyH.nil
        have u9 := V2.trans ((((Below.refl _ _).drew.trans uj)).mono V2.size)
        clear K_m K_p B_m cq uj V2 CM HA
        go_wp2
        go_ret
        exact ⟨ret_bool HB.out.symm, u9⟩
      · by_cases k0 : k = 0
        · subst k0
          have HB : Hid (medAt p L 0 = true) := Lib.hid (by rw [HA.out]; rfl)
          refine wp_region_noPanic ?_
          refine wp_region_held_drew (S := (fun W => Blk W (wr.heap.size) 35 #[.int .i64 kd, .int .i64 ka, .int .i64 kx, .int .i64 kv] ∧ W.cell? ⟨g, o + (0 - 1) * 4 + 1, none⟩ = some (.int .i64 pa))) (by kernel_rfl) ?hS49 (fun hHeld => ?go49)
          case hS49 => exact ⟨B_m.drew, cq⟩
          refine tk (i := 0) (oi := ⟨some 14, _, _, _, _, _⟩) (v := ?v0_50) hHeld rfl ?y0_50 ?r0_50
          case y0_50 => (intro w _; first | (go_simp; done) | (go_simp; with_reducible rfl) | (with_reducible rfl))
          (try simp only [pt_])
          refine tk (i := 1) (oi := ⟨some 15, _, _, _, _, _⟩) (v := ?v1_51) hHeld rfl ?y1_51 ?r1_51
          case y1_51 => (intro w hSw; obtain ⟨qS0, qS1⟩ := hSw; have cS0 := qS0.all4; first | (go_simp; done) | (go_simp; with_reducible rfl) | (with_reducible rfl))
          (try simp only [pt_])
          refine wpAnyH_ready (rs := [2]) (by kernel_rfl) (by simp) ?_
          refine AllReadyH.cons (o := { dst := some 16, op := _, type := _, pos := _, after := _, guard := _ }) rfl (fun K hK => ?_) ?_
          go_simp
          refine (CM.out _ (V2.drew)).mono ?_
          rintro e wj ⟨rfl, uj⟩
          have K_m := Blk.below B_m.drew uj
          have K_p := keepC uj (show w2.drew.cell? _ = _ from cq)
          refine hK.out _ _ ?_ (fun hHeld => ?_)
          · exact ⟨K_m, K_p⟩
          clear hK K
          (try simp only [pt_])
          refine tk (i := 3) (oi := ⟨some 17, _, _, _, _, _⟩) (v := ?v3_52) hHeld rfl ?y3_52 ?r3_52
          case y3_52 => (intro w _; first | (go_simp; done) | (go_simp; with_reducible rfl) | (with_reducible rfl))
          (try simp only [pt_])
          refine tk (i := 4) (oi := ⟨some 18, _, _, _, _, _⟩) (v := ?v4_53) hHeld rfl ?y4_53 ?r4_53
          case y4_53 => (intro w _; first | (go_simp; done) | (go_simp; with_reducible rfl) | (with_reducible rfl))
          (try simp only [pt_])
          refine tk (i := 5) (oi := ⟨some 19, _, _, _, _, _⟩) (v := ?v5_54) hHeld rfl ?y5_54 ?r5_54
          case y5_54 => (intro w _; first | (go_simp; done) | (go_simp; with_reducible rfl) | (with_reducible rfl))
          (try simp only [pt_])
          refine tk (i := 6) (oi := ⟨some 20, _, _, _, _, _⟩) (v := ?v6_55) hHeld rfl ?y6_55 ?r6_55
          case y6_55 => (intro w _; first | (go_simp; done) | (go_simp; with_reducible rfl) | (with_reducible rfl))
          (try simp only [pt_])
          refine tk (i := 7) (oi := ⟨some 21, _, _, _, _, _⟩) (v := ?v7_56) hHeld rfl ?y7_56 ?r7_56
          case y7_56 => (intro w _; first | (go_simp; done) | (go_simp; with_reducible rfl) | (with_reducible rfl))
          (try simp only [pt_])
          refine tko (i := 8) (oi := ⟨some 22, _, _, _, _, _⟩) hHeld rfl ?r8_57
          (try simp only [pt_])
          refine tko (i := 9) (oi := ⟨some 23, _, _, _, _, _⟩) hHeld rfl ?r9_58
          (try simp only [pt_])
          refine tko (i := 10) (oi := ⟨some 24, _, _, _, _, _⟩) hHeld rfl ?r10_59
          (try simp only [pt_])
          refine tko (i := 11) (oi := ⟨some 25, _, _, _, _, _⟩) hHeld rfl ?r11_60
          (try simp only [pt_])
          refine tko (i := 12) (oi := ⟨some 26, _, _, _, _, _⟩) hHeld rfl ?r12_61
          (try simp only [pt_])
          refine tko (i := 13) (oi := ⟨some 27, _, _, _, _, _⟩) hHeld rfl ?r13_62
          (try simp only [pt_])
          refine tko (i := 14) (oi := ⟨some 28, _, _, _, _, _⟩) hHeld rfl ?r14_63
          (try simp only [pt_])
          refine tko (i := 15) (oi := ⟨some 29, _, _, _, _, _⟩) hHeld rfl ?r15_64
          (try simp only [pt_])
          refine tko (i := 16) (oi := ⟨some 30, _, _, _, _, _⟩) hHeld rfl ?r16_65
          (try simp only [pt_])
          refine tk (i := 17) (oi := ⟨some 31, _, _, _, _, _⟩) (v := ?v17_66) hHeld rfl ?y17_66 ?r17_66
          case y17_66 => (intro w _; first | (go_simp; done) | (go_simp; with_reducible rfl) | (with_reducible rfl))
          (try simp only [pt_])
          refine tk (i := 18) (oi := ⟨some 32, _, _, _, _, _⟩) (v := ?v18_67) hHeld rfl ?y18_67 ?r18_67
          case y18_67 => (intro w _; first | (go_simp; done) | (go_simp; with_reducible rfl) | (with_reducible rfl))
          (try simp only [pt_])
          refine wpAnyH_done (by kernel_rfl) ?_ _
          refine NoPanic.normal ?_
          rotate_left 1
          exact AllReadyH.nil
          have u9 := V2.trans ((((Below.refl _ _).drew.trans uj)).mono V2.size)
          clear K_m K_p B_m cq uj V2 CM HA
          go_wp2
          go_roundw
          case rel => exact ⟨1, by omega, by first | rfl | go_num, fun i hi => by
            obtain rfl : i = 0 := by omega
            exact HB.out, u9⟩
          case measure => simp [intOf]; omega
        · have kp : (0 : Int) < (k : Int) := by omega
          have dk0 : decide (0 < k) = true := decide_eq_true (by omega)
          have hk1 : ((k : Int) - 1).toNat = k - 1 := by omega
          have hk3 : (k : Int) - 1 < (n : Int) := by omega
          have hk4 : (1 : Int) ≤ (k : Int) := by omega
          have hk2 : IntKind.i64.wrap ((k : Int) - 1) = (k : Int) - 1 := IntWalk.i64_in _ (by omega)
          by_cases hpa : pa < ka
          · have HB : Hid (medAt p L k = true) := Lib.hid (by rw [HA.out]; simp [hpa])
            have d1 : decide (pa ≥ ka) = false := by simp; omega
            refine wp_region_noPanic ?_
            refine wp_region_held_drew (S := (fun W => Blk W (wr.heap.size) 35 #[.int .i64 kd, .int .i64 ka, .int .i64 kx, .int .i64 kv] ∧ W.cell? ⟨g, o + (k - 1) * 4 + 1, none⟩ = some (.int .i64 pa))) (by kernel_rfl) ?hS68 (fun hHeld => ?go68)
            case hS68 => exact ⟨B_m.drew, cq⟩
            refine tk (i := 0) (oi := ⟨some 14, _, _, _, _, _⟩) (v := ?v0_69) hHeld rfl ?y0_69 ?r0_69
            case y0_69 => (intro w _; first | (go_simp; done) | (go_simp; with_reducible rfl) | (with_reducible rfl))
            (try simp only [pt_])
            refine tk (i := 1) (oi := ⟨some 15, _, _, _, _, _⟩) (v := ?v1_70) hHeld rfl ?y1_70 ?r1_70
            case y1_70 => (intro w hSw; obtain ⟨qS0, qS1⟩ := hSw; have cS0 := qS0.all4; first | (go_simp; done) | (go_simp; with_reducible rfl) | (with_reducible rfl))
            (try simp only [pt_])
            refine wpAnyH_ready (rs := [2]) (by kernel_rfl) (by simp) ?_
            refine AllReadyH.cons (o := { dst := some 16, op := _, type := _, pos := _, after := _, guard := _ }) rfl (fun K hK => ?_) ?_
            go_simp
            refine (CM.out _ (V2.drew)).mono ?_
            rintro e wj ⟨rfl, uj⟩
            have K_m := Blk.below B_m.drew uj
            have K_p := keepC uj (show w2.drew.cell? _ = _ from cq)
            refine hK.out _ _ ?_ (fun hHeld => ?_)
            · exact ⟨K_m, K_p⟩
            clear hK K
            (try simp only [pt_])
            refine tk (i := 3) (oi := ⟨some 17, _, _, _, _, _⟩) (v := ?v3_71) hHeld rfl ?y3_71 ?r3_71
            case y3_71 => (intro w _; first | (go_simp; done) | (go_simp; with_reducible rfl) | (with_reducible rfl))
            (try simp only [pt_])
            refine tk (i := 4) (oi := ⟨some 18, _, _, _, _, _⟩) (v := ?v4_72) hHeld rfl ?y4_72 ?r4_72
            case y4_72 => (intro w _; first | (go_simp; done) | (go_simp; with_reducible rfl) | (with_reducible rfl))
            (try simp only [pt_])
            refine tk (i := 5) (oi := ⟨some 19, _, _, _, _, _⟩) (v := ?v5_73) hHeld rfl ?y5_73 ?r5_73
            case y5_73 => (intro w _; first | (go_simp; done) | (go_simp; with_reducible rfl) | (with_reducible rfl))
            (try simp only [pt_])
            refine tk (i := 6) (oi := ⟨some 20, _, _, _, _, _⟩) (v := ?v6_74) hHeld rfl ?y6_74 ?r6_74
            case y6_74 => (intro w _; first | (go_simp; done) | (go_simp; with_reducible rfl) | (with_reducible rfl))
            (try simp only [pt_])
            try simp only [dk0]
            refine tk (i := 7) (oi := ⟨some 21, _, _, _, _, _⟩) (v := ?v7_75) hHeld rfl ?y7_75 ?r7_75
            case y7_75 => (intro w _; first | (go_simp; done) | (go_simp; with_reducible rfl) | (with_reducible rfl))
            (try simp only [pt_])
            refine tk (i := 8) (oi := ⟨some 22, _, _, _, _, _⟩) (v := ?v8_76) hHeld rfl ?y8_76 ?r8_76
            case y8_76 => (intro w _; first | (go_simp; done) | (go_simp; with_reducible rfl) | (with_reducible rfl))
            (try simp only [pt_])
            refine tk (i := 9) (oi := ⟨some 23, _, _, _, _, _⟩) (v := ?v9_77) hHeld rfl ?y9_77 ?r9_77
            case y9_77 => (intro w _; first | (go_simp; done) | (go_simp; with_reducible rfl) | (with_reducible rfl))
            (try simp only [pt_])
            refine tk (i := 10) (oi := ⟨some 24, _, _, _, _, _⟩) (v := ?v10_78) hHeld rfl ?y10_78 ?r10_78
            case y10_78 => (intro w _; first | (go_simp; done) | (go_simp; with_reducible rfl) | (with_reducible rfl))
            (try simp only [pt_])
            refine tk (i := 11) (oi := ⟨some 25, _, _, _, _, _⟩) (v := ?v11_79) hHeld rfl ?y11_79 ?r11_79
            case y11_79 => (intro w _; first | (go_simp; done) | (go_simp; with_reducible rfl) | (with_reducible rfl))
            (try simp only [pt_])
            refine tk (i := 12) (oi := ⟨some 26, _, _, _, _, _⟩) (v := ?v12_80) hHeld rfl ?y12_80 ?r12_80
            case y12_80 => (intro w _; first | (go_simp; done) | (go_simp; with_reducible rfl) | (with_reducible rfl))
            (try simp only [pt_])
            refine tk (i := 13) (oi := ⟨some 27, _, _, _, _, _⟩) (v := ?v13_81) hHeld rfl ?y13_81 ?r13_81
            case y13_81 => (intro w hSw; obtain ⟨qS0, qS1⟩ := hSw; have cS0 := qS0.all4; first | (go_simp; done) | (go_simp; with_reducible rfl) | (with_reducible rfl))
            (try simp only [pt_])
            refine tk (i := 14) (oi := ⟨some 28, _, _, _, _, _⟩) (v := ?v14_82) hHeld rfl ?y14_82 ?r14_82
            case y14_82 => (intro w _; first | (go_simp; done) | (go_simp; with_reducible rfl) | (with_reducible rfl))
            (try simp only [pt_])
            refine tk (i := 15) (oi := ⟨some 29, _, _, _, _, _⟩) (v := ?v15_83) hHeld rfl ?y15_83 ?r15_83
            case y15_83 => (intro w hSw; obtain ⟨qS0, qS1⟩ := hSw; have cS0 := qS0.all4; first | (go_simp; done) | (go_simp; with_reducible rfl) | (with_reducible rfl))
            (try simp only [pt_])
            refine tk (i := 16) (oi := ⟨some 30, _, _, _, _, _⟩) (v := ?v16_84) hHeld rfl ?y16_84 ?r16_84
            case y16_84 => (intro w _; first | (go_simp; done) | (go_simp; with_reducible rfl) | (with_reducible rfl))
            (try simp only [pt_])
            refine tk (i := 17) (oi := ⟨some 31, _, _, _, _, _⟩) (v := ?v17_85) hHeld rfl ?y17_85 ?r17_85
            case y17_85 => (intro w _; first | (go_simp; done) | (go_simp; with_reducible rfl) | (with_reducible rfl))
            (try simp only [pt_])
            refine tk (i := 18) (oi := ⟨some 32, _, _, _, _, _⟩) (v := ?v18_86) hHeld rfl ?y18_86 ?r18_86
            case y18_86 => (intro w _; first | (go_simp; done) | (go_simp; with_reducible rfl) | (with_reducible rfl))
            (try simp only [pt_])
            refine wpAnyH_done (by kernel_rfl) ?_ _
            refine NoPanic.normal ?_
            rotate_left 1
            exact AllReadyH.nil
            have u9 := V2.trans ((((Below.refl _ _).drew.trans uj)).mono V2.size)
            clear K_m K_p B_m cq uj V2 CM HA
            go_wp2
            go_roundw
            case rel => exact ⟨k + 1, by omega, by go_num, fun i hi => by
              by_cases e : i = k
              · subst e; exact HB.out
              · exact HJ.out i (by omega), u9⟩
            case measure => simp [intOf]; omega
          · have HB := Lib.hid (medsB_no p L n k hlt (by rw [HA.out]; simp [hpa, k0]))
            have d1 : pa ≥ ka := by omega
            refine wp_region_noPanic ?_
            refine wp_region_held_drew (S := (fun W => Blk W (wr.heap.size) 35 #[.int .i64 kd, .int .i64 ka, .int .i64 kx, .int .i64 kv] ∧ W.cell? ⟨g, o + (k - 1) * 4 + 1, none⟩ = some (.int .i64 pa))) (by kernel_rfl) ?hS87 (fun hHeld => ?go87)
            case hS87 => exact ⟨B_m.drew, cq⟩
            refine tk (i := 0) (oi := ⟨some 14, _, _, _, _, _⟩) (v := ?v0_88) hHeld rfl ?y0_88 ?r0_88
            case y0_88 => (intro w _; first | (go_simp; done) | (go_simp; with_reducible rfl) | (with_reducible rfl))
            (try simp only [pt_])
            refine tk (i := 1) (oi := ⟨some 15, _, _, _, _, _⟩) (v := ?v1_89) hHeld rfl ?y1_89 ?r1_89
            case y1_89 => (intro w hSw; obtain ⟨qS0, qS1⟩ := hSw; have cS0 := qS0.all4; first | (go_simp; done) | (go_simp; with_reducible rfl) | (with_reducible rfl))
            (try simp only [pt_])
            refine wpAnyH_ready (rs := [2]) (by kernel_rfl) (by simp) ?_
            refine AllReadyH.cons (o := { dst := some 16, op := _, type := _, pos := _, after := _, guard := _ }) rfl (fun K hK => ?_) ?_
            go_simp
            refine (CM.out _ (V2.drew)).mono ?_
            rintro e wj ⟨rfl, uj⟩
            have K_m := Blk.below B_m.drew uj
            have K_p := keepC uj (show w2.drew.cell? _ = _ from cq)
            refine hK.out _ _ ?_ (fun hHeld => ?_)
            · exact ⟨K_m, K_p⟩
            clear hK K
            (try simp only [pt_])
            refine tk (i := 3) (oi := ⟨some 17, _, _, _, _, _⟩) (v := ?v3_90) hHeld rfl ?y3_90 ?r3_90
            case y3_90 => (intro w _; first | (go_simp; done) | (go_simp; with_reducible rfl) | (with_reducible rfl))
            (try simp only [pt_])
            refine tk (i := 4) (oi := ⟨some 18, _, _, _, _, _⟩) (v := ?v4_91) hHeld rfl ?y4_91 ?r4_91
            case y4_91 => (intro w _; first | (go_simp; done) | (go_simp; with_reducible rfl) | (with_reducible rfl))
            (try simp only [pt_])
            refine tk (i := 5) (oi := ⟨some 19, _, _, _, _, _⟩) (v := ?v5_92) hHeld rfl ?y5_92 ?r5_92
            case y5_92 => (intro w _; first | (go_simp; done) | (go_simp; with_reducible rfl) | (with_reducible rfl))
            (try simp only [pt_])
            refine tk (i := 6) (oi := ⟨some 20, _, _, _, _, _⟩) (v := ?v6_93) hHeld rfl ?y6_93 ?r6_93
            case y6_93 => (intro w _; first | (go_simp; done) | (go_simp; with_reducible rfl) | (with_reducible rfl))
            (try simp only [pt_])
            try simp only [dk0]
            refine tk (i := 7) (oi := ⟨some 21, _, _, _, _, _⟩) (v := ?v7_94) hHeld rfl ?y7_94 ?r7_94
            case y7_94 => (intro w _; first | (go_simp; done) | (go_simp; with_reducible rfl) | (with_reducible rfl))
            (try simp only [pt_])
            refine tk (i := 8) (oi := ⟨some 22, _, _, _, _, _⟩) (v := ?v8_95) hHeld rfl ?y8_95 ?r8_95
            case y8_95 => (intro w _; first | (go_simp; done) | (go_simp; with_reducible rfl) | (with_reducible rfl))
            (try simp only [pt_])
            refine tk (i := 9) (oi := ⟨some 23, _, _, _, _, _⟩) (v := ?v9_96) hHeld rfl ?y9_96 ?r9_96
            case y9_96 => (intro w _; first | (go_simp; done) | (go_simp; with_reducible rfl) | (with_reducible rfl))
            (try simp only [pt_])
            refine tk (i := 10) (oi := ⟨some 24, _, _, _, _, _⟩) (v := ?v10_97) hHeld rfl ?y10_97 ?r10_97
            case y10_97 => (intro w _; first | (go_simp; done) | (go_simp; with_reducible rfl) | (with_reducible rfl))
            (try simp only [pt_])
            refine tk (i := 11) (oi := ⟨some 25, _, _, _, _, _⟩) (v := ?v11_98) hHeld rfl ?y11_98 ?r11_98
            case y11_98 => (intro w _; first | (go_simp; done) | (go_simp; with_reducible rfl) | (with_reducible rfl))
            (try simp only [pt_])
            refine tk (i := 12) (oi := ⟨some 26, _, _, _, _, _⟩) (v := ?v12_99) hHeld rfl ?y12_99 ?r12_99
            case y12_99 => (intro w _; first | (go_simp; done) | (go_simp; with_reducible rfl) | (with_reducible rfl))
            (try simp only [pt_])
            refine tk (i := 13) (oi := ⟨some 27, _, _, _, _, _⟩) (v := ?v13_100) hHeld rfl ?y13_100 ?r13_100
            case y13_100 => (intro w hSw; obtain ⟨qS0, qS1⟩ := hSw; have cS0 := qS0.all4; first | (go_simp; done) | (go_simp; with_reducible rfl) | (with_reducible rfl))
            (try simp only [pt_])
            refine tk (i := 14) (oi := ⟨some 28, _, _, _, _, _⟩) (v := ?v14_101) hHeld rfl ?y14_101 ?r14_101
            case y14_101 => (intro w _; first | (go_simp; done) | (go_simp; with_reducible rfl) | (with_reducible rfl))
            (try simp only [pt_])
            refine tk (i := 15) (oi := ⟨some 29, _, _, _, _, _⟩) (v := ?v15_102) hHeld rfl ?y15_102 ?r15_102
            case y15_102 => (intro w hSw; obtain ⟨qS0, qS1⟩ := hSw; have cS0 := qS0.all4; first | (go_simp; done) | (go_simp; with_reducible rfl) | (with_reducible rfl))
            (try simp only [pt_])
            refine tk (i := 16) (oi := ⟨some 30, _, _, _, _, _⟩) (v := ?v16_103) hHeld rfl ?y16_103 ?r16_103
            case y16_103 => (intro w _; first | (go_simp; done) | (go_simp; with_reducible rfl) | (with_reducible rfl))
            (try simp only [pt_])
            refine tk (i := 17) (oi := ⟨some 31, _, _, _, _, _⟩) (v := ?v17_104) hHeld rfl ?y17_104 ?r17_104
            case y17_104 => (intro w _; first | (go_simp; done) | (go_simp; with_reducible rfl) | (with_reducible rfl))
            (try simp only [pt_])
            refine tk (i := 18) (oi := ⟨some 32, _, _, _, _, _⟩) (v := ?v18_105) hHeld rfl ?y18_105 ?r18_105
            case y18_105 => (intro w _; first | (go_simp; done) | (go_simp; with_reducible rfl) | (with_reducible rfl))
            (try simp only [pt_])
            refine wpAnyH_done (by kernel_rfl) ?_ _
            refine NoPanic.normal ?_
            rotate_left 1
            exact AllReadyH.nil
            have u9 := V2.trans ((((Below.refl _ _).drew.trans uj)).mono V2.size)
            clear K_m K_p B_m cq uj V2 CM HA
            go_wp2
            go_ret
            exact ⟨ret_bool HB.out.symm, u9⟩

    · obtain rfl : k = n := by omega
      have HB := Lib.hid (medsB_yes p L k HJ.out)
      go_wp2_with (go_at_call 12; refine (fpGood_any _ _).mono ?_; rintro e w' ⟨rfl, m, rfl⟩)
      go_ret
      exact ⟨ret_bool (by rw [HB.out]), hbel.trans (below_of_drewN _ |>.mono hbel.size)⟩
def amV (p : Int) (L : List Int) (n : Nat) : Bool := isPr p && medsB p L n
set_option maxHeartbeats 4000000 in
theorem AreMeddles_any (p : Int) (a : Option Addr) (n c : Nat) (L : List Int) (w : World) (hL : Flat 4 w a n c L) (hT : Tbl w) :
    Calls Tryd.prog 8 #[.int .i64 p, .slice a n c] w fun e w' => e = .returned (.tuple #[.bool (amV p L n), .bool (isPr p)]) ∧ Below w.heap.size w w' := by
  unfold amV
  cases h1 : isPr p
  · go_enter Tryd.func8, Tryd.ntmps8
    go_wp2_with (go_at_call 15; refine (IsPrime_any _ _).mono ?_; rintro e w' ⟨rfl, m, rfl⟩; rw [h1])
    go_ret2
    exact ⟨rfl, below_of_drewN _⟩
  · have hr := isPr_range h1
    go_enter Tryd.func8, Tryd.ntmps8
    go_wp2_with (go_at_call 15; refine (IsPrime_any _ _).mono ?_; rintro e w' ⟨rfl, m, rfl⟩; rw [h1])
    refine (areMeddles_any p a n c L _ (hL.drewN m) (hT.below (below_of_drewN m)) (by omega) (by omega)).mono ?_; rintro e w' ⟨rfl, u⟩
    go_wp2
    go_ret2
    exact ⟨rfl, (below_of_drewN m).trans u⟩
set_option maxHeartbeats 4000000 in
theorem spec_AreMeddles_any (p : Int) (a : Option Addr) (n c : Nat) (L : List Int) (w : World) (hL : Flat 4 w a n c L) :
    Calls Tryd.prog 6 #[.int .i64 p, .slice a n c] w fun e w' => e = .returned (.tuple #[.bool (amV p L n), .bool (isPr p)]) ∧ Below w.heap.size w w' := by
  unfold amV
  cases h1 : isPr p
  · go_enter Tryd.func6, Tryd.ntmps6
    go_wp2_with (go_at_call 12; refine (fpGood_any _ _).mono ?_; rintro e w' ⟨rfl, m, rfl⟩; rw [h1])
    go_ret2
    exact ⟨rfl, below_of_drewN _⟩
  · go_enter Tryd.func6, Tryd.ntmps6
    go_wp2_with (go_at_call 12; refine (fpGood_any _ _).mono ?_; rintro e w' ⟨rfl, m, rfl⟩; rw [h1])
    refine (nwGood_any p a n c L _ (hL.drewN m) h1).mono ?_; rintro e w' ⟨rfl, u⟩
    go_wp2
    go_ret2
    exact ⟨rfl, (below_of_drewN m).trans u⟩
end Go.Proofs.YtjndhgjmnoiegaaDoor
