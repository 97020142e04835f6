/- Lemmas and walks that the claim's proof rests on, part 4. -/
import Derived.Test.YtlmdckcohoddnaaDoorK3
namespace Go.Proofs.YtlmdckcohoddnaaDoor
open Go.RowKit
def eTagged : Nat := 81
theorem info_Tagged : (Tryd.prog.info? 81).map (fun i => (i.zero, i.size, i.bytes)) = some (some (.agg #[.int .i64 0, .int .i64 0]), 2, 16) := by kernel_rfl
theorem madeCells_Tagged (n : Nat) : (madeCells #[.int .i64 0, .int .i64 0] (n * 2)).toList = List.replicate (n * 2) (Value.int .i64 0) := by
  apply List.ext_getElem (by simp [madeCells])
  intro i h1 h2
  have hm : i % 2 < 2 := Nat.mod_lt _ (by decide)
  simp only [madeCells, Array.toList_map, Array.toList_range, List.getElem_map, List.getElem_range, List.getElem_replicate]
  show (#[.int .i64 0, .int .i64 0] : Array Value)[i % 2]! = _
  generalize i % 2 = j at hm
  match j, hm with
  | 0, _ => rfl
  | 1, _ => rfl
set_option maxHeartbeats 4000000 in
set_option maxRecDepth 100000 in
theorem toTagged_any (x0 x1 : Int) (w : World) :
    Calls Tryd.prog 102 #[.agg #[.int .i64 x0, .int .i64 x1]] w fun e w' => e = .returned (.agg #[.int .i64 x0, .int .i64 x1]) ∧ Below w.heap.size w w' := by
  go_enter Tryd.func102, Tryd.ntmps102
  go_wp2
  exact bodyPost_ret (v := .agg #[.int .i64 x0, .int .i64 x1]) (by simp [results, Tryd.results102, go_sem]) rfl ⟨rfl, (((Below.refl _ _).alloc (Nat.le_refl _) _).alloc (by simp) _).alloc (by simp; omega) _⟩
set_option maxHeartbeats 4000000 in
set_option maxRecDepth 100000 in
theorem toTaggedS_any (a : Option Addr) (n c : Nat) (l : List Int) (w : World) (h : Flat 2 w a n c l) (hs : n ≤ 1048576) :
    Calls Tryd.prog 56 #[.slice a n c] w fun e w' => ∃ a' c', e = .returned (.slice a' n c') ∧ OwnF 2 eTagged w' w.heap.size a' n c' l ∧ Below w.heap.size w w' := by
  have hn := h.le
  obtain ⟨i0, hi, hz0, hz1, hz2⟩ := info_parts info_Tagged
  go_enter Tryd.func56, Tryd.ntmps56
  go_wp2_with (at_make; refine wpList_make_full _ rfl _ _ 29 rfl w.heap.size 81 i0 (.agg #[.int .i64 0, .int .i64 0]) 2 Tryd.underlying29 hi hz0 hz1 _ _ _ _ n rfl rfl rfl rfl (by rw [hz2]; omega) (by unfold maxLen; omega) (Nat.le_refl _) ?_)
  intro w1 hown hgrow
  have own1 : OwnF 2 eTagged w1 w.heap.size (some ⟨w.heap.size, 0, none⟩) n n (List.replicate (n * 2) 0) := by
    obtain ⟨a1, c1, e1, h1⟩ := OwnC.of_owns hown
    cases e1
    unfold OwnF
    rw [List.map_replicate, ← madeCells_Tagged]
    exact h1
  have bel1 : Below w.heap.size w w1 := (Below.refl _ _).grown hgrow (Nat.le_refl _) (fun k hk => by cases hk)
  clear hown hgrow
  go_wp2
  go_loopw [4] (fun v wr => ∃ i : Nat, i ≤ n ∧ v = .int .i64 i ∧ Below w.heap.size w wr ∧ ∃ l', OwnF 2 eTagged wr w.heap.size (some ⟨w.heap.size, 0, none⟩) n n l' ∧ ∀ j, j < i * 2 → l'.getD j 0 = l.getD j 0) (fun v _ => n - (intOf v).toNat)
  case atStart => exact ⟨0, Nat.zero_le _, rfl, bel1, _, own1, fun i hi => absurd hi (by omega)⟩
  case round =>
    obtain ⟨i, hk, rfl, hbel, l', own, hl⟩ := hrel
    have HL := Lib.hid hl
    clear hl
    by_cases hlt : i < n
    · obtain ⟨g, o, rfl, hc⟩ := (h.below hbel).at (by omega)
      have c0 : wr.cell? ⟨g, o + i * 2, none⟩ = some (.int .i64 (l.getD (i * 2) 0)) := by have := hc (i * 2) (by omega); simpa only [Nat.add_assoc] using this
      have c1 : wr.cell? ⟨g, o + i * 2 + 1, none⟩ = some (.int .i64 (l.getD (i * 2 + 1) 0)) := by have := hc (i * 2 + 1) (by omega); simpa only [Nat.add_assoc] using this
      clear hc
      obtain ⟨x0, hx0⟩ : ∃ x, x = l.getD (i * 2) 0 := ⟨_, rfl⟩
      rw [← hx0] at c0
      have X0 := Lib.hid hx0
      clear hx0
      obtain ⟨x1, hx1⟩ : ∃ x, x = l.getD (i * 2 + 1) 0 := ⟨_, rfl⟩
      rw [← hx1] at c1
      have X1 := Lib.hid hx1
      clear hx1
      go_wp2_with fail
      refine (toTagged_any _ _ _).mono ?_; rintro e w2 ⟨rfl, u2⟩
      have own2 := own.below u2
      have bel2 := hbel.trans (u2.mono hbel.size)
      obtain ⟨d0, f0⟩ := own2.cf (i * 2) (by omega)
      obtain ⟨d1, f1⟩ := own2.cf (i * 2 + 1) (by omega)
      have st0 := own2.put (i * 2) (by omega) x0
      have st1 := st0.put (i * 2 + 1) (by omega) x1
      have HST := Lib.hid st1
      have HB := Lib.hid ((bel2.setCell (p := ⟨w.heap.size, i * 2, none⟩) (Nat.le_refl _) (.int .i64 x0)).setCell (p := ⟨w.heap.size, i * 2 + 1, none⟩) (Nat.le_refl _) (.int .i64 x1))
      have hl' := own2.len
      clear own2 own bel2 hbel u2 st0 st1
      go_wp2
      go_roundw
      case rel => exact ⟨i + 1, by omega, by go_num, HB.out, _, HST.out, fun j hj => by
        rw [getD_set, getD_set]
        simp only [List.length_set]
        by_cases z1 : j = i * 2 + 1
        · subst z1; rw [if_pos ⟨rfl, by omega⟩]; exact X1.out
        by_cases z0 : j = i * 2
        · subst z0; rw [if_neg (by omega)]; rw [if_pos ⟨rfl, by omega⟩]; exact X0.out
        rw [if_neg (by omega), if_neg (by omega)]
        exact HL.out j (by omega)⟩
      case measure => simp [intOf]; omega
    · obtain rfl : i = n := by omega
      go_wp2
      go_ret
      have e : l' = l := list_ext_getD _ _ (by rw [own.len, h.len]) (fun j hj => HL.out j (by have := own.len; omega))
      subst e
      exact ⟨_, _, rfl, own, hbel⟩
theorem szTaggedS_yes (a : Option Addr) (n c : Nat) (left : Int) (w : World) (h0 : (n : Int) ≤ 9223372036854775807) (h1 : left ≤ 1048576) (h2 : (n : Int) ≤ left) :
    Calls Tryd.prog 52 #[.slice a n c, .int .i64 left] w fun e w' => e = .returned (.int .i64 (left - n)) ∧ w = w' := by
  go_enter Tryd.func52, Tryd.ntmps52
  go_wp2
  go_ret
  exact ⟨rfl, rfl⟩
theorem szTaggedS_no (a : Option Addr) (n c : Nat) (left : Int) (w : World) (h0 : (n : Int) ≤ 9223372036854775807) (h1 : 0 ≤ left ∧ left ≤ 1048576) (h2 : ¬ (n : Int) ≤ left) :
    Calls Tryd.prog 52 #[.slice a n c, .int .i64 left] w fun e w' => e = .returned (.int .i64 (-1)) ∧ w = w' := by
  have h3 : left - (n : Int) < 0 := by omega
  go_enter Tryd.func52, Tryd.ntmps52
  go_wp2
  go_ret
  exact ⟨rfl, rfl⟩
set_option maxHeartbeats 4000000 in
set_option maxRecDepth 100000 in
theorem eqTagged_same (x0 x1 : Int) (w : World) :
    Calls Tryd.prog 107 #[.agg #[.int .i64 x0, .int .i64 x1], .agg #[.int .i64 x0, .int .i64 x1]] w fun e w' => e = .returned (.bool true) ∧ Below w.heap.size w w' := by
  have b0 : ((x0 != x0) : Bool) = false := by simp
  have b1 : ((x1 != x1) : Bool) = false := by simp
  go_enter Tryd.func107, Tryd.ntmps107
  go_wp2
  go_ret
  exact ⟨rfl, ((Below.refl _ _).alloc (Nat.le_refl _) _).alloc (by simp) _⟩
set_option maxHeartbeats 4000000 in
set_option maxRecDepth 100000 in
theorem eqTaggedS_b (a : Option Addr) (n c : Nat) (a' : Option Addr) (n' c' : Nat) (l : List Int) (w : World) (h : Flat 2 w a n c l) (h' : Flat 2 w a' n' c' l) :
    Calls Tryd.prog 65 #[.slice a n c, .slice a' n' c'] w fun e w' => e = .returned (.bool true) ∧ Below w.heap.size w w' := by
  obtain rfl : n = n' := by have := h.len; have := h'.len; omega
  have hn := h.le
  go_enter Tryd.func65, Tryd.ntmps65
  go_wp2
  go_loopw [5] (fun v wr => ∃ i : Nat, i ≤ n ∧ v = .int .i64 i ∧ Below w.heap.size w wr) (fun v _ => n - (intOf v).toNat)
  case atStart => exact ⟨0, Nat.zero_le _, rfl, Below.refl _ _⟩
  case round =>
    obtain ⟨i, hk, rfl, hbel⟩ := hrel
    by_cases hlt : i < n
    · obtain ⟨g, o, rfl, hc⟩ := (h.below hbel).at (by omega)
      have c0 : wr.cell? ⟨g, o + i * 2, none⟩ = some (.int .i64 (l.getD (i * 2) 0)) := by have := hc (i * 2) (by omega); simpa only [Nat.add_assoc] using this
      have c1 : wr.cell? ⟨g, o + i * 2 + 1, none⟩ = some (.int .i64 (l.getD (i * 2 + 1) 0)) := by have := hc (i * 2 + 1) (by omega); simpa only [Nat.add_assoc] using this
      clear hc
      obtain ⟨g', o', rfl, hc⟩ := (h'.below hbel).at (by omega)
      have d0 : wr.cell? ⟨g', o' + i * 2, none⟩ = some (.int .i64 (l.getD (i * 2) 0)) := by have := hc (i * 2) (by omega); simpa only [Nat.add_assoc] using this
      have d1 : wr.cell? ⟨g', o' + i * 2 + 1, none⟩ = some (.int .i64 (l.getD (i * 2 + 1) 0)) := by have := hc (i * 2 + 1) (by omega); simpa only [Nat.add_assoc] using this
      clear hc
      generalize l.getD (i * 2) 0 = x0 at *
      generalize l.getD (i * 2 + 1) 0 = x1 at *
      go_wp2
      go_region_held3 (fun W => W.cell? ⟨g, o + i * 2, none⟩ = some (.int .i64 x0) ∧ W.cell? ⟨g, o + i * 2 + 1, none⟩ = some (.int .i64 x1) ∧ W.cell? ⟨g', o' + i * 2, none⟩ = some (.int .i64 x0) ∧ W.cell? ⟨g', o' + i * 2 + 1, none⟩ = some (.int .i64 x1))
        (first | go_keep | exact ⟨keepC u2 c0, keepC u2 c1, keepC u2 d0, keepC u2 d1⟩)
        (first | (go_at_call 107; refine (eqTagged_same _ _ _).mono ?_; rintro e w2 ⟨rfl, u2⟩))
      all_goals have bel2 : Below w.heap.size w w2 := hbel.drew.trans (u2.mono hbel.size)
      all_goals go_wp2
      all_goals go_roundw
      case rel => exact ⟨i + 1, by omega, by go_num, bel2⟩
      case measure => simp [intOf]; omega
    · go_wp2
      go_ret
      exact ⟨rfl, hbel⟩
set_option maxHeartbeats 4000000 in
set_option maxRecDepth 100000 in
theorem markTaggedS_o (a : Option Addr) (n c b : Nat) (l : List Int) (k0 : Int) (w : World) (h : OwnF 2 eTagged w b a n c l) (h0 : 0 ≤ k0) (h1 : k0 + 2 * (n : Int) ≤ 4000000000000000000) :
    Calls Tryd.prog 70 #[.slice a n c, .int .i64 k0] w fun e w' => e = .returned (.int .i64 (k0 + 2 * (n : Int))) ∧ (∃ l', OwnF 2 eTagged w' b a n c l' ∧ UpFrom k0 l') ∧ Only (foot a c) w w' := by
  have hn := h.flat.le
  go_enter Tryd.func70, Tryd.ntmps70
  go_wp2
  go_loopw [1, 5] (fun u v wr => ∃ i : Nat, i ≤ n ∧ u = .int .i64 (k0 + 2 * (i : Int)) ∧ v = .int .i64 i ∧ Only (foot a c) w wr ∧ ∃ l', OwnF 2 eTagged wr b a n c l' ∧ ∀ j, j < i * 2 → l'.getD j 0 = k0 + j) (fun _ v _ => n - (intOf v).toNat)
  case atStart => exact ⟨0, Nat.zero_le _, by simp, rfl, Only.refl _ _, l, h, fun i hi => absurd hi (by omega)⟩
  case round =>
    obtain ⟨i, hk, rfl, rfl, hO, l', own, hl⟩ := hrel
    have HL := Lib.hid hl
    clear hl
    by_cases hlt : i < n
    · obtain ⟨g, rfl, _, _, _, _, _⟩ := own.at (i * 2) (by omega)
      have hm : g ∈ foot (some ⟨g, 0, none⟩) c := foot_mem (x := ⟨g, 0, none⟩) (by have := own.cap; omega)
      have hl' := own.len
      obtain ⟨d0, f0⟩ := own.cf (i * 2) (by omega)
      obtain ⟨d1, f1⟩ := own.cf (i * 2 + 1) (by omega)
      have st0 := own.put (i * 2) (by omega) (k0 + 2 * (i : Int))
      have st1 := st0.put (i * 2 + 1) (by omega) (k0 + 2 * (i : Int) + 1)
      have HST := Lib.hid st1
      have HO := Lib.hid ((hO.setCell ⟨g, i * 2, none⟩ (.int .i64 (k0 + 2 * (i : Int))) hm).setCell ⟨g, i * 2 + 1, none⟩ (.int .i64 (k0 + 2 * (i : Int) + 1)) hm)
      clear own hO st0 st1
      go_wp2
      go_roundw
      case rel => exact ⟨i + 1, by omega, v_int (by omega), by go_num, HO.out, _, HST.out, fun j hj => by
        rw [getD_set, getD_set]
        simp only [List.length_set]
        by_cases z1 : j = i * 2 + 1
        · subst z1; rw [if_pos ⟨rfl, by omega⟩]; omega
        by_cases z0 : j = i * 2
        · subst z0; rw [if_neg (by omega)]; rw [if_pos ⟨rfl, by omega⟩]; omega
        rw [if_neg (by omega), if_neg (by omega)]
        exact HL.out j (by omega)⟩
      case measure => simp [intOf]; omega
    · obtain rfl : i = n := by omega
      go_wp2
      go_ret
      exact ⟨rfl, ⟨l', own, fun j hj => HL.out j (by have := own.len; omega)⟩, hO⟩
def rowNil : RowD := (none, 0, [])
theorem foot_zero (a : Option Addr) : foot a 0 = [] := by simp [foot, rowOf]
theorem rowsF_nils (n : Nat) : rowsF (List.replicate n rowNil) = [] := by
  unfold rowsF
  rw [List.flatMap_eq_nil_iff]
  intro r hr
  rw [List.eq_of_mem_replicate hr]
  exact foot_zero _
theorem OwnSS.made {w : World} {b : Nat} {a : Option Addr} {n c : Nat} (h : OwnC w b a n c 23 1 (List.replicate n (.slice none 0 0))) : OwnSS w b a n c (List.replicate n rowNil) :=
  ⟨by rw [List.map_replicate]; exact h, fun r hr => by rw [List.eq_of_mem_replicate hr]; exact Own.nil0 _ _ _, by
    rw [List.pairwise_replicate]
    right
    intro k hk
    simp [rowNil, foot_zero] at hk, by rw [rowsF_nils]; exact Disj.nil_r _⟩
theorem mem_rowsF_set {rs : List RowD} {i : Nat} {r : RowD} {k : Nat} (h : k ∈ rowsF (rs.set i r)) : k ∈ rowsF rs ∨ k ∈ foot r.1 r.2.1 := by
  obtain ⟨s, hs, hk⟩ := List.mem_flatMap.1 h
  rcases List.mem_or_eq_of_mem_set hs with h | rfl
  · exact Or.inl (mem_rowsF h hk)
  · exact Or.inr hk
theorem OwnSS.cellAt {w : World} {b n c i : Nat} {a : Option Addr} {rs : List RowD} (h : OwnSS w b a n c rs) (hi : i < n) : ∃ g, a = some ⟨g, 0, none⟩ ∧ b ≤ g ∧ g < w.heap.size ∧ g ∈ foot a c ∧ w.cell? ⟨g, i, none⟩ = some (rowV (rowAt rs i)) ∧ w.frozen? ⟨g, i, none⟩ = false := by
  have hl := h.reads.len
  have hc := h.cap
  obtain ⟨g, rfl, hb, hg, ⟨u, hu, hc'⟩, hf, _⟩ := OwnC.atC h.out i (by omega)
  refine ⟨g, rfl, hb, hg, foot_mem (x := ⟨g, 0, none⟩) (by omega), ?_, hf⟩
  rw [hc', ← hu, List.getElem?_map, rowAt_some (by omega)]
  rfl
theorem OwnSS.putRow {w : World} {b g n c i : Nat} {rs : List RowD} {r : RowD} (h : OwnSS w b (some ⟨g, 0, none⟩) n c rs) (hi : i < n) (hr : Own w b r.1 r.2.2.length r.2.1 r.2.2) (hd : Disj (foot r.1 r.2.1) (feetSS (some ⟨g, 0, none⟩) c rs)) :
    OwnSS (w.setCell ⟨g, i, none⟩ (rowV r)) b (some ⟨g, 0, none⟩) n c (rs.set i r) := by
  have hl := h.reads.len
  have hc := h.cap
  have hg : g ∈ foot (some ⟨g, 0, none⟩ : Option Addr) c := foot_mem (x := ⟨g, 0, none⟩) (by omega)
  obtain ⟨_, E, _, _, _, _, hs⟩ := OwnC.atC h.out i (by omega)
  cases E
  have ho : Only [g] w (w.setCell ⟨g, i, none⟩ (rowV r)) := (Only.refl _ _).setCell _ _ (by simp)
  refine ⟨by rw [List.map_set]; exact hs _, fun s hs' => ?_, ?_, ?_⟩
  · rcases List.mem_or_eq_of_mem_set hs' with hs' | rfl
    · exact (h.inn s hs').only ho (fun k hk hk' => by simp at hk'; subst hk'; exact h.apart _ hg (mem_rowsF hs' hk))
    · exact hr.only ho (fun k hk hk' => by simp at hk'; subst hk'; exact hd _ hk (List.mem_append_left _ hg))
  · rw [List.pairwise_iff_getElem]
    intro x y hx hy hxy
    rw [List.length_set] at hx hy
    have hp := List.pairwise_iff_getElem.1 h.dis x y hx hy hxy
    rw [List.getElem_set, List.getElem_set]
    by_cases e1 : i = x
    · rw [if_pos e1, if_neg (by omega)]
      exact fun k hk hk' => hd k hk (List.mem_append_right _ (mem_rowsF (List.getElem_mem hy) hk'))
    · rw [if_neg e1]
      by_cases e2 : i = y
      · rw [if_pos e2]
        exact fun k hk hk' => hd k hk' (List.mem_append_right _ (mem_rowsF (List.getElem_mem hx) hk))
      · rw [if_neg e2]; exact hp
  · intro k hk hk'
    rcases mem_rowsF_set hk' with h1 | h1
    · exact h.apart k hk h1
    · exact hd k h1 (List.mem_append_left _ hk)
theorem rowAt_set (rs : List RowD) (i j : Nat) (r : RowD) (hi : i < rs.length) : rowAt (rs.set i r) j = if i = j then r else rowAt rs j := by
  unfold rowAt
  simp only [List.getD, List.getElem?_set]
  by_cases e : i = j
  · subst e; rw [if_pos rfl, if_pos rfl, if_pos hi]; rfl
  · rw [if_neg e, if_neg e]
theorem datas_ext {rs rs' : List RowD} (hl : rs.length = rs'.length) (h : ∀ j, j < rs.length → (rowAt rs j).2.2 = (rowAt rs' j).2.2) : datas' rs = datas' rs' := by
  apply List.ext_getElem?
  intro j
  by_cases hj : j < rs.length
  · simp only [datas', List.getElem?_map, rowAt_some hj, rowAt_some (hl ▸ hj : j < rs'.length), Option.map_some, h j hj]
  · simp only [datas', List.getElem?_map, List.getElem?_eq_none (Nat.le_of_not_lt hj), List.getElem?_eq_none (Nat.le_of_not_lt (hl ▸ hj : ¬ j < rs'.length)), Option.map_none]
set_option maxHeartbeats 4000000 in
set_option maxRecDepth 100000 in
theorem toIntSS_any (a : Option Addr) (n c : Nat) (rs : List RowD) (w : World) (h : IntSS w a n c rs) (hs : n ≤ 1048576) (hr : ∀ r ∈ rs, r.2.2.length ≤ 1048576) :
    Calls Tryd.prog 58 #[.slice a n c] w fun e w' => ∃ a' c' rs', e = .returned (.slice a' n c') ∧ OwnSS w' w.heap.size a' n c' rs' ∧ datas' rs' = datas' rs ∧ Below w.heap.size w w' := by
  have hn := h.le
  have HR := Lib.hid hr
  have HL := Lib.hid h.len
  clear hr
  obtain ⟨i0, hi, hz0, hz1, hz2⟩ := info_parts info_ints
  go_enter Tryd.func58, Tryd.ntmps58
  go_wp2_with (at_make; refine wpList_make_full _ rfl _ _ 24 rfl w.heap.size 23 i0 (.slice none 0 0) 1 Tryd.underlying24 hi hz0 hz1 _ _ _ _ n rfl rfl rfl rfl (by rw [hz2]; omega) (by unfold maxLen; omega) (Nat.le_refl _) ?_)
  intro w1 hown hgrow
  have own1 : OwnSS w1 w.heap.size (some ⟨w.heap.size, 0, none⟩) n n (List.replicate n rowNil) := by
    obtain ⟨a1, c1, e1, h1⟩ := OwnC.of_owns (xs := List.replicate n (.slice none 0 0)) (by simpa [toList_madeCells_one, Value.cells] using hown)
    cases e1
    exact OwnSS.made h1
  have bel1 : Below w.heap.size w w1 := (Below.refl _ _).grown hgrow (Nat.le_refl _) (fun k hk => by cases hk)
  clear hown hgrow
  go_wp2
  go_loopw [4] (fun v wr => ∃ k : Nat, k ≤ n ∧ v = .int .i64 k ∧ Below w.heap.size w wr ∧ ∃ rs', OwnSS wr w.heap.size (some ⟨w.heap.size, 0, none⟩) n n rs' ∧ ∀ j, j < k → (rowAt rs' j).2.2 = (rowAt rs j).2.2) (fun v _ => n - (intOf v).toNat)
  case atStart => exact ⟨0, Nat.zero_le _, rfl, bel1, _, own1, fun j hj => absurd hj (by omega)⟩
  case round =>
    obtain ⟨k, hk, rfl, hbel, rs', own, hl⟩ := hrel
    have HD := Lib.hid hl
    clear hl
    by_cases hlt : k < n
    · obtain ⟨g, o, rfl, c0, i0⟩ := (h.below hbel).at k hlt
      have HM := HR.out _ (rowAt_mem (rs := rs) (j := k) (by rw [HL.out]; exact hlt))
      have HRK : Hid ((rowAt rs k).2.2 = (rowAt rs k).2.2) := Lib.hid rfl
      have hlt' : (k : Int) < (n : Int) := by omega
      obtain ⟨r, hr⟩ : ∃ r, rowAt rs k = r := ⟨_, rfl⟩
      rw [hr] at c0 i0 HM
      replace hr := Lib.hid hr
      go_wp2_with fail
      refine (toIntS_any _ _ _ r.2.2 _ i0 HM).mono ?_; rintro e w2 ⟨b5, d5, rfl, o5, u2⟩
      have hf : ∀ k ∈ foot b5 d5, wr.heap.size ≤ k := fun q hq => (o5.feet q hq).1
      have hfe := own.feet
      have hdj : Disj (foot b5 d5) (feetSS (some ⟨w.heap.size, 0, none⟩) n rs') := fun q hq hq' => by have := hf q hq; have := hfe q hq'; omega
      have own2 := own.below u2
      have bel2 := hbel.trans (u2.mono hbel.size)
      have hll := own.reads.len
      obtain ⟨g', E, _, _, _, cc, ff⟩ := own2.cellAt hlt
      cases E
      have st := own2.putRow (r := (b5, d5, r.2.2)) hlt (o5.lower hbel.size) hdj
      have hb3 := bel2.setCell (p := ⟨w.heap.size, k, none⟩) (Nat.le_refl _) (rowV (b5, d5, r.2.2))
      have HST := Lib.hid st
      have HB := Lib.hid hb3
      have HE : Hid (Value.slice b5 r.2.2.length d5 = rowV (b5, d5, r.2.2)) := Lib.hid rfl
      have HLL := Lib.hid hll
      clear st hb3 own own2 bel2 hbel u2 o5 hf hfe hdj c0 i0 hll HRK
      go_wp2
      go_roundw
      case rel => exact ⟨k + 1, by omega, by go_num, HB.out, _, HST.out, fun j hj => by
        rw [rowAt_set _ _ _ _ (by rw [HLL.out]; exact hlt)]
        by_cases e : k = j
        · subst e; rw [if_pos rfl, hr.out]
        · rw [if_neg e]; exact HD.out j (by omega)⟩
      case measure => simp [intOf]; omega
    · obtain rfl : k = n := by omega
      go_wp2
      go_ret
      exact ⟨_, _, rs', rfl, own, datas_ext (by rw [own.reads.len, HL.out]) (fun j hj => HD.out j (by rw [own.reads.len] at hj; exact hj)), hbel⟩
theorem tot_ge (rs : List RowD) : ∀ r ∈ rs, r.2.2.length ≤ tot rs := by
  intro r hr
  obtain ⟨j, hj, rfl⟩ := List.getElem_of_mem hr
  have h1 := tot_take_succ (rs := rs) (j := j) hj
  have h2 := tot_take_le rs (j + 1)
  have : rowAt rs j = rs[j] := by simp [rowAt, List.getD, hj]
  rw [this] at h1
  omega
set_option maxHeartbeats 4000000 in
theorem szIntSS_yes (a : Option Addr) (n c : Nat) (rs : List RowD) (left : Int) (w : World) (h : IntSS w a n c rs) (h1 : left ≤ 1048576) (h2 : (n : Int) + (tot rs : Int) ≤ left) :
    Calls Tryd.prog 54 #[.slice a n c, .int .i64 left] w fun e w' => e = .returned (.int .i64 (left - n - tot rs)) ∧ w = w' := by
  have hn := h.le
  have HL := Lib.hid h.len
  go_enter Tryd.func54, Tryd.ntmps54
  go_wp2
  go_loop [1, 5] (fun u v => ∃ i : Nat, i ≤ n ∧ u = .int .i64 (left - n - tot (rs.take i)) ∧ v = .int .i64 i) (fun _ v => n - (intOf v).toNat)
  case atStart => exact ⟨0, Nat.zero_le _, by simp [tot], rfl⟩
  case round =>
    obtain ⟨i, hi, rfl, rfl⟩ := hrel
    by_cases hlt : i < n
    · have HT := Lib.hid (tot_take_succ (rs := rs) (j := i) (by rw [HL.out]; exact hlt))
      have t1 := tot_take_le rs (i + 1)
      rw [HT.out] at t1
      obtain ⟨g, o, rfl, c0, inn⟩ := h.at i hlt
      have hlt' : (i : Int) < (n : Int) := by omega
      have hn' : ((rowAt rs i).2.2.length : Int) ≤ 9223372036854775807 := inn.le
      have HT3 : Hid (left - n - tot (rs.take i) - ((rowAt rs i).2.2.length : Nat) = left - n - tot (rs.take (i + 1))) := Lib.hid (by rw [HT.out]; omega)
      have kk2 : ((rowAt rs i).2.2.length : Int) ≤ left - n - tot (rs.take i) := by omega
      have kk3 : left - n - tot (rs.take i) ≤ 1048576 := by omega
      generalize left - n - tot (rs.take i) = kk at *
      clear t1 h2
      go_wp2_with fail
      refine (szIntS_yes _ _ _ _ _ hn' kk3 kk2).mono ?_; rintro e w2 ⟨rfl, rfl⟩
      have nn : 0 ≤ kk - ((rowAt rs i).2.2.length : Nat) := by omega
      rw [HT3.out] at nn ⊢
      clear kk2 inn c0
      go_wp2
      go_round
      case rel => exact ⟨i + 1, by omega, rfl, by go_num⟩
      case measure => simp [intOf]; omega
    · obtain rfl : i = n := by omega
      have ht : tot (rs.take i) = tot rs := by have := HL.out; rw [← this]; exact tot_take_all rs
      have HT := Lib.hid ht
      clear ht
      go_wp2
      go_ret
      exact ⟨ret_int (by rw [HT.out]), rfl⟩
set_option maxHeartbeats 4000000 in
theorem szIntSS_no (a : Option Addr) (n c : Nat) (rs : List RowD) (left : Int) (w : World) (h : IntSS w a n c rs) (h1 : 0 ≤ left ∧ left ≤ 1048576) (h2 : ¬ (n : Int) + (tot rs : Int) ≤ left) :
    Calls Tryd.prog 54 #[.slice a n c, .int .i64 left] w fun e w' => e = .returned (.int .i64 (-1)) ∧ w = w' := by
  have hn := h.le
  have HL := Lib.hid h.len
  by_cases h3 : left - (n : Int) < 0
  · go_enter Tryd.func54, Tryd.ntmps54
    go_wp2
    go_ret
    exact ⟨rfl, rfl⟩
  · go_enter Tryd.func54, Tryd.ntmps54
    go_wp2
    go_loop [1, 5] (fun u v => ∃ i : Nat, i ≤ n ∧ (tot (rs.take i) : Int) ≤ left - n ∧ u = .int .i64 (left - n - tot (rs.take i)) ∧ v = .int .i64 i) (fun _ v => n - (intOf v).toNat)
    case atStart => exact ⟨0, Nat.zero_le _, by simp [tot]; omega, by simp [tot], rfl⟩
    case round =>
      obtain ⟨i, hi, hle, rfl, rfl⟩ := hrel
      by_cases hlt : i < n
      · have HT := Lib.hid (tot_take_succ (rs := rs) (j := i) (by rw [HL.out]; exact hlt))
        obtain ⟨g, o, rfl, c0, inn⟩ := h.at i hlt
        have hlt' : (i : Int) < (n : Int) := by omega
        have hn' : ((rowAt rs i).2.2.length : Int) ≤ 9223372036854775807 := inn.le
        have HT3 : Hid (left - n - tot (rs.take i) - ((rowAt rs i).2.2.length : Nat) = left - n - tot (rs.take (i + 1))) := Lib.hid (by rw [HT.out]; omega)
        have kk0 : 0 ≤ left - n - tot (rs.take i) := by omega
        have kk3 : left - n - tot (rs.take i) ≤ 1048576 := by omega
        have HLE : Hid (((rowAt rs i).2.2.length : Int) ≤ left - n - tot (rs.take i) → (tot (rs.take (i + 1)) : Int) ≤ left - n) := Lib.hid (fun h => by rw [HT.out]; omega)
        generalize left - n - tot (rs.take i) = kk at *
        by_cases kk2 : ((rowAt rs i).2.2.length : Int) ≤ kk
        · have hle2 := HLE.out kk2
          clear HLE hle
          go_wp2_with fail
          refine (szIntS_yes _ _ _ _ _ hn' kk3 kk2).mono ?_; rintro e w2 ⟨rfl, rfl⟩
          have nn : 0 ≤ kk - ((rowAt rs i).2.2.length : Nat) := by omega
          rw [HT3.out] at nn ⊢
          clear kk2 inn c0
          go_wp2
          go_round
          case rel => exact ⟨i + 1, by omega, hle2, rfl, by go_num⟩
          case measure => simp [intOf]; omega
        · clear HLE hle
          go_wp2_with fail
          refine (szIntS_no _ _ _ _ _ hn' ⟨kk0, kk3⟩ (by omega)).mono ?_; rintro e w2 ⟨rfl, rfl⟩
          clear kk2 inn c0 HT3
          go_wp2
          go_ret
          exact ⟨rfl, rfl⟩
      · exfalso
        obtain rfl : i = n := by omega
        have ht : tot (rs.take i) = tot rs := by have := HL.out; rw [← this]; exact tot_take_all rs
        omega
set_option maxHeartbeats 4000000 in
set_option maxRecDepth 100000 in
theorem toPlayer_any (s0 : Int) (s1 : Int) (s2 : Int) (s3 : Int) (s4 : Int) (a5 : Option Addr) (n5 c5 : Nat) (l5 : List Int) (a6 : Option Addr) (n6 c6 : Nat) (l6 : List Int) (s7 : Int) (a8 : Option Addr) (n8 c8 : Nat) (l8 : List RowD) (s9 : Int) (s10 : Int) (w : World) (h5 : Flat 2 w a5 n5 c5 l5) (h6 : Ints w a6 n6 c6 l6) (h8 : IntSS w a8 n8 c8 l8) (hs5 : n5 ≤ 1048576) (hs6 : n6 ≤ 1048576) (hs8 : n8 ≤ 1048576) (hr8 : ∀ r ∈ l8, r.2.2.length ≤ 1048576) :
    Calls Tryd.prog 15 #[.agg #[.int .i64 s0, .int .i64 s1, .int .i64 s2, .int .i64 s3, .int .i64 s4, .slice a5 n5 c5, .slice a6 n6 c6, .int .i64 s7, .slice a8 n8 c8, .int .i64 s9, .int .i64 s10]] w fun e w' => ∃ b5 d5 b6 d6 b8 d8 q8, e = .returned (.agg #[.int .i64 s0, .int .i64 s1, .int .i64 s2, .int .i64 s3, .int .i64 s4, .slice b5 n5 d5, .slice b6 n6 d6, .int .i64 s7, .slice b8 n8 d8, .int .i64 s9, .int .i64 s10]) ∧ OwnF 2 eTagged w' w.heap.size b5 n5 d5 l5 ∧ Own w' w.heap.size b6 n6 d6 l6 ∧ OwnSS w' w.heap.size b8 n8 d8 q8 ∧ datas' q8 = datas' l8 ∧ Disj (foot b5 d5) (foot b6 d6) ∧ Disj (foot b5 d5) (feetSS b8 d8 q8) ∧ Disj (foot b6 d6) (feetSS b8 d8 q8) ∧ Below w.heap.size w w' := by
  have HR8 := Lib.hid hr8
  clear hr8
  go_enter Tryd.func15, Tryd.ntmps15
  go_wp2_with fail
  have V0 : Below w.heap.size w (((w.alloc (.cells #[.int .i64 s0, .int .i64 s1, .int .i64 s2, .int .i64 s3, .int .i64 s4, .slice a5 n5 c5, .slice a6 n6 c6, .int .i64 s7, .slice a8 n8 c8, .int .i64 s9, .int .i64 s10] 26)).alloc (.cells #[.int .i64 0, .int .i64 0, .int .i64 0, .int .i64 0, .int .i64 0, .slice none 0 0, .slice none 0 0, .int .i64 0, .slice none 0 0, .int .i64 0, .int .i64 0] 31)).alloc (.cells #[.int .i64 s0, .int .i64 s1, .int .i64 s2, .int .i64 s3, .int .i64 s4, .slice none 0 0, .slice none 0 0, .int .i64 0, .slice none 0 0, .int .i64 0, .int .i64 0] 31)) := ((((Below.refl _ w).alloc (Nat.le_refl w.heap.size) _).alloc (by simp) _).alloc (by simp; omega) _)
  have P0 : Blk (((w.alloc (.cells #[.int .i64 s0, .int .i64 s1, .int .i64 s2, .int .i64 s3, .int .i64 s4, .slice a5 n5 c5, .slice a6 n6 c6, .int .i64 s7, .slice a8 n8 c8, .int .i64 s9, .int .i64 s10] 26)).alloc (.cells #[.int .i64 0, .int .i64 0, .int .i64 0, .int .i64 0, .int .i64 0, .slice none 0 0, .slice none 0 0, .int .i64 0, .slice none 0 0, .int .i64 0, .int .i64 0] 31)).alloc (.cells #[.int .i64 s0, .int .i64 s1, .int .i64 s2, .int .i64 s3, .int .i64 s4, .slice none 0 0, .slice none 0 0, .int .i64 0, .slice none 0 0, .int .i64 0, .int .i64 0] 31)) w.heap.size 26 #[.int .i64 s0, .int .i64 s1, .int .i64 s2, .int .i64 s3, .int .i64 s4, .slice a5 n5 c5, .slice a6 n6 c6, .int .i64 s7, .slice a8 n8 c8, .int .i64 s9, .int .i64 s10] := ((Blk.new w _ _).alloc _).alloc _
  have R0 : Blk (((w.alloc (.cells #[.int .i64 s0, .int .i64 s1, .int .i64 s2, .int .i64 s3, .int .i64 s4, .slice a5 n5 c5, .slice a6 n6 c6, .int .i64 s7, .slice a8 n8 c8, .int .i64 s9, .int .i64 s10] 26)).alloc (.cells #[.int .i64 0, .int .i64 0, .int .i64 0, .int .i64 0, .int .i64 0, .slice none 0 0, .slice none 0 0, .int .i64 0, .slice none 0 0, .int .i64 0, .int .i64 0] 31)).alloc (.cells #[.int .i64 s0, .int .i64 s1, .int .i64 s2, .int .i64 s3, .int .i64 s4, .slice none 0 0, .slice none 0 0, .int .i64 0, .slice none 0 0, .int .i64 0, .int .i64 0] 31)) (w.heap.size + 1) 31 #[.int .i64 0, .int .i64 0, .int .i64 0, .int .i64 0, .int .i64 0, .slice none 0 0, .slice none 0 0, .int .i64 0, .slice none 0 0, .int .i64 0, .int .i64 0] := by simpa using ((Blk.new (w.alloc _) 31 #[.int .i64 0, .int .i64 0, .int .i64 0, .int .i64 0, .int .i64 0, .slice none 0 0, .slice none 0 0, .int .i64 0, .slice none 0 0, .int .i64 0, .int .i64 0]).alloc _ : Blk (((w.alloc (.cells #[.int .i64 s0, .int .i64 s1, .int .i64 s2, .int .i64 s3, .int .i64 s4, .slice a5 n5 c5, .slice a6 n6 c6, .int .i64 s7, .slice a8 n8 c8, .int .i64 s9, .int .i64 s10] 26)).alloc (.cells #[.int .i64 0, .int .i64 0, .int .i64 0, .int .i64 0, .int .i64 0, .slice none 0 0, .slice none 0 0, .int .i64 0, .slice none 0 0, .int .i64 0, .int .i64 0] 31)).alloc (.cells #[.int .i64 s0, .int .i64 s1, .int .i64 s2, .int .i64 s3, .int .i64 s4, .slice none 0 0, .slice none 0 0, .int .i64 0, .slice none 0 0, .int .i64 0, .int .i64 0] 31)) _ _ _)
  have O0 : Blk (((w.alloc (.cells #[.int .i64 s0, .int .i64 s1, .int .i64 s2, .int .i64 s3, .int .i64 s4, .slice a5 n5 c5, .slice a6 n6 c6, .int .i64 s7, .slice a8 n8 c8, .int .i64 s9, .int .i64 s10] 26)).alloc (.cells #[.int .i64 0, .int .i64 0, .int .i64 0, .int .i64 0, .int .i64 0, .slice none 0 0, .slice none 0 0, .int .i64 0, .slice none 0 0, .int .i64 0, .int .i64 0] 31)).alloc (.cells #[.int .i64 s0, .int .i64 s1, .int .i64 s2, .int .i64 s3, .int .i64 s4, .slice none 0 0, .slice none 0 0, .int .i64 0, .slice none 0 0, .int .i64 0, .int .i64 0] 31)) (w.heap.size + 2) 31 #[.int .i64 s0, .int .i64 s1, .int .i64 s2, .int .i64 s3, .int .i64 s4, .slice none 0 0, .slice none 0 0, .int .i64 0, .slice none 0 0, .int .i64 0, .int .i64 0] := by simpa using (Blk.new ((w.alloc _).alloc _) 31 #[.int .i64 s0, .int .i64 s1, .int .i64 s2, .int .i64 s3, .int .i64 s4, .slice none 0 0, .slice none 0 0, .int .i64 0, .slice none 0 0, .int .i64 0, .int .i64 0] : Blk (((w.alloc (.cells #[.int .i64 s0, .int .i64 s1, .int .i64 s2, .int .i64 s3, .int .i64 s4, .slice a5 n5 c5, .slice a6 n6 c6, .int .i64 s7, .slice a8 n8 c8, .int .i64 s9, .int .i64 s10] 26)).alloc (.cells #[.int .i64 0, .int .i64 0, .int .i64 0, .int .i64 0, .int .i64 0, .slice none 0 0, .slice none 0 0, .int .i64 0, .slice none 0 0, .int .i64 0, .int .i64 0] 31)).alloc (.cells #[.int .i64 s0, .int .i64 s1, .int .i64 s2, .int .i64 s3, .int .i64 s4, .slice none 0 0, .slice none 0 0, .int .i64 0, .slice none 0 0, .int .i64 0, .int .i64 0] 31)) _ _ _)
  have S0 : w.heap.size + 3 ≤ (((w.alloc (.cells #[.int .i64 s0, .int .i64 s1, .int .i64 s2, .int .i64 s3, .int .i64 s4, .slice a5 n5 c5, .slice a6 n6 c6, .int .i64 s7, .slice a8 n8 c8, .int .i64 s9, .int .i64 s10] 26)).alloc (.cells #[.int .i64 0, .int .i64 0, .int .i64 0, .int .i64 0, .int .i64 0, .slice none 0 0, .slice none 0 0, .int .i64 0, .slice none 0 0, .int .i64 0, .int .i64 0] 31)).alloc (.cells #[.int .i64 s0, .int .i64 s1, .int .i64 s2, .int .i64 s3, .int .i64 s4, .slice none 0 0, .slice none 0 0, .int .i64 0, .slice none 0 0, .int .i64 0, .int .i64 0] 31)).heap.size := by simp
  generalize (((w.alloc (.cells #[.int .i64 s0, .int .i64 s1, .int .i64 s2, .int .i64 s3, .int .i64 s4, .slice a5 n5 c5, .slice a6 n6 c6, .int .i64 s7, .slice a8 n8 c8, .int .i64 s9, .int .i64 s10] 26)).alloc (.cells #[.int .i64 0, .int .i64 0, .int .i64 0, .int .i64 0, .int .i64 0, .slice none 0 0, .slice none 0 0, .int .i64 0, .slice none 0 0, .int .i64 0, .int .i64 0] 31)).alloc (.cells #[.int .i64 s0, .int .i64 s1, .int .i64 s2, .int .i64 s3, .int .i64 s4, .slice none 0 0, .slice none 0 0, .int .i64 0, .slice none 0 0, .int .i64 0, .int .i64 0] 31)) = w0 at *
  refine (toTaggedS_any _ _ _ l5 _ (h5.below V0) hs5).mono ?_; rintro e w1 ⟨b5, d5, rfl, o5, u5⟩
  have Q5 := Lib.hid o5.feet
  have V1 := V0.trans (u5.mono V0.size)
  have S1 : w.heap.size + 3 ≤ w1.heap.size := Nat.le_trans S0 u5.size
  have T1 := u5.size
  have P1 := P0.below u5
  have R1 := R0.below u5
  have O1 := O0.below u5
  clear u5 V0 P0 R0 O0
  have x0 : w1.cell? ⟨w.heap.size + 2, 0, none⟩ = some (.int .i64 s0) := O1.cell 0
  have f0 : w1.frozen? ⟨w.heap.size + 2, 0, none⟩ = false := O1.frozen 0
  have x1 : w1.cell? ⟨w.heap.size + 2, 1, none⟩ = some (.int .i64 s1) := O1.cell 1
  have f1 : w1.frozen? ⟨w.heap.size + 2, 1, none⟩ = false := O1.frozen 1
  have x2 : w1.cell? ⟨w.heap.size + 2, 2, none⟩ = some (.int .i64 s2) := O1.cell 2
  have f2 : w1.frozen? ⟨w.heap.size + 2, 2, none⟩ = false := O1.frozen 2
  have x3 : w1.cell? ⟨w.heap.size + 2, 3, none⟩ = some (.int .i64 s3) := O1.cell 3
  have f3 : w1.frozen? ⟨w.heap.size + 2, 3, none⟩ = false := O1.frozen 3
  have x4 : w1.cell? ⟨w.heap.size + 2, 4, none⟩ = some (.int .i64 s4) := O1.cell 4
  have f4 : w1.frozen? ⟨w.heap.size + 2, 4, none⟩ = false := O1.frozen 4
  have x5 : w1.cell? ⟨w.heap.size + 2, 5, none⟩ = some (.slice none 0 0) := O1.cell 5
  have f5 : w1.frozen? ⟨w.heap.size + 2, 5, none⟩ = false := O1.frozen 5
  have x6 : w1.cell? ⟨w.heap.size + 2, 6, none⟩ = some (.slice none 0 0) := O1.cell 6
  have f6 : w1.frozen? ⟨w.heap.size + 2, 6, none⟩ = false := O1.frozen 6
  have x7 : w1.cell? ⟨w.heap.size + 2, 7, none⟩ = some (.int .i64 0) := O1.cell 7
  have f7 : w1.frozen? ⟨w.heap.size + 2, 7, none⟩ = false := O1.frozen 7
  have x8 : w1.cell? ⟨w.heap.size + 2, 8, none⟩ = some (.slice none 0 0) := O1.cell 8
  have f8 : w1.frozen? ⟨w.heap.size + 2, 8, none⟩ = false := O1.frozen 8
  have x9 : w1.cell? ⟨w.heap.size + 2, 9, none⟩ = some (.int .i64 0) := O1.cell 9
  have f9 : w1.frozen? ⟨w.heap.size + 2, 9, none⟩ = false := O1.frozen 9
  have x10 : w1.cell? ⟨w.heap.size + 2, 10, none⟩ = some (.int .i64 0) := O1.cell 10
  have f10 : w1.frozen? ⟨w.heap.size + 2, 10, none⟩ = false := O1.frozen 10
  have y6 : w1.cell? ⟨w.heap.size, 6, none⟩ = some (.slice a6 n6 c6) := P1.cell 6
  go_wp2_with fail
  have G1 : Only [w.heap.size + 2] w1 (w1.setCell ⟨w.heap.size + 2, 5, none⟩ (.slice b5 n5 d5)) := ((Only.refl [w.heap.size + 2] w1).setCell ⟨w.heap.size + 2, 5, none⟩ (.slice b5 n5 d5) (by simp))
  have V2 := V1.trans (G1.below V1.size (by simp))
  have S2 : w.heap.size + 3 ≤ (w1.setCell ⟨w.heap.size + 2, 5, none⟩ (.slice b5 n5 d5)).heap.size := Nat.le_trans S1 G1.size
  have T2 := G1.size
  have P2 := P1.only G1 (by simp)
  have R2 := R1.only G1 (by simp)
  have O2 : Blk (w1.setCell ⟨w.heap.size + 2, 5, none⟩ (.slice b5 n5 d5)) (w.heap.size + 2) 31 #[.int .i64 s0, .int .i64 s1, .int .i64 s2, .int .i64 s3, .int .i64 s4, .slice b5 n5 d5, .slice none 0 0, .int .i64 0, .slice none 0 0, .int .i64 0, .int .i64 0] := (O1.set_ 5 (.slice b5 n5 d5))
  replace o5 := o5.only G1 (fun k hk hk' => by have := Q5.out k hk; simp at hk'; omega)
  clear G1 V1 P1 R1 O1 x0 f0 x1 f1 x2 f2 x3 f3 x4 f4 x5 f5 x6 f6 x7 f7 x8 f8 x9 f9 x10 f10 y6
  generalize (w1.setCell ⟨w.heap.size + 2, 5, none⟩ (.slice b5 n5 d5)) = w2 at *
  refine (toIntS_any _ _ _ l6 _ (h6.below V2) hs6).mono ?_; rintro e w3 ⟨b6, d6, rfl, o6, u6⟩
  have Q6 := Lib.hid o6.feet
  have V3 := V2.trans (u6.mono V2.size)
  have S3 : w.heap.size + 3 ≤ w3.heap.size := Nat.le_trans S2 u6.size
  have T3 := u6.size
  have P3 := P2.below u6
  have R3 := R2.below u6
  have O3 := O2.below u6
  replace o5 := o5.below u6
  clear u6 V2 P2 R2 O2
  have x0 : w3.cell? ⟨w.heap.size + 2, 0, none⟩ = some (.int .i64 s0) := O3.cell 0
  have f0 : w3.frozen? ⟨w.heap.size + 2, 0, none⟩ = false := O3.frozen 0
  have x1 : w3.cell? ⟨w.heap.size + 2, 1, none⟩ = some (.int .i64 s1) := O3.cell 1
  have f1 : w3.frozen? ⟨w.heap.size + 2, 1, none⟩ = false := O3.frozen 1
  have x2 : w3.cell? ⟨w.heap.size + 2, 2, none⟩ = some (.int .i64 s2) := O3.cell 2
  have f2 : w3.frozen? ⟨w.heap.size + 2, 2, none⟩ = false := O3.frozen 2
  have x3 : w3.cell? ⟨w.heap.size + 2, 3, none⟩ = some (.int .i64 s3) := O3.cell 3
  have f3 : w3.frozen? ⟨w.heap.size + 2, 3, none⟩ = false := O3.frozen 3
  have x4 : w3.cell? ⟨w.heap.size + 2, 4, none⟩ = some (.int .i64 s4) := O3.cell 4
  have f4 : w3.frozen? ⟨w.heap.size + 2, 4, none⟩ = false := O3.frozen 4
  have x5 : w3.cell? ⟨w.heap.size + 2, 5, none⟩ = some (.slice b5 n5 d5) := O3.cell 5
  have f5 : w3.frozen? ⟨w.heap.size + 2, 5, none⟩ = false := O3.frozen 5
  have x6 : w3.cell? ⟨w.heap.size + 2, 6, none⟩ = some (.slice none 0 0) := O3.cell 6
  have f6 : w3.frozen? ⟨w.heap.size + 2, 6, none⟩ = false := O3.frozen 6
  have x7 : w3.cell? ⟨w.heap.size + 2, 7, none⟩ = some (.int .i64 0) := O3.cell 7
  have f7 : w3.frozen? ⟨w.heap.size + 2, 7, none⟩ = false := O3.frozen 7
  have x8 : w3.cell? ⟨w.heap.size + 2, 8, none⟩ = some (.slice none 0 0) := O3.cell 8
  have f8 : w3.frozen? ⟨w.heap.size + 2, 8, none⟩ = false := O3.frozen 8
  have x9 : w3.cell? ⟨w.heap.size + 2, 9, none⟩ = some (.int .i64 0) := O3.cell 9
  have f9 : w3.frozen? ⟨w.heap.size + 2, 9, none⟩ = false := O3.frozen 9
  have x10 : w3.cell? ⟨w.heap.size + 2, 10, none⟩ = some (.int .i64 0) := O3.cell 10
  have f10 : w3.frozen? ⟨w.heap.size + 2, 10, none⟩ = false := O3.frozen 10
  have y7 : w3.cell? ⟨w.heap.size, 7, none⟩ = some (.int .i64 s7) := P3.cell 7
  have y8 : w3.cell? ⟨w.heap.size, 8, none⟩ = some (.slice a8 n8 c8) := P3.cell 8
  go_wp2_with fail
  have G3 : Only [w.heap.size + 2] w3 ((w3.setCell ⟨w.heap.size + 2, 6, none⟩ (.slice b6 n6 d6)).setCell ⟨w.heap.size + 2, 7, none⟩ (.int .i64 s7)) := (((Only.refl [w.heap.size + 2] w3).setCell ⟨w.heap.size + 2, 6, none⟩ (.slice b6 n6 d6) (by simp)).setCell ⟨w.heap.size + 2, 7, none⟩ (.int .i64 s7) (by simp))
  have V4 := V3.trans (G3.below V3.size (by simp))
  have S4 : w.heap.size + 3 ≤ ((w3.setCell ⟨w.heap.size + 2, 6, none⟩ (.slice b6 n6 d6)).setCell ⟨w.heap.size + 2, 7, none⟩ (.int .i64 s7)).heap.size := Nat.le_trans S3 G3.size
  have T4 := G3.size
  have P4 := P3.only G3 (by simp)
  have R4 := R3.only G3 (by simp)
  have O4 : Blk ((w3.setCell ⟨w.heap.size + 2, 6, none⟩ (.slice b6 n6 d6)).setCell ⟨w.heap.size + 2, 7, none⟩ (.int .i64 s7)) (w.heap.size + 2) 31 #[.int .i64 s0, .int .i64 s1, .int .i64 s2, .int .i64 s3, .int .i64 s4, .slice b5 n5 d5, .slice b6 n6 d6, .int .i64 s7, .slice none 0 0, .int .i64 0, .int .i64 0] := ((O3.set_ 6 (.slice b6 n6 d6)).set_ 7 (.int .i64 s7))
  replace o5 := o5.only G3 (fun k hk hk' => by have := Q5.out k hk; simp at hk'; omega)
  replace o6 := o6.only G3 (fun k hk hk' => by have := Q6.out k hk; simp at hk'; omega)
  clear G3 V3 P3 R3 O3 x0 f0 x1 f1 x2 f2 x3 f3 x4 f4 x5 f5 x6 f6 x7 f7 x8 f8 x9 f9 x10 f10 y7 y8
  generalize ((w3.setCell ⟨w.heap.size + 2, 6, none⟩ (.slice b6 n6 d6)).setCell ⟨w.heap.size + 2, 7, none⟩ (.int .i64 s7)) = w4 at *
  refine (toIntSS_any _ _ _ l8 _ (h8.below V4) hs8 HR8.out).mono ?_; rintro e w5 ⟨b8, d8, q8, rfl, o8, hd8, u8⟩
  have HD8 := Lib.hid hd8
  clear hd8
  have Q8 := Lib.hid o8.feet
  have V5 := V4.trans (u8.mono V4.size)
  have S5 : w.heap.size + 3 ≤ w5.heap.size := Nat.le_trans S4 u8.size
  have T5 := u8.size
  have P5 := P4.below u8
  have R5 := R4.below u8
  have O5 := O4.below u8
  replace o5 := o5.below u8
  replace o6 := o6.below u8
  clear u8 V4 P4 R4 O4
  have x0 : w5.cell? ⟨w.heap.size + 2, 0, none⟩ = some (.int .i64 s0) := O5.cell 0
  have f0 : w5.frozen? ⟨w.heap.size + 2, 0, none⟩ = false := O5.frozen 0
  have x1 : w5.cell? ⟨w.heap.size + 2, 1, none⟩ = some (.int .i64 s1) := O5.cell 1
  have f1 : w5.frozen? ⟨w.heap.size + 2, 1, none⟩ = false := O5.frozen 1
  have x2 : w5.cell? ⟨w.heap.size + 2, 2, none⟩ = some (.int .i64 s2) := O5.cell 2
  have f2 : w5.frozen? ⟨w.heap.size + 2, 2, none⟩ = false := O5.frozen 2
  have x3 : w5.cell? ⟨w.heap.size + 2, 3, none⟩ = some (.int .i64 s3) := O5.cell 3
  have f3 : w5.frozen? ⟨w.heap.size + 2, 3, none⟩ = false := O5.frozen 3
  have x4 : w5.cell? ⟨w.heap.size + 2, 4, none⟩ = some (.int .i64 s4) := O5.cell 4
  have f4 : w5.frozen? ⟨w.heap.size + 2, 4, none⟩ = false := O5.frozen 4
  have x5 : w5.cell? ⟨w.heap.size + 2, 5, none⟩ = some (.slice b5 n5 d5) := O5.cell 5
  have f5 : w5.frozen? ⟨w.heap.size + 2, 5, none⟩ = false := O5.frozen 5
  have x6 : w5.cell? ⟨w.heap.size + 2, 6, none⟩ = some (.slice b6 n6 d6) := O5.cell 6
  have f6 : w5.frozen? ⟨w.heap.size + 2, 6, none⟩ = false := O5.frozen 6
  have x7 : w5.cell? ⟨w.heap.size + 2, 7, none⟩ = some (.int .i64 s7) := O5.cell 7
  have f7 : w5.frozen? ⟨w.heap.size + 2, 7, none⟩ = false := O5.frozen 7
  have x8 : w5.cell? ⟨w.heap.size + 2, 8, none⟩ = some (.slice none 0 0) := O5.cell 8
  have f8 : w5.frozen? ⟨w.heap.size + 2, 8, none⟩ = false := O5.frozen 8
  have x9 : w5.cell? ⟨w.heap.size + 2, 9, none⟩ = some (.int .i64 0) := O5.cell 9
  have f9 : w5.frozen? ⟨w.heap.size + 2, 9, none⟩ = false := O5.frozen 9
  have x10 : w5.cell? ⟨w.heap.size + 2, 10, none⟩ = some (.int .i64 0) := O5.cell 10
  have f10 : w5.frozen? ⟨w.heap.size + 2, 10, none⟩ = false := O5.frozen 10
  have y9 : w5.cell? ⟨w.heap.size, 9, none⟩ = some (.int .i64 s9) := P5.cell 9
  have y10 : w5.cell? ⟨w.heap.size, 10, none⟩ = some (.int .i64 s10) := P5.cell 10
  have r0 : w5.cell? ⟨w.heap.size + 1, 0, none⟩ = some (.int .i64 0) := R5.cell 0
  have q0 : w5.frozen? ⟨w.heap.size + 1, 0, none⟩ = false := R5.frozen 0
  have r1 : w5.cell? ⟨w.heap.size + 1, 1, none⟩ = some (.int .i64 0) := R5.cell 1
  have q1 : w5.frozen? ⟨w.heap.size + 1, 1, none⟩ = false := R5.frozen 1
  have r2 : w5.cell? ⟨w.heap.size + 1, 2, none⟩ = some (.int .i64 0) := R5.cell 2
  have q2 : w5.frozen? ⟨w.heap.size + 1, 2, none⟩ = false := R5.frozen 2
  have r3 : w5.cell? ⟨w.heap.size + 1, 3, none⟩ = some (.int .i64 0) := R5.cell 3
  have q3 : w5.frozen? ⟨w.heap.size + 1, 3, none⟩ = false := R5.frozen 3
  have r4 : w5.cell? ⟨w.heap.size + 1, 4, none⟩ = some (.int .i64 0) := R5.cell 4
  have q4 : w5.frozen? ⟨w.heap.size + 1, 4, none⟩ = false := R5.frozen 4
  have r5 : w5.cell? ⟨w.heap.size + 1, 5, none⟩ = some (.slice none 0 0) := R5.cell 5
  have q5 : w5.frozen? ⟨w.heap.size + 1, 5, none⟩ = false := R5.frozen 5
  have r6 : w5.cell? ⟨w.heap.size + 1, 6, none⟩ = some (.slice none 0 0) := R5.cell 6
  have q6 : w5.frozen? ⟨w.heap.size + 1, 6, none⟩ = false := R5.frozen 6
  have r7 : w5.cell? ⟨w.heap.size + 1, 7, none⟩ = some (.int .i64 0) := R5.cell 7
  have q7 : w5.frozen? ⟨w.heap.size + 1, 7, none⟩ = false := R5.frozen 7
  have r8 : w5.cell? ⟨w.heap.size + 1, 8, none⟩ = some (.slice none 0 0) := R5.cell 8
  have q8 : w5.frozen? ⟨w.heap.size + 1, 8, none⟩ = false := R5.frozen 8
  have r9 : w5.cell? ⟨w.heap.size + 1, 9, none⟩ = some (.int .i64 0) := R5.cell 9
  have q9 : w5.frozen? ⟨w.heap.size + 1, 9, none⟩ = false := R5.frozen 9
  have r10 : w5.cell? ⟨w.heap.size + 1, 10, none⟩ = some (.int .i64 0) := R5.cell 10
  have q10 : w5.frozen? ⟨w.heap.size + 1, 10, none⟩ = false := R5.frozen 10
  go_wp2
  have G := (((((((((((((((Only.refl [w.heap.size + 2, w.heap.size + 1] w5).setCell ⟨w.heap.size + 2, 8, none⟩ (.slice b8 n8 d8) (by simp)).setCell ⟨w.heap.size + 2, 9, none⟩ (.int .i64 s9) (by simp)).setCell ⟨w.heap.size + 2, 10, none⟩ (.int .i64 s10) (by simp)).setCell ⟨w.heap.size + 1, 0, none⟩ (.int .i64 s0) (by simp)).setCell ⟨w.heap.size + 1, 1, none⟩ (.int .i64 s1) (by simp)).setCell ⟨w.heap.size + 1, 2, none⟩ (.int .i64 s2) (by simp)).setCell ⟨w.heap.size + 1, 3, none⟩ (.int .i64 s3) (by simp)).setCell ⟨w.heap.size + 1, 4, none⟩ (.int .i64 s4) (by simp)).setCell ⟨w.heap.size + 1, 5, none⟩ (.slice b5 n5 d5) (by simp)).setCell ⟨w.heap.size + 1, 6, none⟩ (.slice b6 n6 d6) (by simp)).setCell ⟨w.heap.size + 1, 7, none⟩ (.int .i64 s7) (by simp)).setCell ⟨w.heap.size + 1, 8, none⟩ (.slice b8 n8 d8) (by simp)).setCell ⟨w.heap.size + 1, 9, none⟩ (.int .i64 s9) (by simp)).setCell ⟨w.heap.size + 1, 10, none⟩ (.int .i64 s10) (by simp))
  exact bodyPost_ret (v := .agg #[.int .i64 s0, .int .i64 s1, .int .i64 s2, .int .i64 s3, .int .i64 s4, .slice b5 n5 d5, .slice b6 n6 d6, .int .i64 s7, .slice b8 n8 d8, .int .i64 s9, .int .i64 s10]) (by simp [results, Tryd.results15, go_sem, r0, r1, r2, r3, r4, r5, r6, r7, r8, r9, r10]) rfl ⟨_, _, _, _, _, _, _, rfl, (o5.only G (fun k hk hk' => by have := Q5.out k hk; simp at hk'; omega)).lower (by omega), (o6.only G (fun k hk hk' => by have := Q6.out k hk; simp at hk'; omega)).lower (by omega), (o8.only G (fun k hk hk' => by have := Q8.out k hk; simp at hk'; omega)).lower (by omega), HD8.out, (fun k hk hk' => by have := Q5.out k hk; have := Q6.out k hk'; omega), (fun k hk hk' => by have := Q5.out k hk; have := Q8.out k hk'; omega), (fun k hk hk' => by have := Q6.out k hk; have := Q8.out k hk'; omega), V5.trans (G.below V5.size (by simp))⟩
set_option maxHeartbeats 4000000 in
set_option maxRecDepth 100000 in
theorem szPlayer_yes (s0 : Int) (s1 : Int) (s2 : Int) (s3 : Int) (s4 : Int) (a5 : Option Addr) (n5 c5 : Nat) (a6 : Option Addr) (n6 c6 : Nat) (s7 : Int) (a8 : Option Addr) (n8 c8 : Nat) (l8 : List RowD) (s9 : Int) (s10 : Int) (left : Int) (w : World) (hn5 : (n5 : Int) ≤ 9223372036854775807) (hn6 : (n6 : Int) ≤ 9223372036854775807) (h8 : IntSS w a8 n8 c8 l8) (h0 : left ≤ 1048576) (h1 : (n5 : Int) + (n6 : Int) + (n8 : Int) + (tot l8 : Int) ≤ left) :
    Calls Tryd.prog 13 #[.agg #[.int .i64 s0, .int .i64 s1, .int .i64 s2, .int .i64 s3, .int .i64 s4, .slice a5 n5 c5, .slice a6 n6 c6, .int .i64 s7, .slice a8 n8 c8, .int .i64 s9, .int .i64 s10], .int .i64 left] w fun e w' => e = .returned (.int .i64 (left - n5 - n6 - n8 - tot l8)) ∧ Below w.heap.size w w' := by
  go_enter Tryd.func13, Tryd.ntmps13
  go_wp2_with fail
  have V0 : Below w.heap.size w (w.alloc (.cells #[.int .i64 s0, .int .i64 s1, .int .i64 s2, .int .i64 s3, .int .i64 s4, .slice a5 n5 c5, .slice a6 n6 c6, .int .i64 s7, .slice a8 n8 c8, .int .i64 s9, .int .i64 s10] 26)) := (Below.refl _ w).alloc (Nat.le_refl w.heap.size) _
  refine (szTaggedS_yes _ _ _ (left) _ (by omega) (by omega) (by omega)).mono ?_; rintro e w' ⟨rfl, rfl⟩
  go_wp2_with fail
  refine (szIntS_yes _ _ _ (left - n5) _ (by omega) (by omega) (by omega)).mono ?_; rintro e w' ⟨rfl, rfl⟩
  go_wp2_with fail
  refine (szIntSS_yes _ _ _ l8 (left - n5 - n6) _ (h8.alloc _) (by omega) (by omega)).mono ?_; rintro e w' ⟨rfl, rfl⟩
  go_wp2
  go_ret
  exact ⟨rfl, V0⟩
set_option maxHeartbeats 4000000 in
set_option maxRecDepth 100000 in
theorem szPlayer_no (s0 : Int) (s1 : Int) (s2 : Int) (s3 : Int) (s4 : Int) (a5 : Option Addr) (n5 c5 : Nat) (a6 : Option Addr) (n6 c6 : Nat) (s7 : Int) (a8 : Option Addr) (n8 c8 : Nat) (l8 : List RowD) (s9 : Int) (s10 : Int) (left : Int) (w : World) (hn5 : (n5 : Int) ≤ 9223372036854775807) (hn6 : (n6 : Int) ≤ 9223372036854775807) (h8 : IntSS w a8 n8 c8 l8) (hz : 0 ≤ left) (h0 : left ≤ 1048576) (h1 : ¬ (n5 : Int) + (n6 : Int) + (n8 : Int) + (tot l8 : Int) ≤ left) :
    Calls Tryd.prog 13 #[.agg #[.int .i64 s0, .int .i64 s1, .int .i64 s2, .int .i64 s3, .int .i64 s4, .slice a5 n5 c5, .slice a6 n6 c6, .int .i64 s7, .slice a8 n8 c8, .int .i64 s9, .int .i64 s10], .int .i64 left] w fun e w' => e = .returned (.int .i64 (-1)) ∧ Below w.heap.size w w' := by
  by_cases q0 : ¬ ((n5 : Int) : Int) ≤ left
  · go_enter Tryd.func13, Tryd.ntmps13
    go_wp2_with fail
    have V0 : Below w.heap.size w (w.alloc (.cells #[.int .i64 s0, .int .i64 s1, .int .i64 s2, .int .i64 s3, .int .i64 s4, .slice a5 n5 c5, .slice a6 n6 c6, .int .i64 s7, .slice a8 n8 c8, .int .i64 s9, .int .i64 s10] 26)) := (Below.refl _ w).alloc (Nat.le_refl w.heap.size) _
    refine (szTaggedS_no _ _ _ (left) _ (by omega) (by omega) (by omega)).mono ?_; rintro e w' ⟨rfl, rfl⟩
    go_wp2
    go_ret
    exact ⟨rfl, V0⟩
  by_cases q1 : ¬ ((n5 : Int) + (n6 : Int) : Int) ≤ left
  · go_enter Tryd.func13, Tryd.ntmps13
    go_wp2_with fail
    have V0 : Below w.heap.size w (w.alloc (.cells #[.int .i64 s0, .int .i64 s1, .int .i64 s2, .int .i64 s3, .int .i64 s4, .slice a5 n5 c5, .slice a6 n6 c6, .int .i64 s7, .slice a8 n8 c8, .int .i64 s9, .int .i64 s10] 26)) := (Below.refl _ w).alloc (Nat.le_refl w.heap.size) _
    refine (szTaggedS_yes _ _ _ (left) _ (by omega) (by omega) (by omega)).mono ?_; rintro e w' ⟨rfl, rfl⟩
    go_wp2_with fail
    refine (szIntS_no _ _ _ (left - n5) _ (by omega) (by omega) (by omega)).mono ?_; rintro e w' ⟨rfl, rfl⟩
    go_wp2
    go_ret
    exact ⟨rfl, V0⟩
  go_enter Tryd.func13, Tryd.ntmps13
  go_wp2_with fail
  have V0 : Below w.heap.size w (w.alloc (.cells #[.int .i64 s0, .int .i64 s1, .int .i64 s2, .int .i64 s3, .int .i64 s4, .slice a5 n5 c5, .slice a6 n6 c6, .int .i64 s7, .slice a8 n8 c8, .int .i64 s9, .int .i64 s10] 26)) := (Below.refl _ w).alloc (Nat.le_refl w.heap.size) _
  refine (szTaggedS_yes _ _ _ (left) _ (by omega) (by omega) (by omega)).mono ?_; rintro e w' ⟨rfl, rfl⟩
  go_wp2_with fail
  refine (szIntS_yes _ _ _ (left - n5) _ (by omega) (by omega) (by omega)).mono ?_; rintro e w' ⟨rfl, rfl⟩
  go_wp2_with fail
  refine (szIntSS_no _ _ _ l8 (left - n5 - n6) _ (h8.alloc _) (by omega) (by omega)).mono ?_; rintro e w' ⟨rfl, rfl⟩
  go_wp2
  go_ret
  exact ⟨rfl, V0⟩
set_option maxHeartbeats 4000000 in
set_option maxRecDepth 100000 in
theorem eqPlayer_same (s0 : Int) (s1 : Int) (s2 : Int) (s3 : Int) (s4 : Int) (a5 : Option Addr) (n5 c5 : Nat) (b5 : Option Addr) (m5 d5 : Nat) (l5 : List Int) (a6 : Option Addr) (n6 c6 : Nat) (b6 : Option Addr) (m6 d6 : Nat) (l6 : List Int) (s7 : Int) (a8 : Option Addr) (n8 c8 : Nat) (b8 : Option Addr) (m8 d8 : Nat) (l8 k8 : List RowD) (e8 : datas' l8 = datas' k8) (s9 : Int) (s10 : Int) (w : World) (h5 : Flat 2 w a5 n5 c5 l5) (g5 : Flat 2 w b5 m5 d5 l5) (h6 : Ints w a6 n6 c6 l6) (g6 : Ints w b6 m6 d6 l6) (h8 : IntSS w a8 n8 c8 l8) (g8 : IntSS w b8 m8 d8 k8) :
    Calls Tryd.prog 17 #[.agg #[.int .i64 s0, .int .i64 s1, .int .i64 s2, .int .i64 s3, .int .i64 s4, .slice a5 n5 c5, .slice a6 n6 c6, .int .i64 s7, .slice a8 n8 c8, .int .i64 s9, .int .i64 s10], .agg #[.int .i64 s0, .int .i64 s1, .int .i64 s2, .int .i64 s3, .int .i64 s4, .slice b5 m5 d5, .slice b6 m6 d6, .int .i64 s7, .slice b8 m8 d8, .int .i64 s9, .int .i64 s10]] w fun e w' => e = .returned (.bool true) ∧ Below w.heap.size w w' := by
  have z0 : ((s0 != s0) : Bool) = false := by simp
  have z1 : ((s1 != s1) : Bool) = false := by simp
  have z2 : ((s2 != s2) : Bool) = false := by simp
  have z3 : ((s3 != s3) : Bool) = false := by simp
  have z4 : ((s4 != s4) : Bool) = false := by simp
  have z7 : ((s7 != s7) : Bool) = false := by simp
  have E8 := Lib.hid e8
  clear e8
  have z9 : ((s9 != s9) : Bool) = false := by simp
  have z10 : ((s10 != s10) : Bool) = false := by simp
  go_enter Tryd.func17, Tryd.ntmps17
  go_wp2_with fail
  have V0 : Below w.heap.size w ((w.alloc (.cells #[.int .i64 s0, .int .i64 s1, .int .i64 s2, .int .i64 s3, .int .i64 s4, .slice a5 n5 c5, .slice a6 n6 c6, .int .i64 s7, .slice a8 n8 c8, .int .i64 s9, .int .i64 s10] 31)).alloc (.cells #[.int .i64 s0, .int .i64 s1, .int .i64 s2, .int .i64 s3, .int .i64 s4, .slice b5 m5 d5, .slice b6 m6 d6, .int .i64 s7, .slice b8 m8 d8, .int .i64 s9, .int .i64 s10] 31)) := ((Below.refl _ w).alloc (Nat.le_refl w.heap.size) _).alloc (by simp) _
  have P0 : Blk ((w.alloc (.cells #[.int .i64 s0, .int .i64 s1, .int .i64 s2, .int .i64 s3, .int .i64 s4, .slice a5 n5 c5, .slice a6 n6 c6, .int .i64 s7, .slice a8 n8 c8, .int .i64 s9, .int .i64 s10] 31)).alloc (.cells #[.int .i64 s0, .int .i64 s1, .int .i64 s2, .int .i64 s3, .int .i64 s4, .slice b5 m5 d5, .slice b6 m6 d6, .int .i64 s7, .slice b8 m8 d8, .int .i64 s9, .int .i64 s10] 31)) w.heap.size 31 #[.int .i64 s0, .int .i64 s1, .int .i64 s2, .int .i64 s3, .int .i64 s4, .slice a5 n5 c5, .slice a6 n6 c6, .int .i64 s7, .slice a8 n8 c8, .int .i64 s9, .int .i64 s10] := (Blk.new w _ _).alloc _
  have R0 : Blk ((w.alloc (.cells #[.int .i64 s0, .int .i64 s1, .int .i64 s2, .int .i64 s3, .int .i64 s4, .slice a5 n5 c5, .slice a6 n6 c6, .int .i64 s7, .slice a8 n8 c8, .int .i64 s9, .int .i64 s10] 31)).alloc (.cells #[.int .i64 s0, .int .i64 s1, .int .i64 s2, .int .i64 s3, .int .i64 s4, .slice b5 m5 d5, .slice b6 m6 d6, .int .i64 s7, .slice b8 m8 d8, .int .i64 s9, .int .i64 s10] 31)) (w.heap.size + 1) 31 #[.int .i64 s0, .int .i64 s1, .int .i64 s2, .int .i64 s3, .int .i64 s4, .slice b5 m5 d5, .slice b6 m6 d6, .int .i64 s7, .slice b8 m8 d8, .int .i64 s9, .int .i64 s10] := by simpa using (Blk.new (w.alloc _) 31 #[.int .i64 s0, .int .i64 s1, .int .i64 s2, .int .i64 s3, .int .i64 s4, .slice b5 m5 d5, .slice b6 m6 d6, .int .i64 s7, .slice b8 m8 d8, .int .i64 s9, .int .i64 s10] : Blk ((w.alloc (.cells #[.int .i64 s0, .int .i64 s1, .int .i64 s2, .int .i64 s3, .int .i64 s4, .slice a5 n5 c5, .slice a6 n6 c6, .int .i64 s7, .slice a8 n8 c8, .int .i64 s9, .int .i64 s10] 31)).alloc (.cells #[.int .i64 s0, .int .i64 s1, .int .i64 s2, .int .i64 s3, .int .i64 s4, .slice b5 m5 d5, .slice b6 m6 d6, .int .i64 s7, .slice b8 m8 d8, .int .i64 s9, .int .i64 s10] 31)) _ _ _)
  generalize ((w.alloc (.cells #[.int .i64 s0, .int .i64 s1, .int .i64 s2, .int .i64 s3, .int .i64 s4, .slice a5 n5 c5, .slice a6 n6 c6, .int .i64 s7, .slice a8 n8 c8, .int .i64 s9, .int .i64 s10] 31)).alloc (.cells #[.int .i64 s0, .int .i64 s1, .int .i64 s2, .int .i64 s3, .int .i64 s4, .slice b5 m5 d5, .slice b6 m6 d6, .int .i64 s7, .slice b8 m8 d8, .int .i64 s9, .int .i64 s10] 31)) = w0 at *
  refine (eqTaggedS_b _ _ _ _ _ _ l5 _ (h5.below V0) (g5.below V0)).mono ?_; rintro e w1 ⟨rfl, u0⟩
  have V1 := V0.trans (u0.mono V0.size)
  have P1 := P0.below u0
  have R1 := R0.below u0
  clear u0 V0 P0 R0
  have x6 : w1.cell? ⟨w.heap.size, 6, none⟩ = some (.slice a6 n6 c6) := P1.cell 6
  have y6 : w1.cell? ⟨w.heap.size + 1, 6, none⟩ = some (.slice b6 m6 d6) := R1.cell 6
  go_wp2_with fail
  clear x6 y6
  refine (eqIntS_b _ _ _ _ _ _ l6 _ (h6.below V1) (g6.below V1)).mono ?_; rintro e w2 ⟨rfl, u1⟩
  have V2 := V1.trans (u1.mono V1.size)
  have P2 := P1.below u1
  have R2 := R1.below u1
  clear u1 V1 P1 R1
  have x7 : w2.cell? ⟨w.heap.size, 7, none⟩ = some (.int .i64 s7) := P2.cell 7
  have y7 : w2.cell? ⟨w.heap.size + 1, 7, none⟩ = some (.int .i64 s7) := R2.cell 7
  have x8 : w2.cell? ⟨w.heap.size, 8, none⟩ = some (.slice a8 n8 c8) := P2.cell 8
  have y8 : w2.cell? ⟨w.heap.size + 1, 8, none⟩ = some (.slice b8 m8 d8) := R2.cell 8
  go_wp2_with fail
  clear x7 y7 x8 y8
  refine (eqIntSS_b _ _ _ _ _ _ l8 k8 _ (h8.below V2) (g8.below V2) E8.out).mono ?_; rintro e w3 ⟨rfl, u2⟩
  have V3 := V2.trans (u2.mono V2.size)
  have P3 := P2.below u2
  have R3 := R2.below u2
  clear u2 V2 P2 R2
  have x9 : w3.cell? ⟨w.heap.size, 9, none⟩ = some (.int .i64 s9) := P3.cell 9
  have y9 : w3.cell? ⟨w.heap.size + 1, 9, none⟩ = some (.int .i64 s9) := R3.cell 9
  have x10 : w3.cell? ⟨w.heap.size, 10, none⟩ = some (.int .i64 s10) := P3.cell 10
  have y10 : w3.cell? ⟨w.heap.size + 1, 10, none⟩ = some (.int .i64 s10) := R3.cell 10
  go_wp2
  go_ret
  exact ⟨rfl, V3⟩
set_option maxHeartbeats 4000000 in
set_option maxRecDepth 100000 in
theorem markPlayer_any (s0 : Int) (s1 : Int) (s2 : Int) (s3 : Int) (s4 : Int) (a5 : Option Addr) (n5 c5 : Nat) (l5 : List Int) (a6 : Option Addr) (n6 c6 : Nat) (l6 : List Int) (s7 : Int) (a8 : Option Addr) (n8 c8 : Nat) (l8 : List RowD) (s9 : Int) (s10 : Int) (B5 : Nat) (B6 : Nat) (B8 : Nat) (k0 : Int) (w : World) (h5 : OwnF 2 eTagged w B5 a5 n5 c5 l5) (h6 : Own w B6 a6 n6 c6 l6) (h8 : OwnSS w B8 a8 n8 c8 l8) (D5_6 : Disj (foot a5 c5) (foot a6 c6)) (D5_8 : Disj (foot a5 c5) (feetSS a8 c8 l8)) (D6_8 : Disj (foot a6 c6) (feetSS a8 c8 l8)) (hk : 0 ≤ k0) (hk2 : k0 + 2 * (n5 : Int) + (n6 : Int) + (tot l8 : Int) ≤ 4000000000000000000) :
    Calls Tryd.prog 23 #[.agg #[.int .i64 s0, .int .i64 s1, .int .i64 s2, .int .i64 s3, .int .i64 s4, .slice a5 n5 c5, .slice a6 n6 c6, .int .i64 s7, .slice a8 n8 c8, .int .i64 s9, .int .i64 s10], .int .i64 k0] w fun e w' => ∃ m8, e = .returned (.int .i64 (k0 + 2 * (n5 : Int) + (n6 : Int) + (tot m8 : Int))) ∧ (∃ l, OwnF 2 eTagged w' B5 a5 n5 c5 l ∧ UpFrom (k0) l) ∧ (∃ l, Own w' B6 a6 n6 c6 l ∧ UpFrom (k0 + 2 * (n5 : Int)) l) ∧ OwnSS w' B8 a8 n8 c8 m8 ∧ UpSS (k0 + 2 * (n5 : Int) + (n6 : Int)) m8 ∧ (tot m8 = tot l8 ∧ rowsF m8 = rowsF l8) ∧ Only (foot a5 c5 ++ foot a6 c6 ++ rowsF l8) w w' := by
  have Q5 := Lib.hid h5.feet
  have Q6 := Lib.hid h6.feet
  have Q8 := Lib.hid h8.feet
  have E5_6 := Lib.hid D5_6
  clear D5_6
  have E5_8 := Lib.hid D5_8
  clear D5_8
  have E6_8 := Lib.hid D6_8
  clear D6_8
  go_enter Tryd.func23, Tryd.ntmps23
  go_wp2_with fail
  have G0 : Only (foot a5 c5 ++ foot a6 c6 ++ rowsF l8) w (w.alloc (.cells #[.int .i64 s0, .int .i64 s1, .int .i64 s2, .int .i64 s3, .int .i64 s4, .slice a5 n5 c5, .slice a6 n6 c6, .int .i64 s7, .slice a8 n8 c8, .int .i64 s9, .int .i64 s10] 31)) := (Only.refl _ _).alloc _
  have P0 : Blk (w.alloc (.cells #[.int .i64 s0, .int .i64 s1, .int .i64 s2, .int .i64 s3, .int .i64 s4, .slice a5 n5 c5, .slice a6 n6 c6, .int .i64 s7, .slice a8 n8 c8, .int .i64 s9, .int .i64 s10] 31)) w.heap.size 31 #[.int .i64 s0, .int .i64 s1, .int .i64 s2, .int .i64 s3, .int .i64 s4, .slice a5 n5 c5, .slice a6 n6 c6, .int .i64 s7, .slice a8 n8 c8, .int .i64 s9, .int .i64 s10] := Blk.new w _ _
  have h5 := h5.below ((Below.refl w.heap.size w).alloc (Nat.le_refl _) (.cells #[.int .i64 s0, .int .i64 s1, .int .i64 s2, .int .i64 s3, .int .i64 s4, .slice a5 n5 c5, .slice a6 n6 c6, .int .i64 s7, .slice a8 n8 c8, .int .i64 s9, .int .i64 s10] 31))
  have h6 := h6.below ((Below.refl w.heap.size w).alloc (Nat.le_refl _) (.cells #[.int .i64 s0, .int .i64 s1, .int .i64 s2, .int .i64 s3, .int .i64 s4, .slice a5 n5 c5, .slice a6 n6 c6, .int .i64 s7, .slice a8 n8 c8, .int .i64 s9, .int .i64 s10] 31))
  have h8 := h8.below ((Below.refl w.heap.size w).alloc (Nat.le_refl _) (.cells #[.int .i64 s0, .int .i64 s1, .int .i64 s2, .int .i64 s3, .int .i64 s4, .slice a5 n5 c5, .slice a6 n6 c6, .int .i64 s7, .slice a8 n8 c8, .int .i64 s9, .int .i64 s10] 31))
  generalize (w.alloc (.cells #[.int .i64 s0, .int .i64 s1, .int .i64 s2, .int .i64 s3, .int .i64 s4, .slice a5 n5 c5, .slice a6 n6 c6, .int .i64 s7, .slice a8 n8 c8, .int .i64 s9, .int .i64 s10] 31)) = w0 at *
  refine (markTaggedS_o _ _ _ _ _ (k0) _ h5 (by omega) (by omega)).mono ?_; rintro e w1 ⟨rfl, ⟨L5, h5, U5⟩, u0⟩
  replace U5 := Lib.hid U5
  replace h6 := h6.only u0 E5_6.out.symm
  replace h8 := h8.only u0 E5_8.out.symm
  have P1 := P0.only u0 (fun hm => by have := Q5.out _ hm; omega)
  have G1 := G0.trans (u0.more (fun k hk => by simp [hk]))
  clear u0 P0 G0
  have y6 : w1.cell? ⟨w.heap.size, 6, none⟩ = some (.slice a6 n6 c6) := P1.cell 6
  go_wp2_with fail
  clear y6
  refine (markIntS_o _ _ _ _ _ (k0 + 2 * (n5 : Int)) _ h6 (by omega) (by omega)).mono ?_; rintro e w2 ⟨rfl, ⟨L6, h6, U6⟩, u1⟩
  replace U6 := Lib.hid U6
  replace h5 := h5.only u1 E5_6.out
  replace h8 := h8.only u1 E6_8.out.symm
  have P2 := P1.only u1 (fun hm => by have := Q6.out _ hm; omega)
  have G2 := G1.trans (u1.more (fun k hk => by simp [hk]))
  clear u1 P1 G1
  have y8 : w2.cell? ⟨w.heap.size, 8, none⟩ = some (.slice a8 n8 c8) := P2.cell 8
  go_wp2_with fail
  clear y8
  refine (markIntSS_p _ _ _ _ _ (k0 + 2 * (n5 : Int) + (n6 : Int)) _ h8 (by omega) (by omega)).mono ?_; rintro e w3 ⟨m8, rfl, h8, U8, T8, u2⟩
  replace T8 := Lib.hid T8
  replace U8 := Lib.hid U8
  replace h5 := h5.only u2 (fun k hk hk' => (E5_8.out) k hk (List.mem_append_right _ hk'))
  replace h6 := h6.only u2 (fun k hk hk' => (E6_8.out) k hk (List.mem_append_right _ hk'))
  have P3 := P2.only u2 (fun hm => by have := Q8.out _ (List.mem_append_right _ hm); omega)
  have G3 := G2.trans (u2.more (fun k hk => by simp [hk]))
  clear u2 P2 G2
  go_wp2
  go_ret
  exact ⟨m8, rfl, ⟨_, h5, U5.out⟩, ⟨_, h6, U6.out⟩, h8, U8.out, T8.out, G3⟩
structure Pl where
  P : Int
  party : Int
  input : Int
  mask : Int
  delta : Int
  shares : List Int
  keys : List Int
  step : Int
  heard : List (List Int)
  status : Int
  out : Int
structure PlX where
  sa : Option Addr
  sn : Nat
  sc : Nat
  ka : Option Addr
  kn : Nat
  kc : Nat
  ha : Option Addr
  hn : Nat
  hc : Nat
def PlR (w : World) (x : PlX) (s k : List Int) (h : List (List Int)) : Prop :=
  Flat 2 w x.sa x.sn x.sc s ∧ Ints w x.ka x.kn x.kc k ∧ ∃ rs, IntSS w x.ha x.hn x.hc rs ∧ datas' rs = h
def PlO (w : World) (b : Nat) (x : PlX) (s k : List Int) (h : List (List Int)) (F : List Nat) : Prop :=
  OwnF 2 eTagged w b x.sa x.sn x.sc s ∧ Own w b x.ka x.kn x.kc k ∧ ∃ rs, OwnSS w b x.ha x.hn x.hc rs ∧ datas' rs = h ∧
    Disj (foot x.sa x.sc) (foot x.ka x.kc) ∧ Disj (foot x.sa x.sc) (feetSS x.ha x.hc rs) ∧ Disj (foot x.ka x.kc) (feetSS x.ha x.hc rs) ∧ F = foot x.sa x.sc ++ (foot x.ka x.kc ++ feetSS x.ha x.hc rs)
theorem PlR.below {w w' x s k h} (p : PlR w x s k h) (hb : Below w.heap.size w w') : PlR w' x s k h := by
  obtain ⟨p1, p2, rs, p3, p4⟩ := p
  exact ⟨p1.below hb, p2.below hb, rs, p3.below hb, p4⟩
theorem PlR.alloc {w x s k h} (p : PlR w x s k h) (o : Obj) : PlR (w.alloc o) x s k h := p.below ((Below.refl _ _).alloc (Nat.le_refl _) _)
theorem PlR.drew {w x s k h} (p : PlR w x s k h) : PlR w.drew x s k h := p.below ((Below.refl _ _).drew)
theorem PlO.rd {w b x s k h F} (p : PlO w b x s k h F) : PlR w x s k h := by
  obtain ⟨p1, p2, rs, p3, p4, _⟩ := p
  exact ⟨p1.flat, p2.ints, rs, p3.reads, p4⟩
theorem PlO.feet {w b x s k h F} (p : PlO w b x s k h F) : ∀ q ∈ F, b ≤ q ∧ q < w.heap.size := by
  obtain ⟨p1, p2, rs, p3, _, _, _, _, rfl⟩ := p
  intro q hq
  rcases List.mem_append.1 hq with hq | hq
  · exact p1.feet q hq
  · rcases List.mem_append.1 hq with hq | hq
    · exact p2.feet q hq
    · exact p3.feet q hq
theorem PlO.only {X : List Nat} {w w' b x s k h F} (p : PlO w b x s k h F) (ho : Only X w w') (hd : Disj F X) : PlO w' b x s k h F := by
  obtain ⟨p1, p2, rs, p3, p4, d1, d2, d3, rfl⟩ := p
  exact ⟨p1.only ho (fun q hq => hd q (List.mem_append_left _ hq)), p2.only ho (fun q hq => hd q (List.mem_append_right _ (List.mem_append_left _ hq))), rs,
    p3.only ho (fun q hq => hd q (List.mem_append_right _ (List.mem_append_right _ hq))), p4, d1, d2, d3, rfl⟩
theorem PlO.below {w w' b x s k h F} (p : PlO w b x s k h F) (hb : Below w.heap.size w w') : PlO w' b x s k h F := by
  obtain ⟨p1, p2, rs, p3, p4⟩ := p
  exact ⟨p1.below hb, p2.below hb, rs, p3.below hb, p4⟩
theorem PlO.alloc {w b x s k h F} (p : PlO w b x s k h F) (o : Obj) : PlO (w.alloc o) b x s k h F := p.below ((Below.refl _ _).alloc (Nat.le_refl _) _)
theorem PlO.drew {w b x s k h F} (p : PlO w b x s k h F) : PlO w.drew b x s k h F := p.below ((Below.refl _ _).drew)
theorem PlO.lower {w b b' x s k h F} (p : PlO w b x s k h F) (hb : b' ≤ b) : PlO w b' x s k h F := by
  obtain ⟨p1, p2, rs, p3, p4⟩ := p
  exact ⟨p1.lower hb, p2.lower hb, rs, p3.lower hb, p4⟩
def totL (h : List (List Int)) : Nat := (h.map List.length).sum
theorem tot_totL {rs : List RowD} {h : List (List Int)} (e : datas' rs = h) : tot rs = totL h := by rw [tot_datas, e]; rfl
def szP (x : PlX) (_s _k : List Int) (h : List (List Int)) : Nat := x.sn + x.kn + (x.hn + totL h)
def cntP (s k : List Int) (h : List (List Int)) : Nat := s.length + k.length + totL h
def UpP (k0 : Int) (s k : List Int) (h : List (List Int)) : Prop := UpFrom k0 s ∧ UpFrom (k0 + s.length) k ∧ ∀ j, j < h.length → UpFrom (k0 + s.length + k.length + totL (h.take j)) (h.getD j [])
theorem UpSS.of {rs : List RowD} {h : List (List Int)} {k : Int} (e : datas' rs = h) : UpSS k rs ↔ ∀ j, j < h.length → UpFrom (k + totL (h.take j)) (h.getD j []) := by
  have hl : rs.length = h.length := by rw [← e, datas_len]
  have e1 : ∀ j, totL (h.take j) = tot (rs.take j) := fun j => by rw [← e, tot_datas]; unfold totL datas'; simp only [List.map_take]
  have e2 : ∀ j, j < rs.length → h.getD j [] = (rowAt rs j).2.2 := fun j hj => by
    rw [← e]; unfold datas' rowAt; simp [List.getD, hj]
  unfold UpSS
  constructor
  · intro u j hj
    rw [e1, e2 j (by omega)]
    exact u j (by omega)
  · intro u j hj
    rw [← e1, ← e2 j hj]
    exact u j (by omega)
theorem toPlayer_o (a : Pl) (x : PlX) (w : World) (h : PlR w x a.shares a.keys a.heard) (ht : (szP x a.shares a.keys a.heard : Int) ≤ 1048576) :
    Calls Tryd.prog 15 #[.agg #[.int .i64 a.P, .int .i64 a.party, .int .i64 a.input, .int .i64 a.mask, .int .i64 a.delta, .slice x.sa x.sn x.sc, .slice x.ka x.kn x.kc, .int .i64 a.step, .slice x.ha x.hn x.hc, .int .i64 a.status, .int .i64 a.out]] w fun e w' => ∃ y F, e = .returned (.agg #[.int .i64 a.P, .int .i64 a.party, .int .i64 a.input, .int .i64 a.mask, .int .i64 a.delta, .slice y.sa y.sn y.sc, .slice y.ka y.kn y.kc, .int .i64 a.step, .slice y.ha y.hn y.hc, .int .i64 a.status, .int .i64 a.out]) ∧ PlO w' w.heap.size y a.shares a.keys a.heard F ∧ Below w.heap.size w w' := by
  obtain ⟨h1, h2, rs, h3, h4⟩ := h
  have hT := tot_totL h4
  unfold szP at ht
  refine (toPlayer_any _ _ _ _ _ _ _ _ _ _ _ _ _ _ _ _ _ rs _ _ w h1 h2 h3 (by omega) (by omega) (by omega) (fun r hr => by have := tot_ge rs r hr; omega)).mono ?_
  rintro e w' ⟨b5, d5, b6, d6, b8, d8, q8, rfl, o5, o6, o8, hd, D1, D2, D3, u⟩
  exact ⟨⟨b5, x.sn, d5, b6, x.kn, d6, b8, x.hn, d8⟩, _, rfl, ⟨o5, o6, q8, o8, hd.trans h4, D1, D2, D3, rfl⟩, u⟩
theorem szPlayer_o_yes (a : Pl) (x : PlX) (left : Int) (w : World) (h : PlR w x a.shares a.keys a.heard) (h0 : left ≤ 1048576) (h1 : (szP x a.shares a.keys a.heard : Int) ≤ left) :
    Calls Tryd.prog 13 #[.agg #[.int .i64 a.P, .int .i64 a.party, .int .i64 a.input, .int .i64 a.mask, .int .i64 a.delta, .slice x.sa x.sn x.sc, .slice x.ka x.kn x.kc, .int .i64 a.step, .slice x.ha x.hn x.hc, .int .i64 a.status, .int .i64 a.out], .int .i64 left] w fun e w' => e = .returned (.int .i64 (left - szP x a.shares a.keys a.heard)) ∧ Below w.heap.size w w' := by
  obtain ⟨r1, r2, rs, r3, r4⟩ := h
  have hT := tot_totL r4
  unfold szP at h1 ⊢
  refine (szPlayer_yes _ _ _ _ _ _ _ _ _ _ _ _ _ _ _ rs _ _ left w r1.le r2.le r3 h0 (by omega)).mono ?_
  rintro e w' ⟨rfl, u⟩
  exact ⟨ret_int (by omega), u⟩
theorem szPlayer_o_no (a : Pl) (x : PlX) (left : Int) (w : World) (h : PlR w x a.shares a.keys a.heard) (hz : 0 ≤ left) (h0 : left ≤ 1048576) (h1 : ¬ (szP x a.shares a.keys a.heard : Int) ≤ left) :
    Calls Tryd.prog 13 #[.agg #[.int .i64 a.P, .int .i64 a.party, .int .i64 a.input, .int .i64 a.mask, .int .i64 a.delta, .slice x.sa x.sn x.sc, .slice x.ka x.kn x.kc, .int .i64 a.step, .slice x.ha x.hn x.hc, .int .i64 a.status, .int .i64 a.out], .int .i64 left] w fun e w' => e = .returned (.int .i64 (-1)) ∧ Below w.heap.size w w' := by
  obtain ⟨r1, r2, rs, r3, r4⟩ := h
  have hT := tot_totL r4
  unfold szP at h1
  exact szPlayer_no _ _ _ _ _ _ _ _ _ _ _ _ _ _ _ rs _ _ left w r1.le r2.le r3 hz h0 (by omega)
theorem eqPlayer_o (a : Pl) (x y : PlX) (w : World) (h : PlR w x a.shares a.keys a.heard) (h' : PlR w y a.shares a.keys a.heard) :
    Calls Tryd.prog 17 #[.agg #[.int .i64 a.P, .int .i64 a.party, .int .i64 a.input, .int .i64 a.mask, .int .i64 a.delta, .slice x.sa x.sn x.sc, .slice x.ka x.kn x.kc, .int .i64 a.step, .slice x.ha x.hn x.hc, .int .i64 a.status, .int .i64 a.out], .agg #[.int .i64 a.P, .int .i64 a.party, .int .i64 a.input, .int .i64 a.mask, .int .i64 a.delta, .slice y.sa y.sn y.sc, .slice y.ka y.kn y.kc, .int .i64 a.step, .slice y.ha y.hn y.hc, .int .i64 a.status, .int .i64 a.out]] w fun e w' => e = .returned (.bool true) ∧ Below w.heap.size w w' := by
  obtain ⟨r1, r2, rs, r3, r4⟩ := h
  obtain ⟨t1, t2, ts, t3, t4⟩ := h'
  exact eqPlayer_same _ _ _ _ _ _ _ _ _ _ _ _ _ _ _ _ _ _ _ _ _ _ _ _ _ _ rs ts (r4.trans t4.symm) _ _ w r1 t1 r2 t2 r3 t3
theorem markPlayer_o (a : Pl) (x : PlX) (s k : List Int) (h : List (List Int)) (F : List Nat) (b : Nat) (k0 : Int) (w : World) (p : PlO w b x s k h F) (hk : 0 ≤ k0) (hk2 : k0 + cntP s k h ≤ 4000000000000000000) :
    Calls Tryd.prog 23 #[.agg #[.int .i64 a.P, .int .i64 a.party, .int .i64 a.input, .int .i64 a.mask, .int .i64 a.delta, .slice x.sa x.sn x.sc, .slice x.ka x.kn x.kc, .int .i64 a.step, .slice x.ha x.hn x.hc, .int .i64 a.status, .int .i64 a.out], .int .i64 k0] w fun e w' => ∃ s' k' h', e = .returned (.int .i64 (k0 + cntP s' k' h')) ∧ PlO w' b x s' k' h' F ∧ UpP k0 s' k' h' ∧ cntP s' k' h' = cntP s k h ∧ Only F w w' := by
  obtain ⟨p1, p2, rs, p3, p4, d1, d2, d3, rfl⟩ := p
  have l1 := p1.len
  have l2 := p2.len
  have hT := tot_totL p4
  unfold cntP at hk2
  refine (markPlayer_any _ _ _ _ _ _ _ _ _ _ _ _ _ _ _ _ _ rs _ _ b b b k0 w p1 p2 p3 d1 d2 d3 hk (by omega)).mono ?_
  rintro e w' ⟨m8, rfl, ⟨s', o5, u5⟩, ⟨k', o6, u6⟩, o8, u8, ⟨T, RF⟩, G⟩
  have n1 := o5.len
  have n2 := o6.len
  have hM := tot_totL (rs := m8) rfl
  have FE : feetSS x.ha x.hc m8 = feetSS x.ha x.hc rs := by unfold feetSS; rw [RF]
  have e1 : k0 + 2 * (x.sn : Int) = k0 + (s'.length : Int) := by omega
  have e2 : k0 + 2 * (x.sn : Int) + (x.kn : Int) = k0 + (s'.length : Int) + (k'.length : Int) := by omega
  refine ⟨s', k', datas' m8, ret_int (by unfold cntP; omega), ⟨o5, o6, m8, o8, rfl, d1, by rw [FE]; exact d2, by rw [FE]; exact d3, by rw [FE]⟩, ⟨u5, by rw [← e1]; exact u6, ?_⟩, by unfold cntP; omega, G.more ?_⟩
  · rw [e2] at u8
    exact (UpSS.of rfl).1 u8
  · intro q hq
    rcases List.mem_append.1 hq with hq | hq
    · rcases List.mem_append.1 hq with hq | hq
      · exact List.mem_append_left _ hq
      · exact List.mem_append_right _ (List.mem_append_left _ hq)
    · exact List.mem_append_right _ (List.mem_append_right _ (List.mem_append_right _ hq))
theorem PlR.cnt {w x s k h} (p : PlR w x s k h) (ht : (szP x s k h : Int) ≤ 1048576) : cntP s k h ≤ 4000000 := by
  obtain ⟨p1, p2, rs, p3, p4⟩ := p
  have l1 := p1.len
  have l2 := p2.len
  unfold szP at ht
  unfold cntP
  omega
end Go.Proofs.YtlmdckcohoddnaaDoor
