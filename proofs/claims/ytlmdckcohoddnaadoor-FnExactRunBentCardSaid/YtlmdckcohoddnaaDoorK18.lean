/- Lemmas and walks that the claim's proof rests on, part 18. -/
import Derived.Deep.Slices
import Derived.Deep.Fields
import Derived.ChangeSame
import Derived.ProofKit
import Derived.Test.YtlmdckcohoddnaaDoorK2
import Derived.Test.YtlmdckcohoddnaaDoorK3
import Derived.Test.YtlmdckcohoddnaaDoorK17
namespace Go.Proofs.YtlmdckcohoddnaaDoor
open Go.RowKit
theorem two_runS {a b : Pl} (h : twoB a b = true) : RunS 0 a b := by
  obtain ⟨h1, h2, _, _, _, h3, h4, h5, h6⟩ := twoB_parts h
  exact ⟨PlN.of h1, PlN.of h2, h3, h4, h5, h6⟩
theorem zero_cnt : cntP zeroPl.shares zeroPl.keys zeroPl.heard ≤ 100 := by decide
end Go.Proofs.YtlmdckcohoddnaaDoor
namespace Go.Proofs.YtlmdckcohoddnaaDoor
open Go.ChangeShapes Go.WideShapes Go.Deep Go.RowKit
section
variable {H : Type} {enc : TypeId × Value → H} {P : Program} {w : World} {base : Nat} {spare : Nat → Bool} {held : Bool}
theorem open_struct {r : Reach} {b0 : Nat} {t : TypeId} {fs : Array Field} {v : Value} {d : DataW H} {p : List MemPlace} (hs : P.underlying t = some (.struct fs)) (hone : oneCellFields P fs = true) (hC : P.cellsOf t = fs.size)
    (hv : Value.okWide P w r b0 t v) (h : DataW.Trod enc P w base spare held t v d p) :
    ∃ (vs : List Value) (n : Nat), v = .agg vs.toArray ∧ vs.length = fs.size ∧ ∀ (j : Nat) (f : Field), fs[j]? = some f → ∃ u y, vs[j]? = some u ∧ DataW.trod enc P w base spare held n f.type [u] = some y := by
  obtain ⟨cs, rfl, hsz⟩ := okWide_struct hs hv
  obtain ⟨fuel, hf⟩ := h
  obtain ⟨ys, n, _, _, _, hyl, hg⟩ := DataW.trod_struct hs hf
  refine ⟨cs.toList, n, rfl, by simp [hsz, hC], fun j f hj => ?_⟩
  obtain ⟨ho, hk⟩ := hone_of hone j f hj
  have hjl : j < fs.size := (Array.getElem?_eq_some_iff.1 hj).1
  have hcl : j < cs.toList.length := by simp [hsz, hC, hjl]
  have h1 := hg j f hj
  rw [ho, hk] at h1
  have hone' : ((Value.agg cs).cells.toList.drop j).take 1 = [cs.toList[j]] := by
    show (cs.toList.drop j).take 1 = _
    rw [List.drop_eq_getElem_cons hcl]
    rfl
  rw [hone'] at h1
  have hys : ys[j]? = some (ys[j]'(by omega)) := List.getElem?_eq_getElem (by omega)
  exact ⟨_, _, List.getElem?_eq_getElem hcl, h1.trans hys⟩
theorem field_int {t : TypeId} {k : IntKind} {n : Nat} {u : Value} {y : DataW H × List MemPlace} (ht : P.underlying t = some (.int k)) (h : DataW.trod enc P w base spare held n t [u] = some y) : ∃ x, u = .int k x ∧ (Lit.int k x).wf = true := by
  obtain ⟨x, h1, _, h3⟩ := DataW.trod_int ht h
  simp at h1
  exact ⟨x, h1, h3⟩
theorem field_ints {t e : TypeId} {n : Nat} {u : Value} {y : DataW H × List MemPlace} (ht : P.underlying t = some (.slice e)) (he : P.underlying e = some (.int .i64)) (hc : P.cellsOf e = 1) (h : DataW.trod enc P w base (fun _ => true) held n t [u] = some y) :
    ∃ a m c l, u = .slice a m c ∧ Ints w a m c l ∧ Wf l := by
  rcases open_ints ht he hc h with ⟨hcs, _⟩ | ⟨x, l, c, zs, hcs, _, hl, hm, hz, _, hcell, hwz⟩
  · simp at hcs
    exact ⟨none, 0, 0, [], hcs, Ints.nil0 w, fun x hx => by cases hx⟩
  · simp at hcs
    exact ⟨some x, l, c, zs.take l, hcs, Ints.of_row hl hm (by simpa using hz) hcell, fun x hx => wf_range (hwz x (List.mem_of_mem_take hx))⟩
/-- The number in a cell. -/
def cellI (w : World) (a : Addr) (q : Nat) : Int := match w.cell? (a.add q) with
  | some (.int .i64 x) => x
  | _ => 0
theorem field_flat {t e : TypeId} {fs : Array Field} {n : Nat} {u : Value} {y : DataW H × List MemPlace} (ht : P.underlying t = some (.slice e)) (he : P.underlying e = some (.struct fs)) (hone : oneCellFields P fs = true) (hC : P.cellsOf e = fs.size)
    (hpos : 0 < fs.size) (hint : ∀ (j : Nat) (f : Field), fs[j]? = some f → P.underlying f.type = some (.int .i64)) (h : DataW.trod enc P w base (fun _ => true) held n t [u] = some y) :
    ∃ a m c l, u = .slice a m c ∧ Flat fs.size w a m c l ∧ Wf l := by
  rcases open_slice ht h with ⟨hcs, _⟩ | ⟨x, l, c, m, n1, _, _, hcs, _, hl, hm, hmm, _, hi⟩
  · simp at hcs
    exact ⟨none, 0, 0, [], hcs, ⟨by simp, Nat.le_refl _, Nat.zero_le _, fun _ => rfl, 0, 0, fun h => absurd h (by omega), fun i u hu => by simp at hu⟩, fun x hx => by cases hx⟩
  · simp at hcs hmm
    subst hmm
    have each : ∀ q, q < l * fs.size → w.cell? (x.add q) = some (.int .i64 (cellI w x q)) ∧ (Lit.int .i64 (cellI w x q)).wf = true := fun q hq => by
      have hq1 : q / fs.size < m := Nat.lt_of_lt_of_le (Nat.div_lt_of_lt_mul (by rw [Nat.mul_comm]; exact hq)) hl
      have hq2 : q % fs.size < fs.size := Nat.mod_lt _ hpos
      have hfq := Array.getElem?_eq_getElem hq2
      obtain ⟨es, hes, hte⟩ := hi _ hq1
      obtain ⟨_, hel, hea⟩ := World.cells?_some hes
      obtain ⟨gs, _, _, _, _, hgl, hg⟩ := DataW.trod_struct he hte
      obtain ⟨ho, hk⟩ := hone_of hone _ _ hfq
      have hin : q % fs.size < es.length := by rw [hel, hC]; exact hq2
      have hy := hg _ _ hfq
      rw [ho, hk, List.drop_eq_getElem_cons hin, List.take_succ_cons, List.take_zero, List.getElem?_eq_getElem (show q % fs.size < gs.length by omega)] at hy
      have hc := hea _ (show q % fs.size < P.cellsOf e by rw [hC]; exact hq2)
      rw [Go.Deep.add_add, hC, Nat.div_add_mod', List.getElem?_eq_getElem hin] at hc
      obtain ⟨z, hz0, hz⟩ := field_int (hint _ _ hfq) hy
      rw [hz0] at hc
      have : cellI w x q = z := by unfold cellI; rw [hc]
      rw [this]
      exact ⟨hc, hz⟩
    have hcell : ∀ i, i < ((List.range (l * fs.size)).map (cellI w x)).length → w.cell? (x.add i) = some (.int .i64 (((List.range (l * fs.size)).map (cellI w x)).getD i 0)) := fun i hi => by
      simp at hi
      rw [(each i hi).1]
      simp [List.getD, hi]
    refine ⟨some x, l, m, (List.range (l * fs.size)).map (cellI w x), hcs, ?_, fun z hz => ?_⟩
    · refine ⟨by simp, hl, hm, fun h => (by cases h), ?_⟩
      by_cases h0 : 0 < l * fs.size
      · obtain ⟨b, off, rfl, hc⟩ := ints_at hcell (by simpa using h0)
        refine ⟨b, off, fun _ => rfl, fun i u hu => ?_⟩
        rw [List.getElem?_map] at hu
        obtain ⟨z, hz, rfl⟩ := Option.map_eq_some_iff.1 hu
        have hil := (List.getElem?_eq_some_iff.1 hz).1
        rw [hc i hil]
        simp [List.getD, hz]
      · have hl0 : l = 0 := by
          rcases Nat.eq_zero_or_pos l with h | h
          · exact h
          · exact absurd (Nat.mul_pos h hpos) h0
        subst hl0
        exact ⟨0, 0, fun h => absurd h (by omega), fun i u hu => by simp at hu⟩
    · obtain ⟨q, hq, rfl⟩ := List.mem_map.1 hz
      exact wf_range (each q (List.mem_range.1 hq)).2
end
theorem list11 {l : List Value} (h : l.length = 11) : ∃ a b c d e f g h i j k, l = [a, b, c, d, e, f, g, h, i, j, k] := by
  match l, h with
  | [a, b, c, d, e, f, g, h, i, j, k], _ => exact ⟨a, b, c, d, e, f, g, h, i, j, k, rfl⟩
end Go.Proofs.YtlmdckcohoddnaaDoor
namespace Go.Proofs.YtlmdckcohoddnaaDoor
open Go.ChangeShapes Go.WideShapes Go.Deep Go.RowKit
section
variable {H : Type} {enc : TypeId × Value → H} {P : Program} {w : World} {base : Nat} {held : Bool}
theorem chunk {xs : List Value} {es : List Value} {i sz : Nat} (he : es.length = sz) (h : ∀ j, j < sz → xs[i + j]? = es[j]?) : (xs.drop i).take sz = es := by
  apply List.ext_getElem?
  intro j
  by_cases hj : j < sz
  · rw [List.getElem?_take_of_lt hj, List.getElem?_drop, h j hj]
  · rw [List.getElem?_eq_none (by simp; omega), List.getElem?_eq_none (by omega)]
theorem field_row {t e sz : Nat} {n : Nat} {u : Value} {y : DataW H × List MemPlace} (ht : P.underlying t = some (.slice e)) (hC : P.cellsOf e = sz) (hpos : 0 < sz) (h : DataW.trod enc P w base (fun _ => true) held n t [u] = some y) :
    ∃ a m c xs k, u = .slice a m c ∧ RowC w a m c sz xs ∧ ∀ q, q < m → ∃ z, DataW.trod enc P w base (fun _ => true) held k e ((xs.drop (q * sz)).take sz) = some z := by
  rcases open_slice ht h with ⟨hcs, _⟩ | ⟨x, l, c, m, n1, _, _, hcs, _, hl, hm, hmm, _, hi⟩
  · simp at hcs
    exact ⟨none, 0, 0, [], 0, hcs, ⟨by simp, Nat.le_refl _, Nat.zero_le _, fun _ => rfl, 0, 0, fun h => absurd h (by omega), fun i u hu => by simp at hu⟩, fun q hq => absurd hq (by omega)⟩
  · simp at hcs hmm
    subst hmm
    have each : ∀ q j, q < l → j < sz → ∃ es, DataW.trod enc P w base (fun _ => true) held n1 e es = some (‹Nat → DataW H› q, ‹Nat → List MemPlace› q) ∧ es.length = sz ∧ w.cell? (x.add (q * sz + j)) = es[j]? := fun q j hq hj => by
      obtain ⟨es, hes, hte⟩ := hi q (by omega)
      obtain ⟨_, hel, hea⟩ := World.cells?_some hes
      rw [hC] at hel hea
      have hc := hea j hj
      rw [Go.Deep.add_add] at hc
      exact ⟨es, hte, hel, hc⟩
    have some_ : ∀ i, i < l * sz → ∃ v, w.cell? (x.add i) = some v := fun i h => by
      have hq : i / sz < l := Nat.div_lt_of_lt_mul (by rw [Nat.mul_comm]; exact h)
      obtain ⟨es, _, hl2, hc⟩ := each (i / sz) (i % sz) hq (Nat.mod_lt _ hpos)
      rw [Nat.div_add_mod'] at hc
      have : i % sz < es.length := by rw [hl2]; exact Nat.mod_lt _ hpos
      exact ⟨_, by rw [hc, List.getElem?_eq_getElem this]⟩
    let xs : List Value := (List.range (l * sz)).map fun i => (w.cell? (x.add i)).getD (.bool false)
    have hxs : ∀ i, i < l * sz → xs[i]? = w.cell? (x.add i) := fun i hi => by
      obtain ⟨v, hv⟩ := some_ i hi
      show ((List.range (l * sz)).map _)[i]? = _
      rw [List.getElem?_map, List.getElem?_range hi, Option.map_some, hv]
      rfl
    have hxl : xs.length = l * sz := by show ((List.range (l * sz)).map _).length = _; simp
    refine ⟨some x, l, m, xs, n1, hcs, ⟨hxl, hl, hm, (fun h => by cases h), ?_⟩, fun q hq => ?_⟩
    · by_cases h0 : 0 < l * sz
      · obtain ⟨v, hv⟩ := some_ 0 h0
        obtain ⟨b, off, spot⟩ := x
        have hspot : spot = none := by simpa [Addr.add] using World.cell?_spot hv
        subst hspot
        refine ⟨b, off, fun _ => rfl, fun i u hu => ?_⟩
        have hil : i < l * sz := by rw [← hxl]; exact (List.getElem?_eq_some_iff.1 hu).1
        rw [← Go.WideShapes.add_plain, ← hxs i hil]
        exact hu
      · have hl0 : l = 0 := by
          rcases Nat.eq_zero_or_pos l with h | h
          · exact h
          · exact absurd (Nat.mul_pos h hpos) h0
        subst hl0
        exact ⟨0, 0, fun h => absurd h (by omega), fun i u hu => by have := (List.getElem?_eq_some_iff.1 hu).1; rw [hxl] at this; omega⟩
    · obtain ⟨es, hes, hte⟩ := hi q (by omega)
      obtain ⟨_, hel, hea⟩ := World.cells?_some hes
      rw [hC] at hel hea
      have : (xs.drop (q * sz)).take sz = es := chunk hel (fun j hj => by
        have hlt : q * sz + j < l * sz := by
          have : (q + 1) * sz ≤ l * sz := Nat.mul_le_mul_right _ hq
          rw [Nat.add_mul] at this
          omega
        rw [hxs _ hlt, ← hea j hj, Go.Deep.add_add])
      rw [this]
      exact ⟨_, hte⟩
theorem field_intss {t e e2 : TypeId} {n : Nat} {u : Value} {y : DataW H × List MemPlace} (ht : P.underlying t = some (.slice e)) (hC : P.cellsOf e = 1) (he : P.underlying e = some (.slice e2)) (he2 : P.underlying e2 = some (.int .i64)) (hc2 : P.cellsOf e2 = 1)
    (h : DataW.trod enc P w base (fun _ => true) held n t [u] = some y) : ∃ a m c rs, u = .slice a m c ∧ IntSS w a m c rs ∧ ∀ r ∈ rs, Wf r.2.2 := by
  obtain ⟨a, m, c, xs, k, rfl, hr, hi⟩ := field_row ht hC (by decide) h
  have hxl := hr.1
  have each : ∀ q, q < m → ∃ r : RowD, xs[q]? = some (rowV r) ∧ Ints w r.1 r.2.2.length r.2.1 r.2.2 ∧ Wf r.2.2 := fun q hq => by
    obtain ⟨z, hz⟩ := hi q hq
    have hlt : q < xs.length := by omega
    rw [Nat.mul_one, List.drop_eq_getElem_cons hlt, List.take_succ_cons, List.take_zero] at hz
    obtain ⟨b, m2, d, l, hu, hI, hw⟩ := field_ints he he2 hc2 hz
    obtain rfl := hI.len
    exact ⟨(b, d, l), by rw [List.getElem?_eq_getElem hlt, hu]; rfl, hI, hw⟩
  obtain ⟨R, hR⟩ := choose_lt (α := RowD) (p := fun q r => xs[q]? = some (rowV r) ∧ Ints w r.1 r.2.2.length r.2.1 r.2.2 ∧ Wf r.2.2) each
  refine ⟨a, m, c, (List.range m).map R, rfl, ⟨?_, fun r hr' => ?_⟩, fun r hr' => ?_⟩
  · have : ((List.range m).map R).map rowV = xs := by
      apply List.ext_getElem?
      intro q
      by_cases hq : q < m
      · rw [(hR q hq).1]; simp [hq]
      · rw [List.getElem?_eq_none (by simp; omega), List.getElem?_eq_none (by omega)]
    rw [this]
    exact hr
  · obtain ⟨q, hq, rfl⟩ := List.mem_map.1 hr'
    exact (hR q (List.mem_range.1 hq)).2.1
  · obtain ⟨q, hq, rfl⟩ := List.mem_map.1 hr'
    exact (hR q (List.mem_range.1 hq)).2.2
end
end Go.Proofs.YtlmdckcohoddnaaDoor
