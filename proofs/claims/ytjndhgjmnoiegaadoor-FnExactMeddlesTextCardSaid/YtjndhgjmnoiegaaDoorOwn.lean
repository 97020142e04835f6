/- Rows that a call made itself (OwnC, Own), rows that are read (RowC); append as one law; the laws' own helpers on slices of integers. -/
import Derived.Test.YtjndhgjmnoiegaaDoorInts
import Derived.ArgAppend
namespace Go.Proofs.YtjndhgjmnoiegaaDoor
open Go.RowKit

/-- The block that a row with room may be written in. -/
def rowOf (a : Option Addr) (c : Nat) : Option Nat := if c = 0 then none else a.map Addr.block

/-- The slice (a, n, c) of elements of sz cells reads as the cells xs. -/
def RowC (w : World) (a : Option Addr) (n c sz : Nat) (xs : List Value) : Prop :=
  xs.length = n * sz ∧ n ≤ c ∧ c ≤ maxLen ∧ (a = none → c = 0) ∧ ∃ g o, (0 < n → a = some ⟨g, o, none⟩) ∧ ∀ i u, xs[i]? = some u → w.cell? ⟨g, o + i, none⟩ = some u

/-- The slice (a, n, c) owns the cells xs, in a block from b on (if it has any room at all). -/
def OwnC (w : World) (b : Nat) (a : Option Addr) (n c e sz : Nat) (xs : List Value) : Prop :=
  xs.length = n * sz ∧ n ≤ c ∧ c ≤ maxLen ∧ (a = none → c = 0) ∧
  (0 < c → ∃ g cur, a = some ⟨g, 0, none⟩ ∧ b ≤ g ∧ w.heap[g]? = some (.cells cur e (0, 0)) ∧ cur.size = c * sz ∧ cur.toList.take (n * sz) = xs)

theorem OwnC.below {w w' b a n c e sz xs} (h : OwnC w b a n c e sz xs) (hb : Below w.heap.size w w') : OwnC w' b a n c e sz xs :=
  ⟨h.1, h.2.1, h.2.2.1, h.2.2.2.1, fun hc => by
    obtain ⟨g, cur, h1, h2, h3, h4⟩ := h.2.2.2.2 hc
    exact ⟨g, cur, h1, h2, by rw [hb.block g (Array.getElem?_eq_some_iff.1 h3).1]; exact h3, h4⟩⟩
theorem OwnC.lower {w b b' a n c e sz xs} (h : OwnC w b a n c e sz xs) (hb : b' ≤ b) : OwnC w b' a n c e sz xs :=
  ⟨h.1, h.2.1, h.2.2.1, h.2.2.2.1, fun hc => by
    obtain ⟨g, cur, h1, h2, h3⟩ := h.2.2.2.2 hc
    exact ⟨g, cur, h1, by omega, h3⟩⟩
/-- Two rows with room lie in different blocks. -/
def Apart (a : Option Addr) (c : Nat) (a' : Option Addr) (c' : Nat) : Prop := ∀ x y, 0 < c → 0 < c' → a = some x → a' = some y → x.block ≠ y.block
theorem Apart.symm {a c a' c'} (h : Apart a c a' c') : Apart a' c' a c := fun x y h1 h2 hx hy => (h y x h2 h1 hy hx).symm
theorem rowOf_ne {g : Nat} {a' : Option Addr} {c' : Nat} (h : ∀ y, 0 < c' → a' = some y → g ≠ y.block) : some g ≠ rowOf a' c' := by
  unfold rowOf
  intro e
  split at e
  · cases e
  · cases a' with
    | none => simp at e
    | some y => simp at e; exact h y (by omega) rfl e
theorem OwnC.grown {w w' : World} {b a n c e sz xs} {a' : Option Addr} {c' : Nat} (h : OwnC w b a n c e sz xs) (hg : w.grownBy w' (rowOf a' c')) (hd : Apart a c a' c') : OwnC w' b a n c e sz xs :=
  ⟨h.1, h.2.1, h.2.2.1, h.2.2.2.1, fun hc => by
    obtain ⟨g, cur, h1, h2, h3, h4⟩ := h.2.2.2.2 hc
    exact ⟨g, cur, h1, h2, by rw [hg.block g (Array.getElem?_eq_some_iff.1 h3).1 (rowOf_ne fun y hc' hy => hd _ _ hc hc' h1 hy)]; exact h3, h4⟩⟩
theorem OwnC.range {w b a n c e sz xs} (h : OwnC w b a n c e sz xs) : ∀ x, 0 < c → a = some x → b ≤ x.block ∧ x.block < w.heap.size := by
  intro x hc hx
  obtain ⟨g, cur, h1, h2, h3, _⟩ := h.2.2.2.2 hc
  rw [h1] at hx; cases hx
  exact ⟨h2, (Array.getElem?_eq_some_iff.1 h3).1⟩
theorem OwnC.apart {w w' : World} {b b' a n c e sz xs a' n' c' e' sz' xs'} (h : OwnC w b a n c e sz xs) (h' : OwnC w' b' a' n' c' e' sz' xs') (hb : w.heap.size ≤ b') : Apart a c a' c' := fun x y hc hc' hx hy => by
  have := (h.range x hc hx).2; have := (h'.range y hc' hy).1; omega
theorem OwnC.nil0 (w : World) (b e sz : Nat) (a : Option Addr) : OwnC w b a 0 0 e sz [] := ⟨by simp, Nat.le_refl _, Nat.zero_le _, fun _ => rfl, fun h => absurd h (by omega)⟩
theorem OwnC.lit (w : World) (b n e sz : Nat) (xs : List Value) (hb : b ≤ w.heap.size) (hn : xs.length = n * sz) (hm : n ≤ maxLen) : OwnC (w.alloc (.cells xs.toArray e)) b (some ⟨w.heap.size, 0, none⟩) n n e sz xs :=
  ⟨hn, Nat.le_refl _, hm, fun h => (by cases h), fun _ => ⟨w.heap.size, xs.toArray, rfl, hb, heap_alloc_new w _, by simp [hn], by rw [← hn]; simp⟩⟩
theorem OwnC.of_owns {w b e sz v n xs} (h : w.ownsRow b e sz v n xs) : ∃ a c, v = .slice a n c ∧ OwnC w b a n c e sz xs := by
  rcases h.2 with ⟨h1, h2⟩ | ⟨g, cap, cur, h1, h2, h3, h4, h5, h6, h7⟩
  · subst h2
    have : xs = [] := List.eq_nil_of_length_eq_zero (by simpa using h.1)
    subst this
    exact ⟨_, _, h1, OwnC.nil0 _ _ _ _ _⟩
  · exact ⟨_, _, h1, h.1, h4, h5, fun h => (by cases h), fun _ => ⟨g, cur, rfl, h2, h3, h6, h7⟩⟩
theorem OwnC.owns {w b a n c e sz xs} (h : OwnC w b a n c e sz xs) (hc : 0 < c) : w.ownsRow b e sz (.slice a n c) n xs := by
  obtain ⟨g, cur, h1, h2, h3, h4, h5⟩ := h.2.2.2.2 hc
  exact ⟨h.1, .inr ⟨g, c, cur, by rw [h1], h2, h3, h.2.1, h.2.2.1, h4, h5⟩⟩
theorem OwnC.row {w b a n c e sz xs} (h : OwnC w b a n c e sz xs) : RowC w a n c sz xs := by
  refine ⟨h.1, h.2.1, h.2.2.1, h.2.2.2.1, ?_⟩
  by_cases hc : 0 < c
  · obtain ⟨g, cur, h1, h2, h3, h4, h5⟩ := h.2.2.2.2 hc
    refine ⟨g, 0, fun _ => h1, fun i u hu => ?_⟩
    rw [Nat.zero_add, cell_of_row w g i cur e (0, 0) h3]
    rw [← h5, List.getElem?_take] at hu
    split at hu
    · simpa using hu
    · cases hu
  · have h1 := h.1
    obtain rfl : n = 0 := by have := h.2.1; omega
    have : xs = [] := List.eq_nil_of_length_eq_zero (by simpa using h1)
    subst this
    exact ⟨0, 0, fun h => absurd h (by omega), fun i u hu => by simp at hu⟩
/-- A store into an owned row: its cell k. -/
theorem OwnC.atC {w b a n c e sz xs} (h : OwnC w b a n c e sz xs) (k : Nat) (hk : k < n * sz) : ∃ g, a = some ⟨g, 0, none⟩ ∧ b ≤ g ∧ g < w.heap.size ∧ (∃ u, xs[k]? = some u ∧ w.cell? ⟨g, k, none⟩ = some u) ∧ w.frozen? ⟨g, k, none⟩ = false ∧
    ∀ u, OwnC (w.setCell ⟨g, k, none⟩ u) b (some ⟨g, 0, none⟩) n c e sz (xs.set k u) := by
  have hn : 0 < n := by cases n with
    | zero => simp at hk
    | succ n => omega
  have hc : 0 < c := by have := h.2.1; omega
  obtain ⟨g, cur, h1, h2, h3, h4, h5⟩ := h.2.2.2.2 hc
  have ho := h.owns hc
  subst h1
  have hx : k < xs.length := by rw [h.1]; exact hk
  refine ⟨g, rfl, h2, (Array.getElem?_eq_some_iff.1 h3).1, ⟨xs[k], by simp [hx], by rw [ho.cellAt k hk]; simp [hx]⟩, ho.frozenAt k, fun u => ?_⟩
  obtain ⟨a', c', e', ho'⟩ := OwnC.of_owns (ho.stored k u).1
  cases e'
  exact ho'
theorem RowC.below {w w' a n c sz xs} (h : RowC w a n c sz xs) (hb : Below w.heap.size w w') : RowC w' a n c sz xs := by
  obtain ⟨h1, h2, h3, h4, g, o, h5, h6⟩ := h
  exact ⟨h1, h2, h3, h4, g, o, h5, fun i u hu => by rw [hb.cell (World.block_lt_of_cell? w _ (h6 i u hu))]; exact h6 i u hu⟩

theorem OwnC.prefix_row {w b a n m c e sz xs xs'} (h : OwnC w b a (n + m) c e sz (xs ++ xs')) (hx : xs.length = n * sz) : RowC w a n c sz xs := by
  obtain ⟨h1, h2, h3, h4, g, o, h5, h6⟩ := h.row
  exact ⟨hx, by omega, h3, h4, g, o, fun hn => h5 (by omega), fun i u hu => h6 i u (by
    have hi := (List.getElem?_eq_some_iff.1 hu).1
    rw [List.getElem?_append_left hi]; exact hu)⟩
theorem RowC.keep {w w' a n c sz xs} (h : RowC w a n c sz xs) (hg : w.grownBy w' none) : RowC w' a n c sz xs := by
  obtain ⟨h1, h2, h3, h4, g, o, h5, h6⟩ := h
  exact ⟨h1, h2, h3, h4, g, o, h5, fun i u hu => hg.cell (h6 i u hu) (by simp)⟩
theorem grownBy_some {w w' : World} (h : w.grownBy w' none) (r : Option Nat) : w.grownBy w' r := ⟨h.os, h.tape, h.output, h.size, fun k hk _ => h.block k hk (by simp)⟩

/-- APPEND, WHATEVER THE SHAPES: an owned row, a row that is read (nil, empty or not). The new row is owned, the old one still reads. -/
theorem run_app {P : Program} (w : World) (t ty : TypeId)
    (b e : Nat) (i : TypeInfo) (z : Value) (sz bytes : Nat) (ht : P.underlying t = some (.slice e)) (hi : P.info? e = some i) (hz : i.zero = some z)
    (hsize : i.size = sz) (hby : i.bytes = bytes) (hzs : z.cells.size = sz) (hsz : 0 < sz)
    (a : Option Addr) (n c : Nat) (xs : List Value) (hown : OwnC w b a n c e sz xs)
    (a' : Option Addr) (m c' : Nat) (xs' : List Value) (hrow : RowC w a' m c' sz xs') (h1 : ∀ u ∈ xs', u.oneCell' = true)
    (hbytes : (n + m) * bytes ≤ 140737488355328) (hmax : n + m ≤ maxLen) (hbase : b ≤ w.heap.size) :
    ∃ a2 c2 w', (Builtin.append_ #[t, t] ty #[.slice a n c, .slice a' m c']).run P w = .ok (.slice a2 (n + m) c2) w' ∧ OwnC w' b a2 (n + m) c2 e sz (xs ++ xs') ∧ w.grownBy w' (rowOf a c) ∧ RowC w' a n c sz xs := by
  by_cases hm : m = 0
  · subst hm
    have hx' : xs' = [] := List.eq_nil_of_length_eq_zero (by simpa using hrow.1)
    subst hx'
    have hnc := hown.2.1
    refine ⟨a, c, w, ?_, by simpa using hown, World.grownBy.refl _ _, hown.row⟩
    cases a' with
    | none => cases a <;> simp [Builtin.append_, run_underlying ht, sizeOf, typeInfo, hi, Builtin.lenOf, Builtin.firstCells, hnc, storeCells]
    | some y =>
      have hf := run_firstCells_some (P := P) w i.size 0 y 0 c' [] (by simp) (fun j u hu => by simp at hu)
      cases a <;> simp [Builtin.append_, run_underlying ht, sizeOf, typeInfo, hi, Builtin.lenOf, hf, hnc, storeCells]
  · obtain ⟨hr1, hr2, hr3, hr4, g', o', hr5, hr6⟩ := hrow
    obtain rfl := hr5 (by omega)
    have hadd : ∀ (g o j : Nat), (⟨g, o, none⟩ : Addr).add j = ⟨g, o + j, none⟩ := fun g o j => by unfold Addr.add; split <;> simp_all
    have hnews : ∀ j u, xs'[j]? = some u → w.cell? ((⟨g', o', none⟩ : Addr).add j) = some u := fun j u hu => by rw [hadd]; exact hr6 j u hu
    by_cases hc : 0 < c
    · obtain ⟨g, cur, hag, hbg, hgg, hcs, hct⟩ := hown.2.2.2.2 hc
      have hob := hown.owns hc
      have hro : rowOf a c = some g := by unfold rowOf; rw [if_neg (by omega), hag]; rfl
      subst hag
      by_cases hroom : n + m ≤ c
      · obtain ⟨w', hrun, r1, r2⟩ := run_append_fits (P := P) w b t ty e i sz ht hi hsize g n c xs hob ⟨g', o', none⟩ m c' xs' hr1 hnews h1 hroom
        obtain ⟨a2, c2, e2, h2⟩ := OwnC.of_owns r1
        cases e2
        exact ⟨_, _, w', hrun, h2, by rw [hro]; exact r2, h2.prefix_row hown.1⟩
      · obtain ⟨v', w', hrun, r1, r2⟩ := run_append_arg_grows (P := P) w t ty e i z sz bytes ht hi hz hsize hby hzs hsz ⟨g, 0, none⟩ n c xs hown.1 (fun j u hu => by
          obtain ⟨q1, q2, q3, q4, gg, oo, q5, q6⟩ := hown.row
          have hn0 : 0 < n := by
            have := (List.getElem?_eq_some_iff.1 hu).1
            rw [hown.1] at this
            cases n with
            | zero => simp at this
            | succ n => omega
          have := q5 hn0
          cases this
          rw [hadd]; exact q6 j u hu) ⟨g', o', none⟩ m c' xs' hr1 hnews (by omega) hmax hbytes
        obtain ⟨a2, c2, rfl, h2⟩ := OwnC.of_owns r1
        exact ⟨_, _, w', hrun, h2.lower hbase, grownBy_some r2 _, hown.row.keep r2⟩
    · have hn0 : n = 0 := by have := hown.2.1; omega
      have hc0 : c = 0 := by omega
      subst hn0; subst hc0
      have hxe : xs = [] := List.eq_nil_of_length_eq_zero (by simpa using hown.1)
      subst hxe
      cases a with
      | none =>
        obtain ⟨v', w', hrun, r1, r2, _⟩ := run_append_own (P := P) w w.heap.size t ty e i z sz bytes ht hi hz hsize hby hzs hsz (.slice none 0 0) 0 [] (World.ownsRow_nil w _ e sz) ⟨g', o', none⟩ m c' xs' hr1 hnews h1 hmax hbytes (Nat.le_refl _)
        obtain ⟨a2, c2, rfl, h2⟩ := OwnC.of_owns r1
        exact ⟨_, _, w', hrun, h2.lower hbase, by unfold rowOf; exact r2, hown.row.keep r2⟩
      | some y =>
        obtain ⟨v', w', hrun, r1, r2⟩ := run_append_arg_grows (P := P) w t ty e i z sz bytes ht hi hz hsize hby hzs hsz y 0 0 [] (by simp) (fun j u hu => by simp at hu) ⟨g', o', none⟩ m c' xs' hr1 hnews (by omega) hmax hbytes
        obtain ⟨a2, c2, rfl, h2⟩ := OwnC.of_owns r1
        exact ⟨_, _, w', hrun, h2.lower hbase, grownBy_some r2 _, hown.row.keep r2⟩

/-- The slice (a, n, c) owns the list l of integers in blocks from b on. -/
def Own (w : World) (b : Nat) (a : Option Addr) (n c : Nat) (l : List Int) : Prop := OwnC w b a n c 3 1 (l.map (Value.int .i64))

theorem Own.len {w b a n c l} (h : Own w b a n c l) : n = l.length := by have := h.1; simpa using this.symm
theorem Own.cap {w b a n c l} (h : Own w b a n c l) : n ≤ c ∧ c ≤ maxLen := ⟨h.2.1, h.2.2.1⟩
theorem Ints.rowC {w a n c l} (h : Ints w a n c l) : RowC w a n c 1 (l.map (Value.int .i64)) := by
  obtain ⟨h1, h2, h3, h4, g, o, h5, h6⟩ := h
  refine ⟨by simp [h1], h2, h3, h4, g, o, h5, fun i u hu => ?_⟩
  simp only [List.getElem?_map, Option.map_eq_some_iff] at hu
  obtain ⟨x, hx, rfl⟩ := hu
  have hi : i < l.length := (List.getElem?_eq_some_iff.1 hx).1
  rw [h6 i (by omega)]
  simp [List.getD, hx]
theorem Ints.of_rowC {w a n c} {l : List Int} (h : RowC w a n c 1 (l.map (Value.int .i64))) : Ints w a n c l := by
  obtain ⟨h1, h2, h3, h4, g, o, h5, h6⟩ := h
  have hn : n = l.length := by simpa using h1.symm
  refine ⟨hn, h2, h3, h4, g, o, h5, fun i hi => ?_⟩
  have hl : i < l.length := by omega
  exact h6 i _ (by simp [List.getD, hl])
theorem Ints.cells {w a n c l} (h : Ints w a n c l) (hn : 0 < n) : ∃ g o, a = some ⟨g, o, none⟩ ∧ ∀ k, k < n → w.cell? ⟨g, o + k, none⟩ = some (.int .i64 (l.getD k 0)) := by
  obtain ⟨_, _, _, _, g, o, h1, h2⟩ := h
  exact ⟨g, o, h1 hn, h2⟩
theorem Ints.cellsAt {w g o n c l} (h : Ints w (some ⟨g, o, none⟩) n c l) : ∀ k, k < n → w.cell? ⟨g, o + k, none⟩ = some (.int .i64 (l.getD k 0)) := by
  intro k hk
  obtain ⟨g', o', e, h'⟩ := h.cells (by omega)
  cases e
  exact h' k hk
theorem Own.ints {w b a n c l} (h : Own w b a n c l) : Ints w a n c l := by
  obtain ⟨h1, h2, h3, h4, g, o, h5, h6⟩ := h.row
  refine ⟨h.len, h2, h3, h4, g, o, h5, fun i hi => ?_⟩
  have hl : i < l.length := by have := h.len; omega
  exact h6 i _ (by simp [List.getD, hl])
theorem Own.below {w w' b a n c l} (h : Own w b a n c l) (hb : Below w.heap.size w w') : Own w' b a n c l := OwnC.below h hb
theorem Own.lower {w b b' a n c l} (h : Own w b a n c l) (hb : b' ≤ b) : Own w b' a n c l := OwnC.lower h hb
theorem Own.drewN {w b a n c l} (h : Own w b a n c l) (m : Nat) : Own (w.drewN m) b a n c l := h.below (below_of_drewN m)
theorem Own.drew {w b a n c l} (h : Own w b a n c l) : Own w.drew b a n c l := h.below ((Below.refl _ _).drew)
theorem Ints.drew {w a n c l} (h : Ints w a n c l) : Ints w.drew a n c l := h.below ((Below.refl _ _).drew)
theorem Own.alloc {w b a n c l} (h : Own w b a n c l) (ob : Obj) : Own (w.alloc ob) b a n c l := h.below ((Below.refl _ _).alloc (Nat.le_refl _) _)
theorem Own.nil0 (w : World) (b : Nat) (a : Option Addr) : Own w b a 0 0 [] := OwnC.nil0 w b 3 1 a
theorem Own.grown {w w' : World} {b a n c l} {a' : Option Addr} {c' : Nat} (h : Own w b a n c l) (hg : w.grownBy w' (rowOf a' c')) (hd : Apart a c a' c') : Own w' b a n c l := OwnC.grown h hg hd
theorem Own.range {w b a n c l} (h : Own w b a n c l) : ∀ x, 0 < c → a = some x → b ≤ x.block ∧ x.block < w.heap.size := OwnC.range h
theorem Own.apart {w w' : World} {b b' a n c l a' n' c' l'} (h : Own w b a n c l) (h' : Own w' b' a' n' c' l') (hb : w.heap.size ≤ b') : Apart a c a' c' := OwnC.apart h h' hb
/-- A store into an owned row. -/
theorem Own.at {w b a n c l} (h : Own w b a n c l) (k : Nat) (hk : k < n) : ∃ g, a = some ⟨g, 0, none⟩ ∧ b ≤ g ∧ g < w.heap.size ∧ w.cell? ⟨g, k, none⟩ = some (.int .i64 (l.getD k 0)) ∧ w.frozen? ⟨g, k, none⟩ = false ∧
    ∀ x, Own (w.setCell ⟨g, k, none⟩ (.int .i64 x)) b (some ⟨g, 0, none⟩) n c (l.set k x) := by
  obtain ⟨g, rfl, hb, hg, ⟨u, hu, hc⟩, hf, hs⟩ := OwnC.atC h k (by omega)
  have hl : k < l.length := by have := h.len; omega
  refine ⟨g, rfl, hb, hg, ?_, hf, fun x => by unfold Own; rw [List.map_set]; exact hs _⟩
  rw [hc, ← hu]
  simp [List.getD, hl]
theorem Own.lit (w : World) (b : Nat) (l : List Int) (hb : b ≤ w.heap.size) (h : l.length ≤ maxLen) : Own (w.alloc (.cells (l.map (Value.int .i64)).toArray 3)) b (some ⟨w.heap.size, 0, none⟩) l.length l.length l :=
  OwnC.lit w b l.length 3 1 _ hb (by simp) h
theorem Own.of_owns {w b v n} {l : List Int} (h : w.ownsRow b 3 1 v n (l.map (Value.int .i64))) : ∃ a c, v = .slice a n c ∧ Own w b a n c l := OwnC.of_owns h

/-- What is read stays where another row is written. -/
theorem Ints.grown {w w' : World} {a n c l} {a' : Option Addr} {c' : Nat} (h : Ints w a n c l) (hg : w.grownBy w' (rowOf a' c')) (hd : ∀ x y, 0 < n → 0 < c' → a = some x → a' = some y → x.block ≠ y.block) : Ints w' a n c l := by
  obtain ⟨h1, h2, h3, hn, g, o, h4, h5⟩ := h
  exact ⟨h1, h2, h3, hn, g, o, h4, fun i hi => hg.cell (h5 i hi) (rowOf_ne fun y hc hy => hd ⟨g, o, none⟩ y (by omega) hc (h4 (by omega)) hy)⟩
theorem Ints.range {w a n c l} (h : Ints w a n c l) : ∀ x, 0 < n → a = some x → 0 ≤ x.block ∧ x.block < w.heap.size := by
  intro x hn hx
  obtain ⟨g, o, hg, h1⟩ := h.at 0 hn
  rw [hg] at hx
  cases hx
  exact ⟨Nat.zero_le _, World.block_lt_of_cell? w _ h1⟩
theorem Ints.apart {w w' : World} {b' a n c l a' n' c' l'} (h : Ints w a n c l) (h' : Own w' b' a' n' c' l') (hb : w.heap.size ≤ b') : ∀ x y, 0 < n → 0 < c' → a = some x → a' = some y → x.block ≠ y.block := fun x y hn hc hx hy => by
  have := (h.range x hn hx).2; have := (h'.range y hc hy).1; omega

theorem getD_set (l : List Int) (k i : Nat) (x : Int) : (l.set k x).getD i 0 = if i = k ∧ k < l.length then x else l.getD i 0 := by
  simp only [List.getD, List.getElem?_set]
  by_cases h : k = i
  · subst h
    by_cases h2 : k < l.length
    · simp [h2]
    · simp [h2]
  · rw [if_neg h, if_neg (by omega)]
theorem list_ext_getD (l l' : List Int) (h : l.length = l'.length) (hh : ∀ i, i < l.length → l.getD i 0 = l'.getD i 0) : l = l' := by
  apply List.ext_getElem h
  intro i h1 h2
  have := hh i h1
  simpa [List.getD, h1, h2] using this

theorem info_int : (Tryd.prog.info? 3).map (fun i => (i.zero, i.size, i.bytes)) = some (some (.int .i64 0), 1, 8) := by kernel_rfl
theorem below_grownBy {B : Nat} {w w' : World} {a : Option Addr} {c : Nat} (hg : w.grownBy w' (rowOf a c)) (hB : B ≤ w.heap.size) (h : ∀ x, 0 < c → a = some x → B ≤ x.block) : Below B w w' :=
  (Below.refl _ _).grown hg hB (fun k hk => by
    unfold rowOf at hk
    split at hk
    · cases hk
    · cases a with
      | none => simp at hk
      | some x => simp at hk; subst hk; exact h x (by omega) rfl)
/-- Behind a callee that was called in a world with new blocks. -/
theorem below_a1 {w w' : World} {o : Obj} (h : Below (w.alloc o).heap.size (w.alloc o) w') : Below w.heap.size w w' := ((Below.refl _ _).alloc (Nat.le_refl _) _).trans (h.mono (by simp))
theorem below_a2 {w w' : World} {o o' : Obj} (h : Below ((w.alloc o).alloc o').heap.size ((w.alloc o).alloc o') w') : Below w.heap.size w w' := below_a1 (below_a1 h)
/-- Append on integers: what it leaves. -/
theorem run_appI (w : World) (ty : TypeId) (b : Nat) (a : Option Addr) (n c : Nat) (l : List Int) (hown : Own w b a n c l) (a' : Option Addr) (m c' : Nat) (l' : List Int) (hrow : Ints w a' m c' l') (hlen : n + m ≤ 1000000000000) (hbase : b ≤ w.heap.size) :
    ∃ a2 c2 w', (Builtin.append_ #[50, 50] ty #[.slice a n c, .slice a' m c']).run Tryd.prog w = .ok (.slice a2 (n + m) c2) w' ∧ Own w' b a2 (n + m) c2 (l ++ l') ∧ Below b w w' ∧ w.grownBy w' (rowOf a c) ∧ Ints w' a n c l := by
  obtain ⟨i0, hi, hz0, hz1, hz2⟩ := info_parts info_int
  obtain ⟨a2, c2, w', hrun, h1, h2, h3⟩ := run_app w 50 ty b 3 i0 (.int .i64 0) 1 8 Tryd.underlying50 hi hz0 hz1 hz2 rfl (by decide) a n c _ hown a' m c' _ hrow.rowC (by
    intro u hu
    simp only [List.mem_map] at hu
    obtain ⟨y, _, rfl⟩ := hu
    rfl) (by omega) (by unfold maxLen; omega) hbase
  exact ⟨a2, c2, w', hrun, by unfold Own; rw [List.map_append]; exact h1, below_grownBy h2 hbase (fun x hc hx => (hown.range x hc hx).1), h2, Ints.of_rowC h3⟩
theorem wp_appI (w : World) {o : Oper} {act : Act} {K : Act → World → Prop} {Q : Exit → Act → World → Prop} (s x : Operand)
    (ho : o.op = .call { callee := .builtin .append, args := #[s, x], argTypes := #[50, 50] })
    (b : Nat) (a : Option Addr) (n c : Nat) (l : List Int) (hs : act.eval s = .slice a n c) (hown : Own w b a n c l)
    (a' : Option Addr) (m c' : Nat) (l' : List Int) (hx : act.eval x = .slice a' m c') (hrow : Ints w a' m c' l')
    (hlen : n + m ≤ 1000000000000) (hbase : b ≤ w.heap.size)
    (h : ∀ a2 c2 w', Own w' b a2 (n + m) c2 (l ++ l') → Below b w w' → w.grownBy w' (rowOf a c) → Ints w' a n c l → K (act.put o.dst (.slice a2 (n + m) c2)) w') : o.wp Tryd.prog act w K Q := by
  obtain ⟨a2, c2, w', hrun, h1, h2, h3, h4⟩ := run_appI w o.type b a n c l hown a' m c' l' hrow hlen hbase
  unfold Oper.wp
  simp [execOp, ho, resolve, invoke, builtin, hs, hx, hrun, Result.andThen]
  exact h a2 c2 w' h1 h2 h3 h4
theorem wpList_appI (w : World) {ops : Array Oper} {rest : List Oper} {o : Oper} {act : Act} {Q : Exit → Act → World → Prop} (hgd : o.guard = none) (s x : Operand)
    (ho : o.op = .call { callee := .builtin .append, args := #[s, x], argTypes := #[50, 50] })
    (b : Nat) (a : Option Addr) (n c : Nat) (l : List Int) (hs : act.eval s = .slice a n c) (hown : Own w b a n c l)
    (a' : Option Addr) (m c' : Nat) (l' : List Int) (hx : act.eval x = .slice a' m c') (hrow : Ints w a' m c' l')
    (hlen : n + m ≤ 1000000000000) (hbase : b ≤ w.heap.size)
    (h : ∀ a2 c2 w', Own w' b a2 (n + m) c2 (l ++ l') → Below b w w' → w.grownBy w' (rowOf a c) → wpList Tryd.prog ops Q rest (act.put o.dst (.slice a2 (n + m) c2)) w') : wpList Tryd.prog ops Q (o :: rest) act w :=
  wpList_plain hgd fun _ hK => wp_appI w s x ho b a n c l hs hown a' m c' l' hx hrow hlen hbase fun a2 c2 w' h1 h2 h3 _ => hK _ _ (h a2 c2 w' h1 h2 h3)
/-- The same inside a region that draws its order. -/
theorem step_appI (w : World) {ops : Array Oper} {o : Oper} {act : Act} {K : Act → World → Prop} {Q : Exit → Act → World → Prop} {E : Prop} (hgd : o.guard = none) (s x : Operand)
    (ho : o.op = .call { callee := .builtin .append, args := #[s, x], argTypes := #[50, 50] })
    (b : Nat) (a : Option Addr) (n c : Nat) (l : List Int) (hs : act.eval s = .slice a n c) (hown : Own w b a n c l)
    (a' : Option Addr) (m c' : Nat) (l' : List Int) (hx : act.eval x = .slice a' m c') (hrow : Ints w a' m c' l')
    (hlen : n + m ≤ 1000000000000) (hbase : b ≤ w.heap.size)
    (h : ∀ a2 c2 w', Own w' b a2 (n + m) c2 (l ++ l') → Below b w w' → w.grownBy w' (rowOf a c) → Ints w' a n c l → K (act.put o.dst (.slice a2 (n + m) c2)) w') :
    if Region.wanted o (yielded ops act.tmps) = true then Oper.wp Tryd.prog o act w K Q else E := by
  rw [if_pos (by simp [Region.wanted, hgd])]
  exact wp_appI w s x ho b a n c l hs hown a' m c' l' hx hrow hlen hbase h

/-- The numbers from k on. -/
def UpFrom (k : Int) (l : List Int) : Prop := ∀ i, i < l.length → l.getD i 0 = k + i
theorem grownBy_setCell {w w' : World} {row : Option Nat} (h : w.grownBy w' row) (p : Addr) (u : Value) (hp : row = some p.block) : w.grownBy (w'.setCell p u) row :=
  ⟨h.os, h.tape, h.output, by have := h.size; simpa [World.setCell] using this, fun k hk hne => by
    rw [Below.heap_setCell _ _ _ _ (by intro e; subst e; exact hne hp.symm)]; exact h.block k hk hne⟩
end Go.Proofs.YtjndhgjmnoiegaaDoor
