/- Blocks of rows; writes that keep to some blocks; rows of flat structs. -/
import Derived.Test.YtjndhgjmnoiegaaDoorSums
import Derived.Test.YtjndhgjmnoiegaaDoorOwn
import Derived.Deep.RegionHeld
namespace Go.Proofs.YtjndhgjmnoiegaaDoor
open Go.RowKit

/-- The blocks of a row that has room. -/
def foot (a : Option Addr) (c : Nat) : List Nat := (rowOf a c).toList
/-- Outside the blocks F all stays. -/
structure Only (F : List Nat) (w w' : World) : Prop where
  os : w'.os = w.os
  tape : w'.tape = w.tape
  output : w'.output = w.output
  size : w.heap.size ≤ w'.heap.size
  block : ∀ k, k < w.heap.size → k ∉ F → w'.heap[k]? = w.heap[k]?
theorem Only.refl (F : List Nat) (w : World) : Only F w w := ⟨rfl, rfl, rfl, Nat.le_refl _, fun _ _ _ => rfl⟩
theorem Only.trans {F w w1 w2} (h : Only F w w1) (k : Only F w1 w2) : Only F w w2 :=
  ⟨k.os.trans h.os, k.tape.trans h.tape, k.output.trans h.output, Nat.le_trans h.size k.size, fun i hi hn => (k.block i (Nat.lt_of_lt_of_le hi h.size) hn).trans (h.block i hi hn)⟩
theorem Only.more {F F' w w'} (h : Only F w w') (hs : ∀ k ∈ F, k ∈ F') : Only F' w w' :=
  ⟨h.os, h.tape, h.output, h.size, fun i hi hn => h.block i hi (fun hm => hn (hs i hm))⟩
theorem Only.of_grown {w w' : World} {a : Option Addr} {c : Nat} (h : w.grownBy w' (rowOf a c)) : Only (foot a c) w w' :=
  ⟨h.os, h.tape, h.output, h.size, fun i hi hn => h.block i hi (fun e => hn (by unfold foot; rw [← e]; simp))⟩
theorem Only.of_below {F : List Nat} {w w' : World} (h : Below w.heap.size w w') : Only F w w' :=
  ⟨h.os, h.tape, h.output, h.size, fun i hi _ => h.block i hi⟩
theorem Only.below {F : List Nat} {w w' : World} {B : Nat} (h : Only F w w') (hB : B ≤ w.heap.size) (hF : ∀ k ∈ F, B ≤ k) : Below B w w' :=
  ⟨h.os, h.tape, h.output, h.size, fun i hi => h.block i (by omega) (fun hm => by have := hF i hm; omega)⟩
theorem Only.left {F G w w'} (h : Only F w w') : Only (F ++ G) w w' := h.more fun _ hk => List.mem_append_left _ hk
theorem Only.right {F G w w'} (h : Only G w w') : Only (F ++ G) w w' := h.more fun _ hk => List.mem_append_right _ hk
theorem mem_foot {a : Option Addr} {c k : Nat} (h : k ∈ foot a c) : ∃ x, a = some x ∧ 0 < c ∧ k = x.block := by
  unfold foot rowOf at h
  split at h
  · simp at h
  · cases a with
    | none => simp at h
    | some x => simp at h; exact ⟨x, rfl, by omega, h⟩
theorem foot_mem {x : Addr} {c : Nat} (h : 0 < c) : x.block ∈ foot (some x) c := by
  unfold foot rowOf
  rw [if_neg (by omega)]
  simp
theorem OwnC.feet {w b a n c e sz xs} (h : OwnC w b a n c e sz xs) : ∀ k ∈ foot a c, b ≤ k ∧ k < w.heap.size := fun k hk => by
  obtain ⟨x, hx, hc, rfl⟩ := mem_foot hk
  exact h.range x hc hx
theorem OwnC.only {F : List Nat} {w w' : World} {b a n c e sz xs} (h : OwnC w b a n c e sz xs) (ho : Only F w w') (hd : ∀ k ∈ foot a c, k ∉ F) : OwnC w' b a n c e sz xs :=
  ⟨h.1, h.2.1, h.2.2.1, h.2.2.2.1, fun hc => by
    obtain ⟨g, cur, h1, h2, h3, h4⟩ := h.2.2.2.2 hc
    exact ⟨g, cur, h1, h2, by rw [ho.block g (Array.getElem?_eq_some_iff.1 h3).1 (hd g (by rw [h1]; exact foot_mem hc))]; exact h3, h4⟩⟩
/-- No block of the one is a block of the other. -/
def Disj (F G : List Nat) : Prop := ∀ k ∈ F, k ∉ G
theorem Disj.symm {F G} (h : Disj F G) : Disj G F := fun k hk hf => h k hf hk
theorem Disj.of_rng {F G : List Nat} {a b c d : Nat} (hF : ∀ k ∈ F, a ≤ k ∧ k < b) (hG : ∀ k ∈ G, c ≤ k ∧ k < d) (h : b ≤ c ∨ d ≤ a) : Disj F G := fun k hk hg => by
  have := hF k hk; have := hG k hg; omega
theorem Apart.disj {a c a' c'} (h : Apart a c a' c') : Disj (foot a c) (foot a' c') := fun k hk hk' => by
  obtain ⟨x, hx, hc, rfl⟩ := mem_foot hk
  obtain ⟨y, hy, hc', e⟩ := mem_foot hk'
  exact h x y hc hc' hx hy e
theorem Disj.app {F G G'} (h : Disj F G) (h' : Disj F G') : Disj F (G ++ G') := fun k hk hm => by
  rcases List.mem_append.1 hm with hm | hm
  · exact h k hk hm
  · exact h' k hk hm
theorem Disj.app_l {F F' G} (h : Disj F G) (h' : Disj F' G) : Disj (F ++ F') G := fun k hk => by
  rcases List.mem_append.1 hk with hm | hm
  · exact h k hm
  · exact h' k hm
theorem Disj.nil_l (F : List Nat) : Disj [] F := fun _ hk => by cases hk
theorem Disj.nil_r (F : List Nat) : Disj F [] := fun _ _ hk => by cases hk

/-- The slice (a, n, c) of structs of k ints reads as the numbers l, one struct behind the other. -/
def Flat (k : Nat) (w : World) (a : Option Addr) (n c : Nat) (l : List Int) : Prop := RowC w a n c k (l.map (Value.int .i64))
/-- It is the call's own (e: the type of its elements), in blocks from b on. -/
def OwnF (k e : Nat) (w : World) (b : Nat) (a : Option Addr) (n c : Nat) (l : List Int) : Prop := OwnC w b a n c e k (l.map (Value.int .i64))
theorem Flat.len {k w a n c l} (h : Flat k w a n c l) : l.length = n * k := by have := h.1; simpa using this
theorem Flat.cap {k w a n c l} (h : Flat k w a n c l) : n ≤ c ∧ c ≤ maxLen := ⟨h.2.1, h.2.2.1⟩
theorem Flat.le {k w a n c l} (h : Flat k w a n c l) : (n : Int) ≤ 9223372036854775807 := by
  have := h.2.1; have := h.2.2.1; unfold maxLen at this; omega
theorem Flat.below {k w w' a n c l} (h : Flat k w a n c l) (hb : Below w.heap.size w w') : Flat k w' a n c l := RowC.below h hb
theorem Flat.alloc {k w a n c l} (h : Flat k w a n c l) (o : Obj) : Flat k (w.alloc o) a n c l := h.below ((Below.refl _ _).alloc (Nat.le_refl _) _)
theorem Flat.drewN {k w a n c l} (h : Flat k w a n c l) (m : Nat) : Flat k (w.drewN m) a n c l := h.below (below_of_drewN m)
theorem Flat.drew {k w a n c l} (h : Flat k w a n c l) : Flat k w.drew a n c l := h.below ((Below.refl _ _).drew)
theorem Flat.at {k w a n c l} (h : Flat k w a n c l) (hn : 0 < n) : ∃ g o, a = some ⟨g, o, none⟩ ∧ ∀ j, j < n * k → w.cell? ⟨g, o + j, none⟩ = some (.int .i64 (l.getD j 0)) := by
  have hl := h.len
  obtain ⟨_, _, _, _, g, o, h1, h2⟩ := h
  exact ⟨g, o, h1 hn, fun j hj => h2 j _ (by simp [List.getD, show j < l.length by omega])⟩
theorem OwnF.flat {k e w b a n c l} (h : OwnF k e w b a n c l) : Flat k w a n c l := h.row
theorem OwnF.len {k e w b a n c l} (h : OwnF k e w b a n c l) : l.length = n * k := h.flat.len
theorem OwnF.cap {k e w b a n c l} (h : OwnF k e w b a n c l) : n ≤ c ∧ c ≤ maxLen := h.flat.cap
theorem OwnF.below {k e w w' b a n c l} (h : OwnF k e w b a n c l) (hb : Below w.heap.size w w') : OwnF k e w' b a n c l := OwnC.below h hb
theorem OwnF.lower {k e w b b' a n c l} (h : OwnF k e w b a n c l) (hb : b' ≤ b) : OwnF k e w b' a n c l := OwnC.lower h hb
theorem OwnF.alloc {k e w b a n c l} (h : OwnF k e w b a n c l) (o : Obj) : OwnF k e (w.alloc o) b a n c l := h.below ((Below.refl _ _).alloc (Nat.le_refl _) _)
theorem OwnF.drew {k e w b a n c l} (h : OwnF k e w b a n c l) : OwnF k e w.drew b a n c l := h.below ((Below.refl _ _).drew)
theorem OwnF.drewN {k e w b a n c l} (h : OwnF k e w b a n c l) (m : Nat) : OwnF k e (w.drewN m) b a n c l := h.below (below_of_drewN m)
theorem OwnF.feet {k e w b a n c l} (h : OwnF k e w b a n c l) : ∀ k ∈ foot a c, b ≤ k ∧ k < w.heap.size := OwnC.feet h
theorem OwnF.only {F : List Nat} {k e : Nat} {w w' : World} {b a n c l} (h : OwnF k e w b a n c l) (ho : Only F w w') (hd : Disj (foot a c) F) : OwnF k e w' b a n c l := OwnC.only h ho hd
theorem Own.feet {w b a n c l} (h : Own w b a n c l) : ∀ k ∈ foot a c, b ≤ k ∧ k < w.heap.size := OwnC.feet h
theorem Own.only {F : List Nat} {w w' : World} {b a n c l} (h : Own w b a n c l) (ho : Only F w w') (hd : Disj (foot a c) F) : Own w' b a n c l := OwnC.only h ho hd
/-- A store into such a row: its cell j. -/
theorem OwnF.at {k e w b a n c l} (h : OwnF k e w b a n c l) (j : Nat) (hj : j < n * k) : ∃ g, a = some ⟨g, 0, none⟩ ∧ b ≤ g ∧ g < w.heap.size ∧ w.cell? ⟨g, j, none⟩ = some (.int .i64 (l.getD j 0)) ∧ w.frozen? ⟨g, j, none⟩ = false ∧
    ∀ x, OwnF k e (w.setCell ⟨g, j, none⟩ (.int .i64 x)) b (some ⟨g, 0, none⟩) n c (l.set j x) := by
  obtain ⟨g, rfl, hb, hg, ⟨u, hu, hc⟩, hf, hs⟩ := OwnC.atC h j hj
  have hl : j < l.length := by rw [h.len]; exact hj
  refine ⟨g, rfl, hb, hg, ?_, hf, fun x => by unfold OwnF; rw [List.map_set]; exact hs _⟩
  rw [hc, ← hu]
  simp [List.getD, hl]
theorem OwnF.cf {k e w b g n c l} (h : OwnF k e w b (some ⟨g, 0, none⟩) n c l) (j : Nat) (hj : j < n * k) : w.cell? ⟨g, j, none⟩ = some (.int .i64 (l.getD j 0)) ∧ w.frozen? ⟨g, j, none⟩ = false := by
  obtain ⟨_, E, _, _, h1, h2, _⟩ := h.at j hj
  cases E
  exact ⟨h1, h2⟩
theorem OwnF.put {k e w b g n c l} (h : OwnF k e w b (some ⟨g, 0, none⟩) n c l) (j : Nat) (hj : j < n * k) (x : Int) : OwnF k e (w.setCell ⟨g, j, none⟩ (.int .i64 x)) b (some ⟨g, 0, none⟩) n c (l.set j x) := by
  obtain ⟨_, E, _, _, _, _, h3⟩ := h.at j hj
  cases E
  exact h3 x
theorem Only.setCell {F : List Nat} {w w' : World} (h : Only F w w') (p : Addr) (u : Value) (hp : p.block ∈ F) : Only F w (w'.setCell p u) :=
  ⟨h.os, h.tape, h.output, by have := h.size; simpa [World.setCell] using this, fun k hk hne => by
    rw [Below.heap_setCell _ _ _ _ (by intro e; subst e; exact hne hp)]; exact h.block k hk hne⟩
theorem Only.alloc {F : List Nat} {w w' : World} (h : Only F w w') (o : Obj) : Only F w (w'.alloc o) :=
  h.trans (Only.of_below ((Below.refl _ _).alloc (Nat.le_refl _) _))
theorem Only.drew {F : List Nat} {w w' : World} (h : Only F w w') : Only F w w'.drew :=
  h.trans (Only.of_below ((Below.refl _ _).drew))
/-- A block that is known whole. -/
def Blk (w : World) (g : Nat) (t : TypeId) (cs : Array Value) : Prop := w.heap[g]? = some (.cells cs t (0, 0))
theorem Blk.lt {w g t cs} (h : Blk w g t cs) : g < w.heap.size := by
  rcases Nat.lt_or_ge g w.heap.size with hlt | hge
  · exact hlt
  · unfold Blk at h; rw [Array.getElem?_eq_none hge] at h; cases h
theorem Blk.cell {w g t cs} (h : Blk w g t cs) (i : Nat) : w.cell? ⟨g, i, none⟩ = cs[i]? := cell_of_row w g i cs t (0, 0) h
theorem Blk.frozen {w g t cs} (h : Blk w g t cs) (i : Nat) : w.frozen? ⟨g, i, none⟩ = false := by
  unfold Blk at h
  simp [World.frozen?, h]
theorem Blk.new (w : World) (t : TypeId) (cs : Array Value) : Blk (w.alloc (.cells cs t)) w.heap.size t cs := heap_alloc_new w _
theorem Blk.below {w w' g t cs} (h : Blk w g t cs) (hb : Below w.heap.size w w') : Blk w' g t cs := (hb.block g h.lt).trans h
theorem Blk.alloc {w g t cs} (h : Blk w g t cs) (o : Obj) : Blk (w.alloc o) g t cs := (Below.heap_alloc w o g h.lt).trans h
theorem Blk.drew {w g t cs} (h : Blk w g t cs) : Blk w.drew g t cs := h
theorem Blk.only {F : List Nat} {w w' g t cs} (h : Blk w g t cs) (ho : Only F w w') (hg : g ∉ F) : Blk w' g t cs := (ho.block g h.lt hg).trans h
theorem Blk.set_ {w g t cs} (h : Blk w g t cs) (i : Nat) (u : Value) : Blk (w.setCell ⟨g, i, none⟩ u) g t (cs.setIfInBounds i u) := by
  unfold Blk at h ⊢
  simp [World.setCell, Array.getElem?_modify, h]
theorem Blk.far {w g t cs} (h : Blk w g t cs) {p : Addr} (hp : g ≠ p.block) (u : Value) : Blk (w.setCell p u) g t cs := (Below.heap_setCell w p u g hp).trans h
-- blk<
theorem Blk.new_ (w : World) {b : Nat} (hb : w.heap.size = b) (t : TypeId) (c : Array Value) : ∃ N, w.alloc (.cells c t) = N ∧ Blk N b t c ∧ N.heap.size = b + 1 ∧ Below w.heap.size w N :=
  ⟨_, rfl, hb ▸ Blk.new w t c, by simp [hb], (Below.refl _ _).alloc (Nat.le_refl _) _⟩
theorem Blk.ldF {w g t cs} {n : Nat} (h : Blk w g t cs) (hn : cs.size = n) : (loadCellsFrom ⟨g, 0, none⟩ 0 n #[]).run Tryd.prog w = .ok cs w := by
  subst hn
  have := run_loadCells_list (P := Tryd.prog) w ⟨g, 0, none⟩ cs.toList (fun j v hv => by
    have hadd : (⟨g, 0, none⟩ : Addr).add j = ⟨g, j, none⟩ := by unfold Addr.add; split <;> simp_all
    rw [hadd, cell_of_row _ _ j cs t (0, 0) h]
    simpa using hv)
  simpa [loadCells] using this
theorem Blk.stF {w g t cs} (h : Blk w g t cs) (vs : List Value) (hl : vs.length = cs.size) (h1 : ∀ v ∈ vs, v.oneCell' = true) : ∃ N, (storeCells ⟨g, 0, none⟩ vs 0).run Tryd.prog w = .ok () N ∧ Blk N g t vs.toArray ∧ Only [g] w N := by
  have k := run_storeCells_from (P := Tryd.prog) g t vs 0 cs w h (by omega) h1
  have e : (vs.toArray : Array Value) = (cs.toList.take 0 ++ vs).toArray := by simp
  refine ⟨w.setRow g vs.toArray, by rw [e]; exact k, setRow_heap w g cs _ t _ h, ⟨rfl, rfl, rfl, by simp, fun q _ hq => setRow_other w g q _ (by simpa using hq)⟩⟩
theorem Blk.a1_0 {w g t} {c0 : Value} (h : Blk w g t #[c0]) : w.cell? ⟨g, 0, none⟩ = some c0 := h.cell 0
theorem Blk.a2_0 {w g t} {c0 c1 : Value} (h : Blk w g t #[c0, c1]) : w.cell? ⟨g, 0, none⟩ = some c0 := h.cell 0
theorem Blk.a2_1 {w g t} {c0 c1 : Value} (h : Blk w g t #[c0, c1]) : w.cell? ⟨g, 1, none⟩ = some c1 := h.cell 1
theorem Blk.all2 {w g t} {c0 c1 : Value} (h : Blk w g t #[c0, c1]) : w.cell? ⟨g, 0, none⟩ = some c0 ∧ w.cell? ⟨g, 1, none⟩ = some c1 :=
  ⟨h.cell 0, h.cell 1⟩
theorem Blk.frz2 {w g t} {c0 c1 : Value} (h : Blk w g t #[c0, c1]) : w.frozen? ⟨g, 0, none⟩ = false ∧ w.frozen? ⟨g, 1, none⟩ = false :=
  ⟨h.frozen 0, h.frozen 1⟩
theorem Blk.row2 {w g t} {c0 c1 : Value} (h : Blk w g t #[c0, c1]) (v0 v1 : Value) : ∃ N, ((w.setCell ⟨g, 0, none⟩ v0).setCell ⟨g, 1, none⟩ v1) = N ∧ Blk N g t #[v0, v1] ∧ Only [g] w N := by
  have g0 : Only [g] w (w.setCell ⟨g, 0, none⟩ v0) := (Only.refl _ _).setCell _ _ (by simp)
  replace h := h.set_ 0 v0
  generalize w.setCell ⟨g, 0, none⟩ v0 = w0 at *
  have g1 : Only [g] w0 (w0.setCell ⟨g, 1, none⟩ v1) := (Only.refl _ _).setCell _ _ (by simp)
  replace h := h.set_ 1 v1
  generalize w0.setCell ⟨g, 1, none⟩ v1 = w1 at *
  replace g0 := g0.trans g1
  simp only [List.setIfInBounds_toArray, List.set_cons_zero, List.set_cons_succ] at h
  exact ⟨_, rfl, h, g0⟩
theorem Blk.a3_0 {w g t} {c0 c1 c2 : Value} (h : Blk w g t #[c0, c1, c2]) : w.cell? ⟨g, 0, none⟩ = some c0 := h.cell 0
theorem Blk.a3_1 {w g t} {c0 c1 c2 : Value} (h : Blk w g t #[c0, c1, c2]) : w.cell? ⟨g, 1, none⟩ = some c1 := h.cell 1
theorem Blk.a3_2 {w g t} {c0 c1 c2 : Value} (h : Blk w g t #[c0, c1, c2]) : w.cell? ⟨g, 2, none⟩ = some c2 := h.cell 2
theorem Blk.all3 {w g t} {c0 c1 c2 : Value} (h : Blk w g t #[c0, c1, c2]) : w.cell? ⟨g, 0, none⟩ = some c0 ∧ w.cell? ⟨g, 1, none⟩ = some c1 ∧ w.cell? ⟨g, 2, none⟩ = some c2 :=
  ⟨h.cell 0, h.cell 1, h.cell 2⟩
theorem Blk.frz3 {w g t} {c0 c1 c2 : Value} (h : Blk w g t #[c0, c1, c2]) : w.frozen? ⟨g, 0, none⟩ = false ∧ w.frozen? ⟨g, 1, none⟩ = false ∧ w.frozen? ⟨g, 2, none⟩ = false :=
  ⟨h.frozen 0, h.frozen 1, h.frozen 2⟩
theorem Blk.row3 {w g t} {c0 c1 c2 : Value} (h : Blk w g t #[c0, c1, c2]) (v0 v1 v2 : Value) : ∃ N, (((w.setCell ⟨g, 0, none⟩ v0).setCell ⟨g, 1, none⟩ v1).setCell ⟨g, 2, none⟩ v2) = N ∧ Blk N g t #[v0, v1, v2] ∧ Only [g] w N := by
  have g0 : Only [g] w (w.setCell ⟨g, 0, none⟩ v0) := (Only.refl _ _).setCell _ _ (by simp)
  replace h := h.set_ 0 v0
  generalize w.setCell ⟨g, 0, none⟩ v0 = w0 at *
  have g1 : Only [g] w0 (w0.setCell ⟨g, 1, none⟩ v1) := (Only.refl _ _).setCell _ _ (by simp)
  replace h := h.set_ 1 v1
  generalize w0.setCell ⟨g, 1, none⟩ v1 = w1 at *
  replace g0 := g0.trans g1
  have g2 : Only [g] w1 (w1.setCell ⟨g, 2, none⟩ v2) := (Only.refl _ _).setCell _ _ (by simp)
  replace h := h.set_ 2 v2
  generalize w1.setCell ⟨g, 2, none⟩ v2 = w2 at *
  replace g0 := g0.trans g2
  simp only [List.setIfInBounds_toArray, List.set_cons_zero, List.set_cons_succ] at h
  exact ⟨_, rfl, h, g0⟩
theorem Blk.a4_0 {w g t} {c0 c1 c2 c3 : Value} (h : Blk w g t #[c0, c1, c2, c3]) : w.cell? ⟨g, 0, none⟩ = some c0 := h.cell 0
theorem Blk.a4_1 {w g t} {c0 c1 c2 c3 : Value} (h : Blk w g t #[c0, c1, c2, c3]) : w.cell? ⟨g, 1, none⟩ = some c1 := h.cell 1
theorem Blk.a4_2 {w g t} {c0 c1 c2 c3 : Value} (h : Blk w g t #[c0, c1, c2, c3]) : w.cell? ⟨g, 2, none⟩ = some c2 := h.cell 2
theorem Blk.a4_3 {w g t} {c0 c1 c2 c3 : Value} (h : Blk w g t #[c0, c1, c2, c3]) : w.cell? ⟨g, 3, none⟩ = some c3 := h.cell 3
theorem Blk.all4 {w g t} {c0 c1 c2 c3 : Value} (h : Blk w g t #[c0, c1, c2, c3]) : w.cell? ⟨g, 0, none⟩ = some c0 ∧ w.cell? ⟨g, 1, none⟩ = some c1 ∧ w.cell? ⟨g, 2, none⟩ = some c2 ∧ w.cell? ⟨g, 3, none⟩ = some c3 :=
  ⟨h.cell 0, h.cell 1, h.cell 2, h.cell 3⟩
theorem Blk.frz4 {w g t} {c0 c1 c2 c3 : Value} (h : Blk w g t #[c0, c1, c2, c3]) : w.frozen? ⟨g, 0, none⟩ = false ∧ w.frozen? ⟨g, 1, none⟩ = false ∧ w.frozen? ⟨g, 2, none⟩ = false ∧ w.frozen? ⟨g, 3, none⟩ = false :=
  ⟨h.frozen 0, h.frozen 1, h.frozen 2, h.frozen 3⟩
theorem Blk.row4 {w g t} {c0 c1 c2 c3 : Value} (h : Blk w g t #[c0, c1, c2, c3]) (v0 v1 v2 v3 : Value) : ∃ N, ((((w.setCell ⟨g, 0, none⟩ v0).setCell ⟨g, 1, none⟩ v1).setCell ⟨g, 2, none⟩ v2).setCell ⟨g, 3, none⟩ v3) = N ∧ Blk N g t #[v0, v1, v2, v3] ∧ Only [g] w N := by
  have g0 : Only [g] w (w.setCell ⟨g, 0, none⟩ v0) := (Only.refl _ _).setCell _ _ (by simp)
  replace h := h.set_ 0 v0
  generalize w.setCell ⟨g, 0, none⟩ v0 = w0 at *
  have g1 : Only [g] w0 (w0.setCell ⟨g, 1, none⟩ v1) := (Only.refl _ _).setCell _ _ (by simp)
  replace h := h.set_ 1 v1
  generalize w0.setCell ⟨g, 1, none⟩ v1 = w1 at *
  replace g0 := g0.trans g1
  have g2 : Only [g] w1 (w1.setCell ⟨g, 2, none⟩ v2) := (Only.refl _ _).setCell _ _ (by simp)
  replace h := h.set_ 2 v2
  generalize w1.setCell ⟨g, 2, none⟩ v2 = w2 at *
  replace g0 := g0.trans g2
  have g3 : Only [g] w2 (w2.setCell ⟨g, 3, none⟩ v3) := (Only.refl _ _).setCell _ _ (by simp)
  replace h := h.set_ 3 v3
  generalize w2.setCell ⟨g, 3, none⟩ v3 = w3 at *
  replace g0 := g0.trans g3
  simp only [List.setIfInBounds_toArray, List.set_cons_zero, List.set_cons_succ] at h
  exact ⟨_, rfl, h, g0⟩
theorem Blk.a11_0 {w g t} {c0 c1 c2 c3 c4 c5 c6 c7 c8 c9 c10 : Value} (h : Blk w g t #[c0, c1, c2, c3, c4, c5, c6, c7, c8, c9, c10]) : w.cell? ⟨g, 0, none⟩ = some c0 := h.cell 0
theorem Blk.a11_1 {w g t} {c0 c1 c2 c3 c4 c5 c6 c7 c8 c9 c10 : Value} (h : Blk w g t #[c0, c1, c2, c3, c4, c5, c6, c7, c8, c9, c10]) : w.cell? ⟨g, 1, none⟩ = some c1 := h.cell 1
theorem Blk.a11_2 {w g t} {c0 c1 c2 c3 c4 c5 c6 c7 c8 c9 c10 : Value} (h : Blk w g t #[c0, c1, c2, c3, c4, c5, c6, c7, c8, c9, c10]) : w.cell? ⟨g, 2, none⟩ = some c2 := h.cell 2
theorem Blk.a11_3 {w g t} {c0 c1 c2 c3 c4 c5 c6 c7 c8 c9 c10 : Value} (h : Blk w g t #[c0, c1, c2, c3, c4, c5, c6, c7, c8, c9, c10]) : w.cell? ⟨g, 3, none⟩ = some c3 := h.cell 3
theorem Blk.a11_4 {w g t} {c0 c1 c2 c3 c4 c5 c6 c7 c8 c9 c10 : Value} (h : Blk w g t #[c0, c1, c2, c3, c4, c5, c6, c7, c8, c9, c10]) : w.cell? ⟨g, 4, none⟩ = some c4 := h.cell 4
theorem Blk.a11_5 {w g t} {c0 c1 c2 c3 c4 c5 c6 c7 c8 c9 c10 : Value} (h : Blk w g t #[c0, c1, c2, c3, c4, c5, c6, c7, c8, c9, c10]) : w.cell? ⟨g, 5, none⟩ = some c5 := h.cell 5
theorem Blk.a11_6 {w g t} {c0 c1 c2 c3 c4 c5 c6 c7 c8 c9 c10 : Value} (h : Blk w g t #[c0, c1, c2, c3, c4, c5, c6, c7, c8, c9, c10]) : w.cell? ⟨g, 6, none⟩ = some c6 := h.cell 6
theorem Blk.a11_7 {w g t} {c0 c1 c2 c3 c4 c5 c6 c7 c8 c9 c10 : Value} (h : Blk w g t #[c0, c1, c2, c3, c4, c5, c6, c7, c8, c9, c10]) : w.cell? ⟨g, 7, none⟩ = some c7 := h.cell 7
theorem Blk.a11_8 {w g t} {c0 c1 c2 c3 c4 c5 c6 c7 c8 c9 c10 : Value} (h : Blk w g t #[c0, c1, c2, c3, c4, c5, c6, c7, c8, c9, c10]) : w.cell? ⟨g, 8, none⟩ = some c8 := h.cell 8
theorem Blk.a11_9 {w g t} {c0 c1 c2 c3 c4 c5 c6 c7 c8 c9 c10 : Value} (h : Blk w g t #[c0, c1, c2, c3, c4, c5, c6, c7, c8, c9, c10]) : w.cell? ⟨g, 9, none⟩ = some c9 := h.cell 9
theorem Blk.a11_10 {w g t} {c0 c1 c2 c3 c4 c5 c6 c7 c8 c9 c10 : Value} (h : Blk w g t #[c0, c1, c2, c3, c4, c5, c6, c7, c8, c9, c10]) : w.cell? ⟨g, 10, none⟩ = some c10 := h.cell 10
theorem Blk.all11 {w g t} {c0 c1 c2 c3 c4 c5 c6 c7 c8 c9 c10 : Value} (h : Blk w g t #[c0, c1, c2, c3, c4, c5, c6, c7, c8, c9, c10]) : w.cell? ⟨g, 0, none⟩ = some c0 ∧ w.cell? ⟨g, 1, none⟩ = some c1 ∧ w.cell? ⟨g, 2, none⟩ = some c2 ∧ w.cell? ⟨g, 3, none⟩ = some c3 ∧ w.cell? ⟨g, 4, none⟩ = some c4 ∧ w.cell? ⟨g, 5, none⟩ = some c5 ∧ w.cell? ⟨g, 6, none⟩ = some c6 ∧ w.cell? ⟨g, 7, none⟩ = some c7 ∧ w.cell? ⟨g, 8, none⟩ = some c8 ∧ w.cell? ⟨g, 9, none⟩ = some c9 ∧ w.cell? ⟨g, 10, none⟩ = some c10 :=
  ⟨h.cell 0, h.cell 1, h.cell 2, h.cell 3, h.cell 4, h.cell 5, h.cell 6, h.cell 7, h.cell 8, h.cell 9, h.cell 10⟩
theorem Blk.frz11 {w g t} {c0 c1 c2 c3 c4 c5 c6 c7 c8 c9 c10 : Value} (h : Blk w g t #[c0, c1, c2, c3, c4, c5, c6, c7, c8, c9, c10]) : w.frozen? ⟨g, 0, none⟩ = false ∧ w.frozen? ⟨g, 1, none⟩ = false ∧ w.frozen? ⟨g, 2, none⟩ = false ∧ w.frozen? ⟨g, 3, none⟩ = false ∧ w.frozen? ⟨g, 4, none⟩ = false ∧ w.frozen? ⟨g, 5, none⟩ = false ∧ w.frozen? ⟨g, 6, none⟩ = false ∧ w.frozen? ⟨g, 7, none⟩ = false ∧ w.frozen? ⟨g, 8, none⟩ = false ∧ w.frozen? ⟨g, 9, none⟩ = false ∧ w.frozen? ⟨g, 10, none⟩ = false :=
  ⟨h.frozen 0, h.frozen 1, h.frozen 2, h.frozen 3, h.frozen 4, h.frozen 5, h.frozen 6, h.frozen 7, h.frozen 8, h.frozen 9, h.frozen 10⟩
theorem Blk.row11 {w g t} {c0 c1 c2 c3 c4 c5 c6 c7 c8 c9 c10 : Value} (h : Blk w g t #[c0, c1, c2, c3, c4, c5, c6, c7, c8, c9, c10]) (v0 v1 v2 v3 v4 v5 v6 v7 v8 v9 v10 : Value) : ∃ N, (((((((((((w.setCell ⟨g, 0, none⟩ v0).setCell ⟨g, 1, none⟩ v1).setCell ⟨g, 2, none⟩ v2).setCell ⟨g, 3, none⟩ v3).setCell ⟨g, 4, none⟩ v4).setCell ⟨g, 5, none⟩ v5).setCell ⟨g, 6, none⟩ v6).setCell ⟨g, 7, none⟩ v7).setCell ⟨g, 8, none⟩ v8).setCell ⟨g, 9, none⟩ v9).setCell ⟨g, 10, none⟩ v10) = N ∧ Blk N g t #[v0, v1, v2, v3, v4, v5, v6, v7, v8, v9, v10] ∧ Only [g] w N := by
  have g0 : Only [g] w (w.setCell ⟨g, 0, none⟩ v0) := (Only.refl _ _).setCell _ _ (by simp)
  replace h := h.set_ 0 v0
  generalize w.setCell ⟨g, 0, none⟩ v0 = w0 at *
  have g1 : Only [g] w0 (w0.setCell ⟨g, 1, none⟩ v1) := (Only.refl _ _).setCell _ _ (by simp)
  replace h := h.set_ 1 v1
  generalize w0.setCell ⟨g, 1, none⟩ v1 = w1 at *
  replace g0 := g0.trans g1
  have g2 : Only [g] w1 (w1.setCell ⟨g, 2, none⟩ v2) := (Only.refl _ _).setCell _ _ (by simp)
  replace h := h.set_ 2 v2
  generalize w1.setCell ⟨g, 2, none⟩ v2 = w2 at *
  replace g0 := g0.trans g2
  have g3 : Only [g] w2 (w2.setCell ⟨g, 3, none⟩ v3) := (Only.refl _ _).setCell _ _ (by simp)
  replace h := h.set_ 3 v3
  generalize w2.setCell ⟨g, 3, none⟩ v3 = w3 at *
  replace g0 := g0.trans g3
  have g4 : Only [g] w3 (w3.setCell ⟨g, 4, none⟩ v4) := (Only.refl _ _).setCell _ _ (by simp)
  replace h := h.set_ 4 v4
  generalize w3.setCell ⟨g, 4, none⟩ v4 = w4 at *
  replace g0 := g0.trans g4
  have g5 : Only [g] w4 (w4.setCell ⟨g, 5, none⟩ v5) := (Only.refl _ _).setCell _ _ (by simp)
  replace h := h.set_ 5 v5
  generalize w4.setCell ⟨g, 5, none⟩ v5 = w5 at *
  replace g0 := g0.trans g5
  have g6 : Only [g] w5 (w5.setCell ⟨g, 6, none⟩ v6) := (Only.refl _ _).setCell _ _ (by simp)
  replace h := h.set_ 6 v6
  generalize w5.setCell ⟨g, 6, none⟩ v6 = w6 at *
  replace g0 := g0.trans g6
  have g7 : Only [g] w6 (w6.setCell ⟨g, 7, none⟩ v7) := (Only.refl _ _).setCell _ _ (by simp)
  replace h := h.set_ 7 v7
  generalize w6.setCell ⟨g, 7, none⟩ v7 = w7 at *
  replace g0 := g0.trans g7
  have g8 : Only [g] w7 (w7.setCell ⟨g, 8, none⟩ v8) := (Only.refl _ _).setCell _ _ (by simp)
  replace h := h.set_ 8 v8
  generalize w7.setCell ⟨g, 8, none⟩ v8 = w8 at *
  replace g0 := g0.trans g8
  have g9 : Only [g] w8 (w8.setCell ⟨g, 9, none⟩ v9) := (Only.refl _ _).setCell _ _ (by simp)
  replace h := h.set_ 9 v9
  generalize w8.setCell ⟨g, 9, none⟩ v9 = w9 at *
  replace g0 := g0.trans g9
  have g10 : Only [g] w9 (w9.setCell ⟨g, 10, none⟩ v10) := (Only.refl _ _).setCell _ _ (by simp)
  replace h := h.set_ 10 v10
  generalize w9.setCell ⟨g, 10, none⟩ v10 = w10 at *
  replace g0 := g0.trans g10
  simp only [List.setIfInBounds_toArray, List.set_cons_zero, List.set_cons_succ] at h
  exact ⟨_, rfl, h, g0⟩
theorem tk {P : Program} {ops : Array Oper} {Q : Exit → Act → World → Prop} {md : Region.Mode} {S : World → Prop} {i : Nat} {oi : Oper} {v : Value} {fuel : Nat} {listed : Array Bool} {a : Act} {w : World} (hS : S w) (hi : ops[i]? = some oi)
    (hy : ∀ w, S w → (execOp a.eval oi).run P w = .ok (.value v) w) (h : wpAnyH P md ops Q S fuel (listed.setIfInBounds i true) (a.put oi.dst v) w)
    (hw : Region.wanted oi (yielded ops a.tmps) = true := by rfl) (hs : Region.noSelect ops = true := by kernel_rfl) (hf : Region.free md ops listed i = true := by kernel_rfl) (hr : (Region.ready md ops listed).contains i = true := by kernel_rfl)
    (hQ : ∀ c a w, Q (.panic c) (a.put oi.dst v) w → Q (.panic c) a w := by exact fun _ _ _ h => h) : wpAnyH P md ops Q S (fuel + 1) listed a w :=
  wpAnyH_take hi hs hf hr hQ (Or.inl ⟨hw, hy⟩) hS h
theorem tko {P : Program} {ops : Array Oper} {Q : Exit → Act → World → Prop} {md : Region.Mode} {S : World → Prop} {i : Nat} {oi : Oper} {fuel : Nat} {listed : Array Bool} {a : Act} {w : World} (hS : S w) (hi : ops[i]? = some oi)
    (h : wpAnyH P md ops Q S fuel (listed.setIfInBounds i true) (a.put oi.dst undef) w)
    (hw : Region.wanted oi (yielded ops a.tmps) = false := by rfl) (hs : Region.noSelect ops = true := by kernel_rfl) (hf : Region.free md ops listed i = true := by kernel_rfl) (hr : (Region.ready md ops listed).contains i = true := by kernel_rfl)
    (hQ : ∀ c a w, Q (.panic c) (a.put oi.dst undef) w → Q (.panic c) a w := by exact fun _ _ _ h => h) : wpAnyH P md ops Q S (fuel + 1) listed a w :=
  wpAnyH_take hi hs hf hr hQ (Or.inr ⟨hw, rfl⟩) hS h
theorem pt_ : (∀ (t : Array Value) (s : List Deferred) (d : Tmp) (v : Value), Act.put ⟨t, s⟩ (some d) v = ⟨t.setIfInBounds d v, s⟩) ∧ (∀ (t : Array Value) (s : List Deferred) (v : Value), Act.put ⟨t, s⟩ none v = ⟨t, s⟩) ∧
    (∀ (l : List Value) (i : Nat) (v : Value), l.toArray.setIfInBounds i v = (l.set i v).toArray) ∧ (∀ (l : List Bool) (i : Nat) (v : Bool), l.toArray.setIfInBounds i v = (l.set i v).toArray) ∧
    (∀ (x : Value) (l : List Value) (v : Value), (x :: l).set 0 v = v :: l) ∧ (∀ (x : Value) (l : List Value) (i : Nat) (v : Value), (x :: l).set (i + 1) v = x :: l.set i v) ∧
    (∀ (x : Bool) (l : List Bool) (v : Bool), (x :: l).set 0 v = v :: l) ∧ (∀ (x : Bool) (l : List Bool) (i : Nat) (v : Bool), (x :: l).set (i + 1) v = x :: l.set i v) :=
  ⟨fun _ _ _ _ => rfl, fun _ _ _ => rfl, fun _ _ _ => by simp, fun _ _ _ => by simp, fun _ _ _ => rfl, fun _ _ _ _ => rfl, fun _ _ _ => rfl, fun _ _ _ _ => rfl⟩
-- blk>
end Go.Proofs.YtjndhgjmnoiegaaDoor
