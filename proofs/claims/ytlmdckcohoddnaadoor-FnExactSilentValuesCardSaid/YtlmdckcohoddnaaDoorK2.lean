/- Lemmas and walks that the claim's proof rests on, part 2. -/
import Derived.Deep.RegionHeld
import Derived.ArgAppend
import Derived.Test.YtlmdckcohoddnaaDoorK1
namespace Go.Proofs.YtlmdckcohoddnaaDoor
open Go.RowKit
def foot (a : Option Addr) (c : Nat) : List Nat := (rowOf a c).toList
structure Only (F : List Nat) (w w' : World) : Prop where
  os : w'.os = w.os
  tape : w'.tape = w.tape
  output : w'.output = w.output
  size : w.heap.size ≤ w'.heap.size
  block : ∀ k, k < w.heap.size → k ∉ F → w'.heap[k]? = w.heap[k]?
theorem Only.refl (F : List Nat) (w : World) : Only F w w := ⟨rfl, rfl, rfl, Nat.le_refl _, fun _ _ _ => rfl⟩
theorem Only.trans {F w w1 w2} (h : Only F w w1) (k : Only F w1 w2) : Only F w w2 :=
  ⟨k.os.trans h.os, k.tape.trans h.tape, k.output.trans h.output, Nat.le_trans h.size k.size, fun i hi hn => (k.block i (Nat.lt_of_lt_of_le hi h.size) hn).trans (h.block i hi hn)⟩
theorem Only.more {F F' w w'} (h : Only F w w') (hs : ∀ k ∈ F, k ∈ F') : Only F' w w' :=
  ⟨h.os, h.tape, h.output, h.size, fun i hi hn => h.block i hi (fun hm => hn (hs i hm))⟩
theorem Only.of_grown {w w' : World} {a : Option Addr} {c : Nat} (h : w.grownBy w' (rowOf a c)) : Only (foot a c) w w' :=
  ⟨h.os, h.tape, h.output, h.size, fun i hi hn => h.block i hi (fun e => hn (by unfold foot; rw [← e]; simp))⟩
theorem Only.of_below {F : List Nat} {w w' : World} (h : Below w.heap.size w w') : Only F w w' :=
  ⟨h.os, h.tape, h.output, h.size, fun i hi _ => h.block i hi⟩
theorem Only.below {F : List Nat} {w w' : World} {B : Nat} (h : Only F w w') (hB : B ≤ w.heap.size) (hF : ∀ k ∈ F, B ≤ k) : Below B w w' :=
  ⟨h.os, h.tape, h.output, h.size, fun i hi => h.block i (by omega) (fun hm => by have := hF i hm; omega)⟩
theorem Only.left {F G w w'} (h : Only F w w') : Only (F ++ G) w w' := h.more fun _ hk => List.mem_append_left _ hk
theorem Only.right {F G w w'} (h : Only G w w') : Only (F ++ G) w w' := h.more fun _ hk => List.mem_append_right _ hk
theorem mem_foot {a : Option Addr} {c k : Nat} (h : k ∈ foot a c) : ∃ x, a = some x ∧ 0 < c ∧ k = x.block := by
  unfold foot rowOf at h
  split at h
  · simp at h
  · cases a with
    | none => simp at h
    | some x => simp at h; exact ⟨x, rfl, by omega, h⟩
theorem foot_mem {x : Addr} {c : Nat} (h : 0 < c) : x.block ∈ foot (some x) c := by
  unfold foot rowOf
  rw [if_neg (by omega)]
  simp
theorem OwnC.feet {w b a n c e sz xs} (h : OwnC w b a n c e sz xs) : ∀ k ∈ foot a c, b ≤ k ∧ k < w.heap.size := fun k hk => by
  obtain ⟨x, hx, hc, rfl⟩ := mem_foot hk
  exact h.range x hc hx
theorem OwnC.only {F : List Nat} {w w' : World} {b a n c e sz xs} (h : OwnC w b a n c e sz xs) (ho : Only F w w') (hd : ∀ k ∈ foot a c, k ∉ F) : OwnC w' b a n c e sz xs :=
  ⟨h.1, h.2.1, h.2.2.1, h.2.2.2.1, fun hc => by
    obtain ⟨g, cur, h1, h2, h3, h4⟩ := h.2.2.2.2 hc
    exact ⟨g, cur, h1, h2, by rw [ho.block g (Array.getElem?_eq_some_iff.1 h3).1 (hd g (by rw [h1]; exact foot_mem hc))]; exact h3, h4⟩⟩
def Disj (F G : List Nat) : Prop := ∀ k ∈ F, k ∉ G
theorem Disj.symm {F G} (h : Disj F G) : Disj G F := fun k hk hf => h k hf hk
theorem Disj.of_rng {F G : List Nat} {a b c d : Nat} (hF : ∀ k ∈ F, a ≤ k ∧ k < b) (hG : ∀ k ∈ G, c ≤ k ∧ k < d) (h : b ≤ c ∨ d ≤ a) : Disj F G := fun k hk hg => by
  have := hF k hk; have := hG k hg; omega
theorem Apart.disj {a c a' c'} (h : Apart a c a' c') : Disj (foot a c) (foot a' c') := fun k hk hk' => by
  obtain ⟨x, hx, hc, rfl⟩ := mem_foot hk
  obtain ⟨y, hy, hc', e⟩ := mem_foot hk'
  exact h x y hc hc' hx hy e
theorem Disj.app {F G G'} (h : Disj F G) (h' : Disj F G') : Disj F (G ++ G') := fun k hk hm => by
  rcases List.mem_append.1 hm with hm | hm
  · exact h k hk hm
  · exact h' k hk hm
theorem Disj.app_l {F F' G} (h : Disj F G) (h' : Disj F' G) : Disj (F ++ F') G := fun k hk => by
  rcases List.mem_append.1 hk with hm | hm
  · exact h k hm
  · exact h' k hm
theorem Disj.nil_l (F : List Nat) : Disj [] F := fun _ hk => by cases hk
theorem Disj.nil_r (F : List Nat) : Disj F [] := fun _ _ hk => by cases hk
def Flat (k : Nat) (w : World) (a : Option Addr) (n c : Nat) (l : List Int) : Prop := RowC w a n c k (l.map (Value.int .i64))
def OwnF (k e : Nat) (w : World) (b : Nat) (a : Option Addr) (n c : Nat) (l : List Int) : Prop := OwnC w b a n c e k (l.map (Value.int .i64))
theorem Flat.len {k w a n c l} (h : Flat k w a n c l) : l.length = n * k := by have := h.1; simpa using this
theorem Flat.cap {k w a n c l} (h : Flat k w a n c l) : n ≤ c ∧ c ≤ maxLen := ⟨h.2.1, h.2.2.1⟩
theorem Flat.le {k w a n c l} (h : Flat k w a n c l) : (n : Int) ≤ 9223372036854775807 := by
  have := h.2.1; have := h.2.2.1; unfold maxLen at this; omega
theorem Flat.below {k w w' a n c l} (h : Flat k w a n c l) (hb : Below w.heap.size w w') : Flat k w' a n c l := RowC.below h hb
theorem Flat.alloc {k w a n c l} (h : Flat k w a n c l) (o : Obj) : Flat k (w.alloc o) a n c l := h.below ((Below.refl _ _).alloc (Nat.le_refl _) _)
theorem Flat.drewN {k w a n c l} (h : Flat k w a n c l) (m : Nat) : Flat k (w.drewN m) a n c l := h.below (below_of_drewN m)
theorem Flat.drew {k w a n c l} (h : Flat k w a n c l) : Flat k w.drew a n c l := h.below ((Below.refl _ _).drew)
theorem Flat.at {k w a n c l} (h : Flat k w a n c l) (hn : 0 < n) : ∃ g o, a = some ⟨g, o, none⟩ ∧ ∀ j, j < n * k → w.cell? ⟨g, o + j, none⟩ = some (.int .i64 (l.getD j 0)) := by
  have hl := h.len
  obtain ⟨_, _, _, _, g, o, h1, h2⟩ := h
  exact ⟨g, o, h1 hn, fun j hj => h2 j _ (by simp [List.getD, show j < l.length by omega])⟩
theorem OwnF.flat {k e w b a n c l} (h : OwnF k e w b a n c l) : Flat k w a n c l := h.row
theorem OwnF.len {k e w b a n c l} (h : OwnF k e w b a n c l) : l.length = n * k := h.flat.len
theorem OwnF.cap {k e w b a n c l} (h : OwnF k e w b a n c l) : n ≤ c ∧ c ≤ maxLen := h.flat.cap
theorem OwnF.below {k e w w' b a n c l} (h : OwnF k e w b a n c l) (hb : Below w.heap.size w w') : OwnF k e w' b a n c l := OwnC.below h hb
theorem OwnF.lower {k e w b b' a n c l} (h : OwnF k e w b a n c l) (hb : b' ≤ b) : OwnF k e w b' a n c l := OwnC.lower h hb
theorem OwnF.alloc {k e w b a n c l} (h : OwnF k e w b a n c l) (o : Obj) : OwnF k e (w.alloc o) b a n c l := h.below ((Below.refl _ _).alloc (Nat.le_refl _) _)
theorem OwnF.drew {k e w b a n c l} (h : OwnF k e w b a n c l) : OwnF k e w.drew b a n c l := h.below ((Below.refl _ _).drew)
theorem OwnF.drewN {k e w b a n c l} (h : OwnF k e w b a n c l) (m : Nat) : OwnF k e (w.drewN m) b a n c l := h.below (below_of_drewN m)
theorem OwnF.feet {k e w b a n c l} (h : OwnF k e w b a n c l) : ∀ k ∈ foot a c, b ≤ k ∧ k < w.heap.size := OwnC.feet h
theorem OwnF.only {F : List Nat} {k e : Nat} {w w' : World} {b a n c l} (h : OwnF k e w b a n c l) (ho : Only F w w') (hd : Disj (foot a c) F) : OwnF k e w' b a n c l := OwnC.only h ho hd
theorem Own.feet {w b a n c l} (h : Own w b a n c l) : ∀ k ∈ foot a c, b ≤ k ∧ k < w.heap.size := OwnC.feet h
theorem Own.only {F : List Nat} {w w' : World} {b a n c l} (h : Own w b a n c l) (ho : Only F w w') (hd : Disj (foot a c) F) : Own w' b a n c l := OwnC.only h ho hd
theorem OwnF.at {k e w b a n c l} (h : OwnF k e w b a n c l) (j : Nat) (hj : j < n * k) : ∃ g, a = some ⟨g, 0, none⟩ ∧ b ≤ g ∧ g < w.heap.size ∧ w.cell? ⟨g, j, none⟩ = some (.int .i64 (l.getD j 0)) ∧ w.frozen? ⟨g, j, none⟩ = false ∧
    ∀ x, OwnF k e (w.setCell ⟨g, j, none⟩ (.int .i64 x)) b (some ⟨g, 0, none⟩) n c (l.set j x) := by
  obtain ⟨g, rfl, hb, hg, ⟨u, hu, hc⟩, hf, hs⟩ := OwnC.atC h j hj
  have hl : j < l.length := by rw [h.len]; exact hj
  refine ⟨g, rfl, hb, hg, ?_, hf, fun x => by unfold OwnF; rw [List.map_set]; exact hs _⟩
  rw [hc, ← hu]
  simp [List.getD, hl]
theorem OwnF.cf {k e w b g n c l} (h : OwnF k e w b (some ⟨g, 0, none⟩) n c l) (j : Nat) (hj : j < n * k) : w.cell? ⟨g, j, none⟩ = some (.int .i64 (l.getD j 0)) ∧ w.frozen? ⟨g, j, none⟩ = false := by
  obtain ⟨_, E, _, _, h1, h2, _⟩ := h.at j hj
  cases E
  exact ⟨h1, h2⟩
theorem OwnF.put {k e w b g n c l} (h : OwnF k e w b (some ⟨g, 0, none⟩) n c l) (j : Nat) (hj : j < n * k) (x : Int) : OwnF k e (w.setCell ⟨g, j, none⟩ (.int .i64 x)) b (some ⟨g, 0, none⟩) n c (l.set j x) := by
  obtain ⟨_, E, _, _, _, _, h3⟩ := h.at j hj
  cases E
  exact h3 x
theorem Only.setCell {F : List Nat} {w w' : World} (h : Only F w w') (p : Addr) (u : Value) (hp : p.block ∈ F) : Only F w (w'.setCell p u) :=
  ⟨h.os, h.tape, h.output, by have := h.size; simpa [World.setCell] using this, fun k hk hne => by
    rw [Below.heap_setCell _ _ _ _ (by intro e; subst e; exact hne hp)]; exact h.block k hk hne⟩
theorem Only.alloc {F : List Nat} {w w' : World} (h : Only F w w') (o : Obj) : Only F w (w'.alloc o) :=
  h.trans (Only.of_below ((Below.refl _ _).alloc (Nat.le_refl _) _))
theorem Only.drew {F : List Nat} {w w' : World} (h : Only F w w') : Only F w w'.drew :=
  h.trans (Only.of_below ((Below.refl _ _).drew))
def Blk (w : World) (g : Nat) (t : TypeId) (cs : Array Value) : Prop := w.heap[g]? = some (.cells cs t (0, 0))
theorem Blk.lt {w g t cs} (h : Blk w g t cs) : g < w.heap.size := by
  rcases Nat.lt_or_ge g w.heap.size with hlt | hge
  · exact hlt
  · unfold Blk at h; rw [Array.getElem?_eq_none hge] at h; cases h
theorem Blk.cell {w g t cs} (h : Blk w g t cs) (i : Nat) : w.cell? ⟨g, i, none⟩ = cs[i]? := cell_of_row w g i cs t (0, 0) h
theorem Blk.frozen {w g t cs} (h : Blk w g t cs) (i : Nat) : w.frozen? ⟨g, i, none⟩ = false := by
  unfold Blk at h
  simp [World.frozen?, h]
theorem Blk.new (w : World) (t : TypeId) (cs : Array Value) : Blk (w.alloc (.cells cs t)) w.heap.size t cs := heap_alloc_new w _
theorem Blk.below {w w' g t cs} (h : Blk w g t cs) (hb : Below w.heap.size w w') : Blk w' g t cs := (hb.block g h.lt).trans h
theorem Blk.alloc {w g t cs} (h : Blk w g t cs) (o : Obj) : Blk (w.alloc o) g t cs := (Below.heap_alloc w o g h.lt).trans h
theorem Blk.drew {w g t cs} (h : Blk w g t cs) : Blk w.drew g t cs := h
theorem Blk.only {F : List Nat} {w w' g t cs} (h : Blk w g t cs) (ho : Only F w w') (hg : g ∉ F) : Blk w' g t cs := (ho.block g h.lt hg).trans h
theorem Blk.set_ {w g t cs} (h : Blk w g t cs) (i : Nat) (u : Value) : Blk (w.setCell ⟨g, i, none⟩ u) g t (cs.setIfInBounds i u) := by
  unfold Blk at h ⊢
  simp [World.setCell, Array.getElem?_modify, h]
theorem Blk.far {w g t cs} (h : Blk w g t cs) {p : Addr} (hp : g ≠ p.block) (u : Value) : Blk (w.setCell p u) g t cs := (Below.heap_setCell w p u g hp).trans h
-- blk<
theorem Blk.new_ (w : World) {b : Nat} (hb : w.heap.size = b) (t : TypeId) (c : Array Value) : ∃ N, w.alloc (.cells c t) = N ∧ Blk N b t c ∧ N.heap.size = b + 1 ∧ Below w.heap.size w N :=
  ⟨_, rfl, hb ▸ Blk.new w t c, by simp [hb], (Below.refl _ _).alloc (Nat.le_refl _) _⟩
theorem Blk.a1_0 {w g t} {c0 : Value} (h : Blk w g t #[c0]) : w.cell? ⟨g, 0, none⟩ = some c0 := h.cell 0
theorem Blk.a2_0 {w g t} {c0 c1 : Value} (h : Blk w g t #[c0, c1]) : w.cell? ⟨g, 0, none⟩ = some c0 := h.cell 0
theorem Blk.a2_1 {w g t} {c0 c1 : Value} (h : Blk w g t #[c0, c1]) : w.cell? ⟨g, 1, none⟩ = some c1 := h.cell 1
theorem Blk.all2 {w g t} {c0 c1 : Value} (h : Blk w g t #[c0, c1]) : w.cell? ⟨g, 0, none⟩ = some c0 ∧ w.cell? ⟨g, 1, none⟩ = some c1 :=
  ⟨h.cell 0, h.cell 1⟩
theorem Blk.frz2 {w g t} {c0 c1 : Value} (h : Blk w g t #[c0, c1]) : w.frozen? ⟨g, 0, none⟩ = false ∧ w.frozen? ⟨g, 1, none⟩ = false :=
  ⟨h.frozen 0, h.frozen 1⟩
theorem Blk.row2 {w g t} {c0 c1 : Value} (h : Blk w g t #[c0, c1]) (v0 v1 : Value) : ∃ N, ((w.setCell ⟨g, 0, none⟩ v0).setCell ⟨g, 1, none⟩ v1) = N ∧ Blk N g t #[v0, v1] ∧ Only [g] w N := by
  have g0 : Only [g] w (w.setCell ⟨g, 0, none⟩ v0) := (Only.refl _ _).setCell _ _ (by simp)
  replace h := h.set_ 0 v0
  generalize w.setCell ⟨g, 0, none⟩ v0 = w0 at *
  have g1 : Only [g] w0 (w0.setCell ⟨g, 1, none⟩ v1) := (Only.refl _ _).setCell _ _ (by simp)
  replace h := h.set_ 1 v1
  generalize w0.setCell ⟨g, 1, none⟩ v1 = w1 at *
  replace g0 := g0.trans g1
  simp only [List.setIfInBounds_toArray, List.set_cons_zero, List.set_cons_succ] at h
  exact ⟨_, rfl, h, g0⟩
theorem Blk.a3_0 {w g t} {c0 c1 c2 : Value} (h : Blk w g t #[c0, c1, c2]) : w.cell? ⟨g, 0, none⟩ = some c0 := h.cell 0
theorem Blk.a3_1 {w g t} {c0 c1 c2 : Value} (h : Blk w g t #[c0, c1, c2]) : w.cell? ⟨g, 1, none⟩ = some c1 := h.cell 1
theorem Blk.a3_2 {w g t} {c0 c1 c2 : Value} (h : Blk w g t #[c0, c1, c2]) : w.cell? ⟨g, 2, none⟩ = some c2 := h.cell 2
theorem Blk.all3 {w g t} {c0 c1 c2 : Value} (h : Blk w g t #[c0, c1, c2]) : w.cell? ⟨g, 0, none⟩ = some c0 ∧ w.cell? ⟨g, 1, none⟩ = some c1 ∧ w.cell? ⟨g, 2, none⟩ = some c2 :=
  ⟨h.cell 0, h.cell 1, h.cell 2⟩
theorem Blk.frz3 {w g t} {c0 c1 c2 : Value} (h : Blk w g t #[c0, c1, c2]) : w.frozen? ⟨g, 0, none⟩ = false ∧ w.frozen? ⟨g, 1, none⟩ = false ∧ w.frozen? ⟨g, 2, none⟩ = false :=
  ⟨h.frozen 0, h.frozen 1, h.frozen 2⟩
theorem Blk.row3 {w g t} {c0 c1 c2 : Value} (h : Blk w g t #[c0, c1, c2]) (v0 v1 v2 : Value) : ∃ N, (((w.setCell ⟨g, 0, none⟩ v0).setCell ⟨g, 1, none⟩ v1).setCell ⟨g, 2, none⟩ v2) = N ∧ Blk N g t #[v0, v1, v2] ∧ Only [g] w N := by
  have g0 : Only [g] w (w.setCell ⟨g, 0, none⟩ v0) := (Only.refl _ _).setCell _ _ (by simp)
  replace h := h.set_ 0 v0
  generalize w.setCell ⟨g, 0, none⟩ v0 = w0 at *
  have g1 : Only [g] w0 (w0.setCell ⟨g, 1, none⟩ v1) := (Only.refl _ _).setCell _ _ (by simp)
  replace h := h.set_ 1 v1
  generalize w0.setCell ⟨g, 1, none⟩ v1 = w1 at *
  replace g0 := g0.trans g1
  have g2 : Only [g] w1 (w1.setCell ⟨g, 2, none⟩ v2) := (Only.refl _ _).setCell _ _ (by simp)
  replace h := h.set_ 2 v2
  generalize w1.setCell ⟨g, 2, none⟩ v2 = w2 at *
  replace g0 := g0.trans g2
  simp only [List.setIfInBounds_toArray, List.set_cons_zero, List.set_cons_succ] at h
  exact ⟨_, rfl, h, g0⟩
theorem Blk.all4 {w g t} {c0 c1 c2 c3 : Value} (h : Blk w g t #[c0, c1, c2, c3]) : w.cell? ⟨g, 0, none⟩ = some c0 ∧ w.cell? ⟨g, 1, none⟩ = some c1 ∧ w.cell? ⟨g, 2, none⟩ = some c2 ∧ w.cell? ⟨g, 3, none⟩ = some c3 :=
  ⟨h.cell 0, h.cell 1, h.cell 2, h.cell 3⟩
theorem Blk.a11_0 {w g t} {c0 c1 c2 c3 c4 c5 c6 c7 c8 c9 c10 : Value} (h : Blk w g t #[c0, c1, c2, c3, c4, c5, c6, c7, c8, c9, c10]) : w.cell? ⟨g, 0, none⟩ = some c0 := h.cell 0
theorem Blk.a11_1 {w g t} {c0 c1 c2 c3 c4 c5 c6 c7 c8 c9 c10 : Value} (h : Blk w g t #[c0, c1, c2, c3, c4, c5, c6, c7, c8, c9, c10]) : w.cell? ⟨g, 1, none⟩ = some c1 := h.cell 1
theorem Blk.a11_2 {w g t} {c0 c1 c2 c3 c4 c5 c6 c7 c8 c9 c10 : Value} (h : Blk w g t #[c0, c1, c2, c3, c4, c5, c6, c7, c8, c9, c10]) : w.cell? ⟨g, 2, none⟩ = some c2 := h.cell 2
theorem Blk.a11_3 {w g t} {c0 c1 c2 c3 c4 c5 c6 c7 c8 c9 c10 : Value} (h : Blk w g t #[c0, c1, c2, c3, c4, c5, c6, c7, c8, c9, c10]) : w.cell? ⟨g, 3, none⟩ = some c3 := h.cell 3
theorem Blk.a11_4 {w g t} {c0 c1 c2 c3 c4 c5 c6 c7 c8 c9 c10 : Value} (h : Blk w g t #[c0, c1, c2, c3, c4, c5, c6, c7, c8, c9, c10]) : w.cell? ⟨g, 4, none⟩ = some c4 := h.cell 4
theorem Blk.a11_5 {w g t} {c0 c1 c2 c3 c4 c5 c6 c7 c8 c9 c10 : Value} (h : Blk w g t #[c0, c1, c2, c3, c4, c5, c6, c7, c8, c9, c10]) : w.cell? ⟨g, 5, none⟩ = some c5 := h.cell 5
theorem Blk.a11_6 {w g t} {c0 c1 c2 c3 c4 c5 c6 c7 c8 c9 c10 : Value} (h : Blk w g t #[c0, c1, c2, c3, c4, c5, c6, c7, c8, c9, c10]) : w.cell? ⟨g, 6, none⟩ = some c6 := h.cell 6
theorem Blk.a11_7 {w g t} {c0 c1 c2 c3 c4 c5 c6 c7 c8 c9 c10 : Value} (h : Blk w g t #[c0, c1, c2, c3, c4, c5, c6, c7, c8, c9, c10]) : w.cell? ⟨g, 7, none⟩ = some c7 := h.cell 7
theorem Blk.a11_8 {w g t} {c0 c1 c2 c3 c4 c5 c6 c7 c8 c9 c10 : Value} (h : Blk w g t #[c0, c1, c2, c3, c4, c5, c6, c7, c8, c9, c10]) : w.cell? ⟨g, 8, none⟩ = some c8 := h.cell 8
theorem Blk.a11_9 {w g t} {c0 c1 c2 c3 c4 c5 c6 c7 c8 c9 c10 : Value} (h : Blk w g t #[c0, c1, c2, c3, c4, c5, c6, c7, c8, c9, c10]) : w.cell? ⟨g, 9, none⟩ = some c9 := h.cell 9
theorem Blk.a11_10 {w g t} {c0 c1 c2 c3 c4 c5 c6 c7 c8 c9 c10 : Value} (h : Blk w g t #[c0, c1, c2, c3, c4, c5, c6, c7, c8, c9, c10]) : w.cell? ⟨g, 10, none⟩ = some c10 := h.cell 10
theorem Blk.all11 {w g t} {c0 c1 c2 c3 c4 c5 c6 c7 c8 c9 c10 : Value} (h : Blk w g t #[c0, c1, c2, c3, c4, c5, c6, c7, c8, c9, c10]) : w.cell? ⟨g, 0, none⟩ = some c0 ∧ w.cell? ⟨g, 1, none⟩ = some c1 ∧ w.cell? ⟨g, 2, none⟩ = some c2 ∧ w.cell? ⟨g, 3, none⟩ = some c3 ∧ w.cell? ⟨g, 4, none⟩ = some c4 ∧ w.cell? ⟨g, 5, none⟩ = some c5 ∧ w.cell? ⟨g, 6, none⟩ = some c6 ∧ w.cell? ⟨g, 7, none⟩ = some c7 ∧ w.cell? ⟨g, 8, none⟩ = some c8 ∧ w.cell? ⟨g, 9, none⟩ = some c9 ∧ w.cell? ⟨g, 10, none⟩ = some c10 :=
  ⟨h.cell 0, h.cell 1, h.cell 2, h.cell 3, h.cell 4, h.cell 5, h.cell 6, h.cell 7, h.cell 8, h.cell 9, h.cell 10⟩
theorem Blk.frz11 {w g t} {c0 c1 c2 c3 c4 c5 c6 c7 c8 c9 c10 : Value} (h : Blk w g t #[c0, c1, c2, c3, c4, c5, c6, c7, c8, c9, c10]) : w.frozen? ⟨g, 0, none⟩ = false ∧ w.frozen? ⟨g, 1, none⟩ = false ∧ w.frozen? ⟨g, 2, none⟩ = false ∧ w.frozen? ⟨g, 3, none⟩ = false ∧ w.frozen? ⟨g, 4, none⟩ = false ∧ w.frozen? ⟨g, 5, none⟩ = false ∧ w.frozen? ⟨g, 6, none⟩ = false ∧ w.frozen? ⟨g, 7, none⟩ = false ∧ w.frozen? ⟨g, 8, none⟩ = false ∧ w.frozen? ⟨g, 9, none⟩ = false ∧ w.frozen? ⟨g, 10, none⟩ = false :=
  ⟨h.frozen 0, h.frozen 1, h.frozen 2, h.frozen 3, h.frozen 4, h.frozen 5, h.frozen 6, h.frozen 7, h.frozen 8, h.frozen 9, h.frozen 10⟩
theorem Blk.row11 {w g t} {c0 c1 c2 c3 c4 c5 c6 c7 c8 c9 c10 : Value} (h : Blk w g t #[c0, c1, c2, c3, c4, c5, c6, c7, c8, c9, c10]) (v0 v1 v2 v3 v4 v5 v6 v7 v8 v9 v10 : Value) : ∃ N, (((((((((((w.setCell ⟨g, 0, none⟩ v0).setCell ⟨g, 1, none⟩ v1).setCell ⟨g, 2, none⟩ v2).setCell ⟨g, 3, none⟩ v3).setCell ⟨g, 4, none⟩ v4).setCell ⟨g, 5, none⟩ v5).setCell ⟨g, 6, none⟩ v6).setCell ⟨g, 7, none⟩ v7).setCell ⟨g, 8, none⟩ v8).setCell ⟨g, 9, none⟩ v9).setCell ⟨g, 10, none⟩ v10) = N ∧ Blk N g t #[v0, v1, v2, v3, v4, v5, v6, v7, v8, v9, v10] ∧ Only [g] w N := by
  have g0 : Only [g] w (w.setCell ⟨g, 0, none⟩ v0) := (Only.refl _ _).setCell _ _ (by simp)
  replace h := h.set_ 0 v0
  generalize w.setCell ⟨g, 0, none⟩ v0 = w0 at *
  have g1 : Only [g] w0 (w0.setCell ⟨g, 1, none⟩ v1) := (Only.refl _ _).setCell _ _ (by simp)
  replace h := h.set_ 1 v1
  generalize w0.setCell ⟨g, 1, none⟩ v1 = w1 at *
  replace g0 := g0.trans g1
  have g2 : Only [g] w1 (w1.setCell ⟨g, 2, none⟩ v2) := (Only.refl _ _).setCell _ _ (by simp)
  replace h := h.set_ 2 v2
  generalize w1.setCell ⟨g, 2, none⟩ v2 = w2 at *
  replace g0 := g0.trans g2
  have g3 : Only [g] w2 (w2.setCell ⟨g, 3, none⟩ v3) := (Only.refl _ _).setCell _ _ (by simp)
  replace h := h.set_ 3 v3
  generalize w2.setCell ⟨g, 3, none⟩ v3 = w3 at *
  replace g0 := g0.trans g3
  have g4 : Only [g] w3 (w3.setCell ⟨g, 4, none⟩ v4) := (Only.refl _ _).setCell _ _ (by simp)
  replace h := h.set_ 4 v4
  generalize w3.setCell ⟨g, 4, none⟩ v4 = w4 at *
  replace g0 := g0.trans g4
  have g5 : Only [g] w4 (w4.setCell ⟨g, 5, none⟩ v5) := (Only.refl _ _).setCell _ _ (by simp)
  replace h := h.set_ 5 v5
  generalize w4.setCell ⟨g, 5, none⟩ v5 = w5 at *
  replace g0 := g0.trans g5
  have g6 : Only [g] w5 (w5.setCell ⟨g, 6, none⟩ v6) := (Only.refl _ _).setCell _ _ (by simp)
  replace h := h.set_ 6 v6
  generalize w5.setCell ⟨g, 6, none⟩ v6 = w6 at *
  replace g0 := g0.trans g6
  have g7 : Only [g] w6 (w6.setCell ⟨g, 7, none⟩ v7) := (Only.refl _ _).setCell _ _ (by simp)
  replace h := h.set_ 7 v7
  generalize w6.setCell ⟨g, 7, none⟩ v7 = w7 at *
  replace g0 := g0.trans g7
  have g8 : Only [g] w7 (w7.setCell ⟨g, 8, none⟩ v8) := (Only.refl _ _).setCell _ _ (by simp)
  replace h := h.set_ 8 v8
  generalize w7.setCell ⟨g, 8, none⟩ v8 = w8 at *
  replace g0 := g0.trans g8
  have g9 : Only [g] w8 (w8.setCell ⟨g, 9, none⟩ v9) := (Only.refl _ _).setCell _ _ (by simp)
  replace h := h.set_ 9 v9
  generalize w8.setCell ⟨g, 9, none⟩ v9 = w9 at *
  replace g0 := g0.trans g9
  have g10 : Only [g] w9 (w9.setCell ⟨g, 10, none⟩ v10) := (Only.refl _ _).setCell _ _ (by simp)
  replace h := h.set_ 10 v10
  generalize w9.setCell ⟨g, 10, none⟩ v10 = w10 at *
  replace g0 := g0.trans g10
  simp only [List.setIfInBounds_toArray, List.set_cons_zero, List.set_cons_succ] at h
  exact ⟨_, rfl, h, g0⟩
theorem tk {P : Program} {ops : Array Oper} {Q : Exit → Act → World → Prop} {md : Region.Mode} {S : World → Prop} {i : Nat} {oi : Oper} {v : Value} {fuel : Nat} {listed : Array Bool} {a : Act} {w : World} (hS : S w) (hi : ops[i]? = some oi)
    (hy : ∀ w, S w → (execOp a.eval oi).run P w = .ok (.value v) w) (h : wpAnyH P md ops Q S fuel (listed.setIfInBounds i true) (a.put oi.dst v) w)
    (hw : Region.wanted oi (yielded ops a.tmps) = true := by rfl) (hs : Region.noSelect ops = true := by kernel_rfl) (hf : Region.free md ops listed i = true := by kernel_rfl) (hr : (Region.ready md ops listed).contains i = true := by kernel_rfl)
    (hQ : ∀ c a w, Q (.panic c) (a.put oi.dst v) w → Q (.panic c) a w := by exact fun _ _ _ h => h) : wpAnyH P md ops Q S (fuel + 1) listed a w :=
  wpAnyH_take hi hs hf hr hQ (Or.inl ⟨hw, hy⟩) hS h
theorem tko {P : Program} {ops : Array Oper} {Q : Exit → Act → World → Prop} {md : Region.Mode} {S : World → Prop} {i : Nat} {oi : Oper} {fuel : Nat} {listed : Array Bool} {a : Act} {w : World} (hS : S w) (hi : ops[i]? = some oi)
    (h : wpAnyH P md ops Q S fuel (listed.setIfInBounds i true) (a.put oi.dst undef) w)
    (hw : Region.wanted oi (yielded ops a.tmps) = false := by rfl) (hs : Region.noSelect ops = true := by kernel_rfl) (hf : Region.free md ops listed i = true := by kernel_rfl) (hr : (Region.ready md ops listed).contains i = true := by kernel_rfl)
    (hQ : ∀ c a w, Q (.panic c) (a.put oi.dst undef) w → Q (.panic c) a w := by exact fun _ _ _ h => h) : wpAnyH P md ops Q S (fuel + 1) listed a w :=
  wpAnyH_take hi hs hf hr hQ (Or.inr ⟨hw, rfl⟩) hS h
theorem pt_ : (∀ (t : Array Value) (s : List Deferred) (d : Tmp) (v : Value), Act.put ⟨t, s⟩ (some d) v = ⟨t.setIfInBounds d v, s⟩) ∧ (∀ (t : Array Value) (s : List Deferred) (v : Value), Act.put ⟨t, s⟩ none v = ⟨t, s⟩) ∧
    (∀ (l : List Value) (i : Nat) (v : Value), l.toArray.setIfInBounds i v = (l.set i v).toArray) ∧ (∀ (l : List Bool) (i : Nat) (v : Bool), l.toArray.setIfInBounds i v = (l.set i v).toArray) ∧
    (∀ (x : Value) (l : List Value) (v : Value), (x :: l).set 0 v = v :: l) ∧ (∀ (x : Value) (l : List Value) (i : Nat) (v : Value), (x :: l).set (i + 1) v = x :: l.set i v) ∧
    (∀ (x : Bool) (l : List Bool) (v : Bool), (x :: l).set 0 v = v :: l) ∧ (∀ (x : Bool) (l : List Bool) (i : Nat) (v : Bool), (x :: l).set (i + 1) v = x :: l.set i v) :=
  ⟨fun _ _ _ _ => rfl, fun _ _ _ => rfl, fun _ _ _ => by simp, fun _ _ _ => by simp, fun _ _ _ => rfl, fun _ _ _ _ => rfl, fun _ _ _ => rfl, fun _ _ _ _ => rfl⟩
-- blk>
theorem szIntS_yes (a : Option Addr) (n c : Nat) (left : Int) (w : World) (h0 : (n : Int) ≤ 9223372036854775807) (h1 : left ≤ 1048576) (h2 : (n : Int) ≤ left) :
    Calls Tryd.prog 53 #[.slice a n c, .int .i64 left] w fun e w' => e = .returned (.int .i64 (left - n)) ∧ w = w' := by
  go_enter Tryd.func53, Tryd.ntmps53
  go_wp2
  go_ret
  exact ⟨rfl, rfl⟩
theorem szIntS_no (a : Option Addr) (n c : Nat) (left : Int) (w : World) (h0 : (n : Int) ≤ 9223372036854775807) (h1 : 0 ≤ left ∧ left ≤ 1048576) (h2 : ¬ (n : Int) ≤ left) :
    Calls Tryd.prog 53 #[.slice a n c, .int .i64 left] w fun e w' => e = .returned (.int .i64 (-1)) ∧ w = w' := by
  have h3 : left - (n : Int) < 0 := by omega
  go_enter Tryd.func53, Tryd.ntmps53
  go_wp2
  go_ret
  exact ⟨rfl, rfl⟩
theorem eqIntS_b (a : Option Addr) (n c : Nat) (a' : Option Addr) (n' c' : Nat) (l : List Int) (w : World) (h : Ints w a n c l) (h' : Ints w a' n' c' l) :
    Calls Tryd.prog 22 #[.slice a n c, .slice a' n' c'] w fun e w' => e = .returned (.bool true) ∧ Below w.heap.size w w' :=
  (eqIntS_same a n c a' n' c' l w h h').mono fun _ _ ⟨he, hq⟩ => ⟨he, below_of_quiet hq⟩
theorem markIntS_o (a : Option Addr) (n c b : Nat) (l : List Int) (k0 : Int) (w : World) (h : Own w b a n c l) (h0 : 0 ≤ k0) (h1 : k0 + n ≤ 4000000000000000000) :
    Calls Tryd.prog 24 #[.slice a n c, .int .i64 k0] w fun e w' => e = .returned (.int .i64 (k0 + n)) ∧ (∃ l', Own w' b a n c l' ∧ UpFrom k0 l') ∧ Only (foot a c) w w' :=
  (markIntS_any a n c b l k0 w h h0 h1).mono fun _ _ ⟨he, hl, hg⟩ => ⟨he, hl, Only.of_grown hg⟩
theorem heldIntS_b (a : Option Addr) (n c : Nat) (l : List Int) (k0 : Int) (w : World) (h : Ints w a n c l) (hu : UpFrom k0 l) (h0 : 0 ≤ k0) (h1 : k0 + n ≤ 4000000000000000000) :
    Calls Tryd.prog 25 #[.slice a n c, .int .i64 k0] w fun e w' => e = .returned (.int .i64 (k0 + n)) ∧ Below w.heap.size w w' :=
  (heldIntS_any a n c l k0 w h hu h0 h1).mono fun _ _ ⟨he, hq⟩ => ⟨he, below_of_quiet hq⟩
end Go.Proofs.YtlmdckcohoddnaaDoor
namespace Go.Proofs.YtlmdckcohoddnaaDoor
open Go.RowKit
def tagB (p v t : Int) : Bool := elB p v && elB p t
theorem tagB_els (p v t : Int) : tagB p v t = elsB p [v, t] := by
  unfold tagB elB elsB allB; cases isPr p <;> simp
set_option maxHeartbeats 4000000 in
set_option maxRecDepth 100000 in
theorem isTagged_any (p v t : Int) (w : World) :
    Calls Tryd.prog 63 #[.int .i64 p, .agg #[.int .i64 v, .int .i64 t]] w fun e w' => e = .returned (.bool (tagB p v t)) ∧ Below w.heap.size w w' := by
  have V0 : Below w.heap.size w (w.alloc (.cells #[.int .i64 v, .int .i64 t] 81)) := (Below.refl _ _).alloc (Nat.le_refl _) _
  unfold tagB
  cases h1 : elB p v
  · simp only [Bool.false_and]
    go_enter Tryd.func63, Tryd.ntmps63
    go_wp2_with fail
    refine (isElement_any _ _ _).mono ?_; rintro e w' ⟨rfl, m, rfl⟩
    rw [h1]
    go_wp2
    go_ret
    exact ⟨rfl, below_drewN V0 _⟩
  · simp only [Bool.true_and]
    go_enter Tryd.func63, Tryd.ntmps63
    go_wp2_with fail
    refine (isElement_any _ _ _).mono ?_; rintro e w' ⟨rfl, m, rfl⟩
    rw [h1]
    go_wp2_with fail
    refine (isElement_any _ _ _).mono ?_; rintro e w' ⟨rfl, m', rfl⟩
    go_wp2
    go_ret
    exact ⟨rfl, by rw [← World.drewN_drewN]; exact below_drewN (below_drewN V0 _) _⟩
set_option maxHeartbeats 4000000 in
set_option maxRecDepth 100000 in
theorem tgGood_any (p v t : Int) (w : World) :
    Calls Tryd.prog 101 #[.int .i64 p, .agg #[.int .i64 v, .int .i64 t]] w fun e w' => e = .returned (.bool (tagB p v t)) ∧ Below w.heap.size w w' := by
  rw [tagB_els]
  have hI : Ints ((w.alloc (.cells #[.int .i64 v, .int .i64 t] 81)).alloc (.cells #[.int .i64 v, .int .i64 t] 3)) (some ⟨w.heap.size + 1, 0, none⟩) 2 2 [v, t] := by simpa using Ints.lit2 (w.alloc (.cells #[.int .i64 v, .int .i64 t] 81)) v t 3
  have V0 : Below w.heap.size w ((w.alloc (.cells #[.int .i64 v, .int .i64 t] 81)).alloc (.cells #[.int .i64 v, .int .i64 t] 3)) := ((Below.refl _ _).alloc (Nat.le_refl _) _).alloc (by simp) _
  go_enter Tryd.func101, Tryd.ntmps101
  go_wp2_with fail
  refine (fpIn_any _ _ 2 2 [v, t] _ hI).mono ?_; rintro e w' ⟨rfl, m, rfl⟩
  go_wp2
  go_ret
  exact ⟨rfl, below_drewN V0 _⟩
def holdB (p delta key v t : Int) : Bool := decide ((v * delta + key - t) % p = 0)
set_option maxHeartbeats 4000000 in
set_option maxRecDepth 100000 in
theorem holds_any (p delta key v t : Int) (w : World) (hp : 1 ≤ p) (hp2 : p ≤ 1000) (hd : 0 ≤ delta ∧ delta ≤ p - 1) (hk : 0 ≤ key ∧ key ≤ p - 1) (hv : 0 ≤ v ∧ v ≤ p - 1) (ht : 0 ≤ t ∧ t ≤ p - 1) :
    Calls Tryd.prog 144 #[.int .i64 p, .int .i64 delta, .int .i64 key, .agg #[.int .i64 v, .int .i64 t]] w fun e w' => e = .returned (.bool (holdB p delta key v t)) ∧ Below w.heap.size w w' := by
  have V0 : Below w.heap.size w (w.alloc (.cells #[.int .i64 v, .int .i64 t] 81)) := (Below.refl _ _).alloc (Nat.le_refl _) _
  have m1 : 0 ≤ v * delta := Int.mul_nonneg hv.1 hd.1
  have m2 : v * delta ≤ 1000 * 1000 := Int.mul_le_mul (by omega) (by omega) hd.1 (by omega)
  have t1 : IntKind.i64.wrap (v * delta) = v * delta := IntWalk.i64_in _ (by omega)
  have t2 : IntKind.i64.wrap (v * delta + key) = v * delta + key := IntWalk.i64_in _ (by omega)
  have t3 : IntKind.i64.wrap (v * delta + key - t) = v * delta + key - t := IntWalk.i64_in _ (by omega)
  unfold holdB
  go_enter Tryd.func144, Tryd.ntmps144
  go_wp2_with fail
  refine (mod_same _ _ _ hp (by omega)).mono ?_; rintro e w' ⟨rfl, rfl⟩
  go_wp2
  go_ret
  exact ⟨ret_bool (by rw [Bool.eq_iff_iff]; simp), V0⟩
theorem hold_eq {p x t : Int} (_hp : 1 ≤ p) (ht : 0 ≤ t ∧ t ≤ p - 1) : ((x - t) % p = 0) ↔ (x % p = t) := by
  constructor
  · intro h
    have h1 := Int.emod_emod_of_dvd x (Int.dvd_refl p)
    have h2 : x % p = t % p := (Int.emod_eq_emod_iff_emod_sub_eq_zero).2 h
    rw [h2, Int.emod_eq_of_lt ht.1 (by omega)]
  · intro h
    have h2 : x % p = t % p := by rw [h, Int.emod_eq_of_lt ht.1 (by omega)]
    exact (Int.emod_eq_emod_iff_emod_sub_eq_zero).1 h2
set_option maxHeartbeats 4000000 in
set_option maxRecDepth 100000 in
theorem tgHolds_any (p delta key v t : Int) (w : World) (hp : 1 ≤ p) (hp2 : p ≤ 1000) (hd : 0 ≤ delta ∧ delta ≤ p - 1) (hk : 0 ≤ key ∧ key ≤ p - 1) (hv : 0 ≤ v ∧ v ≤ p - 1) (ht : 0 ≤ t ∧ t ≤ p - 1) :
    Calls Tryd.prog 140 #[.int .i64 p, .int .i64 delta, .int .i64 key, .agg #[.int .i64 v, .int .i64 t]] w fun e w' => e = .returned (.bool (holdB p delta key v t)) ∧ Below w.heap.size w w' := by
  have V0 : Below w.heap.size w (w.alloc (.cells #[.int .i64 v, .int .i64 t] 81)) := (Below.refl _ _).alloc (Nat.le_refl _) _
  have m1 : 0 ≤ v * delta := Int.mul_nonneg hv.1 hd.1
  have m2 : v * delta ≤ 1000 * 1000 := Int.mul_le_mul (by omega) (by omega) hd.1 (by omega)
  have HE := Lib.hid (hold_eq (p := p) (x := v * delta + key) (t := t) hp ht)
  have t3 : (v * delta + key).tmod p = (v * delta + key) % p := Int.tmod_eq_emod_of_nonneg (by omega)
  have t1 : IntKind.i64.wrap (v * delta) = v * delta := IntWalk.i64_in _ (by omega)
  have t2 : IntKind.i64.wrap (v * delta + key) = v * delta + key := IntWalk.i64_in _ (by omega)
  have t4 : IntKind.i64.wrap ((v * delta + key) % p) = (v * delta + key) % p := IntWalk.i64_in _ (by have := Int.emod_nonneg (v * delta + key) (by omega : p ≠ 0); have := Int.emod_lt_of_pos (v * delta + key) (by omega : 0 < p); omega)
  unfold holdB
  go_enter Tryd.func140, Tryd.ntmps140
  go_wp2
  go_quiet (fail)
  go_wp2
  go_ret
  exact ⟨ret_bool (by rw [Bool.eq_iff_iff]; simp; exact HE.out.symm), below_drewN V0 _⟩
set_option maxHeartbeats 4000000 in
set_option maxRecDepth 100000 in
theorem tgAdd_any (p v t v' t' k : Int) (w : World) (hp : 1 ≤ p) (hp2 : p ≤ 1000) (hv : 0 ≤ v ∧ v ≤ p - 1) (ht : 0 ≤ t ∧ t ≤ p - 1) (hv' : 0 ≤ v' ∧ v' ≤ p - 1) (ht' : 0 ≤ t' ∧ t' ≤ p - 1) (hk : 0 ≤ k ∧ k ≤ p - 1) :
    Calls Tryd.prog 142 #[.int .i64 p, .agg #[.int .i64 v, .int .i64 t], .agg #[.int .i64 v', .int .i64 t'], .int .i64 k] w fun e w' => e = .returned (.agg #[.int .i64 ((v + k * v') % p), .int .i64 ((t + k * t') % p)]) ∧ Below w.heap.size w w' := by
  have m1 : 0 ≤ k * v' := Int.mul_nonneg hk.1 hv'.1
  have m2 : k * v' ≤ 1000 * 1000 := Int.mul_le_mul (by omega) (by omega) hv'.1 (by omega)
  have m3 : 0 ≤ k * t' := Int.mul_nonneg hk.1 ht'.1
  have m4 : k * t' ≤ 1000 * 1000 := Int.mul_le_mul (by omega) (by omega) ht'.1 (by omega)
  have t3 : (v + k * v').tmod p = (v + k * v') % p := Int.tmod_eq_emod_of_nonneg (by omega)
  have t4 : (t + k * t').tmod p = (t + k * t') % p := Int.tmod_eq_emod_of_nonneg (by omega)
  have s1 : IntKind.i64.wrap (k * v') = k * v' := IntWalk.i64_in _ (by omega)
  have s2 : IntKind.i64.wrap (v + k * v') = v + k * v' := IntWalk.i64_in _ (by omega)
  have s3 : IntKind.i64.wrap (k * t') = k * t' := IntWalk.i64_in _ (by omega)
  have s4 : IntKind.i64.wrap (t + k * t') = t + k * t' := IntWalk.i64_in _ (by omega)
  have s5 : IntKind.i64.wrap ((v + k * v') % p) = (v + k * v') % p := IntWalk.i64_in _ (by have := Int.emod_nonneg (v + k * v') (by omega : p ≠ 0); have := Int.emod_lt_of_pos (v + k * v') (by omega : 0 < p); omega)
  have s6 : IntKind.i64.wrap ((t + k * t') % p) = (t + k * t') % p := IntWalk.i64_in _ (by have := Int.emod_nonneg (t + k * t') (by omega : p ≠ 0); have := Int.emod_lt_of_pos (t + k * t') (by omega : 0 < p); omega)
  have t7 : (p == 0) = false := by simp; omega
  have t8 : (p = 0) = False := by simp; omega
  go_enter Tryd.func142, Tryd.ntmps142
  go_wp2
  go_region_held3 (fun W => W.cell? ⟨w.heap.size, 0, none⟩ = some (.int .i64 v) ∧ W.cell? ⟨w.heap.size, 1, none⟩ = some (.int .i64 t) ∧ W.cell? ⟨w.heap.size + 1, 0, none⟩ = some (.int .i64 v') ∧ W.cell? ⟨w.heap.size + 1, 1, none⟩ = some (.int .i64 t')) (go_keep) (fail)
  go_wp2
  exact bodyPost_ret (v := .agg #[.int .i64 ((v + k * v') % p), .int .i64 ((t + k * t') % p)]) (by simp [results, Tryd.results142, go_sem]) rfl ⟨rfl, by go_grown⟩
def tagAt (p : Int) (L : List Int) (i : Nat) : Bool := tagB p (L.getD (i * 2) 0) (L.getD (i * 2 + 1) 0)
def tagsB (p : Int) (L : List Int) (n : Nat) : Bool := (List.range n).all (tagAt p L)
theorem rangeAll_no {q : Nat → Bool} {n k : Nat} (hk : k < n) (h : q k = false) : (List.range n).all q = false := by
  rw [Bool.eq_false_iff]
  intro H
  have := List.all_eq_true.1 H k (List.mem_range.2 hk)
  rw [h] at this
  cases this
theorem rangeAll_yes {q : Nat → Bool} {n : Nat} (h : ∀ k, k < n → q k = true) : (List.range n).all q = true :=
  List.all_eq_true.2 fun k hk => h k (List.mem_range.1 hk)
theorem rangeAll_at {q : Nat → Bool} {n : Nat} (h : (List.range n).all q = true) (k : Nat) (hk : k < n) : q k = true := List.all_eq_true.1 h k (List.mem_range.2 hk)
set_option maxHeartbeats 4000000 in
set_option maxRecDepth 100000 in
theorem IndexFuncT (a : Option Addr) (n c : Nat) (l : List Int) (f : Nat) (cap : Array Value) (q : Nat → Bool) (w : World) (h : Flat 2 w a n c l)
    (hf : ∀ args W, (callFunc f args).run Tryd.prog W = .ok (.enter f args) W)
    (hq : ∀ W i, Below w.heap.size w W → i < n → Calls Tryd.prog f (#[.agg #[.int .i64 (l.getD (i * 2) 0), .int .i64 (l.getD (i * 2 + 1) 0)]] ++ cap) W fun e w' => e = .returned (.bool (!q i)) ∧ Below W.heap.size W w') :
    Calls Tryd.prog 106 #[.slice a n c, .func (.func f) #[] cap] w fun e w' => ∃ i : Int, e = .returned (.int .i64 i) ∧ Hid (decide (0 ≤ i) = !(List.range n).all q) ∧ Below w.heap.size w w' := by
  have hn := h.le
  have HQ := Lib.hid hq
  clear hq
  go_enter Tryd.func106, Tryd.ntmps106
  go_wp2
  go_loopw [8] (fun v wr => ∃ k : Nat, k ≤ n ∧ v = .int .i64 k ∧ (∀ i, i < k → q i = true) ∧ Below w.heap.size w wr) (fun v _ => n - (intOf v).toNat)
  case atStart => exact ⟨0, Nat.zero_le _, rfl, fun i hi => absurd hi (by omega), Below.refl _ _⟩
  case round =>
    obtain ⟨k, hk, rfl, hj, hbel⟩ := hrel
    have HJ := Lib.hid hj
    clear hj
    by_cases hlt : k < n
    · obtain ⟨g, o, rfl, hc⟩ := (h.below hbel).at (by omega)
      have c0 : wr.cell? ⟨g, o + k * 2, none⟩ = some (.int .i64 (l.getD (k * 2) 0)) := hc _ (by omega)
      have c1 : wr.cell? ⟨g, o + k * 2 + 1, none⟩ = some (.int .i64 (l.getD (k * 2 + 1) 0)) := by have := hc (k * 2 + 1) (by omega); simpa only [Nat.add_assoc] using this
      have HC := Lib.hid (HQ.out wr k hbel hlt)
      generalize l.getD (k * 2) 0 = x0 at *
      generalize l.getD (k * 2 + 1) 0 = x1 at *
      clear hc
      cases hb : q k
      · rw [hb] at HC
        have HB := Lib.hid (rangeAll_no hlt hb)
        clear hb
        go_wp2_with (refine HC.out.mono ?_; rintro e w' ⟨rfl, u⟩)
        have hbel' := hbel.trans (‹Below wr.heap.size wr _›.mono hbel.size)
        go_ret
        exact ⟨k, rfl, by unfold Hid; rw [HB.out]; simp, hbel'⟩
      · rw [hb] at HC
        have HB := Lib.hid hb
        clear hb
        go_wp2_with (refine HC.out.mono ?_; rintro e w' ⟨rfl, u⟩)
        have hbel' := hbel.trans (‹Below wr.heap.size wr _›.mono hbel.size)
        go_roundw
        case rel => exact ⟨k + 1, by omega, by go_num, fun i hi => by
          by_cases e : i = k
          · subst e; exact HB.out
          · exact HJ.out i (by omega), hbel'⟩
        case measure => simp [intOf]; omega
    · have HB := Lib.hid (rangeAll_yes (q := q) (n := n) (fun i hi => HJ.out i (by omega)))
      go_wp2
      go_ret
      exact ⟨-1, rfl, by unfold Hid; rw [HB.out]; decide, hbel⟩
set_option maxHeartbeats 1000000 in
theorem ContainsFuncT (a : Option Addr) (n c : Nat) (l : List Int) (f : Nat) (cap : Array Value) (q : Nat → Bool) (w : World) (h : Flat 2 w a n c l)
    (hf : ∀ args W, (callFunc f args).run Tryd.prog W = .ok (.enter f args) W)
    (hq : ∀ W i, Below w.heap.size w W → i < n → Calls Tryd.prog f (#[.agg #[.int .i64 (l.getD (i * 2) 0), .int .i64 (l.getD (i * 2 + 1) 0)]] ++ cap) W fun e w' => e = .returned (.bool (!q i)) ∧ Below W.heap.size W w') :
    Calls Tryd.prog 61 #[.slice a n c, .func (.func f) #[] cap] w fun e w' => e = .returned (.bool (!(List.range n).all q)) ∧ Below w.heap.size w w' := by
  have HQ := Lib.hid hq
  have HF := Lib.hid hf
  clear hq hf
  go_enter Tryd.func61, Tryd.ntmps61
  go_wp2_with fail
  refine (IndexFuncT _ _ _ l _ _ q _ h HF.out HQ.out).mono ?_; rintro e w' ⟨i, rfl, hi, u⟩
  go_wp2
  go_ret
  exact ⟨ret_bool hi.out, u⟩
end Go.Proofs.YtlmdckcohoddnaaDoor
namespace Go.Proofs.YtlmdckcohoddnaaDoor
open Go.RowKit
def Tbl (w : World) : Prop := w.cell? ⟨0, 0, none⟩ = some (.int .i64 1) ∧ w.cell? ⟨0, 1, none⟩ = some (.int .i64 4) ∧ w.cell? ⟨0, 2, none⟩ = some (.int .i64 2)
theorem Tbl.below {w w' : World} (h : Tbl w) (hb : Below w.heap.size w w') : Tbl w' := ⟨keepC hb h.1, keepC hb h.2.1, keepC hb h.2.2⟩
theorem Tbl.alloc {w : World} (h : Tbl w) (o : Obj) : Tbl (w.alloc o) := h.below ((Below.refl _ _).alloc (Nat.le_refl _) _)
theorem Tbl.drew {w : World} (h : Tbl w) : Tbl w.drew := h
def blen (i : Nat) : Nat := if i = 0 then 1 else if i = 1 then 4 else 2
theorem Tbl.at {w : World} (h : Tbl w) (i : Nat) (hi : i < 3) : w.cell? ⟨0, i, none⟩ = some (.int .i64 (blen i)) := by
  have : i = 0 ∨ i = 1 ∨ i = 2 := by omega
  rcases this with rfl | rfl | rfl
  · exact h.1
  · exact h.2.1
  · exact h.2.2
theorem blen_bd (i : Nat) : 1 ≤ blen i ∧ blen i ≤ 4 := by unfold blen; split <;> (try split) <;> omega
end Go.Proofs.YtlmdckcohoddnaaDoor
namespace Go.Proofs.YtlmdckcohoddnaaDoor
open Go.RowKit
def Moved (w : World) (a : Option Addr) (c : Nat) (a2 : Option Addr) (c2 : Nat) : Prop := (a2 = a ∧ c2 = c) ∨ ∀ x, 0 < c2 → a2 = some x → w.heap.size ≤ x.block
theorem Moved.disj {w a c a2 c2} {F : List Nat} (h : Moved w a c a2 c2) (hd : Disj (foot a c) F) (hF : ∀ k ∈ F, k < w.heap.size) : Disj (foot a2 c2) F := by
  rcases h with ⟨rfl, rfl⟩ | h
  · exact hd
  · intro k hk hk'
    obtain ⟨x, hx, hc, rfl⟩ := mem_foot hk
    have := h x hc hx
    have := hF _ hk'
    omega
theorem run_app2 {P : Program} (w : World) (t ty : TypeId)
    (b e : Nat) (i : TypeInfo) (z : Value) (sz bytes : Nat) (ht : P.underlying t = some (.slice e)) (hi : P.info? e = some i) (hz : i.zero = some z)
    (hsize : i.size = sz) (hby : i.bytes = bytes) (hzs : z.cells.size = sz) (hsz : 0 < sz)
    (a : Option Addr) (n c : Nat) (xs : List Value) (hown : OwnC w b a n c e sz xs)
    (a' : Option Addr) (m c' : Nat) (xs' : List Value) (hrow : RowC w a' m c' sz xs') (h1 : ∀ u ∈ xs', u.oneCell' = true)
    (hbytes : (n + m) * bytes ≤ 140737488355328) (hmax : n + m ≤ maxLen) (hbase : b ≤ w.heap.size) :
    ∃ a2 c2 w', (Builtin.append_ #[t, t] ty #[.slice a n c, .slice a' m c']).run P w = .ok (.slice a2 (n + m) c2) w' ∧ OwnC w' b a2 (n + m) c2 e sz (xs ++ xs') ∧ w.grownBy w' (rowOf a c) ∧ RowC w' a n c sz xs ∧ Moved w a c a2 c2 := by
  by_cases hm : m = 0
  · subst hm
    have hx' : xs' = [] := List.eq_nil_of_length_eq_zero (by simpa using hrow.1)
    subst hx'
    have hnc := hown.2.1
    refine ⟨a, c, w, ?_, by simpa using hown, World.grownBy.refl _ _, hown.row, Or.inl ⟨rfl, rfl⟩⟩
    cases a' with
    | none => cases a <;> simp [Builtin.append_, run_underlying ht, sizeOf, typeInfo, hi, Builtin.lenOf, Builtin.firstCells, hnc, storeCells]
    | some y =>
      have hf := run_firstCells_some (P := P) w i.size 0 y 0 c' [] (by simp) (fun j u hu => by simp at hu)
      cases a <;> simp [Builtin.append_, run_underlying ht, sizeOf, typeInfo, hi, Builtin.lenOf, hf, hnc, storeCells]
  · obtain ⟨hr1, hr2, hr3, hr4, g', o', hr5, hr6⟩ := hrow
    obtain rfl := hr5 (by omega)
    have hadd : ∀ (g o j : Nat), (⟨g, o, none⟩ : Addr).add j = ⟨g, o + j, none⟩ := fun g o j => by unfold Addr.add; split <;> simp_all
    have hnews : ∀ j u, xs'[j]? = some u → w.cell? ((⟨g', o', none⟩ : Addr).add j) = some u := fun j u hu => by rw [hadd]; exact hr6 j u hu
    by_cases hc : 0 < c
    · obtain ⟨g, cur, hag, hbg, hgg, hcs, hct⟩ := hown.2.2.2.2 hc
      have hob := hown.owns hc
      have hro : rowOf a c = some g := by unfold rowOf; rw [if_neg (by omega), hag]; rfl
      subst hag
      by_cases hroom : n + m ≤ c
      · obtain ⟨w', hrun, r1, r2⟩ := run_append_fits (P := P) w b t ty e i sz ht hi hsize g n c xs hob ⟨g', o', none⟩ m c' xs' hr1 hnews h1 hroom
        obtain ⟨a2, c2, e2, h2⟩ := OwnC.of_owns r1
        cases e2
        exact ⟨_, _, w', hrun, h2, by rw [hro]; exact r2, h2.prefix_row hown.1, Or.inl ⟨rfl, rfl⟩⟩
      · obtain ⟨v', w', hrun, r1, r2⟩ := run_append_arg_grows (P := P) w t ty e i z sz bytes ht hi hz hsize hby hzs hsz ⟨g, 0, none⟩ n c xs hown.1 (fun j u hu => by
          obtain ⟨q1, q2, q3, q4, gg, oo, q5, q6⟩ := hown.row
          have hn0 : 0 < n := by
            have := (List.getElem?_eq_some_iff.1 hu).1
            rw [hown.1] at this
            cases n with
            | zero => simp at this
            | succ n => omega
          have := q5 hn0
          cases this
          rw [hadd]; exact q6 j u hu) ⟨g', o', none⟩ m c' xs' hr1 hnews (by omega) hmax hbytes
        obtain ⟨a2, c2, rfl, h2⟩ := OwnC.of_owns r1
        exact ⟨_, _, w', hrun, h2.lower hbase, grownBy_some r2 _, hown.row.keep r2, Or.inr fun x hc hx => (h2.range x hc hx).1⟩
    · have hn0 : n = 0 := by have := hown.2.1; omega
      have hc0 : c = 0 := by omega
      subst hn0; subst hc0
      have hxe : xs = [] := List.eq_nil_of_length_eq_zero (by simpa using hown.1)
      subst hxe
      cases a with
      | none =>
        obtain ⟨v', w', hrun, r1, r2, _⟩ := run_append_own (P := P) w w.heap.size t ty e i z sz bytes ht hi hz hsize hby hzs hsz (.slice none 0 0) 0 [] (World.ownsRow_nil w _ e sz) ⟨g', o', none⟩ m c' xs' hr1 hnews h1 hmax hbytes (Nat.le_refl _)
        obtain ⟨a2, c2, rfl, h2⟩ := OwnC.of_owns r1
        exact ⟨_, _, w', hrun, h2.lower hbase, by unfold rowOf; exact r2, hown.row.keep r2, Or.inr fun x hc hx => (h2.range x hc hx).1⟩
      | some y =>
        obtain ⟨v', w', hrun, r1, r2⟩ := run_append_arg_grows (P := P) w t ty e i z sz bytes ht hi hz hsize hby hzs hsz y 0 0 [] (by simp) (fun j u hu => by simp at hu) ⟨g', o', none⟩ m c' xs' hr1 hnews (by omega) hmax hbytes
        obtain ⟨a2, c2, rfl, h2⟩ := OwnC.of_owns r1
        exact ⟨_, _, w', hrun, h2.lower hbase, grownBy_some r2 _, hown.row.keep r2, Or.inr fun x hc hx => (h2.range x hc hx).1⟩
end Go.Proofs.YtlmdckcohoddnaaDoor
namespace Go.Proofs.YtlmdckcohoddnaaDoor
open Go.RowKit
abbrev RowD := Option Addr × Nat × List Int
def rowV (r : RowD) : Value := .slice r.1 r.2.2.length r.2.1
def rowsF (rs : List RowD) : List Nat := rs.flatMap fun r => foot r.1 r.2.1
def feetSS (a : Option Addr) (c : Nat) (rs : List RowD) : List Nat := foot a c ++ rowsF rs
structure OwnSS (w : World) (b : Nat) (a : Option Addr) (n c : Nat) (rs : List RowD) : Prop where
  out : OwnC w b a n c 23 1 (rs.map rowV)
  inn : ∀ r ∈ rs, Own w b r.1 r.2.2.length r.2.1 r.2.2
  dis : rs.Pairwise fun r s => Disj (foot r.1 r.2.1) (foot s.1 s.2.1)
  apart : Disj (foot a c) (rowsF rs)
theorem mem_rowsF {rs : List RowD} {r : RowD} {k : Nat} (hr : r ∈ rs) (hk : k ∈ foot r.1 r.2.1) : k ∈ rowsF rs := List.mem_flatMap.2 ⟨r, hr, hk⟩
theorem rowsF_app (rs rs' : List RowD) : rowsF (rs ++ rs') = rowsF rs ++ rowsF rs' := List.flatMap_append
theorem rowsF_one (r : RowD) : rowsF [r] = foot r.1 r.2.1 := by simp [rowsF]
theorem OwnSS.only {X : List Nat} {w w' : World} {b a n c rs} (h : OwnSS w b a n c rs) (ho : Only X w w') (hd : Disj (feetSS a c rs) X) : OwnSS w' b a n c rs :=
  ⟨h.out.only ho (fun k hk => hd k (List.mem_append_left _ hk)), fun r hr => (h.inn r hr).only ho (fun k hk => hd k (List.mem_append_right _ (mem_rowsF hr hk))), h.dis, h.apart⟩
theorem OwnSS.below {w w' : World} {b a n c rs} (h : OwnSS w b a n c rs) (hb : Below w.heap.size w w') : OwnSS w' b a n c rs :=
  ⟨h.out.below hb, fun r hr => (h.inn r hr).below hb, h.dis, h.apart⟩
theorem OwnSS.alloc {w : World} {b a n c rs} (h : OwnSS w b a n c rs) (o : Obj) : OwnSS (w.alloc o) b a n c rs := h.below ((Below.refl _ _).alloc (Nat.le_refl _) _)
theorem OwnSS.drew {w : World} {b a n c rs} (h : OwnSS w b a n c rs) : OwnSS w.drew b a n c rs := h.below ((Below.refl _ _).drew)
theorem OwnSS.lower {w : World} {b b' a n c rs} (h : OwnSS w b a n c rs) (hb : b' ≤ b) : OwnSS w b' a n c rs :=
  ⟨h.out.lower hb, fun r hr => (h.inn r hr).lower hb, h.dis, h.apart⟩
theorem OwnSS.feet {w : World} {b a n c rs} (h : OwnSS w b a n c rs) : ∀ k ∈ feetSS a c rs, b ≤ k ∧ k < w.heap.size := fun k hk => by
  rcases List.mem_append.1 hk with hk | hk
  · exact h.out.feet k hk
  · obtain ⟨r, hr, hk⟩ := List.mem_flatMap.1 hk
    exact (h.inn r hr).feet k hk
theorem OwnSS.nil0 (w : World) (b : Nat) (a : Option Addr) : OwnSS w b a 0 0 [] :=
  ⟨OwnC.nil0 w b 23 1 a, fun r hr => (by cases hr), List.Pairwise.nil, fun k hk => by simp [foot, rowOf] at hk⟩
theorem feetSS_nil (a : Option Addr) : feetSS a 0 [] = [] := by simp [feetSS, foot, rowOf, rowsF]
theorem OwnSS.push {w w' : World} {b a n c rs} {r : RowD} {a5 : Option Addr} {c5 : Nat} (h : OwnSS w b a n c rs) (hr : Own w b r.1 r.2.2.length r.2.1 r.2.2) (hd : Disj (foot r.1 r.2.1) (feetSS a c rs))
    (o : OwnC w' b a5 (n + 1) c5 23 1 (rs.map rowV ++ [rowV r])) (g : w.grownBy w' (rowOf a c)) (m : Moved w a c a5 c5) : OwnSS w' b a5 (n + 1) c5 (rs ++ [r]) := by
  refine ⟨by rw [List.map_append]; exact o, fun s hs => ?_, ?_, ?_⟩
  · rcases List.mem_append.1 hs with hs | hs
    · exact (h.inn s hs).only (Only.of_grown g) (fun k hk hk' => h.apart k hk' (mem_rowsF hs hk))
    · rw [List.mem_singleton] at hs
      subst hs
      exact hr.only (Only.of_grown g) (fun k hk hk' => hd k hk (List.mem_append_left _ hk'))
  · refine List.pairwise_append.2 ⟨h.dis, List.pairwise_singleton _ _, fun x hx y hy => ?_⟩
    rw [List.mem_singleton] at hy
    subst hy
    exact fun k hk hk' => hd k hk' (List.mem_append_right _ (mem_rowsF hx hk))
  · rw [rowsF_app, rowsF_one]
    refine m.disj (h.apart.app fun k hk hk' => hd k hk' (List.mem_append_left _ hk)) (fun k hk => ?_)
    rcases List.mem_append.1 hk with hk | hk
    · exact (h.feet k (List.mem_append_right _ hk)).2
    · exact (hr.feet k hk).2
theorem push_feet {w : World} {a c a5 c5} {rs : List RowD} {r : RowD} {X : List Nat} (hX : Disj X (feetSS a c rs)) (hr : Disj X (foot r.1 r.2.1)) (m : Moved w a c a5 c5) (hw : ∀ k ∈ X, k < w.heap.size) : Disj X (feetSS a5 c5 (rs ++ [r])) := by
  unfold feetSS
  rw [rowsF_app, rowsF_one]
  refine Disj.app (m.disj (fun k hk hk' => hX k hk' (List.mem_append_left _ hk)) hw).symm (Disj.app (fun k hk hk' => hX k hk (List.mem_append_right _ hk')) hr)
theorem info_ints : (Tryd.prog.info? 23).map (fun i => (i.zero, i.size, i.bytes)) = some (some (.slice none 0 0), 1, 24) := by kernel_rfl
theorem RowC.lit1 (w : World) (v : Value) (e : TypeId) : RowC (w.alloc (.cells #[v] e)) (some ⟨w.heap.size, 0, none⟩) 1 1 1 [v] := (OwnC.lit w 0 1 e 1 [v] (Nat.zero_le _) rfl (by simp [maxLen])).row
theorem RowC.drew {w a n c sz xs} (h : RowC w a n c sz xs) : RowC w.drew a n c sz xs := h.below ((Below.refl _ _).drew)
structure WireM (w : World) (b : Nat) (a1 : Option Addr) (n1 c1 : Nat) (F : List Int) (a2 : Option Addr) (n2 c2 : Nat) (S : List Int) (a3 : Option Addr) (n3 c3 : Nat) (rs : List RowD) : Prop where
  f : Own w b a1 n1 c1 F
  s : Own w b a2 n2 c2 S
  o : OwnSS w b a3 n3 c3 rs
  fs : Disj (foot a1 c1) (foot a2 c2)
  fo : Disj (foot a1 c1) (feetSS a3 c3 rs)
  so : Disj (foot a2 c2) (feetSS a3 c3 rs)
section
variable {w w' : World} {b n1 c1 n2 c2 n3 c3 c5 : Nat} {a1 a2 a3 a5 : Option Addr} {F S : List Int} {rs : List RowD}
theorem WireM.below (h : WireM w b a1 n1 c1 F a2 n2 c2 S a3 n3 c3 rs) (hb : Below w.heap.size w w') : WireM w' b a1 n1 c1 F a2 n2 c2 S a3 n3 c3 rs :=
  ⟨h.f.below hb, h.s.below hb, h.o.below hb, h.fs, h.fo, h.so⟩
theorem WireM.alloc (h : WireM w b a1 n1 c1 F a2 n2 c2 S a3 n3 c3 rs) (o : Obj) : WireM (w.alloc o) b a1 n1 c1 F a2 n2 c2 S a3 n3 c3 rs := h.below ((Below.refl _ _).alloc (Nat.le_refl _) _)
theorem WireM.drew (h : WireM w b a1 n1 c1 F a2 n2 c2 S a3 n3 c3 rs) : WireM w.drew b a1 n1 c1 F a2 n2 c2 S a3 n3 c3 rs := h.below ((Below.refl _ _).drew)
end
end Go.Proofs.YtlmdckcohoddnaaDoor
namespace Go.Proofs.YtlmdckcohoddnaaDoor
open Go.RowKit
end Go.Proofs.YtlmdckcohoddnaaDoor
namespace Go.Proofs.YtlmdckcohoddnaaDoor
open Go.RowKit
theorem step_st {c : Prop} [Decidable c] {o : Oper} {act : Act} {w : World} {K : Act → World → Prop} {Q : Exit → Act → World → Prop} {E : Prop} {g : Nat} {t : TypeId} {old vs : Array Value} (hB : Blk w g t old) (hc : c) (ty : TypeId) (x y : Operand) (ho : o.op = .store ty x y)
    (hx : act.eval x = .pointer (some ⟨g, 0, none⟩)) (hy : act.eval y = .agg vs) (hi : (Tryd.prog.info? ty).map (·.size) = some vs.size) (hs : old.size = vs.size) (h1 : vs.all (·.oneCell') = true)
    (h : ∀ N, Blk N g t vs → Only [g] w N → K (act.put o.dst undef) N) :
    if c then Oper.wp Tryd.prog o act w K Q else E := by
  rw [if_pos hc]
  exact wp_store_row ty x y ho g vs hx hy t old hB hi hs h1 (h _ (setRow_heap w g old _ t _ hB) ⟨rfl, rfl, rfl, by simp, fun q _ hq => setRow_other w g q _ (by simpa using hq)⟩)
end Go.Proofs.YtlmdckcohoddnaaDoor
