/- Lemmas and walks that the claim's proof rests on, part 2. -/
import Derived.Deep.RegionHeld
import Derived.Deep.DeepCutAuto
import Derived.ArgAppend
import Derived.Test.YtchmakepglaijaaGreatK1
namespace Go.Proofs.YtchmakepglaijaaGreat
open Go.RowKit
def foot (a : Option Addr) (c : Nat) : List Nat := (rowOf a c).toList
structure Only (F : List Nat) (w w' : World) : Prop where
  os : w'.os = w.os
  tape : w'.tape = w.tape
  output : w'.output = w.output
  size : w.heap.size ≤ w'.heap.size
  block : ∀ k, k < w.heap.size → k ∉ F → w'.heap[k]? = w.heap[k]?
theorem Only.refl (F : List Nat) (w : World) : Only F w w := ⟨rfl, rfl, rfl, Nat.le_refl _, fun _ _ _ => rfl⟩
theorem Only.trans {F w w1 w2} (h : Only F w w1) (k : Only F w1 w2) : Only F w w2 :=
  ⟨k.os.trans h.os, k.tape.trans h.tape, k.output.trans h.output, Nat.le_trans h.size k.size, fun i hi hn => (k.block i (Nat.lt_of_lt_of_le hi h.size) hn).trans (h.block i hi hn)⟩
theorem Only.more {F F' w w'} (h : Only F w w') (hs : ∀ k ∈ F, k ∈ F') : Only F' w w' :=
  ⟨h.os, h.tape, h.output, h.size, fun i hi hn => h.block i hi (fun hm => hn (hs i hm))⟩
theorem Only.of_grown {w w' : World} {a : Option Addr} {c : Nat} (h : w.grownBy w' (rowOf a c)) : Only (foot a c) w w' :=
  ⟨h.os, h.tape, h.output, h.size, fun i hi hn => h.block i hi (fun e => hn (by unfold foot; rw [← e]; simp))⟩
theorem Only.of_below {F : List Nat} {w w' : World} (h : Below w.heap.size w w') : Only F w w' :=
  ⟨h.os, h.tape, h.output, h.size, fun i hi _ => h.block i hi⟩
theorem Only.below {F : List Nat} {w w' : World} {B : Nat} (h : Only F w w') (hB : B ≤ w.heap.size) (hF : ∀ k ∈ F, B ≤ k) : Below B w w' :=
  ⟨h.os, h.tape, h.output, h.size, fun i hi => h.block i (by omega) (fun hm => by have := hF i hm; omega)⟩
theorem Only.left {F G w w'} (h : Only F w w') : Only (F ++ G) w w' := h.more fun _ hk => List.mem_append_left _ hk
theorem Only.right {F G w w'} (h : Only G w w') : Only (F ++ G) w w' := h.more fun _ hk => List.mem_append_right _ hk
theorem mem_foot {a : Option Addr} {c k : Nat} (h : k ∈ foot a c) : ∃ x, a = some x ∧ 0 < c ∧ k = x.block := by
  unfold foot rowOf at h
  split at h
  · simp at h
  · cases a with
    | none => simp at h
    | some x => simp at h; exact ⟨x, rfl, by omega, h⟩
theorem foot_mem {x : Addr} {c : Nat} (h : 0 < c) : x.block ∈ foot (some x) c := by
  unfold foot rowOf
  rw [if_neg (by omega)]
  simp
theorem OwnC.feet {w b a n c e sz xs} (h : OwnC w b a n c e sz xs) : ∀ k ∈ foot a c, b ≤ k ∧ k < w.heap.size := fun k hk => by
  obtain ⟨x, hx, hc, rfl⟩ := mem_foot hk
  exact h.range x hc hx
theorem OwnC.only {F : List Nat} {w w' : World} {b a n c e sz xs} (h : OwnC w b a n c e sz xs) (ho : Only F w w') (hd : ∀ k ∈ foot a c, k ∉ F) : OwnC w' b a n c e sz xs :=
  ⟨h.1, h.2.1, h.2.2.1, h.2.2.2.1, fun hc => by
    obtain ⟨g, cur, h1, h2, h3, h4⟩ := h.2.2.2.2 hc
    exact ⟨g, cur, h1, h2, by rw [ho.block g (Array.getElem?_eq_some_iff.1 h3).1 (hd g (by rw [h1]; exact foot_mem hc))]; exact h3, h4⟩⟩
def Disj (F G : List Nat) : Prop := ∀ k ∈ F, k ∉ G
theorem Disj.symm {F G} (h : Disj F G) : Disj G F := fun k hk hf => h k hf hk
theorem Disj.of_rng {F G : List Nat} {a b c d : Nat} (hF : ∀ k ∈ F, a ≤ k ∧ k < b) (hG : ∀ k ∈ G, c ≤ k ∧ k < d) (h : b ≤ c ∨ d ≤ a) : Disj F G := fun k hk hg => by
  have := hF k hk; have := hG k hg; omega
theorem Apart.disj {a c a' c'} (h : Apart a c a' c') : Disj (foot a c) (foot a' c') := fun k hk hk' => by
  obtain ⟨x, hx, hc, rfl⟩ := mem_foot hk
  obtain ⟨y, hy, hc', e⟩ := mem_foot hk'
  exact h x y hc hc' hx hy e
theorem Disj.app {F G G'} (h : Disj F G) (h' : Disj F G') : Disj F (G ++ G') := fun k hk hm => by
  rcases List.mem_append.1 hm with hm | hm
  · exact h k hk hm
  · exact h' k hk hm
theorem Disj.nil_l (F : List Nat) : Disj [] F := fun _ hk => by cases hk
def Flat (k : Nat) (w : World) (a : Option Addr) (n c : Nat) (l : List Int) : Prop := RowC w a n c k (l.map (Value.int .i64))
def OwnF (k e : Nat) (w : World) (b : Nat) (a : Option Addr) (n c : Nat) (l : List Int) : Prop := OwnC w b a n c e k (l.map (Value.int .i64))
theorem Flat.len {k w a n c l} (h : Flat k w a n c l) : l.length = n * k := by have := h.1; simpa using this
theorem Flat.cap {k w a n c l} (h : Flat k w a n c l) : n ≤ c ∧ c ≤ maxLen := ⟨h.2.1, h.2.2.1⟩
theorem Flat.le {k w a n c l} (h : Flat k w a n c l) : (n : Int) ≤ 9223372036854775807 := by
  have := h.2.1; have := h.2.2.1; unfold maxLen at this; omega
theorem Flat.below {k w w' a n c l} (h : Flat k w a n c l) (hb : Below w.heap.size w w') : Flat k w' a n c l := RowC.below h hb
theorem Flat.alloc {k w a n c l} (h : Flat k w a n c l) (o : Obj) : Flat k (w.alloc o) a n c l := h.below ((Below.refl _ _).alloc (Nat.le_refl _) _)
theorem Flat.drewN {k w a n c l} (h : Flat k w a n c l) (m : Nat) : Flat k (w.drewN m) a n c l := h.below (below_of_drewN m)
theorem Flat.drew {k w a n c l} (h : Flat k w a n c l) : Flat k w.drew a n c l := h.below ((Below.refl _ _).drew)
theorem Flat.at {k w a n c l} (h : Flat k w a n c l) (hn : 0 < n) : ∃ g o, a = some ⟨g, o, none⟩ ∧ ∀ j, j < n * k → w.cell? ⟨g, o + j, none⟩ = some (.int .i64 (l.getD j 0)) := by
  have hl := h.len
  obtain ⟨_, _, _, _, g, o, h1, h2⟩ := h
  exact ⟨g, o, h1 hn, fun j hj => h2 j _ (by simp [List.getD, show j < l.length by omega])⟩
theorem OwnF.flat {k e w b a n c l} (h : OwnF k e w b a n c l) : Flat k w a n c l := h.row
theorem OwnF.len {k e w b a n c l} (h : OwnF k e w b a n c l) : l.length = n * k := h.flat.len
theorem OwnF.cap {k e w b a n c l} (h : OwnF k e w b a n c l) : n ≤ c ∧ c ≤ maxLen := h.flat.cap
theorem OwnF.below {k e w w' b a n c l} (h : OwnF k e w b a n c l) (hb : Below w.heap.size w w') : OwnF k e w' b a n c l := OwnC.below h hb
theorem OwnF.lower {k e w b b' a n c l} (h : OwnF k e w b a n c l) (hb : b' ≤ b) : OwnF k e w b' a n c l := OwnC.lower h hb
theorem OwnF.alloc {k e w b a n c l} (h : OwnF k e w b a n c l) (o : Obj) : OwnF k e (w.alloc o) b a n c l := h.below ((Below.refl _ _).alloc (Nat.le_refl _) _)
theorem OwnF.drew {k e w b a n c l} (h : OwnF k e w b a n c l) : OwnF k e w.drew b a n c l := h.below ((Below.refl _ _).drew)
theorem OwnF.drewN {k e w b a n c l} (h : OwnF k e w b a n c l) (m : Nat) : OwnF k e (w.drewN m) b a n c l := h.below (below_of_drewN m)
theorem OwnF.feet {k e w b a n c l} (h : OwnF k e w b a n c l) : ∀ k ∈ foot a c, b ≤ k ∧ k < w.heap.size := OwnC.feet h
theorem OwnF.only {F : List Nat} {k e : Nat} {w w' : World} {b a n c l} (h : OwnF k e w b a n c l) (ho : Only F w w') (hd : Disj (foot a c) F) : OwnF k e w' b a n c l := OwnC.only h ho hd
theorem Own.feet {w b a n c l} (h : Own w b a n c l) : ∀ k ∈ foot a c, b ≤ k ∧ k < w.heap.size := OwnC.feet h
theorem Own.only {F : List Nat} {w w' : World} {b a n c l} (h : Own w b a n c l) (ho : Only F w w') (hd : Disj (foot a c) F) : Own w' b a n c l := OwnC.only h ho hd
theorem OwnF.at {k e w b a n c l} (h : OwnF k e w b a n c l) (j : Nat) (hj : j < n * k) : ∃ g, a = some ⟨g, 0, none⟩ ∧ b ≤ g ∧ g < w.heap.size ∧ w.cell? ⟨g, j, none⟩ = some (.int .i64 (l.getD j 0)) ∧ w.frozen? ⟨g, j, none⟩ = false ∧
    ∀ x, OwnF k e (w.setCell ⟨g, j, none⟩ (.int .i64 x)) b (some ⟨g, 0, none⟩) n c (l.set j x) := by
  obtain ⟨g, rfl, hb, hg, ⟨u, hu, hc⟩, hf, hs⟩ := OwnC.atC h j hj
  have hl : j < l.length := by rw [h.len]; exact hj
  refine ⟨g, rfl, hb, hg, ?_, hf, fun x => by unfold OwnF; rw [List.map_set]; exact hs _⟩
  rw [hc, ← hu]
  simp [List.getD, hl]
theorem OwnF.put {k e w b g n c l} (h : OwnF k e w b (some ⟨g, 0, none⟩) n c l) (j : Nat) (hj : j < n * k) (x : Int) : OwnF k e (w.setCell ⟨g, j, none⟩ (.int .i64 x)) b (some ⟨g, 0, none⟩) n c (l.set j x) := by
  obtain ⟨_, E, _, _, _, _, h3⟩ := h.at j hj
  cases E
  exact h3 x
theorem Only.setCell {F : List Nat} {w w' : World} (h : Only F w w') (p : Addr) (u : Value) (hp : p.block ∈ F) : Only F w (w'.setCell p u) :=
  ⟨h.os, h.tape, h.output, by have := h.size; simpa [World.setCell] using this, fun k hk hne => by
    rw [Below.heap_setCell _ _ _ _ (by intro e; subst e; exact hne hp)]; exact h.block k hk hne⟩
theorem Only.alloc {F : List Nat} {w w' : World} (h : Only F w w') (o : Obj) : Only F w (w'.alloc o) :=
  h.trans (Only.of_below ((Below.refl _ _).alloc (Nat.le_refl _) _))
theorem Only.drew {F : List Nat} {w w' : World} (h : Only F w w') : Only F w w'.drew :=
  h.trans (Only.of_below ((Below.refl _ _).drew))
def Blk (w : World) (g : Nat) (t : TypeId) (cs : Array Value) : Prop := w.heap[g]? = some (.cells cs t (0, 0))
theorem Blk.lt {w g t cs} (h : Blk w g t cs) : g < w.heap.size := by
  rcases Nat.lt_or_ge g w.heap.size with hlt | hge
  · exact hlt
  · unfold Blk at h; rw [Array.getElem?_eq_none hge] at h; cases h
theorem Blk.cell {w g t cs} (h : Blk w g t cs) (i : Nat) : w.cell? ⟨g, i, none⟩ = cs[i]? := cell_of_row w g i cs t (0, 0) h
theorem Blk.frozen {w g t cs} (h : Blk w g t cs) (i : Nat) : w.frozen? ⟨g, i, none⟩ = false := by
  unfold Blk at h
  simp [World.frozen?, h]
theorem Blk.new (w : World) (t : TypeId) (cs : Array Value) : Blk (w.alloc (.cells cs t)) w.heap.size t cs := heap_alloc_new w _
theorem Blk.below {w w' g t cs} (h : Blk w g t cs) (hb : Below w.heap.size w w') : Blk w' g t cs := (hb.block g h.lt).trans h
theorem Blk.alloc {w g t cs} (h : Blk w g t cs) (o : Obj) : Blk (w.alloc o) g t cs := (Below.heap_alloc w o g h.lt).trans h
theorem Blk.drew {w g t cs} (h : Blk w g t cs) : Blk w.drew g t cs := h
theorem Blk.only {F : List Nat} {w w' g t cs} (h : Blk w g t cs) (ho : Only F w w') (hg : g ∉ F) : Blk w' g t cs := (ho.block g h.lt hg).trans h
theorem Blk.set_ {w g t cs} (h : Blk w g t cs) (i : Nat) (u : Value) : Blk (w.setCell ⟨g, i, none⟩ u) g t (cs.setIfInBounds i u) := by
  unfold Blk at h ⊢
  simp [World.setCell, Array.getElem?_modify, h]
-- blk<
theorem Blk.new_ (w : World) {b : Nat} (hb : w.heap.size = b) (t : TypeId) (c : Array Value) : ∃ N, w.alloc (.cells c t) = N ∧ Blk N b t c ∧ N.heap.size = b + 1 ∧ Below w.heap.size w N :=
  ⟨_, rfl, hb ▸ Blk.new w t c, by simp [hb], (Below.refl _ _).alloc (Nat.le_refl _) _⟩
theorem Blk.all2 {w g t} {c0 c1 : Value} (h : Blk w g t #[c0, c1]) : w.cell? ⟨g, 0, none⟩ = some c0 ∧ w.cell? ⟨g, 1, none⟩ = some c1 :=
  ⟨h.cell 0, h.cell 1⟩
theorem Blk.frz2 {w g t} {c0 c1 : Value} (h : Blk w g t #[c0, c1]) : w.frozen? ⟨g, 0, none⟩ = false ∧ w.frozen? ⟨g, 1, none⟩ = false :=
  ⟨h.frozen 0, h.frozen 1⟩
theorem Blk.all4 {w g t} {c0 c1 c2 c3 : Value} (h : Blk w g t #[c0, c1, c2, c3]) : w.cell? ⟨g, 0, none⟩ = some c0 ∧ w.cell? ⟨g, 1, none⟩ = some c1 ∧ w.cell? ⟨g, 2, none⟩ = some c2 ∧ w.cell? ⟨g, 3, none⟩ = some c3 :=
  ⟨h.cell 0, h.cell 1, h.cell 2, h.cell 3⟩
theorem tk {P : Program} {ops : Array Oper} {Q : Exit → Act → World → Prop} {md : Region.Mode} {S : World → Prop} {i : Nat} {oi : Oper} {v : Value} {fuel : Nat} {listed : Array Bool} {a : Act} {w : World} (hS : S w) (hi : ops[i]? = some oi)
    (hy : ∀ w, S w → (execOp a.eval oi).run P w = .ok (.value v) w) (h : wpAnyH P md ops Q S fuel (listed.setIfInBounds i true) (a.put oi.dst v) w)
    (hw : Region.wanted oi (yielded ops a.tmps) = true := by rfl) (hs : Region.noSelect ops = true := by kernel_rfl) (hf : Region.free md ops listed i = true := by kernel_rfl) (hr : (Region.ready md ops listed).contains i = true := by kernel_rfl)
    (hQ : ∀ c a w, Q (.panic c) (a.put oi.dst v) w → Q (.panic c) a w := by exact fun _ _ _ h => h) : wpAnyH P md ops Q S (fuel + 1) listed a w :=
  wpAnyH_take hi hs hf hr hQ (Or.inl ⟨hw, hy⟩) hS h
theorem pt_ : (∀ (t : Array Value) (s : List Deferred) (d : Tmp) (v : Value), Act.put ⟨t, s⟩ (some d) v = ⟨t.setIfInBounds d v, s⟩) ∧ (∀ (t : Array Value) (s : List Deferred) (v : Value), Act.put ⟨t, s⟩ none v = ⟨t, s⟩) ∧
    (∀ (l : List Value) (i : Nat) (v : Value), l.toArray.setIfInBounds i v = (l.set i v).toArray) ∧ (∀ (l : List Bool) (i : Nat) (v : Bool), l.toArray.setIfInBounds i v = (l.set i v).toArray) ∧
    (∀ (x : Value) (l : List Value) (v : Value), (x :: l).set 0 v = v :: l) ∧ (∀ (x : Value) (l : List Value) (i : Nat) (v : Value), (x :: l).set (i + 1) v = x :: l.set i v) ∧
    (∀ (x : Bool) (l : List Bool) (v : Bool), (x :: l).set 0 v = v :: l) ∧ (∀ (x : Bool) (l : List Bool) (i : Nat) (v : Bool), (x :: l).set (i + 1) v = x :: l.set i v) :=
  ⟨fun _ _ _ _ => rfl, fun _ _ _ => rfl, fun _ _ _ => by simp, fun _ _ _ => by simp, fun _ _ _ => rfl, fun _ _ _ _ => rfl, fun _ _ _ => rfl, fun _ _ _ _ => rfl⟩
-- blk>
end Go.Proofs.YtchmakepglaijaaGreat
namespace Go.Proofs.YtchmakepglaijaaGreat
open Go.RowKit
def Cod (w : World) (B : Nat) (a : Option Addr) (n c : Nat) : Prop :=
  n ≤ c ∧ c ≤ maxLen ∧ ∃ g o, (0 < n → a = some ⟨g, o, none⟩ ∧ g < B) ∧ ∀ i, i < n → ∃ x : Int, 0 ≤ x ∧ x ≤ 255 ∧ w.cell? ⟨g, o + i, none⟩ = some (.int .u8 x)
theorem Cod.below {w w' : World} {B b : Nat} {a : Option Addr} {n c : Nat} (h : Cod w B a n c) (hb : Below b w w') (hB : B ≤ b) : Cod w' B a n c := by
  obtain ⟨h1, h2, g, o, h3, h5⟩ := h
  exact ⟨h1, h2, g, o, h3, fun i hi => by
    obtain ⟨x, x0, x1, hx⟩ := h5 i hi
    exact ⟨x, x0, x1, by rw [hb.cell (p := ⟨g, o + i, none⟩) (by have := (h3 (by omega)).2; show g < b; omega)]; exact hx⟩⟩
theorem Cod.more {w : World} {B B' : Nat} {a : Option Addr} {n c : Nat} (h : Cod w B a n c) (hB : B ≤ B') : Cod w B' a n c := by
  obtain ⟨h1, h2, g, o, h3, h5⟩ := h
  exact ⟨h1, h2, g, o, fun hn => ⟨(h3 hn).1, by have := (h3 hn).2; omega⟩, h5⟩
theorem Cod.nil0 (w : World) (B : Nat) : Cod w B none 0 0 := ⟨Nat.le_refl _, Nat.zero_le _, 0, 0, fun h => absurd h (by omega), fun i hi => absurd hi (by omega)⟩
theorem Cod.of_row {w : World} {x : Addr} {n c B : Nat} {zs : List Int} (hl : n ≤ c) (hm : c ≤ maxLen) (hz : zs.length = c) (hcell : ∀ i, i < zs.length → w.cell? (x.add i) = some (.int .u8 (zs.getD i 0))) (hw : ∀ y ∈ zs, (Lit.int .u8 y).wf = true) (hB : w.heap.size ≤ B) : Cod w B (some x) n c := by
  by_cases h0 : 0 < zs.length
  · obtain ⟨b, off, rfl, hc⟩ := ints_at hcell h0
    refine ⟨hl, hm, b, off, fun _ => ⟨rfl, ?_⟩, fun i hi => ?_⟩
    · have := World.block_lt_of_cell? w _ (hc 0 h0)
      exact Nat.lt_of_lt_of_le this hB
    · have hy := hw (zs.getD i 0) (by
        have hi' : i < zs.length := by omega
        simp [List.getD, hi'])
      have hy' := bounds_u8 hy
      exact ⟨zs.getD i 0, by omega, by omega, hc i (by omega)⟩
  · exact ⟨hl, hm, 0, 0, fun h => absurd h (by omega), fun i hi => absurd hi (by omega)⟩
theorem Cod.drew {w : World} {B : Nat} {a : Option Addr} {n c : Nat} (h : Cod w B a n c) : Cod w.drew B a n c := h
theorem Cod.belowAll {w w' : World} {a : Option Addr} {n c : Nat} (h : Cod w w.heap.size a n c) (hb : Below w.heap.size w w') : Cod w' w'.heap.size a n c := (h.below hb (Nat.le_refl _)).more hb.size
def Cur (w : World) (g : Nat) (k : Nat) : Prop :=
  ∃ (a : Option Addr) (n c : Nat) (s : Int), Blk w g 60 #[.slice a n c, .int .i64 k, .int .u64 s] ∧ (0 ≤ s ∧ s ≤ 18446744073709551615) ∧ Cod w g a n c
theorem Cur.lt {w g k} (h : Cur w g k) : g < w.heap.size := by obtain ⟨_, _, _, _, h, _⟩ := h; exact h.lt
theorem Cur.below {w w' : World} {g k : Nat} (h : Cur w g k) (hb : Below w.heap.size w w') : Cur w' g k := by
  have hl := h.lt
  obtain ⟨a, n, c, s, h1, h2, h3⟩ := h
  exact ⟨a, n, c, s, h1.below hb, h2, h3.below hb (by omega)⟩
theorem Cur.alloc {w : World} {g k : Nat} (h : Cur w g k) (o : Obj) : Cur (w.alloc o) g k := h.below ((Below.refl _ _).alloc (Nat.le_refl _) _)
theorem Cur.only {X : List Nat} {w w' : World} {g k : Nat} (h : Cur w g k) (ho : Only X w w') (hX : ∀ q ∈ X, g < q) : Cur w' g k := by
  have hl := h.lt
  obtain ⟨a, n, c, s, h1, h2, h3⟩ := h
  exact ⟨a, n, c, s, h1.only ho (fun hm => by have := hX _ hm; omega), h2, h3.below (ho.below (B := g) (by omega) (fun q hq => by have := hX q hq; omega)) (Nat.le_refl _)⟩
theorem Cur.of_new {w : World} {a : Option Addr} {n c : Nat} (h : Cod w w.heap.size a n c) : Cur (w.alloc (.cells #[.slice a n c, .int .i64 0, .int .u64 0] 60)) w.heap.size 0 :=
  ⟨a, n, c, 0, Blk.new w _ _, by omega, h.below (b := w.heap.size) ((Below.refl _ _).alloc (Nat.le_refl _) _) (Nat.le_refl _)⟩
theorem Only.below1 {g : Nat} {w w' : World} (h : Only [g] w w') {B : Nat} (hg : B ≤ g) (hB : B ≤ w.heap.size) : Below B w w' := h.below hB (fun k hk => by simp at hk; omega)
theorem Ints.onlyC {X : List Nat} {w w' : World} {a : Option Addr} {n c : Nat} {l : List Int} (h : Ints w a n c l) (ho : Only X w w') (hd : ∀ x, 0 < n → a = some x → x.block ∉ X) : Ints w' a n c l := by
  obtain ⟨h1, h2, h3, h4, g, o, h5, h6⟩ := h
  refine ⟨h1, h2, h3, h4, g, o, h5, fun i hi => ?_⟩
  have hc := h6 i hi
  have hlt := World.block_lt_of_cell? w _ hc
  have hb := ho.block g hlt (hd ⟨g, o, none⟩ (by omega) (h5 (by omega)))
  rw [World.cell?_of_block (w := w) (w' := w') (a := ⟨g, o + i, none⟩) hb]
  exact hc
theorem maskB (a : Nat) (ha : a < 18446744073709551616) : bits BinOp.and IntKind.u64 (a : Int) 255 = ((a % 256 : Nat) : Int) := by
  have h := u64_and_nat a 255 ha (by omega)
  have e : a &&& 255 = a % 256 := Nat.and_two_pow_sub_one_eq_mod a 8
  rw [e] at h
  exact h
theorem maskR (a : Int) (h0 : 0 ≤ a) (h1 : a ≤ 18446744073709551615) : ∃ x : Int, bits BinOp.and IntKind.u64 a 255 = x ∧ 0 ≤ x ∧ x ≤ 255 := by
  obtain ⟨n, rfl⟩ := Int.eq_ofNat_of_zero_le h0
  exact ⟨_, maskB n (by omega), by omega, by omega⟩
theorem Cur.drewN {w : World} {g k : Nat} (h : Cur w g k) (m : Nat) : Cur (w.drewN m) g k := h
theorem Cur.drew {w : World} {g k : Nat} (h : Cur w g k) : Cur w.drew g k := h
theorem Only.drewN {F : List Nat} {w w' : World} (h : Only F w w') (m : Nat) : Only F w (w'.drewN m) := h.trans (Only.of_below (below_of_drewN m))
theorem maskW (a : Int) (h0 : 0 ≤ a) (h1 : a ≤ 18446744073709551615) : 0 ≤ wrap64 (bits BinOp.and IntKind.u64 (a / 1099511627776) 255) ∧ wrap64 (bits BinOp.and IntKind.u64 (a / 1099511627776) 255) ≤ 255 := by
  obtain ⟨x, hx, x0, x1⟩ := maskR (a / 1099511627776) (by omega) (by omega)
  rw [hx]
  unfold wrap64
  omega
def NextP (w : World) (g k : Nat) (e : Ending) (w' : World) : Prop := ∃ x : Int, e = .returned (.int .i64 x) ∧ 0 ≤ x ∧ x ≤ 255 ∧ Cur w' g (k + 1) ∧ Only [g] w w'
set_option maxHeartbeats 4000000 in
set_option maxRecDepth 100000 in
theorem next_any (g k : Nat) (w : World) (h : Cur w g k) (hk : k ≤ 1000000000000000) :
    Calls Tryz.prog 109 #[.pointer (some ⟨g, 0, none⟩)] w (NextP w g k) := by
  obtain ⟨a, n, c, s, B, ⟨s0, s1⟩, hC⟩ := h
  have hC' := hC
  obtain ⟨c1, c2, cg, co, c3, c5⟩ := hC'
  have hcc : (n : Int) ≤ 9223372036854775807 := by unfold maxLen at c2; omega
  have e0 : w.cell? ⟨g, 0, none⟩ = some (.slice a n c) := B.cell 0
  have e1 : w.cell? ⟨g, 1, none⟩ = some (.int .i64 k) := B.cell 1
  have e2 : w.cell? ⟨g, 2, none⟩ = some (.int .u64 s) := B.cell 2
  have f1 : w.frozen? ⟨g, 1, none⟩ = false := B.frozen 1
  have f2 : w.frozen? ⟨g, 2, none⟩ = false := B.frozen 2
  have HB := Lib.hid B
  have HC := Lib.hid hC
  clear B hC
  have fin : ∀ (W : World) (x : Int), 0 ≤ x → x ≤ 18446744073709551615 → Only [] w W → Only [g] w ((W.setCell ⟨g, 1, none⟩ (.int .i64 ((k : Int) + 1))).setCell ⟨g, 2, none⟩ (.int .u64 x)) ∧ Cur ((W.setCell ⟨g, 1, none⟩ (.int .i64 ((k : Int) + 1))).setCell ⟨g, 2, none⟩ (.int .u64 x)) g (k + 1) := fun W x x0 x1 hW => by
    have hO : Only [g] w ((W.setCell ⟨g, 1, none⟩ (.int .i64 ((k : Int) + 1))).setCell ⟨g, 2, none⟩ (.int .u64 x)) := ((hW.more (fun _ h => by cases h)).setCell _ _ (by simp)).setCell _ _ (by simp)
    have hBW := HB.out.only hW (by simp)
    have h2 := (hBW.set_ 1 (.int .i64 ((k : Int) + 1))).set_ 2 (.int .u64 x)
    exact ⟨hO, a, n, c, x, by simpa using h2, ⟨x0, x1⟩, HC.out.below (hO.below1 (Nat.le_refl _) (Nat.le_of_lt HB.out.lt)) (Nat.le_refl _)⟩
  have FIN := Lib.hid fin
  clear fin
  have m0 : ∀ x : Int, 0 ≤ IntKind.u64.wrap x ∧ IntKind.u64.wrap x ≤ 18446744073709551615 := fun x => by rw [IntKind.wrap_u64]; omega
  have M0 := Lib.hid m0
  clear m0
  by_cases hlt : k < n
  · obtain ⟨x, x0, x1, cx⟩ := c5 k hlt
    obtain ⟨rfl, _⟩ := c3 (by omega)
    have hlt' : (k : Int) < (n : Int) := by omega
    have hle' : (k : Int) + 1 ≤ (n : Int) := by omega
    have hk0 : (0 : Int) ≤ (k : Int) := by omega
    clear c3 c5
    go_enter Tryz.func109, Tryz.ntmps109
    go_wp2
    go_quiet (fail)
    go_wp2
    go_quiet (fail)
    go_wp2
    go_quiet (fail)
    go_wp2
    go_ret
    obtain ⟨r1, r2⟩ := FIN.out (w.drewN _) _ (M0.out _).1 (M0.out _).2 (Only.of_below (below_of_drewN _))
    exact ⟨x, rfl, x0, x1, r2.drewN _, r1.drewN _⟩
  · clear c3 c5
    have hlt' : ¬ (k : Int) < (n : Int) := by omega
    have hd : decide ((k : Int) < (n : Int)) = false := by simp; omega
    go_enter Tryz.func109, Tryz.ntmps109
    go_wp2
    go_quiet (fail)
    go_wp2
    go_quiet (fail)
    go_wp2
    go_ret
    obtain ⟨r1, r2⟩ := FIN.out (w.drewN _) _ (M0.out _).1 (M0.out _).2 (Only.of_below (below_of_drewN _))
    exact ⟨_, rfl, (maskW _ (M0.out _).1 (M0.out _).2).1, (maskW _ (M0.out _).1 (M0.out _).2).2, r2.drewN _, r1.drewN _⟩
theorem emod_le' (x n : Int) (hx : 0 ≤ x) (hn : 0 < n) : x % n ≤ x := by
  have h1 := Int.emod_def x n
  have h2 : 0 ≤ n * (x / n) := Int.mul_nonneg (by omega) (Int.ediv_nonneg hx (by omega))
  omega
def PickP (w : World) (g k : Nat) (n : Int) (e : Ending) (w' : World) : Prop := ∃ (x : Int) (k' : Nat), e = .returned (.int .i64 x) ∧ 0 ≤ x ∧ (x = 0 ∨ x < n) ∧ x ≤ 65535 ∧ k' ≤ k + 2 ∧ Cur w' g k' ∧ Only [g] w w'
set_option maxHeartbeats 4000000 in
theorem pick_any (g k : Nat) (n : Int) (w : World) (h : Cur w g k) (hk : k ≤ 900000000000000) :
    Calls Tryz.prog 60 #[.pointer (some ⟨g, 0, none⟩), .int .i64 n] w (PickP w g k n) := by
  by_cases h1 : n ≤ 1
  · go_enter Tryz.func60, Tryz.ntmps60
    go_wp2
    go_ret
    exact ⟨0, k, rfl, Int.le_refl _, Or.inl rfl, by omega, by omega, h, Only.refl _ _⟩
  · have hrem : ∀ x : Int, 0 ≤ x → x.tmod n = x % n := fun x hx => Int.tmod_eq_emod_of_nonneg hx
    have hmr : ∀ x : Int, 0 ≤ x % n ∧ x % n < n := fun x => ⟨Int.emod_nonneg _ (by omega), Int.emod_lt_of_pos _ (by omega)⟩
    have hmx : ∀ x : Int, 0 ≤ x → x % n ≤ x := fun x hx => emod_le' x n hx (by omega)
    have HM := Lib.hid hmr
    have HX := Lib.hid hmx
    have HT := Lib.hid hrem
    clear hrem hmr hmx
    by_cases h2 : n > 200
    · go_enter Tryz.func60, Tryz.ntmps60
      go_wp2_with fail
      refine (next_any g k _ h (by omega)).mono ?_; rintro e w1 ⟨x, rfl, x0, x1, c1, o1⟩
      go_wp2_with fail
      refine (next_any g (k + 1) _ c1 (by omega)).mono ?_; rintro e w2 ⟨y, rfl, y0, y1, c2, o2⟩
      have t0 : 0 ≤ x * 256 + y := by omega
      have t1 := HT.out _ t0
      have hn0 : n ≠ 0 := by omega
      go_wp2
      go_ret
      have := HX.out _ t0
      exact ⟨_, k + 1 + 1, rfl, (HM.out _).1, Or.inr (HM.out _).2, by omega, by omega, c2, o1.trans o2⟩
    · go_enter Tryz.func60, Tryz.ntmps60
      go_wp2_with fail
      refine (next_any g k _ h (by omega)).mono ?_; rintro e w1 ⟨x, rfl, x0, x1, c1, o1⟩
      have t1 := HT.out _ x0
      go_wp2
      go_ret
      have := HX.out _ x0
      exact ⟨_, k + 1, rfl, (HM.out _).1, Or.inr (HM.out _).2, by omega, by omega, c1, o1⟩
def OneP (w : World) (g k : Nat) (e : Ending) (w' : World) : Prop := ∃ (b : Bool) (k' : Nat), e = .returned (.bool b) ∧ k' ≤ k + 2 ∧ Cur w' g k' ∧ Only [g] w w'
theorem one_any (g k : Nat) (n : Int) (w : World) (h : Cur w g k) (hk : k ≤ 900000000000000) :
    Calls Tryz.prog 82 #[.pointer (some ⟨g, 0, none⟩), .int .i64 n] w (OneP w g k) := by
  go_enter Tryz.func82, Tryz.ntmps82
  go_wp2_with fail
  refine (pick_any g k n _ h hk).mono ?_; rintro e w1 ⟨x, k', rfl, _, _, _, k1, c1, o1⟩
  go_wp2
  go_ret
  exact ⟨_, k', rfl, k1, c1, o1⟩
def AmongP (w : World) (g k : Nat) (l : List Int) (e : Ending) (w' : World) : Prop := ∃ (x : Int) (k' : Nat), e = .returned (.int .i64 x) ∧ x ∈ l ∧ k' ≤ k + 2 ∧ Cur w' g k' ∧ Only [g] w w'
set_option maxHeartbeats 4000000 in
theorem among_any (g k : Nat) (a : Option Addr) (n c : Nat) (l : List Int) (w : World) (h : Cur w g k) (hk : k ≤ 900000000000000) (hl : Ints w a n c l) (hn : 0 < n) (hd : ∀ x, 0 < n → a = some x → x.block ∉ [g]) :
    Calls Tryz.prog 59 #[.pointer (some ⟨g, 0, none⟩), .slice a n c] w (AmongP w g k l) := by
  have hle := hl.le
  have HL := Lib.hid hl.len
  go_enter Tryz.func59, Tryz.ntmps59
  go_wp2_with fail
  refine (pick_any g k n _ h hk).mono ?_; rintro e w1 ⟨x, k', rfl, x0, x1, _, k1, c1, o1⟩
  obtain ⟨i, rfl⟩ : ∃ i : Nat, x = i := ⟨x.toNat, by omega⟩
  have hi : i < n := by omega
  have hi' : (i : Int) < (n : Int) := by omega
  have HM := Lib.hid (getD_mem l i (by rw [← HL.out]; exact hi))
  obtain ⟨q, o, rfl, e1⟩ := (hl.onlyC o1 hd).at i hi
  clear x1
  go_wp2
  go_ret
  exact ⟨_, k', rfl, HM.out, k1, c1, o1⟩
end Go.Proofs.YtchmakepglaijaaGreat
namespace Go.Proofs.YtchmakepglaijaaGreat
open Go.RowKit
theorem Only.thn {F G : List Nat} {w w1 w2 : World} (h : Only F w w1) (k : Only G w1 w2) (hG : ∀ q ∈ G, w.heap.size ≤ q ∨ q ∈ F) : Only F w w2 :=
  ⟨k.os.trans h.os, k.tape.trans h.tape, k.output.trans h.output, Nat.le_trans h.size k.size, fun i hi hn => (k.block i (Nat.lt_of_lt_of_le hi h.size) (fun hm => by
    rcases hG i hm with h1 | h1
    · omega
    · exact hn h1)).trans (h.block i hi hn)⟩
theorem Own.cur {w1 w2 : World} {g b : Nat} {a : Option Addr} {n c : Nat} {l : List Int} (h : Own w1 b a n c l) (ho : Only [g] w1 w2) (hb : g < b) : Own w2 b a n c l :=
  h.only ho (fun q hq hq' => by have := (h.feet q hq).1; simp at hq'; omega)
theorem lit_ne {w : World} {g k : Nat} (h : Cur w g k) (n : Nat) : ∀ x : Addr, 0 < n → some (⟨w.heap.size, 0, none⟩ : Addr) = some x → x.block ∉ [g] := fun x _ hx => by
  have := h.lt
  cases hx
  simp
  omega
def NumP (lo hi : Int) (d : Nat) (w : World) (g k : Nat) (e : Ending) (w' : World) : Prop := ∃ (x : Int) (k' : Nat), e = .returned (.int .i64 x) ∧ lo ≤ x ∧ x ≤ hi ∧ k' ≤ k + d ∧ Cur w' g k' ∧ Only [g] w w'
theorem among_r (g k : Nat) (L : List Int) (lo hi : Int) (w : World) (h : Cur w g k) (hk : k ≤ 900000000000000) (hn : 0 < L.length) (hm : L.length ≤ 1000) (hr : ∀ y ∈ L, lo ≤ y ∧ y ≤ hi) :
    Calls Tryz.prog 59 #[.pointer (some ⟨g, 0, none⟩), .slice (some ⟨w.heap.size, 0, none⟩) L.length L.length] (w.alloc (.cells (L.map (Value.int .i64)).toArray 3)) (NumP lo hi 2 w g k) :=
  (among_any g k _ L.length L.length L _ (h.alloc _) hk (Ints.lit w L 3 (by unfold maxLen; omega)) hn (lit_ne h _)).mono fun _ _ ⟨x, k', he, hx, hk, hc, ho⟩ =>
    ⟨x, k', he, (hr x hx).1, (hr x hx).2, hk, hc, ((Only.refl _ _).alloc _).trans ho⟩
set_option maxHeartbeats 4000000 in
theorem prime_any (g k : Nat) (w : World) (h : Cur w g k) (hk : k ≤ 900000000000000) :
    Calls Tryz.prog 83 #[.pointer (some ⟨g, 0, none⟩)] w (NumP 2 251 2 w g k) := by
  go_enter Tryz.func83, Tryz.ntmps83
  go_wp2_with fail
  refine (among_r g k [2, 3, 5, 7, 7, 11, 13, 13, 17, 31, 97, 251] 2 251 _ h hk (by decide) (by decide) (by decide)).mono ?_; rintro e w1 ⟨x, k', rfl, x0, x1, k1, c1, o1⟩
  go_wp2
  go_ret
  exact ⟨x, k', rfl, x0, x1, by omega, c1, o1⟩
set_option maxHeartbeats 4000000 in
theorem anyPrime_any (g k : Nat) (w : World) (h : Cur w g k) (hk : k ≤ 800000000000000) :
    Calls Tryz.prog 34 #[.pointer (some ⟨g, 0, none⟩)] w (NumP (-7) 257 4 w g k) := by
  go_enter Tryz.func34, Tryz.ntmps34
  go_wp2_with fail
  refine (one_any g k _ _ h (by omega)).mono ?_; rintro e w1 ⟨b, k', rfl, k1, c1, o1⟩
  cases b
  · go_wp2_with fail
    refine (prime_any g k' _ c1 (by omega)).mono ?_; rintro e w2 ⟨x, k2, rfl, x0, x1, kk, c2, o2⟩
    have V1 := o1.trans o2
    clear o1 o2
    go_wp2
    go_ret
    exact ⟨x, k2, rfl, by omega, by omega, by omega, c2, V1⟩
  · go_wp2_with fail
    refine (among_r g k' [0, 1, 4, 9, 49, 249, 257, -7] (-7) 257 _ c1 (by omega) (by simp) (by simp) (by decide)).mono ?_; rintro e w2 ⟨x, k2, rfl, x0, x1, kk, c2, o2⟩
    have V1 := o1.trans o2
    clear o1 o2
    go_wp2
    go_ret
    exact ⟨x, k2, rfl, by omega, by omega, by omega, c2, V1⟩
theorem l1Most_any (a b : Int) (w : World) :
    Calls Tryz.prog 142 #[.int .i64 a, .int .i64 b] w fun e w' => e = .returned (.int .i64 (max a b)) ∧ ∃ m, w' = w.drewN m := by
  by_cases h : a > b
  all_goals
    go_enter Tryz.func142, Tryz.ntmps142
    go_wp2
    go_ret
    exact ⟨ret_int (by omega), 0, rfl⟩
set_option maxHeartbeats 4000000 in
theorem element_any (g k : Nat) (p : Int) (w : World) (h : Cur w g k) (hk : k ≤ 800000000000000) (hp : -1000000 ≤ p ∧ p ≤ 1000000) :
    Calls Tryz.prog 125 #[.pointer (some ⟨g, 0, none⟩), .int .i64 p] w (NumP (-1000000) 1000000 4 w g k) := by
  go_enter Tryz.func125, Tryz.ntmps125
  go_wp2_with fail
  refine (one_any g k _ _ h (by omega)).mono ?_; rintro e w1 ⟨b, k', rfl, k1, c1, o1⟩
  cases b
  · go_wp2_with fail
    refine (l1Most_any _ _ _).mono ?_; rintro e w2 ⟨rfl, q2⟩
    have u2 := below_of_quiet q2
    have c2 := c1.below u2
    have o2 : Only [g] w1 w2 := Only.of_below u2
    clear q2 u2
    go_wp2_with fail
    refine (pick_any g k' _ _ c2 (by omega)).mono ?_; rintro e w3 ⟨x, k2, rfl, x0, x1, x2, kk, c3, o3⟩
    have V1 := o1.trans (o2.trans o3)
    clear o1 o2 o3 x1
    go_wp2
    go_ret
    exact ⟨x, k2, rfl, by omega, by omega, by omega, c3, V1⟩
  · go_wp2_with fail
    refine (among_r g k' [-1, p] (-1000000) 1000000 _ c1 (by omega) (by simp) (by simp) (by simp; omega)).mono ?_; rintro e w2 ⟨x, k2, rfl, x0, x1, kk, c2, o2⟩
    have V1 := o1.trans o2
    clear o1 o2
    go_wp2
    go_ret
    exact ⟨x, k2, rfl, by omega, by omega, by omega, c2, V1⟩
def RowP (lo hi : Int) (n : Int) (w : World) (g k : Nat) (e : Ending) (w' : World) : Prop := ∃ (a : Option Addr) (m c : Nat) (l : List Int) (k' : Nat), e = .returned (.slice a m c) ∧ (m : Int) = max n 0 ∧ Own w' w.heap.size a m c l ∧ (∀ x ∈ l, lo ≤ x ∧ x ≤ hi) ∧ k' ≤ k + 4 * m ∧ Cur w' g k' ∧ Only [g] w w'
set_option maxHeartbeats 4000000 in
theorem elements_any (g k : Nat) (p n : Int) (w : World) (h : Cur w g k) (hk : k ≤ 700000000000000) (hp : -1000000 ≤ p ∧ p ≤ 1000000) (hn : n ≤ 100000) :
    Calls Tryz.prog 87 #[.pointer (some ⟨g, 0, none⟩), .int .i64 p, .int .i64 n] w (RowP (-1000000) 1000000 n w g k) := by
  have hg := h.lt
  go_enter Tryz.func87, Tryz.ntmps87
  go_wp2
  go_loopw [2, 7] (fun v u wr => ∃ i : Nat, (i : Int) ≤ max n 0 ∧ v = .int .i64 (n - i) ∧ Only [g] w wr ∧ ∃ (a : Option Addr) (c : Nat) (l : List Int) (k' : Nat), u = .slice a i c ∧ Own wr w.heap.size a i c l ∧ (∀ x ∈ l, -1000000 ≤ x ∧ x ≤ 1000000) ∧ k' ≤ k + 4 * i ∧ Cur wr g k') (fun v _ _ => (intOf v).toNat)
  case atStart => exact ⟨0, by omega, by simp, Only.refl _ _, none, 0, [], k, rfl, Own.nil0 _ _ _, (fun x hx => by cases hx), by omega, h⟩
  case round =>
    obtain ⟨i, hi, rfl, hO, a, c, l, k', rfl, own, hl, hk', hc⟩ := hrel
    have HL := Lib.hid hl
    clear hl
    by_cases hlt : n - (i : Int) > 0
    · go_wp2_with fail
      refine (element_any g k' _ _ hc (by omega) hp).mono ?_; rintro e w2 ⟨x, k2, rfl, x0, x1, kk, c2, o2⟩
      have own2 := own.cur o2 hg
      have hO2 := hO.trans o2
      have hsz := hO2.size
      clear own hO hc o2
      go_wp2_with (at_builtin; refine wpList_appI _ rfl _ _ rfl w.heap.size a i c l rfl (own2.alloc _) _ 1 1 [x] rfl (Ints.lit1 _ _ _) (by omega) (by simp; omega) ?_)
      intro a5 c5 w3 o5 u5 g5
      have f5 : ∀ q ∈ foot a c, w.heap.size ≤ q ∨ q ∈ [g] := fun q hq => Or.inl (own2.feet q hq).1
      have hO3 := (hO2.alloc (.cells #[.int .i64 x] 3)).thn (Only.of_grown g5) f5
      have c3 := (c2.alloc (.cells #[.int .i64 x] 3)).only (Only.of_grown g5) (fun q hq => by have := (own2.feet q hq).1; omega)
      have HL2 : Hid (∀ y ∈ l ++ [x], -1000000 ≤ y ∧ y ≤ 1000000) := Lib.hid (fun y hy => by
        rcases List.mem_append.1 hy with h1 | h1
        · exact HL.out y h1
        · rw [List.mem_singleton] at h1; subst h1; exact ⟨x0, x1⟩)
      clear u5 g5 f5 own2 hO2 c2
      go_wp2
      go_roundw
      case rel => exact ⟨i + 1, by omega, by congr 1; omega, hO3, a5, c5, _, k2, rfl, o5, HL2.out, by omega, c3⟩
      case measure => simp [intOf]; omega
    · go_wp2
      go_ret
      exact ⟨a, i, c, l, k', rfl, by omega, own, HL.out, by omega, hc, hO⟩
end Go.Proofs.YtchmakepglaijaaGreat
namespace Go.Proofs.YtchmakepglaijaaGreat
open Go.RowKit
def Num1 (w : World) (e : Ending) (w' : World) : Prop := ∃ x : Int, e = .returned (.int .i64 x) ∧ Below w.heap.size w w'
def Num2 (w : World) (e : Ending) (w' : World) : Prop := ∃ x y : Int, e = .returned (.tuple #[.int .i64 x, .int .i64 y]) ∧ Below w.heap.size w w'
end Go.Proofs.YtchmakepglaijaaGreat
namespace Go.Proofs.YtchmakepglaijaaGreat
open Go.RowKit
def Moved (w : World) (a : Option Addr) (c : Nat) (a2 : Option Addr) (c2 : Nat) : Prop := (a2 = a ∧ c2 = c) ∨ ∀ x, 0 < c2 → a2 = some x → w.heap.size ≤ x.block
theorem Moved.disj {w a c a2 c2} {F : List Nat} (h : Moved w a c a2 c2) (hd : Disj (foot a c) F) (hF : ∀ k ∈ F, k < w.heap.size) : Disj (foot a2 c2) F := by
  rcases h with ⟨rfl, rfl⟩ | h
  · exact hd
  · intro k hk hk'
    obtain ⟨x, hx, hc, rfl⟩ := mem_foot hk
    have := h x hc hx
    have := hF _ hk'
    omega
theorem run_app2 {P : Program} (w : World) (t ty : TypeId)
    (b e : Nat) (i : TypeInfo) (z : Value) (sz bytes : Nat) (ht : P.underlying t = some (.slice e)) (hi : P.info? e = some i) (hz : i.zero = some z)
    (hsize : i.size = sz) (hby : i.bytes = bytes) (hzs : z.cells.size = sz) (hsz : 0 < sz)
    (a : Option Addr) (n c : Nat) (xs : List Value) (hown : OwnC w b a n c e sz xs)
    (a' : Option Addr) (m c' : Nat) (xs' : List Value) (hrow : RowC w a' m c' sz xs') (h1 : ∀ u ∈ xs', u.oneCell' = true)
    (hbytes : (n + m) * bytes ≤ 140737488355328) (hmax : n + m ≤ maxLen) (hbase : b ≤ w.heap.size) :
    ∃ a2 c2 w', (Builtin.append_ #[t, t] ty #[.slice a n c, .slice a' m c']).run P w = .ok (.slice a2 (n + m) c2) w' ∧ OwnC w' b a2 (n + m) c2 e sz (xs ++ xs') ∧ w.grownBy w' (rowOf a c) ∧ RowC w' a n c sz xs ∧ Moved w a c a2 c2 := by
  by_cases hm : m = 0
  · subst hm
    have hx' : xs' = [] := List.eq_nil_of_length_eq_zero (by simpa using hrow.1)
    subst hx'
    have hnc := hown.2.1
    refine ⟨a, c, w, ?_, by simpa using hown, World.grownBy.refl _ _, hown.row, Or.inl ⟨rfl, rfl⟩⟩
    cases a' with
    | none => cases a <;> simp [Builtin.append_, run_underlying ht, sizeOf, typeInfo, hi, Builtin.lenOf, Builtin.firstCells, hnc, storeCells]
    | some y =>
      have hf := run_firstCells_some (P := P) w i.size 0 y 0 c' [] (by simp) (fun j u hu => by simp at hu)
      cases a <;> simp [Builtin.append_, run_underlying ht, sizeOf, typeInfo, hi, Builtin.lenOf, hf, hnc, storeCells]
  · obtain ⟨hr1, hr2, hr3, hr4, g', o', hr5, hr6⟩ := hrow
    obtain rfl := hr5 (by omega)
    have hadd : ∀ (g o j : Nat), (⟨g, o, none⟩ : Addr).add j = ⟨g, o + j, none⟩ := fun g o j => by unfold Addr.add; split <;> simp_all
    have hnews : ∀ j u, xs'[j]? = some u → w.cell? ((⟨g', o', none⟩ : Addr).add j) = some u := fun j u hu => by rw [hadd]; exact hr6 j u hu
    by_cases hc : 0 < c
    · obtain ⟨g, cur, hag, hbg, hgg, hcs, hct⟩ := hown.2.2.2.2 hc
      have hob := hown.owns hc
      have hro : rowOf a c = some g := by unfold rowOf; rw [if_neg (by omega), hag]; rfl
      subst hag
      by_cases hroom : n + m ≤ c
      · obtain ⟨w', hrun, r1, r2⟩ := run_append_fits (P := P) w b t ty e i sz ht hi hsize g n c xs hob ⟨g', o', none⟩ m c' xs' hr1 hnews h1 hroom
        obtain ⟨a2, c2, e2, h2⟩ := OwnC.of_owns r1
        cases e2
        exact ⟨_, _, w', hrun, h2, by rw [hro]; exact r2, h2.prefix_row hown.1, Or.inl ⟨rfl, rfl⟩⟩
      · obtain ⟨v', w', hrun, r1, r2⟩ := run_append_arg_grows (P := P) w t ty e i z sz bytes ht hi hz hsize hby hzs hsz ⟨g, 0, none⟩ n c xs hown.1 (fun j u hu => by
          obtain ⟨q1, q2, q3, q4, gg, oo, q5, q6⟩ := hown.row
          have hn0 : 0 < n := by
            have := (List.getElem?_eq_some_iff.1 hu).1
            rw [hown.1] at this
            cases n with
            | zero => simp at this
            | succ n => omega
          have := q5 hn0
          cases this
          rw [hadd]; exact q6 j u hu) ⟨g', o', none⟩ m c' xs' hr1 hnews (by omega) hmax hbytes
        obtain ⟨a2, c2, rfl, h2⟩ := OwnC.of_owns r1
        exact ⟨_, _, w', hrun, h2.lower hbase, grownBy_some r2 _, hown.row.keep r2, Or.inr fun x hc hx => (h2.range x hc hx).1⟩
    · have hn0 : n = 0 := by have := hown.2.1; omega
      have hc0 : c = 0 := by omega
      subst hn0; subst hc0
      have hxe : xs = [] := List.eq_nil_of_length_eq_zero (by simpa using hown.1)
      subst hxe
      cases a with
      | none =>
        obtain ⟨v', w', hrun, r1, r2, _⟩ := run_append_own (P := P) w w.heap.size t ty e i z sz bytes ht hi hz hsize hby hzs hsz (.slice none 0 0) 0 [] (World.ownsRow_nil w _ e sz) ⟨g', o', none⟩ m c' xs' hr1 hnews h1 hmax hbytes (Nat.le_refl _)
        obtain ⟨a2, c2, rfl, h2⟩ := OwnC.of_owns r1
        exact ⟨_, _, w', hrun, h2.lower hbase, by unfold rowOf; exact r2, hown.row.keep r2, Or.inr fun x hc hx => (h2.range x hc hx).1⟩
      | some y =>
        obtain ⟨v', w', hrun, r1, r2⟩ := run_append_arg_grows (P := P) w t ty e i z sz bytes ht hi hz hsize hby hzs hsz y 0 0 [] (by simp) (fun j u hu => by simp at hu) ⟨g', o', none⟩ m c' xs' hr1 hnews (by omega) hmax hbytes
        obtain ⟨a2, c2, rfl, h2⟩ := OwnC.of_owns r1
        exact ⟨_, _, w', hrun, h2.lower hbase, grownBy_some r2 _, hown.row.keep r2, Or.inr fun x hc hx => (h2.range x hc hx).1⟩
theorem run_appJ (w : World) (ty : TypeId) (b : Nat) (a : Option Addr) (n c : Nat) (l : List Int) (hown : Own w b a n c l) (a' : Option Addr) (m c' : Nat) (l' : List Int) (hrow : Ints w a' m c' l') (hlen : n + m ≤ 1000000000000) (hbase : b ≤ w.heap.size) :
    ∃ a2 c2 w', (Builtin.append_ #[23, 23] ty #[.slice a n c, .slice a' m c']).run Tryz.prog w = .ok (.slice a2 (n + m) c2) w' ∧ Own w' b a2 (n + m) c2 (l ++ l') ∧ Below b w w' ∧ w.grownBy w' (rowOf a c) ∧ Ints w' a n c l ∧ Moved w a c a2 c2 := by
  obtain ⟨i0, hi, hz0, hz1, hz2⟩ := info_parts info_int
  obtain ⟨a2, c2, w', hrun, h1, h2, h3, h9⟩ := run_app2 w 23 ty b 3 i0 (.int .i64 0) 1 8 Tryz.underlying23 hi hz0 hz1 hz2 rfl (by decide) a n c _ hown a' m c' _ hrow.rowC (by
    intro u hu
    simp only [List.mem_map] at hu
    obtain ⟨y, _, rfl⟩ := hu
    rfl) (by omega) (by unfold maxLen; omega) hbase
  exact ⟨a2, c2, w', hrun, by unfold Own; rw [List.map_append]; exact h1, below_grownBy h2 hbase (fun x hc hx => (hown.range x hc hx).1), h2, Ints.of_rowC h3, h9⟩
theorem wp_appJ (w : World) {o : Oper} {act : Act} {K : Act → World → Prop} {Q : Exit → Act → World → Prop} (s x : Operand)
    (ho : o.op = .call { callee := .builtin .append, args := #[s, x], argTypes := #[23, 23] })
    (b : Nat) (a : Option Addr) (n c : Nat) (l : List Int) (hs : act.eval s = .slice a n c) (hown : Own w b a n c l)
    (a' : Option Addr) (m c' : Nat) (l' : List Int) (hx : act.eval x = .slice a' m c') (hrow : Ints w a' m c' l')
    (hlen : n + m ≤ 1000000000000) (hbase : b ≤ w.heap.size)
    (h : ∀ a2 c2 w', Own w' b a2 (n + m) c2 (l ++ l') → Below b w w' → w.grownBy w' (rowOf a c) → Ints w' a n c l → Moved w a c a2 c2 → K (act.put o.dst (.slice a2 (n + m) c2)) w') : o.wp Tryz.prog act w K Q := by
  obtain ⟨a2, c2, w', hrun, h1, h2, h3, h4, h5⟩ := run_appJ w o.type b a n c l hown a' m c' l' hrow hlen hbase
  unfold Oper.wp
  simp [execOp, ho, resolve, invoke, builtin, hs, hx, hrun, Result.andThen]
  exact h a2 c2 w' h1 h2 h3 h4 h5
theorem wpList_appJ (w : World) {ops : Array Oper} {rest : List Oper} {o : Oper} {act : Act} {Q : Exit → Act → World → Prop} (hgd : o.guard = none) (s x : Operand)
    (ho : o.op = .call { callee := .builtin .append, args := #[s, x], argTypes := #[23, 23] })
    (b : Nat) (a : Option Addr) (n c : Nat) (l : List Int) (hs : act.eval s = .slice a n c) (hown : Own w b a n c l)
    (a' : Option Addr) (m c' : Nat) (l' : List Int) (hx : act.eval x = .slice a' m c') (hrow : Ints w a' m c' l')
    (hlen : n + m ≤ 1000000000000) (hbase : b ≤ w.heap.size)
    (h : ∀ a2 c2 w', Own w' b a2 (n + m) c2 (l ++ l') → Below b w w' → w.grownBy w' (rowOf a c) → Moved w a c a2 c2 → wpList Tryz.prog ops Q rest (act.put o.dst (.slice a2 (n + m) c2)) w') : wpList Tryz.prog ops Q (o :: rest) act w :=
  wpList_plain hgd fun _ hK => wp_appJ w s x ho b a n c l hs hown a' m c' l' hx hrow hlen hbase fun a2 c2 w' h1 h2 h3 _ h5 => hK _ _ (h a2 c2 w' h1 h2 h3 h5)
theorem step_appJ (w : World) {ops : Array Oper} {o : Oper} {act : Act} {K : Act → World → Prop} {Q : Exit → Act → World → Prop} {E : Prop} (hgd : o.guard = none) (s x : Operand)
    (ho : o.op = .call { callee := .builtin .append, args := #[s, x], argTypes := #[23, 23] })
    (b : Nat) (a : Option Addr) (n c : Nat) (l : List Int) (hs : act.eval s = .slice a n c) (hown : Own w b a n c l)
    (a' : Option Addr) (m c' : Nat) (l' : List Int) (hx : act.eval x = .slice a' m c') (hrow : Ints w a' m c' l')
    (hlen : n + m ≤ 1000000000000) (hbase : b ≤ w.heap.size)
    (h : ∀ a2 c2 w', Own w' b a2 (n + m) c2 (l ++ l') → Below b w w' → w.grownBy w' (rowOf a c) → Ints w' a n c l → Moved w a c a2 c2 → K (act.put o.dst (.slice a2 (n + m) c2)) w') :
    if Region.wanted o (yielded ops act.tmps) = true then Oper.wp Tryz.prog o act w K Q else E := by
  rw [if_pos (by simp [Region.wanted, hgd])]
  exact wp_appJ w s x ho b a n c l hs hown a' m c' l' hx hrow hlen hbase h
end Go.Proofs.YtchmakepglaijaaGreat
namespace Go.Proofs.YtchmakepglaijaaGreat
open Go.RowKit
def eGate : Nat := 98
theorem info_Gate : (Tryz.prog.info? 98).map (fun i => (i.zero, i.size, i.bytes)) = some (some (.agg #[.int .i64 0, .int .i64 0, .int .i64 0]), 3, 24) := by kernel_rfl
end Go.Proofs.YtchmakepglaijaaGreat
namespace Go.Proofs.YtchmakepglaijaaGreat
open Go.RowKit
theorem RowC.gate (w : World) (kd ka kb : Int) (e : TypeId) : RowC (w.alloc (.cells #[.int .i64 kd, .int .i64 ka, .int .i64 kb] e)) (some ⟨w.heap.size, 0, none⟩) 1 1 3 [.int .i64 kd, .int .i64 ka, .int .i64 kb] :=
  (OwnC.lit w 0 1 e 3 [.int .i64 kd, .int .i64 ka, .int .i64 kb] (Nat.zero_le _) rfl (by simp [maxLen])).row
theorem run_appG (w : World) (ty : TypeId) (b : Nat) (a : Option Addr) (n c : Nat) (G : List Int) (hown : OwnF 3 eGate w b a n c G) (a' : Option Addr) (c' : Nat) (kd ka kb : Int) (hrow : RowC w a' 1 c' 3 [.int .i64 kd, .int .i64 ka, .int .i64 kb]) (hlen : n + 1 ≤ 1000000) (hbase : b ≤ w.heap.size) :
    ∃ a2 c2 w', (Builtin.append_ #[47, 47] ty #[.slice a n c, .slice a' 1 c']).run Tryz.prog w = .ok (.slice a2 (n + 1) c2) w' ∧ OwnF 3 eGate w' b a2 (n + 1) c2 (G ++ [kd, ka, kb]) ∧ w.grownBy w' (rowOf a c) ∧ Moved w a c a2 c2 := by
  obtain ⟨i0, hi, hz0, hz1, hz2⟩ := info_parts info_Gate
  obtain ⟨a2, c2, w', hrun, h1, h2, _, h9⟩ := run_app2 w 47 ty b 98 i0 (.agg #[.int .i64 0, .int .i64 0, .int .i64 0]) 3 24 Tryz.underlying47 hi hz0 hz1 hz2 rfl (by decide) a n c _ hown a' 1 c' _ hrow (by
    intro u hu
    simp only [List.mem_cons, List.not_mem_nil, or_false] at hu
    rcases hu with rfl | rfl | rfl <;> rfl) (by omega) (by unfold maxLen; omega) hbase
  exact ⟨a2, c2, w', hrun, by unfold OwnF; rw [List.map_append]; exact h1, h2, h9⟩
theorem wp_appG (w : World) {o : Oper} {act : Act} {K : Act → World → Prop} {Q : Exit → Act → World → Prop} (s x : Operand)
    (ho : o.op = .call { callee := .builtin .append, args := #[s, x], argTypes := #[47, 47] })
    (b : Nat) (a : Option Addr) (n c : Nat) (G : List Int) (hs : act.eval s = .slice a n c) (hown : OwnF 3 eGate w b a n c G)
    (a' : Option Addr) (c' : Nat) (kd ka kb : Int) (hx : act.eval x = .slice a' 1 c') (hrow : RowC w a' 1 c' 3 [.int .i64 kd, .int .i64 ka, .int .i64 kb])
    (hlen : n + 1 ≤ 1000000) (hbase : b ≤ w.heap.size)
    (h : ∀ a2 c2 w', OwnF 3 eGate w' b a2 (n + 1) c2 (G ++ [kd, ka, kb]) → w.grownBy w' (rowOf a c) → Moved w a c a2 c2 → K (act.put o.dst (.slice a2 (n + 1) c2)) w') : o.wp Tryz.prog act w K Q := by
  obtain ⟨a2, c2, w', hrun, h1, h2, h5⟩ := run_appG w o.type b a n c G hown a' c' kd ka kb hrow hlen hbase
  unfold Oper.wp
  simp [execOp, ho, resolve, invoke, builtin, hs, hx, hrun, Result.andThen]
  exact h a2 c2 w' h1 h2 h5
theorem wpList_appG (w : World) {ops : Array Oper} {rest : List Oper} {o : Oper} {act : Act} {Q : Exit → Act → World → Prop} (hgd : o.guard = none) (s x : Operand)
    (ho : o.op = .call { callee := .builtin .append, args := #[s, x], argTypes := #[47, 47] })
    (b : Nat) (a : Option Addr) (n c : Nat) (G : List Int) (hs : act.eval s = .slice a n c) (hown : OwnF 3 eGate w b a n c G)
    (a' : Option Addr) (c' : Nat) (kd ka kb : Int) (hx : act.eval x = .slice a' 1 c') (hrow : RowC w a' 1 c' 3 [.int .i64 kd, .int .i64 ka, .int .i64 kb])
    (hlen : n + 1 ≤ 1000000) (hbase : b ≤ w.heap.size)
    (h : ∀ a2 c2 w', OwnF 3 eGate w' b a2 (n + 1) c2 (G ++ [kd, ka, kb]) → w.grownBy w' (rowOf a c) → Moved w a c a2 c2 → wpList Tryz.prog ops Q rest (act.put o.dst (.slice a2 (n + 1) c2)) w') : wpList Tryz.prog ops Q (o :: rest) act w :=
  wpList_plain hgd fun _ hK => wp_appG w s x ho b a n c G hs hown a' c' kd ka kb hx hrow hlen hbase fun a2 c2 w' h1 h2 h5 => hK _ _ (h a2 c2 w' h1 h2 h5)
end Go.Proofs.YtchmakepglaijaaGreat
namespace Go.Proofs.YtchmakepglaijaaGreat
open Go.RowKit
theorem RowC.opened (w : World) (kd ka kb : Int) (e : TypeId) : RowC (w.alloc (.cells #[.int .i64 kd, .int .i64 ka, .int .i64 kb] e)) (some ⟨w.heap.size, 0, none⟩) 1 1 3 [.int .i64 kd, .int .i64 ka, .int .i64 kb] :=
  (OwnC.lit w 0 1 e 3 [.int .i64 kd, .int .i64 ka, .int .i64 kb] (Nat.zero_le _) rfl (by simp [maxLen])).row
end Go.Proofs.YtchmakepglaijaaGreat
namespace Go.Proofs.YtchmakepglaijaaGreat
open Go.RowKit
end Go.Proofs.YtchmakepglaijaaGreat
namespace Go.Proofs.YtchmakepglaijaaGreat
open Go.RowKit
theorem qInts_same (a : Option Addr) (n c : Nat) (a' : Option Addr) (n' c' : Nat) (l : List Int) (w : World) (h : Ints w a n c l) (h' : Ints w a' n' c' l) :
    Calls Tryz.prog 14 #[.slice a n c, .slice a' n' c'] w fun e w' => e = .returned (.bool true) ∧ ∃ m, w' = w.drewN m := by
  obtain rfl : n = n' := by rw [h.len, h'.len]
  have hn := h.le
  go_enter Tryz.func14, Tryz.ntmps14
  go_wp2
  go_loopw [13] (fun v wr => ∃ k : Nat, k ≤ n ∧ v = .int .i64 k ∧ ∃ m, wr = w.drewN m) (fun v _ => n - (intOf v).toNat)
  case atStart => exact ⟨0, Nat.zero_le _, rfl, 0, rfl⟩
  case round =>
    obtain ⟨k, hk, rfl, m, rfl⟩ := hrel
    by_cases hlt : k < n
    · obtain ⟨g, o, rfl, hcell⟩ := h.at k hlt
      obtain ⟨g', o', rfl, hcell'⟩ := h'.at k hlt
      have hb : ((l.getD k 0 != l.getD k 0) : Bool) = false := by simp
      go_wp2
      go_quiet (fail)
      go_wp2
      go_roundw
      case rel => exact ⟨k + 1, by omega, by go_num, _, by first | rfl | exact World.drewN_drewN ..⟩
      case measure => simp [intOf]; omega
    · go_wp2
      go_ret
      exact ⟨rfl, _, rfl⟩
theorem qGates_same (a : Option Addr) (n c : Nat) (a' : Option Addr) (n' c' : Nat) (l : List Int) (w : World) (h : Flat 3 w a n c l) (h' : Flat 3 w a' n' c' l) :
    Calls Tryz.prog 77 #[.slice a n c, .slice a' n' c'] w fun e w' => e = .returned (.bool true) ∧ ∃ m, w' = w.drewN m := by
  obtain rfl : n = n' := by have := h.len; have := h'.len; omega
  have hn := h.le
  go_enter Tryz.func77, Tryz.ntmps77
  go_wp2
  go_loopw [13] (fun v wr => ∃ k : Nat, k ≤ n ∧ v = .int .i64 k ∧ ∃ m, wr = w.drewN m) (fun v _ => n - (intOf v).toNat)
  case atStart => exact ⟨0, Nat.zero_le _, rfl, 0, rfl⟩
  case round =>
    obtain ⟨k, hk, rfl, m, rfl⟩ := hrel
    by_cases hlt : k < n
    · obtain ⟨g, o, rfl, hc⟩ := h.at (by omega)
      obtain ⟨g', o', rfl, hc'⟩ := h'.at (by omega)
      have c0 : w.cell? ⟨g, o + k * 3, none⟩ = some (.int .i64 (l.getD (k * 3) 0)) := hc (k * 3) (by omega)
      have c1 : w.cell? ⟨g, o + k * 3 + 1, none⟩ = some (.int .i64 (l.getD (k * 3 + 1) 0)) := by have := hc (k * 3 + 1) (by omega); simpa only [Nat.add_assoc] using this
      have c2 : w.cell? ⟨g, o + k * 3 + 2, none⟩ = some (.int .i64 (l.getD (k * 3 + 2) 0)) := by have := hc (k * 3 + 2) (by omega); simpa only [Nat.add_assoc] using this
      have d0 : w.cell? ⟨g', o' + k * 3, none⟩ = some (.int .i64 (l.getD (k * 3) 0)) := hc' (k * 3) (by omega)
      have d1 : w.cell? ⟨g', o' + k * 3 + 1, none⟩ = some (.int .i64 (l.getD (k * 3 + 1) 0)) := by have := hc' (k * 3 + 1) (by omega); simpa only [Nat.add_assoc] using this
      have d2 : w.cell? ⟨g', o' + k * 3 + 2, none⟩ = some (.int .i64 (l.getD (k * 3 + 2) 0)) := by have := hc' (k * 3 + 2) (by omega); simpa only [Nat.add_assoc] using this
      generalize l.getD (k * 3) 0 = x at *
      generalize l.getD (k * 3 + 1) 0 = y at *
      generalize l.getD (k * 3 + 2) 0 = z at *
      clear hc hc'
      go_wp2
      go_quiet (fail)
      go_wp2
      go_roundw
      case rel => exact ⟨k + 1, by omega, by go_num, _, by first | rfl | exact World.drewN_drewN ..⟩
      case measure => simp [intOf]; omega
    · go_wp2
      go_ret
      exact ⟨rfl, _, rfl⟩
theorem qCircuit_same (s0 s1 : Int) (ga : Option Addr) (gn gc : Nat) (oa : Option Addr) (on oc : Nat) (ga' : Option Addr) (gn' gc' : Nat) (oa' : Option Addr) (on' oc' : Nat) (G O : List Int) (w : World) (hG : Flat 3 w ga gn gc G) (hO : Ints w oa on oc O) (hG' : Flat 3 w ga' gn' gc' G) (hO' : Ints w oa' on' oc' O) :
    Calls Tryz.prog 31 #[.agg #[.int .i64 s0, .int .i64 s1, .slice ga gn gc, .slice oa on oc], .agg #[.int .i64 s0, .int .i64 s1, .slice ga' gn' gc', .slice oa' on' oc']] w fun e w' => e = .returned (.bool true) ∧ Below w.heap.size w w' := by
  have V1 : Below w.heap.size w ((w.alloc (.cells #[.int .i64 s0, .int .i64 s1, .slice ga gn gc, .slice oa on oc] 49)).alloc (.cells #[.int .i64 s0, .int .i64 s1, .slice ga' gn' gc', .slice oa' on' oc'] 49)) := ((Below.refl _ _).alloc (Nat.le_refl _) _).alloc (by simp) _
  have B1 : Blk ((w.alloc (.cells #[.int .i64 s0, .int .i64 s1, .slice ga gn gc, .slice oa on oc] 49)).alloc (.cells #[.int .i64 s0, .int .i64 s1, .slice ga' gn' gc', .slice oa' on' oc'] 49)) w.heap.size 49 #[.int .i64 s0, .int .i64 s1, .slice ga gn gc, .slice oa on oc] := (Blk.new w _ _).alloc _
  have B2 : Blk ((w.alloc (.cells #[.int .i64 s0, .int .i64 s1, .slice ga gn gc, .slice oa on oc] 49)).alloc (.cells #[.int .i64 s0, .int .i64 s1, .slice ga' gn' gc', .slice oa' on' oc'] 49)) (w.heap.size + 1) 49 #[.int .i64 s0, .int .i64 s1, .slice ga' gn' gc', .slice oa' on' oc'] := by have := Blk.new (w.alloc (.cells #[.int .i64 s0, .int .i64 s1, .slice ga gn gc, .slice oa on oc] 49)) 49 #[.int .i64 s0, .int .i64 s1, .slice ga' gn' gc', .slice oa' on' oc']; rw [World.size_alloc] at this; exact this
  go_enter Tryz.func31, Tryz.ntmps31
  go_wp2_with fail
  generalize ((w.alloc (.cells #[.int .i64 s0, .int .i64 s1, .slice ga gn gc, .slice oa on oc] 49)).alloc (.cells #[.int .i64 s0, .int .i64 s1, .slice ga' gn' gc', .slice oa' on' oc'] 49)) = w1 at *
  refine (qGates_same _ _ _ _ _ _ G _ (hG.below V1) (hG'.below V1)).mono ?_; rintro e w2 ⟨rfl, q2⟩
  have u2 := below_of_quiet q2
  have C1 := B1.below u2
  have C2 := B2.below u2
  have x3 : w2.cell? ⟨w.heap.size, 3, none⟩ = some (.slice oa on oc) := C1.cell 3
  have y3 : w2.cell? ⟨w.heap.size + 1, 3, none⟩ = some (.slice oa' on' oc') := C2.cell 3
  have V2 := V1.trans (u2.mono V1.size)
  clear q2 u2 V1 B1 B2 C1 C2
  go_wp2_with fail
  refine (qInts_same _ _ _ _ _ _ O _ (hO.below V2) (hO'.below V2)).mono ?_; rintro e w3 ⟨rfl, q3⟩
  have V3 := V2.trans ((below_of_quiet q3).mono V2.size)
  clear q3 V2 x3 y3
  go_wp2
  go_ret
  exact ⟨rfl, V3⟩
end Go.Proofs.YtchmakepglaijaaGreat
