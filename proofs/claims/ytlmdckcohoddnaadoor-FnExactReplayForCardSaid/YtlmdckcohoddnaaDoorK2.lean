/- Lemmas and walks that the claim's proof rests on, part 2. -/
import Derived.ArgAppend
import Derived.Test.YtlmdckcohoddnaaDoorK1
namespace Go.Proofs.YtlmdckcohoddnaaDoor
open Go.RowKit
/-- The blocks of a row that has room. -/
def foot (a : Option Addr) (c : Nat) : List Nat := (rowOf a c).toList
/-- Outside the blocks F all stays. -/
structure Only (F : List Nat) (w w' : World) : Prop where
  os : w'.os = w.os
  tape : w'.tape = w.tape
  output : w'.output = w.output
  size : w.heap.size ≤ w'.heap.size
  block : ∀ k, k < w.heap.size → k ∉ F → w'.heap[k]? = w.heap[k]?
theorem Only.refl (F : List Nat) (w : World) : Only F w w := ⟨rfl, rfl, rfl, Nat.le_refl _, fun _ _ _ => rfl⟩
theorem Only.trans {F w w1 w2} (h : Only F w w1) (k : Only F w1 w2) : Only F w w2 :=
  ⟨k.os.trans h.os, k.tape.trans h.tape, k.output.trans h.output, Nat.le_trans h.size k.size, fun i hi hn => (k.block i (Nat.lt_of_lt_of_le hi h.size) hn).trans (h.block i hi hn)⟩
theorem Only.more {F F' w w'} (h : Only F w w') (hs : ∀ k ∈ F, k ∈ F') : Only F' w w' :=
  ⟨h.os, h.tape, h.output, h.size, fun i hi hn => h.block i hi (fun hm => hn (hs i hm))⟩
theorem Only.of_grown {w w' : World} {a : Option Addr} {c : Nat} (h : w.grownBy w' (rowOf a c)) : Only (foot a c) w w' :=
  ⟨h.os, h.tape, h.output, h.size, fun i hi hn => h.block i hi (fun e => hn (by unfold foot; rw [← e]; simp))⟩
theorem Only.of_below {F : List Nat} {w w' : World} (h : Below w.heap.size w w') : Only F w w' :=
  ⟨h.os, h.tape, h.output, h.size, fun i hi _ => h.block i hi⟩
theorem Only.below {F : List Nat} {w w' : World} {B : Nat} (h : Only F w w') (hB : B ≤ w.heap.size) (hF : ∀ k ∈ F, B ≤ k) : Below B w w' :=
  ⟨h.os, h.tape, h.output, h.size, fun i hi => h.block i (by omega) (fun hm => by have := hF i hm; omega)⟩
theorem Only.left {F G w w'} (h : Only F w w') : Only (F ++ G) w w' := h.more fun _ hk => List.mem_append_left _ hk
theorem Only.right {F G w w'} (h : Only G w w') : Only (F ++ G) w w' := h.more fun _ hk => List.mem_append_right _ hk
theorem mem_foot {a : Option Addr} {c k : Nat} (h : k ∈ foot a c) : ∃ x, a = some x ∧ 0 < c ∧ k = x.block := by
  unfold foot rowOf at h
  split at h
  · simp at h
  · cases a with
    | none => simp at h
    | some x => simp at h; exact ⟨x, rfl, by omega, h⟩
theorem foot_mem {x : Addr} {c : Nat} (h : 0 < c) : x.block ∈ foot (some x) c := by
  unfold foot rowOf
  rw [if_neg (by omega)]
  simp
theorem OwnC.feet {w b a n c e sz xs} (h : OwnC w b a n c e sz xs) : ∀ k ∈ foot a c, b ≤ k ∧ k < w.heap.size := fun k hk => by
  obtain ⟨x, hx, hc, rfl⟩ := mem_foot hk
  exact h.range x hc hx
theorem OwnC.only {F : List Nat} {w w' : World} {b a n c e sz xs} (h : OwnC w b a n c e sz xs) (ho : Only F w w') (hd : ∀ k ∈ foot a c, k ∉ F) : OwnC w' b a n c e sz xs :=
  ⟨h.1, h.2.1, h.2.2.1, h.2.2.2.1, fun hc => by
    obtain ⟨g, cur, h1, h2, h3, h4⟩ := h.2.2.2.2 hc
    exact ⟨g, cur, h1, h2, by rw [ho.block g (Array.getElem?_eq_some_iff.1 h3).1 (hd g (by rw [h1]; exact foot_mem hc))]; exact h3, h4⟩⟩
/-- No block of the one is a block of the other. -/
def Disj (F G : List Nat) : Prop := ∀ k ∈ F, k ∉ G
theorem Disj.symm {F G} (h : Disj F G) : Disj G F := fun k hk hf => h k hf hk
theorem Disj.of_rng {F G : List Nat} {a b c d : Nat} (hF : ∀ k ∈ F, a ≤ k ∧ k < b) (hG : ∀ k ∈ G, c ≤ k ∧ k < d) (h : b ≤ c ∨ d ≤ a) : Disj F G := fun k hk hg => by
  have := hF k hk; have := hG k hg; omega
theorem Apart.disj {a c a' c'} (h : Apart a c a' c') : Disj (foot a c) (foot a' c') := fun k hk hk' => by
  obtain ⟨x, hx, hc, rfl⟩ := mem_foot hk
  obtain ⟨y, hy, hc', e⟩ := mem_foot hk'
  exact h x y hc hc' hx hy e
theorem Disj.app {F G G'} (h : Disj F G) (h' : Disj F G') : Disj F (G ++ G') := fun k hk hm => by
  rcases List.mem_append.1 hm with hm | hm
  · exact h k hk hm
  · exact h' k hk hm
theorem Disj.nil_l (F : List Nat) : Disj [] F := fun _ hk => by cases hk
theorem Disj.nil_r (F : List Nat) : Disj F [] := fun _ _ hk => by cases hk
/-- The slice (a, n, c) of structs of k ints reads as the numbers l, one struct behind the other. -/
def Flat (k : Nat) (w : World) (a : Option Addr) (n c : Nat) (l : List Int) : Prop := RowC w a n c k (l.map (Value.int .i64))
/-- It is the call's own (e: the type of its elements), in blocks from b on. -/
def OwnF (k e : Nat) (w : World) (b : Nat) (a : Option Addr) (n c : Nat) (l : List Int) : Prop := OwnC w b a n c e k (l.map (Value.int .i64))
theorem Flat.len {k w a n c l} (h : Flat k w a n c l) : l.length = n * k := by have := h.1; simpa using this
theorem Flat.cap {k w a n c l} (h : Flat k w a n c l) : n ≤ c ∧ c ≤ maxLen := ⟨h.2.1, h.2.2.1⟩
theorem Flat.le {k w a n c l} (h : Flat k w a n c l) : (n : Int) ≤ 9223372036854775807 := by
  have := h.2.1; have := h.2.2.1; unfold maxLen at this; omega
theorem Flat.below {k w w' a n c l} (h : Flat k w a n c l) (hb : Below w.heap.size w w') : Flat k w' a n c l := RowC.below h hb
theorem Flat.alloc {k w a n c l} (h : Flat k w a n c l) (o : Obj) : Flat k (w.alloc o) a n c l := h.below ((Below.refl _ _).alloc (Nat.le_refl _) _)
theorem Flat.drewN {k w a n c l} (h : Flat k w a n c l) (m : Nat) : Flat k (w.drewN m) a n c l := h.below (below_of_drewN m)
theorem Flat.drew {k w a n c l} (h : Flat k w a n c l) : Flat k w.drew a n c l := h.below ((Below.refl _ _).drew)
theorem Flat.at {k w a n c l} (h : Flat k w a n c l) (hn : 0 < n) : ∃ g o, a = some ⟨g, o, none⟩ ∧ ∀ j, j < n * k → w.cell? ⟨g, o + j, none⟩ = some (.int .i64 (l.getD j 0)) := by
  have hl := h.len
  obtain ⟨_, _, _, _, g, o, h1, h2⟩ := h
  exact ⟨g, o, h1 hn, fun j hj => h2 j _ (by simp [List.getD, show j < l.length by omega])⟩
theorem OwnF.flat {k e w b a n c l} (h : OwnF k e w b a n c l) : Flat k w a n c l := h.row
theorem OwnF.len {k e w b a n c l} (h : OwnF k e w b a n c l) : l.length = n * k := h.flat.len
theorem OwnF.cap {k e w b a n c l} (h : OwnF k e w b a n c l) : n ≤ c ∧ c ≤ maxLen := h.flat.cap
theorem OwnF.below {k e w w' b a n c l} (h : OwnF k e w b a n c l) (hb : Below w.heap.size w w') : OwnF k e w' b a n c l := OwnC.below h hb
theorem OwnF.lower {k e w b b' a n c l} (h : OwnF k e w b a n c l) (hb : b' ≤ b) : OwnF k e w b' a n c l := OwnC.lower h hb
theorem OwnF.alloc {k e w b a n c l} (h : OwnF k e w b a n c l) (o : Obj) : OwnF k e (w.alloc o) b a n c l := h.below ((Below.refl _ _).alloc (Nat.le_refl _) _)
theorem OwnF.drew {k e w b a n c l} (h : OwnF k e w b a n c l) : OwnF k e w.drew b a n c l := h.below ((Below.refl _ _).drew)
theorem OwnF.drewN {k e w b a n c l} (h : OwnF k e w b a n c l) (m : Nat) : OwnF k e (w.drewN m) b a n c l := h.below (below_of_drewN m)
theorem OwnF.feet {k e w b a n c l} (h : OwnF k e w b a n c l) : ∀ k ∈ foot a c, b ≤ k ∧ k < w.heap.size := OwnC.feet h
theorem OwnF.only {F : List Nat} {k e : Nat} {w w' : World} {b a n c l} (h : OwnF k e w b a n c l) (ho : Only F w w') (hd : Disj (foot a c) F) : OwnF k e w' b a n c l := OwnC.only h ho hd
theorem Own.feet {w b a n c l} (h : Own w b a n c l) : ∀ k ∈ foot a c, b ≤ k ∧ k < w.heap.size := OwnC.feet h
theorem Own.only {F : List Nat} {w w' : World} {b a n c l} (h : Own w b a n c l) (ho : Only F w w') (hd : Disj (foot a c) F) : Own w' b a n c l := OwnC.only h ho hd
/-- A store into such a row: its cell j. -/
theorem OwnF.at {k e w b a n c l} (h : OwnF k e w b a n c l) (j : Nat) (hj : j < n * k) : ∃ g, a = some ⟨g, 0, none⟩ ∧ b ≤ g ∧ g < w.heap.size ∧ w.cell? ⟨g, j, none⟩ = some (.int .i64 (l.getD j 0)) ∧ w.frozen? ⟨g, j, none⟩ = false ∧
    ∀ x, OwnF k e (w.setCell ⟨g, j, none⟩ (.int .i64 x)) b (some ⟨g, 0, none⟩) n c (l.set j x) := by
  obtain ⟨g, rfl, hb, hg, ⟨u, hu, hc⟩, hf, hs⟩ := OwnC.atC h j hj
  have hl : j < l.length := by rw [h.len]; exact hj
  refine ⟨g, rfl, hb, hg, ?_, hf, fun x => by unfold OwnF; rw [List.map_set]; exact hs _⟩
  rw [hc, ← hu]
  simp [List.getD, hl]
theorem OwnF.cf {k e w b g n c l} (h : OwnF k e w b (some ⟨g, 0, none⟩) n c l) (j : Nat) (hj : j < n * k) : w.cell? ⟨g, j, none⟩ = some (.int .i64 (l.getD j 0)) ∧ w.frozen? ⟨g, j, none⟩ = false := by
  obtain ⟨_, E, _, _, h1, h2, _⟩ := h.at j hj
  cases E
  exact ⟨h1, h2⟩
theorem OwnF.put {k e w b g n c l} (h : OwnF k e w b (some ⟨g, 0, none⟩) n c l) (j : Nat) (hj : j < n * k) (x : Int) : OwnF k e (w.setCell ⟨g, j, none⟩ (.int .i64 x)) b (some ⟨g, 0, none⟩) n c (l.set j x) := by
  obtain ⟨_, E, _, _, _, _, h3⟩ := h.at j hj
  cases E
  exact h3 x
theorem Only.setCell {F : List Nat} {w w' : World} (h : Only F w w') (p : Addr) (u : Value) (hp : p.block ∈ F) : Only F w (w'.setCell p u) :=
  ⟨h.os, h.tape, h.output, by have := h.size; simpa [World.setCell] using this, fun k hk hne => by
    rw [Below.heap_setCell _ _ _ _ (by intro e; subst e; exact hne hp)]; exact h.block k hk hne⟩
theorem Only.alloc {F : List Nat} {w w' : World} (h : Only F w w') (o : Obj) : Only F w (w'.alloc o) :=
  h.trans (Only.of_below ((Below.refl _ _).alloc (Nat.le_refl _) _))
theorem Only.drew {F : List Nat} {w w' : World} (h : Only F w w') : Only F w w'.drew :=
  h.trans (Only.of_below ((Below.refl _ _).drew))
/-- A block that is known whole. -/
def Blk (w : World) (g : Nat) (t : TypeId) (cs : Array Value) : Prop := w.heap[g]? = some (.cells cs t (0, 0))
theorem Blk.lt {w g t cs} (h : Blk w g t cs) : g < w.heap.size := by
  rcases Nat.lt_or_ge g w.heap.size with hlt | hge
  · exact hlt
  · unfold Blk at h; rw [Array.getElem?_eq_none hge] at h; cases h
theorem Blk.cell {w g t cs} (h : Blk w g t cs) (i : Nat) : w.cell? ⟨g, i, none⟩ = cs[i]? := cell_of_row w g i cs t (0, 0) h
theorem Blk.frozen {w g t cs} (h : Blk w g t cs) (i : Nat) : w.frozen? ⟨g, i, none⟩ = false := by
  unfold Blk at h
  simp [World.frozen?, h]
theorem Blk.new (w : World) (t : TypeId) (cs : Array Value) : Blk (w.alloc (.cells cs t)) w.heap.size t cs := heap_alloc_new w _
theorem Blk.below {w w' g t cs} (h : Blk w g t cs) (hb : Below w.heap.size w w') : Blk w' g t cs := (hb.block g h.lt).trans h
theorem Blk.alloc {w g t cs} (h : Blk w g t cs) (o : Obj) : Blk (w.alloc o) g t cs := (Below.heap_alloc w o g h.lt).trans h
theorem Blk.drew {w g t cs} (h : Blk w g t cs) : Blk w.drew g t cs := h
theorem Blk.only {F : List Nat} {w w' g t cs} (h : Blk w g t cs) (ho : Only F w w') (hg : g ∉ F) : Blk w' g t cs := (ho.block g h.lt hg).trans h
theorem Blk.set_ {w g t cs} (h : Blk w g t cs) (i : Nat) (u : Value) : Blk (w.setCell ⟨g, i, none⟩ u) g t (cs.setIfInBounds i u) := by
  unfold Blk at h ⊢
  simp [World.setCell, Array.getElem?_modify, h]
theorem Blk.far {w g t cs} (h : Blk w g t cs) {p : Addr} (hp : g ≠ p.block) (u : Value) : Blk (w.setCell p u) g t cs := (Below.heap_setCell w p u g hp).trans h
theorem szIntS_yes (a : Option Addr) (n c : Nat) (left : Int) (w : World) (h0 : (n : Int) ≤ 9223372036854775807) (h1 : left ≤ 1048576) (h2 : (n : Int) ≤ left) :
    Calls Tryd.prog 53 #[.slice a n c, .int .i64 left] w fun e w' => e = .returned (.int .i64 (left - n)) ∧ w = w' := by
  go_enter Tryd.func53, Tryd.ntmps53
  go_wp2
  go_ret
  exact ⟨rfl, rfl⟩
theorem szIntS_no (a : Option Addr) (n c : Nat) (left : Int) (w : World) (h0 : (n : Int) ≤ 9223372036854775807) (h1 : 0 ≤ left ∧ left ≤ 1048576) (h2 : ¬ (n : Int) ≤ left) :
    Calls Tryd.prog 53 #[.slice a n c, .int .i64 left] w fun e w' => e = .returned (.int .i64 (-1)) ∧ w = w' := by
  have h3 : left - (n : Int) < 0 := by omega
  go_enter Tryd.func53, Tryd.ntmps53
  go_wp2
  go_ret
  exact ⟨rfl, rfl⟩
theorem eqIntS_b (a : Option Addr) (n c : Nat) (a' : Option Addr) (n' c' : Nat) (l : List Int) (w : World) (h : Ints w a n c l) (h' : Ints w a' n' c' l) :
    Calls Tryd.prog 22 #[.slice a n c, .slice a' n' c'] w fun e w' => e = .returned (.bool true) ∧ Below w.heap.size w w' :=
  (eqIntS_same a n c a' n' c' l w h h').mono fun _ _ ⟨he, hq⟩ => ⟨he, below_of_quiet hq⟩
theorem markIntS_o (a : Option Addr) (n c b : Nat) (l : List Int) (k0 : Int) (w : World) (h : Own w b a n c l) (h0 : 0 ≤ k0) (h1 : k0 + n ≤ 4000000000000000000) :
    Calls Tryd.prog 24 #[.slice a n c, .int .i64 k0] w fun e w' => e = .returned (.int .i64 (k0 + n)) ∧ (∃ l', Own w' b a n c l' ∧ UpFrom k0 l') ∧ Only (foot a c) w w' :=
  (markIntS_any a n c b l k0 w h h0 h1).mono fun _ _ ⟨he, hl, hg⟩ => ⟨he, hl, Only.of_grown hg⟩
theorem heldIntS_b (a : Option Addr) (n c : Nat) (l : List Int) (k0 : Int) (w : World) (h : Ints w a n c l) (hu : UpFrom k0 l) (h0 : 0 ≤ k0) (h1 : k0 + n ≤ 4000000000000000000) :
    Calls Tryd.prog 25 #[.slice a n c, .int .i64 k0] w fun e w' => e = .returned (.int .i64 (k0 + n)) ∧ Below w.heap.size w w' :=
  (heldIntS_any a n c l k0 w h hu h0 h1).mono fun _ _ ⟨he, hq⟩ => ⟨he, below_of_quiet hq⟩
end Go.Proofs.YtlmdckcohoddnaaDoor
namespace Go.Proofs.YtlmdckcohoddnaaDoor
open Go.RowKit
def tagB (p v t : Int) : Bool := elB p v && elB p t
theorem tagB_els (p v t : Int) : tagB p v t = elsB p [v, t] := by
  unfold tagB elB elsB allB; cases isPr p <;> simp
set_option maxHeartbeats 4000000 in
set_option maxRecDepth 100000 in
theorem isTagged_any (p v t : Int) (w : World) :
    Calls Tryd.prog 63 #[.int .i64 p, .agg #[.int .i64 v, .int .i64 t]] w fun e w' => e = .returned (.bool (tagB p v t)) ∧ Below w.heap.size w w' := by
  have V0 : Below w.heap.size w (w.alloc (.cells #[.int .i64 v, .int .i64 t] 81)) := (Below.refl _ _).alloc (Nat.le_refl _) _
  unfold tagB
  cases h1 : elB p v
  · simp only [Bool.false_and]
    go_enter Tryd.func63, Tryd.ntmps63
    go_wp2_with fail
    refine (isElement_any _ _ _).mono ?_; rintro e w' ⟨rfl, m, rfl⟩
    rw [h1]
    go_wp2
    go_ret
    exact ⟨rfl, below_drewN V0 _⟩
  · simp only [Bool.true_and]
    go_enter Tryd.func63, Tryd.ntmps63
    go_wp2_with fail
    refine (isElement_any _ _ _).mono ?_; rintro e w' ⟨rfl, m, rfl⟩
    rw [h1]
    go_wp2_with fail
    refine (isElement_any _ _ _).mono ?_; rintro e w' ⟨rfl, m', rfl⟩
    go_wp2
    go_ret
    exact ⟨rfl, by rw [← World.drewN_drewN]; exact below_drewN (below_drewN V0 _) _⟩
set_option maxHeartbeats 4000000 in
set_option maxRecDepth 100000 in
theorem tgGood_any (p v t : Int) (w : World) :
    Calls Tryd.prog 101 #[.int .i64 p, .agg #[.int .i64 v, .int .i64 t]] w fun e w' => e = .returned (.bool (tagB p v t)) ∧ Below w.heap.size w w' := by
  rw [tagB_els]
  have hI : Ints ((w.alloc (.cells #[.int .i64 v, .int .i64 t] 81)).alloc (.cells #[.int .i64 v, .int .i64 t] 3)) (some ⟨w.heap.size + 1, 0, none⟩) 2 2 [v, t] := by simpa using Ints.lit2 (w.alloc (.cells #[.int .i64 v, .int .i64 t] 81)) v t 3
  have V0 : Below w.heap.size w ((w.alloc (.cells #[.int .i64 v, .int .i64 t] 81)).alloc (.cells #[.int .i64 v, .int .i64 t] 3)) := ((Below.refl _ _).alloc (Nat.le_refl _) _).alloc (by simp) _
  go_enter Tryd.func101, Tryd.ntmps101
  go_wp2_with fail
  refine (fpIn_any _ _ 2 2 [v, t] _ hI).mono ?_; rintro e w' ⟨rfl, m, rfl⟩
  go_wp2
  go_ret
  exact ⟨rfl, below_drewN V0 _⟩
/-- Whether a tag holds. -/
def holdB (p delta key v t : Int) : Bool := decide ((v * delta + key - t) % p = 0)
set_option maxHeartbeats 4000000 in
set_option maxRecDepth 100000 in
theorem holds_any (p delta key v t : Int) (w : World) (hp : 1 ≤ p) (hp2 : p ≤ 1000) (hd : 0 ≤ delta ∧ delta ≤ p - 1) (hk : 0 ≤ key ∧ key ≤ p - 1) (hv : 0 ≤ v ∧ v ≤ p - 1) (ht : 0 ≤ t ∧ t ≤ p - 1) :
    Calls Tryd.prog 144 #[.int .i64 p, .int .i64 delta, .int .i64 key, .agg #[.int .i64 v, .int .i64 t]] w fun e w' => e = .returned (.bool (holdB p delta key v t)) ∧ Below w.heap.size w w' := by
  have V0 : Below w.heap.size w (w.alloc (.cells #[.int .i64 v, .int .i64 t] 81)) := (Below.refl _ _).alloc (Nat.le_refl _) _
  have m1 : 0 ≤ v * delta := Int.mul_nonneg hv.1 hd.1
  have m2 : v * delta ≤ 1000 * 1000 := Int.mul_le_mul (by omega) (by omega) hd.1 (by omega)
  have t1 : IntKind.i64.wrap (v * delta) = v * delta := IntWalk.i64_in _ (by omega)
  have t2 : IntKind.i64.wrap (v * delta + key) = v * delta + key := IntWalk.i64_in _ (by omega)
  have t3 : IntKind.i64.wrap (v * delta + key - t) = v * delta + key - t := IntWalk.i64_in _ (by omega)
  unfold holdB
  go_enter Tryd.func144, Tryd.ntmps144
  go_wp2_with fail
  refine (mod_same _ _ _ hp (by omega)).mono ?_; rintro e w' ⟨rfl, rfl⟩
  go_wp2
  go_ret
  exact ⟨ret_bool (by rw [Bool.eq_iff_iff]; simp), V0⟩
theorem hold_eq {p x t : Int} (_hp : 1 ≤ p) (ht : 0 ≤ t ∧ t ≤ p - 1) : ((x - t) % p = 0) ↔ (x % p = t) := by
  constructor
  · intro h
    have h1 := Int.emod_emod_of_dvd x (Int.dvd_refl p)
    have h2 : x % p = t % p := (Int.emod_eq_emod_iff_emod_sub_eq_zero).2 h
    rw [h2, Int.emod_eq_of_lt ht.1 (by omega)]
  · intro h
    have h2 : x % p = t % p := by rw [h, Int.emod_eq_of_lt ht.1 (by omega)]
    exact (Int.emod_eq_emod_iff_emod_sub_eq_zero).1 h2
set_option maxHeartbeats 4000000 in
set_option maxRecDepth 100000 in
theorem tgHolds_any (p delta key v t : Int) (w : World) (hp : 1 ≤ p) (hp2 : p ≤ 1000) (hd : 0 ≤ delta ∧ delta ≤ p - 1) (hk : 0 ≤ key ∧ key ≤ p - 1) (hv : 0 ≤ v ∧ v ≤ p - 1) (ht : 0 ≤ t ∧ t ≤ p - 1) :
    Calls Tryd.prog 140 #[.int .i64 p, .int .i64 delta, .int .i64 key, .agg #[.int .i64 v, .int .i64 t]] w fun e w' => e = .returned (.bool (holdB p delta key v t)) ∧ Below w.heap.size w w' := by
  have V0 : Below w.heap.size w (w.alloc (.cells #[.int .i64 v, .int .i64 t] 81)) := (Below.refl _ _).alloc (Nat.le_refl _) _
  have m1 : 0 ≤ v * delta := Int.mul_nonneg hv.1 hd.1
  have m2 : v * delta ≤ 1000 * 1000 := Int.mul_le_mul (by omega) (by omega) hd.1 (by omega)
  have HE := Lib.hid (hold_eq (p := p) (x := v * delta + key) (t := t) hp ht)
  have t3 : (v * delta + key).tmod p = (v * delta + key) % p := Int.tmod_eq_emod_of_nonneg (by omega)
  have t1 : IntKind.i64.wrap (v * delta) = v * delta := IntWalk.i64_in _ (by omega)
  have t2 : IntKind.i64.wrap (v * delta + key) = v * delta + key := IntWalk.i64_in _ (by omega)
  have t4 : IntKind.i64.wrap ((v * delta + key) % p) = (v * delta + key) % p := IntWalk.i64_in _ (by have := Int.emod_nonneg (v * delta + key) (by omega : p ≠ 0); have := Int.emod_lt_of_pos (v * delta + key) (by omega : 0 < p); omega)
  unfold holdB
  go_enter Tryd.func140, Tryd.ntmps140
  go_wp2
  go_quiet (fail)
  go_wp2
  go_ret
  exact ⟨ret_bool (by rw [Bool.eq_iff_iff]; simp; exact HE.out.symm), below_drewN V0 _⟩
set_option maxHeartbeats 4000000 in
set_option maxRecDepth 100000 in
theorem tgAdd_any (p v t v' t' k : Int) (w : World) (hp : 1 ≤ p) (hp2 : p ≤ 1000) (hv : 0 ≤ v ∧ v ≤ p - 1) (ht : 0 ≤ t ∧ t ≤ p - 1) (hv' : 0 ≤ v' ∧ v' ≤ p - 1) (ht' : 0 ≤ t' ∧ t' ≤ p - 1) (hk : 0 ≤ k ∧ k ≤ p - 1) :
    Calls Tryd.prog 142 #[.int .i64 p, .agg #[.int .i64 v, .int .i64 t], .agg #[.int .i64 v', .int .i64 t'], .int .i64 k] w fun e w' => e = .returned (.agg #[.int .i64 ((v + k * v') % p), .int .i64 ((t + k * t') % p)]) ∧ Below w.heap.size w w' := by
  have m1 : 0 ≤ k * v' := Int.mul_nonneg hk.1 hv'.1
  have m2 : k * v' ≤ 1000 * 1000 := Int.mul_le_mul (by omega) (by omega) hv'.1 (by omega)
  have m3 : 0 ≤ k * t' := Int.mul_nonneg hk.1 ht'.1
  have m4 : k * t' ≤ 1000 * 1000 := Int.mul_le_mul (by omega) (by omega) ht'.1 (by omega)
  have t3 : (v + k * v').tmod p = (v + k * v') % p := Int.tmod_eq_emod_of_nonneg (by omega)
  have t4 : (t + k * t').tmod p = (t + k * t') % p := Int.tmod_eq_emod_of_nonneg (by omega)
  have s1 : IntKind.i64.wrap (k * v') = k * v' := IntWalk.i64_in _ (by omega)
  have s2 : IntKind.i64.wrap (v + k * v') = v + k * v' := IntWalk.i64_in _ (by omega)
  have s3 : IntKind.i64.wrap (k * t') = k * t' := IntWalk.i64_in _ (by omega)
  have s4 : IntKind.i64.wrap (t + k * t') = t + k * t' := IntWalk.i64_in _ (by omega)
  have s5 : IntKind.i64.wrap ((v + k * v') % p) = (v + k * v') % p := IntWalk.i64_in _ (by have := Int.emod_nonneg (v + k * v') (by omega : p ≠ 0); have := Int.emod_lt_of_pos (v + k * v') (by omega : 0 < p); omega)
  have s6 : IntKind.i64.wrap ((t + k * t') % p) = (t + k * t') % p := IntWalk.i64_in _ (by have := Int.emod_nonneg (t + k * t') (by omega : p ≠ 0); have := Int.emod_lt_of_pos (t + k * t') (by omega : 0 < p); omega)
  have t7 : (p == 0) = false := by simp; omega
  have t8 : (p = 0) = False := by simp; omega
  go_enter Tryd.func142, Tryd.ntmps142
  go_wp2
  go_region_held3 (fun W => W.cell? ⟨w.heap.size, 0, none⟩ = some (.int .i64 v) ∧ W.cell? ⟨w.heap.size, 1, none⟩ = some (.int .i64 t) ∧ W.cell? ⟨w.heap.size + 1, 0, none⟩ = some (.int .i64 v') ∧ W.cell? ⟨w.heap.size + 1, 1, none⟩ = some (.int .i64 t')) (go_keep) (fail)
  go_wp2
  exact bodyPost_ret (v := .agg #[.int .i64 ((v + k * v') % p), .int .i64 ((t + k * t') % p)]) (by simp [results, Tryd.results142, go_sem]) rfl ⟨rfl, by go_grown⟩
def tagAt (p : Int) (L : List Int) (i : Nat) : Bool := tagB p (L.getD (i * 2) 0) (L.getD (i * 2 + 1) 0)
def tagsB (p : Int) (L : List Int) (n : Nat) : Bool := (List.range n).all (tagAt p L)
theorem rangeAll_no {q : Nat → Bool} {n k : Nat} (hk : k < n) (h : q k = false) : (List.range n).all q = false := by
  rw [Bool.eq_false_iff]
  intro H
  have := List.all_eq_true.1 H k (List.mem_range.2 hk)
  rw [h] at this
  cases this
theorem rangeAll_yes {q : Nat → Bool} {n : Nat} (h : ∀ k, k < n → q k = true) : (List.range n).all q = true :=
  List.all_eq_true.2 fun k hk => h k (List.mem_range.1 hk)
theorem rangeAll_at {q : Nat → Bool} {n : Nat} (h : (List.range n).all q = true) (k : Nat) (hk : k < n) : q k = true := List.all_eq_true.1 h k (List.mem_range.2 hk)
set_option maxHeartbeats 4000000 in
set_option maxRecDepth 100000 in
theorem IndexFuncT (a : Option Addr) (n c : Nat) (l : List Int) (f : Nat) (cap : Array Value) (q : Nat → Bool) (w : World) (h : Flat 2 w a n c l)
    (hf : ∀ args W, (callFunc f args).run Tryd.prog W = .ok (.enter f args) W)
    (hq : ∀ W i, Below w.heap.size w W → i < n → Calls Tryd.prog f (#[.agg #[.int .i64 (l.getD (i * 2) 0), .int .i64 (l.getD (i * 2 + 1) 0)]] ++ cap) W fun e w' => e = .returned (.bool (!q i)) ∧ Below W.heap.size W w') :
    Calls Tryd.prog 106 #[.slice a n c, .func (.func f) #[] cap] w fun e w' => ∃ i : Int, e = .returned (.int .i64 i) ∧ Hid (decide (0 ≤ i) = !(List.range n).all q) ∧ Below w.heap.size w w' := by
  have hn := h.le
  have HQ := Lib.hid hq
  clear hq
  go_enter Tryd.func106, Tryd.ntmps106
  go_wp2
  go_loopw [8] (fun v wr => ∃ k : Nat, k ≤ n ∧ v = .int .i64 k ∧ (∀ i, i < k → q i = true) ∧ Below w.heap.size w wr) (fun v _ => n - (intOf v).toNat)
  case atStart => exact ⟨0, Nat.zero_le _, rfl, fun i hi => absurd hi (by omega), Below.refl _ _⟩
  case round =>
    obtain ⟨k, hk, rfl, hj, hbel⟩ := hrel
    have HJ := Lib.hid hj
    clear hj
    by_cases hlt : k < n
    · obtain ⟨g, o, rfl, hc⟩ := (h.below hbel).at (by omega)
      have c0 : wr.cell? ⟨g, o + k * 2, none⟩ = some (.int .i64 (l.getD (k * 2) 0)) := hc _ (by omega)
      have c1 : wr.cell? ⟨g, o + k * 2 + 1, none⟩ = some (.int .i64 (l.getD (k * 2 + 1) 0)) := by have := hc (k * 2 + 1) (by omega); simpa only [Nat.add_assoc] using this
      have HC := Lib.hid (HQ.out wr k hbel hlt)
      generalize l.getD (k * 2) 0 = x0 at *
      generalize l.getD (k * 2 + 1) 0 = x1 at *
      clear hc
      cases hb : q k
      · rw [hb] at HC
        have HB := Lib.hid (rangeAll_no hlt hb)
        clear hb
        go_wp2_with (refine HC.out.mono ?_; rintro e w' ⟨rfl, u⟩)
        have hbel' := hbel.trans (‹Below wr.heap.size wr _›.mono hbel.size)
        go_ret
        exact ⟨k, rfl, by unfold Hid; rw [HB.out]; simp, hbel'⟩
      · rw [hb] at HC
        have HB := Lib.hid hb
        clear hb
        go_wp2_with (refine HC.out.mono ?_; rintro e w' ⟨rfl, u⟩)
        have hbel' := hbel.trans (‹Below wr.heap.size wr _›.mono hbel.size)
        go_roundw
        case rel => exact ⟨k + 1, by omega, by go_num, fun i hi => by
          by_cases e : i = k
          · subst e; exact HB.out
          · exact HJ.out i (by omega), hbel'⟩
        case measure => simp [intOf]; omega
    · have HB := Lib.hid (rangeAll_yes (q := q) (n := n) (fun i hi => HJ.out i (by omega)))
      go_wp2
      go_ret
      exact ⟨-1, rfl, by unfold Hid; rw [HB.out]; decide, hbel⟩
set_option maxHeartbeats 1000000 in
theorem ContainsFuncT (a : Option Addr) (n c : Nat) (l : List Int) (f : Nat) (cap : Array Value) (q : Nat → Bool) (w : World) (h : Flat 2 w a n c l)
    (hf : ∀ args W, (callFunc f args).run Tryd.prog W = .ok (.enter f args) W)
    (hq : ∀ W i, Below w.heap.size w W → i < n → Calls Tryd.prog f (#[.agg #[.int .i64 (l.getD (i * 2) 0), .int .i64 (l.getD (i * 2 + 1) 0)]] ++ cap) W fun e w' => e = .returned (.bool (!q i)) ∧ Below W.heap.size W w') :
    Calls Tryd.prog 61 #[.slice a n c, .func (.func f) #[] cap] w fun e w' => e = .returned (.bool (!(List.range n).all q)) ∧ Below w.heap.size w w' := by
  have HQ := Lib.hid hq
  have HF := Lib.hid hf
  clear hq hf
  go_enter Tryd.func61, Tryd.ntmps61
  go_wp2_with fail
  refine (IndexFuncT _ _ _ l _ _ q _ h HF.out HQ.out).mono ?_; rintro e w' ⟨i, rfl, hi, u⟩
  go_wp2
  go_ret
  exact ⟨ret_bool hi.out, u⟩
end Go.Proofs.YtlmdckcohoddnaaDoor
namespace Go.Proofs.YtlmdckcohoddnaaDoor
open Go.RowKit
/-- What the program's one table holds: 1, 4, 2. -/
def Tbl (w : World) : Prop := w.cell? ⟨0, 0, none⟩ = some (.int .i64 1) ∧ w.cell? ⟨0, 1, none⟩ = some (.int .i64 4) ∧ w.cell? ⟨0, 2, none⟩ = some (.int .i64 2)
theorem Tbl.below {w w' : World} (h : Tbl w) (hb : Below w.heap.size w w') : Tbl w' := ⟨keepC hb h.1, keepC hb h.2.1, keepC hb h.2.2⟩
theorem Tbl.alloc {w : World} (h : Tbl w) (o : Obj) : Tbl (w.alloc o) := h.below ((Below.refl _ _).alloc (Nat.le_refl _) _)
theorem Tbl.drew {w : World} (h : Tbl w) : Tbl w.drew := h
/-- The length of the body of a step. -/
def blen (i : Nat) : Nat := if i = 0 then 1 else if i = 1 then 4 else 2
theorem Tbl.at {w : World} (h : Tbl w) (i : Nat) (hi : i < 3) : w.cell? ⟨0, i, none⟩ = some (.int .i64 (blen i)) := by
  have : i = 0 ∨ i = 1 ∨ i = 2 := by omega
  rcases this with rfl | rfl | rfl
  · exact h.1
  · exact h.2.1
  · exact h.2.2
theorem blen_bd (i : Nat) : 1 ≤ blen i ∧ blen i ≤ 4 := by unfold blen; split <;> (try split) <;> omega
end Go.Proofs.YtlmdckcohoddnaaDoor
namespace Go.Proofs.YtlmdckcohoddnaaDoor
open Go.RowKit
/-- The row (a2, c2) is the row (a, c), or lies in a block that w has not. -/
def Moved (w : World) (a : Option Addr) (c : Nat) (a2 : Option Addr) (c2 : Nat) : Prop := (a2 = a ∧ c2 = c) ∨ ∀ x, 0 < c2 → a2 = some x → w.heap.size ≤ x.block
theorem Moved.disj {w a c a2 c2} {F : List Nat} (h : Moved w a c a2 c2) (hd : Disj (foot a c) F) (hF : ∀ k ∈ F, k < w.heap.size) : Disj (foot a2 c2) F := by
  rcases h with ⟨rfl, rfl⟩ | h
  · exact hd
  · intro k hk hk'
    obtain ⟨x, hx, hc, rfl⟩ := mem_foot hk
    have := h x hc hx
    have := hF _ hk'
    omega
/-- APPEND, WHATEVER THE SHAPES: an owned row, a row that is read (nil, empty or not). The new row is owned, the old one still reads. -/
theorem run_app2 {P : Program} (w : World) (t ty : TypeId)
    (b e : Nat) (i : TypeInfo) (z : Value) (sz bytes : Nat) (ht : P.underlying t = some (.slice e)) (hi : P.info? e = some i) (hz : i.zero = some z)
    (hsize : i.size = sz) (hby : i.bytes = bytes) (hzs : z.cells.size = sz) (hsz : 0 < sz)
    (a : Option Addr) (n c : Nat) (xs : List Value) (hown : OwnC w b a n c e sz xs)
    (a' : Option Addr) (m c' : Nat) (xs' : List Value) (hrow : RowC w a' m c' sz xs') (h1 : ∀ u ∈ xs', u.oneCell' = true)
    (hbytes : (n + m) * bytes ≤ 140737488355328) (hmax : n + m ≤ maxLen) (hbase : b ≤ w.heap.size) :
    ∃ a2 c2 w', (Builtin.append_ #[t, t] ty #[.slice a n c, .slice a' m c']).run P w = .ok (.slice a2 (n + m) c2) w' ∧ OwnC w' b a2 (n + m) c2 e sz (xs ++ xs') ∧ w.grownBy w' (rowOf a c) ∧ RowC w' a n c sz xs ∧ Moved w a c a2 c2 := by
  by_cases hm : m = 0
  · subst hm
    have hx' : xs' = [] := List.eq_nil_of_length_eq_zero (by simpa using hrow.1)
    subst hx'
    have hnc := hown.2.1
    refine ⟨a, c, w, ?_, by simpa using hown, World.grownBy.refl _ _, hown.row, Or.inl ⟨rfl, rfl⟩⟩
    cases a' with
    | none => cases a <;> simp [Builtin.append_, run_underlying ht, sizeOf, typeInfo, hi, Builtin.lenOf, Builtin.firstCells, hnc, storeCells]
    | some y =>
      have hf := run_firstCells_some (P := P) w i.size 0 y 0 c' [] (by simp) (fun j u hu => by simp at hu)
      cases a <;> simp [Builtin.append_, run_underlying ht, sizeOf, typeInfo, hi, Builtin.lenOf, hf, hnc, storeCells]
  · obtain ⟨hr1, hr2, hr3, hr4, g', o', hr5, hr6⟩ := hrow
    obtain rfl := hr5 (by omega)
    have hadd : ∀ (g o j : Nat), (⟨g, o, none⟩ : Addr).add j = ⟨g, o + j, none⟩ := fun g o j => by unfold Addr.add; split <;> simp_all
    have hnews : ∀ j u, xs'[j]? = some u → w.cell? ((⟨g', o', none⟩ : Addr).add j) = some u := fun j u hu => by rw [hadd]; exact hr6 j u hu
    by_cases hc : 0 < c
    · obtain ⟨g, cur, hag, hbg, hgg, hcs, hct⟩ := hown.2.2.2.2 hc
      have hob := hown.owns hc
      have hro : rowOf a c = some g := by unfold rowOf; rw [if_neg (by omega), hag]; rfl
      subst hag
      by_cases hroom : n + m ≤ c
      · obtain ⟨w', hrun, r1, r2⟩ := run_append_fits (P := P) w b t ty e i sz ht hi hsize g n c xs hob ⟨g', o', none⟩ m c' xs' hr1 hnews h1 hroom
        obtain ⟨a2, c2, e2, h2⟩ := OwnC.of_owns r1
        cases e2
        exact ⟨_, _, w', hrun, h2, by rw [hro]; exact r2, h2.prefix_row hown.1, Or.inl ⟨rfl, rfl⟩⟩
      · obtain ⟨v', w', hrun, r1, r2⟩ := run_append_arg_grows (P := P) w t ty e i z sz bytes ht hi hz hsize hby hzs hsz ⟨g, 0, none⟩ n c xs hown.1 (fun j u hu => by
          obtain ⟨q1, q2, q3, q4, gg, oo, q5, q6⟩ := hown.row
          have hn0 : 0 < n := by
            have := (List.getElem?_eq_some_iff.1 hu).1
            rw [hown.1] at this
            cases n with
            | zero => simp at this
            | succ n => omega
          have := q5 hn0
          cases this
          rw [hadd]; exact q6 j u hu) ⟨g', o', none⟩ m c' xs' hr1 hnews (by omega) hmax hbytes
        obtain ⟨a2, c2, rfl, h2⟩ := OwnC.of_owns r1
        exact ⟨_, _, w', hrun, h2.lower hbase, grownBy_some r2 _, hown.row.keep r2, Or.inr fun x hc hx => (h2.range x hc hx).1⟩
    · have hn0 : n = 0 := by have := hown.2.1; omega
      have hc0 : c = 0 := by omega
      subst hn0; subst hc0
      have hxe : xs = [] := List.eq_nil_of_length_eq_zero (by simpa using hown.1)
      subst hxe
      cases a with
      | none =>
        obtain ⟨v', w', hrun, r1, r2, _⟩ := run_append_own (P := P) w w.heap.size t ty e i z sz bytes ht hi hz hsize hby hzs hsz (.slice none 0 0) 0 [] (World.ownsRow_nil w _ e sz) ⟨g', o', none⟩ m c' xs' hr1 hnews h1 hmax hbytes (Nat.le_refl _)
        obtain ⟨a2, c2, rfl, h2⟩ := OwnC.of_owns r1
        exact ⟨_, _, w', hrun, h2.lower hbase, by unfold rowOf; exact r2, hown.row.keep r2, Or.inr fun x hc hx => (h2.range x hc hx).1⟩
      | some y =>
        obtain ⟨v', w', hrun, r1, r2⟩ := run_append_arg_grows (P := P) w t ty e i z sz bytes ht hi hz hsize hby hzs hsz y 0 0 [] (by simp) (fun j u hu => by simp at hu) ⟨g', o', none⟩ m c' xs' hr1 hnews (by omega) hmax hbytes
        obtain ⟨a2, c2, rfl, h2⟩ := OwnC.of_owns r1
        exact ⟨_, _, w', hrun, h2.lower hbase, grownBy_some r2 _, hown.row.keep r2, Or.inr fun x hc hx => (h2.range x hc hx).1⟩
end Go.Proofs.YtlmdckcohoddnaaDoor
namespace Go.Proofs.YtlmdckcohoddnaaDoor
open Go.RowKit
abbrev RowD := Option Addr × Nat × List Int
def rowV (r : RowD) : Value := .slice r.1 r.2.2.length r.2.1
def rowsF (rs : List RowD) : List Nat := rs.flatMap fun r => foot r.1 r.2.1
def feetSS (a : Option Addr) (c : Nat) (rs : List RowD) : List Nat := foot a c ++ rowsF rs
structure OwnSS (w : World) (b : Nat) (a : Option Addr) (n c : Nat) (rs : List RowD) : Prop where
  out : OwnC w b a n c 23 1 (rs.map rowV)
  inn : ∀ r ∈ rs, Own w b r.1 r.2.2.length r.2.1 r.2.2
  dis : rs.Pairwise fun r s => Disj (foot r.1 r.2.1) (foot s.1 s.2.1)
  apart : Disj (foot a c) (rowsF rs)
theorem mem_rowsF {rs : List RowD} {r : RowD} {k : Nat} (hr : r ∈ rs) (hk : k ∈ foot r.1 r.2.1) : k ∈ rowsF rs := List.mem_flatMap.2 ⟨r, hr, hk⟩
theorem rowsF_app (rs rs' : List RowD) : rowsF (rs ++ rs') = rowsF rs ++ rowsF rs' := List.flatMap_append
theorem rowsF_one (r : RowD) : rowsF [r] = foot r.1 r.2.1 := by simp [rowsF]
theorem OwnSS.only {X : List Nat} {w w' : World} {b a n c rs} (h : OwnSS w b a n c rs) (ho : Only X w w') (hd : Disj (feetSS a c rs) X) : OwnSS w' b a n c rs :=
  ⟨h.out.only ho (fun k hk => hd k (List.mem_append_left _ hk)), fun r hr => (h.inn r hr).only ho (fun k hk => hd k (List.mem_append_right _ (mem_rowsF hr hk))), h.dis, h.apart⟩
theorem OwnSS.below {w w' : World} {b a n c rs} (h : OwnSS w b a n c rs) (hb : Below w.heap.size w w') : OwnSS w' b a n c rs :=
  ⟨h.out.below hb, fun r hr => (h.inn r hr).below hb, h.dis, h.apart⟩
theorem OwnSS.alloc {w : World} {b a n c rs} (h : OwnSS w b a n c rs) (o : Obj) : OwnSS (w.alloc o) b a n c rs := h.below ((Below.refl _ _).alloc (Nat.le_refl _) _)
theorem OwnSS.drew {w : World} {b a n c rs} (h : OwnSS w b a n c rs) : OwnSS w.drew b a n c rs := h.below ((Below.refl _ _).drew)
theorem OwnSS.lower {w : World} {b b' a n c rs} (h : OwnSS w b a n c rs) (hb : b' ≤ b) : OwnSS w b' a n c rs :=
  ⟨h.out.lower hb, fun r hr => (h.inn r hr).lower hb, h.dis, h.apart⟩
theorem OwnSS.feet {w : World} {b a n c rs} (h : OwnSS w b a n c rs) : ∀ k ∈ feetSS a c rs, b ≤ k ∧ k < w.heap.size := fun k hk => by
  rcases List.mem_append.1 hk with hk | hk
  · exact h.out.feet k hk
  · obtain ⟨r, hr, hk⟩ := List.mem_flatMap.1 hk
    exact (h.inn r hr).feet k hk
theorem OwnSS.nil0 (w : World) (b : Nat) (a : Option Addr) : OwnSS w b a 0 0 [] :=
  ⟨OwnC.nil0 w b 23 1 a, fun r hr => (by cases hr), List.Pairwise.nil, fun k hk => by simp [foot, rowOf] at hk⟩
theorem feetSS_nil (a : Option Addr) : feetSS a 0 [] = [] := by simp [feetSS, foot, rowOf, rowsF]
theorem OwnSS.push {w w' : World} {b a n c rs} {r : RowD} {a5 : Option Addr} {c5 : Nat} (h : OwnSS w b a n c rs) (hr : Own w b r.1 r.2.2.length r.2.1 r.2.2) (hd : Disj (foot r.1 r.2.1) (feetSS a c rs))
    (o : OwnC w' b a5 (n + 1) c5 23 1 (rs.map rowV ++ [rowV r])) (g : w.grownBy w' (rowOf a c)) (m : Moved w a c a5 c5) : OwnSS w' b a5 (n + 1) c5 (rs ++ [r]) := by
  refine ⟨by rw [List.map_append]; exact o, fun s hs => ?_, ?_, ?_⟩
  · rcases List.mem_append.1 hs with hs | hs
    · exact (h.inn s hs).only (Only.of_grown g) (fun k hk hk' => h.apart k hk' (mem_rowsF hs hk))
    · rw [List.mem_singleton] at hs
      subst hs
      exact hr.only (Only.of_grown g) (fun k hk hk' => hd k hk (List.mem_append_left _ hk'))
  · refine List.pairwise_append.2 ⟨h.dis, List.pairwise_singleton _ _, fun x hx y hy => ?_⟩
    rw [List.mem_singleton] at hy
    subst hy
    exact fun k hk hk' => hd k hk' (List.mem_append_right _ (mem_rowsF hx hk))
  · rw [rowsF_app, rowsF_one]
    refine m.disj (h.apart.app fun k hk hk' => hd k hk' (List.mem_append_left _ hk)) (fun k hk => ?_)
    rcases List.mem_append.1 hk with hk | hk
    · exact (h.feet k (List.mem_append_right _ hk)).2
    · exact (hr.feet k hk).2
/-- What push makes of a family that stands apart. -/
theorem push_feet {w : World} {a c a5 c5} {rs : List RowD} {r : RowD} {X : List Nat} (hX : Disj X (feetSS a c rs)) (hr : Disj X (foot r.1 r.2.1)) (m : Moved w a c a5 c5) (hw : ∀ k ∈ X, k < w.heap.size) : Disj X (feetSS a5 c5 (rs ++ [r])) := by
  unfold feetSS
  rw [rowsF_app, rowsF_one]
  refine Disj.app (m.disj (fun k hk hk' => hX k hk' (List.mem_append_left _ hk)) hw).symm (Disj.app (fun k hk hk' => hX k hk (List.mem_append_right _ hk')) hr)
theorem info_ints : (Tryd.prog.info? 23).map (fun i => (i.zero, i.size, i.bytes)) = some (some (.slice none 0 0), 1, 24) := by kernel_rfl
theorem RowC.lit1 (w : World) (v : Value) (e : TypeId) : RowC (w.alloc (.cells #[v] e)) (some ⟨w.heap.size, 0, none⟩) 1 1 1 [v] := (OwnC.lit w 0 1 e 1 [v] (Nat.zero_le _) rfl (by simp [maxLen])).row
theorem RowC.drew {w a n c sz xs} (h : RowC w a n c sz xs) : RowC w.drew a n c sz xs := h.below ((Below.refl _ _).drew)
/-- The shares of the wires, and what was opened: three families that stand apart. -/
structure WireM (w : World) (b : Nat) (a1 : Option Addr) (n1 c1 : Nat) (F : List Int) (a2 : Option Addr) (n2 c2 : Nat) (S : List Int) (a3 : Option Addr) (n3 c3 : Nat) (rs : List RowD) : Prop where
  f : Own w b a1 n1 c1 F
  s : Own w b a2 n2 c2 S
  o : OwnSS w b a3 n3 c3 rs
  fs : Disj (foot a1 c1) (foot a2 c2)
  fo : Disj (foot a1 c1) (feetSS a3 c3 rs)
  so : Disj (foot a2 c2) (feetSS a3 c3 rs)
section
variable {w w' : World} {b n1 c1 n2 c2 n3 c3 c5 : Nat} {a1 a2 a3 a5 : Option Addr} {F S : List Int} {rs : List RowD}
theorem WireM.below (h : WireM w b a1 n1 c1 F a2 n2 c2 S a3 n3 c3 rs) (hb : Below w.heap.size w w') : WireM w' b a1 n1 c1 F a2 n2 c2 S a3 n3 c3 rs :=
  ⟨h.f.below hb, h.s.below hb, h.o.below hb, h.fs, h.fo, h.so⟩
theorem WireM.alloc (h : WireM w b a1 n1 c1 F a2 n2 c2 S a3 n3 c3 rs) (o : Obj) : WireM (w.alloc o) b a1 n1 c1 F a2 n2 c2 S a3 n3 c3 rs := h.below ((Below.refl _ _).alloc (Nat.le_refl _) _)
theorem WireM.drew (h : WireM w b a1 n1 c1 F a2 n2 c2 S a3 n3 c3 rs) : WireM w.drew b a1 n1 c1 F a2 n2 c2 S a3 n3 c3 rs := h.below ((Below.refl _ _).drew)
end
end Go.Proofs.YtlmdckcohoddnaaDoor
namespace Go.Proofs.YtlmdckcohoddnaaDoor
open Go.RowKit
def rowAt (rs : List RowD) (j : Nat) : RowD := rs.getD j (none, 0, [])
theorem rowAt_mem {rs : List RowD} {j : Nat} (h : j < rs.length) : rowAt rs j ∈ rs := by
  unfold rowAt; simp [List.getD, h]
theorem rowAt_some {rs : List RowD} {j : Nat} (h : j < rs.length) : rs[j]? = some (rowAt rs j) := by
  unfold rowAt; simp [List.getD, h]
/-- The sum of the rows' lengths. -/
def tot (rs : List RowD) : Nat := (rs.map fun r => r.2.2.length).sum
theorem tot_take_succ {rs : List RowD} {j : Nat} (h : j < rs.length) : tot (rs.take (j + 1)) = tot (rs.take j) + (rowAt rs j).2.2.length := by
  unfold tot
  rw [List.take_succ_eq_append_getElem h, List.map_append, List.sum_append]
  simp [rowAt, List.getD, h]
theorem tot_take_le (rs : List RowD) (j : Nat) : tot (rs.take j) ≤ tot rs := by
  have : tot rs = tot (rs.take j) + tot (rs.drop j) := by
    unfold tot; rw [← List.sum_append, ← List.map_append, List.take_append_drop]
  omega
theorem tot_take_all (rs : List RowD) : tot (rs.take rs.length) = tot rs := by rw [List.take_length]
/-- The slice (a, n, c) of slices reads as the rows rs. -/
structure IntSS (w : World) (a : Option Addr) (n c : Nat) (rs : List RowD) : Prop where
  row : RowC w a n c 1 (rs.map rowV)
  inn : ∀ r ∈ rs, Ints w r.1 r.2.2.length r.2.1 r.2.2
theorem OwnSS.reads {w b a n c rs} (h : OwnSS w b a n c rs) : IntSS w a n c rs := ⟨h.out.row, fun r hr => (h.inn r hr).ints⟩
theorem IntSS.len {w a n c rs} (h : IntSS w a n c rs) : rs.length = n := by have := h.row.1; simpa using this
theorem IntSS.le {w a n c rs} (h : IntSS w a n c rs) : (n : Int) ≤ 9223372036854775807 := by
  have := h.row.2.1; have := h.row.2.2.1; unfold maxLen at this; omega
theorem IntSS.below {w w' a n c rs} (h : IntSS w a n c rs) (hb : Below w.heap.size w w') : IntSS w' a n c rs := ⟨h.row.below hb, fun r hr => (h.inn r hr).below hb⟩
theorem IntSS.alloc {w a n c rs} (h : IntSS w a n c rs) (o : Obj) : IntSS (w.alloc o) a n c rs := h.below ((Below.refl _ _).alloc (Nat.le_refl _) _)
theorem IntSS.drew {w a n c rs} (h : IntSS w a n c rs) : IntSS w.drew a n c rs := h.below ((Below.refl _ _).drew)
theorem IntSS.nil0 (w : World) : IntSS w none 0 0 [] := ⟨⟨rfl, Nat.le_refl _, Nat.zero_le _, fun _ => rfl, 0, 0, fun h => absurd h (by omega), fun i u hu => by simp at hu⟩, fun r hr => by cases hr⟩
theorem IntSS.at {w a n c rs} (h : IntSS w a n c rs) (k : Nat) (hk : k < n) : ∃ g o, a = some ⟨g, o, none⟩ ∧ w.cell? ⟨g, o + k, none⟩ = some (.slice (rowAt rs k).1 (rowAt rs k).2.2.length (rowAt rs k).2.1) ∧ Ints w (rowAt rs k).1 (rowAt rs k).2.2.length (rowAt rs k).2.1 (rowAt rs k).2.2 := by
  have hl := h.len
  obtain ⟨_, _, _, _, g, o, h1, h2⟩ := h.row
  refine ⟨g, o, h1 (by omega), ?_, h.inn _ (rowAt_mem (by omega))⟩
  have := h2 k (rowV (rowAt rs k)) (by rw [List.getElem?_map, rowAt_some (by omega)]; rfl)
  exact this
/-- The rows of numbers. -/
def datas' (rs : List RowD) : List (List Int) := rs.map fun r => r.2.2
theorem datas_len (rs : List RowD) : (datas' rs).length = rs.length := by simp [datas']
theorem datas_at {rs rs' : List RowD} (h : datas' rs = datas' rs') (k : Nat) (hk : k < rs.length) : (rowAt rs k).2.2 = (rowAt rs' k).2.2 := by
  have hl : rs.length = rs'.length := by rw [← datas_len rs, h, datas_len]
  have := congrArg (fun l => l[k]?) h
  simp only [datas', List.getElem?_map, rowAt_some hk, rowAt_some (hl ▸ hk : k < rs'.length), Option.map_some, Option.some.injEq] at this
  exact this
set_option maxHeartbeats 4000000 in
theorem eqIntSS_b (a : Option Addr) (n c : Nat) (a' : Option Addr) (n' c' : Nat) (rs rs' : List RowD) (w : World) (h : IntSS w a n c rs) (h' : IntSS w a' n' c' rs') (he : datas' rs = datas' rs') :
    Calls Tryd.prog 66 #[.slice a n c, .slice a' n' c'] w fun e w' => e = .returned (.bool true) ∧ Below w.heap.size w w' := by
  obtain rfl : n = n' := by rw [← h.len, ← h'.len, ← datas_len rs, he, datas_len]
  have hn := h.le
  have HE := Lib.hid he
  have HL := Lib.hid h.len
  clear he
  go_enter Tryd.func66, Tryd.ntmps66
  go_wp2
  go_loopw [5] (fun v wr => ∃ k : Nat, k ≤ n ∧ v = .int .i64 k ∧ Below w.heap.size w wr) (fun v _ => n - (intOf v).toNat)
  case atStart => exact ⟨0, Nat.zero_le _, rfl, Below.refl _ _⟩
  case round =>
    obtain ⟨k, hk, rfl, hbel⟩ := hrel
    by_cases hlt : k < n
    · have HD := Lib.hid (datas_at HE.out k (by rw [HL.out]; exact hlt))
      obtain ⟨g, o, rfl, c0, i0⟩ := (h.below hbel).at k hlt
      obtain ⟨g', o', rfl, c1, i1⟩ := (h'.below hbel).at k hlt
      rw [HD.out] at c0 i0
      generalize rowAt rs k = r at *
      generalize rowAt rs' k = s at *
      generalize s.2.2 = l at *
      have hlt' : (k : Int) < (n : Int) := by omega
      go_wp2
      go_region_held3 (fun W => W.cell? ⟨g, o + k, none⟩ = some (.slice r.1 l.length r.2.1) ∧ W.cell? ⟨g', o' + k, none⟩ = some (.slice s.1 l.length s.2.1))
        (first | exact ⟨keepC u2 c0, keepC u2 c1⟩ | go_keep)
        (first | (go_at_call 22; refine (eqIntS_b _ _ _ _ _ _ l _ (by exact i0.drewN 1) (by exact i1.drewN 1)).mono ?_; rintro e w2 ⟨rfl, u2⟩))
      have bel2 : Below w.heap.size w w2 := hbel.drew.trans (u2.mono hbel.size)
      go_wp2
      go_roundw
      case rel => exact ⟨k + 1, by omega, by go_num, bel2⟩
      case measure => simp [intOf]; omega
    · go_wp2
      go_ret
      exact ⟨rfl, hbel⟩
/-- The rows hold the numbers from k on. -/
def UpSS (k : Int) (rs : List RowD) : Prop := ∀ j, j < rs.length → UpFrom (k + tot (rs.take j)) (rowAt rs j).2.2
theorem set_key (rs : List RowD) (i : Nat) (l : List Int) (hl : l.length = (rowAt rs i).2.2.length) (hi : i < rs.length) :
    (rs.set i ((rowAt rs i).1, (rowAt rs i).2.1, l)).map (fun r => (r.1, r.2.1, r.2.2.length)) = rs.map (fun r => (r.1, r.2.1, r.2.2.length)) := by
  apply List.ext_getElem?
  intro j
  rw [List.getElem?_map, List.getElem?_map, List.getElem?_set]
  by_cases e : i = j
  · subst e; rw [if_pos rfl, if_pos hi, rowAt_some hi]; simp [hl]
  · rw [if_neg e]
theorem rowsF_key {rs rs' : List RowD} (h : rs'.map (fun r => (r.1, r.2.1, r.2.2.length)) = rs.map (fun r => (r.1, r.2.1, r.2.2.length))) : rowsF rs' = rowsF rs := by
  have e : ∀ q : List RowD, rowsF q = (q.map (fun r => (r.1, r.2.1, r.2.2.length))).flatMap fun t => foot t.1 t.2.1 := fun q => by simp [rowsF, List.flatMap_map]
  rw [e, e, h]
theorem tot_key {rs rs' : List RowD} (h : rs'.map (fun r => (r.1, r.2.1, r.2.2.length)) = rs.map (fun r => (r.1, r.2.1, r.2.2.length))) (j : Nat) : tot (rs'.take j) = tot (rs.take j) := by
  have e : ∀ q : List RowD, tot (q.take j) = (((q.map (fun r => (r.1, r.2.1, r.2.2.length))).take j).map fun t => t.2.2).sum := fun q => by simp [tot, List.map_take]; rfl
  rw [e, e, h]
theorem at_key {rs rs' : List RowD} (h : rs'.map (fun r => (r.1, r.2.1, r.2.2.length)) = rs.map (fun r => (r.1, r.2.1, r.2.2.length))) (j : Nat) (hj : j < rs.length) : (rowAt rs' j).1 = (rowAt rs j).1 ∧ (rowAt rs' j).2.1 = (rowAt rs j).2.1 ∧ (rowAt rs' j).2.2.length = (rowAt rs j).2.2.length := by
  have hl : rs'.length = rs.length := by simpa using congrArg List.length h
  have := congrArg (fun l => l[j]?) h
  simp only [List.getElem?_map, rowAt_some hj, rowAt_some (hl ▸ hj : j < rs'.length), Option.map_some, Option.some.injEq, Prod.mk.injEq] at this
  exact this
theorem OwnSS.cap {w b a n c rs} (h : OwnSS w b a n c rs) : n ≤ c ∧ c ≤ maxLen := ⟨h.out.row.2.1, h.out.row.2.2.1⟩
/-- A row is written. -/
theorem OwnSS.put {w w' : World} {b a n c rs} (h : OwnSS w b a n c rs) (i : Nat) (hi : i < rs.length) (l : List Int) (o : Own w' b (rowAt rs i).1 (rowAt rs i).2.2.length (rowAt rs i).2.1 l) (ho : Only (foot (rowAt rs i).1 (rowAt rs i).2.1) w w') :
    OwnSS w' b a n c (rs.set i ((rowAt rs i).1, (rowAt rs i).2.1, l)) := by
  have hl : l.length = (rowAt rs i).2.2.length := by have := o.len; omega
  have hk := set_key rs i l hl hi
  have hm := rowAt_mem hi
  refine ⟨?_, fun r hr => ?_, ?_, ?_⟩
  · have e : ∀ q : List RowD, q.map rowV = (q.map (fun r => (r.1, r.2.1, r.2.2.length))).map fun t => Value.slice t.1 t.2.2 t.2.1 := fun q => by simp [rowV]
    rw [e, hk, ← e]
    exact h.out.only ho (fun k hk hk' => h.apart k hk (mem_rowsF hm hk'))
  · obtain ⟨j, hj⟩ := List.getElem?_of_mem hr
    rw [List.getElem?_set] at hj
    by_cases e : i = j
    · subst e
      rw [if_pos rfl, if_pos hi, Option.some.injEq] at hj
      subst hj
      rw [← hl] at o
      exact o
    · rw [if_neg e] at hj
      have hjl := (List.getElem?_eq_some_iff.1 hj).1
      have hrr : rowAt rs j = r := by have := rowAt_some hjl; rw [hj] at this; exact (Option.some.inj this).symm
      have hmr : r ∈ rs := by rw [← hrr]; exact rowAt_mem hjl
      refine (h.inn r hmr).only ho ?_
      have hp := List.pairwise_iff_getElem.1 h.dis
      have ei : rs[i] = rowAt rs i := by simp [rowAt, List.getD, hi]
      have ej : rs[j] = r := by rw [← hrr]; simp [rowAt, List.getD, hjl]
      rcases Nat.lt_or_gt_of_ne e with hlt | hgt
      · have := hp i j hi hjl hlt; rw [ei, ej] at this; exact this.symm
      · have := hp j i hjl hi hgt; rw [ei, ej] at this; exact this
  · have e : ∀ q : List RowD, (q.Pairwise fun r s => Disj (foot r.1 r.2.1) (foot s.1 s.2.1)) ↔ ((q.map (fun r => (r.1, r.2.1, r.2.2.length))).Pairwise fun r s => Disj (foot r.1 r.2.1) (foot s.1 s.2.1)) := fun q => by rw [List.pairwise_map]
    rw [e, hk, ← e]
    exact h.dis
  · rw [rowsF_key hk]; exact h.apart
set_option maxHeartbeats 4000000 in
theorem markIntSS_o (a : Option Addr) (n c b : Nat) (rs : List RowD) (k0 : Int) (w : World) (h : OwnSS w b a n c rs) (h0 : 0 ≤ k0) (h1 : k0 + tot rs ≤ 4000000000000000000) :
    Calls Tryd.prog 71 #[.slice a n c, .int .i64 k0] w fun e w' => e = .returned (.int .i64 (k0 + tot rs)) ∧ (∃ rs', OwnSS w' b a n c rs' ∧ UpSS k0 rs' ∧ rs'.map (fun r => (r.1, r.2.1, r.2.2.length)) = rs.map (fun r => (r.1, r.2.1, r.2.2.length))) ∧ Only (rowsF rs) w w' := by
  have hn := h.reads.le
  have HL := Lib.hid h.reads.len
  go_enter Tryd.func71, Tryd.ntmps71
  go_wp2
  go_loopw [1, 5] (fun u v wr => ∃ i : Nat, i ≤ n ∧ u = .int .i64 (k0 + tot (rs.take i)) ∧ v = .int .i64 i ∧ Only (rowsF rs) w wr ∧ ∃ rs', OwnSS wr b a n c rs' ∧ rs'.map (fun r => (r.1, r.2.1, r.2.2.length)) = rs.map (fun r => (r.1, r.2.1, r.2.2.length)) ∧ ∀ j, j < i → UpFrom (k0 + tot (rs.take j)) (rowAt rs' j).2.2) (fun _ v _ => n - (intOf v).toNat)
  case atStart => exact ⟨0, Nat.zero_le _, by simp [tot], rfl, Only.refl _ _, rs, h, rfl, fun j hj => absurd hj (by omega)⟩
  case round =>
    obtain ⟨i, hi, rfl, rfl, hO, rs', own, hk, hu⟩ := hrel
    have HK := Lib.hid hk
    have HU := Lib.hid hu
    clear hk hu
    have hl' : rs'.length = rs.length := by simpa using congrArg List.length HK.out
    have HL' := Lib.hid hl'
    clear hl'
    by_cases hlt : i < n
    · obtain ⟨e1, e2, e3⟩ := at_key HK.out i (by rw [HL.out]; exact hlt)
      have HT := Lib.hid (tot_take_succ (rs := rs) (j := i) (by rw [HL.out]; exact hlt))
      have t1 := tot_take_le rs (i + 1)
      rw [HT.out] at t1
      have HE1 := Lib.hid e1
      have HE2 := Lib.hid e2
      have HE3 := Lib.hid e3
      rw [← e3] at t1
      clear e1 e2 e3
      obtain ⟨g, o, rfl, c0, _⟩ := own.reads.at i hlt
      have inn := own.inn (rowAt rs' i) (rowAt_mem (by rw [HL'.out, HL.out]; exact hlt))
      have hlt' : (i : Int) < (n : Int) := by omega
      have HT3 : Hid ((k0 + tot (rs.take i) : Int) + ((rowAt rs' i).2.2.length : Nat) = k0 + tot (rs.take (i + 1))) := Lib.hid (by rw [HT.out, HE3.out]; omega)
      obtain ⟨kk, hkk⟩ : ∃ x : Int, k0 + tot (rs.take i) = x := ⟨_, rfl⟩
      have HKK := Lib.hid hkk
      have kk0 : 0 ≤ kk := by omega
      have kk1 : kk + ((rowAt rs' i).2.2.length : Nat) ≤ 4000000000000000000 := by omega
      rw [hkk] at HT3 ⊢
      clear hkk t1
      go_wp2_with fail
      refine (markIntS_o _ _ _ _ _ _ _ inn kk0 kk1).mono ?_; rintro e w2 ⟨rfl, ⟨l', o2, up⟩, g2⟩
      have OS := Lib.hid (own.put i (by rw [HL'.out, HL.out]; exact hlt) l' o2 g2)
      have HS := Lib.hid (set_key rs' i l' (by have := o2.len; omega) (by rw [HL'.out, HL.out]; exact hlt))
      have GG := Lib.hid (hO.trans (g2.more (fun q hq => mem_rowsF (rowAt_mem (rs := rs) (j := i) (by rw [HL.out]; exact hlt)) (by rw [← HE1.out, ← HE2.out]; exact hq))))
      have UP := Lib.hid up
      clear own g2 o2 inn up hO c0
      rw [HT3.out]
      go_wp2
      go_roundw
      case rel => exact ⟨i + 1, by omega, rfl, by go_num, GG.out, _, OS.out, HS.out.trans HK.out, fun j hj => by
        have e : rowAt (rs'.set i ((rowAt rs' i).1, (rowAt rs' i).2.1, l')) j = if i = j then ((rowAt rs' i).1, (rowAt rs' i).2.1, l') else rowAt rs' j := by
          unfold rowAt
          simp only [List.getD, List.getElem?_set]
          by_cases e : i = j
          · subst e; rw [if_pos rfl, if_pos rfl, if_pos (by rw [HL'.out, HL.out]; exact hlt)]; rfl
          · rw [if_neg e, if_neg e]
        rw [e]
        by_cases e : i = j
        · subst e; rw [if_pos rfl, HKK.out]; exact UP.out
        · rw [if_neg e]; exact HU.out j (by omega)⟩
      case measure => simp [intOf]; omega
    · obtain rfl : i = n := by omega
      have ht : tot (rs.take i) = tot rs := by have := HL.out; rw [← this]; exact tot_take_all rs
      have HT := Lib.hid ht
      clear ht
      go_wp2
      go_ret
      exact ⟨by rw [HT.out]; rfl, ⟨rs', own, fun j hj => by rw [tot_key HK.out]; exact HU.out j (by have := HL'.out; have := HL.out; omega), HK.out⟩, hO⟩
set_option maxHeartbeats 4000000 in
theorem heldIntSS_b (a : Option Addr) (n c : Nat) (rs : List RowD) (k0 : Int) (w : World) (h : IntSS w a n c rs) (hu : UpSS k0 rs) (h0 : 0 ≤ k0) (h1 : k0 + tot rs ≤ 4000000000000000000) :
    Calls Tryd.prog 94 #[.slice a n c, .int .i64 k0] w fun e w' => e = .returned (.int .i64 (k0 + tot rs)) ∧ Below w.heap.size w w' := by
  have hn := h.le
  have HL := Lib.hid h.len
  have HU := Lib.hid hu
  clear hu
  go_enter Tryd.func94, Tryd.ntmps94
  go_wp2
  go_loopw [1, 5] (fun u v wr => ∃ i : Nat, i ≤ n ∧ u = .int .i64 (k0 + tot (rs.take i)) ∧ v = .int .i64 i ∧ Below w.heap.size w wr) (fun _ v _ => n - (intOf v).toNat)
  case atStart => exact ⟨0, Nat.zero_le _, by simp [tot], rfl, Below.refl _ _⟩
  case round =>
    obtain ⟨i, hi, rfl, rfl, hbel⟩ := hrel
    by_cases hlt : i < n
    · have HT := Lib.hid (tot_take_succ (rs := rs) (j := i) (by rw [HL.out]; exact hlt))
      have t1 := tot_take_le rs (i + 1)
      rw [HT.out] at t1
      have HUP := Lib.hid (HU.out i (by rw [HL.out]; exact hlt))
      obtain ⟨g, o, rfl, c0, inn⟩ := (h.below hbel).at i hlt
      have hlt' : (i : Int) < (n : Int) := by omega
      have HT3 : Hid ((k0 + tot (rs.take i) : Int) + ((rowAt rs i).2.2.length : Nat) = k0 + tot (rs.take (i + 1))) := Lib.hid (by rw [HT.out]; omega)
      obtain ⟨kk, hkk⟩ : ∃ x : Int, k0 + tot (rs.take i) = x := ⟨_, rfl⟩
      have kk0 : 0 ≤ kk := by omega
      have kk1 : kk + ((rowAt rs i).2.2.length : Nat) ≤ 4000000000000000000 := by omega
      rw [hkk] at HT3 HUP ⊢
      clear hkk t1
      go_wp2_with fail
      refine (heldIntS_b _ _ _ _ _ _ inn HUP.out kk0 kk1).mono ?_; rintro e w2 ⟨rfl, u2⟩
      have bel2 := hbel.trans (u2.mono hbel.size)
      have nn : 0 ≤ kk + ((rowAt rs i).2.2.length : Nat) := by omega
      clear u2 inn c0
      rw [HT3.out] at nn ⊢
      clear kk1
      go_wp2
      go_roundw
      case rel => exact ⟨i + 1, by omega, rfl, by go_num, bel2⟩
      case measure => simp [intOf]; omega
    · obtain rfl : i = n := by omega
      have ht : tot (rs.take i) = tot rs := by have := HL.out; rw [← this]; exact tot_take_all rs
      have HT := Lib.hid ht
      clear ht
      go_wp2
      go_ret
      exact ⟨by rw [HT.out]; rfl, hbel⟩
theorem tot_datas (rs : List RowD) : tot rs = ((datas' rs).map List.length).sum := by unfold tot datas'; rw [List.map_map]; rfl
theorem markIntSS_p (a : Option Addr) (n c b : Nat) (rs : List RowD) (k0 : Int) (w : World) (h : OwnSS w b a n c rs) (h0 : 0 ≤ k0) (h1 : k0 + tot rs ≤ 4000000000000000000) :
    Calls Tryd.prog 71 #[.slice a n c, .int .i64 k0] w fun e w' => ∃ rs', e = .returned (.int .i64 (k0 + tot rs')) ∧ OwnSS w' b a n c rs' ∧ UpSS k0 rs' ∧ (tot rs' = tot rs ∧ rowsF rs' = rowsF rs) ∧ Only (rowsF rs) w w' :=
  (markIntSS_o a n c b rs k0 w h h0 h1).mono fun _ _ ⟨he, ⟨rs', o, u, k⟩, g⟩ => by
    have ht : tot rs' = tot rs := by
      have hl : rs'.length = rs.length := by simpa using congrArg List.length k
      have := tot_key k rs.length
      rw [List.take_length, ← hl, List.take_length] at this
      exact this
    exact ⟨rs', by rw [ht]; exact he, o, u, ⟨ht, rowsF_key k⟩, g⟩
end Go.Proofs.YtlmdckcohoddnaaDoor
