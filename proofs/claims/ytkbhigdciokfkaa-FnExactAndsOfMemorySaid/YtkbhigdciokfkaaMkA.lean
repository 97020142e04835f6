/- Makers of circuits in memory: what they hold, and what their steps leave. -/
import Derived.Test.YtkbhigdciokfkaaAppG
namespace Go.Proofs.Ytkbhigdciokfkaa
open Go.RowKit

/-- A maker in block g: gates G in a row of its own, no outs; F: the blocks that it may write. -/
def Mk (t : Nat) (w : World) (b g : Nat) (i0 i1 : Int) (G : List Int) (F : List Nat) (oa : Option Addr := none) (on : Nat := 0) (oc : Nat := 0) : Prop :=
  ∃ a n c, Blk w g t #[.int .i64 i0, .int .i64 i1, .slice a n c, .slice oa on oc] ∧ OwnF 3 eGate w b a n c G ∧ g ∉ foot a c ∧ b ≤ g ∧ F = g :: foot a c
/-- A step: what was there stays outside F; the blocks F' are of F or new. -/
structure Stp (F : List Nat) (w : World) (F' : List Nat) (w' : World) : Prop where
  only : Only F w w'
  more : ∀ k ∈ F', k ∈ F ∨ w.heap.size ≤ k
theorem Stp.refl (F : List Nat) (w : World) : Stp F w F w := ⟨Only.refl _ _, fun _ h => .inl h⟩
theorem Stp.trans {F F1 F2 w w1 w2} (h : Stp F w F1 w1) (k : Stp F1 w1 F2 w2) : Stp F w F2 w2 :=
  ⟨⟨k.only.os.trans h.only.os, k.only.tape.trans h.only.tape, k.only.output.trans h.only.output, Nat.le_trans h.only.size k.only.size, fun i hi hn =>
    (k.only.block i (Nat.lt_of_lt_of_le hi h.only.size) (fun hm => by rcases h.more i hm with e | e; exact hn e; omega)).trans (h.only.block i hi hn)⟩,
   fun i hi => by
    rcases k.more i hi with e | e
    · exact h.more i e
    · exact .inr (Nat.le_trans h.only.size e)⟩
theorem Stp.below {F F1 w w1 w2} (h : Stp F w F1 w1) (u : Below w1.heap.size w1 w2) : Stp F w F1 w2 := h.trans ⟨Only.of_below u, fun _ h => .inl h⟩
/-- Something else that is new since w has been written. -/
theorem Stp.onto {X F F1 w w1 w2} (h : Stp F w F1 w1) (u : Only X w1 w2) (hX : ∀ k ∈ X, w.heap.size ≤ k) : Stp F w F1 w2 :=
  ⟨⟨u.os.trans h.only.os, u.tape.trans h.only.tape, u.output.trans h.only.output, Nat.le_trans h.only.size u.size, fun i hi hn =>
    (u.block i (Nat.lt_of_lt_of_le hi h.only.size) (fun hm => by have := hX i hm; omega)).trans (h.only.block i hi hn)⟩, h.more⟩
theorem Stp.alloc {F F1 w w1} (h : Stp F w F1 w1) (o : Obj) : Stp F w F1 (w1.alloc o) := h.below ((Below.refl _ _).alloc (Nat.le_refl _) _)
theorem Stp.drew {F F1 w w1} (h : Stp F w F1 w1) : Stp F w F1 w1.drew := h.below ((Below.refl _ _).drew)
theorem Stp.size {F F1 w w1} (h : Stp F w F1 w1) : w.heap.size ≤ w1.heap.size := h.only.size
theorem Stp.out {F F1 w w1} (h : Stp F w F1 w1) {B : Nat} (hB : B ≤ w.heap.size) (hF : ∀ k ∈ F, B ≤ k) : Below B w w1 := h.only.below hB hF
theorem Mk.feet {t w b g i0 i1 G F} {oa : Option Addr} {on oc : Nat} (h : Mk t w b g i0 i1 G F oa on oc) : ∀ k ∈ F, b ≤ k ∧ k < w.heap.size := by
  obtain ⟨a, n, c, hB, ho, _, hb, rfl⟩ := h
  intro k hk
  rcases List.mem_cons.1 hk with rfl | hk
  · exact ⟨hb, hB.lt⟩
  · exact ho.feet k hk
theorem Mk.only {t w w' b g i0 i1 G F X} {oa : Option Addr} {on oc : Nat} (h : Mk t w b g i0 i1 G F oa on oc) (u : Only X w w') (d : Disj X F) : Mk t w' b g i0 i1 G F oa on oc := by
  obtain ⟨a, n, c, hB, ho, hg, hb, rfl⟩ := h
  exact ⟨a, n, c, hB.only u (fun hm => d g hm (by simp)), ho.only u (fun k hk hx => d k hx (by simp [hk])), hg, hb, rfl⟩
theorem Mk.below {t w w' b g i0 i1 G F} {oa : Option Addr} {on oc : Nat} (h : Mk t w b g i0 i1 G F oa on oc) (u : Below w.heap.size w w') : Mk t w' b g i0 i1 G F oa on oc := h.only (X := []) (Only.of_below u) (Disj.nil_l _)
theorem Mk.alloc {t w b g i0 i1 G F} {oa : Option Addr} {on oc : Nat} (h : Mk t w b g i0 i1 G F oa on oc) (o : Obj) : Mk t (w.alloc o) b g i0 i1 G F oa on oc := h.below ((Below.refl _ _).alloc (Nat.le_refl _) _)
theorem Mk.drew {t w b g i0 i1 G F} {oa : Option Addr} {on oc : Nat} (h : Mk t w b g i0 i1 G F oa on oc) : Mk t w.drew b g i0 i1 G F oa on oc := h.below ((Below.refl _ _).drew)
theorem Mk.drewN {t w b g i0 i1 G F} {oa : Option Addr} {on oc : Nat} (h : Mk t w b g i0 i1 G F oa on oc) (m : Nat) : Mk t (w.drewN m) b g i0 i1 G F oa on oc := h.below (below_of_drewN m)
theorem Own.stp {w w' : World} {b a n c l F F'} (o : Own w b a n c l) (d : Disj (foot a c) F) (h : Stp F w F' w') : Own w' b a n c l ∧ Disj (foot a c) F' :=
  ⟨o.only h.only d, fun k hk hf => by
    rcases h.more k hf with e | e
    · exact d k hk e
    · have := (o.feet k hk).2; omega⟩
/-- A slice that reads as l and lies outside the blocks F. -/
def IntD (w : World) (a : Option Addr) (n c : Nat) (l : List Int) (F : List Nat) : Prop := Ints w a n c l ∧ ∀ x, 0 < n → a = some x → x.block ∉ F
theorem IntD.ints {w a n c l F} (h : IntD w a n c l F) : Ints w a n c l := h.1
theorem Ints.only {w w' : World} {X a n c l} (h : Ints w a n c l) (u : Only X w w') (hd : ∀ x, 0 < n → a = some x → x.block ∉ X) : Ints w' a n c l := by
  obtain ⟨h1, h2, h3, hn, g, o, h4, h5⟩ := h
  refine ⟨h1, h2, h3, hn, g, o, h4, fun i hi => ?_⟩
  have hb : w'.heap[g]? = w.heap[g]? := u.block g (World.block_lt_of_cell? w _ (h5 i hi)) (hd _ (by omega) (h4 (by omega)))
  have := h5 i hi
  simp only [World.cell?] at this ⊢
  rw [hb]; exact this
theorem IntD.stp {w w' : World} {a n c l F F'} (o : IntD w a n c l F) (h : Stp F w F' w') : IntD w' a n c l F' :=
  ⟨o.1.only h.only o.2, fun x hn hx hf => by
    rcases h.more _ hf with e | e
    · exact o.2 x hn hx e
    · have := (o.1.range x hn hx).2; omega⟩
theorem IntD.below {w w' : World} {a n c l F} (o : IntD w a n c l F) (u : Below w.heap.size w w') : IntD w' a n c l F := ⟨o.1.below u, o.2⟩
theorem Own.intD {w b a n c l F} (o : Own w b a n c l) (d : Disj (foot a c) F) : IntD w a n c l F := ⟨o.ints, fun x hn hx hf => d x.block (by rw [hx]; exact foot_mem (by have := o.cap; omega)) hf⟩
theorem IntD.only {X F} {w w' : World} {a n c l} (o : IntD w a n c l F) (u : Only X w w') (hd : ∀ x, 0 < n → a = some x → x.block ∉ X) : IntD w' a n c l F := ⟨o.1.only u hd, o.2⟩
theorem Mk.outs {t w b g i0 i1 G F} {oa : Option Addr} {on oc : Nat} (h : Mk t w b g i0 i1 G F oa on oc) (oa' : Option Addr) (on' oc' : Nat) :
    Mk t (w.setCell ⟨g, 3, none⟩ (.slice oa' on' oc')) b g i0 i1 G F oa' on' oc' ∧ w.cell? ⟨g, 3, none⟩ = some (.slice oa on oc) ∧ w.frozen? ⟨g, 3, none⟩ = false ∧ g ∈ F := by
  obtain ⟨a, n, c, hB, ho, hg, hb, rfl⟩ := h
  have O : Only [g] w (w.setCell ⟨g, 3, none⟩ (.slice oa' on' oc')) := (Only.refl _ _).setCell _ _ (by simp)
  exact ⟨⟨a, n, c, hB.set_ 3 _, ho.only O (fun k hk hk' => hg (by simp at hk'; subst hk'; exact hk)), hg, hb, rfl⟩, hB.cell 3, hB.frozen 3, by simp⟩
theorem Mk.new (t : Nat) (w : World) (b : Nat) (i0 i1 : Int) (hb : b ≤ w.heap.size) : Mk t (w.alloc (.cells #[.int .i64 i0, .int .i64 i1, .slice none 0 0, .slice none 0 0] t)) b w.heap.size i0 i1 [] [w.heap.size] :=
  ⟨none, 0, 0, Blk.new w _ _, OwnC.nil0 _ _ _ _ _, by simp [foot, rowOf], hb, by simp [foot, rowOf]⟩
theorem IntD.pre {w a n c l F} (h : IntD w a n c l F) (j : Nat) (hj : j ≤ n) (h0 : 0 < j) : IntD w a j c (l.take j) F := by
  obtain ⟨⟨h1, h2, h3, h4, g, o, h5, h6⟩, hd⟩ := h
  exact ⟨⟨by simp; omega, by omega, h3, h4, g, o, fun _ => h5 (by omega), fun i hi => by rw [h6 i (by omega)]; simp [List.getD_eq_getElem?_getD, hi]⟩, fun x _ hx => hd x (by omega) hx⟩
theorem IntD.nil (w : World) (a : Option Addr) (c : Nat) (F : List Nat) (h : Ints w a 0 c []) : IntD w a 0 c [] F := ⟨h, fun _ h => absurd h (by omega)⟩
theorem foot_nil (a : Option Addr) (F : List Nat) : Disj (foot a 0) F := fun k hk => by simp [foot, rowOf] at hk
end Go.Proofs.Ytkbhigdciokfkaa
