/- Circuits that makers make are valid. -/
import Derived.Test.YtkbhigdciokfkaaIsCi
import Derived.Test.YtkbhigdciokfkaaDigest
namespace Go.Proofs.Ytkbhigdciokfkaa
open Go.RowKit
/-- All gates are valid. -/
def Gd (B : Int) (G : List Int) : Prop := 0 ≤ B ∧ G.length % 3 = 0 ∧ ∀ k, k < G.length / 3 → gbAt B G k = true
/-- A wire that there is. -/
def Wr (B : Int) (G : List Int) (x : Int) : Prop := 0 ≤ x ∧ x < gW B G
def Ws (B : Int) (G : List Int) (l : List Int) : Prop := ∀ x ∈ l, Wr B G x
/-- The wires that there are stay. -/
def Mo (B : Int) (G G' : List Int) : Prop := gW B G ≤ gW B G'
theorem Mo.wr {B G G' x} (h : Mo B G G') (k : Wr B G x) : Wr B G' x := ⟨k.1, Int.lt_of_lt_of_le k.2 h⟩
theorem Mo.ws {B G G' l} (h : Mo B G G') (k : Ws B G l) : Ws B G' l := fun x hx => h.wr (k x hx)
theorem Mo.refl (B : Int) (G : List Int) : Mo B G G := Int.le_refl _
theorem Mo.trans {B G G1 G2} (h : Mo B G G1) (k : Mo B G1 G2) : Mo B G G2 := Int.le_trans h k
theorem Mo.gt (B : Int) (G : List Int) (k a b : Int) : Mo B G (gt G k a b) := by unfold Mo; rw [gW_gt]; omega
theorem Ws.app {B G l l'} (h : Ws B G l) (k : Ws B G l') : Ws B G (l ++ l') := fun x hx => by
  rcases List.mem_append.1 hx with hx | hx
  · exact h x hx
  · exact k x hx
theorem Ws.one {B G x} (h : Wr B G x) : Ws B G [x] := fun y hy => by rw [List.mem_singleton] at hy; subst hy; exact h
theorem Ws.nil (B : Int) (G : List Int) : Ws B G [] := fun x hx => by cases hx
theorem Ws.at {B G l} (h : Ws B G l) (k : Nat) (hk : k < l.length) : Wr B G (l.getD k 0) := h _ (getD_mem l k hk)
theorem Wr.new {B : Int} {G : List Int} (h : 0 ≤ B) (k a b : Int) : Wr B (gt G k a b) (gW B G) := ⟨gW_nn h, by rw [gW_gt]; omega⟩
theorem Gd.nil {B : Int} (h : 0 ≤ B) : Gd B [] := ⟨h, rfl, fun k hk => absurd hk (by simp)⟩
theorem Gd.gt {B G kd a b} (h : Gd B G) (hg : gbB kd a b (gW B G) = true) : Gd B (gt G kd a b) := by
  obtain ⟨h0, h1, h2⟩ := h
  refine ⟨h0, by rw [gt_len]; omega, fun k hk => ?_⟩
  rw [gt_len] at hk
  by_cases e : k < G.length / 3
  · have := h2 k e
    unfold gbAt at this ⊢
    unfold Proofs.Ytkbhigdciokfkaa.gt
    rw [snoc_getD _ _ _ (by omega), snoc_getD _ _ _ (by omega), snoc_getD _ _ _ (by omega)]
    exact this
  · obtain rfl : k = G.length / 3 := by omega
    have e3 : G.length / 3 * 3 = G.length := by omega
    unfold gbAt Proofs.Ytkbhigdciokfkaa.gt
    rw [e3]
    have f0 : (G ++ [kd, a, b]).getD G.length 0 = kd := by simp [List.getD]
    have f1 : (G ++ [kd, a, b]).getD (G.length + 1) 0 = a := by simp [List.getD]
    have f2 : (G ++ [kd, a, b]).getD (G.length + 2) 0 = b := by simp [List.getD]
    rw [f0, f1, f2]
    exact hg
theorem gb_xor {B G a b} (h : Wr B G a) (k : Wr B G b) : gbB 0 a b (gW B G) = true := by
  unfold gbB; rw [if_pos (by simp)]; simp only [Bool.and_eq_true]
  exact ⟨inB_yes h.1 (by have := h.2; omega), inB_yes k.1 (by have := k.2; omega)⟩
theorem gb_and {B G a b} (h : Wr B G a) (k : Wr B G b) : gbB 1 a b (gW B G) = true := by
  unfold gbB; rw [if_pos (by simp)]; simp only [Bool.and_eq_true]
  exact ⟨inB_yes h.1 (by have := h.2; omega), inB_yes k.1 (by have := k.2; omega)⟩
theorem gb_not {B G a} (h : Wr B G a) : gbB 2 a 0 (gW B G) = true := by
  unfold gbB; rw [if_neg (by simp), if_pos rfl]; simp only [Bool.and_eq_true]
  exact ⟨inB_yes h.1 (by have := h.2; omega), rfl⟩
theorem gb_one (own : Int) : gbB 3 0 0 own = true := rfl
theorem Gd.xor {B G a b} (h : Gd B G) (ha : Wr B G a) (hb : Wr B G b) : Gd B (Proofs.Ytkbhigdciokfkaa.gt G 0 a b) := h.gt (gb_xor ha hb)
theorem Gd.and {B G a b} (h : Gd B G) (ha : Wr B G a) (hb : Wr B G b) : Gd B (Proofs.Ytkbhigdciokfkaa.gt G 1 a b) := h.gt (gb_and ha hb)
theorem Gd.not {B G a} (h : Gd B G) (ha : Wr B G a) : Gd B (Proofs.Ytkbhigdciokfkaa.gt G 2 a 0) := h.gt (gb_not ha)
theorem Gd.one {B G} (h : Gd B G) : Gd B (Proofs.Ytkbhigdciokfkaa.gt G 3 0 0) := h.gt (gb_one _)
/-- What a choice makes. -/
theorem chG_good {B s : Int} {x y G : List Int} (h : Gd B G) (hs : Wr B G s) (hx : Ws B G x) (hy : Ws B G y) (n : Nat) (h1 : n ≤ x.length) (h2 : n ≤ y.length) :
    Gd B (chG B s x y G n).1 ∧ Mo B G (chG B s x y G n).1 ∧ Ws B (chG B s x y G n).1 (chG B s x y G n).2 := by
  induction n with
  | zero => exact ⟨h, Mo.refl _ _, Ws.nil _ _⟩
  | succ n ih =>
    obtain ⟨g, m, r⟩ := ih (by omega) (by omega)
    rw [chG_succ]
    generalize chG B s x y G n = q at *
    have wx := m.wr (hx.at n (by omega))
    have wy := m.wr (hy.at n (by omega))
    have ws := m.wr hs
    generalize x.getD n 0 = u at *
    generalize y.getD n 0 = v at *
    have g1 := g.xor wx wy
    have m1 := Mo.gt B q.1 0 u v
    have n1 := Wr.new (G := q.1) h.1 0 u v
    have g2 := g1.and (m1.wr ws) n1
    have m2 := Mo.gt B (gt q.1 0 u v) 1 s (gW B q.1)
    have n2 := Wr.new (G := gt q.1 0 u v) h.1 1 s (gW B q.1)
    have g3 := g2.xor n2 (m2.wr (m1.wr wy))
    have m3 := Mo.gt B (gt (gt q.1 0 u v) 1 s (gW B q.1)) 0 (gW B (gt q.1 0 u v)) v
    have n3 := Wr.new (G := gt (gt q.1 0 u v) 1 s (gW B q.1)) h.1 0 (gW B (gt q.1 0 u v)) v
    exact ⟨g3, m.trans (m1.trans (m2.trans m3)), ((m1.trans (m2.trans m3)).ws r).app (Ws.one n3)⟩
theorem adS_good {B u v : Int} {f : Bool} {G : List Int} {q : List Int × List Int × Int} (g : Gd B q.1) (m : Mo B G q.1) (r : Ws B q.1 q.2.1) (wx : Wr B q.1 u) (wy : Wr B q.1 v) (wc : f = false → Wr B q.1 q.2.2) :
    Gd B (adS B u v f q).1 ∧ Mo B G (adS B u v f q).1 ∧ Ws B (adS B u v f q).1 (adS B u v f q).2.1 ∧ Wr B (adS B u v f q).1 (adS B u v f q).2.2 := by
  obtain ⟨Q, o, c⟩ := q
  simp only at *
  cases f
  · have wc := wc rfl
    unfold adS
    simp only [Bool.false_eq_true, if_false]
    have m1 := Mo.gt B Q 0 u c
    have n1 := Wr.new (G := Q) g.1 0 u c
    have g1 := g.xor wx wc
    have g2 := g1.xor (m1.wr wy) (m1.wr wc)
    have m2 := m1.trans (Mo.gt B (gt Q 0 u c) 0 v c)
    have n2 := Wr.new (G := gt Q 0 u c) g.1 0 v c
    have k2 := Mo.gt B (gt Q 0 u c) 0 v c
    generalize hG2 : gt (gt Q 0 u c) 0 v c = Q2 at *
    have g3 := g2.xor (k2.wr n1) (m2.wr wy)
    have k3 := Mo.gt B Q2 0 (gW B Q) v
    have n3 := Wr.new (G := Q2) g.1 0 (gW B Q) v
    generalize hG3 : gt Q2 0 (gW B Q) v = Q3 at *
    have g4 := g3.and ((k2.trans k3).wr n1) (k3.wr n2)
    have k4 := Mo.gt B Q3 1 (gW B Q) (gW B (gt Q 0 u c))
    have n4 := Wr.new (G := Q3) g.1 1 (gW B Q) (gW B (gt Q 0 u c))
    generalize hG4 : gt Q3 1 (gW B Q) (gW B (gt Q 0 u c)) = Q4 at *
    have m4 := m2.trans (k3.trans k4)
    have g5 := g4.xor n4 (m4.wr wc)
    have k5 := Mo.gt B Q4 0 (gW B Q3) c
    have n5 := Wr.new (G := Q4) g.1 0 (gW B Q3) c
    exact ⟨g5, m.trans (m4.trans k5), ((m4.trans k5).ws r).app (Ws.one ((k4.trans k5).wr n3)), n5⟩
  · unfold adS
    simp only [if_true]
    have m1 := Mo.gt B Q 0 u v
    have n1 := Wr.new (G := Q) g.1 0 u v
    have g2 := (g.xor wx wy).and (m1.wr wx) (m1.wr wy)
    have k2 := Mo.gt B (gt Q 0 u v) 1 u v
    have n2 := Wr.new (G := gt Q 0 u v) g.1 1 u v
    exact ⟨g2, m.trans (m1.trans k2), ((m1.trans k2).ws r).app (Ws.one (k2.wr n1)), n2⟩
theorem adG_good {B : Int} {x y G : List Int} (h : Gd B G) (hx : Ws B G x) (hy : Ws B G y) (n : Nat) (h1 : n ≤ x.length) (h2 : n ≤ y.length) :
    Gd B (adG B x y G n).1 ∧ Mo B G (adG B x y G n).1 ∧ Ws B (adG B x y G n).1 (adG B x y G n).2.1 ∧ (0 < n → Wr B (adG B x y G n).1 (adG B x y G n).2.2) := by
  induction n with
  | zero => exact ⟨h, Mo.refl _ _, Ws.nil _ _, fun h => absurd h (by omega)⟩
  | succ n ih =>
    obtain ⟨g, m, r, c⟩ := ih (by omega) (by omega)
    rw [adG_succ]
    obtain ⟨a1, a2, a3, a4⟩ := adS_good g m r (m.wr (hx.at n (by omega))) (m.wr (hy.at n (by omega))) (f := n == 0) (fun e => c (by cases n with | zero => cases e | succ n => omega))
    exact ⟨a1, a2, a3, fun _ => a4⟩
theorem suS_good {B u v : Int} {f : Bool} {G : List Int} {q : List Int × List Int × Int} (g : Gd B q.1) (m : Mo B G q.1) (r : Ws B q.1 q.2.1) (wx : Wr B q.1 u) (wy : Wr B q.1 v) (wc : f = false → Wr B q.1 q.2.2) :
    Gd B (suS B u v f q).1 ∧ Mo B G (suS B u v f q).1 ∧ Ws B (suS B u v f q).1 (suS B u v f q).2.1 ∧ Wr B (suS B u v f q).1 (suS B u v f q).2.2 := by
  obtain ⟨Q, o, c⟩ := q
  simp only at *
  cases f
  · have wc := wc rfl
    unfold suS
    simp only [Bool.false_eq_true, if_false]
    have m1 := Mo.gt B Q 0 u c
    have n1 := Wr.new (G := Q) g.1 0 u c
    have g1 := g.xor wx wc
    have g2 := g1.xor (m1.wr wy) (m1.wr wc)
    have m2 := m1.trans (Mo.gt B (gt Q 0 u c) 0 v c)
    have n2 := Wr.new (G := gt Q 0 u c) g.1 0 v c
    have k2 := Mo.gt B (gt Q 0 u c) 0 v c
    generalize hG2 : gt (gt Q 0 u c) 0 v c = Q2 at *
    have g3 := g2.xor (k2.wr n1) (m2.wr wy)
    have k3 := Mo.gt B Q2 0 (gW B Q) v
    have n3 := Wr.new (G := Q2) g.1 0 (gW B Q) v
    generalize hG3 : gt Q2 0 (gW B Q) v = Q3 at *
    have g4 := g3.not ((k2.trans k3).wr n1)
    have k4 := Mo.gt B Q3 2 (gW B Q) 0
    have n4 := Wr.new (G := Q3) g.1 2 (gW B Q) 0
    generalize hG4 : gt Q3 2 (gW B Q) 0 = Q4 at *
    have g5 := g4.and n4 ((k3.trans k4).wr n2)
    have k5 := Mo.gt B Q4 1 (gW B Q3) (gW B (gt Q 0 u c))
    have n5 := Wr.new (G := Q4) g.1 1 (gW B Q3) (gW B (gt Q 0 u c))
    generalize hG5 : gt Q4 1 (gW B Q3) (gW B (gt Q 0 u c)) = Q5 at *
    have m5 := m2.trans (k3.trans (k4.trans k5))
    have g6 := g5.xor n5 (m5.wr wc)
    have k6 := Mo.gt B Q5 0 (gW B Q4) c
    have n6 := Wr.new (G := Q5) g.1 0 (gW B Q4) c
    exact ⟨g6, m.trans (m5.trans k6), ((m5.trans k6).ws r).app (Ws.one ((k4.trans (k5.trans k6)).wr n3)), n6⟩
  · unfold suS
    simp only [if_true]
    have m1 := Mo.gt B Q 0 u v
    have n1 := Wr.new (G := Q) g.1 0 u v
    have k2 := Mo.gt B (gt Q 0 u v) 2 u 0
    have n2 := Wr.new (G := gt Q 0 u v) g.1 2 u 0
    have g2 := (g.xor wx wy).not (m1.wr wx)
    have g3 := g2.and n2 ((m1.trans k2).wr wy)
    have k3 := Mo.gt B (gt (gt Q 0 u v) 2 u 0) 1 (gW B (gt Q 0 u v)) v
    have n3 := Wr.new (G := gt (gt Q 0 u v) 2 u 0) g.1 1 (gW B (gt Q 0 u v)) v
    exact ⟨g3, m.trans (m1.trans (k2.trans k3)), ((m1.trans (k2.trans k3)).ws r).app (Ws.one ((k2.trans k3).wr n1)), n3⟩
theorem suG_good {B : Int} {x y G : List Int} (h : Gd B G) (hx : Ws B G x) (hy : Ws B G y) (n : Nat) (h1 : n ≤ x.length) (h2 : n ≤ y.length) :
    Gd B (suG B x y G n).1 ∧ Mo B G (suG B x y G n).1 ∧ Ws B (suG B x y G n).1 (suG B x y G n).2.1 ∧ (0 < n → Wr B (suG B x y G n).1 (suG B x y G n).2.2) := by
  induction n with
  | zero => exact ⟨h, Mo.refl _ _, Ws.nil _ _, fun h => absurd h (by omega)⟩
  | succ n ih =>
    obtain ⟨g, m, r, c⟩ := ih (by omega) (by omega)
    rw [suG_succ]
    obtain ⟨a1, a2, a3, a4⟩ := suS_good g m r (m.wr (hx.at n (by omega))) (m.wr (hy.at n (by omega))) (f := n == 0) (fun e => c (by cases n with | zero => cases e | succ n => omega))
    exact ⟨a1, a2, a3, fun _ => a4⟩
theorem spL_ws {B f : Int} {G : List Int} (n : Nat) (h0 : 0 ≤ f) (h1 : f + n ≤ B) : Ws B G (spL f n) := fun x hx => by
  simp only [spL, List.mem_map, List.mem_range] at hx
  obtain ⟨i, hi, rfl⟩ := hx
  exact ⟨by omega, by unfold gW; omega⟩
theorem coL_ws {B z x : Int} {G : List Int} (n : Nat) (h1 : Wr B G z) (h2 : Wr B G (z - 1)) : Ws B G (coL z x n) := fun y hy => by
  simp only [coL, List.mem_map, List.mem_range] at hy
  obtain ⟨i, hi, rfl⟩ := hy
  have : x / 2 ^ i % 2 = 0 ∨ x / 2 ^ i % 2 = 1 := by omega
  rcases this with e | e
  · rw [e, Int.sub_zero]; exact h1
  · rw [e]; exact h2
/-- A circuit whose gates and outs are good is valid. -/
theorem ci_good {i0 i1 : Int} {gn : Nat} {G O : List Int} (h0 : 0 ≤ i0 ∧ i0 ≤ 20) (h1 : 0 ≤ i1 ∧ i1 ≤ 20) (hg : Gd (i0 + i1) G) (ho : Ws (i0 + i1) G O) (hn : gn = G.length / 3) (hgn : gn ≤ 300) (hon : O.length ≤ 40) : ciB i0 i1 gn G O = true := by
  unfold ciB
  rw [inB_yes h0.1 h0.2, inB_yes h1.1 h1.2, decide_eq_true hgn, decide_eq_true hon, gbsB_yes (fun k hk => hg.2.2 k (by omega)), (allB_iff _ _ _).2 (fun x hx => ⟨(ho x hx).1, by have := (ho x hx).2; unfold gW at this; omega⟩)]
  rfl
end Go.Proofs.Ytkbhigdciokfkaa
