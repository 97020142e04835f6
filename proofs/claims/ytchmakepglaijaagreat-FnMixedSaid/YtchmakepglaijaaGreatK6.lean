/- Lemmas and walks that the claim's proof rests on, part 6. -/
import Derived.Test.YtchmakepglaijaaGreatK1
import Derived.Test.YtchmakepglaijaaGreatK2
namespace Go.Proofs.YtchmakepglaijaaGreat
open Go.RowKit
def Mk (t : Nat) (w : World) (b g : Nat) (i0 i1 : Int) (G : List Int) (F : List Nat) (oa : Option Addr := none) (on : Nat := 0) (oc : Nat := 0) : Prop :=
  ∃ a n c, Blk w g t #[.int .i64 i0, .int .i64 i1, .slice a n c, .slice oa on oc] ∧ OwnF 3 eGate w b a n c G ∧ g ∉ foot a c ∧ b ≤ g ∧ F = g :: foot a c
structure Stp (F : List Nat) (w : World) (F' : List Nat) (w' : World) : Prop where
  only : Only F w w'
  more : ∀ k ∈ F', k ∈ F ∨ w.heap.size ≤ k
theorem Stp.refl (F : List Nat) (w : World) : Stp F w F w := ⟨Only.refl _ _, fun _ h => .inl h⟩
theorem Stp.trans {F F1 F2 w w1 w2} (h : Stp F w F1 w1) (k : Stp F1 w1 F2 w2) : Stp F w F2 w2 :=
  ⟨⟨k.only.os.trans h.only.os, k.only.tape.trans h.only.tape, k.only.output.trans h.only.output, Nat.le_trans h.only.size k.only.size, fun i hi hn =>
    (k.only.block i (Nat.lt_of_lt_of_le hi h.only.size) (fun hm => by rcases h.more i hm with e | e; exact hn e; omega)).trans (h.only.block i hi hn)⟩,
   fun i hi => by
    rcases k.more i hi with e | e
    · exact h.more i e
    · exact .inr (Nat.le_trans h.only.size e)⟩
theorem Stp.below {F F1 w w1 w2} (h : Stp F w F1 w1) (u : Below w1.heap.size w1 w2) : Stp F w F1 w2 := h.trans ⟨Only.of_below u, fun _ h => .inl h⟩
theorem Stp.onto {X F F1 w w1 w2} (h : Stp F w F1 w1) (u : Only X w1 w2) (hX : ∀ k ∈ X, w.heap.size ≤ k) : Stp F w F1 w2 :=
  ⟨⟨u.os.trans h.only.os, u.tape.trans h.only.tape, u.output.trans h.only.output, Nat.le_trans h.only.size u.size, fun i hi hn =>
    (u.block i (Nat.lt_of_lt_of_le hi h.only.size) (fun hm => by have := hX i hm; omega)).trans (h.only.block i hi hn)⟩, h.more⟩
theorem Stp.alloc {F F1 w w1} (h : Stp F w F1 w1) (o : Obj) : Stp F w F1 (w1.alloc o) := h.below ((Below.refl _ _).alloc (Nat.le_refl _) _)
theorem Stp.drew {F F1 w w1} (h : Stp F w F1 w1) : Stp F w F1 w1.drew := h.below ((Below.refl _ _).drew)
theorem Stp.size {F F1 w w1} (h : Stp F w F1 w1) : w.heap.size ≤ w1.heap.size := h.only.size
theorem Stp.out {F F1 w w1} (h : Stp F w F1 w1) {B : Nat} (hB : B ≤ w.heap.size) (hF : ∀ k ∈ F, B ≤ k) : Below B w w1 := h.only.below hB hF
theorem Mk.feet {t w b g i0 i1 G F} {oa : Option Addr} {on oc : Nat} (h : Mk t w b g i0 i1 G F oa on oc) : ∀ k ∈ F, b ≤ k ∧ k < w.heap.size := by
  obtain ⟨a, n, c, hB, ho, _, hb, rfl⟩ := h
  intro k hk
  rcases List.mem_cons.1 hk with rfl | hk
  · exact ⟨hb, hB.lt⟩
  · exact ho.feet k hk
theorem Mk.only {t w w' b g i0 i1 G F X} {oa : Option Addr} {on oc : Nat} (h : Mk t w b g i0 i1 G F oa on oc) (u : Only X w w') (d : Disj X F) : Mk t w' b g i0 i1 G F oa on oc := by
  obtain ⟨a, n, c, hB, ho, hg, hb, rfl⟩ := h
  exact ⟨a, n, c, hB.only u (fun hm => d g hm (by simp)), ho.only u (fun k hk hx => d k hx (by simp [hk])), hg, hb, rfl⟩
theorem Mk.below {t w w' b g i0 i1 G F} {oa : Option Addr} {on oc : Nat} (h : Mk t w b g i0 i1 G F oa on oc) (u : Below w.heap.size w w') : Mk t w' b g i0 i1 G F oa on oc := h.only (X := []) (Only.of_below u) (Disj.nil_l _)
theorem Mk.alloc {t w b g i0 i1 G F} {oa : Option Addr} {on oc : Nat} (h : Mk t w b g i0 i1 G F oa on oc) (o : Obj) : Mk t (w.alloc o) b g i0 i1 G F oa on oc := h.below ((Below.refl _ _).alloc (Nat.le_refl _) _)
theorem Mk.drew {t w b g i0 i1 G F} {oa : Option Addr} {on oc : Nat} (h : Mk t w b g i0 i1 G F oa on oc) : Mk t w.drew b g i0 i1 G F oa on oc := h.below ((Below.refl _ _).drew)
theorem Mk.drewN {t w b g i0 i1 G F} {oa : Option Addr} {on oc : Nat} (h : Mk t w b g i0 i1 G F oa on oc) (m : Nat) : Mk t (w.drewN m) b g i0 i1 G F oa on oc := h.below (below_of_drewN m)
theorem Own.stp {w w' : World} {b a n c l F F'} (o : Own w b a n c l) (d : Disj (foot a c) F) (h : Stp F w F' w') : Own w' b a n c l ∧ Disj (foot a c) F' :=
  ⟨o.only h.only d, fun k hk hf => by
    rcases h.more k hf with e | e
    · exact d k hk e
    · have := (o.feet k hk).2; omega⟩
def IntD (w : World) (a : Option Addr) (n c : Nat) (l : List Int) (F : List Nat) : Prop := Ints w a n c l ∧ ∀ x, 0 < n → a = some x → x.block ∉ F
theorem IntD.ints {w a n c l F} (h : IntD w a n c l F) : Ints w a n c l := h.1
theorem Ints.only {w w' : World} {X a n c l} (h : Ints w a n c l) (u : Only X w w') (hd : ∀ x, 0 < n → a = some x → x.block ∉ X) : Ints w' a n c l := by
  obtain ⟨h1, h2, h3, hn, g, o, h4, h5⟩ := h
  refine ⟨h1, h2, h3, hn, g, o, h4, fun i hi => ?_⟩
  have hb : w'.heap[g]? = w.heap[g]? := u.block g (World.block_lt_of_cell? w _ (h5 i hi)) (hd _ (by omega) (h4 (by omega)))
  have := h5 i hi
  simp only [World.cell?] at this ⊢
  rw [hb]; exact this
theorem IntD.stp {w w' : World} {a n c l F F'} (o : IntD w a n c l F) (h : Stp F w F' w') : IntD w' a n c l F' :=
  ⟨o.1.only h.only o.2, fun x hn hx hf => by
    rcases h.more _ hf with e | e
    · exact o.2 x hn hx e
    · have := (o.1.range x hn hx).2; omega⟩
theorem IntD.below {w w' : World} {a n c l F} (o : IntD w a n c l F) (u : Below w.heap.size w w') : IntD w' a n c l F := ⟨o.1.below u, o.2⟩
theorem Own.intD {w b a n c l F} (o : Own w b a n c l) (d : Disj (foot a c) F) : IntD w a n c l F := ⟨o.ints, fun x hn hx hf => d x.block (by rw [hx]; exact foot_mem (by have := o.cap; omega)) hf⟩
theorem IntD.only {X F} {w w' : World} {a n c l} (o : IntD w a n c l F) (u : Only X w w') (hd : ∀ x, 0 < n → a = some x → x.block ∉ X) : IntD w' a n c l F := ⟨o.1.only u hd, o.2⟩
theorem Mk.outs {t w b g i0 i1 G F} {oa : Option Addr} {on oc : Nat} (h : Mk t w b g i0 i1 G F oa on oc) (oa' : Option Addr) (on' oc' : Nat) :
    Mk t (w.setCell ⟨g, 3, none⟩ (.slice oa' on' oc')) b g i0 i1 G F oa' on' oc' ∧ w.cell? ⟨g, 3, none⟩ = some (.slice oa on oc) ∧ w.frozen? ⟨g, 3, none⟩ = false ∧ g ∈ F := by
  obtain ⟨a, n, c, hB, ho, hg, hb, rfl⟩ := h
  have O : Only [g] w (w.setCell ⟨g, 3, none⟩ (.slice oa' on' oc')) := (Only.refl _ _).setCell _ _ (by simp)
  exact ⟨⟨a, n, c, hB.set_ 3 _, ho.only O (fun k hk hk' => hg (by simp at hk'; subst hk'; exact hk)), hg, hb, rfl⟩, hB.cell 3, hB.frozen 3, by simp⟩
theorem Mk.new (t : Nat) (w : World) (b : Nat) (i0 i1 : Int) (hb : b ≤ w.heap.size) : Mk t (w.alloc (.cells #[.int .i64 i0, .int .i64 i1, .slice none 0 0, .slice none 0 0] t)) b w.heap.size i0 i1 [] [w.heap.size] :=
  ⟨none, 0, 0, Blk.new w _ _, OwnC.nil0 _ _ _ _ _, by simp [foot, rowOf], hb, by simp [foot, rowOf]⟩
theorem IntD.pre {w a n c l F} (h : IntD w a n c l F) (j : Nat) (hj : j ≤ n) (h0 : 0 < j) : IntD w a j c (l.take j) F := by
  obtain ⟨⟨h1, h2, h3, h4, g, o, h5, h6⟩, hd⟩ := h
  exact ⟨⟨by simp; omega, by omega, h3, h4, g, o, fun _ => h5 (by omega), fun i hi => by rw [h6 i (by omega)]; simp [List.getD_eq_getElem?_getD, hi]⟩, fun x _ hx => hd x (by omega) hx⟩
theorem IntD.nil (w : World) (a : Option Addr) (c : Nat) (F : List Nat) (h : Ints w a 0 c []) : IntD w a 0 c [] F := ⟨h, fun _ h => absurd h (by omega)⟩
theorem foot_nil (a : Option Addr) (F : List Nat) : Disj (foot a 0) F := fun k hk => by simp [foot, rowOf] at hk
end Go.Proofs.YtchmakepglaijaaGreat
namespace Go.Proofs.YtchmakepglaijaaGreat
open Go.RowKit
def gW (B : Int) (G : List Int) : Int := B + ((G.length / 3 : Nat) : Int)
def gt (G : List Int) (k a b : Int) : List Int := G ++ [k, a, b]
theorem gt_len (G : List Int) (k a b : Int) : (gt G k a b).length = G.length + 3 := by simp [gt]
def chS (B s u v : Int) (r : List Int × List Int) : List Int × List Int :=
  (gt (gt (gt r.1 0 u v) 1 s (gW B r.1)) 0 (gW B (gt r.1 0 u v)) v, r.2 ++ [gW B (gt (gt r.1 0 u v) 1 s (gW B r.1))])
def chG (B s : Int) (x y G : List Int) : Nat → List Int × List Int
  | 0 => (G, [])
  | k + 1 => chS B s (x.getD k 0) (y.getD k 0) (chG B s x y G k)
theorem chG_succ (B s : Int) (x y G : List Int) (k : Nat) : chG B s x y G (k + 1) = chS B s (x.getD k 0) (y.getD k 0) (chG B s x y G k) := rfl
theorem chG_len (B s : Int) (x y G : List Int) (k : Nat) : (chG B s x y G k).1.length = G.length + 9 * k ∧ (chG B s x y G k).2.length = k := by
  induction k with
  | zero => simp [chG]
  | succ k ih => simp only [chG, chS, gt_len, List.length_append, List.length_cons, List.length_nil]; omega
theorem getD_take (l : List Int) (n k : Nat) (h : k < n) : (l.take n).getD k 0 = l.getD k 0 := by simp [List.getD_eq_getElem?_getD, h]
theorem chG_take (B s : Int) (x y G : List Int) (n k : Nat) (h : k ≤ n) : chG B s (x.take n) (y.take n) G k = chG B s x y G k := by
  induction k with
  | zero => rfl
  | succ k ih => rw [chG_succ, chG_succ, ih (by omega), getD_take _ _ _ (by omega), getD_take _ _ _ (by omega)]
theorem chG_app (B s : Int) (x y l G : List Int) (n : Nat) (h : n ≤ y.length) : chG B s x (y ++ l) G n = chG B s x y G n := by
  rw [← chG_take B s x (y ++ l) G n n (Nat.le_refl _), List.take_append_of_le_length h, chG_take _ _ _ _ _ _ _ (Nat.le_refl _)]
def adS (B u v : Int) (first : Bool) (r : List Int × List Int × Int) : List Int × List Int × Int :=
  if first then (gt (gt r.1 0 u v) 1 u v, r.2.1 ++ [gW B r.1], gW B (gt r.1 0 u v))
  else (gt (gt (gt (gt (gt r.1 0 u r.2.2) 0 v r.2.2) 0 (gW B r.1) v) 1 (gW B r.1) (gW B (gt r.1 0 u r.2.2))) 0 (gW B (gt (gt (gt r.1 0 u r.2.2) 0 v r.2.2) 0 (gW B r.1) v)) r.2.2,
    r.2.1 ++ [gW B (gt (gt r.1 0 u r.2.2) 0 v r.2.2)],
    gW B (gt (gt (gt (gt r.1 0 u r.2.2) 0 v r.2.2) 0 (gW B r.1) v) 1 (gW B r.1) (gW B (gt r.1 0 u r.2.2))))
def adG (B : Int) (a b G : List Int) : Nat → List Int × List Int × Int
  | 0 => (G, [], -1)
  | k + 1 => adS B (a.getD k 0) (b.getD k 0) (k == 0) (adG B a b G k)
def suS (B u v : Int) (first : Bool) (r : List Int × List Int × Int) : List Int × List Int × Int :=
  if first then (gt (gt (gt r.1 0 u v) 2 u 0) 1 (gW B (gt r.1 0 u v)) v, r.2.1 ++ [gW B r.1], gW B (gt (gt r.1 0 u v) 2 u 0))
  else (gt (gt (gt (gt (gt (gt r.1 0 u r.2.2) 0 v r.2.2) 0 (gW B r.1) v) 2 (gW B r.1) 0) 1 (gW B (gt (gt (gt r.1 0 u r.2.2) 0 v r.2.2) 0 (gW B r.1) v)) (gW B (gt r.1 0 u r.2.2))) 0 (gW B (gt (gt (gt (gt r.1 0 u r.2.2) 0 v r.2.2) 0 (gW B r.1) v) 2 (gW B r.1) 0)) r.2.2,
    r.2.1 ++ [gW B (gt (gt r.1 0 u r.2.2) 0 v r.2.2)],
    gW B (gt (gt (gt (gt (gt r.1 0 u r.2.2) 0 v r.2.2) 0 (gW B r.1) v) 2 (gW B r.1) 0) 1 (gW B (gt (gt (gt r.1 0 u r.2.2) 0 v r.2.2) 0 (gW B r.1) v)) (gW B (gt r.1 0 u r.2.2))))
def suG (B : Int) (a b G : List Int) : Nat → List Int × List Int × Int
  | 0 => (G, [], -1)
  | k + 1 => suS B (a.getD k 0) (b.getD k 0) (k == 0) (suG B a b G k)
theorem adS_len (B u v : Int) (f : Bool) (r : List Int × List Int × Int) : (adS B u v f r).1.length ≤ r.1.length + 18 ∧ (adS B u v f r).2.1.length = r.2.1.length + 1 := by
  unfold adS; cases f <;> simp [gt_len]
theorem suS_len (B u v : Int) (f : Bool) (r : List Int × List Int × Int) : (suS B u v f r).1.length ≤ r.1.length + 18 ∧ (suS B u v f r).2.1.length = r.2.1.length + 1 := by
  unfold suS; cases f <;> simp [gt_len]
theorem adG_len (B : Int) (a b G : List Int) (k : Nat) : (adG B a b G k).1.length ≤ G.length + 18 * k ∧ (adG B a b G k).2.1.length = k := by
  induction k with
  | zero => simp [adG]
  | succ k ih => have := adS_len B (a.getD k 0) (b.getD k 0) (k == 0) (adG B a b G k); simp only [adG]; omega
theorem suG_len (B : Int) (a b G : List Int) (k : Nat) : (suG B a b G k).1.length ≤ G.length + 18 * k ∧ (suG B a b G k).2.1.length = k := by
  induction k with
  | zero => simp [suG]
  | succ k ih => have := suS_len B (a.getD k 0) (b.getD k 0) (k == 0) (suG B a b G k); simp only [suG]; omega
theorem adG_succ (B : Int) (a b G : List Int) (k : Nat) : adG B a b G (k + 1) = adS B (a.getD k 0) (b.getD k 0) (k == 0) (adG B a b G k) := rfl
theorem suG_succ (B : Int) (a b G : List Int) (k : Nat) : suG B a b G (k + 1) = suS B (a.getD k 0) (b.getD k 0) (k == 0) (suG B a b G k) := rfl
theorem gW_gt (B : Int) (G : List Int) (k a b : Int) : gW B (gt G k a b) = gW B G + 1 := by unfold gW; rw [gt_len]; omega
theorem gW_le (B : Int) (G : List Int) : gW B G ≤ B + G.length := by unfold gW; omega
theorem gW_nn {B : Int} {G : List Int} (h : 0 ≤ B) : 0 ≤ gW B G := by unfold gW; omega
theorem adS_nn {B : Int} (h : 0 ≤ B) (u v : Int) (f : Bool) (r : List Int × List Int × Int) : 0 ≤ (adS B u v f r).2.2 := by
  unfold adS; cases f <;> exact gW_nn h
theorem suS_nn {B : Int} (h : 0 ≤ B) (u v : Int) (f : Bool) (r : List Int × List Int × Int) : 0 ≤ (suS B u v f r).2.2 := by
  unfold suS; cases f <;> exact gW_nn h
theorem adG_nn {B : Int} (h : 0 ≤ B) (a b G : List Int) (k : Nat) (hk : 0 < k) : 0 ≤ (adG B a b G k).2.2 := by
  cases k with
  | zero => omega
  | succ k => exact adS_nn h _ _ _ _
theorem suG_nn {B : Int} (h : 0 ≤ B) (a b G : List Int) (k : Nat) (hk : 0 < k) : 0 ≤ (suG B a b G k).2.2 := by
  cases k with
  | zero => omega
  | succ k => exact suS_nn h _ _ _ _
def btL (n : Int) (k : Nat) : List Int := (List.range k).map fun i => n / 2 ^ i % 2
theorem btL_succ (n : Int) (k : Nat) : btL n (k + 1) = btL n k ++ [n / 2 ^ k % 2] := by simp [btL, List.range_succ]
theorem btL_len (n : Int) (k : Nat) : (btL n k).length = k := by simp [btL]
theorem btL_rng (n : Int) (k : Nat) : ∀ x ∈ btL n k, 0 ≤ x ∧ x ≤ 1 := by
  intro x hx
  simp only [btL, List.mem_map, List.mem_range] at hx
  obtain ⟨i, _, rfl⟩ := hx
  omega
def spL (f : Int) (k : Nat) : List Int := (List.range k).map fun (i : Nat) => f + i
theorem spL_succ (f : Int) (k : Nat) : spL f (k + 1) = spL f k ++ [f + k] := by simp [spL, List.range_succ]
theorem spL_len (f : Int) (k : Nat) : (spL f k).length = k := by simp [spL]
theorem spL_at (f : Int) (n k : Nat) (h : k < n) : (spL f n).getD k 0 = f + k := by simp [spL, List.getD, h]
def coL (z n : Int) (k : Nat) : List Int := (List.range k).map fun i => z - n / 2 ^ i % 2
theorem coL_succ (z n : Int) (k : Nat) : coL z n (k + 1) = coL z n k ++ [z - n / 2 ^ k % 2] := by simp [coL, List.range_succ]
theorem coL_len (z n : Int) (k : Nat) : (coL z n k).length = k := by simp [coL]
def re1 (n : Nat) : List Int × List Int × Int := adG ((n : Int) + n) (spL 0 n) (spL n n) [] n
def re3 (n : Nat) (p : Int) (r : List Int × List Int × Int) : List Int × List Int × Int :=
  suG ((n : Int) + n) (r.2.1 ++ [r.2.2]) (coL (gW ((n : Int) + n) (gt r.1 3 0 0)) p (n + 1)) (gt (gt r.1 3 0 0) 2 (gW ((n : Int) + n) r.1) 0) (n + 1)
def re4 (n : Nat) (r q : List Int × List Int × Int) : List Int × List Int := chG ((n : Int) + n) q.2.2 (r.2.1 ++ [r.2.2]) q.2.1 q.1 n
def reG (p : Int) : List Int := (re4 (wid p) (re1 (wid p)) (re3 (wid p) p (re1 (wid p)))).1
def reO (p : Int) : List Int := (re4 (wid p) (re1 (wid p)) (re3 (wid p) p (re1 (wid p)))).2
end Go.Proofs.YtchmakepglaijaaGreat
namespace Go.Proofs.YtchmakepglaijaaGreat
open Go.RowKit
set_option maxHeartbeats 4000000 in
theorem inputs_any (i0 i1 : Int) (a : Option Addr) (n c : Nat) (oa : Option Addr) (on oc : Nat) (w : World) (h0 : 0 ≤ i0 ∧ i0 ≤ 100000) (h1 : 0 ≤ i1 ∧ i1 ≤ 100000) :
    Calls Tryz.prog 121 #[.agg #[.int .i64 i0, .int .i64 i1, .slice a n c, .slice oa on oc]] w fun e w' => e = .returned (.int .i64 (i0 + i1)) ∧ Below w.heap.size w w' := by
  go_enter Tryz.func121, Tryz.ntmps121
  go_wp2
  go_ret
  exact ⟨rfl, (Below.refl _ _).alloc (Nat.le_refl _) _⟩
set_option maxHeartbeats 4000000 in
theorem ciInputs_any (i0 i1 : Int) (a : Option Addr) (n c : Nat) (oa : Option Addr) (on oc : Nat) (w : World) (h0 : 0 ≤ i0 ∧ i0 ≤ 100000) (h1 : 0 ≤ i1 ∧ i1 ≤ 100000) :
    Calls Tryz.prog 146 #[.agg #[.int .i64 i0, .int .i64 i1, .slice a n c, .slice oa on oc]] w fun e w' => e = .returned (.int .i64 (i0 + i1)) ∧ Below w.heap.size w w' := by
  go_enter Tryz.func146, Tryz.ntmps146
  go_wp2
  go_ret
  exact ⟨rfl, (Below.refl _ _).alloc (Nat.le_refl _) _⟩
set_option maxHeartbeats 2000000 in
theorem wires_any (i0 i1 : Int) (ga : Option Addr) (gn gc : Nat) (oa : Option Addr) (on oc : Nat) (w : World) (h0 : 0 ≤ i0 ∧ i0 ≤ 100000) (h1 : 0 ≤ i1 ∧ i1 ≤ 100000) (hg : gn ≤ 1000000) :
    Calls Tryz.prog 123 #[.agg #[.int .i64 i0, .int .i64 i1, .slice ga gn gc, .slice oa on oc]] w fun e w' => e = .returned (.int .i64 (i0 + i1 + gn)) ∧ Below w.heap.size w w' := by
  go_enter Tryz.func123, Tryz.ntmps123
  go_wp2_with fail
  have V0 : Below w.heap.size w (w.alloc (.cells #[.int .i64 i0, .int .i64 i1, .slice ga gn gc, .slice oa on oc] 49)) := (Below.refl _ _).alloc (Nat.le_refl _) _
  have B0 : Blk (w.alloc (.cells #[.int .i64 i0, .int .i64 i1, .slice ga gn gc, .slice oa on oc] 49)) w.heap.size 49 #[.int .i64 i0, .int .i64 i1, .slice ga gn gc, .slice oa on oc] := Blk.new w _ _
  generalize (w.alloc (.cells #[.int .i64 i0, .int .i64 i1, .slice ga gn gc, .slice oa on oc] 49)) = w1 at *
  have x0 : w1.cell? ⟨w.heap.size, 0, none⟩ = some (.int .i64 i0) := B0.cell 0
  have x1 : w1.cell? ⟨w.heap.size, 1, none⟩ = some (.int .i64 i1) := B0.cell 1
  have x2 : w1.cell? ⟨w.heap.size, 2, none⟩ = some (.slice ga gn gc) := B0.cell 2
  have x3 : w1.cell? ⟨w.heap.size, 3, none⟩ = some (.slice oa on oc) := B0.cell 3
  have t1 : IntKind.i64.wrap (i0 + i1 + (gn : Int)) = i0 + i1 + gn := IntWalk.i64_in _ (by omega)
  go_region_held3 (fun W => W.cell? ⟨w.heap.size, 0, none⟩ = some (.int .i64 i0) ∧ W.cell? ⟨w.heap.size, 1, none⟩ = some (.int .i64 i1) ∧ W.cell? ⟨w.heap.size, 2, none⟩ = some (.slice ga gn gc) ∧ W.cell? ⟨w.heap.size, 3, none⟩ = some (.slice oa on oc))
    (first | go_keep | exact ⟨keepC u x0, keepC u x1, keepC u x2, keepC u x3⟩)
    (first | (go_at_call 121; refine (inputs_any _ _ _ _ _ _ _ _ _ (by omega) (by omega)).mono ?_; rintro e w2 ⟨rfl, u⟩))
  all_goals have u' : Below w1.heap.size w1 w2 := (Below.refl _ _).drew.trans u
  all_goals go_wp2
  all_goals go_ret
  all_goals exact ⟨rfl, V0.trans (u'.mono V0.size)⟩
set_option maxHeartbeats 2000000 in
theorem ciWires_any (i0 i1 : Int) (ga : Option Addr) (gn gc : Nat) (oa : Option Addr) (on oc : Nat) (w : World) (h0 : 0 ≤ i0 ∧ i0 ≤ 100000) (h1 : 0 ≤ i1 ∧ i1 ≤ 100000) (hg : gn ≤ 1000000) :
    Calls Tryz.prog 145 #[.agg #[.int .i64 i0, .int .i64 i1, .slice ga gn gc, .slice oa on oc]] w fun e w' => e = .returned (.int .i64 (i0 + i1 + gn)) ∧ Below w.heap.size w w' := by
  go_enter Tryz.func145, Tryz.ntmps145
  go_wp2_with fail
  have V0 : Below w.heap.size w (w.alloc (.cells #[.int .i64 i0, .int .i64 i1, .slice ga gn gc, .slice oa on oc] 49)) := (Below.refl _ _).alloc (Nat.le_refl _) _
  have B0 : Blk (w.alloc (.cells #[.int .i64 i0, .int .i64 i1, .slice ga gn gc, .slice oa on oc] 49)) w.heap.size 49 #[.int .i64 i0, .int .i64 i1, .slice ga gn gc, .slice oa on oc] := Blk.new w _ _
  generalize (w.alloc (.cells #[.int .i64 i0, .int .i64 i1, .slice ga gn gc, .slice oa on oc] 49)) = w1 at *
  have x0 : w1.cell? ⟨w.heap.size, 0, none⟩ = some (.int .i64 i0) := B0.cell 0
  have x1 : w1.cell? ⟨w.heap.size, 1, none⟩ = some (.int .i64 i1) := B0.cell 1
  have x2 : w1.cell? ⟨w.heap.size, 2, none⟩ = some (.slice ga gn gc) := B0.cell 2
  have x3 : w1.cell? ⟨w.heap.size, 3, none⟩ = some (.slice oa on oc) := B0.cell 3
  have t1 : IntKind.i64.wrap (i0 + i1 + (gn : Int)) = i0 + i1 + gn := IntWalk.i64_in _ (by omega)
  go_region_held3 (fun W => W.cell? ⟨w.heap.size, 0, none⟩ = some (.int .i64 i0) ∧ W.cell? ⟨w.heap.size, 1, none⟩ = some (.int .i64 i1) ∧ W.cell? ⟨w.heap.size, 2, none⟩ = some (.slice ga gn gc) ∧ W.cell? ⟨w.heap.size, 3, none⟩ = some (.slice oa on oc))
    (first | go_keep | exact ⟨keepC u x0, keepC u x1, keepC u x2, keepC u x3⟩)
    (first | (go_at_call 146; refine (ciInputs_any _ _ _ _ _ _ _ _ _ (by omega) (by omega)).mono ?_; rintro e w2 ⟨rfl, u⟩))
  all_goals have u' : Below w1.heap.size w1 w2 := (Below.refl _ _).drew.trans u
  all_goals go_wp2
  all_goals go_ret
  all_goals exact ⟨rfl, V0.trans (u'.mono V0.size)⟩
end Go.Proofs.YtchmakepglaijaaGreat
namespace Go.Proofs.YtchmakepglaijaaGreat
open Go.RowKit
set_option maxHeartbeats 4000000 in
set_option maxRecDepth 100000 in
theorem gate_any (kd ka kb : Int) {oa : Option Addr} {on oc : Nat} (b g : Nat) (i0 i1 : Int) (G : List Int) (F : List Nat) (w : World) (h : Mk 94 w b g i0 i1 G F oa on oc) (hb : b ≤ w.heap.size) (h0 : 0 ≤ i0 ∧ i0 ≤ 1000) (h1 : 0 ≤ i1 ∧ i1 ≤ 1000) (hl : G.length ≤ 30000) :
    Calls Tryz.prog 143 #[.pointer (some ⟨g, 0, none⟩), .int .i64 kd, .int .i64 ka, .int .i64 kb] w fun e w' => e = .returned (.int .i64 (gW (i0 + i1) G)) ∧ ∃ F', Mk 94 w' b g i0 i1 (gt G kd ka kb) F' oa on oc ∧ Stp F w F' w' := by
  obtain ⟨a, n, c, hB, ho, hg, hbg, rfl⟩ := h
  have hn := ho.len
  have HW : Hid (gW (i0 + i1) G = i0 + i1 + (n : Int)) := Lib.hid (by unfold gW; rw [hn, Nat.mul_div_cancel _ (by decide)])
  rw [HW.out]
  have hcap := ho.cap
  have x2 : w.cell? ⟨g, 2, none⟩ = some (.slice a n c) := hB.cell 2
  have hgl := hB.lt
  go_enter Tryz.func143, Tryz.ntmps143
  go_wp2_with (at_builtin; refine wpList_appG _ rfl _ _ rfl b a n c G rfl (ho.alloc _) (some ⟨w.heap.size, 0, none⟩) 1 kd ka kb rfl (RowC.gate w kd ka kb _) (by omega) (by simp; omega) ?_)
  intro a5 c5 w3 o5 g5 m5
  have V1 : Below w.heap.size w (w.alloc (.cells #[.int .i64 kd, .int .i64 ka, .int .i64 kb] 98)) := (Below.refl _ _).alloc (Nat.le_refl _) _
  have G3 : Only (foot a c) (w.alloc (.cells #[.int .i64 kd, .int .i64 ka, .int .i64 kb] 98)) w3 := Only.of_grown g5
  have B3 := (hB.below V1).only G3 hg
  have x0 : w3.cell? ⟨g, 0, none⟩ = some (.int .i64 i0) := B3.cell 0
  have x1 : w3.cell? ⟨g, 1, none⟩ = some (.int .i64 i1) := B3.cell 1
  replace x2 : w3.cell? ⟨g, 2, none⟩ = some (.slice a n c) := B3.cell 2
  have x3 : w3.cell? ⟨g, 3, none⟩ = some (.slice oa on oc) := B3.cell 3
  have y2 : w3.frozen? ⟨g, 2, none⟩ = false := B3.frozen 2
  have hs3 : w.heap.size ≤ w3.heap.size := Nat.le_trans V1.size G3.size
  have hg5 : g ∉ foot a5 c5 := by
    intro hm
    have hd : Disj (foot a5 c5) [g] := m5.disj (fun k hk hk' => hg (by simp at hk'; subst hk'; exact hk)) (fun k hk => by simp at hk; subst hk; simp; omega)
    exact hd g hm (by simp)
  have B4 : Blk (w3.setCell ⟨g, 2, none⟩ (.slice a5 (n + 1) c5)) g 94 #[.int .i64 i0, .int .i64 i1, .slice a5 (n + 1) c5, .slice oa on oc] := B3.set_ 2 _
  have O4 : Only [g] w3 (w3.setCell ⟨g, 2, none⟩ (.slice a5 (n + 1) c5)) := (Only.refl _ _).setCell _ _ (by simp)
  have o4 := o5.only O4 (fun k hk hk' => hg5 (by simp at hk'; subst hk'; exact hk))
  have S4 : Stp (g :: foot a c) w (g :: foot a5 c5) (w3.setCell ⟨g, 2, none⟩ (.slice a5 (n + 1) c5)) := ⟨((Only.of_below V1).trans (G3.more (fun k hk => by simp [hk]))).trans (O4.more (fun k hk => by simp at hk; simp [hk])), fun k hk => by
    rcases List.mem_cons.1 hk with rfl | hk
    · exact .inl (by simp)
    · rcases m5 with ⟨rfl, rfl⟩ | m5
      · exact .inl (by simp [hk])
      · obtain ⟨x, hx, hc, rfl⟩ := mem_foot hk
        have := m5 x hc hx
        exact .inr (by simp at this; omega)⟩
  clear o5 G3 V1 m5 g5 hB ho O4 B3
  go_wp2_with fail
  clear x0 x1 x2 x3 y2
  generalize (w3.setCell ⟨g, 2, none⟩ (.slice a5 (n + 1) c5)) = w4 at *
  refine (wires_any _ _ _ _ _ _ _ _ _ (by omega) (by omega) (by omega)).mono ?_; rintro e w5 ⟨rfl, u5⟩
  go_wp2
  go_ret
  refine ⟨ret_int (by omega), _, ⟨a5, n + 1, c5, B4.below u5, o4.below u5, hg5, hbg, rfl⟩, S4.below u5⟩
set_option maxHeartbeats 4000000 in
theorem xor_any (ka : Int) (kb : Int) {oa : Option Addr} {on oc : Nat} (b g : Nat) (i0 i1 : Int) (G : List Int) (F : List Nat) (w : World) (h : Mk 94 w b g i0 i1 G F oa on oc) (hb : b ≤ w.heap.size) (h0 : 0 ≤ i0 ∧ i0 ≤ 1000) (h1 : 0 ≤ i1 ∧ i1 ≤ 1000) (hl : G.length ≤ 30000) :
    Calls Tryz.prog 127 #[.pointer (some ⟨g, 0, none⟩), .int .i64 ka, .int .i64 kb] w fun e w' => e = .returned (.int .i64 (gW (i0 + i1) G)) ∧ ∃ F', Mk 94 w' b g i0 i1 (gt G 0 ka kb) F' oa on oc ∧ Stp F w F' w' := by
  go_enter Tryz.func127, Tryz.ntmps127
  go_wp2_with fail
  refine (gate_any 0 ka kb b g i0 i1 G F _ h hb h0 h1 hl).mono ?_; rintro e w1 ⟨rfl, F1, m1, s1⟩
  go_wp2
  go_ret
  exact ⟨rfl, F1, m1, s1⟩
set_option maxHeartbeats 4000000 in
theorem and_any (ka : Int) (kb : Int) {oa : Option Addr} {on oc : Nat} (b g : Nat) (i0 i1 : Int) (G : List Int) (F : List Nat) (w : World) (h : Mk 94 w b g i0 i1 G F oa on oc) (hb : b ≤ w.heap.size) (h0 : 0 ≤ i0 ∧ i0 ≤ 1000) (h1 : 0 ≤ i1 ∧ i1 ≤ 1000) (hl : G.length ≤ 30000) :
    Calls Tryz.prog 128 #[.pointer (some ⟨g, 0, none⟩), .int .i64 ka, .int .i64 kb] w fun e w' => e = .returned (.int .i64 (gW (i0 + i1) G)) ∧ ∃ F', Mk 94 w' b g i0 i1 (gt G 1 ka kb) F' oa on oc ∧ Stp F w F' w' := by
  go_enter Tryz.func128, Tryz.ntmps128
  go_wp2_with fail
  refine (gate_any 1 ka kb b g i0 i1 G F _ h hb h0 h1 hl).mono ?_; rintro e w1 ⟨rfl, F1, m1, s1⟩
  go_wp2
  go_ret
  exact ⟨rfl, F1, m1, s1⟩
set_option maxHeartbeats 4000000 in
theorem not_any (ka : Int) {oa : Option Addr} {on oc : Nat} (b g : Nat) (i0 i1 : Int) (G : List Int) (F : List Nat) (w : World) (h : Mk 94 w b g i0 i1 G F oa on oc) (hb : b ≤ w.heap.size) (h0 : 0 ≤ i0 ∧ i0 ≤ 1000) (h1 : 0 ≤ i1 ∧ i1 ≤ 1000) (hl : G.length ≤ 30000) :
    Calls Tryz.prog 129 #[.pointer (some ⟨g, 0, none⟩), .int .i64 ka] w fun e w' => e = .returned (.int .i64 (gW (i0 + i1) G)) ∧ ∃ F', Mk 94 w' b g i0 i1 (gt G 2 ka 0) F' oa on oc ∧ Stp F w F' w' := by
  go_enter Tryz.func129, Tryz.ntmps129
  go_wp2_with fail
  refine (gate_any 2 ka 0 b g i0 i1 G F _ h hb h0 h1 hl).mono ?_; rintro e w1 ⟨rfl, F1, m1, s1⟩
  go_wp2
  go_ret
  exact ⟨rfl, F1, m1, s1⟩
set_option maxHeartbeats 4000000 in
theorem zero_any {oa : Option Addr} {on oc : Nat} (b g : Nat) (i0 i1 : Int) (G : List Int) (F : List Nat) (w : World) (h : Mk 94 w b g i0 i1 G F oa on oc) (hb : b ≤ w.heap.size) (h0 : 0 ≤ i0 ∧ i0 ≤ 1000) (h1 : 0 ≤ i1 ∧ i1 ≤ 1000) (hl : G.length ≤ 29000) :
    Calls Tryz.prog 130 #[.pointer (some ⟨g, 0, none⟩)] w fun e w' => e = .returned (.int .i64 (gW (i0 + i1) (gt G 3 0 0))) ∧ ∃ F', Mk 94 w' b g i0 i1 (gt (gt G 3 0 0) 2 (gW (i0 + i1) G) 0) F' oa on oc ∧ Stp F w F' w' := by
  go_enter Tryz.func130, Tryz.ntmps130
  go_wp2_with fail
  refine (gate_any 3 0 0 b g i0 i1 G F _ h hb h0 h1 (by omega)).mono ?_; rintro e w1 ⟨rfl, F1, m1, s1⟩
  go_wp2_with fail
  refine (not_any _ b g i0 i1 _ F1 _ m1 (Nat.le_trans hb s1.size) h0 h1 (by rw [gt_len]; omega)).mono ?_; rintro e w2 ⟨rfl, F2, m2, s2⟩
  go_wp2
  go_ret
  exact ⟨rfl, F2, m2, s1.trans s2⟩
set_option maxHeartbeats 4000000 in
set_option maxRecDepth 100000 in
theorem sgate_any (kd ka kb : Int) {oa : Option Addr} {on oc : Nat} (b g : Nat) (i0 i1 : Int) (G : List Int) (F : List Nat) (w : World) (h : Mk 110 w b g i0 i1 G F oa on oc) (hb : b ≤ w.heap.size) (h0 : 0 ≤ i0 ∧ i0 ≤ 1000) (h1 : 0 ≤ i1 ∧ i1 ≤ 1000) (hl : G.length ≤ 30000) :
    Calls Tryz.prog 144 #[.pointer (some ⟨g, 0, none⟩), .int .i64 kd, .int .i64 ka, .int .i64 kb] w fun e w' => e = .returned (.int .i64 (gW (i0 + i1) G)) ∧ ∃ F', Mk 110 w' b g i0 i1 (gt G kd ka kb) F' oa on oc ∧ Stp F w F' w' := by
  obtain ⟨a, n, c, hB, ho, hg, hbg, rfl⟩ := h
  have hn := ho.len
  have HW : Hid (gW (i0 + i1) G = i0 + i1 + (n : Int)) := Lib.hid (by unfold gW; rw [hn, Nat.mul_div_cancel _ (by decide)])
  rw [HW.out]
  have hcap := ho.cap
  have x2 : w.cell? ⟨g, 2, none⟩ = some (.slice a n c) := hB.cell 2
  have hgl := hB.lt
  go_enter Tryz.func144, Tryz.ntmps144
  go_wp2_with (at_builtin; refine wpList_appG _ rfl _ _ rfl b a n c G rfl (ho.alloc _) (some ⟨w.heap.size, 0, none⟩) 1 kd ka kb rfl (RowC.gate w kd ka kb _) (by omega) (by simp; omega) ?_)
  intro a5 c5 w3 o5 g5 m5
  have V1 : Below w.heap.size w (w.alloc (.cells #[.int .i64 kd, .int .i64 ka, .int .i64 kb] 98)) := (Below.refl _ _).alloc (Nat.le_refl _) _
  have G3 : Only (foot a c) (w.alloc (.cells #[.int .i64 kd, .int .i64 ka, .int .i64 kb] 98)) w3 := Only.of_grown g5
  have B3 := (hB.below V1).only G3 hg
  have x0 : w3.cell? ⟨g, 0, none⟩ = some (.int .i64 i0) := B3.cell 0
  have x1 : w3.cell? ⟨g, 1, none⟩ = some (.int .i64 i1) := B3.cell 1
  replace x2 : w3.cell? ⟨g, 2, none⟩ = some (.slice a n c) := B3.cell 2
  have x3 : w3.cell? ⟨g, 3, none⟩ = some (.slice oa on oc) := B3.cell 3
  have y2 : w3.frozen? ⟨g, 2, none⟩ = false := B3.frozen 2
  have hs3 : w.heap.size ≤ w3.heap.size := Nat.le_trans V1.size G3.size
  have hg5 : g ∉ foot a5 c5 := by
    intro hm
    have hd : Disj (foot a5 c5) [g] := m5.disj (fun k hk hk' => hg (by simp at hk'; subst hk'; exact hk)) (fun k hk => by simp at hk; subst hk; simp; omega)
    exact hd g hm (by simp)
  have B4 : Blk (w3.setCell ⟨g, 2, none⟩ (.slice a5 (n + 1) c5)) g 110 #[.int .i64 i0, .int .i64 i1, .slice a5 (n + 1) c5, .slice oa on oc] := B3.set_ 2 _
  have O4 : Only [g] w3 (w3.setCell ⟨g, 2, none⟩ (.slice a5 (n + 1) c5)) := (Only.refl _ _).setCell _ _ (by simp)
  have o4 := o5.only O4 (fun k hk hk' => hg5 (by simp at hk'; subst hk'; exact hk))
  have S4 : Stp (g :: foot a c) w (g :: foot a5 c5) (w3.setCell ⟨g, 2, none⟩ (.slice a5 (n + 1) c5)) := ⟨((Only.of_below V1).trans (G3.more (fun k hk => by simp [hk]))).trans (O4.more (fun k hk => by simp at hk; simp [hk])), fun k hk => by
    rcases List.mem_cons.1 hk with rfl | hk
    · exact .inl (by simp)
    · rcases m5 with ⟨rfl, rfl⟩ | m5
      · exact .inl (by simp [hk])
      · obtain ⟨x, hx, hc, rfl⟩ := mem_foot hk
        have := m5 x hc hx
        exact .inr (by simp at this; omega)⟩
  clear o5 G3 V1 m5 g5 hB ho O4 B3
  go_wp2_with fail
  clear x0 x1 x2 x3 y2
  generalize (w3.setCell ⟨g, 2, none⟩ (.slice a5 (n + 1) c5)) = w4 at *
  refine (ciWires_any _ _ _ _ _ _ _ _ _ (by omega) (by omega) (by omega)).mono ?_; rintro e w5 ⟨rfl, u5⟩
  go_wp2
  go_ret
  refine ⟨ret_int (by omega), _, ⟨a5, n + 1, c5, B4.below u5, o4.below u5, hg5, hbg, rfl⟩, S4.below u5⟩
set_option maxHeartbeats 4000000 in
theorem sxor_any (ka : Int) (kb : Int) {oa : Option Addr} {on oc : Nat} (b g : Nat) (i0 i1 : Int) (G : List Int) (F : List Nat) (w : World) (h : Mk 110 w b g i0 i1 G F oa on oc) (hb : b ≤ w.heap.size) (h0 : 0 ≤ i0 ∧ i0 ≤ 1000) (h1 : 0 ≤ i1 ∧ i1 ≤ 1000) (hl : G.length ≤ 30000) :
    Calls Tryz.prog 132 #[.pointer (some ⟨g, 0, none⟩), .int .i64 ka, .int .i64 kb] w fun e w' => e = .returned (.int .i64 (gW (i0 + i1) G)) ∧ ∃ F', Mk 110 w' b g i0 i1 (gt G 0 ka kb) F' oa on oc ∧ Stp F w F' w' := by
  go_enter Tryz.func132, Tryz.ntmps132
  go_wp2_with fail
  refine (sgate_any 0 ka kb b g i0 i1 G F _ h hb h0 h1 hl).mono ?_; rintro e w1 ⟨rfl, F1, m1, s1⟩
  go_wp2
  go_ret
  exact ⟨rfl, F1, m1, s1⟩
set_option maxHeartbeats 4000000 in
theorem sand_any (ka : Int) (kb : Int) {oa : Option Addr} {on oc : Nat} (b g : Nat) (i0 i1 : Int) (G : List Int) (F : List Nat) (w : World) (h : Mk 110 w b g i0 i1 G F oa on oc) (hb : b ≤ w.heap.size) (h0 : 0 ≤ i0 ∧ i0 ≤ 1000) (h1 : 0 ≤ i1 ∧ i1 ≤ 1000) (hl : G.length ≤ 30000) :
    Calls Tryz.prog 133 #[.pointer (some ⟨g, 0, none⟩), .int .i64 ka, .int .i64 kb] w fun e w' => e = .returned (.int .i64 (gW (i0 + i1) G)) ∧ ∃ F', Mk 110 w' b g i0 i1 (gt G 1 ka kb) F' oa on oc ∧ Stp F w F' w' := by
  go_enter Tryz.func133, Tryz.ntmps133
  go_wp2_with fail
  refine (sgate_any 1 ka kb b g i0 i1 G F _ h hb h0 h1 hl).mono ?_; rintro e w1 ⟨rfl, F1, m1, s1⟩
  go_wp2
  go_ret
  exact ⟨rfl, F1, m1, s1⟩
set_option maxHeartbeats 4000000 in
theorem snot_any (ka : Int) {oa : Option Addr} {on oc : Nat} (b g : Nat) (i0 i1 : Int) (G : List Int) (F : List Nat) (w : World) (h : Mk 110 w b g i0 i1 G F oa on oc) (hb : b ≤ w.heap.size) (h0 : 0 ≤ i0 ∧ i0 ≤ 1000) (h1 : 0 ≤ i1 ∧ i1 ≤ 1000) (hl : G.length ≤ 30000) :
    Calls Tryz.prog 134 #[.pointer (some ⟨g, 0, none⟩), .int .i64 ka] w fun e w' => e = .returned (.int .i64 (gW (i0 + i1) G)) ∧ ∃ F', Mk 110 w' b g i0 i1 (gt G 2 ka 0) F' oa on oc ∧ Stp F w F' w' := by
  go_enter Tryz.func134, Tryz.ntmps134
  go_wp2_with fail
  refine (sgate_any 2 ka 0 b g i0 i1 G F _ h hb h0 h1 hl).mono ?_; rintro e w1 ⟨rfl, F1, m1, s1⟩
  go_wp2
  go_ret
  exact ⟨rfl, F1, m1, s1⟩
set_option maxHeartbeats 4000000 in
theorem sone_any {oa : Option Addr} {on oc : Nat} (b g : Nat) (i0 i1 : Int) (G : List Int) (F : List Nat) (w : World) (h : Mk 110 w b g i0 i1 G F oa on oc) (hb : b ≤ w.heap.size) (h0 : 0 ≤ i0 ∧ i0 ≤ 1000) (h1 : 0 ≤ i1 ∧ i1 ≤ 1000) (hl : G.length ≤ 30000) :
    Calls Tryz.prog 135 #[.pointer (some ⟨g, 0, none⟩)] w fun e w' => e = .returned (.int .i64 (gW (i0 + i1) G)) ∧ ∃ F', Mk 110 w' b g i0 i1 (gt G 3 0 0) F' oa on oc ∧ Stp F w F' w' := by
  go_enter Tryz.func135, Tryz.ntmps135
  go_wp2_with fail
  refine (sgate_any 3 0 0 b g i0 i1 G F _ h hb h0 h1 hl).mono ?_; rintro e w1 ⟨rfl, F1, m1, s1⟩
  go_wp2
  go_ret
  exact ⟨rfl, F1, m1, s1⟩
end Go.Proofs.YtchmakepglaijaaGreat
namespace Go.Proofs.YtchmakepglaijaaGreat
open Go.RowKit
theorem bits_and_i64_nat (a b : Nat) (ha : a < 9223372036854775808) (hb : b < 9223372036854775808) : bits BinOp.and IntKind.i64 (a : Int) (b : Int) = ((a &&& b : Nat) : Int) := by
  have hx : a &&& b < 2 ^ 63 := Nat.and_lt_two_pow _ (by omega)
  have h1 : (BitVec.ofInt 64 (a : Int)).toNat = a := by
    rw [BitVec.ofInt_natCast, BitVec.toNat_ofNat]; exact Nat.mod_eq_of_lt (by omega)
  have h2 : (BitVec.ofInt 64 (b : Int)).toNat = b := by
    rw [BitVec.ofInt_natCast, BitVec.toNat_ofNat]; exact Nat.mod_eq_of_lt (by omega)
  show IntKind.i64.wrap ((BitVec.ofInt 64 (a : Int) &&& BitVec.ofInt 64 (b : Int)).toNat : Int) = _
  rw [BitVec.toNat_and, h1, h2]
  exact IntWalk.i64_in _ (by omega)
theorem and_one_i64 (x : Int) (h : 0 ≤ x) (h1 : x ≤ 9223372036854775807) : bits BinOp.and IntKind.i64 x 1 = x % 2 := by
  have e := bits_and_i64_nat x.toNat 1 (by omega) (by omega)
  rw [Nat.and_one_is_mod, Int.toNat_of_nonneg h] at e
  exact e.trans (by omega)
theorem shr_rng (x : Int) (k : Nat) (h : 0 ≤ x) (h1 : x ≤ 1000000000) : 0 ≤ x / 2 ^ k ∧ x / 2 ^ k ≤ 1000000000 := by
  have hp : (0 : Int) < 2 ^ k := Int.pow_pos (by decide)
  exact ⟨Int.ediv_nonneg h (by omega), Int.le_trans (Int.ediv_le_self _ h) h1⟩
theorem shr_next (x : Int) (k : Nat) : x / 2 ^ k / 2 = x / 2 ^ (k + 1) := by rw [Int.ediv_ediv_of_nonneg (Int.le_of_lt (Int.pow_pos (by decide))), Int.pow_succ]
set_option maxHeartbeats 2000000 in
theorem span_any (x : Int) (n : Nat) (w : World) (hx : -1000000 ≤ x ∧ x ≤ 1000000) (hn : n ≤ 1000000) :
    Calls Tryz.prog 90 #[.int .i64 x, .int .i64 n] w fun e w' => ∃ a c, e = .returned (.slice a n c) ∧ Own w' w.heap.size a n c (spL x n) ∧ Below w.heap.size w w' := by
  go_enter Tryz.func90, Tryz.ntmps90
  go_wp2
  have own0 : Own (w.alloc (.cells #[] 3)) w.heap.size (some ⟨w.heap.size, 0, none⟩) 0 0 (spL x 0) := Own.nil0 _ _ _
  have bel0 : Below w.heap.size w (w.alloc (.cells #[] 3)) := (Below.refl _ _).alloc (Nat.le_refl _) _
  go_loopw [5, 9] (fun u v wr => ∃ k : Nat, k ≤ n ∧ v = .int .i64 k ∧ Below w.heap.size w wr ∧ ∃ a1 c1, u = .slice a1 k c1 ∧ Own wr w.heap.size a1 k c1 (spL x k)) (fun _ v _ => n - (intOf v).toNat)
  case atStart => exact ⟨0, by omega, rfl, bel0, _, _, rfl, own0⟩
  case round =>
    obtain ⟨k, hk, rfl, hbel, a1, c1, rfl, own⟩ := hrel
    by_cases hlt : k < n
    · have HS := Lib.hid (spL_succ x k)
      go_wp2_with (at_builtin; refine wpList_appI _ rfl _ _ rfl w.heap.size a1 k c1 (spL x k) rfl (own.alloc _) _ 1 1 [x + (k : Int)] rfl (Ints.lit1 _ _ _) (by omega) (by have := hbel.size; simp; omega) ?_)
      intro a5 c5 w3 o5 u5 _
      have b3 := (hbel.alloc hbel.size (.cells #[.int .i64 (x + (k : Int))] 3)).trans u5
      clear u5 hbel own
      go_wp2
      go_roundw
      case rel => exact ⟨k + 1, by omega, by go_num, b3, a5, c5, rfl, by rw [HS.out]; exact o5⟩
      case measure => simp [intOf]; omega
    · obtain rfl : k = n := by omega
      go_wp2
      go_ret
      exact ⟨a1, c1, rfl, own, hbel⟩
set_option maxHeartbeats 2000000 in
theorem gdRange_any (x : Int) (n : Nat) (w : World) (hx : -1000000 ≤ x ∧ x ≤ 1000000) (hn : n ≤ 1000000) :
    Calls Tryz.prog 101 #[.int .i64 x, .int .i64 n] w fun e w' => ∃ a c, e = .returned (.slice a n c) ∧ Own w' w.heap.size a n c (spL x n) ∧ Below w.heap.size w w' := by
  go_enter Tryz.func101, Tryz.ntmps101
  go_wp2
  have own0 : Own w w.heap.size none 0 0 (spL x 0) := Own.nil0 _ _ _
  have bel0 : Below w.heap.size w w := Below.refl _ _
  go_loopw [5, 6] (fun u v wr => ∃ k : Nat, k ≤ n ∧ v = .int .i64 k ∧ Below w.heap.size w wr ∧ ∃ a1 c1, u = .slice a1 k c1 ∧ Own wr w.heap.size a1 k c1 (spL x k)) (fun _ v _ => n - (intOf v).toNat)
  case atStart => exact ⟨0, by omega, rfl, bel0, _, _, rfl, own0⟩
  case round =>
    obtain ⟨k, hk, rfl, hbel, a1, c1, rfl, own⟩ := hrel
    by_cases hlt : k < n
    · have HS := Lib.hid (spL_succ x k)
      go_wp2_with (at_builtin; refine wpList_appI _ rfl _ _ rfl w.heap.size a1 k c1 (spL x k) rfl (own.alloc _) _ 1 1 [x + (k : Int)] rfl (Ints.lit1 _ _ _) (by omega) (by have := hbel.size; simp; omega) ?_)
      intro a5 c5 w3 o5 u5 _
      have b3 := (hbel.alloc hbel.size (.cells #[.int .i64 (x + (k : Int))] 3)).trans u5
      clear u5 hbel own
      go_wp2
      go_roundw
      case rel => exact ⟨k + 1, by omega, by go_num, b3, a5, c5, rfl, by rw [HS.out]; exact o5⟩
      case measure => simp [intOf]; omega
    · obtain rfl : k = n := by omega
      go_wp2
      go_ret
      exact ⟨a1, c1, rfl, own, hbel⟩
set_option maxHeartbeats 2000000 in
theorem bitsOf_any (x : Int) (n : Nat) (w : World) (hx : 0 ≤ x ∧ x ≤ 1000000000) (hn : n ≤ 60) :
    Calls Tryz.prog 51 #[.int .i64 x, .int .i64 n] w fun e w' => ∃ a c, e = .returned (.slice a n c) ∧ Own w' w.heap.size a n c (btL x n) ∧ Below w.heap.size w w' := by
  go_enter Tryz.func51, Tryz.ntmps51
  go_wp2
  have own0 : Own (w.alloc (.cells #[] 3)) w.heap.size (some ⟨w.heap.size, 0, none⟩) 0 0 (btL x 0) := Own.nil0 _ _ _
  have bel0 : Below w.heap.size w (w.alloc (.cells #[] 3)) := (Below.refl _ _).alloc (Nat.le_refl _) _
  go_loopw [5, 9] (fun u v wr => ∃ k : Nat, k ≤ n ∧ v = .int .i64 k ∧ Below w.heap.size w wr ∧ ∃ a1 c1, u = .slice a1 k c1 ∧ Own wr w.heap.size a1 k c1 (btL x k)) (fun _ v _ => n - (intOf v).toNat)
  case atStart => exact ⟨0, by omega, rfl, bel0, _, _, rfl, own0⟩
  case round =>
    obtain ⟨k, hk, rfl, hbel, a1, c1, rfl, own⟩ := hrel
    by_cases hlt : k < n
    · have HS := Lib.hid (btL_succ x k)
      have t2 : IntKind.u64.wrap (k : Int) = (k : Int) := IntWalk.u64_in _ (by omega)
      have hk64 : (k : Int) < 64 := by omega
      obtain ⟨r0, r1⟩ := shr_rng x k (by omega) (by omega)
      obtain ⟨X, hX⟩ : ∃ X, X = x / 2 ^ k := ⟨_, rfl⟩
      have t3 : bits BinOp.and IntKind.i64 (x / 2 ^ k) 1 = X % 2 := by rw [hX]; exact and_one_i64 _ (by omega) (by omega)
      rw [← hX] at HS r0 r1
      clear hX
      go_wp2_with (at_builtin; refine wpList_appI _ rfl _ _ rfl w.heap.size a1 k c1 (btL x k) rfl (own.alloc _) _ 1 1 [X % 2] rfl (Ints.lit1 _ _ _) (by omega) (by have := hbel.size; simp; omega) ?_)
      intro a5 c5 w3 o5 u5 _
      have b3 := (hbel.alloc hbel.size (.cells #[.int .i64 (X % 2)] 3)).trans u5
      clear u5 hbel own
      go_wp2
      go_roundw
      case rel => exact ⟨k + 1, by omega, by go_num, b3, a5, c5, rfl, by rw [HS.out]; exact o5⟩
      case measure => simp [intOf]; omega
    · obtain rfl : k = n := by omega
      go_wp2
      go_ret
      exact ⟨a1, c1, rfl, own, hbel⟩
set_option maxHeartbeats 2000000 in
theorem btOf_any (x : Int) (n : Nat) (w : World) (hx : 0 ≤ x ∧ x ≤ 1000000000) (hn : n ≤ 60) :
    Calls Tryz.prog 57 #[.int .i64 x, .int .i64 n] w fun e w' => ∃ a c, e = .returned (.slice a n c) ∧ Own w' w.heap.size a n c (btL x n) ∧ Below w.heap.size w w' := by
  go_enter Tryz.func57, Tryz.ntmps57
  go_wp2
  have own0 : Own w w.heap.size none 0 0 (btL x 0) := Own.nil0 _ _ _
  have bel0 : Below w.heap.size w w := Below.refl _ _
  have hx0 : x / 2 ^ 0 = x := by simp
  go_loopw [5, 1, 0] (fun u v y wr => ∃ k : Nat, k ≤ n ∧ v = .int .i64 ((n - k : Nat) : Int) ∧ y = .int .i64 (x / 2 ^ k) ∧ Below w.heap.size w wr ∧ ∃ a1 c1, u = .slice a1 k c1 ∧ Own wr w.heap.size a1 k c1 (btL x k)) (fun _ v _ _ => (intOf v).toNat)
  case atStart => exact ⟨0, by omega, rfl, by rw [hx0], bel0, _, _, rfl, own0⟩
  case round =>
    obtain ⟨k, hk, rfl, rfl, hbel, a1, c1, rfl, own⟩ := hrel
    clear hx0 own0 bel0
    obtain ⟨r0, r1⟩ := shr_rng x k (by omega) (by omega)
    by_cases hlt : k < n
    · have HS := Lib.hid (btL_succ x k)
      have HN := Lib.hid (shr_next x k)
      obtain ⟨m, hm⟩ : ∃ m, n - k = m + 1 := ⟨n - k - 1, by omega⟩
      have HM := Lib.hid (show n - (k + 1) = m by omega)
      rw [hm]
      have hm60 : m ≤ 60 := by omega
      generalize x / 2 ^ k = X at *
      have t4 : X.tmod 2 = X % 2 := Int.tmod_eq_emod_of_nonneg r0
      have t5 : X.tdiv 2 = X / 2 := Int.tdiv_eq_ediv_of_nonneg r0
      clear hm
      go_wp2_with (at_builtin; refine wpList_appI _ rfl _ _ rfl w.heap.size a1 k c1 (btL x k) rfl (own.alloc _) _ 1 1 [X % 2] rfl (Ints.lit1 _ _ _) (by omega) (by have := hbel.size; simp; omega) ?_)
      intro a5 c5 w3 o5 u5 _
      have b3 := (hbel.alloc hbel.size (.cells #[.int .i64 (X % 2)] 3)).trans u5
      clear u5 hbel own
      go_wp2
      go_roundw
      case rel => exact ⟨k + 1, by omega, by rw [HM.out], v_int HN.out, b3, a5, c5, rfl, by rw [HS.out]; exact o5⟩
      case measure => simp [intOf]
    · obtain rfl : k = n := by omega
      rw [Nat.sub_self]
      go_wp2
      go_ret
      exact ⟨a1, c1, rfl, own, hbel⟩
end Go.Proofs.YtchmakepglaijaaGreat
namespace Go.Proofs.YtchmakepglaijaaGreat
open Go.RowKit
set_option maxHeartbeats 4000000 in
theorem ciNew_any (_i0 _i1 : Int) (b : Nat) (w : World) (hb : b ≤ w.heap.size) :
    Calls Tryz.prog 99 #[.int .i64 _i0, .int .i64 _i1] w fun e w' => e = .returned (.pointer (some ⟨w.heap.size, 0, none⟩)) ∧ Mk 110 w' b w.heap.size _i0 _i1 [] [w.heap.size] ∧ Below w.heap.size w w' ∧ w.heap.size + 1 ≤ w'.heap.size := by
  go_enter Tryz.func99, Tryz.ntmps99
  go_wp2
  go_ret
  exact ⟨rfl, Mk.new _ w b _i0 _i1 hb, (Below.refl _ _).alloc (Nat.le_refl _) _, by simp⟩
end Go.Proofs.YtchmakepglaijaaGreat
namespace Go.Proofs.YtchmakepglaijaaGreat
theorem gapp (l l' : List Int) (k : Nat) (h : k < l.length) : (l ++ l').getD k 0 = l.getD k 0 := by simp [List.getD, List.getElem?_append_left h]
theorem gappR (l l' : List Int) (k : Nat) (h : l.length ≤ k) : (l ++ l').getD k 0 = l'.getD (k - l.length) 0 := by simp [List.getD, List.getElem?_append_right h]
end Go.Proofs.YtchmakepglaijaaGreat
