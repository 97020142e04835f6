/- The plain model of makers of circuits: gates as numbers, three a gate; each function as the reference and the program both make it. -/
import Derived.Test.YtkbhigdciokfkaaWidth
namespace Go.Proofs.Ytkbhigdciokfkaa
open Go.RowKit

/-- The wire of the next gate; B: the number of inputs. -/
def gW (B : Int) (G : List Int) : Int := B + ((G.length / 3 : Nat) : Int)
/-- A gate more. -/
def gt (G : List Int) (k a b : Int) : List Int := G ++ [k, a, b]
theorem gt_len (G : List Int) (k a b : Int) : (gt G k a b).length = G.length + 3 := by simp [gt]
/-- The choice of x or y by s: k places. -/
def chS (B s u v : Int) (r : List Int × List Int) : List Int × List Int :=
  (gt (gt (gt r.1 0 u v) 1 s (gW B r.1)) 0 (gW B (gt r.1 0 u v)) v, r.2 ++ [gW B (gt (gt r.1 0 u v) 1 s (gW B r.1))])
def chG (B s : Int) (x y G : List Int) : Nat → List Int × List Int
  | 0 => (G, [])
  | k + 1 => chS B s (x.getD k 0) (y.getD k 0) (chG B s x y G k)
theorem chG_succ (B s : Int) (x y G : List Int) (k : Nat) : chG B s x y G (k + 1) = chS B s (x.getD k 0) (y.getD k 0) (chG B s x y G k) := rfl
theorem chG_len (B s : Int) (x y G : List Int) (k : Nat) : (chG B s x y G k).1.length = G.length + 9 * k ∧ (chG B s x y G k).2.length = k := by
  induction k with
  | zero => simp [chG]
  | succ k ih => simp only [chG, chS, gt_len, List.length_append, List.length_cons, List.length_nil]; omega
theorem getD_take (l : List Int) (n k : Nat) (h : k < n) : (l.take n).getD k 0 = l.getD k 0 := by simp [List.getD_eq_getElem?_getD, h]
theorem chG_take (B s : Int) (x y G : List Int) (n k : Nat) (h : k ≤ n) : chG B s (x.take n) (y.take n) G k = chG B s x y G k := by
  induction k with
  | zero => rfl
  | succ k ih => rw [chG_succ, chG_succ, ih (by omega), getD_take _ _ _ (by omega), getD_take _ _ _ (by omega)]
theorem chG_app (B s : Int) (x y l G : List Int) (n : Nat) (h : n ≤ y.length) : chG B s x (y ++ l) G n = chG B s x y G n := by
  rw [← chG_take B s x (y ++ l) G n n (Nat.le_refl _), List.take_append_of_le_length h, chG_take _ _ _ _ _ _ _ (Nat.le_refl _)]
/-- A sum: k places, and the carry. -/
def adS (B u v : Int) (first : Bool) (r : List Int × List Int × Int) : List Int × List Int × Int :=
  if first then (gt (gt r.1 0 u v) 1 u v, r.2.1 ++ [gW B r.1], gW B (gt r.1 0 u v))
  else (gt (gt (gt (gt (gt r.1 0 u r.2.2) 0 v r.2.2) 0 (gW B r.1) v) 1 (gW B r.1) (gW B (gt r.1 0 u r.2.2))) 0 (gW B (gt (gt (gt r.1 0 u r.2.2) 0 v r.2.2) 0 (gW B r.1) v)) r.2.2,
    r.2.1 ++ [gW B (gt (gt r.1 0 u r.2.2) 0 v r.2.2)],
    gW B (gt (gt (gt (gt r.1 0 u r.2.2) 0 v r.2.2) 0 (gW B r.1) v) 1 (gW B r.1) (gW B (gt r.1 0 u r.2.2))))
def adG (B : Int) (a b G : List Int) : Nat → List Int × List Int × Int
  | 0 => (G, [], -1)
  | k + 1 => adS B (a.getD k 0) (b.getD k 0) (k == 0) (adG B a b G k)
/-- A difference: k places, and the borrow. -/
def suS (B u v : Int) (first : Bool) (r : List Int × List Int × Int) : List Int × List Int × Int :=
  if first then (gt (gt (gt r.1 0 u v) 2 u 0) 1 (gW B (gt r.1 0 u v)) v, r.2.1 ++ [gW B r.1], gW B (gt (gt r.1 0 u v) 2 u 0))
  else (gt (gt (gt (gt (gt (gt r.1 0 u r.2.2) 0 v r.2.2) 0 (gW B r.1) v) 2 (gW B r.1) 0) 1 (gW B (gt (gt (gt r.1 0 u r.2.2) 0 v r.2.2) 0 (gW B r.1) v)) (gW B (gt r.1 0 u r.2.2))) 0 (gW B (gt (gt (gt (gt r.1 0 u r.2.2) 0 v r.2.2) 0 (gW B r.1) v) 2 (gW B r.1) 0)) r.2.2,
    r.2.1 ++ [gW B (gt (gt r.1 0 u r.2.2) 0 v r.2.2)],
    gW B (gt (gt (gt (gt (gt r.1 0 u r.2.2) 0 v r.2.2) 0 (gW B r.1) v) 2 (gW B r.1) 0) 1 (gW B (gt (gt (gt r.1 0 u r.2.2) 0 v r.2.2) 0 (gW B r.1) v)) (gW B (gt r.1 0 u r.2.2))))
def suG (B : Int) (a b G : List Int) : Nat → List Int × List Int × Int
  | 0 => (G, [], -1)
  | k + 1 => suS B (a.getD k 0) (b.getD k 0) (k == 0) (suG B a b G k)
theorem adS_len (B u v : Int) (f : Bool) (r : List Int × List Int × Int) : (adS B u v f r).1.length ≤ r.1.length + 18 ∧ (adS B u v f r).2.1.length = r.2.1.length + 1 := by
  unfold adS; cases f <;> simp [gt_len]
theorem suS_len (B u v : Int) (f : Bool) (r : List Int × List Int × Int) : (suS B u v f r).1.length ≤ r.1.length + 18 ∧ (suS B u v f r).2.1.length = r.2.1.length + 1 := by
  unfold suS; cases f <;> simp [gt_len]
theorem adG_len (B : Int) (a b G : List Int) (k : Nat) : (adG B a b G k).1.length ≤ G.length + 18 * k ∧ (adG B a b G k).2.1.length = k := by
  induction k with
  | zero => simp [adG]
  | succ k ih => have := adS_len B (a.getD k 0) (b.getD k 0) (k == 0) (adG B a b G k); simp only [adG]; omega
theorem suG_len (B : Int) (a b G : List Int) (k : Nat) : (suG B a b G k).1.length ≤ G.length + 18 * k ∧ (suG B a b G k).2.1.length = k := by
  induction k with
  | zero => simp [suG]
  | succ k ih => have := suS_len B (a.getD k 0) (b.getD k 0) (k == 0) (suG B a b G k); simp only [suG]; omega
theorem adG_succ (B : Int) (a b G : List Int) (k : Nat) : adG B a b G (k + 1) = adS B (a.getD k 0) (b.getD k 0) (k == 0) (adG B a b G k) := rfl
theorem suG_succ (B : Int) (a b G : List Int) (k : Nat) : suG B a b G (k + 1) = suS B (a.getD k 0) (b.getD k 0) (k == 0) (suG B a b G k) := rfl
theorem gW_gt (B : Int) (G : List Int) (k a b : Int) : gW B (gt G k a b) = gW B G + 1 := by unfold gW; rw [gt_len]; omega
theorem gW_le (B : Int) (G : List Int) : gW B G ≤ B + G.length := by unfold gW; omega
theorem gW_nn {B : Int} {G : List Int} (h : 0 ≤ B) : 0 ≤ gW B G := by unfold gW; omega
theorem adS_nn {B : Int} (h : 0 ≤ B) (u v : Int) (f : Bool) (r : List Int × List Int × Int) : 0 ≤ (adS B u v f r).2.2 := by
  unfold adS; cases f <;> exact gW_nn h
theorem suS_nn {B : Int} (h : 0 ≤ B) (u v : Int) (f : Bool) (r : List Int × List Int × Int) : 0 ≤ (suS B u v f r).2.2 := by
  unfold suS; cases f <;> exact gW_nn h
theorem adG_nn {B : Int} (h : 0 ≤ B) (a b G : List Int) (k : Nat) (hk : 0 < k) : 0 ≤ (adG B a b G k).2.2 := by
  cases k with
  | zero => omega
  | succ k => exact adS_nn h _ _ _ _
theorem suG_nn {B : Int} (h : 0 ≤ B) (a b G : List Int) (k : Nat) (hk : 0 < k) : 0 ≤ (suG B a b G k).2.2 := by
  cases k with
  | zero => omega
  | succ k => exact suS_nn h _ _ _ _
/-- The first bits of a number. -/
def btL (n : Int) (k : Nat) : List Int := (List.range k).map fun i => n / 2 ^ i % 2
theorem btL_succ (n : Int) (k : Nat) : btL n (k + 1) = btL n k ++ [n / 2 ^ k % 2] := by simp [btL, List.range_succ]
theorem btL_len (n : Int) (k : Nat) : (btL n k).length = k := by simp [btL]
theorem btL_rng (n : Int) (k : Nat) : ∀ x ∈ btL n k, 0 ≤ x ∧ x ≤ 1 := by
  intro x hx
  simp only [btL, List.mem_map, List.mem_range] at hx
  obtain ⟨i, _, rfl⟩ := hx
  omega
/-- Numbers one behind the other. -/
def spL (f : Int) (k : Nat) : List Int := (List.range k).map fun (i : Nat) => f + i
theorem spL_succ (f : Int) (k : Nat) : spL f (k + 1) = spL f k ++ [f + k] := by simp [spL, List.range_succ]
theorem spL_len (f : Int) (k : Nat) : (spL f k).length = k := by simp [spL]
theorem spL_at (f : Int) (n k : Nat) (h : k < n) : (spL f n).getD k 0 = f + k := by simp [spL, List.getD, h]
/-- A constant's wires; z: the wire of 0. -/
def coL (z n : Int) (k : Nat) : List Int := (List.range k).map fun i => z - n / 2 ^ i % 2
theorem coL_succ (z n : Int) (k : Nat) : coL z n (k + 1) = coL z n k ++ [z - n / 2 ^ k % 2] := by simp [coL, List.range_succ]
theorem coL_len (z n : Int) (k : Nat) : (coL z n k).length = k := by simp [coL]
/-- The circuit that adds modulo p, with n bits: the sum, the difference, the choice. -/
def re1 (n : Nat) : List Int × List Int × Int := adG ((n : Int) + n) (spL 0 n) (spL n n) [] n
def re3 (n : Nat) (p : Int) (r : List Int × List Int × Int) : List Int × List Int × Int :=
  suG ((n : Int) + n) (r.2.1 ++ [r.2.2]) (coL (gW ((n : Int) + n) (gt r.1 3 0 0)) p (n + 1)) (gt (gt r.1 3 0 0) 2 (gW ((n : Int) + n) r.1) 0) (n + 1)
def re4 (n : Nat) (r q : List Int × List Int × Int) : List Int × List Int := chG ((n : Int) + n) q.2.2 (r.2.1 ++ [r.2.2]) q.2.1 q.1 n
def reG (p : Int) : List Int := (re4 (wid p) (re1 (wid p)) (re3 (wid p) p (re1 (wid p)))).1
def reO (p : Int) : List Int := (re4 (wid p) (re1 (wid p)) (re3 (wid p) p (re1 (wid p)))).2
end Go.Proofs.Ytkbhigdciokfkaa
