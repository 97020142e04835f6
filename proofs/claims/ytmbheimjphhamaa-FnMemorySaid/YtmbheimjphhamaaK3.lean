/- Lemmas and walks that the claim's proof rests on, part 3. -/
import Derived.Test.YtmbheimjphhamaaK2
namespace Go.Proofs.Ytmbheimjphhamaa
open Go.RowKit
/-- All gates are valid. -/
def Gd (B : Int) (G : List Int) : Prop := 0 ≤ B ∧ G.length % 3 = 0 ∧ ∀ k, k < G.length / 3 → gbAt B G k = true
/-- A wire that there is. -/
def Wr (B : Int) (G : List Int) (x : Int) : Prop := 0 ≤ x ∧ x < gW B G
def Ws (B : Int) (G : List Int) (l : List Int) : Prop := ∀ x ∈ l, Wr B G x
/-- The wires that there are stay. -/
def Mo (B : Int) (G G' : List Int) : Prop := gW B G ≤ gW B G'
theorem Mo.wr {B G G' x} (h : Mo B G G') (k : Wr B G x) : Wr B G' x := ⟨k.1, Int.lt_of_lt_of_le k.2 h⟩
theorem Mo.ws {B G G' l} (h : Mo B G G') (k : Ws B G l) : Ws B G' l := fun x hx => h.wr (k x hx)
theorem Mo.refl (B : Int) (G : List Int) : Mo B G G := Int.le_refl _
theorem Mo.trans {B G G1 G2} (h : Mo B G G1) (k : Mo B G1 G2) : Mo B G G2 := Int.le_trans h k
theorem Mo.gt (B : Int) (G : List Int) (k a b : Int) : Mo B G (gt G k a b) := by unfold Mo; rw [gW_gt]; omega
theorem Ws.app {B G l l'} (h : Ws B G l) (k : Ws B G l') : Ws B G (l ++ l') := fun x hx => by
  rcases List.mem_append.1 hx with hx | hx
  · exact h x hx
  · exact k x hx
theorem Ws.one {B G x} (h : Wr B G x) : Ws B G [x] := fun y hy => by rw [List.mem_singleton] at hy; subst hy; exact h
theorem Ws.nil (B : Int) (G : List Int) : Ws B G [] := fun x hx => by cases hx
theorem Ws.at {B G l} (h : Ws B G l) (k : Nat) (hk : k < l.length) : Wr B G (l.getD k 0) := h _ (getD_mem l k hk)
theorem Wr.new {B : Int} {G : List Int} (h : 0 ≤ B) (k a b : Int) : Wr B (gt G k a b) (gW B G) := ⟨gW_nn h, by rw [gW_gt]; omega⟩
theorem Gd.nil {B : Int} (h : 0 ≤ B) : Gd B [] := ⟨h, rfl, fun k hk => absurd hk (by simp)⟩
theorem Gd.gt {B G kd a b} (h : Gd B G) (hg : gbB kd a b (gW B G) = true) : Gd B (gt G kd a b) := by
  obtain ⟨h0, h1, h2⟩ := h
  refine ⟨h0, by rw [gt_len]; omega, fun k hk => ?_⟩
  rw [gt_len] at hk
  by_cases e : k < G.length / 3
  · have := h2 k e
    unfold gbAt at this ⊢
    unfold Proofs.Ytmbheimjphhamaa.gt
    rw [snoc_getD _ _ _ (by omega), snoc_getD _ _ _ (by omega), snoc_getD _ _ _ (by omega)]
    exact this
  · obtain rfl : k = G.length / 3 := by omega
    have e3 : G.length / 3 * 3 = G.length := by omega
    unfold gbAt Proofs.Ytmbheimjphhamaa.gt
    rw [e3]
    have f0 : (G ++ [kd, a, b]).getD G.length 0 = kd := by simp [List.getD]
    have f1 : (G ++ [kd, a, b]).getD (G.length + 1) 0 = a := by simp [List.getD]
    have f2 : (G ++ [kd, a, b]).getD (G.length + 2) 0 = b := by simp [List.getD]
    rw [f0, f1, f2]
    exact hg
theorem gb_xor {B G a b} (h : Wr B G a) (k : Wr B G b) : gbB 0 a b (gW B G) = true := by
  unfold gbB; rw [if_pos (by simp)]; simp only [Bool.and_eq_true]
  exact ⟨inB_yes h.1 (by have := h.2; omega), inB_yes k.1 (by have := k.2; omega)⟩
theorem gb_and {B G a b} (h : Wr B G a) (k : Wr B G b) : gbB 1 a b (gW B G) = true := by
  unfold gbB; rw [if_pos (by simp)]; simp only [Bool.and_eq_true]
  exact ⟨inB_yes h.1 (by have := h.2; omega), inB_yes k.1 (by have := k.2; omega)⟩
theorem gb_not {B G a} (h : Wr B G a) : gbB 2 a 0 (gW B G) = true := by
  unfold gbB; rw [if_neg (by simp), if_pos rfl]; simp only [Bool.and_eq_true]
  exact ⟨inB_yes h.1 (by have := h.2; omega), rfl⟩
theorem gb_one (own : Int) : gbB 3 0 0 own = true := rfl
theorem Gd.xor {B G a b} (h : Gd B G) (ha : Wr B G a) (hb : Wr B G b) : Gd B (Proofs.Ytmbheimjphhamaa.gt G 0 a b) := h.gt (gb_xor ha hb)
theorem Gd.and {B G a b} (h : Gd B G) (ha : Wr B G a) (hb : Wr B G b) : Gd B (Proofs.Ytmbheimjphhamaa.gt G 1 a b) := h.gt (gb_and ha hb)
theorem Gd.not {B G a} (h : Gd B G) (ha : Wr B G a) : Gd B (Proofs.Ytmbheimjphhamaa.gt G 2 a 0) := h.gt (gb_not ha)
theorem Gd.one {B G} (h : Gd B G) : Gd B (Proofs.Ytmbheimjphhamaa.gt G 3 0 0) := h.gt (gb_one _)
/-- What a choice makes. -/
theorem chG_good {B s : Int} {x y G : List Int} (h : Gd B G) (hs : Wr B G s) (hx : Ws B G x) (hy : Ws B G y) (n : Nat) (h1 : n ≤ x.length) (h2 : n ≤ y.length) :
    Gd B (chG B s x y G n).1 ∧ Mo B G (chG B s x y G n).1 ∧ Ws B (chG B s x y G n).1 (chG B s x y G n).2 := by
  induction n with
  | zero => exact ⟨h, Mo.refl _ _, Ws.nil _ _⟩
  | succ n ih =>
    obtain ⟨g, m, r⟩ := ih (by omega) (by omega)
    rw [chG_succ]
    generalize chG B s x y G n = q at *
    have wx := m.wr (hx.at n (by omega))
    have wy := m.wr (hy.at n (by omega))
    have ws := m.wr hs
    generalize x.getD n 0 = u at *
    generalize y.getD n 0 = v at *
    have g1 := g.xor wx wy
    have m1 := Mo.gt B q.1 0 u v
    have n1 := Wr.new (G := q.1) h.1 0 u v
    have g2 := g1.and (m1.wr ws) n1
    have m2 := Mo.gt B (gt q.1 0 u v) 1 s (gW B q.1)
    have n2 := Wr.new (G := gt q.1 0 u v) h.1 1 s (gW B q.1)
    have g3 := g2.xor n2 (m2.wr (m1.wr wy))
    have m3 := Mo.gt B (gt (gt q.1 0 u v) 1 s (gW B q.1)) 0 (gW B (gt q.1 0 u v)) v
    have n3 := Wr.new (G := gt (gt q.1 0 u v) 1 s (gW B q.1)) h.1 0 (gW B (gt q.1 0 u v)) v
    exact ⟨g3, m.trans (m1.trans (m2.trans m3)), ((m1.trans (m2.trans m3)).ws r).app (Ws.one n3)⟩
theorem spL_ws {B f : Int} {G : List Int} (n : Nat) (h0 : 0 ≤ f) (h1 : f + n ≤ B) : Ws B G (spL f n) := fun x hx => by
  simp only [spL, List.mem_map, List.mem_range] at hx
  obtain ⟨i, hi, rfl⟩ := hx
  exact ⟨by omega, by unfold gW; omega⟩
/-- A circuit whose gates and outs are good is valid. -/
theorem ci_good {i0 i1 : Int} {gn : Nat} {G O : List Int} (h0 : 0 ≤ i0 ∧ i0 ≤ 20) (h1 : 0 ≤ i1 ∧ i1 ≤ 20) (hg : Gd (i0 + i1) G) (ho : Ws (i0 + i1) G O) (hn : gn = G.length / 3) (hgn : gn ≤ 300) (hon : O.length ≤ 40) : ciB i0 i1 gn G O = true := by
  unfold ciB
  rw [inB_yes h0.1 h0.2, inB_yes h1.1 h1.2, decide_eq_true hgn, decide_eq_true hon, gbsB_yes (fun k hk => hg.2.2 k (by omega)), (allB_iff _ _ _).2 (fun x hx => ⟨(ho x hx).1, by have := (ho x hx).2; unfold gW at this; omega⟩)]
  rfl
end Go.Proofs.Ytmbheimjphhamaa
namespace Go.Proofs.Ytmbheimjphhamaa
open Go.RowKit
/-- The wires of a match: those of an index, or their opposites. -/
def mnS (B i : Int) (k : Nat) (x : Int) (r : List Int × List Int) : List Int × List Int :=
  if i / 2 ^ k % 2 = 1 then (r.1, r.2 ++ [x]) else (gt r.1 2 x 0, r.2 ++ [gW B r.1])
def mnG (B i : Int) (idx G : List Int) : Nat → List Int × List Int
  | 0 => (G, [])
  | k + 1 => mnS B i k (idx.getD k 0) (mnG B i idx G k)
theorem mnG_succ (B i : Int) (idx G : List Int) (k : Nat) : mnG B i idx G (k + 1) = mnS B i k (idx.getD k 0) (mnG B i idx G k) := rfl
theorem mnG_len (B i : Int) (idx G : List Int) (k : Nat) : (mnG B i idx G k).1.length ≤ G.length + 3 * k ∧ (mnG B i idx G k).2.length = k := by
  induction k with
  | zero => simp [mnG]
  | succ k ih => rw [mnG_succ]; unfold mnS; split <;> simp only [gt_len, List.length_append, List.length_cons, List.length_nil] <;> omega
/-- The conjunction of wires. -/
def anS (B x : Int) (r : List Int × Int) : List Int × Int := (gt r.1 1 r.2 x, gW B r.1)
def anG (B : Int) (l G : List Int) : Nat → List Int × Int
  | 0 => (G, l.getD 0 0)
  | j + 1 => anS B (l.getD (j + 1) 0) (anG B l G j)
theorem anG_succ (B : Int) (l G : List Int) (j : Nat) : anG B l G (j + 1) = anS B (l.getD (j + 1) 0) (anG B l G j) := rfl
theorem anG_len (B : Int) (l G : List Int) (j : Nat) : (anG B l G j).1.length = G.length + 3 * j := by
  induction j with
  | zero => rfl
  | succ j ih => rw [anG_succ]; unfold anS; rw [gt_len]; omega
def maG (B i : Int) (idx G : List Int) : List Int × Int :=
  if idx.length = 0 then (gt G 3 0 0, gW B G) else anG B (mnG B i idx G idx.length).2 (mnG B i idx G idx.length).1 (idx.length - 1)
theorem maG_len (B i : Int) (idx G : List Int) : (maG B i idx G).1.length ≤ G.length + 6 * idx.length + 3 := by
  unfold maG
  have := mnG_len B i idx G idx.length
  split
  · simp only [gt_len]; omega
  · rw [anG_len]; omega
/-- A cell of a scan: k bits; first: it is the first cell. -/
def scS (B m x o : Int) (first : Bool) (r : List Int × List Int) : List Int × List Int :=
  if first then (gt r.1 1 m x, r.2 ++ [gW B r.1]) else (gt (gt r.1 1 m x) 0 o (gW B r.1), r.2 ++ [gW B (gt r.1 1 m x)])
def scI (B m : Int) (cell out : List Int) (first : Bool) (G : List Int) : Nat → List Int × List Int
  | 0 => (G, [])
  | k + 1 => scS B m (cell.getD k 0) (out.getD k 0) first (scI B m cell out first G k)
theorem scI_succ (B m : Int) (cell out : List Int) (first : Bool) (G : List Int) (k : Nat) : scI B m cell out first G (k + 1) = scS B m (cell.getD k 0) (out.getD k 0) first (scI B m cell out first G k) := rfl
theorem scI_len (B m : Int) (cell out : List Int) (first : Bool) (G : List Int) (k : Nat) : (scI B m cell out first G k).1.length ≤ G.length + 6 * k ∧ (scI B m cell out first G k).2.length = k := by
  induction k with
  | zero => simp [scI]
  | succ k ih => rw [scI_succ]; unfold scS; split <;> simp only [gt_len, List.length_append, List.length_cons, List.length_nil] <;> omega
def scT (B : Int) (i : Nat) (idx cell : List Int) (r : List Int × List Int) : List Int × List Int :=
  scI B (maG B i idx r.1).2 cell r.2 (i == 0) (maG B i idx r.1).1 cell.length
def scG (B : Int) (idx : List Int) (cells : List (List Int)) (G : List Int) : Nat → List Int × List Int
  | 0 => (G, [])
  | i + 1 => scT B i idx (cells.getD i []) (scG B idx cells G i)
theorem scG_succ (B : Int) (idx : List Int) (cells : List (List Int)) (G : List Int) (i : Nat) : scG B idx cells G (i + 1) = scT B i idx (cells.getD i []) (scG B idx cells G i) := rfl
/-- All rows have a length. -/
def AllL (w : Nat) (cells : List (List Int)) : Prop := ∀ r ∈ cells, r.length = w
theorem AllL.at {w : Nat} {cells : List (List Int)} (h : AllL w cells) (k : Nat) (hk : k < cells.length) : (cells.getD k []).length = w := h _ (by simp [List.getD, hk])
theorem AllL.nil (w : Nat) : AllL w [] := fun r hr => by cases hr
theorem AllL.push {w : Nat} {cells : List (List Int)} {r : List Int} (h : AllL w cells) (hr : r.length = w) : AllL w (cells ++ [r]) := fun x hx => by
  rcases List.mem_append.1 hx with hx | hx
  · exact h x hx
  · rw [List.mem_singleton] at hx; subst hx; exact hr
theorem scG_len {B : Int} {idx : List Int} {cells : List (List Int)} {G : List Int} {w : Nat} (h : AllL w cells) (i : Nat) (hi : i ≤ cells.length) :
    (scG B idx cells G i).1.length ≤ G.length + (6 * idx.length + 3 + 6 * w) * i ∧ (0 < i → (scG B idx cells G i).2.length = w) := by
  induction i with
  | zero => simp [scG]
  | succ i ih =>
    obtain ⟨h1, _⟩ := ih (by omega)
    have h3 := h.at i (by omega)
    rw [scG_succ]
    unfold scT
    have h4 := maG_len B i idx (scG B idx cells G i).1
    have h5 := scI_len B (maG B i idx (scG B idx cells G i).1).2 (cells.getD i []) (scG B idx cells G i).2 (i == 0) (maG B i idx (scG B idx cells G i).1).1 (cells.getD i []).length
    rw [h3] at h5
    rw [h3]
    refine ⟨?_, fun _ => h5.2⟩
    rw [Nat.mul_add]
    omega
/-- A level of a tree: j pairs. -/
def trS (B b : Int) (j : Nat) (cells : List (List Int)) (r : List Int × List (List Int)) : List Int × List (List Int) :=
  if 2 * j + 1 = cells.length then (r.1, r.2 ++ [cells.getD (2 * j) []])
  else ((chG B b (cells.getD (2 * j + 1) []) (cells.getD (2 * j) []) r.1 (cells.getD (2 * j + 1) []).length).1, r.2 ++ [(chG B b (cells.getD (2 * j + 1) []) (cells.getD (2 * j) []) r.1 (cells.getD (2 * j + 1) []).length).2])
def trJ (B b : Int) (cells : List (List Int)) (G : List Int) : Nat → List Int × List (List Int)
  | 0 => (G, [])
  | j + 1 => trS B b j cells (trJ B b cells G j)
theorem trJ_succ (B b : Int) (cells : List (List Int)) (G : List Int) (j : Nat) : trJ B b cells G (j + 1) = trS B b j cells (trJ B b cells G j) := rfl
theorem trJ_len {B b : Int} {cells : List (List Int)} {G : List Int} {w : Nat} (h : AllL w cells) (j : Nat) (hj : 2 * j ≤ cells.length + 1) :
    (trJ B b cells G j).1.length ≤ G.length + 9 * w * j ∧ (trJ B b cells G j).2.length = j ∧ AllL w (trJ B b cells G j).2 := by
  induction j with
  | zero => exact ⟨by simp [trJ], rfl, AllL.nil w⟩
  | succ j ih =>
    obtain ⟨h1, h2, h3⟩ := ih (by omega)
    rw [trJ_succ]
    unfold trS
    have e : 9 * w * (j + 1) = 9 * w * j + 9 * w := by rw [Nat.mul_add, Nat.mul_one]
    split
    · exact ⟨by simp only; omega, by simp [h2], h3.push (h.at _ (by omega))⟩
    · have h5 := h.at (2 * j + 1) (by omega)
      have h6 := chG_len B b (cells.getD (2 * j + 1) []) (cells.getD (2 * j) []) (trJ B b cells G j).1 (cells.getD (2 * j + 1) []).length
      refine ⟨by simp only; omega, by simp [h2], h3.push (by omega)⟩
def trG (B : Int) (idx : List Int) (cells : List (List Int)) (G : List Int) : Nat → List Int × List (List Int)
  | 0 => (G, cells)
  | k + 1 => trJ B (idx.getD k 0) (trG B idx cells G k).2 (trG B idx cells G k).1 (((trG B idx cells G k).2.length + 1) / 2)
theorem trG_succ (B : Int) (idx : List Int) (cells : List (List Int)) (G : List Int) (k : Nat) : trG B idx cells G (k + 1) = trJ B (idx.getD k 0) (trG B idx cells G k).2 (trG B idx cells G k).1 (((trG B idx cells G k).2.length + 1) / 2) := rfl
theorem trG_len {B : Int} {idx : List Int} {cells : List (List Int)} {G : List Int} {w : Nat} (h : AllL w cells) (h0 : 0 < cells.length) (h8 : cells.length ≤ 8) (k : Nat) :
    (trG B idx cells G k).1.length ≤ G.length + 36 * w * k ∧ (0 < (trG B idx cells G k).2.length ∧ (trG B idx cells G k).2.length ≤ 8) ∧ AllL w (trG B idx cells G k).2 := by
  induction k with
  | zero => exact ⟨by simp [trG], ⟨h0, h8⟩, h⟩
  | succ k ih =>
    obtain ⟨h1, h2, h3⟩ := ih
    rw [trG_succ]
    generalize trG B idx cells G k = r at *
    obtain ⟨a1, a2, a3⟩ := trJ_len (B := B) (b := idx.getD k 0) (G := r.1) h3 ((r.2.length + 1) / 2) (by omega)
    refine ⟨?_, by omega, a3⟩
    have e : 36 * w * (k + 1) = 36 * w * k + 36 * w := by rw [Nat.mul_add, Nat.mul_one]
    have e2 : 9 * w * ((r.2.length + 1) / 2) ≤ 9 * w * 4 := Nat.mul_le_mul_left _ (by omega)
    omega
/-- A write: i cells. -/
def wrS (B : Int) (i : Nat) (idx value cell : List Int) (r : List Int × List Int) : List Int × List Int :=
  ((chG B (maG B i idx r.1).2 value cell (maG B i idx r.1).1 value.length).1, r.2 ++ (chG B (maG B i idx r.1).2 value cell (maG B i idx r.1).1 value.length).2)
def wrG (B : Int) (idx value : List Int) (cells : List (List Int)) (G : List Int) : Nat → List Int × List Int
  | 0 => (G, [])
  | i + 1 => wrS B i idx value (cells.getD i []) (wrG B idx value cells G i)
theorem wrG_succ (B : Int) (idx value : List Int) (cells : List (List Int)) (G : List Int) (i : Nat) : wrG B idx value cells G (i + 1) = wrS B i idx value (cells.getD i []) (wrG B idx value cells G i) := rfl
theorem wrG_len (B : Int) (idx value : List Int) (cells : List (List Int)) (G : List Int) (i : Nat) :
    (wrG B idx value cells G i).1.length ≤ G.length + (6 * idx.length + 3 + 9 * value.length) * i ∧ (wrG B idx value cells G i).2.length = value.length * i := by
  induction i with
  | zero => simp [wrG]
  | succ i ih =>
    rw [wrG_succ]
    generalize wrG B idx value cells G i = r at *
    unfold wrS
    have h4 := maG_len B i idx r.1
    have h5 := chG_len B (maG B i idx r.1).2 value (cells.getD i []) (maG B i idx r.1).1 value.length
    simp only [List.length_append]
    rw [Nat.mul_add, Nat.mul_add]
    omega
/-- A turn by 2 ^ k: j cells. -/
def tuS (B b : Int) (s j : Nat) (cells : List (List Int)) (r : List Int × List (List Int)) : List Int × List (List Int) :=
  ((chG B b (cells.getD ((j + s) % cells.length) []) (cells.getD j []) r.1 (cells.getD ((j + s) % cells.length) []).length).1, r.2 ++ [(chG B b (cells.getD ((j + s) % cells.length) []) (cells.getD j []) r.1 (cells.getD ((j + s) % cells.length) []).length).2])
def tuJ (B b : Int) (s : Nat) (cells : List (List Int)) (G : List Int) : Nat → List Int × List (List Int)
  | 0 => (G, [])
  | j + 1 => tuS B b s j cells (tuJ B b s cells G j)
theorem tuJ_succ (B b : Int) (s : Nat) (cells : List (List Int)) (G : List Int) (j : Nat) : tuJ B b s cells G (j + 1) = tuS B b s j cells (tuJ B b s cells G j) := rfl
theorem tuJ_len {B b : Int} {s : Nat} {cells : List (List Int)} {G : List Int} {w : Nat} (h : AllL w cells) (j : Nat) (hj : j ≤ cells.length) :
    (tuJ B b s cells G j).1.length ≤ G.length + 9 * w * j ∧ (tuJ B b s cells G j).2.length = j ∧ AllL w (tuJ B b s cells G j).2 := by
  induction j with
  | zero => exact ⟨by simp [tuJ], rfl, AllL.nil w⟩
  | succ j ih =>
    obtain ⟨h1, h2, h3⟩ := ih (by omega)
    rw [tuJ_succ]
    unfold tuS
    have e : 9 * w * (j + 1) = 9 * w * j + 9 * w := by rw [Nat.mul_add, Nat.mul_one]
    have h5 := h.at ((j + s) % cells.length) (Nat.mod_lt _ (by omega))
    have h6 := chG_len B b (cells.getD ((j + s) % cells.length) []) (cells.getD j []) (tuJ B b s cells G j).1 (cells.getD ((j + s) % cells.length) []).length
    exact ⟨by simp only; omega, by simp [h2], h3.push (by omega)⟩
def tuG (B : Int) (idx : List Int) (cells : List (List Int)) (G : List Int) : Nat → List Int × List (List Int)
  | 0 => (G, cells)
  | k + 1 => tuJ B (idx.getD k 0) (2 ^ k) (tuG B idx cells G k).2 (tuG B idx cells G k).1 (tuG B idx cells G k).2.length
theorem tuG_succ (B : Int) (idx : List Int) (cells : List (List Int)) (G : List Int) (k : Nat) : tuG B idx cells G (k + 1) = tuJ B (idx.getD k 0) (2 ^ k) (tuG B idx cells G k).2 (tuG B idx cells G k).1 (tuG B idx cells G k).2.length := rfl
theorem tuG_len {B : Int} {idx : List Int} {cells : List (List Int)} {G : List Int} {w : Nat} (h : AllL w cells) (k : Nat) :
    (tuG B idx cells G k).1.length ≤ G.length + 9 * w * cells.length * k ∧ (tuG B idx cells G k).2.length = cells.length ∧ AllL w (tuG B idx cells G k).2 := by
  induction k with
  | zero => exact ⟨by simp [tuG], rfl, h⟩
  | succ k ih =>
    obtain ⟨h1, h2, h3⟩ := ih
    rw [tuG_succ]
    generalize tuG B idx cells G k = r at *
    obtain ⟨a1, a2, a3⟩ := tuJ_len (B := B) (b := idx.getD k 0) (s := 2 ^ k) (G := r.1) h3 r.2.length (Nat.le_refl _)
    have e : 9 * w * cells.length * (k + 1) = 9 * w * cells.length * k + 9 * w * cells.length := by rw [Nat.mul_add, Nat.mul_one]
    have e2 : 9 * w * r.2.length = 9 * w * cells.length := by rw [h2]
    exact ⟨by omega, by omega, a3⟩
theorem flatten_len {w : Nat} {l : List (List Int)} (h : AllL w l) : l.flatten.length = w * l.length := by
  induction l with
  | nil => rfl
  | cons r l ih => rw [List.flatten_cons, List.length_append, h r (by simp), ih (fun x hx => h x (by simp [hx])), List.length_cons, Nat.mul_add, Nat.mul_one, Nat.add_comm]
/-- The cells' wires. -/
def ceL (w n : Nat) : List (List Int) := (List.range n).map fun (i : Nat) => spL ((i : Int) * w) w
theorem ceL_succ (w n : Nat) : ceL w (n + 1) = ceL w n ++ [spL ((n : Int) * w) w] := by simp [ceL, List.range_succ]
theorem ceL_len (w n : Nat) : (ceL w n).length = n := by simp [ceL]
theorem ceL_all (w n : Nat) : AllL w (ceL w n) := fun r hr => by
  simp only [ceL, List.mem_map, List.mem_range] at hr
  obtain ⟨i, _, rfl⟩ := hr
  exact spL_len _ _
/-- The circuits of n cells of w bits, v the index's width: gates and outs, by kinds. -/
def meI (n w v : Nat) : List Int := spL ((n * w : Nat) : Int) v
def meB (n w v more : Nat) : Int := ((n * w : Nat) : Int) + ((v + more : Nat) : Int)
def meScG (n w v : Nat) : List Int × List Int := scG (meB n w v 0) (meI n w v) (ceL w n) [] n
def meTrG (n w v : Nat) : List Int × List Int := ((trG (meB n w v 0) (meI n w v) (ceL w n) [] v).1, (trG (meB n w v 0) (meI n w v) (ceL w n) [] v).2.getD 0 [])
def meWrG (n w v : Nat) : List Int × List Int := wrG (meB n w v w) (meI n w v) (spL ((n * w : Nat) + v : Int) w) (ceL w n) [] n
def meTuG (n w v : Nat) : List Int × List Int := ((tuG (meB n w v 0) (meI n w v) (ceL w n) [] v).1, (tuG (meB n w v 0) (meI n w v) (ceL w n) [] v).2.flatten)
end Go.Proofs.Ytmbheimjphhamaa
namespace Go.Proofs.Ytmbheimjphhamaa
open Go.RowKit
theorem mnG_good {B i : Int} {idx G : List Int} (h : Gd B G) (hx : Ws B G idx) (n : Nat) (hn : n ≤ idx.length) :
    Gd B (mnG B i idx G n).1 ∧ Mo B G (mnG B i idx G n).1 ∧ Ws B (mnG B i idx G n).1 (mnG B i idx G n).2 := by
  induction n with
  | zero => exact ⟨h, Mo.refl _ _, Ws.nil _ _⟩
  | succ n ih =>
    obtain ⟨g, m, r⟩ := ih (by omega)
    rw [mnG_succ]
    generalize mnG B i idx G n = q at *
    have wx := m.wr (hx.at n (by omega))
    generalize idx.getD n 0 = u at *
    unfold mnS
    split
    · exact ⟨g, m, r.app (Ws.one wx)⟩
    · have k := Mo.gt B q.1 2 u 0
      exact ⟨g.not wx, m.trans k, (k.ws r).app (Ws.one (Wr.new h.1 2 u 0))⟩
theorem anG_good {B : Int} {l G : List Int} (h : Gd B G) (hl : Ws B G l) (j : Nat) (hj : j < l.length) :
    Gd B (anG B l G j).1 ∧ Mo B G (anG B l G j).1 ∧ Wr B (anG B l G j).1 (anG B l G j).2 := by
  induction j with
  | zero => exact ⟨h, Mo.refl _ _, hl.at 0 hj⟩
  | succ j ih =>
    obtain ⟨g, m, r⟩ := ih (by omega)
    rw [anG_succ]
    have wx := m.wr (hl.at (j + 1) hj)
    generalize anG B l G j = q at *
    unfold anS
    exact ⟨g.and r wx, m.trans (Mo.gt _ _ _ _ _), Wr.new h.1 _ _ _⟩
theorem maG_good {B i : Int} {idx G : List Int} (h : Gd B G) (hx : Ws B G idx) : Gd B (maG B i idx G).1 ∧ Mo B G (maG B i idx G).1 ∧ Wr B (maG B i idx G).1 (maG B i idx G).2 := by
  unfold maG
  split
  · exact ⟨h.one, Mo.gt _ _ _ _ _, Wr.new h.1 _ _ _⟩
  · obtain ⟨g, m, r⟩ := mnG_good (i := i) h hx idx.length (Nat.le_refl _)
    obtain ⟨g2, m2, r2⟩ := anG_good g r (idx.length - 1) (by rw [(mnG_len B i idx G idx.length).2]; omega)
    exact ⟨g2, m.trans m2, r2⟩
theorem scI_good {B m : Int} {cell out G : List Int} {first : Bool} (h : Gd B G) (hm : Wr B G m) (hc : Ws B G cell) (ho : first = false → Ws B G out ∧ cell.length ≤ out.length) (n : Nat) (hn : n ≤ cell.length) :
    Gd B (scI B m cell out first G n).1 ∧ Mo B G (scI B m cell out first G n).1 ∧ Ws B (scI B m cell out first G n).1 (scI B m cell out first G n).2 := by
  induction n with
  | zero => exact ⟨h, Mo.refl _ _, Ws.nil _ _⟩
  | succ n ih =>
    obtain ⟨g, k, r⟩ := ih (by omega)
    rw [scI_succ]
    have wx := k.wr (hc.at n (by omega))
    have wm := k.wr hm
    have wo : first = false → Wr B (scI B m cell out first G n).1 (out.getD n 0) := fun e => k.wr ((ho e).1.at n (by have := (ho e).2; omega))
    generalize scI B m cell out first G n = q at *
    generalize cell.getD n 0 = x at *
    generalize out.getD n 0 = o at *
    have g1 := g.and wm wx
    have k1 := Mo.gt B q.1 1 m x
    have n1 := Wr.new (G := q.1) h.1 1 m x
    unfold scS
    cases first
    · simp only [Bool.false_eq_true, if_false]
      have k2 := Mo.gt B (gt q.1 1 m x) 0 o (gW B q.1)
      have n2 := Wr.new (G := gt q.1 1 m x) h.1 0 o (gW B q.1)
      exact ⟨g1.xor (k1.wr (wo rfl)) n1, k.trans (k1.trans k2), ((k1.trans k2).ws r).app (Ws.one n2)⟩
    · simp only [if_true]
      exact ⟨g1, k.trans k1, (k1.ws r).app (Ws.one n1)⟩
/-- The wires of all rows are there. -/
def Wa (B : Int) (G : List Int) (cells : List (List Int)) : Prop := ∀ r ∈ cells, Ws B G r
theorem Wa.at {B G cells} (h : Wa B G cells) (k : Nat) (hk : k < cells.length) : Ws B G (cells.getD k []) := h _ (by simp [List.getD, hk])
theorem Mo.wa {B G G' cells} (h : Mo B G G') (k : Wa B G cells) : Wa B G' cells := fun r hr => h.ws (k r hr)
theorem Wa.push {B G cells r} (h : Wa B G cells) (k : Ws B G r) : Wa B G (cells ++ [r]) := fun x hx => by
  rcases List.mem_append.1 hx with hx | hx
  · exact h x hx
  · rw [List.mem_singleton] at hx; subst hx; exact k
theorem Wa.nil (B : Int) (G : List Int) : Wa B G [] := fun r hr => by cases hr
theorem Wa.flat {B G cells} (h : Wa B G cells) : Ws B G cells.flatten := fun x hx => by
  obtain ⟨r, hr, hx⟩ := List.mem_flatten.1 hx
  exact h r hr x hx
theorem scG_good {B : Int} {idx : List Int} {cells : List (List Int)} {G : List Int} {w : Nat} (h : Gd B G) (hx : Ws B G idx) (hc : Wa B G cells) (hw : AllL w cells) (i : Nat) (hi : i ≤ cells.length) :
    Gd B (scG B idx cells G i).1 ∧ Mo B G (scG B idx cells G i).1 ∧ Ws B (scG B idx cells G i).1 (scG B idx cells G i).2 := by
  induction i with
  | zero => exact ⟨h, Mo.refl _ _, Ws.nil _ _⟩
  | succ i ih =>
    obtain ⟨g, k, r⟩ := ih (by omega)
    have hl := (scG_len (B := B) (idx := idx) (G := G) hw i (by omega)).2
    have hc2 := k.wa hc |>.at i (by omega)
    have hl2 := hw.at i (by omega)
    rw [scG_succ]
    generalize scG B idx cells G i = q at *
    generalize cells.getD i [] = C at *
    unfold scT
    obtain ⟨g2, k2, r2⟩ := maG_good (i := (i : Int)) g (k.ws hx)
    obtain ⟨g3, k3, r3⟩ := scI_good (out := q.2) (first := i == 0) g2 r2 (k2.ws hc2) (fun e => ⟨k2.ws r, by rw [hl (by cases i with | zero => cases e | succ i => omega)]; omega⟩) C.length (Nat.le_refl _)
    exact ⟨g3, k.trans (k2.trans k3), r3⟩
theorem trJ_good {B b : Int} {cells : List (List Int)} {G : List Int} {w : Nat} (h : Gd B G) (hb : Wr B G b) (hc : Wa B G cells) (hw : AllL w cells) (j : Nat) (hj : 2 * j ≤ cells.length + 1) :
    Gd B (trJ B b cells G j).1 ∧ Mo B G (trJ B b cells G j).1 ∧ Wa B (trJ B b cells G j).1 (trJ B b cells G j).2 := by
  induction j with
  | zero => exact ⟨h, Mo.refl _ _, Wa.nil _ _⟩
  | succ j ih =>
    obtain ⟨g, k, r⟩ := ih (by omega)
    rw [trJ_succ]
    generalize trJ B b cells G j = q at *
    unfold trS
    split
    · exact ⟨g, k, r.push ((k.wa hc).at _ (by omega))⟩
    · have e1 := hw.at (2 * j) (by omega)
      have e2 := hw.at (2 * j + 1) (by omega)
      obtain ⟨g2, k2, r2⟩ := chG_good g (k.wr hb) ((k.wa hc).at (2 * j + 1) (by omega)) ((k.wa hc).at (2 * j) (by omega)) (cells.getD (2 * j + 1) []).length (Nat.le_refl _) (by omega)
      exact ⟨g2, k.trans k2, (k2.wa r).push r2⟩
theorem trG_good {B : Int} {idx : List Int} {cells : List (List Int)} {G : List Int} {w : Nat} (h : Gd B G) (hx : Ws B G idx) (hc : Wa B G cells) (hw : AllL w cells) (h0 : 0 < cells.length) (h8 : cells.length ≤ 8) (k : Nat) (hk : k ≤ idx.length) :
    Gd B (trG B idx cells G k).1 ∧ Mo B G (trG B idx cells G k).1 ∧ Wa B (trG B idx cells G k).1 (trG B idx cells G k).2 := by
  induction k with
  | zero => exact ⟨h, Mo.refl _ _, hc⟩
  | succ k ih =>
    obtain ⟨g, m, r⟩ := ih (by omega)
    obtain ⟨_, _, hw2⟩ := trG_len (B := B) (idx := idx) (G := G) hw h0 h8 k
    rw [trG_succ]
    have wx := m.wr (hx.at k (by omega))
    generalize trG B idx cells G k = q at *
    obtain ⟨g2, k2, r2⟩ := trJ_good g wx r hw2 ((q.2.length + 1) / 2) (by omega)
    exact ⟨g2, m.trans k2, r2⟩
theorem wrG_good {B : Int} {idx value : List Int} {cells : List (List Int)} {G : List Int} {w : Nat} (h : Gd B G) (hx : Ws B G idx) (hv : Ws B G value) (hc : Wa B G cells) (hw : AllL w cells) (hvl : value.length = w) (i : Nat) (hi : i ≤ cells.length) :
    Gd B (wrG B idx value cells G i).1 ∧ Mo B G (wrG B idx value cells G i).1 ∧ Ws B (wrG B idx value cells G i).1 (wrG B idx value cells G i).2 := by
  induction i with
  | zero => exact ⟨h, Mo.refl _ _, Ws.nil _ _⟩
  | succ i ih =>
    obtain ⟨g, k, r⟩ := ih (by omega)
    have hc2 := (k.wa hc).at i (by omega)
    have hl2 := hw.at i (by omega)
    rw [wrG_succ]
    generalize wrG B idx value cells G i = q at *
    generalize cells.getD i [] = C at *
    unfold wrS
    obtain ⟨g2, k2, r2⟩ := maG_good (i := (i : Int)) g (k.ws hx)
    obtain ⟨g3, k3, r3⟩ := chG_good g2 r2 (k2.ws (k.ws hv)) (k2.ws hc2) value.length (Nat.le_refl _) (by omega)
    exact ⟨g3, k.trans (k2.trans k3), ((k2.trans k3).ws r).app r3⟩
theorem tuJ_good {B b : Int} {s : Nat} {cells : List (List Int)} {G : List Int} {w : Nat} (h : Gd B G) (hb : Wr B G b) (hc : Wa B G cells) (hw : AllL w cells) (j : Nat) (hj : j ≤ cells.length) :
    Gd B (tuJ B b s cells G j).1 ∧ Mo B G (tuJ B b s cells G j).1 ∧ Wa B (tuJ B b s cells G j).1 (tuJ B b s cells G j).2 := by
  induction j with
  | zero => exact ⟨h, Mo.refl _ _, Wa.nil _ _⟩
  | succ j ih =>
    obtain ⟨g, k, r⟩ := ih (by omega)
    rw [tuJ_succ]
    generalize tuJ B b s cells G j = q at *
    unfold tuS
    have hq : (j + s) % cells.length < cells.length := Nat.mod_lt _ (by omega)
    have e1 := hw.at j (by omega)
    have e2 := hw.at _ hq
    obtain ⟨g2, k2, r2⟩ := chG_good g (k.wr hb) ((k.wa hc).at _ hq) ((k.wa hc).at j (by omega)) (cells.getD ((j + s) % cells.length) []).length (Nat.le_refl _) (by omega)
    exact ⟨g2, k.trans k2, (k2.wa r).push r2⟩
theorem tuG_good {B : Int} {idx : List Int} {cells : List (List Int)} {G : List Int} {w : Nat} (h : Gd B G) (hx : Ws B G idx) (hc : Wa B G cells) (hw : AllL w cells) (k : Nat) (hk : k ≤ idx.length) :
    Gd B (tuG B idx cells G k).1 ∧ Mo B G (tuG B idx cells G k).1 ∧ Wa B (tuG B idx cells G k).1 (tuG B idx cells G k).2 := by
  induction k with
  | zero => exact ⟨h, Mo.refl _ _, hc⟩
  | succ k ih =>
    obtain ⟨g, m, r⟩ := ih (by omega)
    obtain ⟨_, _, hw2⟩ := tuG_len (B := B) (idx := idx) (G := G) hw k
    rw [tuG_succ]
    have wx := m.wr (hx.at k (by omega))
    generalize tuG B idx cells G k = q at *
    obtain ⟨g2, k2, r2⟩ := tuJ_good (s := 2 ^ k) g wx r hw2 q.2.length (Nat.le_refl _)
    exact ⟨g2, m.trans k2, r2⟩
theorem ceL_wa {B : Int} {G : List Int} (w n : Nat) (h : ((n * w : Nat) : Int) ≤ B) : Wa B G (ceL w n) := fun r hr => by
  simp only [ceL, List.mem_map, List.mem_range] at hr
  obtain ⟨i, hi, rfl⟩ := hr
  have e : (i + 1) * w ≤ n * w := Nat.mul_le_mul_right w hi
  have e2 : (i + 1) * w = i * w + w := by rw [Nat.add_mul, Nat.one_mul]
  have e3 : ((i * w : Nat) : Int) = (i : Int) * (w : Int) := by simp
  exact spL_ws w (by omega) (by omega)
theorem meI_ws {B : Int} {G : List Int} (n w v : Nat) (h : ((n * w : Nat) : Int) + (v : Int) ≤ B) : Ws B G (meI n w v) := spL_ws v (by omega) h
/-- The circuits by kinds. -/
def meG (kind : Nat) (n w : Nat) : List Int × List Int := if kind = 0 then meScG n w (wid n) else if kind = 1 then meTrG n w (wid n) else if kind = 2 then meWrG n w (wid n) else meTuG n w (wid n)
def meMore (kind w : Nat) : Nat := if kind = 2 then w else 0
theorem wid8 (n : Nat) (h : n ≤ 8) : wid n ≤ 3 := by have := wid_cases n; omega
theorem meG_good (kind n w : Nat) (h1 : 1 ≤ n) (h2 : n ≤ 8) (_h3 : 1 ≤ w) (h4 : w ≤ 4) :
    (Gd (((n * w : Nat) : Int) + ((wid n + meMore kind w : Nat) : Int)) (meG kind n w).1 ∧ Ws (((n * w : Nat) : Int) + ((wid n + meMore kind w : Nat) : Int)) (meG kind n w).1 (meG kind n w).2) ∧ (meG kind n w).1.length ≤ 870 ∧ (meG kind n w).2.length ≤ 32 := by
  have hv := wid8 n h2
  have hnw : n * w ≤ 8 * 4 := Nat.mul_le_mul h2 h4
  unfold meG meMore
  obtain ⟨v, ev⟩ : ∃ v, v = wid n := ⟨_, rfl⟩
  rw [← ev] at hv ⊢
  have hce := ceL_len w n
  have hca := ceL_all w n
  have hil : (meI n w v).length = v := spL_len _ _
  by_cases k0 : kind = 0
  · subst k0
    simp only [if_true, Nat.add_zero, if_neg (by decide : ¬ (0 : Nat) = 2)]
    unfold meScG meB
    obtain ⟨a, _, c⟩ := scG_good (B := ((n * w : Nat) : Int) + ((v + 0 : Nat) : Int)) (idx := meI n w v) (Gd.nil (by omega)) (meI_ws n w v (by omega)) (ceL_wa w n (by omega)) hca n (by omega)
    obtain ⟨d, e⟩ := scG_len (B := ((n * w : Nat) : Int) + ((v + 0 : Nat) : Int)) (idx := meI n w v) (G := []) hca n (by omega)
    rw [hil] at d
    have hb : (6 * v + 3 + 6 * w) * n ≤ 45 * 8 := Nat.mul_le_mul (by omega) h2
    exact ⟨⟨a, c⟩, by simp only [List.length_nil] at d; omega, by have := e (by omega); omega⟩
  rw [if_neg k0]
  by_cases k1 : kind = 1
  · subst k1
    simp only [if_true, if_neg (by decide : ¬ (1 : Nat) = 2), Nat.add_zero]
    unfold meTrG meB
    obtain ⟨a, _, c⟩ := trG_good (B := ((n * w : Nat) : Int) + ((v + 0 : Nat) : Int)) (idx := meI n w v) (Gd.nil (by omega)) (meI_ws n w v (by omega)) (ceL_wa w n (by omega)) hca (by omega) (by omega) v (by omega)
    obtain ⟨d, e, f⟩ := trG_len (B := ((n * w : Nat) : Int) + ((v + 0 : Nat) : Int)) (idx := meI n w v) (G := []) hca (by omega) (by omega) v
    have hb : 36 * w * v ≤ 36 * 4 * 3 := Nat.mul_le_mul (Nat.mul_le_mul_left _ h4) hv
    exact ⟨⟨a, c.at 0 e.1⟩, by simp only [List.length_nil] at d; simp only; omega, by have := f.at 0 e.1; simp only; omega⟩
  rw [if_neg k1]
  by_cases k2 : kind = 2
  · subst k2
    simp only [if_true]
    unfold meWrG meB
    have hvl : (spL ((n * w : Nat) + v : Int) w).length = w := spL_len _ _
    obtain ⟨a, _, c⟩ := wrG_good (B := ((n * w : Nat) : Int) + ((v + w : Nat) : Int)) (idx := meI n w v) (value := spL ((n * w : Nat) + v : Int) w) (Gd.nil (by omega)) (meI_ws n w v (by omega)) (spL_ws w (by omega) (by omega)) (ceL_wa w n (by omega)) hca hvl n (by omega)
    obtain ⟨d, e⟩ := wrG_len (((n * w : Nat) : Int) + ((v + w : Nat) : Int)) (meI n w v) (spL ((n * w : Nat) + v : Int) w) (ceL w n) [] n
    rw [hil, hvl] at d
    rw [hvl] at e
    have hb : (6 * v + 3 + 9 * w) * n ≤ 57 * 8 := Nat.mul_le_mul (by omega) h2
    have hb2 : w * n ≤ 4 * 8 := Nat.mul_le_mul h4 h2
    exact ⟨⟨a, c⟩, by simp only [List.length_nil] at d; omega, by omega⟩
  rw [if_neg k2]
  simp only [Nat.add_zero, if_neg k2]
  unfold meTuG meB
  obtain ⟨a, _, c⟩ := tuG_good (B := ((n * w : Nat) : Int) + ((v + 0 : Nat) : Int)) (idx := meI n w v) (Gd.nil (by omega)) (meI_ws n w v (by omega)) (ceL_wa w n (by omega)) hca v (by omega)
  obtain ⟨d, e, f⟩ := tuG_len (B := ((n * w : Nat) : Int) + ((v + 0 : Nat) : Int)) (idx := meI n w v) (G := []) hca v
  rw [hce] at d e
  have hb : 9 * w * n * v ≤ 9 * 4 * 8 * 3 := Nat.mul_le_mul (Nat.mul_le_mul (Nat.mul_le_mul_left _ h4) h2) hv
  have hfl := flatten_len f
  rw [e] at hfl
  have hb2 : w * n ≤ 4 * 8 := Nat.mul_le_mul h4 h2
  exact ⟨⟨a, c.flat⟩, by simp only [List.length_nil] at d; simp only; omega, by simp only; omega⟩
theorem me_ok (kind n w : Nat) (h1 : 1 ≤ n) (h2 : n ≤ 8) (h3 : 1 ≤ w) (h4 : w ≤ 4) :
    ciB ((n * w : Nat) : Int) ((wid n + meMore kind w : Nat) : Int) ((meG kind n w).1.length / 3) (meG kind n w).1 (meG kind n w).2 = decide (n * w ≤ 20) := by
  obtain ⟨⟨a, c⟩, d, e⟩ := meG_good kind n w h1 h2 h3 h4
  have hv := wid8 n h2
  by_cases hn : n * w ≤ 20
  · rw [decide_eq_true hn]
    exact ci_good (by omega) (by unfold meMore; split <;> omega) a c rfl (by omega) (by omega)
  · rw [decide_eq_false hn]
    unfold ciB
    rw [inB_no (by omega)]
    rfl
end Go.Proofs.Ytmbheimjphhamaa
namespace Go.Proofs.Ytmbheimjphhamaa
open Go.RowKit
set_option maxHeartbeats 4000000 in
set_option maxRecDepth 100000 in
theorem gate_any (kd ka kb : Int) {oa : Option Addr} {on oc : Nat} (b g : Nat) (i0 i1 : Int) (G : List Int) (F : List Nat) (w : World) (h : Mk 82 w b g i0 i1 G F oa on oc) (hb : b ≤ w.heap.size) (h0 : 0 ≤ i0 ∧ i0 ≤ 1000) (h1 : 0 ≤ i1 ∧ i1 ≤ 1000) (hl : G.length ≤ 30000) :
    Calls Try.prog 70 #[.pointer (some ⟨g, 0, none⟩), .int .i64 kd, .int .i64 ka, .int .i64 kb] w fun e w' => e = .returned (.int .i64 (gW (i0 + i1) G)) ∧ ∃ F', Mk 82 w' b g i0 i1 (gt G kd ka kb) F' oa on oc ∧ Stp F w F' w' := by
  obtain ⟨a, n, c, hB, ho, hg, hbg, rfl⟩ := h
  have hn := ho.len
  have HW : Hid (gW (i0 + i1) G = i0 + i1 + (n : Int)) := Lib.hid (by unfold gW; rw [hn, Nat.mul_div_cancel _ (by decide)])
  rw [HW.out]
  have hcap := ho.cap
  have x2 : w.cell? ⟨g, 2, none⟩ = some (.slice a n c) := hB.cell 2
  have hgl := hB.lt
  go_enter Try.func70, Try.ntmps70
  go_wp2_with (at_builtin; refine wpList_appG _ rfl _ _ rfl b a n c G rfl (ho.alloc _) (some ⟨w.heap.size, 0, none⟩) 1 kd ka kb rfl (RowC.gate w kd ka kb _) (by omega) (by simp; omega) ?_)
  intro a5 c5 w3 o5 g5 m5
  have V1 : Below w.heap.size w (w.alloc (.cells #[.int .i64 kd, .int .i64 ka, .int .i64 kb] 90)) := (Below.refl _ _).alloc (Nat.le_refl _) _
  have G3 : Only (foot a c) (w.alloc (.cells #[.int .i64 kd, .int .i64 ka, .int .i64 kb] 90)) w3 := Only.of_grown g5
  have B3 := (hB.below V1).only G3 hg
  have x0 : w3.cell? ⟨g, 0, none⟩ = some (.int .i64 i0) := B3.cell 0
  have x1 : w3.cell? ⟨g, 1, none⟩ = some (.int .i64 i1) := B3.cell 1
  replace x2 : w3.cell? ⟨g, 2, none⟩ = some (.slice a n c) := B3.cell 2
  have x3 : w3.cell? ⟨g, 3, none⟩ = some (.slice oa on oc) := B3.cell 3
  have y2 : w3.frozen? ⟨g, 2, none⟩ = false := B3.frozen 2
  have hs3 : w.heap.size ≤ w3.heap.size := Nat.le_trans V1.size G3.size
  have hg5 : g ∉ foot a5 c5 := by
    intro hm
    have hd : Disj (foot a5 c5) [g] := m5.disj (fun k hk hk' => hg (by simp at hk'; subst hk'; exact hk)) (fun k hk => by simp at hk; subst hk; simp; omega)
    exact hd g hm (by simp)
  have B4 : Blk (w3.setCell ⟨g, 2, none⟩ (.slice a5 (n + 1) c5)) g 82 #[.int .i64 i0, .int .i64 i1, .slice a5 (n + 1) c5, .slice oa on oc] := B3.set_ 2 _
  have O4 : Only [g] w3 (w3.setCell ⟨g, 2, none⟩ (.slice a5 (n + 1) c5)) := (Only.refl _ _).setCell _ _ (by simp)
  have o4 := o5.only O4 (fun k hk hk' => hg5 (by simp at hk'; subst hk'; exact hk))
  have S4 : Stp (g :: foot a c) w (g :: foot a5 c5) (w3.setCell ⟨g, 2, none⟩ (.slice a5 (n + 1) c5)) := ⟨((Only.of_below V1).trans (G3.more (fun k hk => by simp [hk]))).trans (O4.more (fun k hk => by simp at hk; simp [hk])), fun k hk => by
    rcases List.mem_cons.1 hk with rfl | hk
    · exact .inl (by simp)
    · rcases m5 with ⟨rfl, rfl⟩ | m5
      · exact .inl (by simp [hk])
      · obtain ⟨x, hx, hc, rfl⟩ := mem_foot hk
        have := m5 x hc hx
        exact .inr (by simp at this; omega)⟩
  clear o5 G3 V1 m5 g5 hB ho O4 B3
  go_wp2_with fail
  clear x0 x1 x2 x3 y2
  generalize (w3.setCell ⟨g, 2, none⟩ (.slice a5 (n + 1) c5)) = w4 at *
  refine (wires_any _ _ _ _ _ _ _ _ _ (by omega) (by omega) (by omega)).mono ?_; rintro e w5 ⟨rfl, u5⟩
  go_wp2
  go_ret
  refine ⟨ret_int (by omega), _, ⟨a5, n + 1, c5, B4.below u5, o4.below u5, hg5, hbg, rfl⟩, S4.below u5⟩
set_option maxHeartbeats 4000000 in
theorem xor_any (ka : Int) (kb : Int) {oa : Option Addr} {on oc : Nat} (b g : Nat) (i0 i1 : Int) (G : List Int) (F : List Nat) (w : World) (h : Mk 82 w b g i0 i1 G F oa on oc) (hb : b ≤ w.heap.size) (h0 : 0 ≤ i0 ∧ i0 ≤ 1000) (h1 : 0 ≤ i1 ∧ i1 ≤ 1000) (hl : G.length ≤ 30000) :
    Calls Try.prog 38 #[.pointer (some ⟨g, 0, none⟩), .int .i64 ka, .int .i64 kb] w fun e w' => e = .returned (.int .i64 (gW (i0 + i1) G)) ∧ ∃ F', Mk 82 w' b g i0 i1 (gt G 0 ka kb) F' oa on oc ∧ Stp F w F' w' := by
  go_enter Try.func38, Try.ntmps38
  go_wp2_with fail
  refine (gate_any 0 ka kb b g i0 i1 G F _ h hb h0 h1 hl).mono ?_; rintro e w1 ⟨rfl, F1, m1, s1⟩
  go_wp2
  go_ret
  exact ⟨rfl, F1, m1, s1⟩
set_option maxHeartbeats 4000000 in
theorem and_any (ka : Int) (kb : Int) {oa : Option Addr} {on oc : Nat} (b g : Nat) (i0 i1 : Int) (G : List Int) (F : List Nat) (w : World) (h : Mk 82 w b g i0 i1 G F oa on oc) (hb : b ≤ w.heap.size) (h0 : 0 ≤ i0 ∧ i0 ≤ 1000) (h1 : 0 ≤ i1 ∧ i1 ≤ 1000) (hl : G.length ≤ 30000) :
    Calls Try.prog 37 #[.pointer (some ⟨g, 0, none⟩), .int .i64 ka, .int .i64 kb] w fun e w' => e = .returned (.int .i64 (gW (i0 + i1) G)) ∧ ∃ F', Mk 82 w' b g i0 i1 (gt G 1 ka kb) F' oa on oc ∧ Stp F w F' w' := by
  go_enter Try.func37, Try.ntmps37
  go_wp2_with fail
  refine (gate_any 1 ka kb b g i0 i1 G F _ h hb h0 h1 hl).mono ?_; rintro e w1 ⟨rfl, F1, m1, s1⟩
  go_wp2
  go_ret
  exact ⟨rfl, F1, m1, s1⟩
set_option maxHeartbeats 4000000 in
theorem not_any (ka : Int) {oa : Option Addr} {on oc : Nat} (b g : Nat) (i0 i1 : Int) (G : List Int) (F : List Nat) (w : World) (h : Mk 82 w b g i0 i1 G F oa on oc) (hb : b ≤ w.heap.size) (h0 : 0 ≤ i0 ∧ i0 ≤ 1000) (h1 : 0 ≤ i1 ∧ i1 ≤ 1000) (hl : G.length ≤ 30000) :
    Calls Try.prog 69 #[.pointer (some ⟨g, 0, none⟩), .int .i64 ka] w fun e w' => e = .returned (.int .i64 (gW (i0 + i1) G)) ∧ ∃ F', Mk 82 w' b g i0 i1 (gt G 2 ka 0) F' oa on oc ∧ Stp F w F' w' := by
  go_enter Try.func69, Try.ntmps69
  go_wp2_with fail
  refine (gate_any 2 ka 0 b g i0 i1 G F _ h hb h0 h1 hl).mono ?_; rintro e w1 ⟨rfl, F1, m1, s1⟩
  go_wp2
  go_ret
  exact ⟨rfl, F1, m1, s1⟩
set_option maxHeartbeats 4000000 in
set_option maxRecDepth 100000 in
theorem sgate_any (kd ka kb : Int) {oa : Option Addr} {on oc : Nat} (b g : Nat) (i0 i1 : Int) (G : List Int) (F : List Nat) (w : World) (h : Mk 105 w b g i0 i1 G F oa on oc) (hb : b ≤ w.heap.size) (h0 : 0 ≤ i0 ∧ i0 ≤ 1000) (h1 : 0 ≤ i1 ∧ i1 ≤ 1000) (hl : G.length ≤ 30000) :
    Calls Try.prog 115 #[.pointer (some ⟨g, 0, none⟩), .int .i64 kd, .int .i64 ka, .int .i64 kb] w fun e w' => e = .returned (.int .i64 (gW (i0 + i1) G)) ∧ ∃ F', Mk 105 w' b g i0 i1 (gt G kd ka kb) F' oa on oc ∧ Stp F w F' w' := by
  obtain ⟨a, n, c, hB, ho, hg, hbg, rfl⟩ := h
  have hn := ho.len
  have HW : Hid (gW (i0 + i1) G = i0 + i1 + (n : Int)) := Lib.hid (by unfold gW; rw [hn, Nat.mul_div_cancel _ (by decide)])
  rw [HW.out]
  have hcap := ho.cap
  have x2 : w.cell? ⟨g, 2, none⟩ = some (.slice a n c) := hB.cell 2
  have hgl := hB.lt
  go_enter Try.func115, Try.ntmps115
  go_wp2_with (at_builtin; refine wpList_appG _ rfl _ _ rfl b a n c G rfl (ho.alloc _) (some ⟨w.heap.size, 0, none⟩) 1 kd ka kb rfl (RowC.gate w kd ka kb _) (by omega) (by simp; omega) ?_)
  intro a5 c5 w3 o5 g5 m5
  have V1 : Below w.heap.size w (w.alloc (.cells #[.int .i64 kd, .int .i64 ka, .int .i64 kb] 90)) := (Below.refl _ _).alloc (Nat.le_refl _) _
  have G3 : Only (foot a c) (w.alloc (.cells #[.int .i64 kd, .int .i64 ka, .int .i64 kb] 90)) w3 := Only.of_grown g5
  have B3 := (hB.below V1).only G3 hg
  have x0 : w3.cell? ⟨g, 0, none⟩ = some (.int .i64 i0) := B3.cell 0
  have x1 : w3.cell? ⟨g, 1, none⟩ = some (.int .i64 i1) := B3.cell 1
  replace x2 : w3.cell? ⟨g, 2, none⟩ = some (.slice a n c) := B3.cell 2
  have x3 : w3.cell? ⟨g, 3, none⟩ = some (.slice oa on oc) := B3.cell 3
  have y2 : w3.frozen? ⟨g, 2, none⟩ = false := B3.frozen 2
  have hs3 : w.heap.size ≤ w3.heap.size := Nat.le_trans V1.size G3.size
  have hg5 : g ∉ foot a5 c5 := by
    intro hm
    have hd : Disj (foot a5 c5) [g] := m5.disj (fun k hk hk' => hg (by simp at hk'; subst hk'; exact hk)) (fun k hk => by simp at hk; subst hk; simp; omega)
    exact hd g hm (by simp)
  have B4 : Blk (w3.setCell ⟨g, 2, none⟩ (.slice a5 (n + 1) c5)) g 105 #[.int .i64 i0, .int .i64 i1, .slice a5 (n + 1) c5, .slice oa on oc] := B3.set_ 2 _
  have O4 : Only [g] w3 (w3.setCell ⟨g, 2, none⟩ (.slice a5 (n + 1) c5)) := (Only.refl _ _).setCell _ _ (by simp)
  have o4 := o5.only O4 (fun k hk hk' => hg5 (by simp at hk'; subst hk'; exact hk))
  have S4 : Stp (g :: foot a c) w (g :: foot a5 c5) (w3.setCell ⟨g, 2, none⟩ (.slice a5 (n + 1) c5)) := ⟨((Only.of_below V1).trans (G3.more (fun k hk => by simp [hk]))).trans (O4.more (fun k hk => by simp at hk; simp [hk])), fun k hk => by
    rcases List.mem_cons.1 hk with rfl | hk
    · exact .inl (by simp)
    · rcases m5 with ⟨rfl, rfl⟩ | m5
      · exact .inl (by simp [hk])
      · obtain ⟨x, hx, hc, rfl⟩ := mem_foot hk
        have := m5 x hc hx
        exact .inr (by simp at this; omega)⟩
  clear o5 G3 V1 m5 g5 hB ho O4 B3
  go_wp2_with fail
  clear x0 x1 x2 x3 y2
  generalize (w3.setCell ⟨g, 2, none⟩ (.slice a5 (n + 1) c5)) = w4 at *
  refine (ciWires_any _ _ _ _ _ _ _ _ _ (by omega) (by omega) (by omega)).mono ?_; rintro e w5 ⟨rfl, u5⟩
  go_wp2
  go_ret
  refine ⟨ret_int (by omega), _, ⟨a5, n + 1, c5, B4.below u5, o4.below u5, hg5, hbg, rfl⟩, S4.below u5⟩
set_option maxHeartbeats 4000000 in
theorem sxor_any (ka : Int) (kb : Int) {oa : Option Addr} {on oc : Nat} (b g : Nat) (i0 i1 : Int) (G : List Int) (F : List Nat) (w : World) (h : Mk 105 w b g i0 i1 G F oa on oc) (hb : b ≤ w.heap.size) (h0 : 0 ≤ i0 ∧ i0 ≤ 1000) (h1 : 0 ≤ i1 ∧ i1 ≤ 1000) (hl : G.length ≤ 30000) :
    Calls Try.prog 102 #[.pointer (some ⟨g, 0, none⟩), .int .i64 ka, .int .i64 kb] w fun e w' => e = .returned (.int .i64 (gW (i0 + i1) G)) ∧ ∃ F', Mk 105 w' b g i0 i1 (gt G 0 ka kb) F' oa on oc ∧ Stp F w F' w' := by
  go_enter Try.func102, Try.ntmps102
  go_wp2_with fail
  refine (sgate_any 0 ka kb b g i0 i1 G F _ h hb h0 h1 hl).mono ?_; rintro e w1 ⟨rfl, F1, m1, s1⟩
  go_wp2
  go_ret
  exact ⟨rfl, F1, m1, s1⟩
set_option maxHeartbeats 4000000 in
theorem sand_any (ka : Int) (kb : Int) {oa : Option Addr} {on oc : Nat} (b g : Nat) (i0 i1 : Int) (G : List Int) (F : List Nat) (w : World) (h : Mk 105 w b g i0 i1 G F oa on oc) (hb : b ≤ w.heap.size) (h0 : 0 ≤ i0 ∧ i0 ≤ 1000) (h1 : 0 ≤ i1 ∧ i1 ≤ 1000) (hl : G.length ≤ 30000) :
    Calls Try.prog 101 #[.pointer (some ⟨g, 0, none⟩), .int .i64 ka, .int .i64 kb] w fun e w' => e = .returned (.int .i64 (gW (i0 + i1) G)) ∧ ∃ F', Mk 105 w' b g i0 i1 (gt G 1 ka kb) F' oa on oc ∧ Stp F w F' w' := by
  go_enter Try.func101, Try.ntmps101
  go_wp2_with fail
  refine (sgate_any 1 ka kb b g i0 i1 G F _ h hb h0 h1 hl).mono ?_; rintro e w1 ⟨rfl, F1, m1, s1⟩
  go_wp2
  go_ret
  exact ⟨rfl, F1, m1, s1⟩
set_option maxHeartbeats 4000000 in
theorem snot_any (ka : Int) {oa : Option Addr} {on oc : Nat} (b g : Nat) (i0 i1 : Int) (G : List Int) (F : List Nat) (w : World) (h : Mk 105 w b g i0 i1 G F oa on oc) (hb : b ≤ w.heap.size) (h0 : 0 ≤ i0 ∧ i0 ≤ 1000) (h1 : 0 ≤ i1 ∧ i1 ≤ 1000) (hl : G.length ≤ 30000) :
    Calls Try.prog 114 #[.pointer (some ⟨g, 0, none⟩), .int .i64 ka] w fun e w' => e = .returned (.int .i64 (gW (i0 + i1) G)) ∧ ∃ F', Mk 105 w' b g i0 i1 (gt G 2 ka 0) F' oa on oc ∧ Stp F w F' w' := by
  go_enter Try.func114, Try.ntmps114
  go_wp2_with fail
  refine (sgate_any 2 ka 0 b g i0 i1 G F _ h hb h0 h1 hl).mono ?_; rintro e w1 ⟨rfl, F1, m1, s1⟩
  go_wp2
  go_ret
  exact ⟨rfl, F1, m1, s1⟩
set_option maxHeartbeats 4000000 in
theorem sone_any {oa : Option Addr} {on oc : Nat} (b g : Nat) (i0 i1 : Int) (G : List Int) (F : List Nat) (w : World) (h : Mk 105 w b g i0 i1 G F oa on oc) (hb : b ≤ w.heap.size) (h0 : 0 ≤ i0 ∧ i0 ≤ 1000) (h1 : 0 ≤ i1 ∧ i1 ≤ 1000) (hl : G.length ≤ 30000) :
    Calls Try.prog 113 #[.pointer (some ⟨g, 0, none⟩)] w fun e w' => e = .returned (.int .i64 (gW (i0 + i1) G)) ∧ ∃ F', Mk 105 w' b g i0 i1 (gt G 3 0 0) F' oa on oc ∧ Stp F w F' w' := by
  go_enter Try.func113, Try.ntmps113
  go_wp2_with fail
  refine (sgate_any 3 0 0 b g i0 i1 G F _ h hb h0 h1 hl).mono ?_; rintro e w1 ⟨rfl, F1, m1, s1⟩
  go_wp2
  go_ret
  exact ⟨rfl, F1, m1, s1⟩
end Go.Proofs.Ytmbheimjphhamaa
namespace Go.Proofs.Ytmbheimjphhamaa
open Go.RowKit
theorem bits_and_i64_nat (a b : Nat) (ha : a < 9223372036854775808) (hb : b < 9223372036854775808) : bits BinOp.and IntKind.i64 (a : Int) (b : Int) = ((a &&& b : Nat) : Int) := by
  have hx : a &&& b < 2 ^ 63 := Nat.and_lt_two_pow _ (by omega)
  have h1 : (BitVec.ofInt 64 (a : Int)).toNat = a := by
    rw [BitVec.ofInt_natCast, BitVec.toNat_ofNat]; exact Nat.mod_eq_of_lt (by omega)
  have h2 : (BitVec.ofInt 64 (b : Int)).toNat = b := by
    rw [BitVec.ofInt_natCast, BitVec.toNat_ofNat]; exact Nat.mod_eq_of_lt (by omega)
  show IntKind.i64.wrap ((BitVec.ofInt 64 (a : Int) &&& BitVec.ofInt 64 (b : Int)).toNat : Int) = _
  rw [BitVec.toNat_and, h1, h2]
  exact IntWalk.i64_in _ (by omega)
/-- 'x & 1'. -/
theorem and_one_i64 (x : Int) (h : 0 ≤ x) (h1 : x ≤ 9223372036854775807) : bits BinOp.and IntKind.i64 x 1 = x % 2 := by
  have e := bits_and_i64_nat x.toNat 1 (by omega) (by omega)
  rw [Nat.and_one_is_mod, Int.toNat_of_nonneg h] at e
  exact e.trans (by omega)
theorem shr_rng (x : Int) (k : Nat) (h : 0 ≤ x) (h1 : x ≤ 1000000000) : 0 ≤ x / 2 ^ k ∧ x / 2 ^ k ≤ 1000000000 := by
  have hp : (0 : Int) < 2 ^ k := Int.pow_pos (by decide)
  exact ⟨Int.ediv_nonneg h (by omega), Int.le_trans (Int.ediv_le_self _ h) h1⟩
theorem shr_next (x : Int) (k : Nat) : x / 2 ^ k / 2 = x / 2 ^ (k + 1) := by rw [Int.ediv_ediv_of_nonneg (Int.le_of_lt (Int.pow_pos (by decide))), Int.pow_succ]
set_option maxHeartbeats 2000000 in
theorem span_any (x : Int) (n : Nat) (w : World) (hx : -1000000 ≤ x ∧ x ≤ 1000000) (hn : n ≤ 1000000) :
    Calls Try.prog 44 #[.int .i64 x, .int .i64 n] w fun e w' => ∃ a c, e = .returned (.slice a n c) ∧ Own w' w.heap.size a n c (spL x n) ∧ Below w.heap.size w w' := by
  go_enter Try.func44, Try.ntmps44
  go_wp2
  have own0 : Own (w.alloc (.cells #[] 3)) w.heap.size (some ⟨w.heap.size, 0, none⟩) 0 0 (spL x 0) := Own.nil0 _ _ _
  have bel0 : Below w.heap.size w (w.alloc (.cells #[] 3)) := (Below.refl _ _).alloc (Nat.le_refl _) _
  go_loopw [5, 9] (fun u v wr => ∃ k : Nat, k ≤ n ∧ v = .int .i64 k ∧ Below w.heap.size w wr ∧ ∃ a1 c1, u = .slice a1 k c1 ∧ Own wr w.heap.size a1 k c1 (spL x k)) (fun _ v _ => n - (intOf v).toNat)
  case atStart => exact ⟨0, by omega, rfl, bel0, _, _, rfl, own0⟩
  case round =>
    obtain ⟨k, hk, rfl, hbel, a1, c1, rfl, own⟩ := hrel
    by_cases hlt : k < n
    · have HS := Lib.hid (spL_succ x k)
      go_wp2_with (at_builtin; refine wpList_appI _ rfl _ _ rfl w.heap.size a1 k c1 (spL x k) rfl (own.alloc _) _ 1 1 [x + (k : Int)] rfl (Ints.lit1 _ _ _) (by omega) (by have := hbel.size; simp; omega) ?_)
      intro a5 c5 w3 o5 u5 _
      have b3 := (hbel.alloc hbel.size (.cells #[.int .i64 (x + (k : Int))] 3)).trans u5
      clear u5 hbel own
      go_wp2
      go_roundw
      case rel => exact ⟨k + 1, by omega, by go_num, b3, a5, c5, rfl, by rw [HS.out]; exact o5⟩
      case measure => simp [intOf]; omega
    · obtain rfl : k = n := by omega
      go_wp2
      go_ret
      exact ⟨a1, c1, rfl, own, hbel⟩
set_option maxHeartbeats 2000000 in
theorem gdRange_any (x : Int) (n : Nat) (w : World) (hx : -1000000 ≤ x ∧ x ≤ 1000000) (hn : n ≤ 1000000) :
    Calls Try.prog 104 #[.int .i64 x, .int .i64 n] w fun e w' => ∃ a c, e = .returned (.slice a n c) ∧ Own w' w.heap.size a n c (spL x n) ∧ Below w.heap.size w w' := by
  go_enter Try.func104, Try.ntmps104
  go_wp2
  have own0 : Own w w.heap.size none 0 0 (spL x 0) := Own.nil0 _ _ _
  have bel0 : Below w.heap.size w w := Below.refl _ _
  go_loopw [5, 6] (fun u v wr => ∃ k : Nat, k ≤ n ∧ v = .int .i64 k ∧ Below w.heap.size w wr ∧ ∃ a1 c1, u = .slice a1 k c1 ∧ Own wr w.heap.size a1 k c1 (spL x k)) (fun _ v _ => n - (intOf v).toNat)
  case atStart => exact ⟨0, by omega, rfl, bel0, _, _, rfl, own0⟩
  case round =>
    obtain ⟨k, hk, rfl, hbel, a1, c1, rfl, own⟩ := hrel
    by_cases hlt : k < n
    · have HS := Lib.hid (spL_succ x k)
      go_wp2_with (at_builtin; refine wpList_appI _ rfl _ _ rfl w.heap.size a1 k c1 (spL x k) rfl (own.alloc _) _ 1 1 [x + (k : Int)] rfl (Ints.lit1 _ _ _) (by omega) (by have := hbel.size; simp; omega) ?_)
      intro a5 c5 w3 o5 u5 _
      have b3 := (hbel.alloc hbel.size (.cells #[.int .i64 (x + (k : Int))] 3)).trans u5
      clear u5 hbel own
      go_wp2
      go_roundw
      case rel => exact ⟨k + 1, by omega, by go_num, b3, a5, c5, rfl, by rw [HS.out]; exact o5⟩
      case measure => simp [intOf]; omega
    · obtain rfl : k = n := by omega
      go_wp2
      go_ret
      exact ⟨a1, c1, rfl, own, hbel⟩
set_option maxHeartbeats 2000000 in
theorem btOf_any (x : Int) (n : Nat) (w : World) (hx : 0 ≤ x ∧ x ≤ 1000000000) (hn : n ≤ 60) :
    Calls Try.prog 65 #[.int .i64 x, .int .i64 n] w fun e w' => ∃ a c, e = .returned (.slice a n c) ∧ Own w' w.heap.size a n c (btL x n) ∧ Below w.heap.size w w' := by
  go_enter Try.func65, Try.ntmps65
  go_wp2
  have own0 : Own w w.heap.size none 0 0 (btL x 0) := Own.nil0 _ _ _
  have bel0 : Below w.heap.size w w := Below.refl _ _
  have hx0 : x / 2 ^ 0 = x := by simp
  go_loopw [5, 1, 0] (fun u v y wr => ∃ k : Nat, k ≤ n ∧ v = .int .i64 ((n - k : Nat) : Int) ∧ y = .int .i64 (x / 2 ^ k) ∧ Below w.heap.size w wr ∧ ∃ a1 c1, u = .slice a1 k c1 ∧ Own wr w.heap.size a1 k c1 (btL x k)) (fun _ v _ _ => (intOf v).toNat)
  case atStart => exact ⟨0, by omega, rfl, by rw [hx0], bel0, _, _, rfl, own0⟩
  case round =>
    obtain ⟨k, hk, rfl, rfl, hbel, a1, c1, rfl, own⟩ := hrel
    clear hx0 own0 bel0
    obtain ⟨r0, r1⟩ := shr_rng x k (by omega) (by omega)
    by_cases hlt : k < n
    · have HS := Lib.hid (btL_succ x k)
      have HN := Lib.hid (shr_next x k)
      obtain ⟨m, hm⟩ : ∃ m, n - k = m + 1 := ⟨n - k - 1, by omega⟩
      have HM := Lib.hid (show n - (k + 1) = m by omega)
      rw [hm]
      have hm60 : m ≤ 60 := by omega
      generalize x / 2 ^ k = X at *
      have t4 : X.tmod 2 = X % 2 := Int.tmod_eq_emod_of_nonneg r0
      have t5 : X.tdiv 2 = X / 2 := Int.tdiv_eq_ediv_of_nonneg r0
      clear hm
      go_wp2_with (at_builtin; refine wpList_appI _ rfl _ _ rfl w.heap.size a1 k c1 (btL x k) rfl (own.alloc _) _ 1 1 [X % 2] rfl (Ints.lit1 _ _ _) (by omega) (by have := hbel.size; simp; omega) ?_)
      intro a5 c5 w3 o5 u5 _
      have b3 := (hbel.alloc hbel.size (.cells #[.int .i64 (X % 2)] 3)).trans u5
      clear u5 hbel own
      go_wp2
      go_roundw
      case rel => exact ⟨k + 1, by omega, by rw [HM.out], v_int HN.out, b3, a5, c5, rfl, by rw [HS.out]; exact o5⟩
      case measure => simp [intOf]
    · obtain rfl : k = n := by omega
      rw [Nat.sub_self]
      go_wp2
      go_ret
      exact ⟨a1, c1, rfl, own, hbel⟩
end Go.Proofs.Ytmbheimjphhamaa
namespace Go.Proofs.Ytmbheimjphhamaa
open Go.RowKit
set_option maxHeartbeats 8000000 in
set_option maxRecDepth 100000 in
theorem choose_any (s : Int) (xa : Option Addr) (n xc : Nat) (X : List Int) (ya : Option Addr) (m yc : Nat) (Y : List Int) {oa : Option Addr} {on oc : Nat} (b g : Nat) (i0 i1 : Int) (G : List Int) (F : List Nat) (w : World) (h : Mk 82 w b g i0 i1 G F oa on oc) (hb : b ≤ w.heap.size) (h0 : 0 ≤ i0 ∧ i0 ≤ 1000) (h1 : 0 ≤ i1 ∧ i1 ≤ 1000) (dx : IntD w xa n xc X F) (dy : IntD w ya m yc Y F) (hnm : n ≤ m) (hn : n ≤ 1000) (hl : G.length ≤ 20000) :
    Calls Try.prog 41 #[.pointer (some ⟨g, 0, none⟩), .int .i64 s, .slice xa n xc, .slice ya m yc] w fun e w' => ∃ a1 c1 F', e = .returned (.slice a1 n c1) ∧ Own w' w.heap.size a1 n c1 (chG (i0 + i1) s X Y G n).2 ∧ Disj (foot a1 c1) F' ∧ Mk 82 w' b g i0 i1 (chG (i0 + i1) s X Y G n).1 F' oa on oc ∧ Stp F w F' w' := by
  have hle := dx.ints.le
  go_enter Try.func41, Try.ntmps41
  go_wp2
  go_loopw [9, 15] (fun u v wr => ∃ k F1, k ≤ n ∧ v = .int .i64 (k : Nat) ∧ (∃ a1 c1, u = .slice a1 k c1 ∧ Own wr w.heap.size a1 k c1 (chG (i0 + i1) s X Y G k).2 ∧ Disj (foot a1 c1) F1) ∧ Mk 82 wr b g i0 i1 (chG (i0 + i1) s X Y G k).1 F1 oa on oc ∧ Stp F w F1 wr) (fun _ v _ => n - (intOf v).toNat)
  case atStart => exact ⟨0, F, Nat.zero_le _, rfl, ⟨_, _, rfl, Own.nil0 _ _ _, foot_nil _ _⟩, h.alloc _, (Stp.refl _ _).alloc _⟩
  case round =>
    obtain ⟨k, F1, hk, rfl, ⟨a1, c1, rfl, own, dd⟩, M1, S1⟩ := hrel
    by_cases hlt : k < n
    · have hx : k < n := hlt
      have hy : k < m := by omega
      have hG := (chG_len (i0 + i1) s X Y G k).1
      have HS := Lib.hid (chG_succ (i0 + i1) s X Y G k)
      obtain ⟨gx, ox, hgx, _⟩ := dx.ints.at k hx
      obtain ⟨gy, oy, hgy, _⟩ := dy.ints.at k hy
      subst hgx hgy
      obtain ⟨x, ex⟩ : ∃ x, x = X.getD k 0 := ⟨_, rfl⟩
      obtain ⟨y, ey⟩ : ∃ y, y = Y.getD k 0 := ⟨_, rfl⟩
      rw [← ex, ← ey] at HS
      have Ex := Lib.hid ex
      have Ey := Lib.hid ey
      clear ex ey
      obtain ⟨⟨G1, o1⟩, hr⟩ : ∃ r, r = chG (i0 + i1) s X Y G k := ⟨_, rfl⟩
      rw [← hr] at HS hG M1 own
      clear hr
      have cx := (dx.stp S1).ints.cellsAt k hx
      rw [← Ex.out] at cx
      have cy := (dy.stp S1).ints.cellsAt k hy
      rw [← Ey.out] at cy
      go_wp2
      have Md0 := M1.drew
      go_region_held3 (fun W => W.cell? ⟨gx, ox + k, none⟩ = some (.int .i64 x) ∧ W.cell? ⟨gy, oy + k, none⟩ = some (.int .i64 y))
        (first | go_keep | exact (by have fx := ((dx.stp (S1.drew.trans (sm1.trans sm2))).ints.cellsAt k hx); have fy := ((dy.stp (S1.drew.trans (sm1.trans sm2))).ints.cellsAt k hy); rw [← Ex.out] at fx; rw [← Ey.out] at fy; exact ⟨fx, fy⟩) | exact (by have fx := ((dx.stp (S1.drew.trans sm1)).ints.cellsAt k hx); have fy := ((dy.stp (S1.drew.trans sm1)).ints.cellsAt k hy); rw [← Ex.out] at fx; rw [← Ey.out] at fy; exact ⟨fx, fy⟩))
        (first | (go_at_call 38; refine (xor_any _ _ b g i0 i1 _ F1 _ Md0 (Nat.le_trans hb S1.size) h0 h1 (by (try simp only [gt_len]); omega)).mono ?_; rintro e wm1 ⟨rfl, Fm1, Mm1, sm1⟩) | (go_at_call 37; refine (and_any _ _ b g i0 i1 _ Fm1 _ Mm1 (Nat.le_trans hb (S1.drew.trans sm1).size) h0 h1 (by (try simp only [gt_len]); omega)).mono ?_; rintro e wm2 ⟨rfl, Fm2, Mm2, sm2⟩))
      all_goals have st2 : Stp F1 wr.drew Fm2 wm2 := (sm1.trans sm2)
      all_goals have Sm2 := S1.drew.trans st2
      all_goals obtain ⟨om2, dm2⟩ := (own.below ((Below.refl _ _).drew)).stp dd st2
      all_goals clear own dd
      all_goals clear st2 M1 S1 Md0
      clear cx cy
      have cy := (dy.stp Sm2).ints.cellsAt k hy
      rw [← Ey.out] at cy
      go_wp2_with fail
      refine (xor_any _ _ b g i0 i1 _ Fm2 _ Mm2 (Nat.le_trans hb Sm2.size) h0 h1 (by (try simp only [gt_len]); omega)).mono ?_; rintro e wm3 ⟨rfl, Fm3, Mm3, sm3⟩
      have Sm3 := Sm2.trans sm3
      obtain ⟨om3, dm3⟩ := om2.stp dm2 sm3
      clear Mm2 Sm2 sm3 om2 dm2
      go_wp2_with (at_builtin; refine wpList_appJ _ rfl _ _ rfl w.heap.size a1 k c1 o1 rfl (om3.alloc _) _ 1 1 [_] rfl (Ints.lit1 _ _ _) (by omega) (by have := Sm3.size; simp; omega) ?_)
      intro am4 cm4 wm4 om4 _ gm4 mm4
      have Om4 := Only.of_grown gm4
      have Mm4 := Mk.only (Mk.alloc Mm3 _) Om4 dm3
      have Sm4 := Stp.onto (Stp.alloc Sm3 _) Om4 (fun k hk => (om3.feet k hk).1)
      have dm4 : Disj (foot am4 cm4) Fm3 := mm4.disj dm3 (fun k hk => by have := (Mm3.feet k hk).2; simp; omega)
      clear Mm3 Sm3 om3 dm3 Om4 gm4 mm4
      go_wp2
      go_roundw
      case rel => exact ⟨k + 1, Fm3, by omega, by go_num, ⟨_, _, rfl, by rw [HS.out]; exact om4, dm4⟩, by rw [HS.out]; exact Mm4, Sm4⟩
      case measure => simp [intOf]; omega
    · obtain rfl : k = n := by omega
      go_wp2
      go_ret
      exact ⟨_, _, F1, rfl, own, dd, M1, S1⟩
set_option maxHeartbeats 8000000 in
set_option maxRecDepth 100000 in
theorem gdPick_any (s : Int) (xa : Option Addr) (n xc : Nat) (X : List Int) (ya : Option Addr) (m yc : Nat) (Y : List Int) {oa : Option Addr} {on oc : Nat} (b g : Nat) (i0 i1 : Int) (G : List Int) (F : List Nat) (w : World) (h : Mk 105 w b g i0 i1 G F oa on oc) (hb : b ≤ w.heap.size) (h0 : 0 ≤ i0 ∧ i0 ≤ 1000) (h1 : 0 ≤ i1 ∧ i1 ≤ 1000) (dx : IntD w xa n xc X F) (dy : IntD w ya m yc Y F) (hnm : n ≤ m) (hn : n ≤ 1000) (hl : G.length ≤ 20000) :
    Calls Try.prog 103 #[.pointer (some ⟨g, 0, none⟩), .int .i64 s, .slice xa n xc, .slice ya m yc] w fun e w' => ∃ a1 c1 F', e = .returned (.slice a1 n c1) ∧ Own w' w.heap.size a1 n c1 (chG (i0 + i1) s X Y G n).2 ∧ Disj (foot a1 c1) F' ∧ Mk 105 w' b g i0 i1 (chG (i0 + i1) s X Y G n).1 F' oa on oc ∧ Stp F w F' w' := by
  have hle := dx.ints.le
  go_enter Try.func103, Try.ntmps103
  go_wp2
  go_loopw [9, 16] (fun u v wr => ∃ k F1, k ≤ n ∧ v = .int .i64 (k : Nat) ∧ (∃ a1 c1, u = .slice a1 k c1 ∧ Own wr w.heap.size a1 k c1 (chG (i0 + i1) s X Y G k).2 ∧ Disj (foot a1 c1) F1) ∧ Mk 105 wr b g i0 i1 (chG (i0 + i1) s X Y G k).1 F1 oa on oc ∧ Stp F w F1 wr) (fun _ v _ => n - (intOf v).toNat)
  case atStart => exact ⟨0, F, Nat.zero_le _, rfl, ⟨_, _, rfl, Own.nil0 _ _ _, foot_nil _ _⟩, h, Stp.refl _ _⟩
  case round =>
    obtain ⟨k, F1, hk, rfl, ⟨a1, c1, rfl, own, dd⟩, M1, S1⟩ := hrel
    by_cases hlt : k < n
    · have hx : k < n := hlt
      have hy : k < m := by omega
      have hG := (chG_len (i0 + i1) s X Y G k).1
      have HS := Lib.hid (chG_succ (i0 + i1) s X Y G k)
      obtain ⟨gx, ox, hgx, _⟩ := dx.ints.at k hx
      obtain ⟨gy, oy, hgy, _⟩ := dy.ints.at k hy
      subst hgx hgy
      obtain ⟨x, ex⟩ : ∃ x, x = X.getD k 0 := ⟨_, rfl⟩
      obtain ⟨y, ey⟩ : ∃ y, y = Y.getD k 0 := ⟨_, rfl⟩
      rw [← ex, ← ey] at HS
      have Ex := Lib.hid ex
      have Ey := Lib.hid ey
      clear ex ey
      obtain ⟨⟨G1, o1⟩, hr⟩ : ∃ r, r = chG (i0 + i1) s X Y G k := ⟨_, rfl⟩
      rw [← hr] at HS hG M1 own
      clear hr
      have cx := (dx.stp S1).ints.cellsAt k hx
      rw [← Ex.out] at cx
      have cy := (dy.stp S1).ints.cellsAt k hy
      rw [← Ey.out] at cy
      go_wp2_with fail
      refine (sxor_any _ _ b g i0 i1 _ F1 _ M1 (Nat.le_trans hb S1.size) h0 h1 (by (try simp only [gt_len]); omega)).mono ?_; rintro e wm1 ⟨rfl, Fm1, Mm1, sm1⟩
      have Sm1 := S1.trans sm1
      obtain ⟨om1, dm1⟩ := own.stp dd sm1
      clear M1 S1 sm1 own dd
      clear cx cy
      go_wp2_with fail
      refine (sand_any _ _ b g i0 i1 _ Fm1 _ Mm1 (Nat.le_trans hb Sm1.size) h0 h1 (by (try simp only [gt_len]); omega)).mono ?_; rintro e wm2 ⟨rfl, Fm2, Mm2, sm2⟩
      have Sm2 := Sm1.trans sm2
      obtain ⟨om2, dm2⟩ := om1.stp dm1 sm2
      clear Mm1 Sm1 sm2 om1 dm1
      have cy := (dy.stp Sm2).ints.cellsAt k hy
      rw [← Ey.out] at cy
      go_wp2_with fail
      refine (sxor_any _ _ b g i0 i1 _ Fm2 _ Mm2 (Nat.le_trans hb Sm2.size) h0 h1 (by (try simp only [gt_len]); omega)).mono ?_; rintro e wm3 ⟨rfl, Fm3, Mm3, sm3⟩
      have Sm3 := Sm2.trans sm3
      obtain ⟨om3, dm3⟩ := om2.stp dm2 sm3
      clear Mm2 Sm2 sm3 om2 dm2
      go_wp2_with (at_builtin; refine wpList_appJ _ rfl _ _ rfl w.heap.size a1 k c1 o1 rfl (om3.alloc _) _ 1 1 [_] rfl (Ints.lit1 _ _ _) (by omega) (by have := Sm3.size; simp; omega) ?_)
      intro am4 cm4 wm4 om4 _ gm4 mm4
      have Om4 := Only.of_grown gm4
      have Mm4 := Mk.only (Mk.alloc Mm3 _) Om4 dm3
      have Sm4 := Stp.onto (Stp.alloc Sm3 _) Om4 (fun k hk => (om3.feet k hk).1)
      have dm4 : Disj (foot am4 cm4) Fm3 := mm4.disj dm3 (fun k hk => by have := (Mm3.feet k hk).2; simp; omega)
      clear Mm3 Sm3 om3 dm3 Om4 gm4 mm4
      go_wp2
      go_roundw
      case rel => exact ⟨k + 1, Fm3, by omega, by go_num, ⟨_, _, rfl, by rw [HS.out]; exact om4, dm4⟩, by rw [HS.out]; exact Mm4, Sm4⟩
      case measure => simp [intOf]; omega
    · obtain rfl : k = n := by omega
      go_wp2
      go_ret
      exact ⟨_, _, F1, rfl, own, dd, M1, S1⟩
end Go.Proofs.Ytmbheimjphhamaa
