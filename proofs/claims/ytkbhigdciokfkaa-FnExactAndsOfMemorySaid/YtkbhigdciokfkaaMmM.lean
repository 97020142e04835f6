/- The plain model of circuits of cells: matches, scans, trees, writes, turns. -/
import Derived.Test.YtkbhigdciokfkaaMkM
namespace Go.Proofs.Ytkbhigdciokfkaa
open Go.RowKit
/-- The wires of a match: those of an index, or their opposites. -/
def mnS (B i : Int) (k : Nat) (x : Int) (r : List Int × List Int) : List Int × List Int :=
  if i / 2 ^ k % 2 = 1 then (r.1, r.2 ++ [x]) else (gt r.1 2 x 0, r.2 ++ [gW B r.1])
def mnG (B i : Int) (idx G : List Int) : Nat → List Int × List Int
  | 0 => (G, [])
  | k + 1 => mnS B i k (idx.getD k 0) (mnG B i idx G k)
theorem mnG_succ (B i : Int) (idx G : List Int) (k : Nat) : mnG B i idx G (k + 1) = mnS B i k (idx.getD k 0) (mnG B i idx G k) := rfl
theorem mnG_len (B i : Int) (idx G : List Int) (k : Nat) : (mnG B i idx G k).1.length ≤ G.length + 3 * k ∧ (mnG B i idx G k).2.length = k := by
  induction k with
  | zero => simp [mnG]
  | succ k ih => rw [mnG_succ]; unfold mnS; split <;> simp only [gt_len, List.length_append, List.length_cons, List.length_nil] <;> omega
/-- The conjunction of wires. -/
def anS (B x : Int) (r : List Int × Int) : List Int × Int := (gt r.1 1 r.2 x, gW B r.1)
def anG (B : Int) (l G : List Int) : Nat → List Int × Int
  | 0 => (G, l.getD 0 0)
  | j + 1 => anS B (l.getD (j + 1) 0) (anG B l G j)
theorem anG_succ (B : Int) (l G : List Int) (j : Nat) : anG B l G (j + 1) = anS B (l.getD (j + 1) 0) (anG B l G j) := rfl
theorem anG_len (B : Int) (l G : List Int) (j : Nat) : (anG B l G j).1.length = G.length + 3 * j := by
  induction j with
  | zero => rfl
  | succ j ih => rw [anG_succ]; unfold anS; rw [gt_len]; omega
def maG (B i : Int) (idx G : List Int) : List Int × Int :=
  if idx.length = 0 then (gt G 3 0 0, gW B G) else anG B (mnG B i idx G idx.length).2 (mnG B i idx G idx.length).1 (idx.length - 1)
theorem maG_len (B i : Int) (idx G : List Int) : (maG B i idx G).1.length ≤ G.length + 6 * idx.length + 3 := by
  unfold maG
  have := mnG_len B i idx G idx.length
  split
  · simp only [gt_len]; omega
  · rw [anG_len]; omega
/-- A cell of a scan: k bits; first: it is the first cell. -/
def scS (B m x o : Int) (first : Bool) (r : List Int × List Int) : List Int × List Int :=
  if first then (gt r.1 1 m x, r.2 ++ [gW B r.1]) else (gt (gt r.1 1 m x) 0 o (gW B r.1), r.2 ++ [gW B (gt r.1 1 m x)])
def scI (B m : Int) (cell out : List Int) (first : Bool) (G : List Int) : Nat → List Int × List Int
  | 0 => (G, [])
  | k + 1 => scS B m (cell.getD k 0) (out.getD k 0) first (scI B m cell out first G k)
theorem scI_succ (B m : Int) (cell out : List Int) (first : Bool) (G : List Int) (k : Nat) : scI B m cell out first G (k + 1) = scS B m (cell.getD k 0) (out.getD k 0) first (scI B m cell out first G k) := rfl
theorem scI_len (B m : Int) (cell out : List Int) (first : Bool) (G : List Int) (k : Nat) : (scI B m cell out first G k).1.length ≤ G.length + 6 * k ∧ (scI B m cell out first G k).2.length = k := by
  induction k with
  | zero => simp [scI]
  | succ k ih => rw [scI_succ]; unfold scS; split <;> simp only [gt_len, List.length_append, List.length_cons, List.length_nil] <;> omega
def scT (B : Int) (i : Nat) (idx cell : List Int) (r : List Int × List Int) : List Int × List Int :=
  scI B (maG B i idx r.1).2 cell r.2 (i == 0) (maG B i idx r.1).1 cell.length
def scG (B : Int) (idx : List Int) (cells : List (List Int)) (G : List Int) : Nat → List Int × List Int
  | 0 => (G, [])
  | i + 1 => scT B i idx (cells.getD i []) (scG B idx cells G i)
theorem scG_succ (B : Int) (idx : List Int) (cells : List (List Int)) (G : List Int) (i : Nat) : scG B idx cells G (i + 1) = scT B i idx (cells.getD i []) (scG B idx cells G i) := rfl
/-- All rows have a length. -/
def AllL (w : Nat) (cells : List (List Int)) : Prop := ∀ r ∈ cells, r.length = w
theorem AllL.at {w : Nat} {cells : List (List Int)} (h : AllL w cells) (k : Nat) (hk : k < cells.length) : (cells.getD k []).length = w := h _ (by simp [List.getD, hk])
theorem AllL.nil (w : Nat) : AllL w [] := fun r hr => by cases hr
theorem AllL.push {w : Nat} {cells : List (List Int)} {r : List Int} (h : AllL w cells) (hr : r.length = w) : AllL w (cells ++ [r]) := fun x hx => by
  rcases List.mem_append.1 hx with hx | hx
  · exact h x hx
  · rw [List.mem_singleton] at hx; subst hx; exact hr
theorem scG_len {B : Int} {idx : List Int} {cells : List (List Int)} {G : List Int} {w : Nat} (h : AllL w cells) (i : Nat) (hi : i ≤ cells.length) :
    (scG B idx cells G i).1.length ≤ G.length + (6 * idx.length + 3 + 6 * w) * i ∧ (0 < i → (scG B idx cells G i).2.length = w) := by
  induction i with
  | zero => simp [scG]
  | succ i ih =>
    obtain ⟨h1, _⟩ := ih (by omega)
    have h3 := h.at i (by omega)
    rw [scG_succ]
    unfold scT
    have h4 := maG_len B i idx (scG B idx cells G i).1
    have h5 := scI_len B (maG B i idx (scG B idx cells G i).1).2 (cells.getD i []) (scG B idx cells G i).2 (i == 0) (maG B i idx (scG B idx cells G i).1).1 (cells.getD i []).length
    rw [h3] at h5
    rw [h3]
    refine ⟨?_, fun _ => h5.2⟩
    rw [Nat.mul_add]
    omega
/-- A level of a tree: j pairs. -/
def trS (B b : Int) (j : Nat) (cells : List (List Int)) (r : List Int × List (List Int)) : List Int × List (List Int) :=
  if 2 * j + 1 = cells.length then (r.1, r.2 ++ [cells.getD (2 * j) []])
  else ((chG B b (cells.getD (2 * j + 1) []) (cells.getD (2 * j) []) r.1 (cells.getD (2 * j + 1) []).length).1, r.2 ++ [(chG B b (cells.getD (2 * j + 1) []) (cells.getD (2 * j) []) r.1 (cells.getD (2 * j + 1) []).length).2])
def trJ (B b : Int) (cells : List (List Int)) (G : List Int) : Nat → List Int × List (List Int)
  | 0 => (G, [])
  | j + 1 => trS B b j cells (trJ B b cells G j)
theorem trJ_succ (B b : Int) (cells : List (List Int)) (G : List Int) (j : Nat) : trJ B b cells G (j + 1) = trS B b j cells (trJ B b cells G j) := rfl
theorem trJ_len {B b : Int} {cells : List (List Int)} {G : List Int} {w : Nat} (h : AllL w cells) (j : Nat) (hj : 2 * j ≤ cells.length + 1) :
    (trJ B b cells G j).1.length ≤ G.length + 9 * w * j ∧ (trJ B b cells G j).2.length = j ∧ AllL w (trJ B b cells G j).2 := by
  induction j with
  | zero => exact ⟨by simp [trJ], rfl, AllL.nil w⟩
  | succ j ih =>
    obtain ⟨h1, h2, h3⟩ := ih (by omega)
    rw [trJ_succ]
    unfold trS
    have e : 9 * w * (j + 1) = 9 * w * j + 9 * w := by rw [Nat.mul_add, Nat.mul_one]
    split
    · exact ⟨by simp only; omega, by simp [h2], h3.push (h.at _ (by omega))⟩
    · have h5 := h.at (2 * j + 1) (by omega)
      have h6 := chG_len B b (cells.getD (2 * j + 1) []) (cells.getD (2 * j) []) (trJ B b cells G j).1 (cells.getD (2 * j + 1) []).length
      refine ⟨by simp only; omega, by simp [h2], h3.push (by omega)⟩
def trG (B : Int) (idx : List Int) (cells : List (List Int)) (G : List Int) : Nat → List Int × List (List Int)
  | 0 => (G, cells)
  | k + 1 => trJ B (idx.getD k 0) (trG B idx cells G k).2 (trG B idx cells G k).1 (((trG B idx cells G k).2.length + 1) / 2)
theorem trG_succ (B : Int) (idx : List Int) (cells : List (List Int)) (G : List Int) (k : Nat) : trG B idx cells G (k + 1) = trJ B (idx.getD k 0) (trG B idx cells G k).2 (trG B idx cells G k).1 (((trG B idx cells G k).2.length + 1) / 2) := rfl
theorem trG_len {B : Int} {idx : List Int} {cells : List (List Int)} {G : List Int} {w : Nat} (h : AllL w cells) (h0 : 0 < cells.length) (h8 : cells.length ≤ 8) (k : Nat) :
    (trG B idx cells G k).1.length ≤ G.length + 36 * w * k ∧ (0 < (trG B idx cells G k).2.length ∧ (trG B idx cells G k).2.length ≤ 8) ∧ AllL w (trG B idx cells G k).2 := by
  induction k with
  | zero => exact ⟨by simp [trG], ⟨h0, h8⟩, h⟩
  | succ k ih =>
    obtain ⟨h1, h2, h3⟩ := ih
    rw [trG_succ]
    generalize trG B idx cells G k = r at *
    obtain ⟨a1, a2, a3⟩ := trJ_len (B := B) (b := idx.getD k 0) (G := r.1) h3 ((r.2.length + 1) / 2) (by omega)
    refine ⟨?_, by omega, a3⟩
    have e : 36 * w * (k + 1) = 36 * w * k + 36 * w := by rw [Nat.mul_add, Nat.mul_one]
    have e2 : 9 * w * ((r.2.length + 1) / 2) ≤ 9 * w * 4 := Nat.mul_le_mul_left _ (by omega)
    omega
/-- A write: i cells. -/
def wrS (B : Int) (i : Nat) (idx value cell : List Int) (r : List Int × List Int) : List Int × List Int :=
  ((chG B (maG B i idx r.1).2 value cell (maG B i idx r.1).1 value.length).1, r.2 ++ (chG B (maG B i idx r.1).2 value cell (maG B i idx r.1).1 value.length).2)
def wrG (B : Int) (idx value : List Int) (cells : List (List Int)) (G : List Int) : Nat → List Int × List Int
  | 0 => (G, [])
  | i + 1 => wrS B i idx value (cells.getD i []) (wrG B idx value cells G i)
theorem wrG_succ (B : Int) (idx value : List Int) (cells : List (List Int)) (G : List Int) (i : Nat) : wrG B idx value cells G (i + 1) = wrS B i idx value (cells.getD i []) (wrG B idx value cells G i) := rfl
theorem wrG_len (B : Int) (idx value : List Int) (cells : List (List Int)) (G : List Int) (i : Nat) :
    (wrG B idx value cells G i).1.length ≤ G.length + (6 * idx.length + 3 + 9 * value.length) * i ∧ (wrG B idx value cells G i).2.length = value.length * i := by
  induction i with
  | zero => simp [wrG]
  | succ i ih =>
    rw [wrG_succ]
    generalize wrG B idx value cells G i = r at *
    unfold wrS
    have h4 := maG_len B i idx r.1
    have h5 := chG_len B (maG B i idx r.1).2 value (cells.getD i []) (maG B i idx r.1).1 value.length
    simp only [List.length_append]
    rw [Nat.mul_add, Nat.mul_add]
    omega
/-- A turn by 2 ^ k: j cells. -/
def tuS (B b : Int) (s j : Nat) (cells : List (List Int)) (r : List Int × List (List Int)) : List Int × List (List Int) :=
  ((chG B b (cells.getD ((j + s) % cells.length) []) (cells.getD j []) r.1 (cells.getD ((j + s) % cells.length) []).length).1, r.2 ++ [(chG B b (cells.getD ((j + s) % cells.length) []) (cells.getD j []) r.1 (cells.getD ((j + s) % cells.length) []).length).2])
def tuJ (B b : Int) (s : Nat) (cells : List (List Int)) (G : List Int) : Nat → List Int × List (List Int)
  | 0 => (G, [])
  | j + 1 => tuS B b s j cells (tuJ B b s cells G j)
theorem tuJ_succ (B b : Int) (s : Nat) (cells : List (List Int)) (G : List Int) (j : Nat) : tuJ B b s cells G (j + 1) = tuS B b s j cells (tuJ B b s cells G j) := rfl
theorem tuJ_len {B b : Int} {s : Nat} {cells : List (List Int)} {G : List Int} {w : Nat} (h : AllL w cells) (j : Nat) (hj : j ≤ cells.length) :
    (tuJ B b s cells G j).1.length ≤ G.length + 9 * w * j ∧ (tuJ B b s cells G j).2.length = j ∧ AllL w (tuJ B b s cells G j).2 := by
  induction j with
  | zero => exact ⟨by simp [tuJ], rfl, AllL.nil w⟩
  | succ j ih =>
    obtain ⟨h1, h2, h3⟩ := ih (by omega)
    rw [tuJ_succ]
    unfold tuS
    have e : 9 * w * (j + 1) = 9 * w * j + 9 * w := by rw [Nat.mul_add, Nat.mul_one]
    have h5 := h.at ((j + s) % cells.length) (Nat.mod_lt _ (by omega))
    have h6 := chG_len B b (cells.getD ((j + s) % cells.length) []) (cells.getD j []) (tuJ B b s cells G j).1 (cells.getD ((j + s) % cells.length) []).length
    exact ⟨by simp only; omega, by simp [h2], h3.push (by omega)⟩
def tuG (B : Int) (idx : List Int) (cells : List (List Int)) (G : List Int) : Nat → List Int × List (List Int)
  | 0 => (G, cells)
  | k + 1 => tuJ B (idx.getD k 0) (2 ^ k) (tuG B idx cells G k).2 (tuG B idx cells G k).1 (tuG B idx cells G k).2.length
theorem tuG_succ (B : Int) (idx : List Int) (cells : List (List Int)) (G : List Int) (k : Nat) : tuG B idx cells G (k + 1) = tuJ B (idx.getD k 0) (2 ^ k) (tuG B idx cells G k).2 (tuG B idx cells G k).1 (tuG B idx cells G k).2.length := rfl
theorem tuG_len {B : Int} {idx : List Int} {cells : List (List Int)} {G : List Int} {w : Nat} (h : AllL w cells) (k : Nat) :
    (tuG B idx cells G k).1.length ≤ G.length + 9 * w * cells.length * k ∧ (tuG B idx cells G k).2.length = cells.length ∧ AllL w (tuG B idx cells G k).2 := by
  induction k with
  | zero => exact ⟨by simp [tuG], rfl, h⟩
  | succ k ih =>
    obtain ⟨h1, h2, h3⟩ := ih
    rw [tuG_succ]
    generalize tuG B idx cells G k = r at *
    obtain ⟨a1, a2, a3⟩ := tuJ_len (B := B) (b := idx.getD k 0) (s := 2 ^ k) (G := r.1) h3 r.2.length (Nat.le_refl _)
    have e : 9 * w * cells.length * (k + 1) = 9 * w * cells.length * k + 9 * w * cells.length := by rw [Nat.mul_add, Nat.mul_one]
    have e2 : 9 * w * r.2.length = 9 * w * cells.length := by rw [h2]
    exact ⟨by omega, by omega, a3⟩
theorem flatten_len {w : Nat} {l : List (List Int)} (h : AllL w l) : l.flatten.length = w * l.length := by
  induction l with
  | nil => rfl
  | cons r l ih => rw [List.flatten_cons, List.length_append, h r (by simp), ih (fun x hx => h x (by simp [hx])), List.length_cons, Nat.mul_add, Nat.mul_one, Nat.add_comm]
/-- The cells' wires. -/
def ceL (w n : Nat) : List (List Int) := (List.range n).map fun (i : Nat) => spL ((i : Int) * w) w
theorem ceL_succ (w n : Nat) : ceL w (n + 1) = ceL w n ++ [spL ((n : Int) * w) w] := by simp [ceL, List.range_succ]
theorem ceL_len (w n : Nat) : (ceL w n).length = n := by simp [ceL]
theorem ceL_all (w n : Nat) : AllL w (ceL w n) := fun r hr => by
  simp only [ceL, List.mem_map, List.mem_range] at hr
  obtain ⟨i, _, rfl⟩ := hr
  exact spL_len _ _
/-- The circuits of n cells of w bits, v the index's width: gates and outs, by kinds. -/
def meI (n w v : Nat) : List Int := spL ((n * w : Nat) : Int) v
def meB (n w v more : Nat) : Int := ((n * w : Nat) : Int) + ((v + more : Nat) : Int)
def meScG (n w v : Nat) : List Int × List Int := scG (meB n w v 0) (meI n w v) (ceL w n) [] n
def meTrG (n w v : Nat) : List Int × List Int := ((trG (meB n w v 0) (meI n w v) (ceL w n) [] v).1, (trG (meB n w v 0) (meI n w v) (ceL w n) [] v).2.getD 0 [])
def meWrG (n w v : Nat) : List Int × List Int := wrG (meB n w v w) (meI n w v) (spL ((n * w : Nat) + v : Int) w) (ceL w n) [] n
def meTuG (n w v : Nat) : List Int × List Int := ((tuG (meB n w v 0) (meI n w v) (ceL w n) [] v).1, (tuG (meB n w v 0) (meI n w v) (ceL w n) [] v).2.flatten)
end Go.Proofs.Ytkbhigdciokfkaa
