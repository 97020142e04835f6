/- Circuits of cells are valid. -/
import Derived.Test.YtkbhigdciokfkaaMkV
import Derived.Test.YtkbhigdciokfkaaMmM
namespace Go.Proofs.Ytkbhigdciokfkaa
open Go.RowKit
theorem mnG_good {B i : Int} {idx G : List Int} (h : Gd B G) (hx : Ws B G idx) (n : Nat) (hn : n ≤ idx.length) :
    Gd B (mnG B i idx G n).1 ∧ Mo B G (mnG B i idx G n).1 ∧ Ws B (mnG B i idx G n).1 (mnG B i idx G n).2 := by
  induction n with
  | zero => exact ⟨h, Mo.refl _ _, Ws.nil _ _⟩
  | succ n ih =>
    obtain ⟨g, m, r⟩ := ih (by omega)
    rw [mnG_succ]
    generalize mnG B i idx G n = q at *
    have wx := m.wr (hx.at n (by omega))
    generalize idx.getD n 0 = u at *
    unfold mnS
    split
    · exact ⟨g, m, r.app (Ws.one wx)⟩
    · have k := Mo.gt B q.1 2 u 0
      exact ⟨g.not wx, m.trans k, (k.ws r).app (Ws.one (Wr.new h.1 2 u 0))⟩
theorem anG_good {B : Int} {l G : List Int} (h : Gd B G) (hl : Ws B G l) (j : Nat) (hj : j < l.length) :
    Gd B (anG B l G j).1 ∧ Mo B G (anG B l G j).1 ∧ Wr B (anG B l G j).1 (anG B l G j).2 := by
  induction j with
  | zero => exact ⟨h, Mo.refl _ _, hl.at 0 hj⟩
  | succ j ih =>
    obtain ⟨g, m, r⟩ := ih (by omega)
    rw [anG_succ]
    have wx := m.wr (hl.at (j + 1) hj)
    generalize anG B l G j = q at *
    unfold anS
    exact ⟨g.and r wx, m.trans (Mo.gt _ _ _ _ _), Wr.new h.1 _ _ _⟩
theorem maG_good {B i : Int} {idx G : List Int} (h : Gd B G) (hx : Ws B G idx) : Gd B (maG B i idx G).1 ∧ Mo B G (maG B i idx G).1 ∧ Wr B (maG B i idx G).1 (maG B i idx G).2 := by
  unfold maG
  split
  · exact ⟨h.one, Mo.gt _ _ _ _ _, Wr.new h.1 _ _ _⟩
  · obtain ⟨g, m, r⟩ := mnG_good (i := i) h hx idx.length (Nat.le_refl _)
    obtain ⟨g2, m2, r2⟩ := anG_good g r (idx.length - 1) (by rw [(mnG_len B i idx G idx.length).2]; omega)
    exact ⟨g2, m.trans m2, r2⟩
theorem scI_good {B m : Int} {cell out G : List Int} {first : Bool} (h : Gd B G) (hm : Wr B G m) (hc : Ws B G cell) (ho : first = false → Ws B G out ∧ cell.length ≤ out.length) (n : Nat) (hn : n ≤ cell.length) :
    Gd B (scI B m cell out first G n).1 ∧ Mo B G (scI B m cell out first G n).1 ∧ Ws B (scI B m cell out first G n).1 (scI B m cell out first G n).2 := by
  induction n with
  | zero => exact ⟨h, Mo.refl _ _, Ws.nil _ _⟩
  | succ n ih =>
    obtain ⟨g, k, r⟩ := ih (by omega)
    rw [scI_succ]
    have wx := k.wr (hc.at n (by omega))
    have wm := k.wr hm
    have wo : first = false → Wr B (scI B m cell out first G n).1 (out.getD n 0) := fun e => k.wr ((ho e).1.at n (by have := (ho e).2; omega))
    generalize scI B m cell out first G n = q at *
    generalize cell.getD n 0 = x at *
    generalize out.getD n 0 = o at *
    have g1 := g.and wm wx
    have k1 := Mo.gt B q.1 1 m x
    have n1 := Wr.new (G := q.1) h.1 1 m x
    unfold scS
    cases first
    · simp only [Bool.false_eq_true, if_false]
      have k2 := Mo.gt B (gt q.1 1 m x) 0 o (gW B q.1)
      have n2 := Wr.new (G := gt q.1 1 m x) h.1 0 o (gW B q.1)
      exact ⟨g1.xor (k1.wr (wo rfl)) n1, k.trans (k1.trans k2), ((k1.trans k2).ws r).app (Ws.one n2)⟩
    · simp only [if_true]
      exact ⟨g1, k.trans k1, (k1.ws r).app (Ws.one n1)⟩
/-- The wires of all rows are there. -/
def Wa (B : Int) (G : List Int) (cells : List (List Int)) : Prop := ∀ r ∈ cells, Ws B G r
theorem Wa.at {B G cells} (h : Wa B G cells) (k : Nat) (hk : k < cells.length) : Ws B G (cells.getD k []) := h _ (by simp [List.getD, hk])
theorem Mo.wa {B G G' cells} (h : Mo B G G') (k : Wa B G cells) : Wa B G' cells := fun r hr => h.ws (k r hr)
theorem Wa.push {B G cells r} (h : Wa B G cells) (k : Ws B G r) : Wa B G (cells ++ [r]) := fun x hx => by
  rcases List.mem_append.1 hx with hx | hx
  · exact h x hx
  · rw [List.mem_singleton] at hx; subst hx; exact k
theorem Wa.nil (B : Int) (G : List Int) : Wa B G [] := fun r hr => by cases hr
theorem Wa.flat {B G cells} (h : Wa B G cells) : Ws B G cells.flatten := fun x hx => by
  obtain ⟨r, hr, hx⟩ := List.mem_flatten.1 hx
  exact h r hr x hx
theorem scG_good {B : Int} {idx : List Int} {cells : List (List Int)} {G : List Int} {w : Nat} (h : Gd B G) (hx : Ws B G idx) (hc : Wa B G cells) (hw : AllL w cells) (i : Nat) (hi : i ≤ cells.length) :
    Gd B (scG B idx cells G i).1 ∧ Mo B G (scG B idx cells G i).1 ∧ Ws B (scG B idx cells G i).1 (scG B idx cells G i).2 := by
  induction i with
  | zero => exact ⟨h, Mo.refl _ _, Ws.nil _ _⟩
  | succ i ih =>
    obtain ⟨g, k, r⟩ := ih (by omega)
    have hl := (scG_len (B := B) (idx := idx) (G := G) hw i (by omega)).2
    have hc2 := k.wa hc |>.at i (by omega)
    have hl2 := hw.at i (by omega)
    rw [scG_succ]
    generalize scG B idx cells G i = q at *
    generalize cells.getD i [] = C at *
    unfold scT
    obtain ⟨g2, k2, r2⟩ := maG_good (i := (i : Int)) g (k.ws hx)
    obtain ⟨g3, k3, r3⟩ := scI_good (out := q.2) (first := i == 0) g2 r2 (k2.ws hc2) (fun e => ⟨k2.ws r, by rw [hl (by cases i with | zero => cases e | succ i => omega)]; omega⟩) C.length (Nat.le_refl _)
    exact ⟨g3, k.trans (k2.trans k3), r3⟩
theorem trJ_good {B b : Int} {cells : List (List Int)} {G : List Int} {w : Nat} (h : Gd B G) (hb : Wr B G b) (hc : Wa B G cells) (hw : AllL w cells) (j : Nat) (hj : 2 * j ≤ cells.length + 1) :
    Gd B (trJ B b cells G j).1 ∧ Mo B G (trJ B b cells G j).1 ∧ Wa B (trJ B b cells G j).1 (trJ B b cells G j).2 := by
  induction j with
  | zero => exact ⟨h, Mo.refl _ _, Wa.nil _ _⟩
  | succ j ih =>
    obtain ⟨g, k, r⟩ := ih (by omega)
    rw [trJ_succ]
    generalize trJ B b cells G j = q at *
    unfold trS
    split
    · exact ⟨g, k, r.push ((k.wa hc).at _ (by omega))⟩
    · have e1 := hw.at (2 * j) (by omega)
      have e2 := hw.at (2 * j + 1) (by omega)
      obtain ⟨g2, k2, r2⟩ := chG_good g (k.wr hb) ((k.wa hc).at (2 * j + 1) (by omega)) ((k.wa hc).at (2 * j) (by omega)) (cells.getD (2 * j + 1) []).length (Nat.le_refl _) (by omega)
      exact ⟨g2, k.trans k2, (k2.wa r).push r2⟩
theorem trG_good {B : Int} {idx : List Int} {cells : List (List Int)} {G : List Int} {w : Nat} (h : Gd B G) (hx : Ws B G idx) (hc : Wa B G cells) (hw : AllL w cells) (h0 : 0 < cells.length) (h8 : cells.length ≤ 8) (k : Nat) (hk : k ≤ idx.length) :
    Gd B (trG B idx cells G k).1 ∧ Mo B G (trG B idx cells G k).1 ∧ Wa B (trG B idx cells G k).1 (trG B idx cells G k).2 := by
  induction k with
  | zero => exact ⟨h, Mo.refl _ _, hc⟩
  | succ k ih =>
    obtain ⟨g, m, r⟩ := ih (by omega)
    obtain ⟨_, _, hw2⟩ := trG_len (B := B) (idx := idx) (G := G) hw h0 h8 k
    rw [trG_succ]
    have wx := m.wr (hx.at k (by omega))
    generalize trG B idx cells G k = q at *
    obtain ⟨g2, k2, r2⟩ := trJ_good g wx r hw2 ((q.2.length + 1) / 2) (by omega)
    exact ⟨g2, m.trans k2, r2⟩
theorem wrG_good {B : Int} {idx value : List Int} {cells : List (List Int)} {G : List Int} {w : Nat} (h : Gd B G) (hx : Ws B G idx) (hv : Ws B G value) (hc : Wa B G cells) (hw : AllL w cells) (hvl : value.length = w) (i : Nat) (hi : i ≤ cells.length) :
    Gd B (wrG B idx value cells G i).1 ∧ Mo B G (wrG B idx value cells G i).1 ∧ Ws B (wrG B idx value cells G i).1 (wrG B idx value cells G i).2 := by
  induction i with
  | zero => exact ⟨h, Mo.refl _ _, Ws.nil _ _⟩
  | succ i ih =>
    obtain ⟨g, k, r⟩ := ih (by omega)
    have hc2 := (k.wa hc).at i (by omega)
    have hl2 := hw.at i (by omega)
    rw [wrG_succ]
    generalize wrG B idx value cells G i = q at *
    generalize cells.getD i [] = C at *
    unfold wrS
    obtain ⟨g2, k2, r2⟩ := maG_good (i := (i : Int)) g (k.ws hx)
    obtain ⟨g3, k3, r3⟩ := chG_good g2 r2 (k2.ws (k.ws hv)) (k2.ws hc2) value.length (Nat.le_refl _) (by omega)
    exact ⟨g3, k.trans (k2.trans k3), ((k2.trans k3).ws r).app r3⟩
theorem tuJ_good {B b : Int} {s : Nat} {cells : List (List Int)} {G : List Int} {w : Nat} (h : Gd B G) (hb : Wr B G b) (hc : Wa B G cells) (hw : AllL w cells) (j : Nat) (hj : j ≤ cells.length) :
    Gd B (tuJ B b s cells G j).1 ∧ Mo B G (tuJ B b s cells G j).1 ∧ Wa B (tuJ B b s cells G j).1 (tuJ B b s cells G j).2 := by
  induction j with
  | zero => exact ⟨h, Mo.refl _ _, Wa.nil _ _⟩
  | succ j ih =>
    obtain ⟨g, k, r⟩ := ih (by omega)
    rw [tuJ_succ]
    generalize tuJ B b s cells G j = q at *
    unfold tuS
    have hq : (j + s) % cells.length < cells.length := Nat.mod_lt _ (by omega)
    have e1 := hw.at j (by omega)
    have e2 := hw.at _ hq
    obtain ⟨g2, k2, r2⟩ := chG_good g (k.wr hb) ((k.wa hc).at _ hq) ((k.wa hc).at j (by omega)) (cells.getD ((j + s) % cells.length) []).length (Nat.le_refl _) (by omega)
    exact ⟨g2, k.trans k2, (k2.wa r).push r2⟩
theorem tuG_good {B : Int} {idx : List Int} {cells : List (List Int)} {G : List Int} {w : Nat} (h : Gd B G) (hx : Ws B G idx) (hc : Wa B G cells) (hw : AllL w cells) (k : Nat) (hk : k ≤ idx.length) :
    Gd B (tuG B idx cells G k).1 ∧ Mo B G (tuG B idx cells G k).1 ∧ Wa B (tuG B idx cells G k).1 (tuG B idx cells G k).2 := by
  induction k with
  | zero => exact ⟨h, Mo.refl _ _, hc⟩
  | succ k ih =>
    obtain ⟨g, m, r⟩ := ih (by omega)
    obtain ⟨_, _, hw2⟩ := tuG_len (B := B) (idx := idx) (G := G) hw k
    rw [tuG_succ]
    have wx := m.wr (hx.at k (by omega))
    generalize tuG B idx cells G k = q at *
    obtain ⟨g2, k2, r2⟩ := tuJ_good (s := 2 ^ k) g wx r hw2 q.2.length (Nat.le_refl _)
    exact ⟨g2, m.trans k2, r2⟩
theorem ceL_wa {B : Int} {G : List Int} (w n : Nat) (h : ((n * w : Nat) : Int) ≤ B) : Wa B G (ceL w n) := fun r hr => by
  simp only [ceL, List.mem_map, List.mem_range] at hr
  obtain ⟨i, hi, rfl⟩ := hr
  have e : (i + 1) * w ≤ n * w := Nat.mul_le_mul_right w hi
  have e2 : (i + 1) * w = i * w + w := by rw [Nat.add_mul, Nat.one_mul]
  have e3 : ((i * w : Nat) : Int) = (i : Int) * (w : Int) := by simp
  exact spL_ws w (by omega) (by omega)
theorem meI_ws {B : Int} {G : List Int} (n w v : Nat) (h : ((n * w : Nat) : Int) + (v : Int) ≤ B) : Ws B G (meI n w v) := spL_ws v (by omega) h
/-- The circuits by kinds. -/
def meG (kind : Nat) (n w : Nat) : List Int × List Int := if kind = 0 then meScG n w (wid n) else if kind = 1 then meTrG n w (wid n) else if kind = 2 then meWrG n w (wid n) else meTuG n w (wid n)
def meMore (kind w : Nat) : Nat := if kind = 2 then w else 0
theorem wid8 (n : Nat) (h : n ≤ 8) : wid n ≤ 3 := by have := wid_cases n; omega
theorem meG_good (kind n w : Nat) (h1 : 1 ≤ n) (h2 : n ≤ 8) (_h3 : 1 ≤ w) (h4 : w ≤ 4) :
    (Gd (((n * w : Nat) : Int) + ((wid n + meMore kind w : Nat) : Int)) (meG kind n w).1 ∧ Ws (((n * w : Nat) : Int) + ((wid n + meMore kind w : Nat) : Int)) (meG kind n w).1 (meG kind n w).2) ∧ (meG kind n w).1.length ≤ 870 ∧ (meG kind n w).2.length ≤ 32 := by
  have hv := wid8 n h2
  have hnw : n * w ≤ 8 * 4 := Nat.mul_le_mul h2 h4
  unfold meG meMore
  obtain ⟨v, ev⟩ : ∃ v, v = wid n := ⟨_, rfl⟩
  rw [← ev] at hv ⊢
  have hce := ceL_len w n
  have hca := ceL_all w n
  have hil : (meI n w v).length = v := spL_len _ _
  by_cases k0 : kind = 0
  · subst k0
    simp only [if_true, Nat.add_zero, if_neg (by decide : ¬ (0 : Nat) = 2)]
    unfold meScG meB
    obtain ⟨a, _, c⟩ := scG_good (B := ((n * w : Nat) : Int) + ((v + 0 : Nat) : Int)) (idx := meI n w v) (Gd.nil (by omega)) (meI_ws n w v (by omega)) (ceL_wa w n (by omega)) hca n (by omega)
    obtain ⟨d, e⟩ := scG_len (B := ((n * w : Nat) : Int) + ((v + 0 : Nat) : Int)) (idx := meI n w v) (G := []) hca n (by omega)
    rw [hil] at d
    have hb : (6 * v + 3 + 6 * w) * n ≤ 45 * 8 := Nat.mul_le_mul (by omega) h2
    exact ⟨⟨a, c⟩, by simp only [List.length_nil] at d; omega, by have := e (by omega); omega⟩
  rw [if_neg k0]
  by_cases k1 : kind = 1
  · subst k1
    simp only [if_true, if_neg (by decide : ¬ (1 : Nat) = 2), Nat.add_zero]
    unfold meTrG meB
    obtain ⟨a, _, c⟩ := trG_good (B := ((n * w : Nat) : Int) + ((v + 0 : Nat) : Int)) (idx := meI n w v) (Gd.nil (by omega)) (meI_ws n w v (by omega)) (ceL_wa w n (by omega)) hca (by omega) (by omega) v (by omega)
    obtain ⟨d, e, f⟩ := trG_len (B := ((n * w : Nat) : Int) + ((v + 0 : Nat) : Int)) (idx := meI n w v) (G := []) hca (by omega) (by omega) v
    have hb : 36 * w * v ≤ 36 * 4 * 3 := Nat.mul_le_mul (Nat.mul_le_mul_left _ h4) hv
    exact ⟨⟨a, c.at 0 e.1⟩, by simp only [List.length_nil] at d; simp only; omega, by have := f.at 0 e.1; simp only; omega⟩
  rw [if_neg k1]
  by_cases k2 : kind = 2
  · subst k2
    simp only [if_true]
    unfold meWrG meB
    have hvl : (spL ((n * w : Nat) + v : Int) w).length = w := spL_len _ _
    obtain ⟨a, _, c⟩ := wrG_good (B := ((n * w : Nat) : Int) + ((v + w : Nat) : Int)) (idx := meI n w v) (value := spL ((n * w : Nat) + v : Int) w) (Gd.nil (by omega)) (meI_ws n w v (by omega)) (spL_ws w (by omega) (by omega)) (ceL_wa w n (by omega)) hca hvl n (by omega)
    obtain ⟨d, e⟩ := wrG_len (((n * w : Nat) : Int) + ((v + w : Nat) : Int)) (meI n w v) (spL ((n * w : Nat) + v : Int) w) (ceL w n) [] n
    rw [hil, hvl] at d
    rw [hvl] at e
    have hb : (6 * v + 3 + 9 * w) * n ≤ 57 * 8 := Nat.mul_le_mul (by omega) h2
    have hb2 : w * n ≤ 4 * 8 := Nat.mul_le_mul h4 h2
    exact ⟨⟨a, c⟩, by simp only [List.length_nil] at d; omega, by omega⟩
  rw [if_neg k2]
  simp only [Nat.add_zero, if_neg k2]
  unfold meTuG meB
  obtain ⟨a, _, c⟩ := tuG_good (B := ((n * w : Nat) : Int) + ((v + 0 : Nat) : Int)) (idx := meI n w v) (Gd.nil (by omega)) (meI_ws n w v (by omega)) (ceL_wa w n (by omega)) hca v (by omega)
  obtain ⟨d, e, f⟩ := tuG_len (B := ((n * w : Nat) : Int) + ((v + 0 : Nat) : Int)) (idx := meI n w v) (G := []) hca v
  rw [hce] at d e
  have hb : 9 * w * n * v ≤ 9 * 4 * 8 * 3 := Nat.mul_le_mul (Nat.mul_le_mul (Nat.mul_le_mul_left _ h4) h2) hv
  have hfl := flatten_len f
  rw [e] at hfl
  have hb2 : w * n ≤ 4 * 8 := Nat.mul_le_mul h4 h2
  exact ⟨⟨a, c.flat⟩, by simp only [List.length_nil] at d; simp only; omega, by simp only; omega⟩
theorem me_ok (kind n w : Nat) (h1 : 1 ≤ n) (h2 : n ≤ 8) (h3 : 1 ≤ w) (h4 : w ≤ 4) :
    ciB ((n * w : Nat) : Int) ((wid n + meMore kind w : Nat) : Int) ((meG kind n w).1.length / 3) (meG kind n w).1 (meG kind n w).2 = decide (n * w ≤ 20) := by
  obtain ⟨⟨a, c⟩, d, e⟩ := meG_good kind n w h1 h2 h3 h4
  have hv := wid8 n h2
  by_cases hn : n * w ≤ 20
  · rw [decide_eq_true hn]
    exact ci_good (by omega) (by unfold meMore; split <;> omega) a c rfl (by omega) (by omega)
  · rw [decide_eq_false hn]
    unfold ciB
    rw [inB_no (by omega)]
    rfl
end Go.Proofs.Ytkbhigdciokfkaa
