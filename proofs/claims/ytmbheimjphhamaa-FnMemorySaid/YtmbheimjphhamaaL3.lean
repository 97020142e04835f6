/- Further lemmas and walks that the claim's proof rests on, part 3. -/
import Derived.Deep.DeepCutAuto
import Derived.Test.YtmbheimjphhamaaK1
import Derived.Test.YtmbheimjphhamaaK2
import Derived.Test.YtmbheimjphhamaaK3
import Derived.Test.YtmbheimjphhamaaK4
import Derived.Test.YtmbheimjphhamaaK5
import Derived.Test.YtmbheimjphhamaaK6
import Derived.Test.YtmbheimjphhamaaK7
import Derived.Test.YtmbheimjphhamaaK8
import Derived.Test.YtmbheimjphhamaaK9
import Derived.Test.YtmbheimjphhamaaL1
import Derived.Test.YtmbheimjphhamaaL2
namespace Go.Proofs.Ytmbheimjphhamaa
open Go.RowKit
theorem vl_nil (V : List Int) (x : Int) : vl [] V x = V.getD x.toNat 0 := rfl
theorem btL_at (x : Int) (n k : Nat) (h : k < n) : (btL x n).getD k 0 = x / 2 ^ k % 2 := by simp [btL, List.getD, h]
theorem cbL_at (l : List Int) (w : Nat) (n j k : Nat) (hj : j < n) (hk : k < w) : (cbL l w n).getD (j * w + k) 0 = l.getD j 0 / 2 ^ k % 2 := by
  induction n with
  | zero => omega
  | succ n ih =>
    rw [cbL_succ]
    by_cases hjn : j < n
    · have : j * w + k < n * w := by
        have := Nat.mul_le_mul_right w (show j + 1 ≤ n from hjn)
        rw [Nat.succ_mul] at this
        omega
      rw [gapp _ _ _ (by rw [cbL_len]; exact this)]
      exact ih hjn
    · obtain rfl : j = n := by omega
      rw [gappR _ _ _ (by rw [cbL_len]; omega), cbL_len]
      have e : j * w + k - j * w = k := by omega
      rw [e]
      exact btL_at _ _ _ hk
theorem num_btL (w : Nat) : ∀ x : Int, 0 ≤ x → x < 2 ^ w → num (btL x w) = x := by
  induction w with
  | zero => intro x h1 h2; simp at h2; simp [btL, num]; omega
  | succ w ih =>
    intro x h1 h2
    rw [Int.pow_succ] at h2
    have e : btL x (w + 1) = x % 2 :: btL (x / 2) w := by
      unfold btL
      rw [List.range_succ_eq_map, List.map_cons, List.map_map, Int.pow_zero, Int.ediv_one]
      congr 1
      apply List.map_congr_left
      intro i _
      dsimp only [Function.comp]
      rw [Nat.succ_eq_add_one, div_two]
    rw [e, num, ih (x / 2) (by omega) (by omega)]
    omega
theorem cnL_rg (l : List Int) (w m : Nat) : cnL l w m = (List.range m).map fun k => num ((l.drop (k * w)).take w) := by
  induction m with
  | zero => rfl
  | succ m ih => rw [cnL_succ, ih, List.range_succ, List.map_append]; rfl
/-- What a run's outs are, as numbers: cell j of m. -/
theorem cn_at {O : List Int} {w m j : Nat} {x : Int} (hl : O.length = m * w) (hj : j < m) (h : ∀ k, k < w → O.getD (j * w + k) 0 = x / 2 ^ k % 2) (h1 : 0 ≤ x) (h2 : x < 2 ^ w) : (cnL O w m).getD j 0 = x := by
  have e : (O.drop (j * w)).take w = btL x w := by
    have hjm : j * w + w ≤ m * w := by
      have := Nat.mul_le_mul_right w (show j + 1 ≤ m from hj)
      rw [Nat.succ_mul] at this
      exact this
    refine list_ext_getD _ _ (by rw [btL_len, List.length_take, List.length_drop]; omega) fun k hk => ?_
    rw [List.length_take, List.length_drop] at hk
    have hkw : k < w := by omega
    rw [btL_at _ _ _ hkw, ← h k hkw]
    simp [List.getD, hkw]
  rw [cnL_rg]
  simp [List.getD, hj, e, num_btL w x h1 h2]
/-- Sizes that fit. -/
structure MrF (n w : Nat) (l : List Int) (i : Int) : Prop where
  n1 : 1 ≤ n
  n8 : n ≤ 8
  w1 : 1 ≤ w
  w4 : w ≤ 4
  hl : l.length = n
  hc : ∀ x ∈ l, 0 ≤ x ∧ x < 2 ^ w
  i0 : 0 ≤ i
  i1 : i < 2 ^ wid n
theorem wid_up (n : Nat) (h : 1 ≤ n) (h8 : n ≤ 8) : (n : Int) ≤ 2 ^ wid n := by
  have := wid_cases n
  rcases (by omega : n = 1 ∨ n = 2 ∨ n = 3 ∨ n = 4 ∨ n = 5 ∨ n = 6 ∨ n = 7 ∨ n = 8) with rfl | rfl | rfl | rfl | rfl | rfl | rfl | rfl <;> decide
theorem MrF.at {n w : Nat} {l : List Int} {i : Int} (h : MrF n w l i) (j : Nat) (hj : j < n) : 0 ≤ l.getD j 0 ∧ l.getD j 0 < 2 ^ w := h.hc _ (getD_mem l j (by rw [h.hl]; exact hj))
def cvL (l : List Int) (j k : Nat) : Int := l.getD j 0 / 2 ^ k % 2
theorem mrV_cells (n w : Nat) (l : List Int) (i : Int) (mo : List Int) : CeV (mrV n w l i mo) [] (ceL w n) (cvL l) := fun j hj => by
  rw [ceL_len] at hj
  have e : (ceL w n).getD j [] = spL ((j : Int) * w) w := by simp [ceL, List.getD, hj]
  rw [e]
  intro k hk
  rw [spL_len] at hk
  have e2 : ((j : Int) * w + k).toNat = j * w + k := by
    have : (j : Int) * w + k = ((j * w + k : Nat) : Int) := by simp
    rw [this]; rfl
  have hlt : j * w + k < n * w := by
    have := Nat.mul_le_mul_right w (show j + 1 ≤ n from hj)
    rw [Nat.succ_mul] at this
    omega
  rw [spL_at _ _ _ hk, vl_nil, e2]
  unfold mrV
  rw [gapp _ _ _ (by rw [cbL_len]; exact hlt)]
  exact cbL_at l w n j k hj hk
theorem mrV_idx (n w : Nat) (l : List Int) (i : Int) (mo : List Int) : IxV (mrV n w l i mo) [] (meI n w (wid n)) i := fun k hk => by
  have hl : (meI n w (wid n)).length = wid n := spL_len _ _
  rw [hl] at hk
  unfold meI
  have e2 : (((n * w : Nat) : Int) + k).toNat = n * w + k := by omega
  rw [spL_at _ _ _ hk, vl_nil, e2]
  unfold mrV
  rw [gappR _ _ _ (by rw [cbL_len]; omega), cbL_len]
  have e3 : n * w + k - n * w = k := by omega
  rw [e3, gapp _ _ _ (by rw [btL_len]; exact hk)]
  exact btL_at _ _ _ hk
theorem mrV_more (n w : Nat) (l : List Int) (i x : Int) : RwV (mrV n w l i (btL x w)) [] (spL ((n * w : Nat) + (wid n : Nat) : Int) w) (fun k => x / 2 ^ k % 2) := fun k hk => by
  rw [spL_len] at hk
  have e2 : (((n * w : Nat) : Int) + (wid n : Nat) + k).toNat = n * w + (wid n + k) := by omega
  rw [spL_at _ _ _ hk, vl_nil, e2]
  unfold mrV
  rw [gappR _ _ _ (by rw [cbL_len]; omega), cbL_len]
  have e3 : n * w + (wid n + k) - n * w = wid n + k := by omega
  rw [e3, gappR _ _ _ (by rw [btL_len]; omega), btL_len]
  have e4 : wid n + k - wid n = k := by omega
  rw [e4]
  exact btL_at _ _ _ hk
theorem mrO_at (k n w : Nat) (l : List Int) (i : Int) (mo : List Int) (t : Nat) (ht : t < meN k n * w) : (mrO k n w l i mo).getD t 0 = vl (meG k n w).1 (mrV n w l i mo) ((meG k n w).2.getD t 0) := by
  unfold mrO pkL vl
  simp [List.getD, ht]
theorem mr_scan {n w : Nat} {l : List Int} {i : Int} (h : MrF n w l i) : (mrR 0 n w l i []).getD 0 0 = if i < n then l.getD i.toNat 0 else 0 := by
  have hV := mrV_len 0 n w l i [] rfl
  have hb := mrV_bits n w l i [] Bt.nil
  have hup := wid_up n h.n1 h.n8
  have hw := ceL_all w n
  have hce := ceL_len w n
  have hmi : (meI n w (wid n)).length = wid n := spL_len _ _
  have ht : ∀ k, k < w → (mrO 0 n w l i []).getD (0 * w + k) 0 = (if i < n then l.getD i.toNat 0 else 0) / 2 ^ k % 2 := fun k hk => by
    have hl := (scG_len (B := meB n w (wid n) 0) (idx := meI n w (wid n)) (G := []) hw n (by omega)).2 (by have := h.n1; omega)
    have hVB : ((mrV n w l i []).length : Int) = meB n w (wid n) 0 := by rw [hV]; unfold mrNI meB meMore; simp
    obtain ⟨_, f⟩ := scG_val (B := meB n w (wid n) 0) (V := mrV n w l i []) (idx := meI n w (wid n)) (cells := ceL w n) (G := []) (cv := cvL l) (Gd.nil (by unfold meB; omega)) hVB hb (meI_ws n w _ (by unfold meB; omega)) (ceL_wa w n (by unfold meB; omega)) hw
      (mrV_idx n w l i []) h.i0 (by rw [hmi]; exact h.i1) (by rw [hmi, hce]; exact hup) (mrV_cells n w l i []) n (by omega)
    rw [Nat.zero_mul, Nat.zero_add, mrO_at _ _ _ _ _ _ _ (by unfold meN; simp; exact hk)]
    have e : meG 0 n w = meScG n w (wid n) := by unfold meG; rw [if_pos rfl]
    rw [e]
    unfold meScG
    rw [f (by have := h.n1; omega) k (by rw [hl]; exact hk)]
    unfold cvL
    split
    · rfl
    · simp
  refine cn_at (mrO_len 0 n w l i []) (by unfold meN; simp) ht ?_ ?_
  · split
    · exact (h.at _ (by have := h.i0; omega)).1
    · exact Int.le_refl _
  · split
    · exact (h.at _ (by have := h.i0; omega)).2
    · exact Int.pow_pos (by decide)
theorem mr_tree {n w : Nat} {l : List Int} {i : Int} (h : MrF n w l i) (hi : i < n) : (mrR 1 n w l i []).getD 0 0 = l.getD i.toNat 0 := by
  have hV := mrV_len 1 n w l i [] rfl
  have hb := mrV_bits n w l i [] Bt.nil
  have hup := wid_up n h.n1 h.n8
  have hw := ceL_all w n
  have hce := ceL_len w n
  have hmi : (meI n w (wid n)).length = wid n := spL_len _ _
  have ht : ∀ k, k < w → (mrO 1 n w l i []).getD (0 * w + k) 0 = l.getD i.toNat 0 / 2 ^ k % 2 := fun k hk => by
    have hVB : ((mrV n w l i []).length : Int) = meB n w (wid n) 0 := by rw [hV]; unfold mrNI meB meMore; simp
    obtain ⟨_, f0, f⟩ := trG_val (B := meB n w (wid n) 0) (V := mrV n w l i []) (idx := meI n w (wid n)) (cells := ceL w n) (G := []) (cv := cvL l) (Gd.nil (by unfold meB; omega)) hVB hb (meI_ws n w _ (by unfold meB; omega)) (ceL_wa w n (by unfold meB; omega)) hw
      (by have := h.n1; omega) (by have := h.n8; omega) (mrV_idx n w l i []) (mrV_cells n w l i []) (wid n) (by omega)
    obtain ⟨_, h3, h4⟩ := trG_len (B := meB n w (wid n) 0) (idx := meI n w (wid n)) (G := []) hw (by have := h.n1; omega) (by have := h.n8; omega) (wid n)
    have hl := h4.at 0 h3.1
    rw [Nat.zero_mul, Nat.zero_add, mrO_at _ _ _ _ _ _ _ (by unfold meN; simp; exact hk)]
    have e : meG 1 n w = meTrG n w (wid n) := by unfold meG; rw [if_neg (by decide), if_pos rfl]
    have em : (i % 2 ^ wid n) = i := Int.emod_eq_of_lt h.i0 h.i1
    rw [e]
    unfold meTrG
    have := f 0 h3.1 (by rw [em, hce]; have := h.i0; omega) k (by rw [hl]; exact hk)
    dsimp only at this ⊢
    rw [this, em, Nat.zero_mul, Nat.zero_add]
    rfl
  exact cn_at (mrO_len 1 n w l i []) (by unfold meN; simp) ht (h.at _ (by have := h.i0; omega)).1 (h.at _ (by have := h.i0; omega)).2
theorem mr_write {n w : Nat} {l : List Int} {i x : Int} (h : MrF n w l i) (h0 : 0 ≤ x) (h1 : x < 2 ^ w) (j : Nat) (hj : j < n) : (mrR 2 n w l i (btL x w)).getD j 0 = if i = j then x else l.getD j 0 := by
  have hV := mrV_len 2 n w l i (btL x w) (by rw [btL_len]; rfl)
  have hb := mrV_bits n w l i (btL x w) (btL_bits _ _)
  have hup := wid_up n h.n1 h.n8
  have hw := ceL_all w n
  have hce := ceL_len w n
  have hmi : (meI n w (wid n)).length = wid n := spL_len _ _
  have hw1 := h.w1
  have ht : ∀ k, k < w → (mrO 2 n w l i (btL x w)).getD (j * w + k) 0 = (if i = j then x else l.getD j 0) / 2 ^ k % 2 := fun k hk => by
    have hVB : ((mrV n w l i (btL x w)).length : Int) = meB n w (wid n) w := by rw [hV]; unfold mrNI meB meMore; simp
    obtain ⟨_, f⟩ := wrG_val (B := meB n w (wid n) w) (V := mrV n w l i (btL x w)) (idx := meI n w (wid n)) (value := spL ((n * w : Nat) + (wid n : Nat) : Int) w) (cells := ceL w n) (G := []) (cv := cvL l) (vv := fun k => x / 2 ^ k % 2) (Gd.nil (by unfold meB; omega)) hVB hb (meI_ws n w _ (by unfold meB; omega)) (spL_ws w (by omega) (by unfold meB; omega)) (ceL_wa w n (by unfold meB; omega)) hw (spL_len _ _) (by omega)
      (mrV_idx n w l i (btL x w)) h.i0 (by rw [hmi]; exact h.i1) (by rw [hmi, hce]; exact hup) (mrV_cells n w l i (btL x w)) (mrV_more n w l i x) n (by omega)
    have hl := (wrG_len (meB n w (wid n) w) (meI n w (wid n)) (spL ((n * w : Nat) + (wid n : Nat) : Int) w) (ceL w n) [] n).2
    rw [spL_len] at hl
    have hlt : j * w + k < n * w := by
      have := Nat.mul_le_mul_right w (show j + 1 ≤ n from hj)
      rw [Nat.succ_mul] at this
      omega
    rw [mrO_at _ _ _ _ _ _ _ (by unfold meN; simp; exact hlt)]
    have e : meG 2 n w = meWrG n w (wid n) := by unfold meG; rw [if_neg (by decide), if_neg (by decide), if_pos rfl]
    have e5 : (j * w + k) / w = j := by rw [Nat.add_comm, Nat.add_mul_div_right _ _ (by omega), Nat.div_eq_of_lt hk, Nat.zero_add]
    have e6 : (j * w + k) % w = k := by rw [Nat.add_comm, Nat.add_mul_mod_self_right, Nat.mod_eq_of_lt hk]
    rw [e]
    unfold meWrG
    have h7 := f (j * w + k) (by rw [hl, Nat.mul_comm w n]; exact hlt)
    dsimp only at h7 ⊢
    rw [h7, e5, e6]
    unfold cvL
    split <;> rfl
  refine cn_at (mrO_len 2 n w l i (btL x w)) (by unfold meN; simp; exact hj) ht ?_ ?_
  · split
    · exact h0
    · exact (h.at _ hj).1
  · split
    · exact h1
    · exact (h.at _ hj).2
theorem flat_at {w : Nat} : ∀ {l : List (List Int)}, AllL w l → ∀ (j k : Nat), j < l.length → k < w → l.flatten.getD (j * w + k) 0 = (l.getD j []).getD k 0
  | [], _, j, _, hj, _ => absurd hj (by simp)
  | r :: l, h, j, k, hj, hk => by
    have hr : r.length = w := h r (by simp)
    rw [List.flatten_cons]
    cases j with
    | zero => rw [Nat.zero_mul, Nat.zero_add, gapp _ _ _ (by omega)]; rfl
    | succ j =>
      rw [Nat.succ_mul, gappR _ _ _ (by omega)]
      have e : j * w + w + k - r.length = j * w + k := by omega
      rw [e, flat_at (fun x hx => h x (by simp [hx])) j k (by simpa using hj) hk]
      rfl
theorem mr_turn {n w : Nat} {l : List Int} {i : Int} (h : MrF n w l i) (j : Nat) (hj : j < n) : (mrR 3 n w l i []).getD j 0 = l.getD ((j + i.toNat) % n) 0 := by
  have hV := mrV_len 3 n w l i [] rfl
  have hb := mrV_bits n w l i [] Bt.nil
  have hup := wid_up n h.n1 h.n8
  have hw := ceL_all w n
  have hce := ceL_len w n
  have hmi : (meI n w (wid n)).length = wid n := spL_len _ _
  have hmod : (j + i.toNat) % n < n := Nat.mod_lt _ (by omega)
  have ht : ∀ k, k < w → (mrO 3 n w l i []).getD (j * w + k) 0 = l.getD ((j + i.toNat) % n) 0 / 2 ^ k % 2 := fun k hk => by
    have hVB : ((mrV n w l i []).length : Int) = meB n w (wid n) 0 := by rw [hV]; unfold mrNI meB meMore; simp
    obtain ⟨_, f⟩ := tuG_val (B := meB n w (wid n) 0) (V := mrV n w l i []) (idx := meI n w (wid n)) (cells := ceL w n) (G := []) (cv := cvL l) (Gd.nil (by unfold meB; omega)) hVB hb (meI_ws n w _ (by unfold meB; omega)) (ceL_wa w n (by unfold meB; omega)) hw
      (mrV_idx n w l i []) (mrV_cells n w l i []) (wid n) (by omega)
    obtain ⟨_, h3, h4⟩ := tuG_len (B := meB n w (wid n) 0) (idx := meI n w (wid n)) (G := []) hw (wid n)
    rw [hce] at h3
    have hl := h4.at j (by omega)
    have hlt : j * w + k < n * w := by
      have := Nat.mul_le_mul_right w (show j + 1 ≤ n from hj)
      rw [Nat.succ_mul] at this
      omega
    rw [mrO_at _ _ _ _ _ _ _ (by unfold meN; simp; exact hlt)]
    have e : meG 3 n w = meTuG n w (wid n) := by unfold meG; rw [if_neg (by decide), if_neg (by decide), if_neg (by decide)]
    have em : (i % 2 ^ wid n) = i := Int.emod_eq_of_lt h.i0 h.i1
    rw [e]
    unfold meTuG
    dsimp only
    rw [flat_at h4 j k (by omega) hk, f j (by omega) k (by rw [hl]; exact hk), em, hce]
    rfl
  exact cn_at (mrO_len 3 n w l i []) (by unfold meN; simp; exact hj) ht (h.at _ hmod).1 (h.at _ hmod).2
end Go.Proofs.Ytmbheimjphhamaa
namespace Go.Proofs.Ytmbheimjphhamaa
open Go.RowKit
theorem cel_f {wd : Int} {l : List Int} {i : Int} (h : celB wd l i = true) : MrF l.length wd.toNat l i := by
  have h2 := h
  unfold celB at h2
  rw [Bool.and_eq_true] at h2
  obtain ⟨hm, hT⟩ := h2
  obtain ⟨⟨n1, n8⟩, ⟨w1, w4⟩, _⟩ := memB_true hm
  unfold celT at hT
  rw [Bool.and_eq_true] at hT
  have h1 := (allB_iff _ _ _).1 hT.1
  have h3 := of_decide_eq_true hT.2
  exact ⟨by omega, by omega, by omega, by omega, rfl, fun x hx => by have := h1 x hx; omega, h3.1, by have := h3.2; omega⟩
theorem rc_law {t : Bool} {wd : Int} {l : List Int} {i : Int} (h : celB wd l i = true) : 0 ≤ i ∧ (i < l.length → rcV (trK t) wd l i = l.getD i.toNat 0) ∧ (¬ i < l.length → t = true ∨ rcV (trK t) wd l i = 0) := by
  have f := cel_f h
  refine ⟨f.i0, fun hi => ?_, fun hi => ?_⟩
  · unfold rcV
    rw [if_pos h]
    cases t
    · have := mr_scan f; rw [if_pos hi] at this; exact this
    · exact mr_tree f hi
  · cases t
    · right
      unfold rcV
      rw [if_pos h]
      have := mr_scan f; rw [if_neg hi] at this; exact this
    · exact Or.inl rfl
theorem wc_law {wd : Int} {l : List Int} {i v : Int} (h : wcB wd l i v = true) : (wcR wd l i v).length = l.length ∧ (l.length ≤ 8) ∧ ∀ j, j < l.length → (wcR wd l i v).getD j 0 = if i = j then v else l.getD j 0 := by
  have h2 := h
  unfold wcB at h2
  rw [Bool.and_eq_true] at h2
  have f := cel_f h2.1
  have hv := of_decide_eq_true h2.2
  have e : wcR wd l i v = mrR 2 l.length wd.toNat l i (btL v wd.toNat) := by unfold wcR; rw [if_pos h]
  rw [e]
  exact ⟨by rw [mrR_len]; rfl, f.n8, fun j hj => mr_write f hv.1 (by have := hv.2; omega) j hj⟩
theorem tc_law {wd : Int} {l : List Int} {i : Int} (h : celB wd l i = true) : (tcR wd l i).length = l.length ∧ (1 ≤ l.length ∧ l.length ≤ 8) ∧ (0 ≤ i ∧ i ≤ 7) ∧ ∀ j, j < l.length → (tcR wd l i).getD j 0 = l.getD ((j + i.toNat) % l.length) 0 := by
  have f := cel_f h
  have e : tcR wd l i = mrR 3 l.length wd.toNat l i [] := by unfold tcR; rw [if_pos h]
  rw [e]
  have hw := wid8 l.length f.n8
  have hi := f.i1
  have hp : (2 : Int) ^ wid l.length ≤ 8 := by
    generalize wid (l.length : Int) = v at *
    rcases (by omega : v = 0 ∨ v = 1 ∨ v = 2 ∨ v = 3) with rfl | rfl | rfl | rfl <;> decide
  exact ⟨by rw [mrR_len]; rfl, ⟨f.n1, f.n8⟩, ⟨f.i0, by omega⟩, fun j hj => mr_turn f j hj⟩
set_option maxHeartbeats 16000000 in
set_option maxRecDepth 100000 in
theorem FnMemory_walk (a0 : Option Addr) (n0 c0 : Nat) (a1 : Option Addr) (n1 c1 : Nat) (w : World) (z0 : Cod w w.heap.size a0 n0 c0) (z1 : Cod w w.heap.size a1 n1 c1) :
    Calls Try.prog 4 #[.slice a0 n0 c0, .slice a1 n1 c1] w fun e w' => e = .returned (.bool true) ∧ Below w.heap.size w w' := by
  have m1 := z0.1
  have m2 := z0.2.1
  have m3 := z1.1
  have m4 := z1.2.1
  unfold maxLen at m2 m4
  have hn : (n0 : Int) ≤ 9223372036854775807 := by omega
  have hn' : (n1 : Int) ≤ 9223372036854775807 := by omega
  clear m1 m2 m3 m4
  have Z1 := Lib.hid z1
  clear z1
  obtain ⟨sm, hsm⟩ : ∃ s, wrap64 ((n0 : Int) + (n1 : Int)) = s := ⟨_, rfl⟩
  by_cases hbig : sm > 1048576
  · go_enter Try.func4, Try.ntmps4
    go_wp2
    go_ret
    exact ⟨rfl, Below.refl _ _⟩
  have hbig2 : decide (sm > 1048576) = false := decide_eq_false hbig
  go_enter Try.func4, Try.ntmps4
  go_wp2_with fail
  clear hsm hbig hbig2 hn hn'
  refine (DrawReadCell_any _ _ _ _ z0).mono ?_
  rintro e w1' ⟨tr, rw0, la, ln, lc, l, i, rfl, hl, u_w1'⟩
  have S_w1' := u_w1'.size
  have V_w1' : Below w.heap.size w w1' := (Below.refl w.heap.size w).trans (u_w1'.mono (Below.refl w.heap.size w).size)
  clear u_w1'
  clear z0
  go_wp2_with fail
  refine (ReadCell_any tr rw0 la ln lc l i _ hl).mono ?_
  rintro e w2' ⟨rfl, u_w2'⟩
  replace hl := hl.below u_w2'
  have S_w2' := u_w2'.size
  have V_w2' : Below w.heap.size w w2' := V_w1'.trans (u_w2'.mono V_w1'.size)
  clear V_w1'
  clear u_w2'
  go_wp2_with fail
  refine (spec_ReadCell_any tr rw0 la ln lc l i _ hl).mono ?_
  rintro e w3' ⟨rfl, u_w3'⟩
  replace hl := hl.below u_w3'
  have S_w3' := u_w3'.size
  have V_w3' : Below w.heap.size w w3' := V_w2'.trans (u_w3'.mono V_w2'.size)
  clear V_w2'
  clear u_w3'
  have HR := Lib.hid (fun (h : celB rw0 l i = true) => rc_law (t := tr) h)
  generalize rcV (trK tr) rw0 l i = rv at *
  generalize celB rw0 l i = rb at *
  go_wp2_with fail
  refine (DrawWriteCell_any _ _ _ _ (Z1.out.belowAll V_w3')).mono ?_
  rintro e w4' ⟨wd, ma, mn, mc, m, wi, wv, rfl, hm, u_w4'⟩
  replace hl := hl.below u_w4'
  have S_w4' := u_w4'.size
  have V_w4' : Below w.heap.size w w4' := V_w3'.trans (u_w4'.mono V_w3'.size)
  clear V_w3'
  clear u_w4'
  go_wp2_with fail
  refine (WriteCell_any wd ma mn mc m wi wv _ hm).mono ?_
  rintro e w5' ⟨xa, xn, xc, rfl, ox, u_w5'⟩
  replace hl := hl.below u_w5'
  replace hm := hm.below u_w5'
  have S_w5' := u_w5'.size
  have V_w5' : Below w.heap.size w w5' := V_w4'.trans (u_w5'.mono V_w4'.size)
  clear V_w4'
  clear u_w5'
  go_wp2_with fail
  refine (spec_WriteCell_any wd ma mn mc m wi wv _ hm).mono ?_
  rintro e w6' ⟨ya, yn, yc, rfl, oy, u_w6'⟩
  replace hl := hl.below u_w6'
  replace hm := hm.below u_w6'
  replace ox := ox.below u_w6'
  have S_w6' := u_w6'.size
  have V_w6' : Below w.heap.size w w6' := V_w5'.trans (u_w6'.mono V_w5'.size)
  clear V_w5'
  clear u_w6'
  have HW := Lib.hid (fun (h : wcB wd m wi wv = true) => wc_law h)
  generalize wcR wd m wi wv = WR at *
  generalize wcB wd m wi wv = wb at *
  go_wp2_with fail
  refine (DrawTurnCells_any _ _ _ _ (Z1.out.belowAll V_w6')).mono ?_
  rintro e w7' ⟨td, sa, sn, sc, s, ti, rfl, hs, u_w7'⟩
  replace hl := hl.below u_w7'
  replace hm := hm.below u_w7'
  replace ox := ox.below u_w7'
  replace oy := oy.below u_w7'
  have S_w7' := u_w7'.size
  have V_w7' : Below w.heap.size w w7' := V_w6'.trans (u_w7'.mono V_w6'.size)
  clear V_w6'
  clear u_w7'
  go_wp2_with fail
  refine (TurnCells_any td sa sn sc s ti _ hs).mono ?_
  rintro e w8' ⟨ta, tn, tc, rfl, ot, u_w8'⟩
  replace hl := hl.below u_w8'
  replace hm := hm.below u_w8'
  replace ox := ox.below u_w8'
  replace oy := oy.below u_w8'
  replace hs := hs.below u_w8'
  have S_w8' := u_w8'.size
  have V_w8' : Below w.heap.size w w8' := V_w7'.trans (u_w8'.mono V_w7'.size)
  clear V_w7'
  clear u_w8'
  go_wp2_with fail
  refine (spec_TurnCells_any td sa sn sc s ti _ hs).mono ?_
  rintro e w9' ⟨ua, un, uc, rfl, ou, u_w9'⟩
  replace hl := hl.below u_w9'
  replace hm := hm.below u_w9'
  replace ox := ox.below u_w9'
  replace oy := oy.below u_w9'
  replace hs := hs.below u_w9'
  replace ot := ot.below u_w9'
  have S_w9' := u_w9'.size
  have V_w9' : Below w.heap.size w w9' := V_w8'.trans (u_w9'.mono V_w8'.size)
  clear V_w8'
  clear u_w9'
  have HT := Lib.hid (fun (h : celB td s ti = true) => tc_law h)
  generalize tcR td s ti = TR at *
  generalize celB td s ti = tb at *
  go_wp2_with fail
  refine (qInts_same _ _ _ _ _ _ _ _ ox.ints oy.ints).mono ?_
  rintro e w10' ⟨rfl, q_w10'⟩
  have u_w10' := below_of_quiet q_w10'
  clear q_w10'
  replace hl := hl.below u_w10'
  replace hm := hm.below u_w10'
  replace ox := ox.below u_w10'
  replace oy := oy.below u_w10'
  replace hs := hs.below u_w10'
  replace ot := ot.below u_w10'
  replace ou := ou.below u_w10'
  have S_w10' := u_w10'.size
  have V_w10' : Below w.heap.size w w10' := V_w9'.trans (u_w10'.mono V_w9'.size)
  clear V_w9'
  clear u_w10'
  go_wp2_with fail
  refine (qInts_same _ _ _ _ _ _ _ _ ot.ints ou.ints).mono ?_
  rintro e w11' ⟨rfl, q_w11'⟩
  have u_w11' := below_of_quiet q_w11'
  clear q_w11'
  replace hl := hl.below u_w11'
  replace hm := hm.below u_w11'
  replace ox := ox.below u_w11'
  replace oy := oy.below u_w11'
  replace hs := hs.below u_w11'
  replace ot := ot.below u_w11'
  replace ou := ou.below u_w11'
  have S_w11' := u_w11'.size
  have V_w11' : Below w.heap.size w w11' := V_w10'.trans (u_w11'.mono V_w10'.size)
  clear V_w10'
  clear u_w11'
  clear ox
  clear ot
  have IY := oy.ints
  have IU := ou.ints
  clear oy
  clear ou
  go_upto_if 134 with fail
  go_cut [] (fun wx => w11' = wx)
  case first => as_aux_lemma =>
    cases wb
    · go_wp2_with fail
      go_meet
      case rel => exact rfl
    · obtain ⟨h1, h8, h2⟩ := HW.out rfl
      have hyn : yn = mn := by rw [IY.len, h1, hm.len]
      subst hyn
      have HLM := Lib.hid hm.len
      have H2 := Lib.hid h2
      have hmn8 : yn ≤ 8 := by rw [HLM.out]; exact h8
      clear h1 h2 h8 HW HR HT
      go_wp2
      go_loop [142] (fun v => ∃ k : Nat, k ≤ yn ∧ v = .int .i64 k) (fun v => yn - (intOf v).toNat)
      case atStart => exact ⟨0, Nat.zero_le _, rfl⟩
      case round =>
        obtain ⟨k, hk, rfl⟩ := hrel
        by_cases hlt : k < yn
        · have hv := H2.out k (by rw [← HLM.out]; exact hlt)
          obtain ⟨gm, om, rfl, e1⟩ := hm.at k hlt
          obtain ⟨gy, oy, rfl, e2⟩ := IY.at k hlt
          rw [hv] at e2
          have f1 : (k : Int) < (yn : Int) := by omega
          clear hv
          by_cases hik : wi = (k : Int)
          · subst hik
            rw [if_pos rfl] at e2
            have b1 : ((wv != wv) : Bool) = false := by simp
            go_wp2
            go_round
            case rel => exact ⟨k + 1, by omega, by go_num⟩
            case measure => simp [intOf]; omega
          · rw [if_neg hik] at e2
            have b1 : (((k : Int) == wi) : Bool) = false := by simp; omega
            have b2 : (((k : Int) != wi) : Bool) = true := by simp; omega
            have b3 : ((m.getD k 0 != m.getD k 0) : Bool) = false := by simp
            clear hik
            go_wp2
            go_round
            case rel => exact ⟨k + 1, by omega, by go_num⟩
            case measure => simp [intOf]; omega
        · go_wp2_with fail
          go_meet
          case rel => exact rfl
  case rest => as_aux_lemma =>
    obtain rfl := hcut
    clear HW
    go_upto_if 172 with fail
    go_cut [] (fun wx => w11' = wx)
    case first => as_aux_lemma =>
      cases tb
      · go_wp2_with fail
        go_meet
        case rel => exact rfl
      · obtain ⟨h1, ⟨n1', n8⟩, ⟨j0, j7⟩, h2⟩ := HT.out rfl
        have hun : un = sn := by rw [IU.len, h1, hs.len]
        subst hun
        have HLS := Lib.hid hs.len
        have H2 := Lib.hid h2
        have hn8 : un ≤ 8 := by rw [HLS.out]; exact n8
        have hn1 : 1 ≤ un := by rw [HLS.out]; exact n1'
        obtain ⟨J, rfl⟩ : ∃ x : Nat, ti = x := ⟨ti.toNat, by omega⟩
        clear h1 h2 n1' n8 HT HR
        have hnz : ((un : Int) = 0) = False := by simp; omega
        have hnz2 : (un = 0) = False := by simp; omega
        have hnz3 : ((un : Int) == 0) = false := by simp; omega
        go_wp2
        go_loop [180] (fun v => ∃ k : Nat, k ≤ un ∧ v = .int .i64 k) (fun v => un - (intOf v).toNat)
        case atStart => exact ⟨0, Nat.zero_le _, rfl⟩
        case round =>
          obtain ⟨k, hk, rfl⟩ := hrel
          by_cases hlt : k < un
          · have hv := H2.out k (by rw [← HLS.out]; exact hlt)
            obtain ⟨q, hq⟩ : ∃ q, q = (k + J) % un := ⟨_, rfl⟩
            have hqn : q < un := by rw [hq]; exact Nat.mod_lt _ (by omega)
            obtain ⟨gs, os, rfl, e1⟩ := hs.at q hqn
            obtain ⟨gu, ou, rfl, e2⟩ := IU.at k hlt
            rw [Int.toNat_natCast, ← HLS.out, ← hq] at hv
            rw [hv] at e2
            have f1 : (k : Int) < (un : Int) := by omega
            have f2 : (q : Int) < (un : Int) := by omega
            have r1 : ((k : Int) + (J : Int)) % (un : Int) = (q : Int) := by rw [hq]; simp
            have r2 : ((k : Int) + (J : Int)).tmod (un : Int) = (q : Int) := by rw [Int.tmod_eq_emod_of_nonneg (by omega)]; exact r1
            have b3 : ((s.getD q 0 != s.getD q 0) : Bool) = false := by simp
            clear hv hq
            go_wp2
            go_round
            case rel => exact ⟨k + 1, by omega, by go_num⟩
            case measure => simp [intOf]; omega
          · go_wp2_with fail
            go_meet
            case rel => exact rfl
    case rest => as_aux_lemma =>
      obtain rfl := hcut
      clear HT
      cases rb
      · go_wp2
        go_ret
        exact ⟨rfl, V_w11'⟩
      · obtain ⟨i0, h1, h2⟩ := HR.out rfl
        have HLL := Lib.hid hl.len
        clear HR
        by_cases hi : i < (ln : Int)
        · have e := h1 (by rw [← HLL.out]; omega)
          obtain ⟨I, rfl⟩ : ∃ x : Nat, i = x := ⟨i.toNat, by omega⟩
          obtain ⟨gl, ol, rfl, e1⟩ := hl.at I (by omega)
          clear h1 h2 i0
          have hI1 : (I : Int) < (ln : Int) := by omega
          rw [Int.toNat_natCast] at e
          generalize l.getD I 0 = x at *
          subst e
          have b3 : ((rv == rv) : Bool) = true := by simp
          go_wp2
          go_ret
          exact ⟨rfl, V_w11'⟩
        · have h3 := h2 (by rw [← HLL.out]; omega)
          have hi2 : decide (i < (ln : Int)) = false := by simp; omega
          clear h1 h2
          rcases h3 with rfl | rfl
          · go_wp2
            go_ret
            exact ⟨rfl, V_w11'⟩
          · cases tr
            all_goals
              go_wp2
              go_ret
              exact ⟨rfl, V_w11'⟩
end Go.Proofs.Ytmbheimjphhamaa
