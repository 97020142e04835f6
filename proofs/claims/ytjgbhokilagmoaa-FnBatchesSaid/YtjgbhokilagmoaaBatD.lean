/- Batches that hold, and wrong tags: the program's and the reference's. -/
import Derived.Test.YtjgbhokilagmoaaBatA
import Derived.Test.YtjgbhokilagmoaaCg
import Derived.BigRegion
import Derived.BigQuiet
namespace Go.Proofs.Ytjgbhokilagmoaa
open Go.RowKit
/-- A weighted sum of values (j = 0) or of tags (j = 1), in the field. -/
def baV (p : Int) (ws L : List Int) (j : Nat) : Nat → Int
  | 0 => 0
  | k + 1 => (baV p ws L j k + ws.getD k 0 * L.getD (k * 2 + j) 0) % p
/-- A weighted sum of keys. -/
def baK (p : Int) (ws keys : List Int) : Nat → Int
  | 0 => 0
  | k + 1 => (baK p ws keys k + ws.getD k 0 * keys.getD k 0) % p
/-- Whether the tag with a number holds. -/
def hAtB (p delta : Int) (keys L : List Int) (k : Nat) : Bool := holdB p delta (keys.getD k 0) (L.getD (k * 2) 0) (L.getD (k * 2 + 1) 0)
def wtL (p delta : Int) (keys L : List Int) : Nat → List Int
  | 0 => []
  | k + 1 => wtL p delta keys L k ++ if hAtB p delta keys L k then [] else [(k : Int)]
def bhOK (p delta : Int) (keys L ws : List Int) (kn n wn : Nat) : Bool := tlB p delta keys L kn n && (elsB p ws && decide (wn = n))
def bhV (p delta : Int) (keys L ws : List Int) (kn n wn : Nat) : Bool := bhOK p delta keys L ws kn n wn && holdB p delta (baK p ws keys n) (baV p ws L 0 n) (baV p ws L 1 n)
def wtR (p delta : Int) (keys L : List Int) (kn n : Nat) : List Int := if tlB p delta keys L kn n then wtL p delta keys L n else []
theorem wtL_len (p delta : Int) (keys L : List Int) (n : Nat) : (wtL p delta keys L n).length ≤ n := by
  induction n with
  | zero => exact Nat.le_refl _
  | succ n ih => unfold wtL; split <;> simp <;> omega
theorem tlB_parts {p delta : Int} {keys L : List Int} {kn n : Nat} (h : tlB p delta keys L kn n = true) : (isPr p = true ∧ 2 ≤ p ∧ p ≤ 251 ∧ 0 ≤ delta ∧ delta ≤ p - 1) ∧ elsB p keys = true ∧ kn = n ∧ n ≤ 20 ∧ tagsB p L n = true := by
  unfold tlB at h
  simp only [Bool.and_eq_true, decide_eq_true_eq] at h
  exact ⟨elB_true h.1, h.2.1, h.2.2.1, h.2.2.2.1, h.2.2.2.2⟩
theorem els_rng {p : Int} {l : List Int} (h : elsB p l = true) (i : Nat) : 0 ≤ l.getD i 0 ∧ l.getD i 0 ≤ p - 1 := by
  obtain ⟨_, p1, _, h2⟩ := elsB_true h
  rw [allB_iff] at h2
  by_cases hi : i < l.length
  · exact h2 _ (getD_mem l i hi)
  · have : l.getD i 0 = 0 := by simp [List.getD, hi]
    omega
theorem tag_rng {p : Int} {L : List Int} {n : Nat} (h : tagsB p L n = true) (k : Nat) (hk : k < n) : (0 ≤ L.getD (k * 2) 0 ∧ L.getD (k * 2) 0 ≤ p - 1) ∧ (0 ≤ L.getD (k * 2 + 1) 0 ∧ L.getD (k * 2 + 1) 0 ≤ p - 1) := by
  have h1 := rangeAll_at h k hk
  unfold tagAt tagB at h1
  rw [Bool.and_eq_true] at h1
  exact ⟨(elB_true h1.1).2.2.2, (elB_true h1.2).2.2.2⟩
theorem baV_rng {p : Int} (hp : 1 ≤ p) (ws L : List Int) (j k : Nat) : 0 ≤ baV p ws L j k ∧ baV p ws L j k ≤ p - 1 := by
  cases k with
  | zero => exact ⟨Int.le_refl 0, by show (0 : Int) ≤ p - 1; omega⟩
  | succ k =>
    unfold baV
    have := Int.emod_nonneg (baV p ws L j k + ws.getD k 0 * L.getD (k * 2 + j) 0) (by omega : p ≠ 0)
    have := Int.emod_lt_of_pos (baV p ws L j k + ws.getD k 0 * L.getD (k * 2 + j) 0) (by omega : 0 < p)
    omega
theorem baK_rng {p : Int} (hp : 1 ≤ p) (ws keys : List Int) (k : Nat) : 0 ≤ baK p ws keys k ∧ baK p ws keys k ≤ p - 1 := by
  cases k with
  | zero => exact ⟨Int.le_refl 0, by show (0 : Int) ≤ p - 1; omega⟩
  | succ k =>
    unfold baK
    have := Int.emod_nonneg (baK p ws keys k + ws.getD k 0 * keys.getD k 0) (by omega : p ≠ 0)
    have := Int.emod_lt_of_pos (baK p ws keys k + ws.getD k 0 * keys.getD k 0) (by omega : 0 < p)
    omega
/-- Where no tag is wrong, every weighted sum holds. -/
theorem all_hold {p delta : Int} {keys L : List Int} {n : Nat} (h : wtL p delta keys L n = []) : ∀ k, k < n → hAtB p delta keys L k = true := by
  induction n with
  | zero => intro k hk; omega
  | succ n ih =>
    unfold wtL at h
    rw [List.append_eq_nil_iff] at h
    intro k hk
    by_cases e : k = n
    · subst e
      cases hh : hAtB p delta keys L k
      · rw [hh] at h; simp at h
      · rfl
    · exact ih h.1 k (by omega)
theorem batch_hold {p delta : Int} {keys L ws : List Int} (n : Nat) (h : ∀ k, k < n → hAtB p delta keys L k = true) : holdB p delta (baK p ws keys n) (baV p ws L 0 n) (baV p ws L 1 n) = true := by
  have key : Cg p (baV p ws L 0 n * delta + baK p ws keys n) (baV p ws L 1 n) := by
    induction n with
    | zero => exact Cg.of_eq (by simp [baV, baK])
    | succ n ih =>
      have h1 := ih (fun k hk => h k (by omega))
      have h2 := h n (by omega)
      unfold hAtB holdB at h2
      have h3 : Cg p (L.getD (n * 2) 0 * delta + keys.getD n 0) (L.getD (n * 2 + 1) 0) := by
        have h4 : Cg p (L.getD (n * 2) 0 * delta + keys.getD n 0 - L.getD (n * 2 + 1) 0) 0 := Cg.of_emod (by rw [of_decide_eq_true h2]; simp)
        have h5 := h4.add (Cg.refl p (L.getD (n * 2 + 1) 0))
        refine (Cg.of_eq ?_).trans (h5.trans (Cg.of_eq ?_)) <;> grind
      unfold baV baK
      rw [Nat.add_zero]
      refine (((Cg.emod p _).mul (Cg.refl p delta)).add (Cg.emod p _)).trans (Cg.trans ?_ (Cg.emod p _).symm)
      have h6 := h1.add ((Cg.refl p (ws.getD n 0)).mul h3)
      refine (Cg.of_eq ?_).trans h6
      generalize baV p ws L 0 n = A
      generalize baK p ws keys n = B
      generalize ws.getD n 0 = x
      generalize L.getD (n * 2) 0 = y
      generalize keys.getD n 0 = z
      grind
  unfold holdB
  refine decide_eq_true ?_
  have := (key.sub (Cg.refl p (baV p ws L 1 n))).eq
  rw [this]; simp
end Go.Proofs.Ytjgbhokilagmoaa
