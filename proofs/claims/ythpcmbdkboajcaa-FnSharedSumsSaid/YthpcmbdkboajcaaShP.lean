/- Shared evaluation, the plain law: at every wire the two shares add up to the wire's value; the outs' sums are the outs' values; no fault, no change. -/
import Derived.Test.YthpcmbdkboajcaaFltD
import Derived.Test.YthpcmbdkboajcaaTriP
import Derived.Test.YthpcmbdkboajcaaTraffic
namespace Go.Proofs.Ythpcmbdkboajcaa
open Go.RowKit

/-- A gate's value. -/
def avG (P kd a b : Int) (L : List Int) : Int :=
  (if kd = 0 then L.getD a.toNat 0 + L.getD b.toNat 0 else if kd = 1 then L.getD a.toNat 0 * L.getD b.toNat 0 else if kd = 2 then L.getD a.toNat 0 * b else a) % P
/-- The values of the wires behind k gates. -/
def avR (P : Int) (G V : List Int) : Nat → List Int
  | 0 => V
  | k + 1 => avR P G V k ++ [avG P (G.getD (k * 3) 0) (G.getD (k * 3 + 1) 0) (G.getD (k * 3 + 2) 0) (avR P G V k)]
theorem avR_len (P : Int) (G V : List Int) (k : Nat) : (avR P G V k).length = V.length + k := by
  induction k with
  | zero => rfl
  | succ k ih => rw [avR, List.length_append, ih]; rfl
theorem gt_fit (P key k : Int) : ((gtN P key k 0 + gtN P key k 3) * (gtN P key k 1 + gtN P key k 4) - gtN P key k 2 - gtZ P key k) % P = 0 := by
  unfold gtZ
  generalize (gtN P key k 0 + gtN P key k 3) * (gtN P key k 1 + gtN P key k 4) - gtN P key k 2 = x
  obtain ⟨q, h⟩ := mod_form x P
  rw [h, show x - (x - P * q) = P * q by omega, Int.mul_emod_right]
/-- The shares add up to the values. -/
def ShOk (P : Int) (V : List Int) (st : WSt) : Prop := st.1.length = V.length ∧ st.2.1.length = V.length ∧ ∀ i, i < V.length → (st.1.getD i 0 + st.2.1.getD i 0) % P = V.getD i 0
theorem getD_app (l : List Int) (x : Int) (i : Nat) : (l ++ [x]).getD i 0 = if i < l.length then l.getD i 0 else if i = l.length then x else 0 := by
  by_cases h : i < l.length
  · rw [if_pos h]; simp [List.getD, List.getElem?_append_left h]
  · rw [if_neg h]
    by_cases e : i = l.length
    · subst e; simp [List.getD]
    · rw [if_neg e]; simp [List.getD, show l.length + 1 ≤ i by omega]
theorem ShOk.snoc {P : Int} {V : List Int} {st : WSt} (h : ShOk P V st) {f s v : Int} {o : List (List Int)} (e : (f + s) % P = v) : ShOk P (V ++ [v]) (st.1 ++ [f], st.2.1 ++ [s], o) := by
  obtain ⟨h1, h2, h3⟩ := h
  refine ⟨by simp [h1], by simp [h2], fun i hi => ?_⟩
  simp only [List.length_append, List.length_singleton] at hi
  rw [getD_app, getD_app, getD_app, h1, h2]
  by_cases hl : i < V.length
  · rw [if_pos hl, if_pos hl, if_pos hl]; exact h3 i hl
  · have : i = V.length := by omega
    rw [if_neg hl, if_neg hl, if_neg hl, if_pos this, if_pos this, if_pos this]; exact e
theorem mod_add (a b P : Int) : (a % P + b % P) % P = (a + b) % P := (Int.add_emod a b P).symm
theorem ShOk.at {P : Int} {V : List Int} {st : WSt} (h : ShOk P V st) {a : Int} (ha : 0 ≤ a ∧ a ≤ (V.length : Int) - 1) : (st.1.getD a.toNat 0 + st.2.1.getD a.toNat 0) % P = V.getD a.toNat 0 := h.2.2 _ (by omega)
theorem ShOk.step {P key own : Int} {G V : List Int} {k : Nat} {st : WSt} (h : ShOk P V st) (ho : own + k = (V.length : Int)) (hg : gateAt P own G k = true) :
    ShOk P (V ++ [avG P (G.getD (k * 3) 0) (G.getD (k * 3 + 1) 0) (G.getD (k * 3 + 2) 0) V]) (wsStep P key (-1) 0 G k st) := by
  unfold gateAt at hg
  rw [ho] at hg
  unfold wsStep
  generalize G.getD (k * 3) 0 = kd at *
  generalize G.getD (k * 3 + 1) 0 = a at *
  generalize G.getD (k * 3 + 2) 0 = b at *
  split
  · rename_i h1
    obtain ⟨ha, hb⟩ := gateB_mul hg h1
    refine h.snoc ?_
    unfold avG
    rw [if_neg (by omega), if_pos h1]
    have hT : wsT P key (-1) 0 k = gtZ P key k := by unfold wsT; rw [if_neg (by omega)]
    rw [hT, share_sum P _ _ _ _ _ _ (wsD P key k a st.1 st.2.1) (wsE P key k b st.1 st.2.1) (st.1.getD a.toNat 0 + st.2.1.getD a.toNat 0) (st.1.getD b.toNat 0 + st.2.1.getD b.toNat 0) (gt_fit P key k) rfl rfl, Int.mul_emod, h.at ha, h.at hb]
  · rename_i h1
    refine h.snoc ?_
    unfold avG localI
    by_cases h0 : kd = 0
    · obtain ⟨ha, hb⟩ := gateB_add hg h0
      rw [if_pos h0, if_pos h0, if_pos h0, mod_add, ← h.at ha, ← h.at hb, mod_add]
      congr 1
      omega
    · rw [if_neg h0, if_neg h0, if_neg h0, if_neg h1]
      by_cases h2 : kd = 2
      · obtain ⟨ha, hb⟩ := gateB_scale hg h2
        rw [if_pos h2, if_pos h2, if_pos h2, mod_add, ← h.at ha, ← Int.add_mul]
        conv => rhs; rw [Int.mul_emod, Int.emod_emod_of_dvd _ (Int.dvd_refl _), ← Int.mul_emod]
      · rw [if_neg h2, if_neg h2, if_neg h2]
        congr 1
        omega
theorem sh_base {P key : Int} (V : List Int) (hV : ∀ x ∈ V, 0 ≤ x ∧ x ≤ P - 1) : ShOk P V (isF P key V.length, isS P key V V.length, []) := by
  refine ⟨by simp [isF], by simp [isS], fun i hi => ?_⟩
  have e1 : (isF P key V.length).getD i 0 = isN P key i := by unfold isF; simp [List.getD, hi]
  have e2 : (isS P key V V.length).getD i 0 = (V.getD i 0 - isN P key i) % P := by unfold isS; simp [List.getD, hi]
  have hm : 0 ≤ V.getD i 0 ∧ V.getD i 0 ≤ P - 1 := hV _ (getD_mem V i hi)
  show ((isF P key V.length).getD i 0 + (isS P key V V.length).getD i 0) % P = V.getD i 0
  rw [e1, e2, Int.add_emod, Int.emod_emod_of_dvd _ (Int.dvd_refl _), ← Int.add_emod, show isN P key i + (V.getD i 0 - isN P key i) = V.getD i 0 by omega]
  exact Int.emod_eq_of_lt hm.1 (by omega)
theorem sh_all {P key own : Int} {G V : List Int} {gn : Nat} (hV : ∀ x ∈ V, 0 ≤ x ∧ x ≤ P - 1) (ho : own = (V.length : Int)) (hg : ∀ k, k < gn → gateAt P own G k = true) :
    ∀ k, k ≤ gn → ShOk P (avR P G V k) (wsR P key (-1) 0 G (isF P key V.length) (isS P key V V.length) k)
  | 0, _ => sh_base V hV
  | k + 1, hk => by
    have ih := sh_all (key := key) hV ho hg k (by omega)
    rw [avR, wsR]
    exact ih.step (by rw [avR_len, ho]; omega) (hg k (by omega))
/-- A fault that changes nothing is none. -/
theorem wsR_nofault (P key fault : Int) (G F S : List Int) : ∀ k, wsR P key fault 0 G F S k = wsR P key (-1) 0 G F S k
  | 0 => rfl
  | k + 1 => by
    rw [wsR, wsR, wsR_nofault P key fault G F S k]
    have hT : ∀ f, wsT P key f 0 k = gtZ P key k := fun f => by
      unfold wsT
      split
      · rw [Int.add_zero]; unfold gtZ; exact Int.emod_emod_of_dvd _ (Int.dvd_refl _)
      · rfl
    unfold wsStep wsMul
    rw [hT, hT]
/-- So many pairs are opened as there are products. -/
theorem wsR_opened (P key fault change : Int) (G F S : List Int) : ∀ k, ((wsR P key fault change G F S k).2.2.length : Int) = cnt G 1 k
  | 0 => rfl
  | k + 1 => by
    have ih := wsR_opened P key fault change G F S k
    rw [wsR, cnt]
    unfold wsStep
    split
    · simp [wsMul, ih]
    · simp [wsLoc, ih]
/-- The outs' sums are the outs' values. -/
theorem outL_vals {P : Int} {V : List Int} {st : WSt} (h : ShOk P V st) {O : List Int} (hO : ∀ x ∈ O, 0 ≤ x ∧ x ≤ (V.length : Int) - 1) : outL P st.1 st.2.1 O O.length = pickL V O O.length := by
  unfold outL pickL
  apply List.map_congr_left
  intro i hi
  exact h.at (hO _ (getD_mem O i (List.mem_range.1 hi)))
end Go.Proofs.Ythpcmbdkboajcaa
