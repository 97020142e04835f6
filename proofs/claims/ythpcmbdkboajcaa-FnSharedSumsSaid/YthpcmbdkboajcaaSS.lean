/- Slices of slices of integers: reading, and the laws' own helpers on them. -/
import Derived.Test.YthpcmbdkboajcaaRowsOf
namespace Go.Proofs.Ythpcmbdkboajcaa
open Go.RowKit

def rowAt (rs : List RowD) (j : Nat) : RowD := rs.getD j (none, 0, [])
theorem rowAt_mem {rs : List RowD} {j : Nat} (h : j < rs.length) : rowAt rs j ∈ rs := by
  unfold rowAt; simp [List.getD, h]
theorem rowAt_some {rs : List RowD} {j : Nat} (h : j < rs.length) : rs[j]? = some (rowAt rs j) := by
  unfold rowAt; simp [List.getD, h]
/-- The sum of the rows' lengths. -/
def tot (rs : List RowD) : Nat := (rs.map fun r => r.2.2.length).sum
theorem tot_take_succ {rs : List RowD} {j : Nat} (h : j < rs.length) : tot (rs.take (j + 1)) = tot (rs.take j) + (rowAt rs j).2.2.length := by
  unfold tot
  rw [List.take_succ_eq_append_getElem h, List.map_append, List.sum_append]
  simp [rowAt, List.getD, h]
theorem tot_take_le (rs : List RowD) (j : Nat) : tot (rs.take j) ≤ tot rs := by
  have : tot rs = tot (rs.take j) + tot (rs.drop j) := by
    unfold tot; rw [← List.sum_append, ← List.map_append, List.take_append_drop]
  omega
theorem tot_take_all (rs : List RowD) : tot (rs.take rs.length) = tot rs := by rw [List.take_length]
/-- The slice (a, n, c) of slices reads as the rows rs. -/
structure IntSS (w : World) (a : Option Addr) (n c : Nat) (rs : List RowD) : Prop where
  row : RowC w a n c 1 (rs.map rowV)
  inn : ∀ r ∈ rs, Ints w r.1 r.2.2.length r.2.1 r.2.2
theorem OwnSS.reads {w b a n c rs} (h : OwnSS w b a n c rs) : IntSS w a n c rs := ⟨h.out.row, fun r hr => (h.inn r hr).ints⟩
theorem IntSS.len {w a n c rs} (h : IntSS w a n c rs) : rs.length = n := by have := h.row.1; simpa using this
theorem IntSS.le {w a n c rs} (h : IntSS w a n c rs) : (n : Int) ≤ 9223372036854775807 := by
  have := h.row.2.1; have := h.row.2.2.1; unfold maxLen at this; omega
theorem IntSS.below {w w' a n c rs} (h : IntSS w a n c rs) (hb : Below w.heap.size w w') : IntSS w' a n c rs := ⟨h.row.below hb, fun r hr => (h.inn r hr).below hb⟩
theorem IntSS.alloc {w a n c rs} (h : IntSS w a n c rs) (o : Obj) : IntSS (w.alloc o) a n c rs := h.below ((Below.refl _ _).alloc (Nat.le_refl _) _)
theorem IntSS.drew {w a n c rs} (h : IntSS w a n c rs) : IntSS w.drew a n c rs := h.below ((Below.refl _ _).drew)
theorem IntSS.nil0 (w : World) : IntSS w none 0 0 [] := ⟨⟨rfl, Nat.le_refl _, Nat.zero_le _, fun _ => rfl, 0, 0, fun h => absurd h (by omega), fun i u hu => by simp at hu⟩, fun r hr => by cases hr⟩
theorem IntSS.at {w a n c rs} (h : IntSS w a n c rs) (k : Nat) (hk : k < n) : ∃ g o, a = some ⟨g, o, none⟩ ∧ w.cell? ⟨g, o + k, none⟩ = some (.slice (rowAt rs k).1 (rowAt rs k).2.2.length (rowAt rs k).2.1) ∧ Ints w (rowAt rs k).1 (rowAt rs k).2.2.length (rowAt rs k).2.1 (rowAt rs k).2.2 := by
  have hl := h.len
  obtain ⟨_, _, _, _, g, o, h1, h2⟩ := h.row
  refine ⟨g, o, h1 (by omega), ?_, h.inn _ (rowAt_mem (by omega))⟩
  have := h2 k (rowV (rowAt rs k)) (by rw [List.getElem?_map, rowAt_some (by omega)]; rfl)
  exact this
/-- The rows of numbers. -/
def datas' (rs : List RowD) : List (List Int) := rs.map fun r => r.2.2
theorem datas_len (rs : List RowD) : (datas' rs).length = rs.length := by simp [datas']
theorem datas_at {rs rs' : List RowD} (h : datas' rs = datas' rs') (k : Nat) (hk : k < rs.length) : (rowAt rs k).2.2 = (rowAt rs' k).2.2 := by
  have hl : rs.length = rs'.length := by rw [← datas_len rs, h, datas_len]
  have := congrArg (fun l => l[k]?) h
  simp only [datas', List.getElem?_map, rowAt_some hk, rowAt_some (hl ▸ hk : k < rs'.length), Option.map_some, Option.some.injEq] at this
  exact this
/-- The rows hold the numbers from k on. -/
def UpSS (k : Int) (rs : List RowD) : Prop := ∀ j, j < rs.length → UpFrom (k + tot (rs.take j)) (rowAt rs j).2.2
theorem set_key (rs : List RowD) (i : Nat) (l : List Int) (hl : l.length = (rowAt rs i).2.2.length) (hi : i < rs.length) :
    (rs.set i ((rowAt rs i).1, (rowAt rs i).2.1, l)).map (fun r => (r.1, r.2.1, r.2.2.length)) = rs.map (fun r => (r.1, r.2.1, r.2.2.length)) := by
  apply List.ext_getElem?
  intro j
  rw [List.getElem?_map, List.getElem?_map, List.getElem?_set]
  by_cases e : i = j
  · subst e; rw [if_pos rfl, if_pos hi, rowAt_some hi]; simp [hl]
  · rw [if_neg e]
theorem rowsF_key {rs rs' : List RowD} (h : rs'.map (fun r => (r.1, r.2.1, r.2.2.length)) = rs.map (fun r => (r.1, r.2.1, r.2.2.length))) : rowsF rs' = rowsF rs := by
  have e : ∀ q : List RowD, rowsF q = (q.map (fun r => (r.1, r.2.1, r.2.2.length))).flatMap fun t => foot t.1 t.2.1 := fun q => by simp [rowsF, List.flatMap_map]
  rw [e, e, h]
theorem tot_key {rs rs' : List RowD} (h : rs'.map (fun r => (r.1, r.2.1, r.2.2.length)) = rs.map (fun r => (r.1, r.2.1, r.2.2.length))) (j : Nat) : tot (rs'.take j) = tot (rs.take j) := by
  have e : ∀ q : List RowD, tot (q.take j) = (((q.map (fun r => (r.1, r.2.1, r.2.2.length))).take j).map fun t => t.2.2).sum := fun q => by simp [tot, List.map_take]; rfl
  rw [e, e, h]
theorem at_key {rs rs' : List RowD} (h : rs'.map (fun r => (r.1, r.2.1, r.2.2.length)) = rs.map (fun r => (r.1, r.2.1, r.2.2.length))) (j : Nat) (hj : j < rs.length) : (rowAt rs' j).1 = (rowAt rs j).1 ∧ (rowAt rs' j).2.1 = (rowAt rs j).2.1 ∧ (rowAt rs' j).2.2.length = (rowAt rs j).2.2.length := by
  have hl : rs'.length = rs.length := by simpa using congrArg List.length h
  have := congrArg (fun l => l[j]?) h
  simp only [List.getElem?_map, rowAt_some hj, rowAt_some (hl ▸ hj : j < rs'.length), Option.map_some, Option.some.injEq, Prod.mk.injEq] at this
  exact this
theorem OwnSS.cap {w b a n c rs} (h : OwnSS w b a n c rs) : n ≤ c ∧ c ≤ maxLen := ⟨h.out.row.2.1, h.out.row.2.2.1⟩
/-- A row is written. -/
theorem OwnSS.put {w w' : World} {b a n c rs} (h : OwnSS w b a n c rs) (i : Nat) (hi : i < rs.length) (l : List Int) (o : Own w' b (rowAt rs i).1 (rowAt rs i).2.2.length (rowAt rs i).2.1 l) (ho : Only (foot (rowAt rs i).1 (rowAt rs i).2.1) w w') :
    OwnSS w' b a n c (rs.set i ((rowAt rs i).1, (rowAt rs i).2.1, l)) := by
  have hl : l.length = (rowAt rs i).2.2.length := by have := o.len; omega
  have hk := set_key rs i l hl hi
  have hm := rowAt_mem hi
  refine ⟨?_, fun r hr => ?_, ?_, ?_⟩
  · have e : ∀ q : List RowD, q.map rowV = (q.map (fun r => (r.1, r.2.1, r.2.2.length))).map fun t => Value.slice t.1 t.2.2 t.2.1 := fun q => by simp [rowV]
    rw [e, hk, ← e]
    exact h.out.only ho (fun k hk hk' => h.apart k hk (mem_rowsF hm hk'))
  · obtain ⟨j, hj⟩ := List.getElem?_of_mem hr
    rw [List.getElem?_set] at hj
    by_cases e : i = j
    · subst e
      rw [if_pos rfl, if_pos hi, Option.some.injEq] at hj
      subst hj
      rw [← hl] at o
      exact o
    · rw [if_neg e] at hj
      have hjl := (List.getElem?_eq_some_iff.1 hj).1
      have hrr : rowAt rs j = r := by have := rowAt_some hjl; rw [hj] at this; exact (Option.some.inj this).symm
      have hmr : r ∈ rs := by rw [← hrr]; exact rowAt_mem hjl
      refine (h.inn r hmr).only ho ?_
      have hp := List.pairwise_iff_getElem.1 h.dis
      have ei : rs[i] = rowAt rs i := by simp [rowAt, List.getD, hi]
      have ej : rs[j] = r := by rw [← hrr]; simp [rowAt, List.getD, hjl]
      rcases Nat.lt_or_gt_of_ne e with hlt | hgt
      · have := hp i j hi hjl hlt; rw [ei, ej] at this; exact this.symm
      · have := hp j i hjl hi hgt; rw [ei, ej] at this; exact this
  · have e : ∀ q : List RowD, (q.Pairwise fun r s => Disj (foot r.1 r.2.1) (foot s.1 s.2.1)) ↔ ((q.map (fun r => (r.1, r.2.1, r.2.2.length))).Pairwise fun r s => Disj (foot r.1 r.2.1) (foot s.1 s.2.1)) := fun q => by rw [List.pairwise_map]
    rw [e, hk, ← e]
    exact h.dis
  · rw [rowsF_key hk]; exact h.apart
theorem tot_datas (rs : List RowD) : tot rs = ((datas' rs).map List.length).sum := by unfold tot datas'; rw [List.map_map]; rfl
theorem sum_le {l : List Nat} {m : Nat} (h : ∀ x ∈ l, x ≤ m) : l.sum ≤ l.length * m := by
  induction l with
  | nil => simp
  | cons x l ih =>
    have := ih (fun y hy => h y (by simp [hy])); have := h x (by simp)
    rw [List.sum_cons, List.length_cons, Nat.succ_mul]; omega
end Go.Proofs.Ythpcmbdkboajcaa
