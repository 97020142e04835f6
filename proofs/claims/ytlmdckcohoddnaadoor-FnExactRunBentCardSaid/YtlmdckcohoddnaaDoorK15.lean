/- Lemmas and walks that the claim's proof rests on, part 15. -/
import Derived.Test.YtlmdckcohoddnaaDoorK7
import Derived.Test.YtlmdckcohoddnaaDoorK10
import Derived.Test.YtlmdckcohoddnaaDoorK14
namespace Go.Proofs.YtlmdckcohoddnaaDoor
open Go.RowKit
abbrev MsRow := Int × Int × RowD
abbrev MsD := Int × Int × List Int
def msC (r : MsRow) : List Value := [.int .i64 r.1, .int .i64 r.2.1, rowV r.2.2]
def msD (r : MsRow) : MsD := (r.1, r.2.1, r.2.2.2.2)
def bod (rs : List MsRow) : List RowD := rs.map fun r => r.2.2
def msAt (rs : List MsRow) (j : Nat) : MsRow := rs.getD j (0, 0, rowNil)
theorem msAt_mem {rs : List MsRow} {j : Nat} (h : j < rs.length) : msAt rs j ∈ rs := by
  unfold msAt; simp [List.getD, h]
theorem msAt_some {rs : List MsRow} {j : Nat} (h : j < rs.length) : rs[j]? = some (msAt rs j) := by
  unfold msAt; simp [List.getD, h]
theorem bod_len (rs : List MsRow) : (bod rs).length = rs.length := by simp [bod]
theorem bod_at {rs : List MsRow} {j : Nat} (h : j < rs.length) : rowAt (bod rs) j = (msAt rs j).2.2 := by
  unfold rowAt msAt bod; simp [List.getD, h]
theorem msC_len (rs : List MsRow) : (rs.flatMap msC).length = rs.length * 3 := by
  induction rs with
  | nil => rfl
  | cons r rs ih => rw [List.flatMap_cons, List.length_append, ih]; simp [msC]; omega
theorem msC_at {rs : List MsRow} : ∀ {i j : Nat}, i < rs.length → j < 3 → (rs.flatMap msC)[i * 3 + j]? = (msC (msAt rs i))[j]? := by
  induction rs with
  | nil => intro i j hi; simp at hi
  | cons r rs ih =>
    intro i j hi hj
    cases i with
    | zero =>
      rw [List.flatMap_cons, List.getElem?_append_left (by simp [msC]; omega)]
      simp [msAt]
    | succ i =>
      rw [List.flatMap_cons, List.getElem?_append_right (by simp [msC]; omega), show (i + 1) * 3 + j - (msC r).length = i * 3 + j by simp [msC]; omega, ih (by simpa using hi) hj]
      simp [msAt]
theorem msC_set (r : MsRow) : ∀ {rs : List MsRow} {i : Nat}, i < rs.length → (rs.set i r).flatMap msC = (((rs.flatMap msC).set (i * 3) (.int .i64 r.1)).set (i * 3 + 1) (.int .i64 r.2.1)).set (i * 3 + 2) (rowV r.2.2) := by
  intro rs
  induction rs with
  | nil => intro i hi; simp at hi
  | cons s rs ih =>
    intro i hi
    cases i with
    | zero => simp [msC]
    | succ i =>
      rw [List.set_cons_succ, List.flatMap_cons, List.flatMap_cons, ih (by simpa using hi), show (i + 1) * 3 = i * 3 + 1 + 1 + 1 by omega]
      simp [msC]
/-- The slice (a, n, c) of messages reads as the rows rs. -/
structure MsS (w : World) (a : Option Addr) (n c : Nat) (rs : List MsRow) : Prop where
  row : RowC w a n c 3 (rs.flatMap msC)
  inn : ∀ r ∈ rs, Ints w r.2.2.1 r.2.2.2.2.length r.2.2.2.1 r.2.2.2.2
theorem MsS.len {w a n c rs} (h : MsS w a n c rs) : rs.length = n := by have := h.row.1; rw [msC_len] at this; omega
theorem MsS.le {w a n c rs} (h : MsS w a n c rs) : (n : Int) ≤ 9223372036854775807 := by
  have := h.row.2.1; have := h.row.2.2.1; unfold maxLen at this; omega
theorem MsS.below {w w' a n c rs} (h : MsS w a n c rs) (hb : Below w.heap.size w w') : MsS w' a n c rs := ⟨h.row.below hb, fun r hr => (h.inn r hr).below hb⟩
theorem MsS.at {w a n c rs} (h : MsS w a n c rs) (k : Nat) (hk : k < n) : ∃ g o, a = some ⟨g, o, none⟩ ∧ w.cell? ⟨g, o + k * 3, none⟩ = some (.int .i64 (msAt rs k).1) ∧ w.cell? ⟨g, o + k * 3 + 1, none⟩ = some (.int .i64 (msAt rs k).2.1) ∧
    w.cell? ⟨g, o + k * 3 + 2, none⟩ = some (.slice (msAt rs k).2.2.1 (msAt rs k).2.2.2.2.length (msAt rs k).2.2.2.1) ∧ Ints w (msAt rs k).2.2.1 (msAt rs k).2.2.2.2.length (msAt rs k).2.2.2.1 (msAt rs k).2.2.2.2 := by
  have hl := h.len
  obtain ⟨_, _, _, _, g, o, h1, h2⟩ := h.row
  refine ⟨g, o, h1 (by omega), ?_, ?_, ?_, h.inn _ (msAt_mem (by omega))⟩
  · have := h2 (k * 3 + 0) (.int .i64 (msAt rs k).1) (by rw [msC_at (by omega) (by omega)]; rfl)
    simpa using this
  · have := h2 (k * 3 + 1) (.int .i64 (msAt rs k).2.1) (by rw [msC_at (by omega) (by omega)]; rfl)
    simpa only [Nat.add_assoc] using this
  · have := h2 (k * 3 + 2) (rowV (msAt rs k).2.2) (by rw [msC_at (by omega) (by omega)]; rfl)
    simp only [Nat.add_assoc] at this ⊢
    exact this
/-- The call's own. -/
structure MsW (w : World) (b : Nat) (a : Option Addr) (n c : Nat) (rs : List MsRow) : Prop where
  out : OwnC w b a n c 44 3 (rs.flatMap msC)
  inn : ∀ r ∈ rs, Own w b r.2.2.1 r.2.2.2.2.length r.2.2.2.1 r.2.2.2.2
  dis : (bod rs).Pairwise fun r s => Disj (foot r.1 r.2.1) (foot s.1 s.2.1)
  apart : Disj (foot a c) (rowsF (bod rs))
theorem MsW.reads {w b a n c rs} (h : MsW w b a n c rs) : MsS w a n c rs := ⟨h.out.row, fun r hr => (h.inn r hr).ints⟩
theorem MsW.cap {w b a n c rs} (h : MsW w b a n c rs) : n ≤ c ∧ c ≤ maxLen := ⟨h.out.row.2.1, h.out.row.2.2.1⟩
theorem mem_bod {rs : List MsRow} {r : MsRow} (h : r ∈ rs) : r.2.2 ∈ bod rs := List.mem_map.2 ⟨r, h, rfl⟩
theorem MsW.feet {w : World} {b a n c rs} (h : MsW w b a n c rs) : ∀ k ∈ feetSS a c (bod rs), b ≤ k ∧ k < w.heap.size := fun k hk => by
  rcases List.mem_append.1 hk with hk | hk
  · exact h.out.feet k hk
  · obtain ⟨r, hr, hk⟩ := List.mem_flatMap.1 hk
    obtain ⟨s, hs, rfl⟩ := List.mem_map.1 hr
    exact (h.inn s hs).feet k hk
theorem MsW.only {X : List Nat} {w w' : World} {b a n c rs} (h : MsW w b a n c rs) (ho : Only X w w') (hd : Disj (feetSS a c (bod rs)) X) : MsW w' b a n c rs :=
  ⟨h.out.only ho (fun k hk => hd k (List.mem_append_left _ hk)), fun r hr => (h.inn r hr).only ho (fun k hk => hd k (List.mem_append_right _ (mem_rowsF (mem_bod hr) hk))), h.dis, h.apart⟩
theorem MsW.below {w w' : World} {b a n c rs} (h : MsW w b a n c rs) (hb : Below w.heap.size w w') : MsW w' b a n c rs := ⟨h.out.below hb, fun r hr => (h.inn r hr).below hb, h.dis, h.apart⟩
theorem MsW.lower {w : World} {b b' a n c rs} (h : MsW w b a n c rs) (hb : b' ≤ b) : MsW w b' a n c rs := ⟨h.out.lower hb, fun r hr => (h.inn r hr).lower hb, h.dis, h.apart⟩
theorem MsW.nil0 (w : World) (b : Nat) (a : Option Addr) : MsW w b a 0 0 [] := ⟨OwnC.nil0 _ _ _ _ _, fun r hr => (by cases hr), List.Pairwise.nil, fun k hk => by simp [foot, rowOf] at hk⟩
theorem msC_rep (n : Nat) : (List.replicate n ((0, 0, rowNil) : MsRow)).flatMap msC = (List.replicate n [Value.int .i64 0, .int .i64 0, .slice none 0 0]).flatten := by
  induction n with
  | zero => rfl
  | succ n ih => rw [List.replicate_succ, List.flatMap_cons, ih, List.replicate_succ, List.flatten_cons]; rfl
theorem bod_rep (n : Nat) : bod (List.replicate n ((0, 0, rowNil) : MsRow)) = List.replicate n rowNil := by simp [bod]
theorem MsW.made {w : World} {b : Nat} {a : Option Addr} {n c : Nat} (h : OwnC w b a n c 44 3 ((List.replicate n [Value.int .i64 0, .int .i64 0, .slice none 0 0]).flatten)) : MsW w b a n c (List.replicate n (0, 0, rowNil)) :=
  ⟨by rw [msC_rep]; exact h, fun r hr => by rw [List.eq_of_mem_replicate hr]; exact Own.nil0 _ _ _, by
    rw [bod_rep, List.pairwise_replicate]
    right
    intro k hk
    simp [rowNil, foot_zero] at hk, by rw [bod_rep, rowsF_nils]; exact Disj.nil_r _⟩
theorem bod_set (rs : List MsRow) (i : Nat) (r : MsRow) : bod (rs.set i r) = (bod rs).set i r.2.2 := by unfold bod; rw [List.map_set]
theorem MsW.cells {w : World} {b n c i : Nat} {a : Option Addr} {rs : List MsRow} (h : MsW w b a n c rs) (hi : i < n) : ∃ g, a = some ⟨g, 0, none⟩ ∧ b ≤ g ∧ g < w.heap.size ∧ g ∈ foot a c ∧
    (w.cell? ⟨g, i * 3, none⟩ = some (.int .i64 (msAt rs i).1) ∧ w.cell? ⟨g, i * 3 + 1, none⟩ = some (.int .i64 (msAt rs i).2.1) ∧ w.cell? ⟨g, i * 3 + 2, none⟩ = some (rowV (msAt rs i).2.2)) ∧
    (w.frozen? ⟨g, i * 3, none⟩ = false ∧ w.frozen? ⟨g, i * 3 + 1, none⟩ = false ∧ w.frozen? ⟨g, i * 3 + 2, none⟩ = false) := by
  have hl := h.reads.len
  have hc := h.cap
  obtain ⟨g, rfl, hb, hg, ⟨u0, hu0, hc0⟩, hf0, _⟩ := OwnC.atC h.out (i * 3) (by omega)
  obtain ⟨_, E1, _, _, ⟨u1, hu1, hc1⟩, hf1, _⟩ := OwnC.atC h.out (i * 3 + 1) (by omega)
  cases E1
  obtain ⟨_, E2, _, _, ⟨u2, hu2, hc2⟩, hf2, _⟩ := OwnC.atC h.out (i * 3 + 2) (by omega)
  cases E2
  have e0 := msC_at (rs := rs) (i := i) (j := 0) (by omega) (by omega)
  rw [Nat.add_zero, hu0] at e0
  rw [msC_at (by omega) (by omega)] at hu1 hu2
  refine ⟨g, rfl, hb, hg, foot_mem (x := ⟨g, 0, none⟩) (by omega), ⟨by rw [hc0, e0]; rfl, by rw [hc1, ← hu1]; rfl, by rw [hc2, ← hu2]; rfl⟩, hf0, hf1, hf2⟩
/-- A message is stored. -/
theorem MsW.putRow {w : World} {b g n c i : Nat} {rs : List MsRow} {r : MsRow} (h : MsW w b (some ⟨g, 0, none⟩) n c rs) (hi : i < n) (hr : Own w b r.2.2.1 r.2.2.2.2.length r.2.2.2.1 r.2.2.2.2) (hd : Disj (foot r.2.2.1 r.2.2.2.1) (feetSS (some ⟨g, 0, none⟩) c (bod rs))) :
    MsW (((w.setCell ⟨g, i * 3, none⟩ (.int .i64 r.1)).setCell ⟨g, i * 3 + 1, none⟩ (.int .i64 r.2.1)).setCell ⟨g, i * 3 + 2, none⟩ (rowV r.2.2)) b (some ⟨g, 0, none⟩) n c (rs.set i r) := by
  have hl := h.reads.len
  have hc := h.cap
  have hg : g ∈ foot (some ⟨g, 0, none⟩ : Option Addr) c := foot_mem (x := ⟨g, 0, none⟩) (by omega)
  obtain ⟨_, E, _, _, _, _, hs⟩ := OwnC.atC h.out (i * 3) (by omega)
  cases E
  have s1 := hs (.int .i64 r.1)
  obtain ⟨_, E, _, _, _, _, hs⟩ := OwnC.atC s1 (i * 3 + 1) (by omega)
  cases E
  have s2 := hs (.int .i64 r.2.1)
  obtain ⟨_, E, _, _, _, _, hs⟩ := OwnC.atC s2 (i * 3 + 2) (by omega)
  cases E
  have s3 := hs (rowV r.2.2)
  have ho : Only [g] w (((w.setCell ⟨g, i * 3, none⟩ (.int .i64 r.1)).setCell ⟨g, i * 3 + 1, none⟩ (.int .i64 r.2.1)).setCell ⟨g, i * 3 + 2, none⟩ (rowV r.2.2)) := (((Only.refl _ _).setCell _ _ (by simp)).setCell _ _ (by simp)).setCell _ _ (by simp)
  refine ⟨by rw [msC_set r (by omega)]; exact s3, fun s hs' => ?_, ?_, ?_⟩
  · rcases List.mem_or_eq_of_mem_set hs' with hs' | rfl
    · exact (h.inn s hs').only ho (fun k hk hk' => by simp at hk'; subst hk'; exact h.apart _ hg (mem_rowsF (mem_bod hs') hk))
    · exact hr.only ho (fun k hk hk' => by simp at hk'; subst hk'; exact hd _ hk (List.mem_append_left _ hg))
  · rw [bod_set, List.pairwise_iff_getElem]
    intro x y hx hy hxy
    rw [List.length_set] at hx hy
    have hp := List.pairwise_iff_getElem.1 h.dis x y hx hy hxy
    rw [List.getElem_set, List.getElem_set]
    by_cases e1 : i = x
    · rw [if_pos e1, if_neg (by omega)]
      exact fun k hk hk' => hd k hk (List.mem_append_right _ (mem_rowsF (List.getElem_mem hy) hk'))
    · rw [if_neg e1]
      by_cases e2 : i = y
      · rw [if_pos e2]
        exact fun k hk hk' => hd k hk' (List.mem_append_right _ (mem_rowsF (List.getElem_mem hx) hk))
      · rw [if_neg e2]; exact hp
  · rw [bod_set]
    intro k hk hk'
    rcases mem_rowsF_set hk' with h1 | h1
    · exact h.apart k hk h1
    · exact hd k h1 (List.mem_append_left _ hk)
theorem set_same {α : Type} {M : List α} {k : Nat} {v : α} (h : M[k]? = some v) : M.set k v = M := by
  apply List.ext_getElem?
  intro j
  rw [List.getElem?_set]
  by_cases e : k = j
  · subst e
    have := (List.getElem?_eq_some_iff.1 h).1
    rw [if_pos rfl, if_pos this, h]
  · rw [if_neg e]
theorem msC_same {rs : List MsRow} {i : Nat} {r : MsRow} (hi : i < rs.length) (h : msC r = msC (msAt rs i)) : (rs.set i r).flatMap msC = rs.flatMap msC := by
  have e0 := msC_at (rs := rs) (i := i) (j := 0) hi (by omega)
  have e1 := msC_at (rs := rs) (i := i) (j := 1) hi (by omega)
  have e2 := msC_at (rs := rs) (i := i) (j := 2) hi (by omega)
  rw [← h] at e0 e1 e2
  rw [Nat.add_zero] at e0
  rw [msC_set r hi, set_same (M := rs.flatMap msC) e0, set_same e1, set_same e2]
/-- A body is written. -/
theorem MsW.put {w w' : World} {b a n c rs} (h : MsW w b a n c rs) (i : Nat) (hi : i < rs.length) (l : List Int) (o : Own w' b (msAt rs i).2.2.1 (msAt rs i).2.2.2.2.length (msAt rs i).2.2.2.1 l) (ho : Only (foot (msAt rs i).2.2.1 (msAt rs i).2.2.2.1) w w') :
    MsW w' b a n c (rs.set i ((msAt rs i).1, (msAt rs i).2.1, (msAt rs i).2.2.1, (msAt rs i).2.2.2.1, l)) := by
  have hl : l.length = (msAt rs i).2.2.2.2.length := by have := o.len; omega
  have hm := msAt_mem hi
  have hb := bod_at hi
  have hk := set_key (bod rs) i l (by rw [hb]; exact hl) (by rw [bod_len]; exact hi)
  rw [hb] at hk
  have eb : bod (rs.set i ((msAt rs i).1, (msAt rs i).2.1, (msAt rs i).2.2.1, (msAt rs i).2.2.2.1, l)) = (bod rs).set i ((msAt rs i).2.2.1, (msAt rs i).2.2.2.1, l) := bod_set _ _ _
  refine ⟨?_, fun r hr => ?_, ?_, ?_⟩
  · rw [msC_same hi (by simp [msC, rowV, hl])]
    exact h.out.only ho (fun k hk hk' => h.apart k hk (mem_rowsF (mem_bod hm) hk'))
  · obtain ⟨j, hj⟩ := List.getElem?_of_mem hr
    rw [List.getElem?_set] at hj
    by_cases e : i = j
    · subst e
      rw [if_pos rfl, if_pos hi, Option.some.injEq] at hj
      subst hj
      rw [← hl] at o
      exact o
    · rw [if_neg e] at hj
      have hjl := (List.getElem?_eq_some_iff.1 hj).1
      have hrr : msAt rs j = r := by have := msAt_some hjl; rw [hj] at this; exact (Option.some.inj this).symm
      have hmr : r ∈ rs := by rw [← hrr]; exact msAt_mem hjl
      refine (h.inn r hmr).only ho ?_
      have hp := List.pairwise_iff_getElem.1 h.dis
      have ei : (bod rs)[i]'(by rw [bod_len]; exact hi) = (msAt rs i).2.2 := by simp [bod, msAt, List.getD, hi]
      have ej : (bod rs)[j]'(by rw [bod_len]; exact hjl) = r.2.2 := by rw [← hrr]; simp [bod, msAt, List.getD, hjl]
      rcases Nat.lt_or_gt_of_ne e with hlt | hgt
      · have := hp i j (by rw [bod_len]; exact hi) (by rw [bod_len]; exact hjl) hlt; rw [ei, ej] at this; exact this.symm
      · have := hp j i (by rw [bod_len]; exact hjl) (by rw [bod_len]; exact hi) hgt; rw [ei, ej] at this; exact this
  · have e : ∀ q : List RowD, (q.Pairwise fun r s => Disj (foot r.1 r.2.1) (foot s.1 s.2.1)) ↔ ((q.map (fun r => (r.1, r.2.1, r.2.2.length))).Pairwise fun r s => Disj (foot r.1 r.2.1) (foot s.1 s.2.1)) := fun q => by rw [List.pairwise_map]
    rw [eb, e, hk, ← e]
    exact h.dis
  · rw [eb, rowsF_key hk]; exact h.apart
/-- The numbers from k on. -/
def UpS (k : Int) (rs : List MsRow) : Prop := ∀ j, j < rs.length → (msAt rs j).1 = k + 2 * j + tot ((bod rs).take j) ∧ (msAt rs j).2.1 = k + 2 * j + tot ((bod rs).take j) + 1 ∧ UpFrom (k + 2 * j + tot ((bod rs).take j) + 2) (msAt rs j).2.2.2.2
/-- The same over the messages alone. -/
def MsR (w : World) (a : Option Addr) (n c : Nat) (D : List MsD) : Prop := ∃ rs, MsS w a n c rs ∧ rs.map msD = D
def MsO (w : World) (b : Nat) (a : Option Addr) (n c : Nat) (D : List MsD) (F : List Nat) : Prop := ∃ rs, MsW w b a n c rs ∧ rs.map msD = D ∧ F = feetSS a c (bod rs)
def totM (D : List MsD) : Nat := (D.map fun d => d.2.2.length).sum
def szM (n : Nat) (D : List MsD) : Nat := n + totM D
def cntM (D : List MsD) : Nat := 2 * D.length + totM D
def mdAt (D : List MsD) (j : Nat) : MsD := D.getD j (0, 0, [])
def UpM (k : Int) (D : List MsD) : Prop := ∀ j, j < D.length → (mdAt D j).1 = k + 2 * j + totM (D.take j) ∧ (mdAt D j).2.1 = k + 2 * j + totM (D.take j) + 1 ∧ UpFrom (k + 2 * j + totM (D.take j) + 2) (mdAt D j).2.2
theorem totM_map (rs : List MsRow) : totM (rs.map msD) = tot (bod rs) := by unfold totM tot bod; rw [List.map_map, List.map_map]; rfl
theorem totM_take (rs : List MsRow) (j : Nat) : totM ((rs.map msD).take j) = tot ((bod rs).take j) := by
  rw [← List.map_take, totM_map]; unfold bod; rw [List.map_take]
theorem mdAt_map {rs : List MsRow} {j : Nat} (h : j < rs.length) : mdAt (rs.map msD) j = msD (msAt rs j) := by
  unfold mdAt msAt; simp [List.getD, h]
theorem UpM.of {k : Int} {rs : List MsRow} : UpM k (rs.map msD) ↔ UpS k rs := by
  unfold UpM UpS
  constructor
  · intro h j hj
    have := h j (by simpa using hj)
    rwa [totM_take, mdAt_map hj] at this
  · intro h j hj
    have hj' : j < rs.length := by simpa using hj
    rw [totM_take, mdAt_map hj']
    exact h j hj'
theorem MsR.below {w w' a n c D} (h : MsR w a n c D) (hb : Below w.heap.size w w') : MsR w' a n c D := by obtain ⟨rs, h1, h2⟩ := h; exact ⟨rs, h1.below hb, h2⟩
theorem MsR.len {w a n c D} (h : MsR w a n c D) : D.length = n := by obtain ⟨rs, h1, rfl⟩ := h; rw [List.length_map]; exact h1.len
theorem MsR.le {w a n c D} (h : MsR w a n c D) : (n : Int) ≤ 9223372036854775807 := by obtain ⟨rs, h1, _⟩ := h; exact h1.le
theorem MsR.cnt {w a n c D} (h : MsR w a n c D) (ht : (szM n D : Int) ≤ 1048576) : cntM D ≤ 4000000 := by
  have := h.len; unfold szM at ht; unfold cntM; omega
theorem MsO.rd {w b a n c D F} (h : MsO w b a n c D F) : MsR w a n c D := by obtain ⟨rs, h1, h2, _⟩ := h; exact ⟨rs, h1.reads, h2⟩
theorem MsO.feet {w b a n c D F} (h : MsO w b a n c D F) : ∀ q ∈ F, b ≤ q ∧ q < w.heap.size := by obtain ⟨rs, h1, _, rfl⟩ := h; exact h1.feet
theorem MsO.only {X : List Nat} {w w' b a n c D F} (h : MsO w b a n c D F) (ho : Only X w w') (hd : Disj F X) : MsO w' b a n c D F := by obtain ⟨rs, h1, h2, rfl⟩ := h; exact ⟨rs, h1.only ho hd, h2, rfl⟩
theorem MsO.below {w w' b a n c D F} (h : MsO w b a n c D F) (hb : Below w.heap.size w w') : MsO w' b a n c D F := by obtain ⟨rs, h1, h2, h3⟩ := h; exact ⟨rs, h1.below hb, h2, h3⟩
theorem MsO.alloc {w b a n c D F} (h : MsO w b a n c D F) (o : Obj) : MsO (w.alloc o) b a n c D F := h.below ((Below.refl _ _).alloc (Nat.le_refl _) _)
theorem MsO.drew {w b a n c D F} (h : MsO w b a n c D F) : MsO w.drew b a n c D F := h.below ((Below.refl _ _).drew)
theorem MsO.lower {w b b' a n c D F} (h : MsO w b a n c D F) (hb : b' ≤ b) : MsO w b' a n c D F := by obtain ⟨rs, h1, h2, h3⟩ := h; exact ⟨rs, h1.lower hb, h2, h3⟩
theorem MsO.nil (w : World) (b : Nat) (a : Option Addr) : MsO w b a 0 0 [] [] := ⟨[], MsW.nil0 _ _ _, rfl, by simp [bod, feetSS_nil]⟩
end Go.Proofs.YtlmdckcohoddnaaDoor
namespace Go.Proofs.YtlmdckcohoddnaaDoor
open Go.RowKit
/-- A player after messages. -/
def rpS (a : Pl) (m : MsD) : Pl := if a.status = 0 then takeP a m.1 m.2.1 m.2.2 else a
def rpP (a : Pl) (D : List MsD) : Pl := D.foldl rpS a
structure RunN (a : Pl) : Prop where
  n : PlN a
  r : a.status = 0 → a.step ≤ 2
theorem RunN.step {a : Pl} (h : RunN a) (m : MsD) : RunN (rpS a m) := by
  unfold rpS
  split
  · rename_i h0
    have hs := h.r h0
    refine ⟨h.n.take hs _ _ _, fun h1 => ?_⟩
    cases hacc : accB a m.1 m.2.1 m.2.2
    · rw [takeP_no hacc] at h1; simp at h1
    · by_cases h2 : a.step = 2
      · rw [takeP_end hacc h2] at h1; simp at h1
      · rw [takeP_go hacc h2]; simp only; omega
  · exact h
theorem RunN.of {a : Pl} (h : plB a = true) (h0 : a.status = 0) : RunN a := ⟨PlN.of h, fun _ => run_step h h0⟩
theorem RunN.all {a : Pl} (h : RunN a) (D : List MsD) : RunN (rpP a D) := by
  unfold rpP
  induction D generalizing a with
  | nil => exact h
  | cons m D ih => exact ih (h.step m)
end Go.Proofs.YtlmdckcohoddnaaDoor
namespace Go.Proofs.YtlmdckcohoddnaaDoor
open Go.RowKit
def mesP (fr : Int) (a : Pl) : MsD := (fr, a.step, bodyL a)
def takeM (a : Pl) (m : MsD) : Pl := takeP a m.1 m.2.1 m.2.2
/-- A run of at most n rounds; chg: what becomes of the message with a number. -/
def runP (chg : Int → MsD → MsD) : Nat → Pl → Pl → List MsD → Pl × Pl × List MsD
  | 0, a, b, l => (a, b, l)
  | n + 1, a, b, l =>
    let a' := takeM a (chg (l.length + 1) (mesP 1 b)); let b' := takeM b (chg l.length (mesP 0 a))
    if a'.status = 2 ∨ b'.status = 2 then (a', b', l ++ [mesP 0 a, mesP 1 b]) else runP chg n a' b' (l ++ [mesP 0 a, mesP 1 b])
/-- Two players ahead of round r. -/
structure RunS (r : Nat) (a b : Pl) : Prop where
  an : PlN a
  bn : PlN b
  sa : a.step = r
  sb : b.step = r
  ta : a.status = 0
  tb : b.status = 0
theorem takeM_status {a : Pl} {m : MsD} (h : (takeM a m).status ≠ 2) : accB a m.1 m.2.1 m.2.2 = true := by
  cases hacc : accB a m.1 m.2.1 m.2.2
  · unfold takeM at h; rw [takeP_no hacc] at h; simp at h
  · rfl
theorem takeM_go {a : Pl} {m : MsD} (h : (takeM a m).status ≠ 2) (h2 : a.step ≠ 2) : (takeM a m).step = a.step + 1 ∧ (takeM a m).status = a.status := by
  have hacc := takeM_status h
  unfold takeM; rw [takeP_go hacc h2]; exact ⟨rfl, rfl⟩
theorem takeM_end {a : Pl} {m : MsD} (h : (takeM a m).status ≠ 2) (h2 : a.step = 2) : (takeM a m).step = 3 ∧ (takeM a m).status = 1 := by
  have hacc := takeM_status h
  unfold takeM; rw [takeP_end hacc h2]; exact ⟨by simp only; omega, rfl⟩
theorem RunS.next {r : Nat} {a b : Pl} (h : RunS r a b) (hr : r < 2) {m k : MsD} (ha : (takeM a m).status ≠ 2) (hb : (takeM b k).status ≠ 2) : RunS (r + 1) (takeM a m) (takeM b k) := by
  have h1 := h.sa; have h2 := h.sb
  obtain ⟨a1, a2⟩ := takeM_go ha (by omega)
  obtain ⟨b1, b2⟩ := takeM_go hb (by omega)
  exact ⟨h.an.take (by omega) _ _ _, h.bn.take (by omega) _ _ _, by rw [a1]; omega, by rw [b1]; omega, by rw [a2]; exact h.ta, by rw [b2]; exact h.tb⟩
theorem takeM_n {r : Nat} {a b : Pl} (h : RunS r a b) (hr : r ≤ 2) (m k : MsD) : PlN (takeM a m) ∧ PlN (takeM b k) :=
  ⟨h.an.take (by have := h.sa; omega) _ _ _, h.bn.take (by have := h.sb; omega) _ _ _⟩
theorem runP_n (chg : Int → MsD → MsD) : ∀ (n r : Nat) (a b : Pl) (l : List MsD), RunS r a b → r + n ≤ 3 → PlN (runP chg n a b l).1 ∧ PlN (runP chg n a b l).2.1 := by
  intro n
  induction n with
  | zero => intro r a b l h _; exact ⟨h.an, h.bn⟩
  | succ n ih =>
    intro r a b l h hr
    obtain ⟨g1, g2⟩ := takeM_n h (by omega) (chg (l.length + 1) (mesP 1 b)) (chg l.length (mesP 0 a))
    unfold runP
    dsimp only
    split
    · exact ⟨g1, g2⟩
    · rename_i hn
      cases n with
      | zero => exact ⟨g1, g2⟩
      | succ n => exact ih (r + 1) _ _ _ (h.next (by omega) (fun e => hn (Or.inl e)) (fun e => hn (Or.inr e))) (by omega)
end Go.Proofs.YtlmdckcohoddnaaDoor
namespace Go.Proofs.YtlmdckcohoddnaaDoor
open Go.RowKit
theorem bod_app (l l' : List MsRow) : bod (l ++ l') = bod l ++ bod l' := by unfold bod; rw [List.map_append]
theorem MsW.app {w w' : World} {b a n c} {rs rs2 : List MsRow} {a5 : Option Addr} {n5 c5 : Nat} (h : MsW w b a n c rs) (h2 : ∀ r ∈ rs2, Own w b r.2.2.1 r.2.2.2.2.length r.2.2.2.1 r.2.2.2.2)
    (hp : (bod rs2).Pairwise fun r s => Disj (foot r.1 r.2.1) (foot s.1 s.2.1)) (hd : Disj (rowsF (bod rs2)) (feetSS a c (bod rs)))
    (o : OwnC w' b a5 n5 c5 44 3 (rs.flatMap msC ++ rs2.flatMap msC)) (g : w.grownBy w' (rowOf a c)) (m : Moved w a c a5 c5) : MsW w' b a5 n5 c5 (rs ++ rs2) := by
  have lt2 : ∀ k ∈ rowsF (bod rs2), k < w.heap.size := fun k hk => by
    obtain ⟨r, hr, hk⟩ := List.mem_flatMap.1 hk
    obtain ⟨s, hs, rfl⟩ := List.mem_map.1 hr
    exact ((h2 s hs).feet k hk).2
  refine ⟨by rw [List.flatMap_append]; exact o, fun s hs => ?_, ?_, ?_⟩
  · rcases List.mem_append.1 hs with hs | hs
    · exact (h.inn s hs).only (Only.of_grown g) (fun k hk hk' => h.apart k hk' (mem_rowsF (mem_bod hs) hk))
    · exact (h2 s hs).only (Only.of_grown g) (fun k hk hk' => hd k (mem_rowsF (mem_bod hs) hk) (List.mem_append_left _ hk'))
  · rw [bod_app, List.pairwise_append]
    exact ⟨h.dis, hp, fun r hr s hs k hk hk' => hd k (mem_rowsF hs hk') (List.mem_append_right _ (mem_rowsF hr hk))⟩
  · rw [bod_app, rowsF_app]
    refine (m.disj (F := rowsF (bod rs) ++ rowsF (bod rs2)) ?_ ?_)
    · exact h.apart.app (fun k hk hk' => hd k hk' (List.mem_append_left _ hk))
    · intro k hk
      rcases List.mem_append.1 hk with hk | hk
      · exact (h.feet k (List.mem_append_right _ hk)).2
      · exact lt2 k hk
/-- Two messages behind the others. -/
theorem MsW.app2 {w w' : World} {b a n c} {rs : List MsRow} {r s : MsRow} {a5 : Option Addr} {c5 : Nat} (h : MsW w b a n c rs) (hr : Own w b r.2.2.1 r.2.2.2.2.length r.2.2.2.1 r.2.2.2.2) (hs : Own w b s.2.2.1 s.2.2.2.2.length s.2.2.2.1 s.2.2.2.2)
    (hrs : Disj (foot r.2.2.1 r.2.2.2.1) (foot s.2.2.1 s.2.2.2.1)) (dr : Disj (foot r.2.2.1 r.2.2.2.1) (feetSS a c (bod rs))) (ds : Disj (foot s.2.2.1 s.2.2.2.1) (feetSS a c (bod rs)))
    (o : OwnC w' b a5 (n + 2) c5 44 3 (rs.flatMap msC ++ (msC r ++ msC s))) (g : w.grownBy w' (rowOf a c)) (m : Moved w a c a5 c5) : MsW w' b a5 (n + 2) c5 (rs ++ [r, s]) := by
  refine h.app (rs2 := [r, s]) (fun q hq => ?_) ?_ ?_ (by simpa using o) g m
  · simp only [List.mem_cons, List.not_mem_nil, or_false] at hq
    rcases hq with rfl | rfl
    · exact hr
    · exact hs
  · show ([r.2.2, s.2.2] : List RowD).Pairwise _
    simp only [List.pairwise_cons, List.mem_cons, List.not_mem_nil, or_false, forall_eq, false_implies, implies_true, and_true, List.Pairwise.nil]
    exact hrs
  · have e : rowsF (bod [r, s]) = foot r.2.2.1 r.2.2.2.1 ++ foot s.2.2.1 s.2.2.2.1 := by simp [bod, rowsF]
    rw [e]
    exact Disj.app_l dr ds
theorem app2_feet {w : World} {a c a5 c5} {rs : List MsRow} {r s : MsRow} {X : List Nat} (hX : Disj X (feetSS a c (bod rs))) (hr : Disj X (foot r.2.2.1 r.2.2.2.1)) (hs : Disj X (foot s.2.2.1 s.2.2.2.1)) (m : Moved w a c a5 c5) (hw : ∀ k ∈ X, k < w.heap.size) :
    Disj X (feetSS a5 c5 (bod (rs ++ [r, s]))) := by
  unfold feetSS
  have e : rowsF (bod [r, s]) = foot r.2.2.1 r.2.2.2.1 ++ foot s.2.2.1 s.2.2.2.1 := by simp [bod, rowsF]
  rw [bod_app, rowsF_app, e]
  refine Disj.app (m.disj (fun k hk hk' => hX k hk' (List.mem_append_left _ hk)) hw).symm (Disj.app (fun k hk hk' => hX k hk (List.mem_append_right _ hk')) (Disj.app hr hs))
/-- Two messages behind the others, over the messages alone. -/
theorem MsO.app2 {w : World} {b a n c} {D : List MsD} {F : List Nat} (h : MsO w b a n c D F) : ∃ rs : List MsRow, OwnC w b a n c 44 3 (rs.flatMap msC) ∧ rs.map msD = D ∧ ∀ (w' : World) (r s : MsRow) (a5 : Option Addr) (c5 : Nat),
    Own w b r.2.2.1 r.2.2.2.2.length r.2.2.2.1 r.2.2.2.2 → Own w b s.2.2.1 s.2.2.2.2.length s.2.2.2.1 s.2.2.2.2 → Disj (foot r.2.2.1 r.2.2.2.1) (foot s.2.2.1 s.2.2.2.1) → Disj (foot r.2.2.1 r.2.2.2.1) F → Disj (foot s.2.2.1 s.2.2.2.1) F →
    OwnC w' b a5 (n + 2) c5 44 3 (rs.flatMap msC ++ (msC r ++ msC s)) → w.grownBy w' (rowOf a c) → Moved w a c a5 c5 →
    ∃ F', MsO w' b a5 (n + 2) c5 (D ++ [msD r, msD s]) F' ∧ ∀ X : List Nat, Disj X F → Disj X (foot r.2.2.1 r.2.2.2.1) → Disj X (foot s.2.2.1 s.2.2.2.1) → (∀ k ∈ X, k < w.heap.size) → Disj X F' := by
  obtain ⟨rs, h1, rfl, rfl⟩ := h
  refine ⟨rs, h1.out, rfl, fun w' r s a5 c5 hr hs hrs dr ds o g m => ⟨_, ⟨_, h1.app2 hr hs hrs dr ds o g m, by simp, rfl⟩, fun X hX x1 x2 hw => app2_feet hX x1 x2 m hw⟩⟩
end Go.Proofs.YtlmdckcohoddnaaDoor
namespace Go.Proofs.YtlmdckcohoddnaaDoor
open Go.RowKit
theorem MsO.foot {w : World} {b a n c} {D : List MsD} {F : List Nat} (h : MsO w b a n c D F) : ∀ q ∈ Go.Proofs.YtlmdckcohoddnaaDoor.foot a c, q ∈ F := fun q hq => by
  obtain ⟨rs, _, _, rfl⟩ := h
  exact List.mem_append_left _ hq
section
variable {o : Oper} {act : Act} {Q : Exit → Act → World → Prop}
theorem wpList_appM2 (w : World) {ops : Array Oper} {rest : List Oper} (hgd : o.guard = none)
    (s x : Operand) (ho : o.op = .call { callee := .builtin .append, args := #[s, x], argTypes := #[63, 63] })
    (b : Nat) (a : Option Addr) (n c : Nat) (D : List MsD) (F : List Nat) (om : MsO w b a n c D F) (hs : act.eval s = .slice a n c)
    (f1 s1 f2 s2 : Int) (b1 : Option Addr) (c1 : Nat) (l1 : List Int) (b2 : Option Addr) (c2 : Nat) (l2 : List Int)
    (h1 : Own w b b1 l1.length c1 l1) (h2 : Own w b b2 l2.length c2 l2) (h12 : Disj (foot b1 c1) (foot b2 c2)) (d1 : Disj (foot b1 c1) F) (d2 : Disj (foot b2 c2) F)
    (hx : act.eval x = .slice (some ⟨w.heap.size, 0, none⟩) 2 2) (hlen : n + 2 ≤ 1000000) (hbase : b ≤ w.heap.size)
    (h : ∀ a5 c5 w' F', MsO w' b a5 (n + 2) c5 (D ++ [(f1, s1, l1), (f2, s2, l2)]) F' → (∀ X : List Nat, Disj X F → Disj X (foot b1 c1) → Disj X (foot b2 c2) → (∀ k ∈ X, k < w.heap.size) → Disj X F') → Only (foot a c) w w' →
      (∀ X : List Nat, Disj X (foot a c) → (∀ k ∈ X, k < w.heap.size) → Disj X (foot a5 c5)) → wpList Tryd.prog ops Q rest (act.put o.dst (.slice a5 (n + 2) c5)) w') :
    wpList Tryd.prog ops Q (o :: rest) act (w.alloc (.cells #[.int .i64 f1, .int .i64 s1, .slice b1 l1.length c1, .int .i64 f2, .int .i64 s2, .slice b2 l2.length c2] 44)) := by
  obtain ⟨w2, hw2⟩ : ∃ q, q = w.alloc (.cells #[.int .i64 f1, .int .i64 s1, .slice b1 l1.length c1, .int .i64 f2, .int .i64 s2, .slice b2 l2.length c2] 44) := ⟨_, rfl⟩
  have u : Below w.heap.size w w2 := by rw [hw2]; exact (Below.refl _ _).alloc (Nat.le_refl _) _
  have hrow : RowC w2 (some ⟨w.heap.size, 0, none⟩) 2 2 3 (msC (f1, s1, b1, c1, l1) ++ msC (f2, s2, b2, c2, l2)) := by
    rw [hw2]; exact (OwnC.lit w 0 2 44 3 [.int .i64 f1, .int .i64 s1, .slice b1 l1.length c1, .int .i64 f2, .int .i64 s2, .slice b2 l2.length c2] (Nat.zero_le _) rfl (by simp [maxLen])).row
  have hsz := u.size
  have om2 := om.below u
  rw [← hw2]
  clear hw2
  obtain ⟨rs, q1, q2, q3⟩ := om2.app2
  refine wpList_appM hgd s x ho b a n c _ hs q1 _ 2 2 _ hx hrow (fun v hv => ?_) hlen (by omega) fun a5 c5 w' o5 _ g m => ?_
  · simp only [msC, List.cons_append, List.nil_append, List.mem_cons, List.not_mem_nil, or_false] at hv
    rcases hv with rfl | rfl | rfl | rfl | rfl | rfl <;> rfl
  · obtain ⟨F', t1, t2⟩ := q3 w' (f1, s1, b1, c1, l1) (f2, s2, b2, c2, l2) a5 c5 (h1.below u) (h2.below u) h12 d1 d2 o5 g m
    exact h a5 c5 w' F' t1 (fun X x1 x2 x3 hX => t2 X x1 x2 x3 (fun k hk => by have := hX k hk; omega)) ((Only.of_below u).trans (Only.of_grown g)) (fun X hX hX2 => (m.disj hX.symm (fun k hk => by have := hX2 k hk; omega)).symm)
end
end Go.Proofs.YtlmdckcohoddnaaDoor
