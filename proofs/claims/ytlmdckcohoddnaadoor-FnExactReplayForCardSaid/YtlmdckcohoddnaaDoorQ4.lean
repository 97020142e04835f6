/- Further lemmas and walks that the claim's proof rests on, part 4. -/
import Derived.Test.YtlmdckcohoddnaaDoorK1
import Derived.Test.YtlmdckcohoddnaaDoorK2
import Derived.Test.YtlmdckcohoddnaaDoorK3
import Derived.Test.YtlmdckcohoddnaaDoorK4
import Derived.Test.YtlmdckcohoddnaaDoorK5
import Derived.Test.YtlmdckcohoddnaaDoorK6
import Derived.Test.YtlmdckcohoddnaaDoorK7
import Derived.Test.YtlmdckcohoddnaaDoorK8
import Derived.Test.YtlmdckcohoddnaaDoorK9
import Derived.Test.YtlmdckcohoddnaaDoorK10
import Derived.Test.YtlmdckcohoddnaaDoorK11
import Derived.Test.YtlmdckcohoddnaaDoorK12
import Derived.Test.YtlmdckcohoddnaaDoorK13
import Derived.Test.YtlmdckcohoddnaaDoorQ1
import Derived.Test.YtlmdckcohoddnaaDoorQ2
import Derived.Test.YtlmdckcohoddnaaDoorQ3
namespace Go.Proofs.YtlmdckcohoddnaaDoor
open Go.RowKit
abbrev MsRow := Int × Int × RowD
abbrev MsD := Int × Int × List Int
def msC (r : MsRow) : List Value := [.int .i64 r.1, .int .i64 r.2.1, rowV r.2.2]
def msD (r : MsRow) : MsD := (r.1, r.2.1, r.2.2.2.2)
def bod (rs : List MsRow) : List RowD := rs.map fun r => r.2.2
def msAt (rs : List MsRow) (j : Nat) : MsRow := rs.getD j (0, 0, rowNil)
theorem msAt_mem {rs : List MsRow} {j : Nat} (h : j < rs.length) : msAt rs j ∈ rs := by
  unfold msAt; simp [List.getD, h]
theorem msAt_some {rs : List MsRow} {j : Nat} (h : j < rs.length) : rs[j]? = some (msAt rs j) := by
  unfold msAt; simp [List.getD, h]
theorem bod_len (rs : List MsRow) : (bod rs).length = rs.length := by simp [bod]
theorem bod_at {rs : List MsRow} {j : Nat} (h : j < rs.length) : rowAt (bod rs) j = (msAt rs j).2.2 := by
  unfold rowAt msAt bod; simp [List.getD, h]
theorem msC_len (rs : List MsRow) : (rs.flatMap msC).length = rs.length * 3 := by
  induction rs with
  | nil => rfl
  | cons r rs ih => rw [List.flatMap_cons, List.length_append, ih]; simp [msC]; omega
theorem msC_at {rs : List MsRow} : ∀ {i j : Nat}, i < rs.length → j < 3 → (rs.flatMap msC)[i * 3 + j]? = (msC (msAt rs i))[j]? := by
  induction rs with
  | nil => intro i j hi; simp at hi
  | cons r rs ih =>
    intro i j hi hj
    cases i with
    | zero =>
      rw [List.flatMap_cons, List.getElem?_append_left (by simp [msC]; omega)]
      simp [msAt]
    | succ i =>
      rw [List.flatMap_cons, List.getElem?_append_right (by simp [msC]; omega), show (i + 1) * 3 + j - (msC r).length = i * 3 + j by simp [msC]; omega, ih (by simpa using hi) hj]
      simp [msAt]
theorem msC_set (r : MsRow) : ∀ {rs : List MsRow} {i : Nat}, i < rs.length → (rs.set i r).flatMap msC = (((rs.flatMap msC).set (i * 3) (.int .i64 r.1)).set (i * 3 + 1) (.int .i64 r.2.1)).set (i * 3 + 2) (rowV r.2.2) := by
  intro rs
  induction rs with
  | nil => intro i hi; simp at hi
  | cons s rs ih =>
    intro i hi
    cases i with
    | zero => simp [msC]
    | succ i =>
      rw [List.set_cons_succ, List.flatMap_cons, List.flatMap_cons, ih (by simpa using hi), show (i + 1) * 3 = i * 3 + 1 + 1 + 1 by omega]
      simp [msC]
/-- The slice (a, n, c) of messages reads as the rows rs. -/
structure MsS (w : World) (a : Option Addr) (n c : Nat) (rs : List MsRow) : Prop where
  row : RowC w a n c 3 (rs.flatMap msC)
  inn : ∀ r ∈ rs, Ints w r.2.2.1 r.2.2.2.2.length r.2.2.2.1 r.2.2.2.2
theorem MsS.len {w a n c rs} (h : MsS w a n c rs) : rs.length = n := by have := h.row.1; rw [msC_len] at this; omega
theorem MsS.le {w a n c rs} (h : MsS w a n c rs) : (n : Int) ≤ 9223372036854775807 := by
  have := h.row.2.1; have := h.row.2.2.1; unfold maxLen at this; omega
theorem MsS.below {w w' a n c rs} (h : MsS w a n c rs) (hb : Below w.heap.size w w') : MsS w' a n c rs := ⟨h.row.below hb, fun r hr => (h.inn r hr).below hb⟩
theorem MsS.at {w a n c rs} (h : MsS w a n c rs) (k : Nat) (hk : k < n) : ∃ g o, a = some ⟨g, o, none⟩ ∧ w.cell? ⟨g, o + k * 3, none⟩ = some (.int .i64 (msAt rs k).1) ∧ w.cell? ⟨g, o + k * 3 + 1, none⟩ = some (.int .i64 (msAt rs k).2.1) ∧
    w.cell? ⟨g, o + k * 3 + 2, none⟩ = some (.slice (msAt rs k).2.2.1 (msAt rs k).2.2.2.2.length (msAt rs k).2.2.2.1) ∧ Ints w (msAt rs k).2.2.1 (msAt rs k).2.2.2.2.length (msAt rs k).2.2.2.1 (msAt rs k).2.2.2.2 := by
  have hl := h.len
  obtain ⟨_, _, _, _, g, o, h1, h2⟩ := h.row
  refine ⟨g, o, h1 (by omega), ?_, ?_, ?_, h.inn _ (msAt_mem (by omega))⟩
  · have := h2 (k * 3 + 0) (.int .i64 (msAt rs k).1) (by rw [msC_at (by omega) (by omega)]; rfl)
    simpa using this
  · have := h2 (k * 3 + 1) (.int .i64 (msAt rs k).2.1) (by rw [msC_at (by omega) (by omega)]; rfl)
    simpa only [Nat.add_assoc] using this
  · have := h2 (k * 3 + 2) (rowV (msAt rs k).2.2) (by rw [msC_at (by omega) (by omega)]; rfl)
    simp only [Nat.add_assoc] at this ⊢
    exact this
/-- The call's own. -/
structure MsW (w : World) (b : Nat) (a : Option Addr) (n c : Nat) (rs : List MsRow) : Prop where
  out : OwnC w b a n c 44 3 (rs.flatMap msC)
  inn : ∀ r ∈ rs, Own w b r.2.2.1 r.2.2.2.2.length r.2.2.2.1 r.2.2.2.2
  dis : (bod rs).Pairwise fun r s => Disj (foot r.1 r.2.1) (foot s.1 s.2.1)
  apart : Disj (foot a c) (rowsF (bod rs))
theorem MsW.reads {w b a n c rs} (h : MsW w b a n c rs) : MsS w a n c rs := ⟨h.out.row, fun r hr => (h.inn r hr).ints⟩
theorem MsW.cap {w b a n c rs} (h : MsW w b a n c rs) : n ≤ c ∧ c ≤ maxLen := ⟨h.out.row.2.1, h.out.row.2.2.1⟩
theorem mem_bod {rs : List MsRow} {r : MsRow} (h : r ∈ rs) : r.2.2 ∈ bod rs := List.mem_map.2 ⟨r, h, rfl⟩
theorem MsW.feet {w : World} {b a n c rs} (h : MsW w b a n c rs) : ∀ k ∈ feetSS a c (bod rs), b ≤ k ∧ k < w.heap.size := fun k hk => by
  rcases List.mem_append.1 hk with hk | hk
  · exact h.out.feet k hk
  · obtain ⟨r, hr, hk⟩ := List.mem_flatMap.1 hk
    obtain ⟨s, hs, rfl⟩ := List.mem_map.1 hr
    exact (h.inn s hs).feet k hk
theorem MsW.only {X : List Nat} {w w' : World} {b a n c rs} (h : MsW w b a n c rs) (ho : Only X w w') (hd : Disj (feetSS a c (bod rs)) X) : MsW w' b a n c rs :=
  ⟨h.out.only ho (fun k hk => hd k (List.mem_append_left _ hk)), fun r hr => (h.inn r hr).only ho (fun k hk => hd k (List.mem_append_right _ (mem_rowsF (mem_bod hr) hk))), h.dis, h.apart⟩
theorem MsW.below {w w' : World} {b a n c rs} (h : MsW w b a n c rs) (hb : Below w.heap.size w w') : MsW w' b a n c rs := ⟨h.out.below hb, fun r hr => (h.inn r hr).below hb, h.dis, h.apart⟩
theorem MsW.lower {w : World} {b b' a n c rs} (h : MsW w b a n c rs) (hb : b' ≤ b) : MsW w b' a n c rs := ⟨h.out.lower hb, fun r hr => (h.inn r hr).lower hb, h.dis, h.apart⟩
theorem MsW.nil0 (w : World) (b : Nat) (a : Option Addr) : MsW w b a 0 0 [] := ⟨OwnC.nil0 _ _ _ _ _, fun r hr => (by cases hr), List.Pairwise.nil, fun k hk => by simp [foot, rowOf] at hk⟩
theorem msC_rep (n : Nat) : (List.replicate n ((0, 0, rowNil) : MsRow)).flatMap msC = (List.replicate n [Value.int .i64 0, .int .i64 0, .slice none 0 0]).flatten := by
  induction n with
  | zero => rfl
  | succ n ih => rw [List.replicate_succ, List.flatMap_cons, ih, List.replicate_succ, List.flatten_cons]; rfl
theorem bod_rep (n : Nat) : bod (List.replicate n ((0, 0, rowNil) : MsRow)) = List.replicate n rowNil := by simp [bod]
theorem MsW.made {w : World} {b : Nat} {a : Option Addr} {n c : Nat} (h : OwnC w b a n c 44 3 ((List.replicate n [Value.int .i64 0, .int .i64 0, .slice none 0 0]).flatten)) : MsW w b a n c (List.replicate n (0, 0, rowNil)) :=
  ⟨by rw [msC_rep]; exact h, fun r hr => by rw [List.eq_of_mem_replicate hr]; exact Own.nil0 _ _ _, by
    rw [bod_rep, List.pairwise_replicate]
    right
    intro k hk
    simp [rowNil, foot_zero] at hk, by rw [bod_rep, rowsF_nils]; exact Disj.nil_r _⟩
theorem bod_set (rs : List MsRow) (i : Nat) (r : MsRow) : bod (rs.set i r) = (bod rs).set i r.2.2 := by unfold bod; rw [List.map_set]
theorem msAt_set (rs : List MsRow) (i j : Nat) (r : MsRow) (hi : i < rs.length) : msAt (rs.set i r) j = if i = j then r else msAt rs j := by
  unfold msAt
  simp only [List.getD, List.getElem?_set]
  by_cases e : i = j
  · subst e; rw [if_pos rfl, if_pos rfl, if_pos hi]; rfl
  · rw [if_neg e, if_neg e]
theorem MsW.cells {w : World} {b n c i : Nat} {a : Option Addr} {rs : List MsRow} (h : MsW w b a n c rs) (hi : i < n) : ∃ g, a = some ⟨g, 0, none⟩ ∧ b ≤ g ∧ g < w.heap.size ∧ g ∈ foot a c ∧
    (w.cell? ⟨g, i * 3, none⟩ = some (.int .i64 (msAt rs i).1) ∧ w.cell? ⟨g, i * 3 + 1, none⟩ = some (.int .i64 (msAt rs i).2.1) ∧ w.cell? ⟨g, i * 3 + 2, none⟩ = some (rowV (msAt rs i).2.2)) ∧
    (w.frozen? ⟨g, i * 3, none⟩ = false ∧ w.frozen? ⟨g, i * 3 + 1, none⟩ = false ∧ w.frozen? ⟨g, i * 3 + 2, none⟩ = false) := by
  have hl := h.reads.len
  have hc := h.cap
  obtain ⟨g, rfl, hb, hg, ⟨u0, hu0, hc0⟩, hf0, _⟩ := OwnC.atC h.out (i * 3) (by omega)
  obtain ⟨_, E1, _, _, ⟨u1, hu1, hc1⟩, hf1, _⟩ := OwnC.atC h.out (i * 3 + 1) (by omega)
  cases E1
  obtain ⟨_, E2, _, _, ⟨u2, hu2, hc2⟩, hf2, _⟩ := OwnC.atC h.out (i * 3 + 2) (by omega)
  cases E2
  have e0 := msC_at (rs := rs) (i := i) (j := 0) (by omega) (by omega)
  rw [Nat.add_zero, hu0] at e0
  rw [msC_at (by omega) (by omega)] at hu1 hu2
  refine ⟨g, rfl, hb, hg, foot_mem (x := ⟨g, 0, none⟩) (by omega), ⟨by rw [hc0, e0]; rfl, by rw [hc1, ← hu1]; rfl, by rw [hc2, ← hu2]; rfl⟩, hf0, hf1, hf2⟩
/-- A message is stored. -/
theorem MsW.putRow {w : World} {b g n c i : Nat} {rs : List MsRow} {r : MsRow} (h : MsW w b (some ⟨g, 0, none⟩) n c rs) (hi : i < n) (hr : Own w b r.2.2.1 r.2.2.2.2.length r.2.2.2.1 r.2.2.2.2) (hd : Disj (foot r.2.2.1 r.2.2.2.1) (feetSS (some ⟨g, 0, none⟩) c (bod rs))) :
    MsW (((w.setCell ⟨g, i * 3, none⟩ (.int .i64 r.1)).setCell ⟨g, i * 3 + 1, none⟩ (.int .i64 r.2.1)).setCell ⟨g, i * 3 + 2, none⟩ (rowV r.2.2)) b (some ⟨g, 0, none⟩) n c (rs.set i r) := by
  have hl := h.reads.len
  have hc := h.cap
  have hg : g ∈ foot (some ⟨g, 0, none⟩ : Option Addr) c := foot_mem (x := ⟨g, 0, none⟩) (by omega)
  obtain ⟨_, E, _, _, _, _, hs⟩ := OwnC.atC h.out (i * 3) (by omega)
  cases E
  have s1 := hs (.int .i64 r.1)
  obtain ⟨_, E, _, _, _, _, hs⟩ := OwnC.atC s1 (i * 3 + 1) (by omega)
  cases E
  have s2 := hs (.int .i64 r.2.1)
  obtain ⟨_, E, _, _, _, _, hs⟩ := OwnC.atC s2 (i * 3 + 2) (by omega)
  cases E
  have s3 := hs (rowV r.2.2)
  have ho : Only [g] w (((w.setCell ⟨g, i * 3, none⟩ (.int .i64 r.1)).setCell ⟨g, i * 3 + 1, none⟩ (.int .i64 r.2.1)).setCell ⟨g, i * 3 + 2, none⟩ (rowV r.2.2)) := (((Only.refl _ _).setCell _ _ (by simp)).setCell _ _ (by simp)).setCell _ _ (by simp)
  refine ⟨by rw [msC_set r (by omega)]; exact s3, fun s hs' => ?_, ?_, ?_⟩
  · rcases List.mem_or_eq_of_mem_set hs' with hs' | rfl
    · exact (h.inn s hs').only ho (fun k hk hk' => by simp at hk'; subst hk'; exact h.apart _ hg (mem_rowsF (mem_bod hs') hk))
    · exact hr.only ho (fun k hk hk' => by simp at hk'; subst hk'; exact hd _ hk (List.mem_append_left _ hg))
  · rw [bod_set, List.pairwise_iff_getElem]
    intro x y hx hy hxy
    rw [List.length_set] at hx hy
    have hp := List.pairwise_iff_getElem.1 h.dis x y hx hy hxy
    rw [List.getElem_set, List.getElem_set]
    by_cases e1 : i = x
    · rw [if_pos e1, if_neg (by omega)]
      exact fun k hk hk' => hd k hk (List.mem_append_right _ (mem_rowsF (List.getElem_mem hy) hk'))
    · rw [if_neg e1]
      by_cases e2 : i = y
      · rw [if_pos e2]
        exact fun k hk hk' => hd k hk' (List.mem_append_right _ (mem_rowsF (List.getElem_mem hx) hk))
      · rw [if_neg e2]; exact hp
  · rw [bod_set]
    intro k hk hk'
    rcases mem_rowsF_set hk' with h1 | h1
    · exact h.apart k hk h1
    · exact hd k h1 (List.mem_append_left _ hk)
theorem ms_ext {rs rs' : List MsRow} (hl : rs.length = rs'.length) (h : ∀ j, j < rs.length → msD (msAt rs j) = msD (msAt rs' j)) : rs.map msD = rs'.map msD := by
  apply List.ext_getElem?
  intro j
  by_cases hj : j < rs.length
  · simp only [List.getElem?_map, msAt_some hj, msAt_some (hl ▸ hj : j < rs'.length), Option.map_some, h j hj]
  · simp only [List.getElem?_map, List.getElem?_eq_none (Nat.le_of_not_lt hj), List.getElem?_eq_none (Nat.le_of_not_lt (hl ▸ hj : ¬ j < rs'.length)), Option.map_none]
theorem ms_at {rs rs' : List MsRow} (h : rs.map msD = rs'.map msD) (k : Nat) (hk : k < rs.length) : msD (msAt rs k) = msD (msAt rs' k) := by
  have hl : rs.length = rs'.length := by have := congrArg List.length h; simpa using this
  have := congrArg (fun l => l[k]?) h
  simp only [List.getElem?_map, msAt_some hk, msAt_some (hl ▸ hk : k < rs'.length), Option.map_some, Option.some.injEq] at this
  exact this
theorem madeCells_Msg (n : Nat) : (madeCells #[.int .i64 0, .int .i64 0, .slice none 0 0] (n * 3)).toList = (List.replicate n ((0, 0, rowNil) : MsRow)).flatMap msC := by
  apply List.ext_getElem?
  intro i
  by_cases hi : i < n * 3
  · have e : i = i / 3 * 3 + i % 3 := by omega
    have hd : i / 3 < n := by omega
    have hm : i % 3 < 3 := Nat.mod_lt _ (by decide)
    conv => rhs; rw [e]
    rw [msC_at (by simpa using hd) hm]
    have hz : msAt (List.replicate n ((0, 0, rowNil) : MsRow)) (i / 3) = (0, 0, rowNil) := by simp [msAt, List.getD, hd]
    rw [hz]
    simp only [madeCells, Array.toList_map, Array.toList_range, List.getElem?_map, List.getElem?_range hi, Option.map_some]
    show some ((#[.int .i64 0, .int .i64 0, .slice none 0 0] : Array Value)[i % 3]!) = _
    generalize i % 3 = j at hm
    match j, hm with
    | 0, _ => rfl
    | 1, _ => rfl
    | 2, _ => rfl
  · rw [List.getElem?_eq_none (by simp [madeCells]; omega), List.getElem?_eq_none (by rw [msC_len]; simp; omega)]
theorem MsW.made' {w : World} {b : Nat} {a : Option Addr} {n c : Nat} (h : OwnC w b a n c 44 3 ((List.replicate n ((0, 0, rowNil) : MsRow)).flatMap msC)) : MsW w b a n c (List.replicate n (0, 0, rowNil)) :=
  ⟨h, fun r hr => by rw [List.eq_of_mem_replicate hr]; exact Own.nil0 _ _ _, by
    rw [bod_rep, List.pairwise_replicate]
    right
    intro k hk
    simp [rowNil, foot_zero] at hk, by rw [bod_rep, rowsF_nils]; exact Disj.nil_r _⟩
set_option maxHeartbeats 4000000 in
set_option maxRecDepth 100000 in
theorem toMessageS_any (a : Option Addr) (n c : Nat) (rs : List MsRow) (w : World) (h : MsS w a n c rs) (hs : n ≤ 1048576) (hr : ∀ r ∈ rs, r.2.2.2.2.length ≤ 1048576) :
    Calls Tryd.prog 43 #[.slice a n c] w fun e w' => ∃ a' c' rs', e = .returned (.slice a' n c') ∧ MsW w' w.heap.size a' n c' rs' ∧ rs'.map msD = rs.map msD ∧ Below w.heap.size w w' := by
  have hn := h.le
  have HR := Lib.hid hr
  have HL := Lib.hid h.len
  clear hr
  obtain ⟨i0, hi, hz0, hz1, hz2⟩ := info_parts info_Message
  go_enter Tryd.func43, Tryd.ntmps43
  go_wp2_with (at_make; refine wpList_make_full _ rfl _ _ 63 rfl w.heap.size 44 i0 (.agg #[.int .i64 0, .int .i64 0, .slice none 0 0]) 3 Tryd.underlying63 hi hz0 hz1 _ _ _ _ n rfl rfl rfl rfl (by rw [hz2]; omega) (by unfold maxLen; omega) (Nat.le_refl _) ?_)
  intro w1 hown hgrow
  have own1 : MsW w1 w.heap.size (some ⟨w.heap.size, 0, none⟩) n n (List.replicate n (0, 0, rowNil)) := by
    obtain ⟨a1, c1, e1, h1⟩ := OwnC.of_owns hown
    cases e1
    refine MsW.made' ?_
    rw [← madeCells_Msg]
    exact h1
  have bel1 : Below w.heap.size w w1 := (Below.refl _ _).grown hgrow (Nat.le_refl _) (fun k hk => by cases hk)
  clear hown hgrow
  go_wp2
  go_loopw [4] (fun v wr => ∃ k : Nat, k ≤ n ∧ v = .int .i64 k ∧ Below w.heap.size w wr ∧ ∃ rs', MsW wr w.heap.size (some ⟨w.heap.size, 0, none⟩) n n rs' ∧ ∀ j, j < k → msD (msAt rs' j) = msD (msAt rs j)) (fun v _ => n - (intOf v).toNat)
  case atStart => exact ⟨0, Nat.zero_le _, rfl, bel1, _, own1, fun j hj => absurd hj (by omega)⟩
  case round =>
    obtain ⟨k, hk, rfl, hbel, rs', own, hl⟩ := hrel
    have HD := Lib.hid hl
    clear hl
    by_cases hlt : k < n
    · obtain ⟨g, o, rfl, c0, c1, c2, i0⟩ := (h.below hbel).at k hlt
      have HM := HR.out _ (msAt_mem (rs := rs) (j := k) (by rw [HL.out]; exact hlt))
      have hlt' : (k : Int) < (n : Int) := by omega
      obtain ⟨r, hr⟩ : ∃ r, msAt rs k = r := ⟨_, rfl⟩
      rw [hr] at c0 c1 c2 i0 HM
      replace hr := Lib.hid hr
      obtain ⟨fr, st, ra, rc, rl⟩ := r
      dsimp only at *
      go_wp2_with fail
      refine (toMessage_any _ _ _ _ _ rl _ i0 HM).mono ?_; rintro e w2 ⟨b5, d5, rfl, o5, u2⟩
      have hf : ∀ k ∈ foot b5 d5, wr.heap.size ≤ k := fun q hq => (o5.feet q hq).1
      have hfe := own.feet
      have hdj : Disj (foot b5 d5) (feetSS (some ⟨w.heap.size, 0, none⟩) n (bod rs')) := fun q hq hq' => by have := hf q hq; have := hfe q hq'; omega
      have own2 := own.below u2
      have bel2 := hbel.trans (u2.mono hbel.size)
      have hll := own.reads.len
      obtain ⟨g', E, _, _, _, ⟨d0, d1, d2⟩, f0, f1, f2⟩ := own2.cells hlt
      cases E
      have stt := own2.putRow (r := (fr, st, b5, d5, rl)) hlt (o5.lower hbel.size) hdj
      have hb3 := ((bel2.setCell (p := ⟨w.heap.size, k * 3, none⟩) (Nat.le_refl _) (.int .i64 fr)).setCell (p := ⟨w.heap.size, k * 3 + 1, none⟩) (Nat.le_refl _) (.int .i64 st)).setCell (p := ⟨w.heap.size, k * 3 + 2, none⟩) (Nat.le_refl _) (rowV (b5, d5, rl))
      have HST := Lib.hid stt
      have HB := Lib.hid hb3
      have HLL := Lib.hid hll
      clear stt hb3 own own2 bel2 hbel u2 o5 hf hfe hdj c0 c1 c2 i0 hll
      go_wp2
      go_roundw
      case rel => exact ⟨k + 1, by omega, by go_num, HB.out, _, HST.out, fun j hj => by
        rw [msAt_set _ _ _ _ (by rw [HLL.out]; exact hlt)]
        by_cases e : k = j
        · subst e; rw [if_pos rfl, hr.out]; rfl
        · rw [if_neg e]; exact HD.out j (by omega)⟩
      case measure => simp [intOf]; omega
    · obtain rfl : k = n := by omega
      go_wp2
      go_ret
      exact ⟨_, _, rs', rfl, own, ms_ext (by rw [own.reads.len, HL.out]) (fun j hj => HD.out j (by rw [own.reads.len] at hj; exact hj)), hbel⟩
set_option maxHeartbeats 4000000 in
theorem szMessageS_yes (a : Option Addr) (n c : Nat) (rs : List MsRow) (left : Int) (w : World) (h : MsS w a n c rs) (h1 : left ≤ 1048576) (h2 : (n : Int) + (tot (bod rs) : Int) ≤ left) :
    Calls Tryd.prog 41 #[.slice a n c, .int .i64 left] w fun e w' => e = .returned (.int .i64 (left - n - tot (bod rs))) ∧ Below w.heap.size w w' := by
  have hn := h.le
  have HL := Lib.hid h.len
  have HB : Hid ((bod rs).length = n) := Lib.hid (by rw [bod_len]; exact h.len)
  go_enter Tryd.func41, Tryd.ntmps41
  go_wp2
  go_loopw [1, 5] (fun u v wr => ∃ i : Nat, i ≤ n ∧ u = .int .i64 (left - n - tot ((bod rs).take i)) ∧ v = .int .i64 i ∧ Below w.heap.size w wr) (fun _ v _ => n - (intOf v).toNat)
  case atStart => exact ⟨0, Nat.zero_le _, by simp [tot], rfl, Below.refl _ _⟩
  case round =>
    obtain ⟨i, hi, rfl, rfl, hbel⟩ := hrel
    by_cases hlt : i < n
    · have HT := Lib.hid (tot_take_succ (rs := bod rs) (j := i) (by rw [HB.out]; exact hlt))
      have t1 := tot_take_le (bod rs) (i + 1)
      rw [HT.out] at t1
      have hba := bod_at (rs := rs) (j := i) (by rw [HL.out]; exact hlt)
      rw [hba] at t1
      obtain ⟨g, o, rfl, c0, c1, c2, inn⟩ := (h.below hbel).at i hlt
      have hlt' : (i : Int) < (n : Int) := by omega
      have hn' : ((msAt rs i).2.2.2.2.length : Int) ≤ 9223372036854775807 := inn.le
      have HT3 : Hid (left - n - tot ((bod rs).take i) - ((msAt rs i).2.2.2.2.length : Nat) = left - n - tot ((bod rs).take (i + 1))) := Lib.hid (by rw [HT.out, hba]; omega)
      have kk2 : ((msAt rs i).2.2.2.2.length : Int) ≤ left - n - tot ((bod rs).take i) := by omega
      have kk3 : left - n - tot ((bod rs).take i) ≤ 1048576 := by omega
      generalize left - n - tot ((bod rs).take i) = kk at *
      clear t1 h2 hba
      go_wp2_with fail
      refine (szMessage_yes _ _ _ _ _ _ _ hn' kk3 kk2).mono ?_; rintro e w2 ⟨rfl, u2⟩
      have bel2 := hbel.trans (u2.mono hbel.size)
      have nn : 0 ≤ kk - ((msAt rs i).2.2.2.2.length : Nat) := by omega
      rw [HT3.out] at nn ⊢
      clear kk2 inn c0 c1 c2 u2
      go_wp2
      go_roundw
      case rel => exact ⟨i + 1, by omega, rfl, by go_num, bel2⟩
      case measure => simp [intOf]; omega
    · obtain rfl : i = n := by omega
      have ht : tot ((bod rs).take i) = tot (bod rs) := by have := HB.out; rw [← this]; exact tot_take_all (bod rs)
      have HT := Lib.hid ht
      clear ht
      go_wp2
      go_ret
      exact ⟨ret_int (by rw [HT.out]), hbel⟩
set_option maxHeartbeats 4000000 in
theorem szMessageS_no (a : Option Addr) (n c : Nat) (rs : List MsRow) (left : Int) (w : World) (h : MsS w a n c rs) (h1 : 0 ≤ left ∧ left ≤ 1048576) (h2 : ¬ (n : Int) + (tot (bod rs) : Int) ≤ left) :
    Calls Tryd.prog 41 #[.slice a n c, .int .i64 left] w fun e w' => e = .returned (.int .i64 (-1)) ∧ Below w.heap.size w w' := by
  have hn := h.le
  have HL := Lib.hid h.len
  have HB : Hid ((bod rs).length = n) := Lib.hid (by rw [bod_len]; exact h.len)
  by_cases h3 : left - (n : Int) < 0
  · go_enter Tryd.func41, Tryd.ntmps41
    go_wp2
    go_ret
    exact ⟨rfl, Below.refl _ _⟩
  · go_enter Tryd.func41, Tryd.ntmps41
    go_wp2
    go_loopw [1, 5] (fun u v wr => ∃ i : Nat, i ≤ n ∧ (tot ((bod rs).take i) : Int) ≤ left - n ∧ u = .int .i64 (left - n - tot ((bod rs).take i)) ∧ v = .int .i64 i ∧ Below w.heap.size w wr) (fun _ v _ => n - (intOf v).toNat)
    case atStart => exact ⟨0, Nat.zero_le _, by simp [tot]; omega, by simp [tot], rfl, Below.refl _ _⟩
    case round =>
      obtain ⟨i, hi, hle, rfl, rfl, hbel⟩ := hrel
      by_cases hlt : i < n
      · have HT := Lib.hid (tot_take_succ (rs := bod rs) (j := i) (by rw [HB.out]; exact hlt))
        have hba := bod_at (rs := rs) (j := i) (by rw [HL.out]; exact hlt)
        obtain ⟨g, o, rfl, c0, c1, c2, inn⟩ := (h.below hbel).at i hlt
        have hlt' : (i : Int) < (n : Int) := by omega
        have hn' : ((msAt rs i).2.2.2.2.length : Int) ≤ 9223372036854775807 := inn.le
        have HT3 : Hid (left - n - tot ((bod rs).take i) - ((msAt rs i).2.2.2.2.length : Nat) = left - n - tot ((bod rs).take (i + 1))) := Lib.hid (by rw [HT.out, hba]; omega)
        have kk0 : 0 ≤ left - n - tot ((bod rs).take i) := by omega
        have kk3 : left - n - tot ((bod rs).take i) ≤ 1048576 := by omega
        have HLE : Hid (((msAt rs i).2.2.2.2.length : Int) ≤ left - n - tot ((bod rs).take i) → (tot ((bod rs).take (i + 1)) : Int) ≤ left - n) := Lib.hid (fun h => by rw [HT.out, hba]; omega)
        clear hba
        generalize left - n - tot ((bod rs).take i) = kk at *
        by_cases kk2 : ((msAt rs i).2.2.2.2.length : Int) ≤ kk
        · have hle2 := HLE.out kk2
          clear HLE hle
          go_wp2_with fail
          refine (szMessage_yes _ _ _ _ _ _ _ hn' kk3 kk2).mono ?_; rintro e w2 ⟨rfl, u2⟩
          have bel2 := hbel.trans (u2.mono hbel.size)
          have nn : 0 ≤ kk - ((msAt rs i).2.2.2.2.length : Nat) := by omega
          rw [HT3.out] at nn ⊢
          clear kk2 inn c0 c1 c2 u2
          go_wp2
          go_roundw
          case rel => exact ⟨i + 1, by omega, hle2, rfl, by go_num, bel2⟩
          case measure => simp [intOf]; omega
        · clear HLE hle
          go_wp2_with fail
          refine (szMessage_no _ _ _ _ _ _ _ hn' kk0 kk3 (by omega)).mono ?_; rintro e w2 ⟨rfl, u2⟩
          have bel2 := hbel.trans (u2.mono hbel.size)
          clear kk2 inn c0 c1 c2 HT3 u2
          go_wp2
          go_ret
          exact ⟨rfl, bel2⟩
      · exfalso
        obtain rfl : i = n := by omega
        have ht : tot ((bod rs).take i) = tot (bod rs) := by have := HB.out; rw [← this]; exact tot_take_all (bod rs)
        omega
set_option maxHeartbeats 4000000 in
theorem eqMessageS_b (a : Option Addr) (n c : Nat) (a' : Option Addr) (n' c' : Nat) (rs rs' : List MsRow) (w : World) (h : MsS w a n c rs) (h' : MsS w a' n' c' rs') (he : rs.map msD = rs'.map msD) :
    Calls Tryd.prog 45 #[.slice a n c, .slice a' n' c'] w fun e w' => e = .returned (.bool true) ∧ Below w.heap.size w w' := by
  obtain rfl : n = n' := by have := congrArg List.length he; rw [← h.len, ← h'.len]; simpa using this
  have hn := h.le
  have HE := Lib.hid he
  have HL := Lib.hid h.len
  clear he
  go_enter Tryd.func45, Tryd.ntmps45
  go_wp2
  go_loopw [5] (fun v wr => ∃ k : Nat, k ≤ n ∧ v = .int .i64 k ∧ Below w.heap.size w wr) (fun v _ => n - (intOf v).toNat)
  case atStart => exact ⟨0, Nat.zero_le _, rfl, Below.refl _ _⟩
  case round =>
    obtain ⟨k, hk, rfl, hbel⟩ := hrel
    by_cases hlt : k < n
    · have HD := Lib.hid (ms_at HE.out k (by rw [HL.out]; exact hlt))
      obtain ⟨g, o, rfl, c0, c1, c2, i0⟩ := (h.below hbel).at k hlt
      obtain ⟨g', o', rfl, d0, d1, d2, i1⟩ := (h'.below hbel).at k hlt
      have HD' := HD.out
      generalize msAt rs k = r at *
      generalize msAt rs' k = s at *
      obtain ⟨fr, st, ra, rc, rl⟩ := r
      obtain ⟨fr', st', ra', rc', rl'⟩ := s
      simp only [msD, Prod.mk.injEq] at HD'
      obtain ⟨e1, e2, e3⟩ := HD'
      subst e1 e2 e3
      dsimp only at *
      clear HD
      have hlt' : (k : Int) < (n : Int) := by omega
      go_wp2
      go_region_held3 (fun W => W.cell? ⟨g, o + k * 3, none⟩ = some (.int .i64 fr) ∧ W.cell? ⟨g, o + k * 3 + 1, none⟩ = some (.int .i64 st) ∧ W.cell? ⟨g, o + k * 3 + 2, none⟩ = some (.slice ra rl.length rc) ∧ W.cell? ⟨g', o' + k * 3, none⟩ = some (.int .i64 fr) ∧ W.cell? ⟨g', o' + k * 3 + 1, none⟩ = some (.int .i64 st) ∧ W.cell? ⟨g', o' + k * 3 + 2, none⟩ = some (.slice ra' rl.length rc'))
        (first | exact ⟨keepC u2 c0, keepC u2 c1, keepC u2 c2, keepC u2 d0, keepC u2 d1, keepC u2 d2⟩ | exact ⟨c0, c1, c2, d0, d1, d2⟩ | go_keep)
        (first | (go_at_call 28; refine (eqMessage_same _ _ _ _ _ _ _ _ rl _ (by exact i0.drewN 1) (by exact i1.drewN 1)).mono ?_; rintro e w2 ⟨rfl, u2⟩))
      have bel2 : Below w.heap.size w w2 := hbel.drew.trans (u2.mono hbel.size)
      go_wp2
      go_roundw
      case rel => exact ⟨k + 1, by omega, by go_num, bel2⟩
      case measure => simp [intOf]; omega
    · go_wp2
      go_ret
      exact ⟨rfl, hbel⟩
theorem set_same {α : Type} {M : List α} {k : Nat} {v : α} (h : M[k]? = some v) : M.set k v = M := by
  apply List.ext_getElem?
  intro j
  rw [List.getElem?_set]
  by_cases e : k = j
  · subst e
    have := (List.getElem?_eq_some_iff.1 h).1
    rw [if_pos rfl, if_pos this, h]
  · rw [if_neg e]
theorem msC_same {rs : List MsRow} {i : Nat} {r : MsRow} (hi : i < rs.length) (h : msC r = msC (msAt rs i)) : (rs.set i r).flatMap msC = rs.flatMap msC := by
  have e0 := msC_at (rs := rs) (i := i) (j := 0) hi (by omega)
  have e1 := msC_at (rs := rs) (i := i) (j := 1) hi (by omega)
  have e2 := msC_at (rs := rs) (i := i) (j := 2) hi (by omega)
  rw [← h] at e0 e1 e2
  rw [Nat.add_zero] at e0
  rw [msC_set r hi, set_same (M := rs.flatMap msC) e0, set_same e1, set_same e2]
theorem MsW.putHead {w : World} {b g n c i : Nat} {rs : List MsRow} (h : MsW w b (some ⟨g, 0, none⟩) n c rs) (hi : i < n) (x y : Int) :
    MsW ((w.setCell ⟨g, i * 3, none⟩ (.int .i64 x)).setCell ⟨g, i * 3 + 1, none⟩ (.int .i64 y)) b (some ⟨g, 0, none⟩) n c (rs.set i (x, y, (msAt rs i).2.2)) := by
  have hl := h.reads.len
  have hc := h.cap
  have hg : g ∈ foot (some ⟨g, 0, none⟩ : Option Addr) c := foot_mem (x := ⟨g, 0, none⟩) (by omega)
  obtain ⟨_, E, _, _, _, _, hs⟩ := OwnC.atC h.out (i * 3) (by omega)
  cases E
  have s1 := hs (.int .i64 x)
  obtain ⟨_, E, _, _, _, _, hs⟩ := OwnC.atC s1 (i * 3 + 1) (by omega)
  cases E
  have s2 := hs (.int .i64 y)
  have ho : Only [g] w ((w.setCell ⟨g, i * 3, none⟩ (.int .i64 x)).setCell ⟨g, i * 3 + 1, none⟩ (.int .i64 y)) := ((Only.refl _ _).setCell _ _ (by simp)).setCell _ _ (by simp)
  have e2 := msC_at (rs := rs) (i := i) (j := 2) (by omega) (by omega)
  have eb : bod (rs.set i (x, y, (msAt rs i).2.2)) = bod rs := by
    rw [bod_set]
    refine set_same ?_
    rw [show bod rs = rs.map (fun r => r.2.2) from rfl, List.getElem?_map, msAt_some (by omega)]
    rfl
  refine ⟨?_, fun s hs' => ?_, by rw [eb]; exact h.dis, by rw [eb]; exact h.apart⟩
  · rw [msC_set _ (by omega), set_same]
    · exact s2
    · rw [List.getElem?_set, if_neg (by omega), List.getElem?_set, if_neg (by omega), e2]
      rfl
  · have hm : s.2.2 ∈ bod rs := by rw [← eb]; exact mem_bod hs'
    obtain ⟨r, hr, er⟩ := List.mem_map.1 hm
    rw [← er]
    exact (h.inn r hr).only ho (fun k hk hk' => by simp at hk'; subst hk'; exact h.apart _ hg (mem_rowsF (mem_bod hr) hk))
/-- A body is written. -/
theorem MsW.put {w w' : World} {b a n c rs} (h : MsW w b a n c rs) (i : Nat) (hi : i < rs.length) (l : List Int) (o : Own w' b (msAt rs i).2.2.1 (msAt rs i).2.2.2.2.length (msAt rs i).2.2.2.1 l) (ho : Only (foot (msAt rs i).2.2.1 (msAt rs i).2.2.2.1) w w') :
    MsW w' b a n c (rs.set i ((msAt rs i).1, (msAt rs i).2.1, (msAt rs i).2.2.1, (msAt rs i).2.2.2.1, l)) := by
  have hl : l.length = (msAt rs i).2.2.2.2.length := by have := o.len; omega
  have hm := msAt_mem hi
  have hb := bod_at hi
  have hk := set_key (bod rs) i l (by rw [hb]; exact hl) (by rw [bod_len]; exact hi)
  rw [hb] at hk
  have eb : bod (rs.set i ((msAt rs i).1, (msAt rs i).2.1, (msAt rs i).2.2.1, (msAt rs i).2.2.2.1, l)) = (bod rs).set i ((msAt rs i).2.2.1, (msAt rs i).2.2.2.1, l) := bod_set _ _ _
  refine ⟨?_, fun r hr => ?_, ?_, ?_⟩
  · rw [msC_same hi (by simp [msC, rowV, hl])]
    exact h.out.only ho (fun k hk hk' => h.apart k hk (mem_rowsF (mem_bod hm) hk'))
  · obtain ⟨j, hj⟩ := List.getElem?_of_mem hr
    rw [List.getElem?_set] at hj
    by_cases e : i = j
    · subst e
      rw [if_pos rfl, if_pos hi, Option.some.injEq] at hj
      subst hj
      rw [← hl] at o
      exact o
    · rw [if_neg e] at hj
      have hjl := (List.getElem?_eq_some_iff.1 hj).1
      have hrr : msAt rs j = r := by have := msAt_some hjl; rw [hj] at this; exact (Option.some.inj this).symm
      have hmr : r ∈ rs := by rw [← hrr]; exact msAt_mem hjl
      refine (h.inn r hmr).only ho ?_
      have hp := List.pairwise_iff_getElem.1 h.dis
      have ei : (bod rs)[i]'(by rw [bod_len]; exact hi) = (msAt rs i).2.2 := by simp [bod, msAt, List.getD, hi]
      have ej : (bod rs)[j]'(by rw [bod_len]; exact hjl) = r.2.2 := by rw [← hrr]; simp [bod, msAt, List.getD, hjl]
      rcases Nat.lt_or_gt_of_ne e with hlt | hgt
      · have := hp i j (by rw [bod_len]; exact hi) (by rw [bod_len]; exact hjl) hlt; rw [ei, ej] at this; exact this.symm
      · have := hp j i (by rw [bod_len]; exact hjl) (by rw [bod_len]; exact hi) hgt; rw [ei, ej] at this; exact this
  · have e : ∀ q : List RowD, (q.Pairwise fun r s => Disj (foot r.1 r.2.1) (foot s.1 s.2.1)) ↔ ((q.map (fun r => (r.1, r.2.1, r.2.2.length))).Pairwise fun r s => Disj (foot r.1 r.2.1) (foot s.1 s.2.1)) := fun q => by rw [List.pairwise_map]
    rw [eb, e, hk, ← e]
    exact h.dis
  · rw [eb, rowsF_key hk]; exact h.apart
/-- The numbers from k on. -/
def UpS (k : Int) (rs : List MsRow) : Prop := ∀ j, j < rs.length → (msAt rs j).1 = k + 2 * j + tot ((bod rs).take j) ∧ (msAt rs j).2.1 = k + 2 * j + tot ((bod rs).take j) + 1 ∧ UpFrom (k + 2 * j + tot ((bod rs).take j) + 2) (msAt rs j).2.2.2.2
set_option maxHeartbeats 8000000 in
set_option maxRecDepth 100000 in
theorem markMessageS_any (a : Option Addr) (n c b : Nat) (rs : List MsRow) (k0 : Int) (w : World) (h : MsW w b a n c rs) (h0 : 0 ≤ k0) (h1 : k0 + 2 * n + tot (bod rs) ≤ 4000000000000000000) :
    Calls Tryd.prog 46 #[.slice a n c, .int .i64 k0] w fun e w' => e = .returned (.int .i64 (k0 + 2 * n + tot (bod rs))) ∧ (∃ rs', MsW w' b a n c rs' ∧ UpS k0 rs' ∧ (bod rs').map (fun r => (r.1, r.2.1, r.2.2.length)) = (bod rs).map (fun r => (r.1, r.2.1, r.2.2.length))) ∧ Only (feetSS a c (bod rs)) w w' := by
  have hn := h.reads.le
  have HL := Lib.hid h.reads.len
  have HB : Hid ((bod rs).length = n) := Lib.hid (by rw [bod_len]; exact h.reads.len)
  go_enter Tryd.func46, Tryd.ntmps46
  go_wp2
  go_loopw [1, 5] (fun u v wr => ∃ i : Nat, i ≤ n ∧ u = .int .i64 (k0 + 2 * i + tot ((bod rs).take i)) ∧ v = .int .i64 i ∧ Only (feetSS a c (bod rs)) w wr ∧ ∃ rs', MsW wr b a n c rs' ∧ (bod rs').map (fun r => (r.1, r.2.1, r.2.2.length)) = (bod rs).map (fun r => (r.1, r.2.1, r.2.2.length)) ∧ ∀ j, j < i → (msAt rs' j).1 = k0 + 2 * j + tot ((bod rs).take j) ∧ (msAt rs' j).2.1 = k0 + 2 * j + tot ((bod rs).take j) + 1 ∧ UpFrom (k0 + 2 * j + tot ((bod rs).take j) + 2) (msAt rs' j).2.2.2.2) (fun _ v _ => n - (intOf v).toNat)
  case atStart => exact ⟨0, Nat.zero_le _, by simp [tot], rfl, Only.refl _ _, rs, h, rfl, fun j hj => absurd hj (by omega)⟩
  case round =>
    obtain ⟨i, hi, rfl, rfl, hO, rs', own, hk, hu⟩ := hrel
    have HK := Lib.hid hk
    have HU := Lib.hid hu
    clear hk hu
    have HL' : Hid (rs'.length = n) := Lib.hid own.reads.len
    have HB' : Hid ((bod rs').length = n) := Lib.hid (by rw [bod_len]; exact own.reads.len)
    by_cases hlt : i < n
    · obtain ⟨e1, e2, e3⟩ := at_key HK.out i (by rw [HB.out]; exact hlt)
      rw [bod_at (by rw [HL'.out]; exact hlt)] at e1 e2 e3
      have HT := Lib.hid (tot_take_succ (rs := bod rs) (j := i) (by rw [HB.out]; exact hlt))
      have t1 := tot_take_le (bod rs) (i + 1)
      rw [HT.out] at t1
      have HE1 := Lib.hid e1
      have HE2 := Lib.hid e2
      have HE3 := Lib.hid e3
      rw [← e3] at t1
      clear e1 e2 e3
      obtain ⟨g, rfl, hbg, hgs, hgf, ⟨d0, d1, d2⟩, f0, f1, f2⟩ := own.cells hlt
      have inn := own.inn (msAt rs' i) (msAt_mem (by rw [HL'.out]; exact hlt))
      have hlt' : (i : Int) < (n : Int) := by omega
      have HT3 : Hid ((k0 + 2 * i + tot ((bod rs).take i) : Int) + 1 + 1 + ((msAt rs' i).2.2.2.2.length : Nat) = k0 + 2 * (i + 1 : Nat) + tot ((bod rs).take (i + 1))) := Lib.hid (by rw [HT.out, HE3.out]; omega)
      obtain ⟨kk, hkk⟩ : ∃ x : Int, k0 + 2 * i + tot ((bod rs).take i) = x := ⟨_, rfl⟩
      have HKK := Lib.hid hkk
      have kk0 : 0 ≤ kk := by omega
      have kk1 : kk + 1 + 1 + ((msAt rs' i).2.2.2.2.length : Nat) ≤ 4000000000000000000 := by omega
      rw [hkk] at HT3 ⊢
      clear hkk t1
      have G2 : Only [g] wr ((wr.setCell ⟨g, i * 3, none⟩ (.int .i64 kk)).setCell ⟨g, i * 3 + 1, none⟩ (.int .i64 (kk + 1))) := ((Only.refl _ _).setCell _ _ (by simp)).setCell _ _ (by simp)
      have inn2 := inn.only G2 (fun k hk hk' => by simp at hk'; subst hk'; exact own.apart _ hgf (mem_rowsF (mem_bod (msAt_mem (by rw [HL'.out]; exact hlt))) hk))
      have own2 := own.putHead hlt kk (kk + 1)
      have hA : msAt (rs'.set i (kk, kk + 1, (msAt rs' i).2.2)) i = (kk, kk + 1, (msAt rs' i).2.2) := by rw [msAt_set _ _ _ _ (by rw [HL'.out]; exact hlt), if_pos rfl]
      replace hA := Lib.hid hA
      clear inn own
      go_wp2_with fail
      refine (markIntS_o _ _ _ _ _ _ _ inn2 (by omega) kk1).mono ?_; rintro e w2 ⟨rfl, ⟨l', o2, up⟩, g2⟩
      have own3 := own2.put i (by rw [List.length_set, HL'.out]; exact hlt) l' (by rw [hA.out]; exact o2) (by rw [hA.out]; exact g2)
      rw [hA.out] at own3
      dsimp only at own3
      have OS := Lib.hid own3
      have HS : Hid ((bod ((rs'.set i (kk, kk + 1, (msAt rs' i).2.2)).set i (kk, kk + 1, (msAt rs' i).2.2.1, (msAt rs' i).2.2.2.1, l'))).map (fun r => (r.1, r.2.1, r.2.2.length)) = (bod rs').map (fun r => (r.1, r.2.1, r.2.2.length))) := Lib.hid (by
        rw [List.set_set, bod_set]
        have := set_key (bod rs') i l' (by have := o2.len; rw [bod_at (by rw [HL'.out]; exact hlt)]; omega) (by rw [HB'.out]; exact hlt)
        rw [bod_at (by rw [HL'.out]; exact hlt)] at this
        exact this)
      have GG := Lib.hid ((hO.trans (G2.more (fun q hq => by simp at hq; subst hq; exact List.mem_append_left _ hgf))).trans (g2.more (fun q hq => List.mem_append_right _ (mem_rowsF (rowAt_mem (rs := bod rs) (j := i) (by rw [HB.out]; exact hlt)) (by rw [← HE1.out, ← HE2.out]; exact hq)))))
      have UP := Lib.hid up
      clear own2 own3 g2 o2 inn2 up hO d0 d1 d2 f0 f1 f2 G2
      rw [HT3.out]
      go_wp2
      go_roundw
      case rel => exact ⟨i + 1, by omega, rfl, by go_num, GG.out, _, OS.out, HS.out.trans HK.out, fun j hj => by
        rw [List.set_set, msAt_set _ _ _ _ (by rw [HL'.out]; exact hlt)]
        by_cases e : i = j
        · subst e; rw [if_pos rfl, HKK.out]; exact ⟨rfl, rfl, by have := UP.out; rw [show kk + 1 + 1 = kk + 2 by omega] at this; exact this⟩
        · rw [if_neg e]; exact HU.out j (by omega)⟩
      case measure => simp [intOf]; omega
    · obtain rfl : i = n := by omega
      have ht : tot ((bod rs).take i) = tot (bod rs) := by have := HB.out; rw [← this]; exact tot_take_all (bod rs)
      have HT := Lib.hid ht
      clear ht
      go_wp2
      go_ret
      exact ⟨by rw [HT.out]; rfl, ⟨rs', own, fun j hj => by rw [tot_key HK.out]; exact HU.out j (by have := HL'.out; omega), HK.out⟩, hO⟩
/-- The same over the messages alone. -/
def MsR (w : World) (a : Option Addr) (n c : Nat) (D : List MsD) : Prop := ∃ rs, MsS w a n c rs ∧ rs.map msD = D
def MsO (w : World) (b : Nat) (a : Option Addr) (n c : Nat) (D : List MsD) (F : List Nat) : Prop := ∃ rs, MsW w b a n c rs ∧ rs.map msD = D ∧ F = feetSS a c (bod rs)
def totM (D : List MsD) : Nat := (D.map fun d => d.2.2.length).sum
def szM (n : Nat) (D : List MsD) : Nat := n + totM D
def cntM (D : List MsD) : Nat := 2 * D.length + totM D
def mdAt (D : List MsD) (j : Nat) : MsD := D.getD j (0, 0, [])
def UpM (k : Int) (D : List MsD) : Prop := ∀ j, j < D.length → (mdAt D j).1 = k + 2 * j + totM (D.take j) ∧ (mdAt D j).2.1 = k + 2 * j + totM (D.take j) + 1 ∧ UpFrom (k + 2 * j + totM (D.take j) + 2) (mdAt D j).2.2
theorem totM_map (rs : List MsRow) : totM (rs.map msD) = tot (bod rs) := by unfold totM tot bod; rw [List.map_map, List.map_map]; rfl
theorem totM_take (rs : List MsRow) (j : Nat) : totM ((rs.map msD).take j) = tot ((bod rs).take j) := by
  rw [← List.map_take, totM_map]; unfold bod; rw [List.map_take]
theorem mdAt_map {rs : List MsRow} {j : Nat} (h : j < rs.length) : mdAt (rs.map msD) j = msD (msAt rs j) := by
  unfold mdAt msAt; simp [List.getD, h]
theorem UpM.of {k : Int} {rs : List MsRow} : UpM k (rs.map msD) ↔ UpS k rs := by
  unfold UpM UpS
  constructor
  · intro h j hj
    have := h j (by simpa using hj)
    rwa [totM_take, mdAt_map hj] at this
  · intro h j hj
    have hj' : j < rs.length := by simpa using hj
    rw [totM_take, mdAt_map hj']
    exact h j hj'
theorem MsR.below {w w' a n c D} (h : MsR w a n c D) (hb : Below w.heap.size w w') : MsR w' a n c D := by obtain ⟨rs, h1, h2⟩ := h; exact ⟨rs, h1.below hb, h2⟩
theorem MsR.len {w a n c D} (h : MsR w a n c D) : D.length = n := by obtain ⟨rs, h1, rfl⟩ := h; rw [List.length_map]; exact h1.len
theorem MsR.le {w a n c D} (h : MsR w a n c D) : (n : Int) ≤ 9223372036854775807 := by obtain ⟨rs, h1, _⟩ := h; exact h1.le
theorem MsR.cnt {w a n c D} (h : MsR w a n c D) (ht : (szM n D : Int) ≤ 1048576) : cntM D ≤ 4000000 := by
  have := h.len; unfold szM at ht; unfold cntM; omega
theorem MsO.rd {w b a n c D F} (h : MsO w b a n c D F) : MsR w a n c D := by obtain ⟨rs, h1, h2, _⟩ := h; exact ⟨rs, h1.reads, h2⟩
theorem MsO.feet {w b a n c D F} (h : MsO w b a n c D F) : ∀ q ∈ F, b ≤ q ∧ q < w.heap.size := by obtain ⟨rs, h1, _, rfl⟩ := h; exact h1.feet
theorem MsO.only {X : List Nat} {w w' b a n c D F} (h : MsO w b a n c D F) (ho : Only X w w') (hd : Disj F X) : MsO w' b a n c D F := by obtain ⟨rs, h1, h2, rfl⟩ := h; exact ⟨rs, h1.only ho hd, h2, rfl⟩
theorem MsO.below {w w' b a n c D F} (h : MsO w b a n c D F) (hb : Below w.heap.size w w') : MsO w' b a n c D F := by obtain ⟨rs, h1, h2, h3⟩ := h; exact ⟨rs, h1.below hb, h2, h3⟩
theorem MsO.alloc {w b a n c D F} (h : MsO w b a n c D F) (o : Obj) : MsO (w.alloc o) b a n c D F := h.below ((Below.refl _ _).alloc (Nat.le_refl _) _)
theorem MsO.drew {w b a n c D F} (h : MsO w b a n c D F) : MsO w.drew b a n c D F := h.below ((Below.refl _ _).drew)
theorem MsO.lower {w b b' a n c D F} (h : MsO w b a n c D F) (hb : b' ≤ b) : MsO w b' a n c D F := by obtain ⟨rs, h1, h2, h3⟩ := h; exact ⟨rs, h1.lower hb, h2, h3⟩
theorem MsO.nil (w : World) (b : Nat) (a : Option Addr) : MsO w b a 0 0 [] [] := ⟨[], MsW.nil0 _ _ _, rfl, by simp [bod, feetSS_nil]⟩
theorem toMessageS_o (a : Option Addr) (n c : Nat) (D : List MsD) (w : World) (h : MsR w a n c D) (ht : (szM n D : Int) ≤ 1048576) :
    Calls Tryd.prog 43 #[.slice a n c] w fun e w' => ∃ a' c' F, e = .returned (.slice a' n c') ∧ MsO w' w.heap.size a' n c' D F ∧ Below w.heap.size w w' := by
  obtain ⟨rs, h1, rfl⟩ := h
  unfold szM at ht
  rw [totM_map] at ht
  refine (toMessageS_any a n c rs w h1 (by omega) (fun r hr => by have := tot_ge (bod rs) _ (mem_bod hr); omega)).mono ?_
  rintro e w' ⟨a', c', rs', rfl, o, hd, u⟩
  exact ⟨a', c', _, rfl, ⟨rs', o, hd, rfl⟩, u⟩
theorem szMessageS_o_yes (a : Option Addr) (n c : Nat) (D : List MsD) (left : Int) (w : World) (h : MsR w a n c D) (h0 : left ≤ 1048576) (h1 : (szM n D : Int) ≤ left) :
    Calls Tryd.prog 41 #[.slice a n c, .int .i64 left] w fun e w' => e = .returned (.int .i64 (left - szM n D)) ∧ Below w.heap.size w w' := by
  obtain ⟨rs, h2, rfl⟩ := h
  unfold szM at h1 ⊢
  rw [totM_map] at h1 ⊢
  refine (szMessageS_yes a n c rs left w h2 h0 (by omega)).mono ?_
  rintro e w' ⟨rfl, u⟩
  exact ⟨ret_int (by omega), u⟩
theorem szMessageS_o_no (a : Option Addr) (n c : Nat) (D : List MsD) (left : Int) (w : World) (h : MsR w a n c D) (hz : 0 ≤ left) (h0 : left ≤ 1048576) (h1 : ¬ (szM n D : Int) ≤ left) :
    Calls Tryd.prog 41 #[.slice a n c, .int .i64 left] w fun e w' => e = .returned (.int .i64 (-1)) ∧ Below w.heap.size w w' := by
  obtain ⟨rs, h2, rfl⟩ := h
  unfold szM at h1
  rw [totM_map] at h1
  exact szMessageS_no a n c rs left w h2 ⟨hz, h0⟩ (by omega)
theorem eqMessageS_o (a : Option Addr) (n c : Nat) (a' : Option Addr) (n' c' : Nat) (D : List MsD) (w : World) (h : MsR w a n c D) (h' : MsR w a' n' c' D) :
    Calls Tryd.prog 45 #[.slice a n c, .slice a' n' c'] w fun e w' => e = .returned (.bool true) ∧ Below w.heap.size w w' := by
  obtain ⟨rs, h1, h2⟩ := h
  obtain ⟨ts, t1, t2⟩ := h'
  exact eqMessageS_b a n c a' n' c' rs ts w h1 t1 (h2.trans t2.symm)
theorem markMessageS_o (a : Option Addr) (n c b : Nat) (D : List MsD) (F : List Nat) (k0 : Int) (w : World) (h : MsO w b a n c D F) (hk : 0 ≤ k0) (hk2 : k0 + cntM D ≤ 4000000000000000000) :
    Calls Tryd.prog 46 #[.slice a n c, .int .i64 k0] w fun e w' => ∃ D', e = .returned (.int .i64 (k0 + cntM D')) ∧ MsO w' b a n c D' F ∧ UpM k0 D' ∧ cntM D' = cntM D ∧ Only F w w' := by
  obtain ⟨rs, h1, rfl, rfl⟩ := h
  have l1 := h1.reads.len
  unfold cntM at hk2
  rw [totM_map, List.length_map] at hk2
  refine (markMessageS_any a n c b rs k0 w h1 hk (by omega)).mono ?_
  rintro e w' ⟨rfl, ⟨rs', o, up, hK⟩, G⟩
  have l2 := o.reads.len
  have ht : tot (bod rs') = tot (bod rs) := by
    have hl : (bod rs').length = (bod rs).length := by simpa using congrArg List.length hK
    have := tot_key hK (bod rs).length
    rw [List.take_length, ← hl, List.take_length] at this
    exact this
  have hc : ∀ q : List MsRow, cntM (q.map msD) = 2 * q.length + tot (bod q) := fun q => by unfold cntM; rw [totM_map, List.length_map]
  refine ⟨rs'.map msD, ret_int (by rw [hc, ht]; omega), ⟨rs', o, rfl, by unfold feetSS; rw [rowsF_key hK]⟩, UpM.of.2 up, by rw [hc, hc, ht]; omega, G⟩
end Go.Proofs.YtlmdckcohoddnaaDoor
namespace Go.Proofs.YtlmdckcohoddnaaDoor
open Go.RowKit
/-- A player after messages. -/
def rpS (a : Pl) (m : MsD) : Pl := if a.status = 0 then takeP a m.1 m.2.1 m.2.2 else a
def rpP (a : Pl) (D : List MsD) : Pl := D.foldl rpS a
def rpB (a : Pl) (n : Nat) : Bool := plB a && (decide (a.step = 0) && (decide (a.status = 0) && decide (n ≤ 6)))
def rfP (a : Pl) (n : Nat) (D : List MsD) : Pl := if rpB a n then rpP a D else zeroPl
structure RunN (a : Pl) : Prop where
  n : PlN a
  r : a.status = 0 → a.step ≤ 2
theorem RunN.step {a : Pl} (h : RunN a) (m : MsD) : RunN (rpS a m) := by
  unfold rpS
  split
  · rename_i h0
    have hs := h.r h0
    refine ⟨h.n.take hs _ _ _, fun h1 => ?_⟩
    cases hacc : accB a m.1 m.2.1 m.2.2
    · rw [takeP_no hacc] at h1; simp at h1
    · by_cases h2 : a.step = 2
      · rw [takeP_end hacc h2] at h1; simp at h1
      · rw [takeP_go hacc h2]; simp only; omega
  · exact h
theorem RunN.of {a : Pl} (h : plB a = true) (h0 : a.status = 0) : RunN a := ⟨PlN.of h, fun _ => run_step h h0⟩
theorem RunN.all {a : Pl} (h : RunN a) (D : List MsD) : RunN (rpP a D) := by
  unfold rpP
  induction D generalizing a with
  | nil => exact h
  | cons m D ih => exact ih (h.step m)
theorem rfP_cnt (a : Pl) (n : Nat) (D : List MsD) : cntP (rfP a n D).shares (rfP a n D).keys (rfP a n D).heard ≤ 100 := by
  unfold rfP
  split
  · rename_i h
    unfold rpB at h
    simp only [Bool.and_eq_true, decide_eq_true_eq] at h
    exact ((RunN.of h.1 h.2.2.1).all D).n.cnt
  · simp [zeroPl, cntP, totL]
theorem rpP_take (a : Pl) (D : List MsD) (k : Nat) (hk : k < D.length) : rpP a (D.take (k + 1)) = rpS (rpP a (D.take k)) (mdAt D k) := by
  unfold rpP mdAt
  rw [List.take_succ_eq_append_getElem hk, List.foldl_append]
  simp [List.getD, hk]
set_option maxHeartbeats 16000000 in
set_option maxRecDepth 100000 in
theorem ReplayFor_any (a : Pl) (x : PlX) (p : Option Addr) (n c : Nat) (D : List MsD) (w : World) (h : PlR w x a.shares a.keys a.heard) (hM : MsR w p n c D) (hT : Tbl w) :
    Calls Tryd.prog 44 #[.agg #[.int .i64 a.P, .int .i64 a.party, .int .i64 a.input, .int .i64 a.mask, .int .i64 a.delta, .slice x.sa x.sn x.sc, .slice x.ka x.kn x.kc, .int .i64 a.step, .slice x.ha x.hn x.hc, .int .i64 a.status, .int .i64 a.out], .slice p n c] w fun e w' => ∃ y F, e = .returned (.tuple #[.agg #[.int .i64 (rfP a D.length D).P, .int .i64 (rfP a D.length D).party, .int .i64 (rfP a D.length D).input, .int .i64 (rfP a D.length D).mask, .int .i64 (rfP a D.length D).delta, .slice y.sa y.sn y.sc, .slice y.ka y.kn y.kc, .int .i64 (rfP a D.length D).step, .slice y.ha y.hn y.hc, .int .i64 (rfP a D.length D).status, .int .i64 (rfP a D.length D).out], .bool (rpB a D.length)]) ∧ PlO w' w.heap.size y (rfP a D.length D).shares (rfP a D.length D).keys (rfP a D.length D).heard F ∧ Below w.heap.size w w' := by
  have CG := Lib.hid (fun (W : World) (h2 : PlR W x a.shares a.keys a.heard) (hT2 : Tbl W) => IsPlayer_any a x W h2 hT2)
  have LX := Lib.hid hT
  clear hT
  rw [hM.len]
  have hnl := hM.le
  have HL := Lib.hid hM.len
  have RN := Lib.hid (fun (h1 : plB a = true) (h2 : a.status = 0) => RunN.of h1 h2)
  have CP := Lib.hid (fun (h1 : plB a = true) (W : World) (h2 : PlR W x a.shares a.keys a.heard) => copyPlayer_any a x W h2 (PlN.of h1))
  have rng := Lib.hid (fun (h1 : plB a = true) => (show (0 ≤ a.step ∧ a.step ≤ 3) ∧ (0 ≤ a.status ∧ a.status ≤ 2) from by
    obtain ⟨_, _, _, _, _, _, _, _, _, _, _, r1, _, _, r2⟩ := plB_parts h1
    exact ⟨r1, r2⟩))
  obtain ⟨rs, hS, hD⟩ := hM
  have LS := Lib.hid hS
  replace hD := Lib.hid hD
  have hrl := Lib.hid hS.len
  unfold rfP rpB
  generalize plB a = b0 at *
  generalize hb1 : decide (a.step = 0) = b1
  generalize hb2 : decide (a.status = 0) = b2
  generalize hb3 : decide (n ≤ 6) = b3
  have HB1 := Lib.hid hb1
  have HB2 := Lib.hid hb2
  have HB3 := Lib.hid hb3
  have LH := Lib.hid h
  clear hb1 hb2 hb3 h hS
  go_enter Tryd.func44, Tryd.ntmps44
  go_wp2_with fail
  have V_w1'_1 : Below w.heap.size w (w.alloc (.cells #[.int .i64 a.P, .int .i64 a.party, .int .i64 a.input, .int .i64 a.mask, .int .i64 a.delta, .slice x.sa x.sn x.sc, .slice x.ka x.kn x.kc, .int .i64 a.step, .slice x.ha x.hn x.hc, .int .i64 a.status, .int .i64 a.out] 31)) := ((Below.refl w.heap.size w)).alloc (by have := ((Below.refl w.heap.size w)).size; first | exact this | (simp at *; omega)) _
  have B_a : Blk (w.alloc (.cells #[.int .i64 a.P, .int .i64 a.party, .int .i64 a.input, .int .i64 a.mask, .int .i64 a.delta, .slice x.sa x.sn x.sc, .slice x.ka x.kn x.kc, .int .i64 a.step, .slice x.ha x.hn x.hc, .int .i64 a.status, .int .i64 a.out] 31)) (w.heap.size) 31 #[.int .i64 a.P, .int .i64 a.party, .int .i64 a.input, .int .i64 a.mask, .int .i64 a.delta, .slice x.sa x.sn x.sc, .slice x.ka x.kn x.kc, .int .i64 a.step, .slice x.ha x.hn x.hc, .int .i64 a.status, .int .i64 a.out] := by exact Blk.new w 31 #[.int .i64 a.P, .int .i64 a.party, .int .i64 a.input, .int .i64 a.mask, .int .i64 a.delta, .slice x.sa x.sn x.sc, .slice x.ka x.kn x.kc, .int .i64 a.step, .slice x.ha x.hn x.hc, .int .i64 a.status, .int .i64 a.out]
  have V_w1'_2 : Below w.heap.size w ((w.alloc (.cells #[.int .i64 a.P, .int .i64 a.party, .int .i64 a.input, .int .i64 a.mask, .int .i64 a.delta, .slice x.sa x.sn x.sc, .slice x.ka x.kn x.kc, .int .i64 a.step, .slice x.ha x.hn x.hc, .int .i64 a.status, .int .i64 a.out] 31)).alloc (.cells #[.int .i64 0, .int .i64 0, .int .i64 0, .int .i64 0, .int .i64 0, .slice none 0 0, .slice none 0 0, .int .i64 0, .slice none 0 0, .int .i64 0, .int .i64 0] 31)) := (V_w1'_1).alloc (by have := (V_w1'_1).size; first | exact this | (simp at *; omega)) _
  replace B_a := B_a.alloc (.cells #[.int .i64 0, .int .i64 0, .int .i64 0, .int .i64 0, .int .i64 0, .slice none 0 0, .slice none 0 0, .int .i64 0, .slice none 0 0, .int .i64 0, .int .i64 0] 31)
  have B_r : Blk ((w.alloc (.cells #[.int .i64 a.P, .int .i64 a.party, .int .i64 a.input, .int .i64 a.mask, .int .i64 a.delta, .slice x.sa x.sn x.sc, .slice x.ka x.kn x.kc, .int .i64 a.step, .slice x.ha x.hn x.hc, .int .i64 a.status, .int .i64 a.out] 31)).alloc (.cells #[.int .i64 0, .int .i64 0, .int .i64 0, .int .i64 0, .int .i64 0, .slice none 0 0, .slice none 0 0, .int .i64 0, .slice none 0 0, .int .i64 0, .int .i64 0] 31)) (w.heap.size + 1) 31 #[.int .i64 0, .int .i64 0, .int .i64 0, .int .i64 0, .int .i64 0, .slice none 0 0, .slice none 0 0, .int .i64 0, .slice none 0 0, .int .i64 0, .int .i64 0] := by simpa [World.setCell] using (Blk.new (w.alloc (.cells #[.int .i64 a.P, .int .i64 a.party, .int .i64 a.input, .int .i64 a.mask, .int .i64 a.delta, .slice x.sa x.sn x.sc, .slice x.ka x.kn x.kc, .int .i64 a.step, .slice x.ha x.hn x.hc, .int .i64 a.status, .int .i64 a.out] 31)) 31 #[.int .i64 0, .int .i64 0, .int .i64 0, .int .i64 0, .int .i64 0, .slice none 0 0, .slice none 0 0, .int .i64 0, .slice none 0 0, .int .i64 0, .int .i64 0])
  have S_w1' : w.heap.size + 2 ≤ ((w.alloc (.cells #[.int .i64 a.P, .int .i64 a.party, .int .i64 a.input, .int .i64 a.mask, .int .i64 a.delta, .slice x.sa x.sn x.sc, .slice x.ka x.kn x.kc, .int .i64 a.step, .slice x.ha x.hn x.hc, .int .i64 a.status, .int .i64 a.out] 31)).alloc (.cells #[.int .i64 0, .int .i64 0, .int .i64 0, .int .i64 0, .int .i64 0, .slice none 0 0, .slice none 0 0, .int .i64 0, .slice none 0 0, .int .i64 0, .int .i64 0] 31)).heap.size := by first | (simp; done) | (simp; omega) | (simp [World.setCell]; done) | (simp [World.setCell]; omega)
  generalize ((w.alloc (.cells #[.int .i64 a.P, .int .i64 a.party, .int .i64 a.input, .int .i64 a.mask, .int .i64 a.delta, .slice x.sa x.sn x.sc, .slice x.ka x.kn x.kc, .int .i64 a.step, .slice x.ha x.hn x.hc, .int .i64 a.status, .int .i64 a.out] 31)).alloc (.cells #[.int .i64 0, .int .i64 0, .int .i64 0, .int .i64 0, .int .i64 0, .slice none 0 0, .slice none 0 0, .int .i64 0, .slice none 0 0, .int .i64 0, .int .i64 0] 31)) = w1' at *
  clear V_w1'_1
  have V_w1' : Below w.heap.size w w1' := V_w1'_2
  clear V_w1'_2
  refine (CG.out _ (LH.out.below V_w1') (LX.out.below V_w1')).mono ?_
  rintro e w2' ⟨rfl, u_w2'⟩
  replace B_a := B_a.below u_w2'
  replace B_r := B_r.below u_w2'
  have S_w2' := u_w2'.size
  have V_w2' : Below w.heap.size w w2' := V_w1'.trans (u_w2'.mono V_w1'.size)
  clear V_w1'
  clear u_w2'
  cases b0
  · skip
    have e_a_0 : w2'.cell? ⟨w.heap.size, 0, none⟩ = some (.int .i64 a.P) := B_a.cell 0
    have e_a_1 : w2'.cell? ⟨w.heap.size, 1, none⟩ = some (.int .i64 a.party) := B_a.cell 1
    have e_a_2 : w2'.cell? ⟨w.heap.size, 2, none⟩ = some (.int .i64 a.input) := B_a.cell 2
    have e_a_3 : w2'.cell? ⟨w.heap.size, 3, none⟩ = some (.int .i64 a.mask) := B_a.cell 3
    have e_a_4 : w2'.cell? ⟨w.heap.size, 4, none⟩ = some (.int .i64 a.delta) := B_a.cell 4
    have e_a_5 : w2'.cell? ⟨w.heap.size, 5, none⟩ = some (.slice x.sa x.sn x.sc) := B_a.cell 5
    have e_a_6 : w2'.cell? ⟨w.heap.size, 6, none⟩ = some (.slice x.ka x.kn x.kc) := B_a.cell 6
    have e_a_7 : w2'.cell? ⟨w.heap.size, 7, none⟩ = some (.int .i64 a.step) := B_a.cell 7
    have e_a_8 : w2'.cell? ⟨w.heap.size, 8, none⟩ = some (.slice x.ha x.hn x.hc) := B_a.cell 8
    have e_a_9 : w2'.cell? ⟨w.heap.size, 9, none⟩ = some (.int .i64 a.status) := B_a.cell 9
    have e_a_10 : w2'.cell? ⟨w.heap.size, 10, none⟩ = some (.int .i64 a.out) := B_a.cell 10
    have e_r_0 : w2'.cell? ⟨w.heap.size + 1, 0, none⟩ = some (.int .i64 0) := B_r.cell 0
    have f_r_0 : w2'.frozen? ⟨w.heap.size + 1, 0, none⟩ = false := B_r.frozen 0
    have e_r_1 : w2'.cell? ⟨w.heap.size + 1, 1, none⟩ = some (.int .i64 0) := B_r.cell 1
    have f_r_1 : w2'.frozen? ⟨w.heap.size + 1, 1, none⟩ = false := B_r.frozen 1
    have e_r_2 : w2'.cell? ⟨w.heap.size + 1, 2, none⟩ = some (.int .i64 0) := B_r.cell 2
    have f_r_2 : w2'.frozen? ⟨w.heap.size + 1, 2, none⟩ = false := B_r.frozen 2
    have e_r_3 : w2'.cell? ⟨w.heap.size + 1, 3, none⟩ = some (.int .i64 0) := B_r.cell 3
    have f_r_3 : w2'.frozen? ⟨w.heap.size + 1, 3, none⟩ = false := B_r.frozen 3
    have e_r_4 : w2'.cell? ⟨w.heap.size + 1, 4, none⟩ = some (.int .i64 0) := B_r.cell 4
    have f_r_4 : w2'.frozen? ⟨w.heap.size + 1, 4, none⟩ = false := B_r.frozen 4
    have e_r_5 : w2'.cell? ⟨w.heap.size + 1, 5, none⟩ = some (.slice none 0 0) := B_r.cell 5
    have f_r_5 : w2'.frozen? ⟨w.heap.size + 1, 5, none⟩ = false := B_r.frozen 5
    have e_r_6 : w2'.cell? ⟨w.heap.size + 1, 6, none⟩ = some (.slice none 0 0) := B_r.cell 6
    have f_r_6 : w2'.frozen? ⟨w.heap.size + 1, 6, none⟩ = false := B_r.frozen 6
    have e_r_7 : w2'.cell? ⟨w.heap.size + 1, 7, none⟩ = some (.int .i64 0) := B_r.cell 7
    have f_r_7 : w2'.frozen? ⟨w.heap.size + 1, 7, none⟩ = false := B_r.frozen 7
    have e_r_8 : w2'.cell? ⟨w.heap.size + 1, 8, none⟩ = some (.slice none 0 0) := B_r.cell 8
    have f_r_8 : w2'.frozen? ⟨w.heap.size + 1, 8, none⟩ = false := B_r.frozen 8
    have e_r_9 : w2'.cell? ⟨w.heap.size + 1, 9, none⟩ = some (.int .i64 0) := B_r.cell 9
    have f_r_9 : w2'.frozen? ⟨w.heap.size + 1, 9, none⟩ = false := B_r.frozen 9
    have e_r_10 : w2'.cell? ⟨w.heap.size + 1, 10, none⟩ = some (.int .i64 0) := B_r.cell 10
    have f_r_10 : w2'.frozen? ⟨w.heap.size + 1, 10, none⟩ = false := B_r.frozen 10
    go_wp2
    clear e_a_0 e_a_1 e_a_2 e_a_3 e_a_4 e_a_5 e_a_6 e_a_7 e_a_8 e_a_9 e_a_10 e_r_0 f_r_0 e_r_1 f_r_1 e_r_2 f_r_2 e_r_3 f_r_3 e_r_4 f_r_4 e_r_5 f_r_5 e_r_6 f_r_6 e_r_7 f_r_7 e_r_8 f_r_8 e_r_9 f_r_9 e_r_10 f_r_10
    have g_1 : Only [w.heap.size + 1] w2' (w2'.setCell ⟨w.heap.size + 1, 0, none⟩ (.int .i64 0)) := (Only.refl _ _).setCell _ _ (by simp)
    replace B_r := B_r.set_ 0 (.int .i64 0)
    generalize w2'.setCell ⟨w.heap.size + 1, 0, none⟩ (.int .i64 0) = w3_1' at *
    have G := g_1
    clear g_1
    have g_2 : Only [w.heap.size + 1] w3_1' (w3_1'.setCell ⟨w.heap.size + 1, 1, none⟩ (.int .i64 0)) := (Only.refl _ _).setCell _ _ (by simp)
    replace B_r := B_r.set_ 1 (.int .i64 0)
    generalize w3_1'.setCell ⟨w.heap.size + 1, 1, none⟩ (.int .i64 0) = w3_2' at *
    replace G := G.trans g_2
    clear g_2
    have g_3 : Only [w.heap.size + 1] w3_2' (w3_2'.setCell ⟨w.heap.size + 1, 2, none⟩ (.int .i64 0)) := (Only.refl _ _).setCell _ _ (by simp)
    replace B_r := B_r.set_ 2 (.int .i64 0)
    generalize w3_2'.setCell ⟨w.heap.size + 1, 2, none⟩ (.int .i64 0) = w3_3' at *
    replace G := G.trans g_3
    clear g_3
    have g_4 : Only [w.heap.size + 1] w3_3' (w3_3'.setCell ⟨w.heap.size + 1, 3, none⟩ (.int .i64 0)) := (Only.refl _ _).setCell _ _ (by simp)
    replace B_r := B_r.set_ 3 (.int .i64 0)
    generalize w3_3'.setCell ⟨w.heap.size + 1, 3, none⟩ (.int .i64 0) = w3_4' at *
    replace G := G.trans g_4
    clear g_4
    have g_5 : Only [w.heap.size + 1] w3_4' (w3_4'.setCell ⟨w.heap.size + 1, 4, none⟩ (.int .i64 0)) := (Only.refl _ _).setCell _ _ (by simp)
    replace B_r := B_r.set_ 4 (.int .i64 0)
    generalize w3_4'.setCell ⟨w.heap.size + 1, 4, none⟩ (.int .i64 0) = w3_5' at *
    replace G := G.trans g_5
    clear g_5
    have g_6 : Only [w.heap.size + 1] w3_5' (w3_5'.setCell ⟨w.heap.size + 1, 5, none⟩ (.slice none 0 0)) := (Only.refl _ _).setCell _ _ (by simp)
    replace B_r := B_r.set_ 5 (.slice none 0 0)
    generalize w3_5'.setCell ⟨w.heap.size + 1, 5, none⟩ (.slice none 0 0) = w3_6' at *
    replace G := G.trans g_6
    clear g_6
    have g_7 : Only [w.heap.size + 1] w3_6' (w3_6'.setCell ⟨w.heap.size + 1, 6, none⟩ (.slice none 0 0)) := (Only.refl _ _).setCell _ _ (by simp)
    replace B_r := B_r.set_ 6 (.slice none 0 0)
    generalize w3_6'.setCell ⟨w.heap.size + 1, 6, none⟩ (.slice none 0 0) = w3_7' at *
    replace G := G.trans g_7
    clear g_7
    have g_8 : Only [w.heap.size + 1] w3_7' (w3_7'.setCell ⟨w.heap.size + 1, 7, none⟩ (.int .i64 0)) := (Only.refl _ _).setCell _ _ (by simp)
    replace B_r := B_r.set_ 7 (.int .i64 0)
    generalize w3_7'.setCell ⟨w.heap.size + 1, 7, none⟩ (.int .i64 0) = w3_8' at *
    replace G := G.trans g_8
    clear g_8
    have g_9 : Only [w.heap.size + 1] w3_8' (w3_8'.setCell ⟨w.heap.size + 1, 8, none⟩ (.slice none 0 0)) := (Only.refl _ _).setCell _ _ (by simp)
    replace B_r := B_r.set_ 8 (.slice none 0 0)
    generalize w3_8'.setCell ⟨w.heap.size + 1, 8, none⟩ (.slice none 0 0) = w3_9' at *
    replace G := G.trans g_9
    clear g_9
    have g_10 : Only [w.heap.size + 1] w3_9' (w3_9'.setCell ⟨w.heap.size + 1, 9, none⟩ (.int .i64 0)) := (Only.refl _ _).setCell _ _ (by simp)
    replace B_r := B_r.set_ 9 (.int .i64 0)
    generalize w3_9'.setCell ⟨w.heap.size + 1, 9, none⟩ (.int .i64 0) = w3_10' at *
    replace G := G.trans g_10
    clear g_10
    have g_11 : Only [w.heap.size + 1] w3_10' (w3_10'.setCell ⟨w.heap.size + 1, 10, none⟩ (.int .i64 0)) := (Only.refl _ _).setCell _ _ (by simp)
    replace B_r := B_r.set_ 10 (.int .i64 0)
    generalize w3_10'.setCell ⟨w.heap.size + 1, 10, none⟩ (.int .i64 0) = w3' at *
    replace G := G.trans g_11
    clear g_11
    simp only [List.setIfInBounds_toArray, List.set_cons_zero, List.set_cons_succ] at B_r
    have V_w3' : Below w.heap.size w w3' := (V_w2').trans (G.below (V_w2').size (fun q hq => by have := (V_w2').size; simp at hq; omega))
    replace B_a := B_a.only G (by first | (simp; done) | (simp; omega))
    have sG0 := G.size
    clear G
    clear V_w2'
    have S_w3' : w2'.heap.size + 0 ≤ w3'.heap.size := by omega
    clear sG0
    have e_r_0 : w3'.cell? ⟨w.heap.size + 1, 0, none⟩ = some (.int .i64 0) := B_r.cell 0
    have e_r_1 : w3'.cell? ⟨w.heap.size + 1, 1, none⟩ = some (.int .i64 0) := B_r.cell 1
    have e_r_2 : w3'.cell? ⟨w.heap.size + 1, 2, none⟩ = some (.int .i64 0) := B_r.cell 2
    have e_r_3 : w3'.cell? ⟨w.heap.size + 1, 3, none⟩ = some (.int .i64 0) := B_r.cell 3
    have e_r_4 : w3'.cell? ⟨w.heap.size + 1, 4, none⟩ = some (.int .i64 0) := B_r.cell 4
    have e_r_5 : w3'.cell? ⟨w.heap.size + 1, 5, none⟩ = some (.slice none 0 0) := B_r.cell 5
    have e_r_6 : w3'.cell? ⟨w.heap.size + 1, 6, none⟩ = some (.slice none 0 0) := B_r.cell 6
    have e_r_7 : w3'.cell? ⟨w.heap.size + 1, 7, none⟩ = some (.int .i64 0) := B_r.cell 7
    have e_r_8 : w3'.cell? ⟨w.heap.size + 1, 8, none⟩ = some (.slice none 0 0) := B_r.cell 8
    have e_r_9 : w3'.cell? ⟨w.heap.size + 1, 9, none⟩ = some (.int .i64 0) := B_r.cell 9
    have e_r_10 : w3'.cell? ⟨w.heap.size + 1, 10, none⟩ = some (.int .i64 0) := B_r.cell 10
    exact bodyPost_ret (v := .tuple #[.agg #[.int .i64 0, .int .i64 0, .int .i64 0, .int .i64 0, .int .i64 0, .slice none 0 0, .slice none 0 0, .int .i64 0, .slice none 0 0, .int .i64 0, .int .i64 0], .bool false]) (by simp [results, Tryd.results44, go_sem, e_r_0, e_r_1, e_r_2, e_r_3, e_r_4, e_r_5, e_r_6, e_r_7, e_r_8, e_r_9, e_r_10]) rfl (by first | exact ⟨zeroX, [], rfl, PlO.nil _ _, V_w3'⟩ | exact ⟨zeroX, rfl, ⟨[], PlO.nil _ _⟩, V_w3'⟩)
  cases b1
  · have d1 : ((a.step != 0) : Bool) = true := by simpa using HB1.out
    have e_a_0 : w2'.cell? ⟨w.heap.size, 0, none⟩ = some (.int .i64 a.P) := B_a.cell 0
    have e_a_1 : w2'.cell? ⟨w.heap.size, 1, none⟩ = some (.int .i64 a.party) := B_a.cell 1
    have e_a_2 : w2'.cell? ⟨w.heap.size, 2, none⟩ = some (.int .i64 a.input) := B_a.cell 2
    have e_a_3 : w2'.cell? ⟨w.heap.size, 3, none⟩ = some (.int .i64 a.mask) := B_a.cell 3
    have e_a_4 : w2'.cell? ⟨w.heap.size, 4, none⟩ = some (.int .i64 a.delta) := B_a.cell 4
    have e_a_5 : w2'.cell? ⟨w.heap.size, 5, none⟩ = some (.slice x.sa x.sn x.sc) := B_a.cell 5
    have e_a_6 : w2'.cell? ⟨w.heap.size, 6, none⟩ = some (.slice x.ka x.kn x.kc) := B_a.cell 6
    have e_a_7 : w2'.cell? ⟨w.heap.size, 7, none⟩ = some (.int .i64 a.step) := B_a.cell 7
    have e_a_8 : w2'.cell? ⟨w.heap.size, 8, none⟩ = some (.slice x.ha x.hn x.hc) := B_a.cell 8
    have e_a_9 : w2'.cell? ⟨w.heap.size, 9, none⟩ = some (.int .i64 a.status) := B_a.cell 9
    have e_a_10 : w2'.cell? ⟨w.heap.size, 10, none⟩ = some (.int .i64 a.out) := B_a.cell 10
    have e_r_0 : w2'.cell? ⟨w.heap.size + 1, 0, none⟩ = some (.int .i64 0) := B_r.cell 0
    have f_r_0 : w2'.frozen? ⟨w.heap.size + 1, 0, none⟩ = false := B_r.frozen 0
    have e_r_1 : w2'.cell? ⟨w.heap.size + 1, 1, none⟩ = some (.int .i64 0) := B_r.cell 1
    have f_r_1 : w2'.frozen? ⟨w.heap.size + 1, 1, none⟩ = false := B_r.frozen 1
    have e_r_2 : w2'.cell? ⟨w.heap.size + 1, 2, none⟩ = some (.int .i64 0) := B_r.cell 2
    have f_r_2 : w2'.frozen? ⟨w.heap.size + 1, 2, none⟩ = false := B_r.frozen 2
    have e_r_3 : w2'.cell? ⟨w.heap.size + 1, 3, none⟩ = some (.int .i64 0) := B_r.cell 3
    have f_r_3 : w2'.frozen? ⟨w.heap.size + 1, 3, none⟩ = false := B_r.frozen 3
    have e_r_4 : w2'.cell? ⟨w.heap.size + 1, 4, none⟩ = some (.int .i64 0) := B_r.cell 4
    have f_r_4 : w2'.frozen? ⟨w.heap.size + 1, 4, none⟩ = false := B_r.frozen 4
    have e_r_5 : w2'.cell? ⟨w.heap.size + 1, 5, none⟩ = some (.slice none 0 0) := B_r.cell 5
    have f_r_5 : w2'.frozen? ⟨w.heap.size + 1, 5, none⟩ = false := B_r.frozen 5
    have e_r_6 : w2'.cell? ⟨w.heap.size + 1, 6, none⟩ = some (.slice none 0 0) := B_r.cell 6
    have f_r_6 : w2'.frozen? ⟨w.heap.size + 1, 6, none⟩ = false := B_r.frozen 6
    have e_r_7 : w2'.cell? ⟨w.heap.size + 1, 7, none⟩ = some (.int .i64 0) := B_r.cell 7
    have f_r_7 : w2'.frozen? ⟨w.heap.size + 1, 7, none⟩ = false := B_r.frozen 7
    have e_r_8 : w2'.cell? ⟨w.heap.size + 1, 8, none⟩ = some (.slice none 0 0) := B_r.cell 8
    have f_r_8 : w2'.frozen? ⟨w.heap.size + 1, 8, none⟩ = false := B_r.frozen 8
    have e_r_9 : w2'.cell? ⟨w.heap.size + 1, 9, none⟩ = some (.int .i64 0) := B_r.cell 9
    have f_r_9 : w2'.frozen? ⟨w.heap.size + 1, 9, none⟩ = false := B_r.frozen 9
    have e_r_10 : w2'.cell? ⟨w.heap.size + 1, 10, none⟩ = some (.int .i64 0) := B_r.cell 10
    have f_r_10 : w2'.frozen? ⟨w.heap.size + 1, 10, none⟩ = false := B_r.frozen 10
    go_wp2
    clear e_a_0 e_a_1 e_a_2 e_a_3 e_a_4 e_a_5 e_a_6 e_a_7 e_a_8 e_a_9 e_a_10 e_r_0 f_r_0 e_r_1 f_r_1 e_r_2 f_r_2 e_r_3 f_r_3 e_r_4 f_r_4 e_r_5 f_r_5 e_r_6 f_r_6 e_r_7 f_r_7 e_r_8 f_r_8 e_r_9 f_r_9 e_r_10 f_r_10
    have g_1 : Only [w.heap.size + 1] w2' (w2'.setCell ⟨w.heap.size + 1, 0, none⟩ (.int .i64 0)) := (Only.refl _ _).setCell _ _ (by simp)
    replace B_r := B_r.set_ 0 (.int .i64 0)
    generalize w2'.setCell ⟨w.heap.size + 1, 0, none⟩ (.int .i64 0) = w4_1' at *
    have G := g_1
    clear g_1
    have g_2 : Only [w.heap.size + 1] w4_1' (w4_1'.setCell ⟨w.heap.size + 1, 1, none⟩ (.int .i64 0)) := (Only.refl _ _).setCell _ _ (by simp)
    replace B_r := B_r.set_ 1 (.int .i64 0)
    generalize w4_1'.setCell ⟨w.heap.size + 1, 1, none⟩ (.int .i64 0) = w4_2' at *
    replace G := G.trans g_2
    clear g_2
    have g_3 : Only [w.heap.size + 1] w4_2' (w4_2'.setCell ⟨w.heap.size + 1, 2, none⟩ (.int .i64 0)) := (Only.refl _ _).setCell _ _ (by simp)
    replace B_r := B_r.set_ 2 (.int .i64 0)
    generalize w4_2'.setCell ⟨w.heap.size + 1, 2, none⟩ (.int .i64 0) = w4_3' at *
    replace G := G.trans g_3
    clear g_3
    have g_4 : Only [w.heap.size + 1] w4_3' (w4_3'.setCell ⟨w.heap.size + 1, 3, none⟩ (.int .i64 0)) := (Only.refl _ _).setCell _ _ (by simp)
    replace B_r := B_r.set_ 3 (.int .i64 0)
    generalize w4_3'.setCell ⟨w.heap.size + 1, 3, none⟩ (.int .i64 0) = w4_4' at *
    replace G := G.trans g_4
    clear g_4
    have g_5 : Only [w.heap.size + 1] w4_4' (w4_4'.setCell ⟨w.heap.size + 1, 4, none⟩ (.int .i64 0)) := (Only.refl _ _).setCell _ _ (by simp)
    replace B_r := B_r.set_ 4 (.int .i64 0)
    generalize w4_4'.setCell ⟨w.heap.size + 1, 4, none⟩ (.int .i64 0) = w4_5' at *
    replace G := G.trans g_5
    clear g_5
    have g_6 : Only [w.heap.size + 1] w4_5' (w4_5'.setCell ⟨w.heap.size + 1, 5, none⟩ (.slice none 0 0)) := (Only.refl _ _).setCell _ _ (by simp)
    replace B_r := B_r.set_ 5 (.slice none 0 0)
    generalize w4_5'.setCell ⟨w.heap.size + 1, 5, none⟩ (.slice none 0 0) = w4_6' at *
    replace G := G.trans g_6
    clear g_6
    have g_7 : Only [w.heap.size + 1] w4_6' (w4_6'.setCell ⟨w.heap.size + 1, 6, none⟩ (.slice none 0 0)) := (Only.refl _ _).setCell _ _ (by simp)
    replace B_r := B_r.set_ 6 (.slice none 0 0)
    generalize w4_6'.setCell ⟨w.heap.size + 1, 6, none⟩ (.slice none 0 0) = w4_7' at *
    replace G := G.trans g_7
    clear g_7
    have g_8 : Only [w.heap.size + 1] w4_7' (w4_7'.setCell ⟨w.heap.size + 1, 7, none⟩ (.int .i64 0)) := (Only.refl _ _).setCell _ _ (by simp)
    replace B_r := B_r.set_ 7 (.int .i64 0)
    generalize w4_7'.setCell ⟨w.heap.size + 1, 7, none⟩ (.int .i64 0) = w4_8' at *
    replace G := G.trans g_8
    clear g_8
    have g_9 : Only [w.heap.size + 1] w4_8' (w4_8'.setCell ⟨w.heap.size + 1, 8, none⟩ (.slice none 0 0)) := (Only.refl _ _).setCell _ _ (by simp)
    replace B_r := B_r.set_ 8 (.slice none 0 0)
    generalize w4_8'.setCell ⟨w.heap.size + 1, 8, none⟩ (.slice none 0 0) = w4_9' at *
    replace G := G.trans g_9
    clear g_9
    have g_10 : Only [w.heap.size + 1] w4_9' (w4_9'.setCell ⟨w.heap.size + 1, 9, none⟩ (.int .i64 0)) := (Only.refl _ _).setCell _ _ (by simp)
    replace B_r := B_r.set_ 9 (.int .i64 0)
    generalize w4_9'.setCell ⟨w.heap.size + 1, 9, none⟩ (.int .i64 0) = w4_10' at *
    replace G := G.trans g_10
    clear g_10
    have g_11 : Only [w.heap.size + 1] w4_10' (w4_10'.setCell ⟨w.heap.size + 1, 10, none⟩ (.int .i64 0)) := (Only.refl _ _).setCell _ _ (by simp)
    replace B_r := B_r.set_ 10 (.int .i64 0)
    generalize w4_10'.setCell ⟨w.heap.size + 1, 10, none⟩ (.int .i64 0) = w4' at *
    replace G := G.trans g_11
    clear g_11
    simp only [List.setIfInBounds_toArray, List.set_cons_zero, List.set_cons_succ] at B_r
    have V_w4' : Below w.heap.size w w4' := (V_w2').trans (G.below (V_w2').size (fun q hq => by have := (V_w2').size; simp at hq; omega))
    replace B_a := B_a.only G (by first | (simp; done) | (simp; omega))
    have sG0 := G.size
    clear G
    clear V_w2'
    have S_w4' : w2'.heap.size + 0 ≤ w4'.heap.size := by omega
    clear sG0
    have e_r_0 : w4'.cell? ⟨w.heap.size + 1, 0, none⟩ = some (.int .i64 0) := B_r.cell 0
    have e_r_1 : w4'.cell? ⟨w.heap.size + 1, 1, none⟩ = some (.int .i64 0) := B_r.cell 1
    have e_r_2 : w4'.cell? ⟨w.heap.size + 1, 2, none⟩ = some (.int .i64 0) := B_r.cell 2
    have e_r_3 : w4'.cell? ⟨w.heap.size + 1, 3, none⟩ = some (.int .i64 0) := B_r.cell 3
    have e_r_4 : w4'.cell? ⟨w.heap.size + 1, 4, none⟩ = some (.int .i64 0) := B_r.cell 4
    have e_r_5 : w4'.cell? ⟨w.heap.size + 1, 5, none⟩ = some (.slice none 0 0) := B_r.cell 5
    have e_r_6 : w4'.cell? ⟨w.heap.size + 1, 6, none⟩ = some (.slice none 0 0) := B_r.cell 6
    have e_r_7 : w4'.cell? ⟨w.heap.size + 1, 7, none⟩ = some (.int .i64 0) := B_r.cell 7
    have e_r_8 : w4'.cell? ⟨w.heap.size + 1, 8, none⟩ = some (.slice none 0 0) := B_r.cell 8
    have e_r_9 : w4'.cell? ⟨w.heap.size + 1, 9, none⟩ = some (.int .i64 0) := B_r.cell 9
    have e_r_10 : w4'.cell? ⟨w.heap.size + 1, 10, none⟩ = some (.int .i64 0) := B_r.cell 10
    exact bodyPost_ret (v := .tuple #[.agg #[.int .i64 0, .int .i64 0, .int .i64 0, .int .i64 0, .int .i64 0, .slice none 0 0, .slice none 0 0, .int .i64 0, .slice none 0 0, .int .i64 0, .int .i64 0], .bool false]) (by simp [results, Tryd.results44, go_sem, e_r_0, e_r_1, e_r_2, e_r_3, e_r_4, e_r_5, e_r_6, e_r_7, e_r_8, e_r_9, e_r_10]) rfl (by first | exact ⟨zeroX, [], rfl, PlO.nil _ _, V_w4'⟩ | exact ⟨zeroX, rfl, ⟨[], PlO.nil _ _⟩, V_w4'⟩)
  have h1 : a.step = 0 := by simpa using HB1.out
  have d1 : ((a.step != 0) : Bool) = false := by simpa using h1
  replace h1 := Lib.hid h1
  cases b2
  · have d2 : ((a.status != 0) : Bool) = true := by simpa using HB2.out
    have e_a_0 : w2'.cell? ⟨w.heap.size, 0, none⟩ = some (.int .i64 a.P) := B_a.cell 0
    have e_a_1 : w2'.cell? ⟨w.heap.size, 1, none⟩ = some (.int .i64 a.party) := B_a.cell 1
    have e_a_2 : w2'.cell? ⟨w.heap.size, 2, none⟩ = some (.int .i64 a.input) := B_a.cell 2
    have e_a_3 : w2'.cell? ⟨w.heap.size, 3, none⟩ = some (.int .i64 a.mask) := B_a.cell 3
    have e_a_4 : w2'.cell? ⟨w.heap.size, 4, none⟩ = some (.int .i64 a.delta) := B_a.cell 4
    have e_a_5 : w2'.cell? ⟨w.heap.size, 5, none⟩ = some (.slice x.sa x.sn x.sc) := B_a.cell 5
    have e_a_6 : w2'.cell? ⟨w.heap.size, 6, none⟩ = some (.slice x.ka x.kn x.kc) := B_a.cell 6
    have e_a_7 : w2'.cell? ⟨w.heap.size, 7, none⟩ = some (.int .i64 a.step) := B_a.cell 7
    have e_a_8 : w2'.cell? ⟨w.heap.size, 8, none⟩ = some (.slice x.ha x.hn x.hc) := B_a.cell 8
    have e_a_9 : w2'.cell? ⟨w.heap.size, 9, none⟩ = some (.int .i64 a.status) := B_a.cell 9
    have e_a_10 : w2'.cell? ⟨w.heap.size, 10, none⟩ = some (.int .i64 a.out) := B_a.cell 10
    have e_r_0 : w2'.cell? ⟨w.heap.size + 1, 0, none⟩ = some (.int .i64 0) := B_r.cell 0
    have f_r_0 : w2'.frozen? ⟨w.heap.size + 1, 0, none⟩ = false := B_r.frozen 0
    have e_r_1 : w2'.cell? ⟨w.heap.size + 1, 1, none⟩ = some (.int .i64 0) := B_r.cell 1
    have f_r_1 : w2'.frozen? ⟨w.heap.size + 1, 1, none⟩ = false := B_r.frozen 1
    have e_r_2 : w2'.cell? ⟨w.heap.size + 1, 2, none⟩ = some (.int .i64 0) := B_r.cell 2
    have f_r_2 : w2'.frozen? ⟨w.heap.size + 1, 2, none⟩ = false := B_r.frozen 2
    have e_r_3 : w2'.cell? ⟨w.heap.size + 1, 3, none⟩ = some (.int .i64 0) := B_r.cell 3
    have f_r_3 : w2'.frozen? ⟨w.heap.size + 1, 3, none⟩ = false := B_r.frozen 3
    have e_r_4 : w2'.cell? ⟨w.heap.size + 1, 4, none⟩ = some (.int .i64 0) := B_r.cell 4
    have f_r_4 : w2'.frozen? ⟨w.heap.size + 1, 4, none⟩ = false := B_r.frozen 4
    have e_r_5 : w2'.cell? ⟨w.heap.size + 1, 5, none⟩ = some (.slice none 0 0) := B_r.cell 5
    have f_r_5 : w2'.frozen? ⟨w.heap.size + 1, 5, none⟩ = false := B_r.frozen 5
    have e_r_6 : w2'.cell? ⟨w.heap.size + 1, 6, none⟩ = some (.slice none 0 0) := B_r.cell 6
    have f_r_6 : w2'.frozen? ⟨w.heap.size + 1, 6, none⟩ = false := B_r.frozen 6
    have e_r_7 : w2'.cell? ⟨w.heap.size + 1, 7, none⟩ = some (.int .i64 0) := B_r.cell 7
    have f_r_7 : w2'.frozen? ⟨w.heap.size + 1, 7, none⟩ = false := B_r.frozen 7
    have e_r_8 : w2'.cell? ⟨w.heap.size + 1, 8, none⟩ = some (.slice none 0 0) := B_r.cell 8
    have f_r_8 : w2'.frozen? ⟨w.heap.size + 1, 8, none⟩ = false := B_r.frozen 8
    have e_r_9 : w2'.cell? ⟨w.heap.size + 1, 9, none⟩ = some (.int .i64 0) := B_r.cell 9
    have f_r_9 : w2'.frozen? ⟨w.heap.size + 1, 9, none⟩ = false := B_r.frozen 9
    have e_r_10 : w2'.cell? ⟨w.heap.size + 1, 10, none⟩ = some (.int .i64 0) := B_r.cell 10
    have f_r_10 : w2'.frozen? ⟨w.heap.size + 1, 10, none⟩ = false := B_r.frozen 10
    go_wp2
    clear e_a_0 e_a_1 e_a_2 e_a_3 e_a_4 e_a_5 e_a_6 e_a_7 e_a_8 e_a_9 e_a_10 e_r_0 f_r_0 e_r_1 f_r_1 e_r_2 f_r_2 e_r_3 f_r_3 e_r_4 f_r_4 e_r_5 f_r_5 e_r_6 f_r_6 e_r_7 f_r_7 e_r_8 f_r_8 e_r_9 f_r_9 e_r_10 f_r_10
    have g_1 : Only [w.heap.size + 1] w2' (w2'.setCell ⟨w.heap.size + 1, 0, none⟩ (.int .i64 0)) := (Only.refl _ _).setCell _ _ (by simp)
    replace B_r := B_r.set_ 0 (.int .i64 0)
    generalize w2'.setCell ⟨w.heap.size + 1, 0, none⟩ (.int .i64 0) = w5_1' at *
    have G := g_1
    clear g_1
    have g_2 : Only [w.heap.size + 1] w5_1' (w5_1'.setCell ⟨w.heap.size + 1, 1, none⟩ (.int .i64 0)) := (Only.refl _ _).setCell _ _ (by simp)
    replace B_r := B_r.set_ 1 (.int .i64 0)
    generalize w5_1'.setCell ⟨w.heap.size + 1, 1, none⟩ (.int .i64 0) = w5_2' at *
    replace G := G.trans g_2
    clear g_2
    have g_3 : Only [w.heap.size + 1] w5_2' (w5_2'.setCell ⟨w.heap.size + 1, 2, none⟩ (.int .i64 0)) := (Only.refl _ _).setCell _ _ (by simp)
    replace B_r := B_r.set_ 2 (.int .i64 0)
    generalize w5_2'.setCell ⟨w.heap.size + 1, 2, none⟩ (.int .i64 0) = w5_3' at *
    replace G := G.trans g_3
    clear g_3
    have g_4 : Only [w.heap.size + 1] w5_3' (w5_3'.setCell ⟨w.heap.size + 1, 3, none⟩ (.int .i64 0)) := (Only.refl _ _).setCell _ _ (by simp)
    replace B_r := B_r.set_ 3 (.int .i64 0)
    generalize w5_3'.setCell ⟨w.heap.size + 1, 3, none⟩ (.int .i64 0) = w5_4' at *
    replace G := G.trans g_4
    clear g_4
    have g_5 : Only [w.heap.size + 1] w5_4' (w5_4'.setCell ⟨w.heap.size + 1, 4, none⟩ (.int .i64 0)) := (Only.refl _ _).setCell _ _ (by simp)
    replace B_r := B_r.set_ 4 (.int .i64 0)
    generalize w5_4'.setCell ⟨w.heap.size + 1, 4, none⟩ (.int .i64 0) = w5_5' at *
    replace G := G.trans g_5
    clear g_5
    have g_6 : Only [w.heap.size + 1] w5_5' (w5_5'.setCell ⟨w.heap.size + 1, 5, none⟩ (.slice none 0 0)) := (Only.refl _ _).setCell _ _ (by simp)
    replace B_r := B_r.set_ 5 (.slice none 0 0)
    generalize w5_5'.setCell ⟨w.heap.size + 1, 5, none⟩ (.slice none 0 0) = w5_6' at *
    replace G := G.trans g_6
    clear g_6
    have g_7 : Only [w.heap.size + 1] w5_6' (w5_6'.setCell ⟨w.heap.size + 1, 6, none⟩ (.slice none 0 0)) := (Only.refl _ _).setCell _ _ (by simp)
    replace B_r := B_r.set_ 6 (.slice none 0 0)
    generalize w5_6'.setCell ⟨w.heap.size + 1, 6, none⟩ (.slice none 0 0) = w5_7' at *
    replace G := G.trans g_7
    clear g_7
    have g_8 : Only [w.heap.size + 1] w5_7' (w5_7'.setCell ⟨w.heap.size + 1, 7, none⟩ (.int .i64 0)) := (Only.refl _ _).setCell _ _ (by simp)
    replace B_r := B_r.set_ 7 (.int .i64 0)
    generalize w5_7'.setCell ⟨w.heap.size + 1, 7, none⟩ (.int .i64 0) = w5_8' at *
    replace G := G.trans g_8
    clear g_8
    have g_9 : Only [w.heap.size + 1] w5_8' (w5_8'.setCell ⟨w.heap.size + 1, 8, none⟩ (.slice none 0 0)) := (Only.refl _ _).setCell _ _ (by simp)
    replace B_r := B_r.set_ 8 (.slice none 0 0)
    generalize w5_8'.setCell ⟨w.heap.size + 1, 8, none⟩ (.slice none 0 0) = w5_9' at *
    replace G := G.trans g_9
    clear g_9
    have g_10 : Only [w.heap.size + 1] w5_9' (w5_9'.setCell ⟨w.heap.size + 1, 9, none⟩ (.int .i64 0)) := (Only.refl _ _).setCell _ _ (by simp)
    replace B_r := B_r.set_ 9 (.int .i64 0)
    generalize w5_9'.setCell ⟨w.heap.size + 1, 9, none⟩ (.int .i64 0) = w5_10' at *
    replace G := G.trans g_10
    clear g_10
    have g_11 : Only [w.heap.size + 1] w5_10' (w5_10'.setCell ⟨w.heap.size + 1, 10, none⟩ (.int .i64 0)) := (Only.refl _ _).setCell _ _ (by simp)
    replace B_r := B_r.set_ 10 (.int .i64 0)
    generalize w5_10'.setCell ⟨w.heap.size + 1, 10, none⟩ (.int .i64 0) = w5' at *
    replace G := G.trans g_11
    clear g_11
    simp only [List.setIfInBounds_toArray, List.set_cons_zero, List.set_cons_succ] at B_r
    have V_w5' : Below w.heap.size w w5' := (V_w2').trans (G.below (V_w2').size (fun q hq => by have := (V_w2').size; simp at hq; omega))
    replace B_a := B_a.only G (by first | (simp; done) | (simp; omega))
    have sG0 := G.size
    clear G
    clear V_w2'
    have S_w5' : w2'.heap.size + 0 ≤ w5'.heap.size := by omega
    clear sG0
    have e_r_0 : w5'.cell? ⟨w.heap.size + 1, 0, none⟩ = some (.int .i64 0) := B_r.cell 0
    have e_r_1 : w5'.cell? ⟨w.heap.size + 1, 1, none⟩ = some (.int .i64 0) := B_r.cell 1
    have e_r_2 : w5'.cell? ⟨w.heap.size + 1, 2, none⟩ = some (.int .i64 0) := B_r.cell 2
    have e_r_3 : w5'.cell? ⟨w.heap.size + 1, 3, none⟩ = some (.int .i64 0) := B_r.cell 3
    have e_r_4 : w5'.cell? ⟨w.heap.size + 1, 4, none⟩ = some (.int .i64 0) := B_r.cell 4
    have e_r_5 : w5'.cell? ⟨w.heap.size + 1, 5, none⟩ = some (.slice none 0 0) := B_r.cell 5
    have e_r_6 : w5'.cell? ⟨w.heap.size + 1, 6, none⟩ = some (.slice none 0 0) := B_r.cell 6
    have e_r_7 : w5'.cell? ⟨w.heap.size + 1, 7, none⟩ = some (.int .i64 0) := B_r.cell 7
    have e_r_8 : w5'.cell? ⟨w.heap.size + 1, 8, none⟩ = some (.slice none 0 0) := B_r.cell 8
    have e_r_9 : w5'.cell? ⟨w.heap.size + 1, 9, none⟩ = some (.int .i64 0) := B_r.cell 9
    have e_r_10 : w5'.cell? ⟨w.heap.size + 1, 10, none⟩ = some (.int .i64 0) := B_r.cell 10
    exact bodyPost_ret (v := .tuple #[.agg #[.int .i64 0, .int .i64 0, .int .i64 0, .int .i64 0, .int .i64 0, .slice none 0 0, .slice none 0 0, .int .i64 0, .slice none 0 0, .int .i64 0, .int .i64 0], .bool false]) (by simp [results, Tryd.results44, go_sem, e_r_0, e_r_1, e_r_2, e_r_3, e_r_4, e_r_5, e_r_6, e_r_7, e_r_8, e_r_9, e_r_10]) rfl (by first | exact ⟨zeroX, [], rfl, PlO.nil _ _, V_w5'⟩ | exact ⟨zeroX, rfl, ⟨[], PlO.nil _ _⟩, V_w5'⟩)
  have h2 : a.status = 0 := by simpa using HB2.out
  have d2 : ((a.status != 0) : Bool) = false := by simpa using h2
  replace h2 := Lib.hid h2
  cases b3
  · have h6 : (6 : Int) < (n : Int) := by have := HB3.out; simp at this; omega
    have h6' : decide ((6 : Int) < (n : Int)) = true := by simpa using h6
    have e_a_0 : w2'.cell? ⟨w.heap.size, 0, none⟩ = some (.int .i64 a.P) := B_a.cell 0
    have e_a_1 : w2'.cell? ⟨w.heap.size, 1, none⟩ = some (.int .i64 a.party) := B_a.cell 1
    have e_a_2 : w2'.cell? ⟨w.heap.size, 2, none⟩ = some (.int .i64 a.input) := B_a.cell 2
    have e_a_3 : w2'.cell? ⟨w.heap.size, 3, none⟩ = some (.int .i64 a.mask) := B_a.cell 3
    have e_a_4 : w2'.cell? ⟨w.heap.size, 4, none⟩ = some (.int .i64 a.delta) := B_a.cell 4
    have e_a_5 : w2'.cell? ⟨w.heap.size, 5, none⟩ = some (.slice x.sa x.sn x.sc) := B_a.cell 5
    have e_a_6 : w2'.cell? ⟨w.heap.size, 6, none⟩ = some (.slice x.ka x.kn x.kc) := B_a.cell 6
    have e_a_7 : w2'.cell? ⟨w.heap.size, 7, none⟩ = some (.int .i64 a.step) := B_a.cell 7
    have e_a_8 : w2'.cell? ⟨w.heap.size, 8, none⟩ = some (.slice x.ha x.hn x.hc) := B_a.cell 8
    have e_a_9 : w2'.cell? ⟨w.heap.size, 9, none⟩ = some (.int .i64 a.status) := B_a.cell 9
    have e_a_10 : w2'.cell? ⟨w.heap.size, 10, none⟩ = some (.int .i64 a.out) := B_a.cell 10
    have e_r_0 : w2'.cell? ⟨w.heap.size + 1, 0, none⟩ = some (.int .i64 0) := B_r.cell 0
    have f_r_0 : w2'.frozen? ⟨w.heap.size + 1, 0, none⟩ = false := B_r.frozen 0
    have e_r_1 : w2'.cell? ⟨w.heap.size + 1, 1, none⟩ = some (.int .i64 0) := B_r.cell 1
    have f_r_1 : w2'.frozen? ⟨w.heap.size + 1, 1, none⟩ = false := B_r.frozen 1
    have e_r_2 : w2'.cell? ⟨w.heap.size + 1, 2, none⟩ = some (.int .i64 0) := B_r.cell 2
    have f_r_2 : w2'.frozen? ⟨w.heap.size + 1, 2, none⟩ = false := B_r.frozen 2
    have e_r_3 : w2'.cell? ⟨w.heap.size + 1, 3, none⟩ = some (.int .i64 0) := B_r.cell 3
    have f_r_3 : w2'.frozen? ⟨w.heap.size + 1, 3, none⟩ = false := B_r.frozen 3
    have e_r_4 : w2'.cell? ⟨w.heap.size + 1, 4, none⟩ = some (.int .i64 0) := B_r.cell 4
    have f_r_4 : w2'.frozen? ⟨w.heap.size + 1, 4, none⟩ = false := B_r.frozen 4
    have e_r_5 : w2'.cell? ⟨w.heap.size + 1, 5, none⟩ = some (.slice none 0 0) := B_r.cell 5
    have f_r_5 : w2'.frozen? ⟨w.heap.size + 1, 5, none⟩ = false := B_r.frozen 5
    have e_r_6 : w2'.cell? ⟨w.heap.size + 1, 6, none⟩ = some (.slice none 0 0) := B_r.cell 6
    have f_r_6 : w2'.frozen? ⟨w.heap.size + 1, 6, none⟩ = false := B_r.frozen 6
    have e_r_7 : w2'.cell? ⟨w.heap.size + 1, 7, none⟩ = some (.int .i64 0) := B_r.cell 7
    have f_r_7 : w2'.frozen? ⟨w.heap.size + 1, 7, none⟩ = false := B_r.frozen 7
    have e_r_8 : w2'.cell? ⟨w.heap.size + 1, 8, none⟩ = some (.slice none 0 0) := B_r.cell 8
    have f_r_8 : w2'.frozen? ⟨w.heap.size + 1, 8, none⟩ = false := B_r.frozen 8
    have e_r_9 : w2'.cell? ⟨w.heap.size + 1, 9, none⟩ = some (.int .i64 0) := B_r.cell 9
    have f_r_9 : w2'.frozen? ⟨w.heap.size + 1, 9, none⟩ = false := B_r.frozen 9
    have e_r_10 : w2'.cell? ⟨w.heap.size + 1, 10, none⟩ = some (.int .i64 0) := B_r.cell 10
    have f_r_10 : w2'.frozen? ⟨w.heap.size + 1, 10, none⟩ = false := B_r.frozen 10
    go_wp2
    clear e_a_0 e_a_1 e_a_2 e_a_3 e_a_4 e_a_5 e_a_6 e_a_7 e_a_8 e_a_9 e_a_10 e_r_0 f_r_0 e_r_1 f_r_1 e_r_2 f_r_2 e_r_3 f_r_3 e_r_4 f_r_4 e_r_5 f_r_5 e_r_6 f_r_6 e_r_7 f_r_7 e_r_8 f_r_8 e_r_9 f_r_9 e_r_10 f_r_10
    have g_1 : Only [w.heap.size + 1] w2' (w2'.setCell ⟨w.heap.size + 1, 0, none⟩ (.int .i64 0)) := (Only.refl _ _).setCell _ _ (by simp)
    replace B_r := B_r.set_ 0 (.int .i64 0)
    generalize w2'.setCell ⟨w.heap.size + 1, 0, none⟩ (.int .i64 0) = w6_1' at *
    have G := g_1
    clear g_1
    have g_2 : Only [w.heap.size + 1] w6_1' (w6_1'.setCell ⟨w.heap.size + 1, 1, none⟩ (.int .i64 0)) := (Only.refl _ _).setCell _ _ (by simp)
    replace B_r := B_r.set_ 1 (.int .i64 0)
    generalize w6_1'.setCell ⟨w.heap.size + 1, 1, none⟩ (.int .i64 0) = w6_2' at *
    replace G := G.trans g_2
    clear g_2
    have g_3 : Only [w.heap.size + 1] w6_2' (w6_2'.setCell ⟨w.heap.size + 1, 2, none⟩ (.int .i64 0)) := (Only.refl _ _).setCell _ _ (by simp)
    replace B_r := B_r.set_ 2 (.int .i64 0)
    generalize w6_2'.setCell ⟨w.heap.size + 1, 2, none⟩ (.int .i64 0) = w6_3' at *
    replace G := G.trans g_3
    clear g_3
    have g_4 : Only [w.heap.size + 1] w6_3' (w6_3'.setCell ⟨w.heap.size + 1, 3, none⟩ (.int .i64 0)) := (Only.refl _ _).setCell _ _ (by simp)
    replace B_r := B_r.set_ 3 (.int .i64 0)
    generalize w6_3'.setCell ⟨w.heap.size + 1, 3, none⟩ (.int .i64 0) = w6_4' at *
    replace G := G.trans g_4
    clear g_4
    have g_5 : Only [w.heap.size + 1] w6_4' (w6_4'.setCell ⟨w.heap.size + 1, 4, none⟩ (.int .i64 0)) := (Only.refl _ _).setCell _ _ (by simp)
    replace B_r := B_r.set_ 4 (.int .i64 0)
    generalize w6_4'.setCell ⟨w.heap.size + 1, 4, none⟩ (.int .i64 0) = w6_5' at *
    replace G := G.trans g_5
    clear g_5
    have g_6 : Only [w.heap.size + 1] w6_5' (w6_5'.setCell ⟨w.heap.size + 1, 5, none⟩ (.slice none 0 0)) := (Only.refl _ _).setCell _ _ (by simp)
    replace B_r := B_r.set_ 5 (.slice none 0 0)
    generalize w6_5'.setCell ⟨w.heap.size + 1, 5, none⟩ (.slice none 0 0) = w6_6' at *
    replace G := G.trans g_6
    clear g_6
    have g_7 : Only [w.heap.size + 1] w6_6' (w6_6'.setCell ⟨w.heap.size + 1, 6, none⟩ (.slice none 0 0)) := (Only.refl _ _).setCell _ _ (by simp)
    replace B_r := B_r.set_ 6 (.slice none 0 0)
    generalize w6_6'.setCell ⟨w.heap.size + 1, 6, none⟩ (.slice none 0 0) = w6_7' at *
    replace G := G.trans g_7
    clear g_7
    have g_8 : Only [w.heap.size + 1] w6_7' (w6_7'.setCell ⟨w.heap.size + 1, 7, none⟩ (.int .i64 0)) := (Only.refl _ _).setCell _ _ (by simp)
    replace B_r := B_r.set_ 7 (.int .i64 0)
    generalize w6_7'.setCell ⟨w.heap.size + 1, 7, none⟩ (.int .i64 0) = w6_8' at *
    replace G := G.trans g_8
    clear g_8
    have g_9 : Only [w.heap.size + 1] w6_8' (w6_8'.setCell ⟨w.heap.size + 1, 8, none⟩ (.slice none 0 0)) := (Only.refl _ _).setCell _ _ (by simp)
    replace B_r := B_r.set_ 8 (.slice none 0 0)
    generalize w6_8'.setCell ⟨w.heap.size + 1, 8, none⟩ (.slice none 0 0) = w6_9' at *
    replace G := G.trans g_9
    clear g_9
    have g_10 : Only [w.heap.size + 1] w6_9' (w6_9'.setCell ⟨w.heap.size + 1, 9, none⟩ (.int .i64 0)) := (Only.refl _ _).setCell _ _ (by simp)
    replace B_r := B_r.set_ 9 (.int .i64 0)
    generalize w6_9'.setCell ⟨w.heap.size + 1, 9, none⟩ (.int .i64 0) = w6_10' at *
    replace G := G.trans g_10
    clear g_10
    have g_11 : Only [w.heap.size + 1] w6_10' (w6_10'.setCell ⟨w.heap.size + 1, 10, none⟩ (.int .i64 0)) := (Only.refl _ _).setCell _ _ (by simp)
    replace B_r := B_r.set_ 10 (.int .i64 0)
    generalize w6_10'.setCell ⟨w.heap.size + 1, 10, none⟩ (.int .i64 0) = w6' at *
    replace G := G.trans g_11
    clear g_11
    simp only [List.setIfInBounds_toArray, List.set_cons_zero, List.set_cons_succ] at B_r
    have V_w6' : Below w.heap.size w w6' := (V_w2').trans (G.below (V_w2').size (fun q hq => by have := (V_w2').size; simp at hq; omega))
    replace B_a := B_a.only G (by first | (simp; done) | (simp; omega))
    have sG0 := G.size
    clear G
    clear V_w2'
    have S_w6' : w2'.heap.size + 0 ≤ w6'.heap.size := by omega
    clear sG0
    have e_r_0 : w6'.cell? ⟨w.heap.size + 1, 0, none⟩ = some (.int .i64 0) := B_r.cell 0
    have e_r_1 : w6'.cell? ⟨w.heap.size + 1, 1, none⟩ = some (.int .i64 0) := B_r.cell 1
    have e_r_2 : w6'.cell? ⟨w.heap.size + 1, 2, none⟩ = some (.int .i64 0) := B_r.cell 2
    have e_r_3 : w6'.cell? ⟨w.heap.size + 1, 3, none⟩ = some (.int .i64 0) := B_r.cell 3
    have e_r_4 : w6'.cell? ⟨w.heap.size + 1, 4, none⟩ = some (.int .i64 0) := B_r.cell 4
    have e_r_5 : w6'.cell? ⟨w.heap.size + 1, 5, none⟩ = some (.slice none 0 0) := B_r.cell 5
    have e_r_6 : w6'.cell? ⟨w.heap.size + 1, 6, none⟩ = some (.slice none 0 0) := B_r.cell 6
    have e_r_7 : w6'.cell? ⟨w.heap.size + 1, 7, none⟩ = some (.int .i64 0) := B_r.cell 7
    have e_r_8 : w6'.cell? ⟨w.heap.size + 1, 8, none⟩ = some (.slice none 0 0) := B_r.cell 8
    have e_r_9 : w6'.cell? ⟨w.heap.size + 1, 9, none⟩ = some (.int .i64 0) := B_r.cell 9
    have e_r_10 : w6'.cell? ⟨w.heap.size + 1, 10, none⟩ = some (.int .i64 0) := B_r.cell 10
    exact bodyPost_ret (v := .tuple #[.agg #[.int .i64 0, .int .i64 0, .int .i64 0, .int .i64 0, .int .i64 0, .slice none 0 0, .slice none 0 0, .int .i64 0, .slice none 0 0, .int .i64 0, .int .i64 0], .bool false]) (by simp [results, Tryd.results44, go_sem, e_r_0, e_r_1, e_r_2, e_r_3, e_r_4, e_r_5, e_r_6, e_r_7, e_r_8, e_r_9, e_r_10]) rfl (by first | exact ⟨zeroX, [], rfl, PlO.nil _ _, V_w6'⟩ | exact ⟨zeroX, rfl, ⟨[], PlO.nil _ _⟩, V_w6'⟩)
  have h6 : ¬ (6 : Int) < (n : Int) := by have := HB3.out; simp at this; omega
  have h6' : decide ((6 : Int) < (n : Int)) = false := by simpa using h6
  have h6n : (n : Int) ≤ 6 := by omega
  have RN0 := RN.out (by first | rfl | trivial) h2.out
  have e_a_0 : w2'.cell? ⟨w.heap.size, 0, none⟩ = some (.int .i64 a.P) := B_a.cell 0
  have e_a_1 : w2'.cell? ⟨w.heap.size, 1, none⟩ = some (.int .i64 a.party) := B_a.cell 1
  have e_a_2 : w2'.cell? ⟨w.heap.size, 2, none⟩ = some (.int .i64 a.input) := B_a.cell 2
  have e_a_3 : w2'.cell? ⟨w.heap.size, 3, none⟩ = some (.int .i64 a.mask) := B_a.cell 3
  have e_a_4 : w2'.cell? ⟨w.heap.size, 4, none⟩ = some (.int .i64 a.delta) := B_a.cell 4
  have e_a_5 : w2'.cell? ⟨w.heap.size, 5, none⟩ = some (.slice x.sa x.sn x.sc) := B_a.cell 5
  have e_a_6 : w2'.cell? ⟨w.heap.size, 6, none⟩ = some (.slice x.ka x.kn x.kc) := B_a.cell 6
  have e_a_7 : w2'.cell? ⟨w.heap.size, 7, none⟩ = some (.int .i64 a.step) := B_a.cell 7
  have e_a_8 : w2'.cell? ⟨w.heap.size, 8, none⟩ = some (.slice x.ha x.hn x.hc) := B_a.cell 8
  have e_a_9 : w2'.cell? ⟨w.heap.size, 9, none⟩ = some (.int .i64 a.status) := B_a.cell 9
  have e_a_10 : w2'.cell? ⟨w.heap.size, 10, none⟩ = some (.int .i64 a.out) := B_a.cell 10
  go_wp2_with fail
  clear e_a_0 e_a_1 e_a_2 e_a_3 e_a_4 e_a_5 e_a_6 e_a_7 e_a_8 e_a_9 e_a_10
  refine (CP.out (by first | rfl | trivial) _ (LH.out.below V_w2')).mono ?_
  rintro e w7' ⟨y, F, rfl, o, u_w7'⟩
  replace B_a := B_a.below u_w7'
  replace B_r := B_r.below u_w7'
  have S_w7' := u_w7'.size
  have V_w7' : Below w.heap.size w w7' := V_w2'.trans (u_w7'.mono V_w2'.size)
  clear V_w2'
  clear u_w7'
  replace o := o.lower (b' := w.heap.size + 2) (by omega)
  have Q_o := Lib.hid o.feet
  go_upto_region 4 with fail
  have V_w8'_1 : Below w.heap.size w (w7'.alloc (.cells #[.int .i64 a.P, .int .i64 a.party, .int .i64 a.input, .int .i64 a.mask, .int .i64 a.delta, .slice y.sa y.sn y.sc, .slice y.ka y.kn y.kc, .int .i64 a.step, .slice y.ha y.hn y.hc, .int .i64 a.status, .int .i64 a.out] 31)) := (V_w7').alloc (by have := (V_w7').size; first | exact this | (simp at *; omega)) _
  replace B_a := B_a.alloc (.cells #[.int .i64 a.P, .int .i64 a.party, .int .i64 a.input, .int .i64 a.mask, .int .i64 a.delta, .slice y.sa y.sn y.sc, .slice y.ka y.kn y.kc, .int .i64 a.step, .slice y.ha y.hn y.hc, .int .i64 a.status, .int .i64 a.out] 31)
  replace B_r := B_r.alloc (.cells #[.int .i64 a.P, .int .i64 a.party, .int .i64 a.input, .int .i64 a.mask, .int .i64 a.delta, .slice y.sa y.sn y.sc, .slice y.ka y.kn y.kc, .int .i64 a.step, .slice y.ha y.hn y.hc, .int .i64 a.status, .int .i64 a.out] 31)
  replace o := o.alloc (.cells #[.int .i64 a.P, .int .i64 a.party, .int .i64 a.input, .int .i64 a.mask, .int .i64 a.delta, .slice y.sa y.sn y.sc, .slice y.ka y.kn y.kc, .int .i64 a.step, .slice y.ha y.hn y.hc, .int .i64 a.status, .int .i64 a.out] 31)
  have B_b : Blk (w7'.alloc (.cells #[.int .i64 a.P, .int .i64 a.party, .int .i64 a.input, .int .i64 a.mask, .int .i64 a.delta, .slice y.sa y.sn y.sc, .slice y.ka y.kn y.kc, .int .i64 a.step, .slice y.ha y.hn y.hc, .int .i64 a.status, .int .i64 a.out] 31)) (w7'.heap.size) 31 #[.int .i64 a.P, .int .i64 a.party, .int .i64 a.input, .int .i64 a.mask, .int .i64 a.delta, .slice y.sa y.sn y.sc, .slice y.ka y.kn y.kc, .int .i64 a.step, .slice y.ha y.hn y.hc, .int .i64 a.status, .int .i64 a.out] := by exact Blk.new w7' 31 #[.int .i64 a.P, .int .i64 a.party, .int .i64 a.input, .int .i64 a.mask, .int .i64 a.delta, .slice y.sa y.sn y.sc, .slice y.ka y.kn y.kc, .int .i64 a.step, .slice y.ha y.hn y.hc, .int .i64 a.status, .int .i64 a.out]
  have S_w8' : w7'.heap.size + 1 ≤ (w7'.alloc (.cells #[.int .i64 a.P, .int .i64 a.party, .int .i64 a.input, .int .i64 a.mask, .int .i64 a.delta, .slice y.sa y.sn y.sc, .slice y.ka y.kn y.kc, .int .i64 a.step, .slice y.ha y.hn y.hc, .int .i64 a.status, .int .i64 a.out] 31)).heap.size := by first | (simp; done) | (simp; omega) | (simp [World.setCell]; done) | (simp [World.setCell]; omega)
  generalize (w7'.alloc (.cells #[.int .i64 a.P, .int .i64 a.party, .int .i64 a.input, .int .i64 a.mask, .int .i64 a.delta, .slice y.sa y.sn y.sc, .slice y.ka y.kn y.kc, .int .i64 a.step, .slice y.ha y.hn y.hc, .int .i64 a.status, .int .i64 a.out] 31)) = w8' at *
  have V_w8' : Below w.heap.size w w8' := V_w8'_1
  clear V_w7'
  clear V_w8'_1
  have Q0 : ∀ q ∈ F, q ≠ (w7'.heap.size) := fun q hq => by have := Q_o.out q hq; omega
  have bb : w.heap.size + 2 ≤ (w7'.heap.size) := by omega
  have bl : (w7'.heap.size) < w8'.heap.size := by omega
  have LV := Lib.hid V_w8'
  generalize hbx : (w7'.heap.size) = bx at *
  clear hbx
  go_wp2
  go_loopw [32] (fun v wr => ∃ k : Nat, k ≤ n ∧ v = .int .i64 k ∧ Below w.heap.size w wr ∧ Blk wr w.heap.size 31 #[.int .i64 a.P, .int .i64 a.party, .int .i64 a.input, .int .i64 a.mask, .int .i64 a.delta, .slice x.sa x.sn x.sc, .slice x.ka x.kn x.kc, .int .i64 a.step, .slice x.ha x.hn x.hc, .int .i64 a.status, .int .i64 a.out] ∧ Blk wr (w.heap.size + 1) 31 #[.int .i64 0, .int .i64 0, .int .i64 0, .int .i64 0, .int .i64 0, .slice none 0 0, .slice none 0 0, .int .i64 0, .slice none 0 0, .int .i64 0, .int .i64 0] ∧ bx < wr.heap.size ∧ ∃ t y F, RunN t ∧ t = rpP a (D.take k) ∧ Blk wr bx 31 #[.int .i64 t.P, .int .i64 t.party, .int .i64 t.input, .int .i64 t.mask, .int .i64 t.delta, .slice y.sa y.sn y.sc, .slice y.ka y.kn y.kc, .int .i64 t.step, .slice y.ha y.hn y.hc, .int .i64 t.status, .int .i64 t.out] ∧ PlO wr (w.heap.size + 2) y t.shares t.keys t.heard F ∧ ∀ q ∈ F, q ≠ bx) (fun v _ => n - (intOf v).toNat)
  case atStart => exact ⟨0, by omega, rfl, LV.out, B_a, B_r, bl, a, y, F, RN0, rfl, B_b, o, Q0⟩
  case round =>
    obtain ⟨k, hk, rfl, V_wr, B_a, B_r, hbx, t, y, F, hRN, ht, B_b, o, hQ⟩ := hrel
    have Q_o := Lib.hid (fun q (hq : q ∈ F) => (show (w.heap.size + 2 ≤ q ∧ q < wr.heap.size) ∧ q ≠ bx from ⟨o.feet q hq, hQ q hq⟩))
    clear hQ
    have HRN := Lib.hid hRN
    have HT := Lib.hid ht
    clear hRN ht
    by_cases hlt : k < n
    · obtain ⟨g, o', rfl, c0, c1, c2, _⟩ := (LS.out.below V_wr).at k hlt
      have inn := LS.out.inn _ (msAt_mem (rs := rs) (j := k) (by rw [hrl.out]; exact hlt))
      have hlt' : (k : Int) < (n : Int) := by omega
      have HM : Hid (mdAt D k = msD (msAt rs k)) := Lib.hid (by rw [← hD.out]; exact mdAt_map (by rw [hrl.out]; exact hlt))
      have HK : Hid (rpP a (D.take (k + 1)) = rpS t (mdAt D k)) := Lib.hid (by rw [HT.out]; exact rpP_take a D k (by rw [HL.out]; exact hlt))
      generalize msAt rs k = r at *
      obtain ⟨fr, st, ra, rc, rl⟩ := r
      dsimp only at *
      have HRS := Lib.hid (HRN.out.step (fr, st, rl))
      have HE : Hid (rpP a (D.take (k + 1)) = rpS t (fr, st, rl)) := Lib.hid (by rw [HK.out, HM.out]; rfl)
      go_upto_region 7 with fail
      have V_w9'_1 : Below w.heap.size w (wr.alloc (.cells #[.int .i64 fr, .int .i64 st, .slice ra rl.length rc] 44)) := (V_wr).alloc (by have := (V_wr).size; first | exact this | (simp at *; omega)) _
      replace B_a := B_a.alloc (.cells #[.int .i64 fr, .int .i64 st, .slice ra rl.length rc] 44)
      replace B_r := B_r.alloc (.cells #[.int .i64 fr, .int .i64 st, .slice ra rl.length rc] 44)
      replace B_b := B_b.alloc (.cells #[.int .i64 fr, .int .i64 st, .slice ra rl.length rc] 44)
      replace o := o.alloc (.cells #[.int .i64 fr, .int .i64 st, .slice ra rl.length rc] 44)
      have B_m : Blk (wr.alloc (.cells #[.int .i64 fr, .int .i64 st, .slice ra rl.length rc] 44)) (wr.heap.size) 44 #[.int .i64 fr, .int .i64 st, .slice ra rl.length rc] := by exact Blk.new wr 44 #[.int .i64 fr, .int .i64 st, .slice ra rl.length rc]
      have S_w9' : wr.heap.size + 1 ≤ (wr.alloc (.cells #[.int .i64 fr, .int .i64 st, .slice ra rl.length rc] 44)).heap.size := by first | (simp; done) | (simp; omega) | (simp [World.setCell]; done) | (simp [World.setCell]; omega)
      generalize (wr.alloc (.cells #[.int .i64 fr, .int .i64 st, .slice ra rl.length rc] 44)) = w9' at *
      have V_w9' : Below w.heap.size w w9' := V_w9'_1
      clear V_wr
      clear V_w9'_1
      clear c0 c1 c2
      by_cases hst : t.status = 0
      · have d9 : ((t.status == 0) : Bool) = true := by simpa using hst
        have hs2 := HRN.out.r hst
        have HS : Hid (rpS t (fr, st, rl) = takeP t fr st rl) := Lib.hid (by unfold rpS; rw [if_pos hst])
        replace hst := Lib.hid hst
        have e_b_0 : w9'.cell? ⟨bx, 0, none⟩ = some (.int .i64 t.P) := B_b.cell 0
        have e_b_1 : w9'.cell? ⟨bx, 1, none⟩ = some (.int .i64 t.party) := B_b.cell 1
        have e_b_2 : w9'.cell? ⟨bx, 2, none⟩ = some (.int .i64 t.input) := B_b.cell 2
        have e_b_3 : w9'.cell? ⟨bx, 3, none⟩ = some (.int .i64 t.mask) := B_b.cell 3
        have e_b_4 : w9'.cell? ⟨bx, 4, none⟩ = some (.int .i64 t.delta) := B_b.cell 4
        have e_b_5 : w9'.cell? ⟨bx, 5, none⟩ = some (.slice y.sa y.sn y.sc) := B_b.cell 5
        have e_b_6 : w9'.cell? ⟨bx, 6, none⟩ = some (.slice y.ka y.kn y.kc) := B_b.cell 6
        have e_b_7 : w9'.cell? ⟨bx, 7, none⟩ = some (.int .i64 t.step) := B_b.cell 7
        have e_b_8 : w9'.cell? ⟨bx, 8, none⟩ = some (.slice y.ha y.hn y.hc) := B_b.cell 8
        have e_b_9 : w9'.cell? ⟨bx, 9, none⟩ = some (.int .i64 t.status) := B_b.cell 9
        have e_b_10 : w9'.cell? ⟨bx, 10, none⟩ = some (.int .i64 t.out) := B_b.cell 10
        have e_m_0 : w9'.cell? ⟨wr.heap.size, 0, none⟩ = some (.int .i64 fr) := B_m.cell 0
        have e_m_1 : w9'.cell? ⟨wr.heap.size, 1, none⟩ = some (.int .i64 st) := B_m.cell 1
        have e_m_2 : w9'.cell? ⟨wr.heap.size, 2, none⟩ = some (.slice ra rl.length rc) := B_m.cell 2
        go_wp2_with fail
        clear e_b_0 e_b_1 e_b_2 e_b_3 e_b_4 e_b_5 e_b_6 e_b_7 e_b_8 e_b_9 e_b_10 e_m_0 e_m_1 e_m_2
        have hfl := V_w9'.size
        refine (take_any t y fr st ra _ rc rl _ o.rd (inn.below V_w9') (LX.out.below V_w9') HRN.out.n hs2).mono ?_
        rintro e w10' ⟨y2, F2, rfl, o2, u_w10'⟩
        replace B_a := B_a.below u_w10'
        replace B_r := B_r.below u_w10'
        replace B_b := B_b.below u_w10'
        replace B_m := B_m.below u_w10'
        replace o := o.below u_w10'
        have S_w10' := u_w10'.size
        have V_w10' : Below w.heap.size w w10' := V_w9'.trans (u_w10'.mono V_w9'.size)
        clear V_w9'
        clear u_w10'
        have Q_o2 := Lib.hid (fun q (hq : q ∈ F2) => (show (w.heap.size + 2 ≤ q ∧ q < w10'.heap.size) ∧ q ≠ bx from by have := o2.feet q hq; exact ⟨⟨by omega, this.2⟩, by omega⟩))
        replace o2 := o2.lower (b' := w.heap.size + 2) (by omega)
        clear o
        generalize takeP t fr st rl = t2 at *
        have e_b_0 : w10'.cell? ⟨bx, 0, none⟩ = some (.int .i64 t.P) := B_b.cell 0
        have f_b_0 : w10'.frozen? ⟨bx, 0, none⟩ = false := B_b.frozen 0
        have e_b_1 : w10'.cell? ⟨bx, 1, none⟩ = some (.int .i64 t.party) := B_b.cell 1
        have f_b_1 : w10'.frozen? ⟨bx, 1, none⟩ = false := B_b.frozen 1
        have e_b_2 : w10'.cell? ⟨bx, 2, none⟩ = some (.int .i64 t.input) := B_b.cell 2
        have f_b_2 : w10'.frozen? ⟨bx, 2, none⟩ = false := B_b.frozen 2
        have e_b_3 : w10'.cell? ⟨bx, 3, none⟩ = some (.int .i64 t.mask) := B_b.cell 3
        have f_b_3 : w10'.frozen? ⟨bx, 3, none⟩ = false := B_b.frozen 3
        have e_b_4 : w10'.cell? ⟨bx, 4, none⟩ = some (.int .i64 t.delta) := B_b.cell 4
        have f_b_4 : w10'.frozen? ⟨bx, 4, none⟩ = false := B_b.frozen 4
        have e_b_5 : w10'.cell? ⟨bx, 5, none⟩ = some (.slice y.sa y.sn y.sc) := B_b.cell 5
        have f_b_5 : w10'.frozen? ⟨bx, 5, none⟩ = false := B_b.frozen 5
        have e_b_6 : w10'.cell? ⟨bx, 6, none⟩ = some (.slice y.ka y.kn y.kc) := B_b.cell 6
        have f_b_6 : w10'.frozen? ⟨bx, 6, none⟩ = false := B_b.frozen 6
        have e_b_7 : w10'.cell? ⟨bx, 7, none⟩ = some (.int .i64 t.step) := B_b.cell 7
        have f_b_7 : w10'.frozen? ⟨bx, 7, none⟩ = false := B_b.frozen 7
        have e_b_8 : w10'.cell? ⟨bx, 8, none⟩ = some (.slice y.ha y.hn y.hc) := B_b.cell 8
        have f_b_8 : w10'.frozen? ⟨bx, 8, none⟩ = false := B_b.frozen 8
        have e_b_9 : w10'.cell? ⟨bx, 9, none⟩ = some (.int .i64 t.status) := B_b.cell 9
        have f_b_9 : w10'.frozen? ⟨bx, 9, none⟩ = false := B_b.frozen 9
        have e_b_10 : w10'.cell? ⟨bx, 10, none⟩ = some (.int .i64 t.out) := B_b.cell 10
        have f_b_10 : w10'.frozen? ⟨bx, 10, none⟩ = false := B_b.frozen 10
        go_wp2
        clear e_b_0 f_b_0 e_b_1 f_b_1 e_b_2 f_b_2 e_b_3 f_b_3 e_b_4 f_b_4 e_b_5 f_b_5 e_b_6 f_b_6 e_b_7 f_b_7 e_b_8 f_b_8 e_b_9 f_b_9 e_b_10 f_b_10
        have g_1 : Only [bx] w10' (w10'.setCell ⟨bx, 0, none⟩ (.int .i64 t2.P)) := (Only.refl _ _).setCell _ _ (by simp)
        replace B_b := B_b.set_ 0 (.int .i64 t2.P)
        generalize w10'.setCell ⟨bx, 0, none⟩ (.int .i64 t2.P) = w11_1' at *
        have G := g_1
        clear g_1
        have g_2 : Only [bx] w11_1' (w11_1'.setCell ⟨bx, 1, none⟩ (.int .i64 t2.party)) := (Only.refl _ _).setCell _ _ (by simp)
        replace B_b := B_b.set_ 1 (.int .i64 t2.party)
        generalize w11_1'.setCell ⟨bx, 1, none⟩ (.int .i64 t2.party) = w11_2' at *
        replace G := G.trans g_2
        clear g_2
        have g_3 : Only [bx] w11_2' (w11_2'.setCell ⟨bx, 2, none⟩ (.int .i64 t2.input)) := (Only.refl _ _).setCell _ _ (by simp)
        replace B_b := B_b.set_ 2 (.int .i64 t2.input)
        generalize w11_2'.setCell ⟨bx, 2, none⟩ (.int .i64 t2.input) = w11_3' at *
        replace G := G.trans g_3
        clear g_3
        have g_4 : Only [bx] w11_3' (w11_3'.setCell ⟨bx, 3, none⟩ (.int .i64 t2.mask)) := (Only.refl _ _).setCell _ _ (by simp)
        replace B_b := B_b.set_ 3 (.int .i64 t2.mask)
        generalize w11_3'.setCell ⟨bx, 3, none⟩ (.int .i64 t2.mask) = w11_4' at *
        replace G := G.trans g_4
        clear g_4
        have g_5 : Only [bx] w11_4' (w11_4'.setCell ⟨bx, 4, none⟩ (.int .i64 t2.delta)) := (Only.refl _ _).setCell _ _ (by simp)
        replace B_b := B_b.set_ 4 (.int .i64 t2.delta)
        generalize w11_4'.setCell ⟨bx, 4, none⟩ (.int .i64 t2.delta) = w11_5' at *
        replace G := G.trans g_5
        clear g_5
        have g_6 : Only [bx] w11_5' (w11_5'.setCell ⟨bx, 5, none⟩ (.slice y2.sa y2.sn y2.sc)) := (Only.refl _ _).setCell _ _ (by simp)
        replace B_b := B_b.set_ 5 (.slice y2.sa y2.sn y2.sc)
        generalize w11_5'.setCell ⟨bx, 5, none⟩ (.slice y2.sa y2.sn y2.sc) = w11_6' at *
        replace G := G.trans g_6
        clear g_6
        have g_7 : Only [bx] w11_6' (w11_6'.setCell ⟨bx, 6, none⟩ (.slice y2.ka y2.kn y2.kc)) := (Only.refl _ _).setCell _ _ (by simp)
        replace B_b := B_b.set_ 6 (.slice y2.ka y2.kn y2.kc)
        generalize w11_6'.setCell ⟨bx, 6, none⟩ (.slice y2.ka y2.kn y2.kc) = w11_7' at *
        replace G := G.trans g_7
        clear g_7
        have g_8 : Only [bx] w11_7' (w11_7'.setCell ⟨bx, 7, none⟩ (.int .i64 t2.step)) := (Only.refl _ _).setCell _ _ (by simp)
        replace B_b := B_b.set_ 7 (.int .i64 t2.step)
        generalize w11_7'.setCell ⟨bx, 7, none⟩ (.int .i64 t2.step) = w11_8' at *
        replace G := G.trans g_8
        clear g_8
        have g_9 : Only [bx] w11_8' (w11_8'.setCell ⟨bx, 8, none⟩ (.slice y2.ha y2.hn y2.hc)) := (Only.refl _ _).setCell _ _ (by simp)
        replace B_b := B_b.set_ 8 (.slice y2.ha y2.hn y2.hc)
        generalize w11_8'.setCell ⟨bx, 8, none⟩ (.slice y2.ha y2.hn y2.hc) = w11_9' at *
        replace G := G.trans g_9
        clear g_9
        have g_10 : Only [bx] w11_9' (w11_9'.setCell ⟨bx, 9, none⟩ (.int .i64 t2.status)) := (Only.refl _ _).setCell _ _ (by simp)
        replace B_b := B_b.set_ 9 (.int .i64 t2.status)
        generalize w11_9'.setCell ⟨bx, 9, none⟩ (.int .i64 t2.status) = w11_10' at *
        replace G := G.trans g_10
        clear g_10
        have g_11 : Only [bx] w11_10' (w11_10'.setCell ⟨bx, 10, none⟩ (.int .i64 t2.out)) := (Only.refl _ _).setCell _ _ (by simp)
        replace B_b := B_b.set_ 10 (.int .i64 t2.out)
        generalize w11_10'.setCell ⟨bx, 10, none⟩ (.int .i64 t2.out) = w11' at *
        replace G := G.trans g_11
        clear g_11
        simp only [List.setIfInBounds_toArray, List.set_cons_zero, List.set_cons_succ] at B_b
        have V_w11' : Below w.heap.size w w11' := (V_w10').trans (G.below (V_w10').size (fun q hq => by have := (V_w10').size; simp at hq; omega))
        replace B_a := B_a.only G (by first | (simp; done) | (simp; omega))
        replace B_r := B_r.only G (by first | (simp; done) | (simp; omega))
        replace B_m := B_m.only G (by first | (simp; done) | (simp; omega))
        replace o2 := o2.only G (fun q hq hq' => by have := Q_o2.out q hq; simp at hq'; omega)
        have sG0 := G.size
        clear G
        clear V_w10'
        have S_w11' : w10'.heap.size + 0 ≤ w11'.heap.size := by omega
        clear sG0
        have RN2 : RunN t2 := by have := HRS.out; rw [HS.out] at this; exact this
        have HT2 : t2 = rpP a (D.take (k + 1)) := by rw [HE.out, HS.out]
        replace RN2 := Lib.hid RN2
        replace HT2 := Lib.hid HT2
        go_wp2
        go_roundw
        case rel => exact ⟨k + 1, by omega, by go_num, V_w11', B_a, B_r, by omega, t2, y2, F2, RN2.out, HT2.out, B_b, o2, fun q hq => (Q_o2.out q hq).2⟩
        case measure => simp [intOf]; omega
      · have d9 : ((t.status == 0) : Bool) = false := by simpa using hst
        have HS : Hid (rpS t (fr, st, rl) = t) := Lib.hid (by unfold rpS; rw [if_neg hst])
        replace hst := Lib.hid hst
        have e_b_9 : w9'.cell? ⟨bx, 9, none⟩ = some (.int .i64 t.status) := B_b.cell 9
        go_wp2
        clear e_b_9
        go_roundw
        case rel => exact ⟨k + 1, by omega, by go_num, V_w9', B_a, B_r, by omega, t, y, F, HRN.out, by rw [HE.out, HS.out], B_b, o, fun q hq => (Q_o.out q hq).2⟩
        case measure => simp [intOf]; omega
    · obtain rfl : n = k := by omega
      have HTE : Hid (t = rpP a D) := Lib.hid (by have := HT.out; rw [← HL.out, List.take_length] at this; exact this)
      have e_b_0 : wr.cell? ⟨bx, 0, none⟩ = some (.int .i64 t.P) := B_b.cell 0
      have e_b_1 : wr.cell? ⟨bx, 1, none⟩ = some (.int .i64 t.party) := B_b.cell 1
      have e_b_2 : wr.cell? ⟨bx, 2, none⟩ = some (.int .i64 t.input) := B_b.cell 2
      have e_b_3 : wr.cell? ⟨bx, 3, none⟩ = some (.int .i64 t.mask) := B_b.cell 3
      have e_b_4 : wr.cell? ⟨bx, 4, none⟩ = some (.int .i64 t.delta) := B_b.cell 4
      have e_b_5 : wr.cell? ⟨bx, 5, none⟩ = some (.slice y.sa y.sn y.sc) := B_b.cell 5
      have e_b_6 : wr.cell? ⟨bx, 6, none⟩ = some (.slice y.ka y.kn y.kc) := B_b.cell 6
      have e_b_7 : wr.cell? ⟨bx, 7, none⟩ = some (.int .i64 t.step) := B_b.cell 7
      have e_b_8 : wr.cell? ⟨bx, 8, none⟩ = some (.slice y.ha y.hn y.hc) := B_b.cell 8
      have e_b_9 : wr.cell? ⟨bx, 9, none⟩ = some (.int .i64 t.status) := B_b.cell 9
      have e_b_10 : wr.cell? ⟨bx, 10, none⟩ = some (.int .i64 t.out) := B_b.cell 10
      have e_r_0 : wr.cell? ⟨w.heap.size + 1, 0, none⟩ = some (.int .i64 0) := B_r.cell 0
      have f_r_0 : wr.frozen? ⟨w.heap.size + 1, 0, none⟩ = false := B_r.frozen 0
      have e_r_1 : wr.cell? ⟨w.heap.size + 1, 1, none⟩ = some (.int .i64 0) := B_r.cell 1
      have f_r_1 : wr.frozen? ⟨w.heap.size + 1, 1, none⟩ = false := B_r.frozen 1
      have e_r_2 : wr.cell? ⟨w.heap.size + 1, 2, none⟩ = some (.int .i64 0) := B_r.cell 2
      have f_r_2 : wr.frozen? ⟨w.heap.size + 1, 2, none⟩ = false := B_r.frozen 2
      have e_r_3 : wr.cell? ⟨w.heap.size + 1, 3, none⟩ = some (.int .i64 0) := B_r.cell 3
      have f_r_3 : wr.frozen? ⟨w.heap.size + 1, 3, none⟩ = false := B_r.frozen 3
      have e_r_4 : wr.cell? ⟨w.heap.size + 1, 4, none⟩ = some (.int .i64 0) := B_r.cell 4
      have f_r_4 : wr.frozen? ⟨w.heap.size + 1, 4, none⟩ = false := B_r.frozen 4
      have e_r_5 : wr.cell? ⟨w.heap.size + 1, 5, none⟩ = some (.slice none 0 0) := B_r.cell 5
      have f_r_5 : wr.frozen? ⟨w.heap.size + 1, 5, none⟩ = false := B_r.frozen 5
      have e_r_6 : wr.cell? ⟨w.heap.size + 1, 6, none⟩ = some (.slice none 0 0) := B_r.cell 6
      have f_r_6 : wr.frozen? ⟨w.heap.size + 1, 6, none⟩ = false := B_r.frozen 6
      have e_r_7 : wr.cell? ⟨w.heap.size + 1, 7, none⟩ = some (.int .i64 0) := B_r.cell 7
      have f_r_7 : wr.frozen? ⟨w.heap.size + 1, 7, none⟩ = false := B_r.frozen 7
      have e_r_8 : wr.cell? ⟨w.heap.size + 1, 8, none⟩ = some (.slice none 0 0) := B_r.cell 8
      have f_r_8 : wr.frozen? ⟨w.heap.size + 1, 8, none⟩ = false := B_r.frozen 8
      have e_r_9 : wr.cell? ⟨w.heap.size + 1, 9, none⟩ = some (.int .i64 0) := B_r.cell 9
      have f_r_9 : wr.frozen? ⟨w.heap.size + 1, 9, none⟩ = false := B_r.frozen 9
      have e_r_10 : wr.cell? ⟨w.heap.size + 1, 10, none⟩ = some (.int .i64 0) := B_r.cell 10
      have f_r_10 : wr.frozen? ⟨w.heap.size + 1, 10, none⟩ = false := B_r.frozen 10
      go_wp2
      clear e_b_0 e_b_1 e_b_2 e_b_3 e_b_4 e_b_5 e_b_6 e_b_7 e_b_8 e_b_9 e_b_10 e_r_0 f_r_0 e_r_1 f_r_1 e_r_2 f_r_2 e_r_3 f_r_3 e_r_4 f_r_4 e_r_5 f_r_5 e_r_6 f_r_6 e_r_7 f_r_7 e_r_8 f_r_8 e_r_9 f_r_9 e_r_10 f_r_10
      have g_1 : Only [w.heap.size + 1] wr (wr.setCell ⟨w.heap.size + 1, 0, none⟩ (.int .i64 t.P)) := (Only.refl _ _).setCell _ _ (by simp)
      replace B_r := B_r.set_ 0 (.int .i64 t.P)
      generalize wr.setCell ⟨w.heap.size + 1, 0, none⟩ (.int .i64 t.P) = w12_1' at *
      have G := g_1
      clear g_1
      have g_2 : Only [w.heap.size + 1] w12_1' (w12_1'.setCell ⟨w.heap.size + 1, 1, none⟩ (.int .i64 t.party)) := (Only.refl _ _).setCell _ _ (by simp)
      replace B_r := B_r.set_ 1 (.int .i64 t.party)
      generalize w12_1'.setCell ⟨w.heap.size + 1, 1, none⟩ (.int .i64 t.party) = w12_2' at *
      replace G := G.trans g_2
      clear g_2
      have g_3 : Only [w.heap.size + 1] w12_2' (w12_2'.setCell ⟨w.heap.size + 1, 2, none⟩ (.int .i64 t.input)) := (Only.refl _ _).setCell _ _ (by simp)
      replace B_r := B_r.set_ 2 (.int .i64 t.input)
      generalize w12_2'.setCell ⟨w.heap.size + 1, 2, none⟩ (.int .i64 t.input) = w12_3' at *
      replace G := G.trans g_3
      clear g_3
      have g_4 : Only [w.heap.size + 1] w12_3' (w12_3'.setCell ⟨w.heap.size + 1, 3, none⟩ (.int .i64 t.mask)) := (Only.refl _ _).setCell _ _ (by simp)
      replace B_r := B_r.set_ 3 (.int .i64 t.mask)
      generalize w12_3'.setCell ⟨w.heap.size + 1, 3, none⟩ (.int .i64 t.mask) = w12_4' at *
      replace G := G.trans g_4
      clear g_4
      have g_5 : Only [w.heap.size + 1] w12_4' (w12_4'.setCell ⟨w.heap.size + 1, 4, none⟩ (.int .i64 t.delta)) := (Only.refl _ _).setCell _ _ (by simp)
      replace B_r := B_r.set_ 4 (.int .i64 t.delta)
      generalize w12_4'.setCell ⟨w.heap.size + 1, 4, none⟩ (.int .i64 t.delta) = w12_5' at *
      replace G := G.trans g_5
      clear g_5
      have g_6 : Only [w.heap.size + 1] w12_5' (w12_5'.setCell ⟨w.heap.size + 1, 5, none⟩ (.slice y.sa y.sn y.sc)) := (Only.refl _ _).setCell _ _ (by simp)
      replace B_r := B_r.set_ 5 (.slice y.sa y.sn y.sc)
      generalize w12_5'.setCell ⟨w.heap.size + 1, 5, none⟩ (.slice y.sa y.sn y.sc) = w12_6' at *
      replace G := G.trans g_6
      clear g_6
      have g_7 : Only [w.heap.size + 1] w12_6' (w12_6'.setCell ⟨w.heap.size + 1, 6, none⟩ (.slice y.ka y.kn y.kc)) := (Only.refl _ _).setCell _ _ (by simp)
      replace B_r := B_r.set_ 6 (.slice y.ka y.kn y.kc)
      generalize w12_6'.setCell ⟨w.heap.size + 1, 6, none⟩ (.slice y.ka y.kn y.kc) = w12_7' at *
      replace G := G.trans g_7
      clear g_7
      have g_8 : Only [w.heap.size + 1] w12_7' (w12_7'.setCell ⟨w.heap.size + 1, 7, none⟩ (.int .i64 t.step)) := (Only.refl _ _).setCell _ _ (by simp)
      replace B_r := B_r.set_ 7 (.int .i64 t.step)
      generalize w12_7'.setCell ⟨w.heap.size + 1, 7, none⟩ (.int .i64 t.step) = w12_8' at *
      replace G := G.trans g_8
      clear g_8
      have g_9 : Only [w.heap.size + 1] w12_8' (w12_8'.setCell ⟨w.heap.size + 1, 8, none⟩ (.slice y.ha y.hn y.hc)) := (Only.refl _ _).setCell _ _ (by simp)
      replace B_r := B_r.set_ 8 (.slice y.ha y.hn y.hc)
      generalize w12_8'.setCell ⟨w.heap.size + 1, 8, none⟩ (.slice y.ha y.hn y.hc) = w12_9' at *
      replace G := G.trans g_9
      clear g_9
      have g_10 : Only [w.heap.size + 1] w12_9' (w12_9'.setCell ⟨w.heap.size + 1, 9, none⟩ (.int .i64 t.status)) := (Only.refl _ _).setCell _ _ (by simp)
      replace B_r := B_r.set_ 9 (.int .i64 t.status)
      generalize w12_9'.setCell ⟨w.heap.size + 1, 9, none⟩ (.int .i64 t.status) = w12_10' at *
      replace G := G.trans g_10
      clear g_10
      have g_11 : Only [w.heap.size + 1] w12_10' (w12_10'.setCell ⟨w.heap.size + 1, 10, none⟩ (.int .i64 t.out)) := (Only.refl _ _).setCell _ _ (by simp)
      replace B_r := B_r.set_ 10 (.int .i64 t.out)
      generalize w12_10'.setCell ⟨w.heap.size + 1, 10, none⟩ (.int .i64 t.out) = w12' at *
      replace G := G.trans g_11
      clear g_11
      simp only [List.setIfInBounds_toArray, List.set_cons_zero, List.set_cons_succ] at B_r
      have V_w12' : Below w.heap.size w w12' := (V_wr).trans (G.below (V_wr).size (fun q hq => by have := (V_wr).size; simp at hq; omega))
      replace B_a := B_a.only G (by first | (simp; done) | (simp; omega))
      replace B_b := B_b.only G (by first | (simp; done) | (simp; omega))
      replace o := o.only G (fun q hq hq' => by have := Q_o.out q hq; simp at hq'; omega)
      have sG0 := G.size
      clear G
      clear V_wr
      have S_w12' : wr.heap.size + 0 ≤ w12'.heap.size := by omega
      clear sG0
      have e_r_0 : w12'.cell? ⟨w.heap.size + 1, 0, none⟩ = some (.int .i64 t.P) := B_r.cell 0
      have e_r_1 : w12'.cell? ⟨w.heap.size + 1, 1, none⟩ = some (.int .i64 t.party) := B_r.cell 1
      have e_r_2 : w12'.cell? ⟨w.heap.size + 1, 2, none⟩ = some (.int .i64 t.input) := B_r.cell 2
      have e_r_3 : w12'.cell? ⟨w.heap.size + 1, 3, none⟩ = some (.int .i64 t.mask) := B_r.cell 3
      have e_r_4 : w12'.cell? ⟨w.heap.size + 1, 4, none⟩ = some (.int .i64 t.delta) := B_r.cell 4
      have e_r_5 : w12'.cell? ⟨w.heap.size + 1, 5, none⟩ = some (.slice y.sa y.sn y.sc) := B_r.cell 5
      have e_r_6 : w12'.cell? ⟨w.heap.size + 1, 6, none⟩ = some (.slice y.ka y.kn y.kc) := B_r.cell 6
      have e_r_7 : w12'.cell? ⟨w.heap.size + 1, 7, none⟩ = some (.int .i64 t.step) := B_r.cell 7
      have e_r_8 : w12'.cell? ⟨w.heap.size + 1, 8, none⟩ = some (.slice y.ha y.hn y.hc) := B_r.cell 8
      have e_r_9 : w12'.cell? ⟨w.heap.size + 1, 9, none⟩ = some (.int .i64 t.status) := B_r.cell 9
      have e_r_10 : w12'.cell? ⟨w.heap.size + 1, 10, none⟩ = some (.int .i64 t.out) := B_r.cell 10
      have EE := HTE.out
      subst EE
      exact bodyPost_ret (v := .tuple #[.agg #[.int .i64 (rpP a D).P, .int .i64 (rpP a D).party, .int .i64 (rpP a D).input, .int .i64 (rpP a D).mask, .int .i64 (rpP a D).delta, .slice y.sa y.sn y.sc, .slice y.ka y.kn y.kc, .int .i64 (rpP a D).step, .slice y.ha y.hn y.hc, .int .i64 (rpP a D).status, .int .i64 (rpP a D).out], .bool true]) (by simp [results, Tryd.results44, go_sem, e_r_0, e_r_1, e_r_2, e_r_3, e_r_4, e_r_5, e_r_6, e_r_7, e_r_8, e_r_9, e_r_10]) rfl (by first | exact ⟨y, F, rfl, o.lower (by omega), V_w12'⟩ | exact ⟨y, rfl, ⟨F, o.lower (by omega)⟩, V_w12'⟩)
end Go.Proofs.YtlmdckcohoddnaaDoor
