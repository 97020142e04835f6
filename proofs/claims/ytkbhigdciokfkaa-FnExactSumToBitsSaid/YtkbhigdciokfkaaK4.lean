/- Lemmas and walks that the claim's proof rests on, part 4. -/
import Derived.Lib.AppendZeros
import Derived.Test.YtkbhigdciokfkaaK2
import Derived.Test.YtkbhigdciokfkaaK3
namespace Go.Proofs.Ytkbhigdciokfkaa
open Go.RowKit
def rowAt (rs : List RowD) (j : Nat) : RowD := rs.getD j (none, 0, [])
theorem rowAt_mem {rs : List RowD} {j : Nat} (h : j < rs.length) : rowAt rs j ∈ rs := by
  unfold rowAt; simp [List.getD, h]
theorem rowAt_some {rs : List RowD} {j : Nat} (h : j < rs.length) : rs[j]? = some (rowAt rs j) := by
  unfold rowAt; simp [List.getD, h]
/-- The slice (a, n, c) of slices reads as the rows rs. -/
structure IntSS (w : World) (a : Option Addr) (n c : Nat) (rs : List RowD) : Prop where
  row : RowC w a n c 1 (rs.map rowV)
  inn : ∀ r ∈ rs, Ints w r.1 r.2.2.length r.2.1 r.2.2
theorem OwnSS.reads {w b a n c rs} (h : OwnSS w b a n c rs) : IntSS w a n c rs := ⟨h.out.row, fun r hr => (h.inn r hr).ints⟩
theorem IntSS.len {w a n c rs} (h : IntSS w a n c rs) : rs.length = n := by have := h.row.1; simpa using this
theorem IntSS.le {w a n c rs} (h : IntSS w a n c rs) : (n : Int) ≤ 9223372036854775807 := by
  have := h.row.2.1; have := h.row.2.2.1; unfold maxLen at this; omega
theorem IntSS.below {w w' a n c rs} (h : IntSS w a n c rs) (hb : Below w.heap.size w w') : IntSS w' a n c rs := ⟨h.row.below hb, fun r hr => (h.inn r hr).below hb⟩
theorem IntSS.alloc {w a n c rs} (h : IntSS w a n c rs) (o : Obj) : IntSS (w.alloc o) a n c rs := h.below ((Below.refl _ _).alloc (Nat.le_refl _) _)
theorem IntSS.drew {w a n c rs} (h : IntSS w a n c rs) : IntSS w.drew a n c rs := h.below ((Below.refl _ _).drew)
theorem IntSS.nil0 (w : World) : IntSS w none 0 0 [] := ⟨⟨rfl, Nat.le_refl _, Nat.zero_le _, fun _ => rfl, 0, 0, fun h => absurd h (by omega), fun i u hu => by simp at hu⟩, fun r hr => by cases hr⟩
theorem IntSS.at {w a n c rs} (h : IntSS w a n c rs) (k : Nat) (hk : k < n) : ∃ g o, a = some ⟨g, o, none⟩ ∧ w.cell? ⟨g, o + k, none⟩ = some (.slice (rowAt rs k).1 (rowAt rs k).2.2.length (rowAt rs k).2.1) ∧ Ints w (rowAt rs k).1 (rowAt rs k).2.2.length (rowAt rs k).2.1 (rowAt rs k).2.2 := by
  have hl := h.len
  obtain ⟨_, _, _, _, g, o, h1, h2⟩ := h.row
  refine ⟨g, o, h1 (by omega), ?_, h.inn _ (rowAt_mem (by omega))⟩
  have := h2 k (rowV (rowAt rs k)) (by rw [List.getElem?_map, rowAt_some (by omega)]; rfl)
  exact this
/-- The rows of numbers. -/
def datas' (rs : List RowD) : List (List Int) := rs.map fun r => r.2.2
theorem datas_len (rs : List RowD) : (datas' rs).length = rs.length := by simp [datas']
theorem set_key (rs : List RowD) (i : Nat) (l : List Int) (hl : l.length = (rowAt rs i).2.2.length) (hi : i < rs.length) :
    (rs.set i ((rowAt rs i).1, (rowAt rs i).2.1, l)).map (fun r => (r.1, r.2.1, r.2.2.length)) = rs.map (fun r => (r.1, r.2.1, r.2.2.length)) := by
  apply List.ext_getElem?
  intro j
  rw [List.getElem?_map, List.getElem?_map, List.getElem?_set]
  by_cases e : i = j
  · subst e; rw [if_pos rfl, if_pos hi, rowAt_some hi]; simp [hl]
  · rw [if_neg e]
theorem rowsF_key {rs rs' : List RowD} (h : rs'.map (fun r => (r.1, r.2.1, r.2.2.length)) = rs.map (fun r => (r.1, r.2.1, r.2.2.length))) : rowsF rs' = rowsF rs := by
  have e : ∀ q : List RowD, rowsF q = (q.map (fun r => (r.1, r.2.1, r.2.2.length))).flatMap fun t => foot t.1 t.2.1 := fun q => by simp [rowsF, List.flatMap_map]
  rw [e, e, h]
theorem OwnSS.cap {w b a n c rs} (h : OwnSS w b a n c rs) : n ≤ c ∧ c ≤ maxLen := ⟨h.out.row.2.1, h.out.row.2.2.1⟩
/-- A row is written. -/
theorem OwnSS.put {w w' : World} {b a n c rs} (h : OwnSS w b a n c rs) (i : Nat) (hi : i < rs.length) (l : List Int) (o : Own w' b (rowAt rs i).1 (rowAt rs i).2.2.length (rowAt rs i).2.1 l) (ho : Only (foot (rowAt rs i).1 (rowAt rs i).2.1) w w') :
    OwnSS w' b a n c (rs.set i ((rowAt rs i).1, (rowAt rs i).2.1, l)) := by
  have hl : l.length = (rowAt rs i).2.2.length := by have := o.len; omega
  have hk := set_key rs i l hl hi
  have hm := rowAt_mem hi
  refine ⟨?_, fun r hr => ?_, ?_, ?_⟩
  · have e : ∀ q : List RowD, q.map rowV = (q.map (fun r => (r.1, r.2.1, r.2.2.length))).map fun t => Value.slice t.1 t.2.2 t.2.1 := fun q => by simp [rowV]
    rw [e, hk, ← e]
    exact h.out.only ho (fun k hk hk' => h.apart k hk (mem_rowsF hm hk'))
  · obtain ⟨j, hj⟩ := List.getElem?_of_mem hr
    rw [List.getElem?_set] at hj
    by_cases e : i = j
    · subst e
      rw [if_pos rfl, if_pos hi, Option.some.injEq] at hj
      subst hj
      rw [← hl] at o
      exact o
    · rw [if_neg e] at hj
      have hjl := (List.getElem?_eq_some_iff.1 hj).1
      have hrr : rowAt rs j = r := by have := rowAt_some hjl; rw [hj] at this; exact (Option.some.inj this).symm
      have hmr : r ∈ rs := by rw [← hrr]; exact rowAt_mem hjl
      refine (h.inn r hmr).only ho ?_
      have hp := List.pairwise_iff_getElem.1 h.dis
      have ei : rs[i] = rowAt rs i := by simp [rowAt, List.getD, hi]
      have ej : rs[j] = r := by rw [← hrr]; simp [rowAt, List.getD, hjl]
      rcases Nat.lt_or_gt_of_ne e with hlt | hgt
      · have := hp i j hi hjl hlt; rw [ei, ej] at this; exact this.symm
      · have := hp j i hjl hi hgt; rw [ei, ej] at this; exact this
  · have e : ∀ q : List RowD, (q.Pairwise fun r s => Disj (foot r.1 r.2.1) (foot s.1 s.2.1)) ↔ ((q.map (fun r => (r.1, r.2.1, r.2.2.length))).Pairwise fun r s => Disj (foot r.1 r.2.1) (foot s.1 s.2.1)) := fun q => by rw [List.pairwise_map]
    rw [e, hk, ← e]
    exact h.dis
  · rw [rowsF_key hk]; exact h.apart
end Go.Proofs.Ytkbhigdciokfkaa
namespace Go.Proofs.Ytkbhigdciokfkaa
open Go.RowKit
theorem RowC.only {w w' : World} {X a n c sz xs} (h : RowC w a n c sz xs) (u : Only X w w') (hd : ∀ x, 0 < n → a = some x → x.block ∉ X) : RowC w' a n c sz xs := by
  obtain ⟨h1, h2, h3, hn, g, o, h4, h5⟩ := h
  refine ⟨h1, h2, h3, hn, g, o, h4, fun i v hv => ?_⟩
  have hi : i < xs.length := (List.getElem?_eq_some_iff.1 hv).1
  have h0 : 0 < n := by
    cases n with
    | zero => rw [h1, Nat.zero_mul] at hi; omega
    | succ n => omega
  have hc := h5 i v hv
  have hb : w'.heap[g]? = w.heap[g]? := u.block g (World.block_lt_of_cell? w _ hc) (hd _ h0 (h4 h0))
  simp only [World.cell?] at hc ⊢
  rw [hb]; exact hc
theorem RowC.lt {w : World} {a n c sz xs} (h : RowC w a n c sz xs) (hs : 0 < sz) : ∀ x, 0 < n → a = some x → x.block < w.heap.size := by
  obtain ⟨h1, _, _, _, g, o, h4, h5⟩ := h
  intro x h0 hx
  rw [h4 h0] at hx
  cases hx
  have hl : 0 < xs.length := by rw [h1]; exact Nat.mul_pos h0 hs
  exact World.block_lt_of_cell? w _ (h5 0 xs[0] (by simp [hl]))
/-- A slice of slices that lies outside the blocks F. -/
structure RwD (w : World) (a : Option Addr) (n c : Nat) (rs : List RowD) (F : List Nat) : Prop where
  row : RowC w a n c 1 (rs.map rowV)
  off : ∀ x, 0 < n → a = some x → x.block ∉ F
  inn : ∀ r ∈ rs, IntD w r.1 r.2.2.length r.2.1 r.2.2 F
theorem RwD.stp {w w' : World} {a n c rs F F'} (h : RwD w a n c rs F) (s : Stp F w F' w') : RwD w' a n c rs F' :=
  ⟨h.row.only s.only h.off, fun x hn hx hf => by
    rcases s.more _ hf with e | e
    · exact h.off x hn hx e
    · have := h.row.lt (by decide) x hn hx; omega, fun r hr => (h.inn r hr).stp s⟩
theorem RwD.below {w w' : World} {a n c rs F} (h : RwD w a n c rs F) (u : Below w.heap.size w w') : RwD w' a n c rs F := ⟨h.row.below u, h.off, fun r hr => (h.inn r hr).below u⟩
theorem RwD.len {w a n c rs F} (h : RwD w a n c rs F) : rs.length = n := by have := h.row.1; simpa using this
theorem RwD.le {w a n c rs F} (h : RwD w a n c rs F) : (n : Int) ≤ 9223372036854775807 := by
  have := h.row.2.1; have := h.row.2.2.1; unfold maxLen at this; omega
theorem RwD.at {w a n c rs F} (h : RwD w a n c rs F) (k : Nat) (hk : k < n) : ∃ g o, a = some ⟨g, o, none⟩ ∧ w.cell? ⟨g, o + k, none⟩ = some (.slice (rowAt rs k).1 (rowAt rs k).2.2.length (rowAt rs k).2.1) ∧ IntD w (rowAt rs k).1 (rowAt rs k).2.2.length (rowAt rs k).2.1 (rowAt rs k).2.2 F := by
  have hl := h.len
  obtain ⟨_, _, _, _, g, o, h1, h2⟩ := h.row
  refine ⟨g, o, h1 (by omega), ?_, h.inn _ (rowAt_mem (by omega))⟩
  exact h2 k (rowV (rowAt rs k)) (by rw [List.getElem?_map, rowAt_some (by omega)]; rfl)
theorem RwD.cellsAt {w g o n c rs F} (h : RwD w (some ⟨g, o, none⟩) n c rs F) (k : Nat) (hk : k < n) : w.cell? ⟨g, o + k, none⟩ = some (.slice (rowAt rs k).1 (rowAt rs k).2.2.length (rowAt rs k).2.1) := by
  obtain ⟨g', o', e, hc, _⟩ := h.at k hk
  cases e
  exact hc
theorem RwD.innAt {w a n c rs F} (h : RwD w a n c rs F) (k : Nat) (hk : k < n) : IntD w (rowAt rs k).1 (rowAt rs k).2.2.length (rowAt rs k).2.1 (rowAt rs k).2.2 F := h.inn _ (rowAt_mem (by rw [h.len]; exact hk))
theorem datas_getD (rs : List RowD) (k : Nat) (hk : k < rs.length) : (datas' rs).getD k [] = (rowAt rs k).2.2 := by
  simp [datas', rowAt, List.getD, hk]
/-- An outer row of the call's own; the rows in it are read. -/
structure RwO (w : World) (b : Nat) (a : Option Addr) (n c : Nat) (rs : List RowD) (F : List Nat) : Prop where
  out : OwnC w b a n c 23 1 (rs.map rowV)
  dis : Disj (foot a c) F
  inn : ∀ r ∈ rs, IntD w r.1 r.2.2.length r.2.1 r.2.2 F
  apart : ∀ r ∈ rs, ∀ x, 0 < r.2.2.length → r.1 = some x → x.block ∉ foot a c
theorem RwO.nil (w : World) (b : Nat) (a : Option Addr) (F : List Nat) : RwO w b a 0 0 [] F := ⟨OwnC.nil0 _ _ _ _ _, foot_nil _ _, fun r hr => (by cases hr), fun r hr => (by cases hr)⟩
theorem RwO.len {w b a n c rs F} (h : RwO w b a n c rs F) : rs.length = n := by have := h.out.1; simpa using this
theorem RwO.rwD {w b a n c rs F} (h : RwO w b a n c rs F) : RwD w a n c rs F :=
  ⟨h.out.row, fun x hn hx hf => h.dis x.block (by rw [hx]; exact foot_mem (by have := h.out.row.2.1; omega)) hf, h.inn⟩
theorem RwO.stp {w w' : World} {b a n c rs F F'} (h : RwO w b a n c rs F) (s : Stp F w F' w') : RwO w' b a n c rs F' :=
  ⟨h.out.only s.only h.dis, fun k hk hf => by
    rcases s.more k hf with e | e
    · exact h.dis k hk e
    · have := (h.out.feet k hk).2; omega, fun r hr => (h.inn r hr).stp s, h.apart⟩
theorem RwO.below {w w' : World} {b a n c rs F} (h : RwO w b a n c rs F) (u : Below w.heap.size w w') : RwO w' b a n c rs F := ⟨h.out.below u, h.dis, fun r hr => (h.inn r hr).below u, h.apart⟩
theorem RwO.alloc {w : World} {b a n c rs F} (h : RwO w b a n c rs F) (o : Obj) : RwO (w.alloc o) b a n c rs F := h.below ((Below.refl _ _).alloc (Nat.le_refl _) _)
theorem RwO.drew {w : World} {b a n c rs F} (h : RwO w b a n c rs F) : RwO w.drew b a n c rs F := h.below ((Below.refl _ _).drew)
theorem RwO.push {w w' : World} {b a n c rs F} {r : RowD} {a5 : Option Addr} {c5 : Nat} (h : RwO w b a n c rs F) (hF : ∀ k ∈ F, k < w.heap.size) (hr : IntD w r.1 r.2.2.length r.2.1 r.2.2 F) (hx : ∀ x, 0 < r.2.2.length → r.1 = some x → x.block ∉ foot a c)
    (o : OwnC w' b a5 (n + 1) c5 23 1 (rs.map rowV ++ [rowV r])) (g : w.grownBy w' (rowOf a c)) (m : Moved w a c a5 c5) : RwO w' b a5 (n + 1) c5 (rs ++ [r]) F := by
  have far : ∀ s : RowD, IntD w s.1 s.2.2.length s.2.1 s.2.2 F → (∀ x, 0 < s.2.2.length → s.1 = some x → x.block ∉ foot a c) → ∀ x, 0 < s.2.2.length → s.1 = some x → x.block ∉ foot a5 c5 := fun s hs hd x h0 hx => by
    have hlt := (hs.1.range x h0 hx).2
    have hne := hd x h0 hx
    intro hm
    exact m.disj (F := [x.block]) (fun k hk hk' => hne (by simp at hk'; subst hk'; exact hk)) (fun k hk => by simp at hk; subst hk; exact hlt) _ hm (by simp)
  refine ⟨by rw [List.map_append]; exact o, m.disj h.dis hF, fun s hs => ?_, fun s hs => ?_⟩
  · rcases List.mem_append.1 hs with hs | hs
    · exact (h.inn s hs).only (Only.of_grown g) (h.apart s hs)
    · rw [List.mem_singleton] at hs; subst hs; exact hr.only (Only.of_grown g) hx
  · rcases List.mem_append.1 hs with hs | hs
    · exact far s (h.inn s hs) (h.apart s hs)
    · rw [List.mem_singleton] at hs; subst hs; exact far s hr hx
theorem datas_push (rs : List RowD) (r : RowD) : datas' (rs ++ [r]) = datas' rs ++ [r.2.2] := by simp [datas']
end Go.Proofs.Ytkbhigdciokfkaa
namespace Go.Proofs.Ytkbhigdciokfkaa
open Go.RowKit
end Go.Proofs.Ytkbhigdciokfkaa
namespace Go.Proofs.Ytkbhigdciokfkaa
open Go.RowKit
end Go.Proofs.Ytkbhigdciokfkaa
namespace Go.Proofs.Ytkbhigdciokfkaa
open Go.RowKit
theorem RowC.litR (w : World) (r : RowD) (v : Value) (h : rowV r = v) (e : TypeId) : RowC (w.alloc (.cells #[v] e)) (some ⟨w.heap.size, 0, none⟩) 1 1 1 [rowV r] := by rw [h]; exact RowC.lit1 w v e
theorem rowV_of {a : Option Addr} {n c : Nat} {l : List Int} (h : l.length = n) : rowV (a, c, l) = .slice a n c := by unfold rowV; rw [h]
/-- A row that was made behind w. -/
theorem Own.away {w w' : World} {b b' a n c l a' n' c' e sz xs} (o : Own w' b a n c l) (h : OwnC w b' a' n' c' e sz xs) (hb : w.heap.size ≤ b) : ∀ x, 0 < n → a = some x → x.block ∉ foot a' c' := fun x hn hx hm => by
  have := (o.range x (by have := o.cap; omega) hx).1; have := (h.feet _ hm).2; omega
theorem IntD.away {w w' : World} {a n c l F a' n' c' e sz xs} (o : IntD w a n c l F) (h : OwnC w' w.heap.size a' n' c' e sz xs) : ∀ x, 0 < n → a = some x → x.block ∉ foot a' c' := fun x hn hx hm => by
  have := (o.1.range x hn hx).2; have := (h.feet _ hm).1; omega
end Go.Proofs.Ytkbhigdciokfkaa
namespace Go.Proofs.Ytkbhigdciokfkaa
open Go.RowKit
set_option maxHeartbeats 4000000 in
set_option maxRecDepth 100000 in
theorem Grow_nil (n : Nat) (w : World) (h0 : 0 < n) (h1 : n ≤ 1000000) :
    Calls Try.prog 102 #[.slice none 0 0, .int .i64 n] w fun e w' => ∃ a c, e = .returned (.slice a 0 c) ∧ Own w' w.heap.size a 0 c [] ∧ Below w.heap.size w w' := by
  obtain ⟨i0, hi, hz0, hz1, hz2⟩ := info_parts info_int
  have hG := grownCap_ge w n 0 3
  have hG2 := grownCap_le_maxLen w n 0 3 (by unfold maxLen; omega)
  have hr : ∀ ty, (Builtin.append_ #[23, 3] ty #[.slice none 0 0, .int .i64 n]).run Try.prog w = .ok (.slice (some ⟨w.heap.size, 0, none⟩) n (grownCap w n 0 3)) (w.drew.alloc (.cells (Builtin.zeroCells (Value.int .i64 0).cells n ++ Builtin.zeroCells (Value.int .i64 0).cells (grownCap w n 0 3 - n)) 3)) := fun ty =>
    Lib.run_append_nil_zeros w 23 3 ty 3 i0 (.int .i64 0) .i64 .i64 Try.underlying23 Try.underlying3 hi hz0 n h0 (by rw [hz1]; decide) (by omega) (by rw [hz2]; omega)
  have hs : (Builtin.zeroCells (Value.int .i64 0).cells n ++ Builtin.zeroCells (Value.int .i64 0).cells (grownCap w n 0 3 - n)).size = grownCap w n 0 3 := by
    have e : ∀ k, (Builtin.zeroCells (Value.int .i64 0).cells k).size = k := fun k => by unfold Builtin.zeroCells; simp [Value.cells]
    rw [Array.size_append, e, e]; omega
  have HO : Own (w.drew.alloc (.cells (Builtin.zeroCells (Value.int .i64 0).cells n ++ Builtin.zeroCells (Value.int .i64 0).cells (grownCap w n 0 3 - n)) 3)) w.heap.size (some ⟨w.heap.size, 0, none⟩) 0 (grownCap w n 0 3) [] :=
    ⟨by simp, Nat.zero_le _, hG2, fun h => (by cases h), fun _ => ⟨w.heap.size, _, rfl, Nat.le_refl _, heap_alloc_new w.drew _, by rw [hs, Nat.mul_one], by simp⟩⟩
  have HB : Below w.heap.size w (w.drew.alloc (.cells (Builtin.zeroCells (Value.int .i64 0).cells n ++ Builtin.zeroCells (Value.int .i64 0).cells (grownCap w n 0 3 - n)) 3)) := ((Below.refl _ _).drew).alloc (Nat.le_refl _) _
  have HOH := Lib.hid HO
  have HBH := Lib.hid HB
  clear HO HB hs hz0 hz1 hz2 hi
  obtain ⟨G, hGe⟩ : ∃ G, G = grownCap w n 0 3 := ⟨_, rfl⟩
  rw [← hGe] at hG hG2 hr HOH HBH
  clear hGe
  have hG63 : (G : Int) ≤ 9223372036854775807 := by unfold maxLen at hG2; omega
  have hp : (0 : Int) < (n : Int) := by omega
  go_enter Try.func102, Try.ntmps102
  go_wp2_with (at_builtin; refine Lib.wpList_append_run _ rfl _ _ _ _ rfl _ _ rfl rfl _ _ (hr _) ?_)
  go_ret
  exact ⟨_, _, rfl, HOH.out, HBH.out⟩
theorem flat_take (l : List (List Int)) (k : Nat) (h : k < l.length) : (l.take (k + 1)).flatten = (l.take k).flatten ++ l.getD k [] := by
  rw [List.take_succ_eq_append_getElem h, List.flatten_append]
  simp [List.getD, h]
theorem flat_len {w : Nat} {l : List (List Int)} (h : AllL w l) (k : Nat) (hk : k ≤ l.length) : (l.take k).flatten.length = w * k := by
  induction k with
  | zero => simp
  | succ k ih => rw [flat_take l k (by omega), List.length_append, ih (by omega), h.at k (by omega), Nat.mul_add, Nat.mul_one]
set_option maxHeartbeats 4000000 in
set_option maxRecDepth 100000 in
theorem Concat_any (a : Option Addr) (n c : Nat) (rs : List RowD) (wd : Nat) (w : World) (h : IntSS w a n c rs) (hA : AllL wd (datas' rs)) (hn : 1 ≤ n ∧ n ≤ 100) (hw : 1 ≤ wd ∧ wd ≤ 100) :
    Calls Try.prog 62 #[.slice a n c] w fun e w' => ∃ a1 m1 c1, e = .returned (.slice a1 m1 c1) ∧ Own w' w.heap.size a1 m1 c1 (datas' rs).flatten ∧ Below w.heap.size w w' := by
  have HAL := Lib.hid hA
  have HR := Lib.hid h.len
  have hle := h.le
  clear hA
  go_enter Try.func62, Try.ntmps62
  go_wp2
  go_loop [3, 11] (fun y u => ∃ k q : Nat, k ≤ n ∧ u = .int .i64 k ∧ y = .int .i64 q ∧ wd * k = q) (fun _ u => n - (intOf u).toNat)
  case atStart => exact ⟨0, 0, Nat.zero_le _, rfl, rfl, Nat.mul_zero _⟩
  case round =>
    obtain ⟨k, q, hk, rfl, rfl, hq⟩ := hrel
    have hqb : q ≤ 100 * 100 := by rw [← hq]; exact Nat.mul_le_mul hw.2 (by omega)
    by_cases hlt : k < n
    · have HQ : Hid (wd * (k + 1) = q + wd) := Lib.hid (by rw [Nat.mul_add, hq, Nat.mul_one])
      clear hq
      obtain ⟨g, o, rfl, hc, _⟩ := h.at k hlt
      have hl := HAL.out.at k (by rw [datas_len, HR.out]; exact hlt)
      rw [datas_getD _ _ (by rw [HR.out]; exact hlt)] at hl
      rw [hl] at hc
      clear hl
      go_wp2
      go_round
      case rel => exact ⟨k + 1, q + wd, by omega, by go_num, by go_num, HQ.out⟩
      case measure => simp [intOf]; omega
    · obtain rfl : k = n := by omega
      have hq0 : 0 < q := by rw [← hq]; exact Nat.mul_pos (by omega) (by omega)
      have HQ := Lib.hid hq
      clear hq
      go_wp2_with fail
      refine (Grow_nil q _ hq0 (by omega)).mono ?_; rintro e w2 ⟨ga, gc, rfl, og, u2⟩
      have h2 := h.below u2
      go_wp2
      go_loopw [6, 27] (fun y u wr => ∃ j a1 c1 : _, ∃ m1 : Nat, j ≤ k ∧ u = .int .i64 (j : Nat) ∧ y = .slice a1 m1 c1 ∧ Own wr w.heap.size a1 m1 c1 ((datas' rs).take j).flatten ∧ Below w.heap.size w wr) (fun _ u _ => k - (intOf u).toNat)
      case atStart => exact ⟨0, _, _, _, Nat.zero_le _, rfl, rfl, og, u2⟩
      case round =>
        obtain ⟨j, a1, c1, m1, hj, rfl, rfl, own, hbel⟩ := hrel
        clear og
        by_cases hlt2 : j < k
        · have hjl : j < (datas' rs).length := by rw [datas_len, HR.out]; exact hlt2
          have HF := Lib.hid (flat_take (datas' rs) j hjl)
          have hfl := flat_len HAL.out j (Nat.le_of_lt hjl)
          have hm1 : m1 ≤ 100 * 100 := by rw [own.len, hfl]; exact Nat.mul_le_mul hw.2 (by omega)
          rw [datas_getD _ _ (by rw [HR.out]; exact hlt2)] at HF
          obtain ⟨g, o, rfl, hc, hi⟩ := (h.below hbel).at j hlt2
          have hl := HAL.out.at j hjl
          rw [datas_getD _ _ (by rw [HR.out]; exact hlt2)] at hl
          rw [hl] at hc hi
          generalize rowAt rs j = r at *
          obtain ⟨ra, rc, L⟩ := r
          simp only at hc hi HF
          clear hl hfl
          go_wp2_with (at_builtin; refine wpList_appI _ rfl _ _ rfl w.heap.size a1 m1 c1 _ rfl own _ wd _ L rfl hi (by omega) hbel.size ?_)
          intro a5 c5 w5 o5 u5 _
          have b5 := hbel.trans u5
          clear own hbel u5 hc hi
          go_wp2
          go_roundw
          case rel => exact ⟨j + 1, a5, c5, _, by omega, by go_num, rfl, by rw [HF.out]; exact o5, b5⟩
          case measure => simp [intOf]; omega
        · obtain rfl : j = k := by omega
          rw [List.take_of_length_le (by rw [datas_len, HR.out]; exact Nat.le_refl _)] at own
          go_wp2
          go_ret
          exact ⟨_, _, _, rfl, own, hbel⟩
theorem pow8 (k : Nat) (h : k ≤ 8) : 2 ^ k ≤ 256 := by
  rcases (by omega : k = 0 ∨ k = 1 ∨ k = 2 ∨ k = 3 ∨ k = 4 ∨ k = 5 ∨ k = 6 ∨ k = 7 ∨ k = 8) with rfl | rfl | rfl | rfl | rfl | rfl | rfl | rfl | rfl <;> decide
set_option maxHeartbeats 8000000 in
set_option maxRecDepth 100000 in
theorem turn_any (ca : Option Addr) (n cc : Nat) (rs : List RowD) (ia : Option Addr) (v ic : Nat) (I : List Int) (wd : Nat) {oa : Option Addr} {on oc : Nat} (b g : Nat) (i0 i1 : Int) (G : List Int) (F : List Nat) (w : World) (h : Mk 81 w b g i0 i1 G F oa on oc) (hb : b ≤ w.heap.size) (h0 : 0 ≤ i0 ∧ i0 ≤ 1000) (h1 : 0 ≤ i1 ∧ i1 ≤ 1000) (dc : RwD w ca n cc rs F) (dx : IntD w ia v ic I F) (hA : AllL wd (datas' rs)) (hn : 1 ≤ n ∧ n ≤ 8) (hv : v ≤ 8) (hw : wd ≤ 20) (hl : G.length ≤ 1000) (nb : Nat) (hw1 : 1 ≤ wd) (hnb : w.cell? ⟨nb, 0, none⟩ = some (.int .i64 n)) (hnF : nb ∉ F) :
    Calls Try.prog 61 #[.pointer (some ⟨g, 0, none⟩), .slice ca n cc, .slice ia v ic, .pointer (some ⟨nb, 0, none⟩)] w fun e w' => ∃ a1 m1 c1 F', e = .returned (.slice a1 m1 c1) ∧ Own w' w.heap.size a1 m1 c1 (tuG (i0 + i1) I (datas' rs) G v).2.flatten ∧ Disj (foot a1 c1) F' ∧ Mk 81 w' b g i0 i1 (tuG (i0 + i1) I (datas' rs) G v).1 F' oa on oc ∧ Stp F w F' w' := by
  have HAL := Lib.hid hA
  have HR := Lib.hid dc.len
  have hle := dc.le
  have hle2 := dx.ints.le
  clear hA
  have HNB : ∀ (W : World) (F' : List Nat), Stp F w F' W → W.cell? ⟨nb, 0, none⟩ = some (.int .i64 n) := fun W F' s => by
    have hb := s.only.block nb (World.block_lt_of_cell? w _ hnb) hnF
    simp only [World.cell?] at hnb ⊢
    rw [hb]; exact hnb
  have HNH := Lib.hid HNB
  clear HNB hnb
  go_enter Try.func61, Try.ntmps61
  go_wp2
  go_loopw [1, 14] (fun y u wr => ∃ k F1, k ≤ v ∧ u = .int .i64 (k : Nat) ∧ (∃ a1 c1 rs1, y = .slice a1 n c1 ∧ RwD wr a1 n c1 rs1 F1 ∧ datas' rs1 = (tuG (i0 + i1) I (datas' rs) G k).2) ∧ Mk 81 wr b g i0 i1 (tuG (i0 + i1) I (datas' rs) G k).1 F1 oa on oc ∧ Stp F w F1 wr) (fun _ u _ => v - (intOf u).toNat)
  case atStart => exact ⟨0, F, Nat.zero_le _, rfl, ⟨_, _, rs, rfl, dc, rfl⟩, h, Stp.refl _ _⟩
  case round =>
    obtain ⟨k, F1, hk, rfl, ⟨a1, c1, rs1, rfl, dc1, hd1⟩, M1, S1⟩ := hrel
    obtain ⟨hG, hG2, hG3⟩ := tuG_len (B := i0 + i1) (idx := I) (G := G) HAL.out k
    have hm := dc1.len
    have hml : (datas' rs1).length = n := by rw [datas_len]; exact hm
    rw [← hd1] at hG3
    have hGb : 9 * wd * (datas' rs).length * k ≤ 9 * 20 * 8 * 8 := by
      rw [datas_len, HR.out]; exact Nat.mul_le_mul (Nat.mul_le_mul (Nat.mul_le_mul_left _ hw) hn.2) (by omega)
    by_cases hlt : k < v
    · obtain ⟨wo, rfl⟩ : ∃ wo, wo = wr := ⟨_, rfl⟩
      have HS0 := tuG_succ (i0 + i1) I (datas' rs) G k
      rw [← hd1, hml] at HS0
      obtain ⟨gx, ox, hgx, _⟩ := dx.ints.at k hlt
      subst hgx
      have cx := (dx.stp S1).ints.cellsAt k hlt
      generalize I.getD k 0 = x at *
      generalize hg1 : (tuG (i0 + i1) I (datas' rs) G k).1 = G1 at *
      have hP := pow8 k (by omega)
      obtain ⟨P, eP⟩ : ∃ P : Nat, P = 2 ^ k := ⟨_, rfl⟩
      rw [← eP] at HS0 hP
      have t1 : IntKind.i64.wrap (1 * 2 ^ k) = (P : Int) := by rw [Int.one_mul, show (2 : Int) ^ k = ((2 ^ k : Nat) : Int) by simp, ← eP]; exact IntWalk.i64_in _ (by omega)
      have t2 : IntKind.u64.wrap (k : Int) = (k : Int) := IntWalk.u64_in _ (by omega)
      have t1b : IntKind.i64.wrap (2 ^ k) = (P : Int) := by rw [← t1, Int.one_mul]
      have t1d : IntKind.i64.wrap (P : Int) = (P : Int) := IntWalk.i64_in _ (by omega)
      have t1c : ((2 : Int) ^ k) = (P : Int) := by rw [eP]; simp
      have HS := Lib.hid HS0
      clear HS0 hg1 hd1 eP
      have HA3 := Lib.hid hG3
      have HML := Lib.hid hml
      clear hG3 hml
      have hb1 : b ≤ wo.heap.size := Nat.le_trans hb S1.size
      go_wp2
      clear cx
      go_loopw [10, 22] (fun y u wx => ∃ j F2, j ≤ n ∧ u = .int .i64 (j : Nat) ∧ (∃ a2 c2 rs2, y = .slice a2 j c2 ∧ RwO wx wo.heap.size a2 j c2 rs2 F2 ∧ datas' rs2 = (tuJ (i0 + i1) x P (datas' rs1) G1 j).2) ∧ Mk 81 wx b g i0 i1 (tuJ (i0 + i1) x P (datas' rs1) G1 j).1 F2 oa on oc ∧ Stp F1 wo F2 wx) (fun _ u _ => n - (intOf u).toNat)
      case atStart => exact ⟨0, F1, by omega, rfl, ⟨_, _, [], rfl, RwO.nil _ _ _ _, rfl⟩, M1.alloc _, (Stp.refl _ _).alloc _⟩
      case round =>
        obtain ⟨j, F2, hj, rfl, ⟨a2, c2, rs2, rfl, ro, hd2⟩, M2, S2⟩ := hrel
        clear M1
        obtain ⟨hJ, hJ2, hJ3⟩ := tuJ_len (B := i0 + i1) (b := x) (s := P) (G := G1) HA3.out j (by rw [HML.out]; exact hj)
        have hJb : 9 * wd * j ≤ 9 * 20 * 8 := Nat.mul_le_mul (Nat.mul_le_mul_left _ hw) (by omega)
        by_cases hlt2 : j < n
        · have HJ0 := tuJ_succ (i0 + i1) x P (datas' rs1) G1 j
          unfold tuS at HJ0
          rw [HML.out, ← hd2] at HJ0
          have hqn : (j + P) % n < n := Nat.mod_lt _ (by omega)
          obtain ⟨Q, eQ⟩ : ∃ Q, Q = (j + P) % n := ⟨_, rfl⟩
          rw [← eQ] at HJ0 hqn
          have t3 : ((j : Int) + (P : Int)).tmod (n : Int) = (Q : Int) := by rw [Int.tmod_eq_emod_of_nonneg (by omega), eQ]; simp
          have t3b : ((j : Int) + (P : Int)) % (n : Int) = (Q : Int) := by rw [eQ]; simp
          have t4 : IntKind.i64.wrap ((j : Int) + (P : Int)) = (j : Int) + (P : Int) := IntWalk.i64_in _ (by omega)
          have t5 : IntKind.i64.wrap (Q : Int) = (Q : Int) := IntWalk.i64_in _ (by omega)
          have t6 : (((n : Nat) : Int) == 0) = false := by simp; omega
          have t7 : (((n : Nat) : Int) = 0) = False := by simp; omega
          have t8 : (n = 0) = False := by simp; omega
          have t9 : (n == 0) = false := by simp; omega
          clear eQ
          obtain ⟨gr, o_r, hgr, _, _⟩ := dc1.at j hlt2
          subst hgr
          have cj := (dc1.stp S2).cellsAt j hlt2
          have dj := dc1.innAt j hlt2
          have ck := (dc1.stp S2).cellsAt Q hqn
          have dk := dc1.innAt Q hqn
          rw [datas_getD _ j (by rw [← datas_len, HML.out]; exact hlt2), datas_getD _ Q (by rw [← datas_len, HML.out]; exact hqn)] at HJ0
          generalize hg2 : (tuJ (i0 + i1) x P (datas' rs1) G1 j).1 = G2 at *
          clear hg2
          have lj := HA3.out.at j (by rw [HML.out]; exact hlt2)
          have lk := HA3.out.at Q (by rw [HML.out]; exact hqn)
          rw [datas_getD _ _ (by rw [← datas_len, HML.out]; omega)] at lj lk
          have HDC := fun (W : World) (F' : List Nat) (s : Stp F1 wo F' W) => And.intro ((dc1.stp s).cellsAt Q hqn) ((dc1.stp s).cellsAt j hlt2)
          obtain ⟨rj, hrj⟩ : ∃ r, r = rowAt rs1 j := ⟨_, rfl⟩
          obtain ⟨rk, hrk⟩ : ∃ r, r = rowAt rs1 Q := ⟨_, rfl⟩
          rw [← hrj] at cj dj lj HJ0
          rw [← hrk] at ck dk lk HJ0
          simp only [← hrj, ← hrk] at HDC
          clear hrj hrk
          obtain ⟨ja, jc, JL⟩ := rj
          obtain ⟨ka, kc, KL⟩ := rk
          simp only at cj dj lj ck dk lk HJ0 HDC
          have HDC2 := Lib.hid HDC
          clear HDC
          have lc := (chG_len (i0 + i1) x KL JL G2 KL.length).2
          obtain ⟨⟨G3, L⟩, hr3⟩ : ∃ r, r = chG (i0 + i1) x KL JL G2 KL.length := ⟨_, rfl⟩
          have HCH := Lib.hid hr3
          rw [← hr3] at HJ0 lc
          clear hr3
          simp only at HJ0 lc
          have HJ := Lib.hid HJ0
          clear HJ0
          rw [lj] at cj dj
          rw [lk] at ck dk lc
          have cn := HNH.out _ _ (S1.trans S2)
          go_wp2
          have z0 : (0 : Int) ≤ (Q : Int) := by omega
          have z1 : (Q : Int) < (n : Int) := by omega
          have z2 : (0 : Int) ≤ (j : Int) := by omega
          have z3 : (j : Int) < (n : Int) := by omega
          go_region_held3 (fun W => W.cell? ⟨nb, 0, none⟩ = some (.int .i64 n) ∧ W.cell? ⟨gr, o_r + Q, none⟩ = some (.slice ka wd kc) ∧ W.cell? ⟨gr, o_r + j, none⟩ = some (.slice ja wd jc))
            (first | go_keep | exact (by have hh := HDC2.out _ _ (Stp.onto (Stp.alloc (S2.drew.trans s3) _) (Only.of_grown ga) (fun k hk => ((ro.drew.stp s3).out.feet k hk).1)); rw [lj, lk] at hh; exact ⟨HNH.out _ _ (S1.trans (Stp.onto (Stp.alloc (S2.drew.trans s3) _) (Only.of_grown ga) (fun k hk => ((ro.drew.stp s3).out.feet k hk).1))), hh.1, hh.2⟩) | exact (by have hh := HDC2.out _ _ (S2.drew.trans s3); rw [lj, lk] at hh; exact ⟨HNH.out _ _ (S1.trans (S2.drew.trans s3)), hh.1, hh.2⟩))
            (first | (go_at_call 51; refine (choose_any x _ wd _ _ _ wd _ _ b g i0 i1 G2 F2 _ M2.drew (Nat.le_trans hb1 S2.size) h0 h1 ((dk.stp S2).below ((Below.refl _ _).drew)) ((dj.stp S2).below ((Below.refl _ _).drew)) (Nat.le_refl _) (by omega) (by omega)).mono ?_; rintro e w3 ⟨a3, c3, F3, rfl, o3, d3, M3, s3⟩) | (refine step_appR _ (by rfl) _ _ (by rfl) wo.heap.size _ j _ _ (by rfl) (RwO.alloc (ro.drew.stp s3) _).out _ 1 (a3, c3, L) (by rfl) (RowC.litR _ _ _ (rowV_of lc) _) (by omega) (by have := (S2.drew.trans s3).size; simp; omega) ?_; intro aa ca wa oo _ ga ma))
          all_goals have ro3 := ro.drew.stp s3
          all_goals have Oa := Only.of_grown ga
          all_goals have Ma := Mk.only (Mk.alloc M3 _) Oa ro3.dis
          all_goals have Sa := (Stp.onto (Stp.alloc (S2.drew.trans s3) _) (Only.of_grown ga) (fun k hk => ((ro.drew.stp s3).out.feet k hk).1))
          all_goals have hLe : L = (chG (i0 + i1) x KL JL G2 wd).2 := by have := HCH.out; rw [lk] at this; rw [← this]
          all_goals have hGe : G3 = (chG (i0 + i1) x KL JL G2 wd).1 := by have := HCH.out; rw [lk] at this; rw [← this]
          all_goals rw [← hLe] at o3
          all_goals rw [← hGe] at Ma
          all_goals have hrI := (o3.intD d3)
          all_goals have hrA := o3.away ro.drew.out (Nat.le_refl _)
          all_goals rw [← lc] at hrI hrA
          all_goals have hrB : ∀ y, 0 < L.length → a3 = some y → y.block ∉ foot a2 c2 := hrA
          all_goals have Ra := RwO.push (r := (a3, c3, L)) (RwO.alloc ro3 _) (fun k hk => by have := (M3.feet k hk).2; simp; omega) (hrI.below ((Below.refl _ _).alloc (Nat.le_refl _) _)) hrB oo ga ma
          all_goals clear cj ck cn ro M2 S2 s3 o3 d3 M3 ro3 Oa oo ga ma hrI hrA hrB hLe hGe
          go_wp2
          go_roundw
          case rel => exact ⟨j + 1, _, by omega, by go_num, ⟨_, _, _, rfl, Ra, by rw [datas_push, HJ.out]⟩, by rw [HJ.out]; exact Ma, Sa⟩
          case measure => simp [intOf]; omega
        · obtain rfl : j = n := by omega
          have HD2 := Lib.hid hd2
          clear hd2
          have rd := ro.rwD
          have ST := S1.trans S2
          clear ro S2 S1 dc1
          have hge : ¬ (j : Int) < (j : Int) := by omega
          go_wp2
          go_roundw
          case rel => exact ⟨k + 1, F2, by omega, by go_num, ⟨_, _, _, rfl, rd, by rw [HS.out]; exact HD2.out⟩, by rw [HS.out]; exact M2, ST⟩
          case measure => simp [intOf]; omega
    · obtain rfl : k = v := by omega
      have hge : ¬ (k : Int) < (k : Int) := by omega
      have HD := Lib.hid hd1
      clear hd1
      go_wp2_with fail
      refine (Concat_any _ _ _ rs1 wd _ ⟨dc1.row, fun r hr => (dc1.inn r hr).1⟩ hG3 (by omega) (by omega)).mono ?_; rintro e w3 ⟨a3, m3, c3, rfl, o3, u3⟩
      go_wp2
      go_ret
      exact ⟨_, _, _, F1, rfl, by rw [← HD.out]; exact o3.lower S1.size, Disj.of_rng o3.feet M1.feet (.inr (Nat.le_refl _)), M1.below u3, S1.below u3⟩
end Go.Proofs.Ytkbhigdciokfkaa
namespace Go.Proofs.Ytkbhigdciokfkaa
open Go.RowKit
theorem RwD.toNew {w w' : World} {a n c rs F0 F} (h : RwD w a n c rs F0) (u : Below w.heap.size w w') (hF : ∀ k ∈ F, w.heap.size ≤ k) : RwD w' a n c rs F :=
  ⟨h.row.below u, fun x hn hx hf => by have := h.row.lt (by decide) x hn hx; have := hF _ hf; omega, fun r hr => ⟨(h.inn r hr).1.below u, fun x hn hx hf => by have := ((h.inn r hr).1.range x hn hx).2; have := hF _ hf; omega⟩⟩
def memB (n w : Int) : Bool := inB n 1 8 && inB w 1 4 && decide (n * w ≤ 20)
set_option maxHeartbeats 4000000 in
theorem isMemory_any (n wd : Int) (w : World) :
    Calls Try.prog 99 #[.int .i64 n, .int .i64 wd] w fun e w' => e = .returned (.bool (memB n wd)) ∧ w = w' := by
  unfold memB
  cases h1 : inB n 1 8
  · simp only [Bool.false_and]
    go_enter Try.func99, Try.ntmps99
    go_wp2_with (first | (go_at_call 79; refine (within_any _ _ _ _).mono ?_; rintro e w' ⟨rfl, rfl⟩))
    go_ret
    exact ⟨rfl, rfl⟩
  · cases h2 : inB wd 1 4
    · simp only [Bool.false_and, Bool.and_false]
      go_enter Try.func99, Try.ntmps99
      go_wp2_with (first | (go_at_call 79; refine (within_any _ _ _ _).mono ?_; rintro e w' ⟨rfl, rfl⟩))
      go_ret
      exact ⟨rfl, rfl⟩
    · obtain ⟨a1, a2⟩ := inB_true h1
      obtain ⟨b1, b2⟩ := inB_true h2
      simp only [Bool.true_and]
      have p1 : 0 ≤ n * wd := Int.mul_nonneg (by omega) (by omega)
      have p2 : n * wd ≤ 8 * 4 := Int.mul_le_mul a2 b2 (by omega) (by omega)
      have t1 : IntKind.i64.wrap (n * wd) = n * wd := IntWalk.i64_in _ (by omega)
      go_enter Try.func99, Try.ntmps99
      go_wp2_with (first | (go_at_call 79; refine (within_any _ _ _ _).mono ?_; rintro e w' ⟨rfl, rfl⟩))
      go_ret
      exact ⟨rfl, rfl⟩
/-- What the closure of a circuit of cells does. -/
def CloP (f : Nat) (caps : Array Value) (w : World) (q n wd v more : Nat) (p : List Int × List Int) : Prop :=
  ∀ (W : World) (b g : Nat) (F : List Nat) (ca : Option Addr) (cc : Nat) (rs : List RowD) (ia : Option Addr) (ic : Nat),
    Below w.heap.size w W → Mk 81 W b g q ((v : Int) + more) [] F → b ≤ W.heap.size → (∀ k ∈ F, w.heap.size ≤ k) → RwD W ca n cc rs F → datas' rs = ceL wd n → IntD W ia v ic (spL (q : Int) v) F →
    Calls Try.prog f (#[.pointer (some ⟨g, 0, none⟩), .slice ca n cc, .slice ia v ic] ++ caps) W fun e W' => ∃ a1 m1 c1 F', e = .returned (.slice a1 m1 c1) ∧ Own W' W.heap.size a1 m1 c1 p.2 ∧ Disj (foot a1 c1) F' ∧ Mk 81 W' b g q ((v : Int) + more) p.1 F' ∧ Stp F W F' W'
set_option maxHeartbeats 8000000 in
set_option maxRecDepth 100000 in
theorem memory_no (n wd more : Int) (f : Nat) (caps : Array Value) (w : World) (hm : memB n wd = false) :
    Calls Try.prog 49 #[.int .i64 n, .int .i64 wd, .int .i64 more, .func (.func f) #[] caps] w fun e w' => e = .returned (.tuple #[.agg #[.int .i64 0, .int .i64 0, .slice none 0 0, .slice none 0 0], .bool false]) ∧ Below w.heap.size w w' := by
  have V1 : Below w.heap.size w (w.alloc (.cells #[.int .i64 0, .int .i64 0, .slice none 0 0, .slice none 0 0] 25)) := (Below.refl _ _).alloc (Nat.le_refl _) _
  have R1 : Blk (w.alloc (.cells #[.int .i64 0, .int .i64 0, .slice none 0 0, .slice none 0 0] 25)) w.heap.size 25 #[.int .i64 0, .int .i64 0, .slice none 0 0, .slice none 0 0] := Blk.new w _ _
  go_enter Try.func49, Try.ntmps49
  go_wp2_with fail
  refine (isMemory_any _ _ _).mono ?_; rintro e w' ⟨rfl, rfl⟩
  rw [hm]
  generalize (w.alloc (.cells #[.int .i64 0, .int .i64 0, .slice none 0 0, .slice none 0 0] 25)) = w1 at *
  have r0 : w1.cell? ⟨w.heap.size, 0, none⟩ = some (.int .i64 0) := R1.cell 0
  have r1 : w1.cell? ⟨w.heap.size, 1, none⟩ = some (.int .i64 0) := R1.cell 1
  have r2 : w1.cell? ⟨w.heap.size, 2, none⟩ = some (.slice none 0 0) := R1.cell 2
  have r3 : w1.cell? ⟨w.heap.size, 3, none⟩ = some (.slice none 0 0) := R1.cell 3
  have q0 : w1.frozen? ⟨w.heap.size, 0, none⟩ = false := R1.frozen 0
  have q1 : w1.frozen? ⟨w.heap.size, 1, none⟩ = false := R1.frozen 1
  have q2 : w1.frozen? ⟨w.heap.size, 2, none⟩ = false := R1.frozen 2
  have q3 : w1.frozen? ⟨w.heap.size, 3, none⟩ = false := R1.frozen 3
  go_wp2
  have GG := (((((Only.refl [w.heap.size] w1).setCell ⟨w.heap.size, 0, none⟩ (.int .i64 0) (by simp)).setCell ⟨w.heap.size, 1, none⟩ (.int .i64 0) (by simp)).setCell ⟨w.heap.size, 2, none⟩ (.slice none 0 0) (by simp)).setCell ⟨w.heap.size, 3, none⟩ (.slice none 0 0) (by simp))
  exact bodyPost_ret (v := .tuple #[.agg #[.int .i64 0, .int .i64 0, .slice none 0 0, .slice none 0 0], .bool false]) (by simp [results, Try.results49, go_sem, r0, r1, r2, r3]) rfl ⟨rfl, V1.trans (GG.below V1.size (by simp))⟩
set_option maxHeartbeats 8000000 in
set_option maxRecDepth 100000 in
theorem memory_yes (n wd more v : Nat) (f : Nat) (caps : Array Value) (p : List Int × List Int) (w : World) (hn : 1 ≤ n ∧ n ≤ 8) (hw : 1 ≤ wd ∧ wd ≤ 4) (hnw : n * wd ≤ 20) (hmo : more ≤ 4) (hv : wid (n : Int) = v) (hcl : CloP f caps w (n * wd) n wd v more p)
    (hf : ∀ args W, (callFunc f args).run Try.prog W = .ok (.enter f args) W) (hok : ciB ((n * wd : Nat) : Int) ((v : Int) + more) (p.1.length / 3) p.1 p.2 = true) :
    Calls Try.prog 49 #[.int .i64 n, .int .i64 wd, .int .i64 more, .func (.func f) #[] caps] w fun e w' => ∃ ga gn gc oa on oc, e = .returned (.tuple #[.agg #[.int .i64 ((n * wd : Nat) : Int), .int .i64 ((v : Int) + more), .slice ga gn gc, .slice oa on oc], .bool true]) ∧ OwnF 3 eGate w' w.heap.size ga gn gc p.1 ∧ Own w' w.heap.size oa on oc p.2 ∧ Disj (foot ga gc) (foot oa oc) ∧ Below w.heap.size w w' := by
  have hv3 : v ≤ 3 := by rw [← hv]; exact wid8 n hn.2
  obtain ⟨q, hq⟩ : ∃ q, q = n * wd := ⟨_, rfl⟩
  rw [← hq] at hnw hcl hok ⊢
  have t1 : IntKind.i64.wrap ((n : Int) * (wd : Int)) = (q : Int) := by rw [hq, Int.natCast_mul]; exact IntWalk.i64_in _ (by rw [← Int.natCast_mul, ← hq]; omega)
  have hmem : memB n wd = true := by unfold memB; rw [inB_yes (by omega) (by omega), inB_yes (by omega) (by omega)]; simp only [Bool.true_and, decide_eq_true_eq]; rw [← Int.natCast_mul, ← hq]; omega
  have HCL := Lib.hid hcl
  have HOK := Lib.hid hok
  have HV := Lib.hid hv
  clear hcl hok hv hq
  have t2 : IntKind.i64.wrap ((v : Int) + (more : Int)) = (v : Int) + (more : Int) := IntWalk.i64_in _ (by omega)
  go_enter Try.func49, Try.ntmps49
  go_wp2_with fail
  refine (isMemory_any _ _ _).mono ?_; rintro e w' ⟨rfl, rfl⟩
  rw [hmem]
  clear hmem
  go_wp2_with fail
  refine (indexWidth_any _ _ (by omega) (by omega)).mono ?_; rintro e w' ⟨rfl, rfl⟩
  rw [HV.out]
  go_wp2
  have V2 : Below w.heap.size w ((w.alloc (.cells #[.int .i64 0, .int .i64 0, .slice none 0 0, .slice none 0 0] 25)).alloc (.cells #[] 23)) := ((Below.refl _ _).alloc (Nat.le_refl _) _).alloc (by simp) _
  have R2 : Blk ((w.alloc (.cells #[.int .i64 0, .int .i64 0, .slice none 0 0, .slice none 0 0] 25)).alloc (.cells #[] 23)) w.heap.size 25 #[.int .i64 0, .int .i64 0, .slice none 0 0, .slice none 0 0] := (Blk.new w _ _).alloc _
  have Z2 : w.heap.size + 1 ≤ ((w.alloc (.cells #[.int .i64 0, .int .i64 0, .slice none 0 0, .slice none 0 0] 25)).alloc (.cells #[] 23)).heap.size := by simp
  generalize ((w.alloc (.cells #[.int .i64 0, .int .i64 0, .slice none 0 0, .slice none 0 0] 25)).alloc (.cells #[] 23)) = w2 at *
  go_loopw [11, 23] (fun y u wr => ∃ i, i ≤ n ∧ u = .int .i64 (i : Nat) ∧ (∃ a1 c1 rs, y = .slice a1 i c1 ∧ RwO wr w2.heap.size a1 i c1 rs [] ∧ datas' rs = ceL wd i) ∧ Below w2.heap.size w2 wr) (fun _ u _ => n - (intOf u).toNat)
  case atStart => exact ⟨0, Nat.zero_le _, rfl, ⟨_, _, [], rfl, RwO.nil _ _ _ _, rfl⟩, Below.refl _ _⟩
  case round =>
    obtain ⟨i, hk, rfl, ⟨a1, c1, rs, rfl, ro, hd⟩, hbel⟩ := hrel
    by_cases hlt : i < n
    · obtain ⟨m, hm⟩ : ∃ m, m = i * wd := ⟨_, rfl⟩
      have hmb : m ≤ 8 * 4 := by rw [hm]; exact Nat.mul_le_mul (by omega) hw.2
      have t3 : IntKind.i64.wrap ((i : Int) * (wd : Int)) = (m : Int) := by rw [hm, Int.natCast_mul]; exact IntWalk.i64_in _ (by rw [← Int.natCast_mul, ← hm]; omega)
      have HS : Hid (ceL wd (i + 1) = ceL wd i ++ [spL (m : Int) wd]) := Lib.hid (by rw [ceL_succ, hm, Int.natCast_mul])
      have HD := Lib.hid hd
      clear hm hd
      go_wp2_with fail
      refine (span_any (m : Int) wd _ (by omega) (by omega)).mono ?_; rintro e w3 ⟨a3, c3, rfl, o3, u3⟩
      have ro3 := ro.below u3
      have b3 := hbel.trans (u3.mono hbel.size)
      have hrA := o3.away ro.out (Nat.le_refl _)
      have hrI : IntD w3 a3 wd c3 (spL (m : Int) wd) [] := ⟨o3.ints, fun _ _ _ h => by cases h⟩
      have lc : (spL (m : Int) wd).length = wd := spL_len _ _
      have HSP := Lib.hid (show spL (m : Int) wd = spL (m : Int) wd from rfl)
      obtain ⟨L, hL⟩ : ∃ L, L = spL (m : Int) wd := ⟨_, rfl⟩
      rw [← hL] at hrI lc HS
      clear hL HSP o3 u3 ro hbel
      go_wp2_with (at_builtin; refine wpList_appR _ rfl _ _ rfl w2.heap.size _ i _ _ rfl (RwO.alloc ro3 _).out _ 1 (a3, c3, L) rfl (RowC.litR _ _ _ (rowV_of lc) _) (by omega) (by have := b3.size; simp; omega) ?_)
      intro aa ca wa oo ba ga ma
      rw [← lc] at hrI hrA
      have hrB : ∀ y, 0 < L.length → a3 = some y → y.block ∉ foot a1 c1 := hrA
      have Ra := RwO.push (r := (a3, c3, L)) (RwO.alloc ro3 _) (fun k hk => by cases hk) (hrI.below ((Below.refl _ _).alloc (Nat.le_refl _) _)) hrB oo ga ma
      have Ba := (b3.alloc b3.size _).trans ba
      clear ro3 b3 hrI hrA hrB oo ba ga ma
      have HLC := Lib.hid lc
      clear lc
      go_wp2
      go_roundw
      case rel => exact ⟨i + 1, by omega, by go_num, ⟨_, _, _, rfl, Ra, by rw [datas_push, HS.out, HD.out]⟩, Ba⟩
      case measure => simp [intOf]; omega
    · obtain rfl : i = n := by omega
      have HD := Lib.hid hd
      clear hd
      have hge : ¬ (i : Int) < (i : Int) := by omega
      have rd := ro.rwD
      have R3 := R2.below hbel
      have V3 := V2.trans (hbel.mono V2.size)
      have Z3 : w.heap.size + 1 ≤ wr.heap.size := Nat.le_trans Z2 hbel.size
      clear ro R2 V2 Z2 hbel
      go_wp2_with fail
      have u4 : Below wr.heap.size wr (wr.alloc (.cells #[.int .i64 (q : Int), .int .i64 ((v : Int) + (more : Int)), .slice none 0 0, .slice none 0 0] 81)) := (Below.refl _ _).alloc (Nat.le_refl _) _
      have M4 : Mk 81 (wr.alloc (.cells #[.int .i64 (q : Int), .int .i64 ((v : Int) + (more : Int)), .slice none 0 0, .slice none 0 0] 81)) wr.heap.size wr.heap.size q ((v : Int) + more) [] [wr.heap.size] := Mk.new 81 wr wr.heap.size q ((v : Int) + more) (Nat.le_refl _)
      have Z4 : wr.heap.size + 1 ≤ (wr.alloc (.cells #[.int .i64 (q : Int), .int .i64 ((v : Int) + (more : Int)), .slice none 0 0, .slice none 0 0] 81)).heap.size := by simp
      have rd4 : RwD _ _ i _ _ [wr.heap.size] := rd.toNew u4 (fun k hk => by simp at hk; omega)
      have R4 := R3.below u4
      have V4 := V3.trans (u4.mono V3.size)
      clear R3 V3 rd u4
      generalize (wr.alloc (.cells #[.int .i64 (q : Int), .int .i64 ((v : Int) + (more : Int)), .slice none 0 0, .slice none 0 0] 81)) = w4 at *
      generalize wr.heap.size = g at *
      refine (span_any (q : Int) v _ (by omega) (by omega)).mono ?_; rintro e w5 ⟨xa, xc, rfl, ox, u5⟩
      have M5 := M4.below u5
      have rd5 := rd4.below u5
      have dx := ox.intD (Disj.of_rng ox.feet M4.feet (.inr (Nat.le_refl _)))
      have R5 := R4.below u5
      have V5 := V4.trans (u5.mono V4.size)
      have Z5 := u5.size
      clear R4 V4 rd4 ox M4 u5
      have HC := Lib.hid (HCL.out w5 g g [g] _ _ rs _ _ V5 M5 (by omega) (fun k hk => by simp at hk; omega) rd5 HD.out dx)
      clear M5 rd5 dx
      go_wp2_with fail
      refine HC.out.mono ?_; rintro e w6 ⟨oa, on, oc, F6, rfl, oo, dd, M6, s6⟩
      clear HC HCL
      obtain ⟨ga, gn, gc, hB, ho, hg, hbg, hF⟩ := M6
      have x3 := hB.cell 3
      have y3 := hB.frozen 3
      have hgn := ho.len
      have HOK2 : Hid (ciB (q : Int) ((v : Int) + more) gn p.1 p.2 = true) := Lib.hid (by have := HOK.out; rw [hgn, Nat.mul_div_cancel _ (by decide)] at this; exact this)
      clear hgn HOK
      have R6 := R5.only s6.only (by simp; omega)
      have V6 := V5.trans (s6.out (B := w.heap.size) V5.size (by simp; omega))
      have Z6 := s6.size
      have O7 : Only [g] w6 (w6.setCell ⟨g, 3, none⟩ (.slice oa on oc)) := (Only.refl _ _).setCell _ _ (by simp)
      have B7 : Blk (w6.setCell ⟨g, 3, none⟩ (.slice oa on oc)) g 81 #[.int .i64 (q : Int), .int .i64 ((v : Int) + (more : Int)), .slice ga gn gc, .slice oa on oc] := hB.set_ 3 _
      have R7 := R6.only O7 (by simp; omega)
      have ho7 := OwnF.only ho O7 (fun k hk hk' => hg (by simp at hk'; subst hk'; exact hk))
      have oo7 := Own.only oo O7 (fun k hk hk' => dd k hk (by rw [hF]; simp at hk'; subst hk'; simp))
      have hdd : Disj (foot ga gc) (foot oa oc) := fun k hk hk' => dd k hk' (by rw [hF]; exact List.mem_cons_of_mem _ hk)
      have V7 := V6.trans (O7.below V6.size (by simp; omega))
      clear hB ho oo dd s6 R5 R6 V6 V5 O7 hF hg hbg
      have z0 : (w6.setCell ⟨g, 3, none⟩ (.slice oa on oc)).cell? ⟨g, 0, none⟩ = some (.int .i64 (q : Int)) := B7.cell 0
      have z1 : (w6.setCell ⟨g, 3, none⟩ (.slice oa on oc)).cell? ⟨g, 1, none⟩ = some (.int .i64 ((v : Int) + (more : Int))) := B7.cell 1
      have z2 : (w6.setCell ⟨g, 3, none⟩ (.slice oa on oc)).cell? ⟨g, 2, none⟩ = some (.slice ga gn gc) := B7.cell 2
      have z3 : (w6.setCell ⟨g, 3, none⟩ (.slice oa on oc)).cell? ⟨g, 3, none⟩ = some (.slice oa on oc) := B7.cell 3
      go_wp2_with fail
      clear x3 y3 z0 z1 z2 z3 B7
      generalize (w6.setCell ⟨g, 3, none⟩ (.slice oa on oc)) = w7 at *
      refine (valid_yes _ _ _ _ _ p.1 _ _ _ p.2 _ ho7.flat oo7.ints HOK2.out).mono ?_; rintro e w8 ⟨rfl, u8⟩
      have V8 := V7.trans (u8.mono V7.size)
      have R8 := R7.below u8
      have ho8 := ho7.below u8
      have oo8 := oo7.below u8
      have Q1 := Lib.hid ho8.feet
      have Q2 := Lib.hid oo8.feet
      clear V7 R7 ho7 oo7 u8
      have r0 : w8.cell? ⟨w.heap.size, 0, none⟩ = some (.int .i64 0) := R8.cell 0
      have r1 : w8.cell? ⟨w.heap.size, 1, none⟩ = some (.int .i64 0) := R8.cell 1
      have r2 : w8.cell? ⟨w.heap.size, 2, none⟩ = some (.slice none 0 0) := R8.cell 2
      have r3 : w8.cell? ⟨w.heap.size, 3, none⟩ = some (.slice none 0 0) := R8.cell 3
      have q0 : w8.frozen? ⟨w.heap.size, 0, none⟩ = false := R8.frozen 0
      have q1 : w8.frozen? ⟨w.heap.size, 1, none⟩ = false := R8.frozen 1
      have q2 : w8.frozen? ⟨w.heap.size, 2, none⟩ = false := R8.frozen 2
      have q3 : w8.frozen? ⟨w.heap.size, 3, none⟩ = false := R8.frozen 3
      go_wp2
      have GG := (((((Only.refl [w.heap.size] w8).setCell ⟨w.heap.size, 0, none⟩ (.int .i64 (q : Int)) (by simp)).setCell ⟨w.heap.size, 1, none⟩ (.int .i64 ((v : Int) + (more : Int))) (by simp)).setCell ⟨w.heap.size, 2, none⟩ (.slice ga gn gc) (by simp)).setCell ⟨w.heap.size, 3, none⟩ (.slice oa on oc) (by simp))
      exact bodyPost_ret (v := .tuple #[.agg #[.int .i64 (q : Int), .int .i64 ((v : Int) + (more : Int)), .slice ga gn gc, .slice oa on oc], .bool true]) (by simp [results, Try.results49, go_sem, r0, r1, r2, r3]) rfl ⟨_, _, _, _, _, _, rfl, (ho8.only GG (fun k hk hk' => by have := Q1.out k hk; simp at hk'; omega)).lower (by omega), (oo8.only GG (fun k hk hk' => by have := Q2.out k hk; simp at hk'; omega)).lower (by omega), hdd, V8.trans (GG.below V8.size (by simp))⟩
end Go.Proofs.Ytkbhigdciokfkaa
namespace Go.Proofs.Ytkbhigdciokfkaa
open Go.RowKit
def mS0 (n w : Int) : Int := if memB n w then n * w else 0
def mS1 (kind : Nat) (n w : Int) : Int := if memB n w then ((wid n : Nat) : Int) + ((meMore kind w.toNat : Nat) : Int) else 0
def mG (kind : Nat) (n w : Int) : List Int := if memB n w then (meG kind n.toNat w.toNat).1 else []
def mO (kind : Nat) (n w : Int) : List Int := if memB n w then (meG kind n.toNat w.toNat).2 else []
theorem memB_true {n w : Int} (h : memB n w = true) : (1 ≤ n ∧ n ≤ 8) ∧ (1 ≤ w ∧ w ≤ 4) ∧ n * w ≤ 20 := by
  simp only [memB, Bool.and_eq_true, decide_eq_true_eq] at h
  exact ⟨inB_true h.1.1, inB_true h.1.2, h.2⟩
theorem m_len (kind : Nat) (n w : Int) : (mG kind n w).length ≤ 900 ∧ (mO kind n w).length ≤ 900 := by
  unfold mG mO
  split
  · rename_i h
    obtain ⟨⟨a, b⟩, ⟨c, d⟩, _⟩ := memB_true h
    obtain ⟨_, e, f⟩ := meG_good kind n.toNat w.toNat (by omega) (by omega) (by omega) (by omega)
    exact ⟨by omega, by omega⟩
  · simp
theorem m_ok (kind n w : Nat) (h : memB n w = true) : ciB ((n * w : Nat) : Int) (((wid (n : Int) : Nat) : Int) + ((meMore kind w : Nat) : Int)) ((meG kind n w).1.length / 3) (meG kind n w).1 (meG kind n w).2 = true := by
  obtain ⟨⟨a, b⟩, ⟨c, d⟩, e⟩ := memB_true h
  have := me_ok kind n w (by omega) (by omega) (by omega) (by omega)
  rw [Int.natCast_add] at this
  rw [this, decide_eq_true_eq]
  rw [← Int.natCast_mul] at e
  omega
theorem enters_of {f : FuncId} {fn : Func} (hf : Try.prog.funcs[f]? = some fn) (hname : (fn.name == "runtime.NumGoroutine") = false) (hb : fn.body.isSome = true) : ∀ (args : Array Value) (w : World), (callFunc f args).run Try.prog w = .ok (.enter f args) w := fun args w => enters hf hname hb args w
theorem turn_clo (n wd v : Nat) (w : World) (hn : 1 ≤ n ∧ n ≤ 8) (hw : 1 ≤ wd ∧ wd ≤ 4) (hv : wid n = v) (nb : Nat) (hnb : w.cell? ⟨nb, 0, none⟩ = some (.int .i64 n)) : CloP 61 #[.pointer (some ⟨nb, 0, none⟩)] w (n * wd) n wd v 0 (meG 3 n wd) := by
  intro W b g F ca cc rs ia ic u hM hb hF hr hd hx
  have hv3 : v ≤ 3 := by rw [← hv]; exact wid8 n hn.2
  have hq : n * wd ≤ 8 * 4 := Nat.mul_le_mul hn.2 hw.2
  have eB : ((n * wd : Nat) : Int) + ((v : Int) + ((0 : Nat) : Int)) = meB n wd v 0 := by unfold meB; simp
  have hAL : AllL wd (datas' rs) := by rw [hd]; exact ceL_all wd n
  have h := turn_any ca n cc rs ia v ic _ wd b g (n * wd : Nat) ((v : Int) + ((0 : Nat) : Int)) [] F W hM hb (by omega) (by omega) hr hx hAL hn (by omega) (by omega) (by simp) nb (by omega) (by rw [u.cell (World.block_lt_of_cell? w _ hnb)]; exact hnb) (fun hm => by have := hF _ hm; have := World.block_lt_of_cell? w _ hnb; simp at this; omega)
  rw [eB, hd] at h
  have e : meG 3 n wd = ((tuG (meB n wd v 0) (spL ((n * wd : Nat) : Int) v) (ceL wd n) [] v).1, (tuG (meB n wd v 0) (spL ((n * wd : Nat) : Int) v) (ceL wd n) [] v).2.flatten) := by unfold meG; rw [if_neg (by decide), if_neg (by decide), if_neg (by decide), hv]; rfl
  rw [e]
  exact h
theorem turn_enters : ∀ (args : Array Value) (w : World), (callFunc 61 args).run Try.prog w = .ok (.enter 61 args) w := enters_of Try.func61 (by kernel_rfl) (by kernel_rfl)
set_option maxHeartbeats 8000000 in
set_option maxRecDepth 100000 in
theorem TurnCircuit_any (n wd : Int) (w : World) :
    Calls Try.prog 27 #[.int .i64 n, .int .i64 wd] w fun e w' => ∃ ga gn gc oa on oc, e = .returned (.tuple #[.agg #[.int .i64 (mS0 n wd), .int .i64 (mS1 3 n wd), .slice ga gn gc, .slice oa on oc], .bool (memB n wd)]) ∧ OwnF 3 eGate w' w.heap.size ga gn gc (mG 3 n wd) ∧ Own w' w.heap.size oa on oc (mO 3 n wd) ∧ Disj (foot ga gc) (foot oa oc) ∧ Below w.heap.size w w' := by
  have V1 : Below w.heap.size w ((w.alloc (.cells #[.int .i64 n] 3)).alloc (.cells #[.int .i64 0, .int .i64 0, .slice none 0 0, .slice none 0 0] 25)) := (((Below.refl _ _).alloc (by simp) _).alloc (by simp) _)
  have R1 : Blk ((w.alloc (.cells #[.int .i64 n] 3)).alloc (.cells #[.int .i64 0, .int .i64 0, .slice none 0 0, .slice none 0 0] 25)) (w.heap.size + 1) 25 #[.int .i64 0, .int .i64 0, .slice none 0 0, .slice none 0 0] := by simpa using (Blk.new (w.alloc (.cells #[.int .i64 n] 3)) 25 #[.int .i64 0, .int .i64 0, .slice none 0 0, .slice none 0 0])
  have Z1 : w.heap.size + 1 + 1 ≤ ((w.alloc (.cells #[.int .i64 n] 3)).alloc (.cells #[.int .i64 0, .int .i64 0, .slice none 0 0, .slice none 0 0] 25)).heap.size := by simp
  have B0 : Blk ((w.alloc (.cells #[.int .i64 n] 3)).alloc (.cells #[.int .i64 0, .int .i64 0, .slice none 0 0, .slice none 0 0] 25)) (w.heap.size) 3 #[.int .i64 n] := by simpa using (((Blk.new w 3 #[.int .i64 n]).alloc _) : Blk ((w.alloc (.cells #[.int .i64 n] 3)).alloc (.cells #[.int .i64 0, .int .i64 0, .slice none 0 0, .slice none 0 0] 25)) _ _ _)
  unfold mS0 mS1 mG mO
  cases hm : memB n wd
  · simp only [Bool.false_eq_true, if_false]
    go_enter Try.func27, Try.ntmps27
    go_wp2_with fail
    generalize ((w.alloc (.cells #[.int .i64 n] 3)).alloc (.cells #[.int .i64 0, .int .i64 0, .slice none 0 0, .slice none 0 0] 25)) = w1 at *
    refine (memory_no n wd _ _ _ _ hm).mono ?_; rintro e w2 ⟨rfl, u2⟩
    have V2 := V1.trans (u2.mono V1.size)
    have R2 := R1.below u2
    clear V1 R1 u2 B0
    have r0 : w2.cell? ⟨w.heap.size + 1, 0, none⟩ = some (.int .i64 0) := R2.cell 0
    have r1 : w2.cell? ⟨w.heap.size + 1, 1, none⟩ = some (.int .i64 0) := R2.cell 1
    have r2 : w2.cell? ⟨w.heap.size + 1, 2, none⟩ = some (.slice none 0 0) := R2.cell 2
    have r3 : w2.cell? ⟨w.heap.size + 1, 3, none⟩ = some (.slice none 0 0) := R2.cell 3
    have q0 : w2.frozen? ⟨w.heap.size + 1, 0, none⟩ = false := R2.frozen 0
    have q1 : w2.frozen? ⟨w.heap.size + 1, 1, none⟩ = false := R2.frozen 1
    have q2 : w2.frozen? ⟨w.heap.size + 1, 2, none⟩ = false := R2.frozen 2
    have q3 : w2.frozen? ⟨w.heap.size + 1, 3, none⟩ = false := R2.frozen 3
    go_wp2
    have GG := (((((Only.refl [w.heap.size + 1] w2).setCell ⟨w.heap.size + 1, 0, none⟩ (.int .i64 0) (by simp)).setCell ⟨w.heap.size + 1, 1, none⟩ (.int .i64 0) (by simp)).setCell ⟨w.heap.size + 1, 2, none⟩ (.slice none 0 0) (by simp)).setCell ⟨w.heap.size + 1, 3, none⟩ (.slice none 0 0) (by simp))
    exact bodyPost_ret (v := .tuple #[.agg #[.int .i64 0, .int .i64 0, .slice none 0 0, .slice none 0 0], .bool false]) (by simp [results, Try.results27, go_sem, r0, r1, r2, r3]) rfl ⟨none, 0, 0, none, 0, 0, rfl, OwnC.nil0 _ _ _ _ _, Own.nil0 _ _ _, foot_nil _ _, V2.trans (GG.below V2.size (by simp))⟩
  · simp only [if_true]
    obtain ⟨⟨n1, n2⟩, ⟨d1, d2⟩, hnw⟩ := memB_true hm
    obtain ⟨n, rfl⟩ : ∃ k : Nat, n = k := ⟨n.toNat, by omega⟩
    obtain ⟨wd, rfl⟩ : ∃ k : Nat, wd = k := ⟨wd.toNat, by omega⟩
    rw [← Int.natCast_mul] at hnw
    have hok := m_ok 3 n wd hm
    simp only [Int.toNat_natCast]
    clear hm
    have eM : meMore 3 wd = 0 := by unfold meMore; simp
    rw [eM] at hok ⊢
    obtain ⟨v, hv⟩ : ∃ v, wid (n : Int) = v := ⟨_, rfl⟩
    rw [hv] at hok ⊢
    have HV := Lib.hid hv
    have HOK := Lib.hid hok
    clear hv hok eM
    have e3 : ((n : Int) * (wd : Int)) = ((n * wd : Nat) : Int) := (Int.natCast_mul _ _).symm
    rw [e3]
    clear e3
    obtain ⟨p, hp⟩ : ∃ p, p = meG 3 n wd := ⟨_, rfl⟩
    rw [← hp] at HOK ⊢
    have HP := Lib.hid hp
    clear hp
    have HCL : Hid (CloP 61 #[.pointer (some ⟨w.heap.size, 0, none⟩)] ((w.alloc (.cells #[.int .i64 n] 3)).alloc (.cells #[.int .i64 0, .int .i64 0, .slice none 0 0, .slice none 0 0] 25)) (n * wd) n wd v 0 p) := Lib.hid (by rw [HP.out]; exact turn_clo n wd v _ (by omega) (by omega) HV.out _ (B0.cell 0))
    go_enter Try.func27, Try.ntmps27
    go_wp2_with fail
    generalize ((w.alloc (.cells #[.int .i64 n] 3)).alloc (.cells #[.int .i64 0, .int .i64 0, .slice none 0 0, .slice none 0 0] 25)) = w1 at *
    have V1s : w.heap.size ≤ w1.heap.size := V1.size
    refine (memory_yes n wd 0 v _ _ p _ (by omega) (by omega) (by omega) (by omega) HV.out HCL.out turn_enters HOK.out).mono ?_; rintro e w2 ⟨ga, gn, gc, oa, on, oc, rfl, og, oo, dd, u2⟩
    have V2 := V1.trans (u2.mono V1.size)
    have R2 := R1.below u2
    have Z2 := u2.size
    have Q1 := Lib.hid og.feet
    have Q2 := Lib.hid oo.feet
    clear V1 R1 u2 HCL B0
    have r0 : w2.cell? ⟨w.heap.size + 1, 0, none⟩ = some (.int .i64 0) := R2.cell 0
    have r1 : w2.cell? ⟨w.heap.size + 1, 1, none⟩ = some (.int .i64 0) := R2.cell 1
    have r2 : w2.cell? ⟨w.heap.size + 1, 2, none⟩ = some (.slice none 0 0) := R2.cell 2
    have r3 : w2.cell? ⟨w.heap.size + 1, 3, none⟩ = some (.slice none 0 0) := R2.cell 3
    have q0 : w2.frozen? ⟨w.heap.size + 1, 0, none⟩ = false := R2.frozen 0
    have q1 : w2.frozen? ⟨w.heap.size + 1, 1, none⟩ = false := R2.frozen 1
    have q2 : w2.frozen? ⟨w.heap.size + 1, 2, none⟩ = false := R2.frozen 2
    have q3 : w2.frozen? ⟨w.heap.size + 1, 3, none⟩ = false := R2.frozen 3
    go_wp2
    have GG := (((((Only.refl [w.heap.size + 1] w2).setCell ⟨w.heap.size + 1, 0, none⟩ (.int .i64 ((n * wd : Nat) : Int)) (by simp)).setCell ⟨w.heap.size + 1, 1, none⟩ (.int .i64 ((v : Int) + ((0 : Nat) : Int))) (by simp)).setCell ⟨w.heap.size + 1, 2, none⟩ (.slice ga gn gc) (by simp)).setCell ⟨w.heap.size + 1, 3, none⟩ (.slice oa on oc) (by simp))
    exact bodyPost_ret (v := .tuple #[.agg #[.int .i64 ((n * wd : Nat) : Int), .int .i64 ((v : Int) + ((0 : Nat) : Int)), .slice ga gn gc, .slice oa on oc], .bool true]) (by simp [results, Try.results27, go_sem, r0, r1, r2, r3]) rfl ⟨_, _, _, _, _, _, rfl, (og.only GG (fun k hk hk' => by have := Q1.out k hk; simp at hk'; omega)).lower V1s, (oo.only GG (fun k hk hk' => by have := Q2.out k hk; simp at hk'; omega)).lower V1s, dd, V2.trans (GG.below V2.size (by simp))⟩
end Go.Proofs.Ytkbhigdciokfkaa
namespace Go.Proofs.Ytkbhigdciokfkaa
open Go.RowKit
set_option maxHeartbeats 4000000 in
theorem ciNew_any (_i0 _i1 : Int) (b : Nat) (w : World) (hb : b ≤ w.heap.size) :
    Calls Try.prog 82 #[.int .i64 _i0, .int .i64 _i1] w fun e w' => e = .returned (.pointer (some ⟨w.heap.size, 0, none⟩)) ∧ Mk 79 w' b w.heap.size _i0 _i1 [] [w.heap.size] ∧ Below w.heap.size w w' ∧ w.heap.size + 1 ≤ w'.heap.size := by
  go_enter Try.func82, Try.ntmps82
  go_wp2
  go_ret
  exact ⟨rfl, Mk.new _ w b _i0 _i1 hb, (Below.refl _ _).alloc (Nat.le_refl _) _, by simp⟩
end Go.Proofs.Ytkbhigdciokfkaa
namespace Go.Proofs.Ytkbhigdciokfkaa
open Go.RowKit
/-- A row that is read, in blocks from b on. -/
structure Rd (w : World) (b : Nat) (a : Option Addr) (n c : Nat) (l : List Int) : Prop where
  ints : Ints w a n c l
  feet : ∀ k ∈ foot a c, b ≤ k ∧ k < w.heap.size
theorem Own.rd {w b a n c l} (o : Own w b a n c l) : Rd w b a n c l := ⟨o.ints, o.feet⟩
theorem Rd.len {w b a n c l} (h : Rd w b a n c l) : n = l.length := h.ints.len
theorem Rd.below {w w' b a n c l} (h : Rd w b a n c l) (u : Below w.heap.size w w') : Rd w' b a n c l := ⟨h.ints.below u, fun k hk => ⟨(h.feet k hk).1, Nat.lt_of_lt_of_le (h.feet k hk).2 u.size⟩⟩
theorem Rd.alloc {w b a n c l} (h : Rd w b a n c l) (o : Obj) : Rd (w.alloc o) b a n c l := h.below ((Below.refl _ _).alloc (Nat.le_refl _) _)
theorem Rd.only {F w w' b a n c l} (h : Rd w b a n c l) (u : Only F w w') (d : Disj (foot a c) F) : Rd w' b a n c l :=
  ⟨h.ints.only u (fun x hn hx hm => d x.block (by rw [hx]; exact foot_mem (by have := h.ints.2.1; omega)) hm), fun k hk => ⟨(h.feet k hk).1, Nat.lt_of_lt_of_le (h.feet k hk).2 u.size⟩⟩
theorem Rd.lower {w b b' a n c l} (h : Rd w b a n c l) (hb : b' ≤ b) : Rd w b' a n c l := ⟨h.ints, fun k hk => ⟨Nat.le_trans hb (h.feet k hk).1, (h.feet k hk).2⟩⟩
set_option maxHeartbeats 4000000 in
theorem meGood_any (n wd : Int) (w : World) :
    Calls Try.prog 93 #[.int .i64 n, .int .i64 wd] w fun e w' => e = .returned (.bool (inB n 1 8 && inB wd 1 4)) ∧ w = w' := by
  cases h1 : inB n 1 8
  · simp only [Bool.false_and]
    go_enter Try.func93, Try.ntmps93
    go_wp2_with (first | (go_at_call 76; refine (l1In_any _ _ _ _).mono ?_; rintro e w' ⟨rfl, rfl⟩))
    go_ret
    exact ⟨rfl, rfl⟩
  · simp only [Bool.true_and]
    go_enter Try.func93, Try.ntmps93
    go_wp2_with (first | (go_at_call 76; refine (l1In_any _ _ _ _).mono ?_; rintro e w' ⟨rfl, rfl⟩))
    go_ret
    exact ⟨rfl, rfl⟩
set_option maxHeartbeats 4000000 in
theorem meIndex_any (n : Int) (w : World) (h1 : 1 ≤ n) (h2 : n ≤ 256) :
    Calls Try.prog 114 #[.int .i64 n] w fun e w' => e = .returned (.int .i64 (wid n)) ∧ w = w' := by
  go_enter Try.func114, Try.ntmps114
  go_wp2_with (first | (go_at_call 65; refine (cvWidth_any _ _ h1 h2).mono ?_; rintro e w' ⟨rfl, rfl⟩))
  go_ret
  exact ⟨rfl, rfl⟩
set_option maxHeartbeats 8000000 in
set_option maxRecDepth 100000 in
theorem meStart_any (n wd more v : Nat) (w : World) (hn : 1 ≤ n ∧ n ≤ 8) (hw : 1 ≤ wd ∧ wd ≤ 4) (hmo : more ≤ 4) (hv : wid (n : Int) = v) :
    Calls Try.prog 135 #[.int .i64 n, .int .i64 wd, .int .i64 more] w fun e w' => ∃ g ca cc rs ia ic, e = .returned (.tuple #[.pointer (some ⟨g, 0, none⟩), .slice ca n cc, .slice ia v ic]) ∧ Mk 79 w' w.heap.size g ((n * wd : Nat) : Int) ((v : Int) + more) [] [g] ∧ RwD w' ca n cc rs [g] ∧ datas' rs = ceL wd n ∧ (∀ r ∈ rs, ∀ k ∈ foot r.1 r.2.1, w.heap.size ≤ k) ∧ IntD w' ia v ic (spL ((n * wd : Nat) : Int) v) [g] ∧ Below w.heap.size w w' := by
  have hv3 : v ≤ 3 := by rw [← hv]; exact wid8 n hn.2
  obtain ⟨q, hq⟩ : ∃ q, q = n * wd := ⟨_, rfl⟩
  have hqb : q ≤ 8 * 4 := by rw [hq]; exact Nat.mul_le_mul hn.2 hw.2
  rw [← hq]
  have t1 : IntKind.i64.wrap ((n : Int) * (wd : Int)) = (q : Int) := by rw [hq, Int.natCast_mul]; exact IntWalk.i64_in _ (by rw [← Int.natCast_mul, ← hq]; omega)
  have HV := Lib.hid hv
  clear hv hq
  have t2 : IntKind.i64.wrap ((v : Int) + (more : Int)) = (v : Int) + (more : Int) := IntWalk.i64_in _ (by omega)
  go_enter Try.func135, Try.ntmps135
  go_wp2_with fail
  refine (meIndex_any _ _ (by omega) (by omega)).mono ?_; rintro e w' ⟨rfl, rfl⟩
  rw [HV.out]
  go_wp2_with fail
  refine (ciNew_any (q : Int) ((v : Int) + more) w.heap.size _ (Nat.le_refl _)).mono ?_; rintro e w2 ⟨rfl, M2, u2, Z2⟩
  go_wp2
  have hgl : w.heap.size < w2.heap.size := by omega
  go_loopw [10, 11] (fun y u wr => ∃ i, i ≤ n ∧ u = .int .i64 (i : Nat) ∧ (∃ a1 c1 rs, y = .slice a1 i c1 ∧ RwO wr w2.heap.size a1 i c1 rs [w.heap.size] ∧ datas' rs = ceL wd i ∧ (∀ r ∈ rs, ∀ k ∈ foot r.1 r.2.1, w.heap.size ≤ k)) ∧ Below w2.heap.size w2 wr) (fun _ u _ => n - (intOf u).toNat)
  case atStart => exact ⟨0, Nat.zero_le _, rfl, ⟨_, _, [], rfl, RwO.nil _ _ _ _, rfl, fun r hr => by cases hr⟩, Below.refl _ _⟩
  case round =>
    obtain ⟨i, hk, rfl, ⟨a1, c1, rs, rfl, ro, hd, hhi⟩, hbel⟩ := hrel
    by_cases hlt : i < n
    · obtain ⟨m, hm⟩ : ∃ m, m = i * wd := ⟨_, rfl⟩
      have hmb : m ≤ 8 * 4 := by rw [hm]; exact Nat.mul_le_mul (by omega) hw.2
      have t3 : IntKind.i64.wrap ((i : Int) * (wd : Int)) = (m : Int) := by rw [hm, Int.natCast_mul]; exact IntWalk.i64_in _ (by rw [← Int.natCast_mul, ← hm]; omega)
      have HS : Hid (ceL wd (i + 1) = ceL wd i ++ [spL (m : Int) wd]) := Lib.hid (by rw [ceL_succ, hm, Int.natCast_mul])
      have HD := Lib.hid hd
      have HH := Lib.hid hhi
      clear hm hd hhi
      go_wp2_with fail
      refine (gdRange_any (m : Int) wd _ (by omega) (by omega)).mono ?_; rintro e w3 ⟨a3, c3, rfl, o3, u3⟩
      have ro3 := ro.below u3
      have b3 := hbel.trans (u3.mono hbel.size)
      have hrA := o3.away ro.out (Nat.le_refl _)
      have hrI : IntD w3 a3 wd c3 (spL (m : Int) wd) [w.heap.size] := o3.intD (fun k hk hk' => by have := (o3.feet k hk).1; have := hbel.size; simp at hk'; omega)
      have hr3 : ∀ k ∈ foot a3 c3, w.heap.size ≤ k := fun k hk => by have := (o3.feet k hk).1; have := hbel.size; omega
      have lc : (spL (m : Int) wd).length = wd := spL_len _ _
      obtain ⟨L, hL⟩ : ∃ L, L = spL (m : Int) wd := ⟨_, rfl⟩
      rw [← hL] at hrI lc HS
      clear hL o3 u3 ro hbel
      have HR3 := Lib.hid hr3
      clear hr3
      go_wp2_with (at_builtin; refine wpList_appR _ rfl _ _ rfl w2.heap.size _ i _ _ rfl (RwO.alloc ro3 _).out _ 1 (a3, c3, L) rfl (RowC.litR _ _ _ (rowV_of lc) _) (by omega) (by have := b3.size; simp; omega) ?_)
      intro aa ca wa oo ba ga ma
      rw [← lc] at hrI hrA
      have hrB : ∀ y, 0 < L.length → a3 = some y → y.block ∉ foot a1 c1 := hrA
      have Ra := RwO.push (r := (a3, c3, L)) (RwO.alloc ro3 _) (fun k hk => by have := b3.size; simp at hk; simp; omega) (hrI.below ((Below.refl _ _).alloc (Nat.le_refl _) _)) hrB oo ga ma
      have Ba := (b3.alloc b3.size _).trans ba
      clear ro3 b3 hrI hrA hrB oo ba ga ma
      have HLC := Lib.hid lc
      clear lc
      go_wp2
      go_roundw
      case rel => exact ⟨i + 1, by omega, by go_num, ⟨_, _, _, rfl, Ra, by rw [datas_push, HS.out, HD.out], fun r hr k hk => by
        rcases List.mem_append.1 hr with hr | hr
        · exact HH.out r hr k hk
        · rw [List.mem_singleton] at hr; subst hr; exact HR3.out k hk⟩, Ba⟩
      case measure => simp [intOf]; omega
    · obtain rfl : i = n := by omega
      have HD := Lib.hid hd
      have HH := Lib.hid hhi
      clear hd hhi
      have hge : ¬ (i : Int) < (i : Int) := by omega
      have M3 := M2.below hbel
      have rd := ro.rwD
      clear ro
      go_wp2_with fail
      refine (meIndex_any _ _ (by omega) (by omega)).mono ?_; rintro e w' ⟨rfl, rfl⟩
      rw [HV.out]
      go_wp2_with fail
      refine (gdRange_any (q : Int) v _ (by omega) (by omega)).mono ?_; rintro e w5 ⟨xa, xc, rfl, ox, u5⟩
      have dx := ox.intD (Disj.of_rng ox.feet M3.feet (.inr (Nat.le_refl _)))
      have V5 := (u2.trans (hbel.mono u2.size)).trans (u5.mono (u2.trans (hbel.mono u2.size)).size)
      go_wp2
      go_ret3
      exact ⟨_, _, _, _, _, _, rfl, M3.below u5, rd.below u5, HD.out, HH.out, dx, V5⟩
end Go.Proofs.Ytkbhigdciokfkaa
