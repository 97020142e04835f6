/- Rows of rows of wires beside a maker. -/
import Derived.Test.YtkbhigdciokfkaaMkC
import Derived.Test.YtkbhigdciokfkaaSS
namespace Go.Proofs.Ytkbhigdciokfkaa
open Go.RowKit
theorem RowC.only {w w' : World} {X a n c sz xs} (h : RowC w a n c sz xs) (u : Only X w w') (hd : ∀ x, 0 < n → a = some x → x.block ∉ X) : RowC w' a n c sz xs := by
  obtain ⟨h1, h2, h3, hn, g, o, h4, h5⟩ := h
  refine ⟨h1, h2, h3, hn, g, o, h4, fun i v hv => ?_⟩
  have hi : i < xs.length := (List.getElem?_eq_some_iff.1 hv).1
  have h0 : 0 < n := by
    cases n with
    | zero => rw [h1, Nat.zero_mul] at hi; omega
    | succ n => omega
  have hc := h5 i v hv
  have hb : w'.heap[g]? = w.heap[g]? := u.block g (World.block_lt_of_cell? w _ hc) (hd _ h0 (h4 h0))
  simp only [World.cell?] at hc ⊢
  rw [hb]; exact hc
theorem RowC.lt {w : World} {a n c sz xs} (h : RowC w a n c sz xs) (hs : 0 < sz) : ∀ x, 0 < n → a = some x → x.block < w.heap.size := by
  obtain ⟨h1, _, _, _, g, o, h4, h5⟩ := h
  intro x h0 hx
  rw [h4 h0] at hx
  cases hx
  have hl : 0 < xs.length := by rw [h1]; exact Nat.mul_pos h0 hs
  exact World.block_lt_of_cell? w _ (h5 0 xs[0] (by simp [hl]))
/-- A slice of slices that lies outside the blocks F. -/
structure RwD (w : World) (a : Option Addr) (n c : Nat) (rs : List RowD) (F : List Nat) : Prop where
  row : RowC w a n c 1 (rs.map rowV)
  off : ∀ x, 0 < n → a = some x → x.block ∉ F
  inn : ∀ r ∈ rs, IntD w r.1 r.2.2.length r.2.1 r.2.2 F
theorem RwD.stp {w w' : World} {a n c rs F F'} (h : RwD w a n c rs F) (s : Stp F w F' w') : RwD w' a n c rs F' :=
  ⟨h.row.only s.only h.off, fun x hn hx hf => by
    rcases s.more _ hf with e | e
    · exact h.off x hn hx e
    · have := h.row.lt (by decide) x hn hx; omega, fun r hr => (h.inn r hr).stp s⟩
theorem RwD.below {w w' : World} {a n c rs F} (h : RwD w a n c rs F) (u : Below w.heap.size w w') : RwD w' a n c rs F := ⟨h.row.below u, h.off, fun r hr => (h.inn r hr).below u⟩
theorem RwD.len {w a n c rs F} (h : RwD w a n c rs F) : rs.length = n := by have := h.row.1; simpa using this
theorem RwD.le {w a n c rs F} (h : RwD w a n c rs F) : (n : Int) ≤ 9223372036854775807 := by
  have := h.row.2.1; have := h.row.2.2.1; unfold maxLen at this; omega
theorem RwD.at {w a n c rs F} (h : RwD w a n c rs F) (k : Nat) (hk : k < n) : ∃ g o, a = some ⟨g, o, none⟩ ∧ w.cell? ⟨g, o + k, none⟩ = some (.slice (rowAt rs k).1 (rowAt rs k).2.2.length (rowAt rs k).2.1) ∧ IntD w (rowAt rs k).1 (rowAt rs k).2.2.length (rowAt rs k).2.1 (rowAt rs k).2.2 F := by
  have hl := h.len
  obtain ⟨_, _, _, _, g, o, h1, h2⟩ := h.row
  refine ⟨g, o, h1 (by omega), ?_, h.inn _ (rowAt_mem (by omega))⟩
  exact h2 k (rowV (rowAt rs k)) (by rw [List.getElem?_map, rowAt_some (by omega)]; rfl)
theorem RwD.cellsAt {w g o n c rs F} (h : RwD w (some ⟨g, o, none⟩) n c rs F) (k : Nat) (hk : k < n) : w.cell? ⟨g, o + k, none⟩ = some (.slice (rowAt rs k).1 (rowAt rs k).2.2.length (rowAt rs k).2.1) := by
  obtain ⟨g', o', e, hc, _⟩ := h.at k hk
  cases e
  exact hc
theorem RwD.innAt {w a n c rs F} (h : RwD w a n c rs F) (k : Nat) (hk : k < n) : IntD w (rowAt rs k).1 (rowAt rs k).2.2.length (rowAt rs k).2.1 (rowAt rs k).2.2 F := h.inn _ (rowAt_mem (by rw [h.len]; exact hk))
theorem datas_getD (rs : List RowD) (k : Nat) (hk : k < rs.length) : (datas' rs).getD k [] = (rowAt rs k).2.2 := by
  simp [datas', rowAt, List.getD, hk]
/-- An outer row of the call's own; the rows in it are read. -/
structure RwO (w : World) (b : Nat) (a : Option Addr) (n c : Nat) (rs : List RowD) (F : List Nat) : Prop where
  out : OwnC w b a n c 23 1 (rs.map rowV)
  dis : Disj (foot a c) F
  inn : ∀ r ∈ rs, IntD w r.1 r.2.2.length r.2.1 r.2.2 F
  apart : ∀ r ∈ rs, ∀ x, 0 < r.2.2.length → r.1 = some x → x.block ∉ foot a c
theorem RwO.nil (w : World) (b : Nat) (a : Option Addr) (F : List Nat) : RwO w b a 0 0 [] F := ⟨OwnC.nil0 _ _ _ _ _, foot_nil _ _, fun r hr => (by cases hr), fun r hr => (by cases hr)⟩
theorem RwO.len {w b a n c rs F} (h : RwO w b a n c rs F) : rs.length = n := by have := h.out.1; simpa using this
theorem RwO.rwD {w b a n c rs F} (h : RwO w b a n c rs F) : RwD w a n c rs F :=
  ⟨h.out.row, fun x hn hx hf => h.dis x.block (by rw [hx]; exact foot_mem (by have := h.out.row.2.1; omega)) hf, h.inn⟩
theorem RwO.stp {w w' : World} {b a n c rs F F'} (h : RwO w b a n c rs F) (s : Stp F w F' w') : RwO w' b a n c rs F' :=
  ⟨h.out.only s.only h.dis, fun k hk hf => by
    rcases s.more k hf with e | e
    · exact h.dis k hk e
    · have := (h.out.feet k hk).2; omega, fun r hr => (h.inn r hr).stp s, h.apart⟩
theorem RwO.below {w w' : World} {b a n c rs F} (h : RwO w b a n c rs F) (u : Below w.heap.size w w') : RwO w' b a n c rs F := ⟨h.out.below u, h.dis, fun r hr => (h.inn r hr).below u, h.apart⟩
theorem RwO.alloc {w : World} {b a n c rs F} (h : RwO w b a n c rs F) (o : Obj) : RwO (w.alloc o) b a n c rs F := h.below ((Below.refl _ _).alloc (Nat.le_refl _) _)
theorem RwO.drew {w : World} {b a n c rs F} (h : RwO w b a n c rs F) : RwO w.drew b a n c rs F := h.below ((Below.refl _ _).drew)
theorem RwO.push {w w' : World} {b a n c rs F} {r : RowD} {a5 : Option Addr} {c5 : Nat} (h : RwO w b a n c rs F) (hF : ∀ k ∈ F, k < w.heap.size) (hr : IntD w r.1 r.2.2.length r.2.1 r.2.2 F) (hx : ∀ x, 0 < r.2.2.length → r.1 = some x → x.block ∉ foot a c)
    (o : OwnC w' b a5 (n + 1) c5 23 1 (rs.map rowV ++ [rowV r])) (g : w.grownBy w' (rowOf a c)) (m : Moved w a c a5 c5) : RwO w' b a5 (n + 1) c5 (rs ++ [r]) F := by
  have far : ∀ s : RowD, IntD w s.1 s.2.2.length s.2.1 s.2.2 F → (∀ x, 0 < s.2.2.length → s.1 = some x → x.block ∉ foot a c) → ∀ x, 0 < s.2.2.length → s.1 = some x → x.block ∉ foot a5 c5 := fun s hs hd x h0 hx => by
    have hlt := (hs.1.range x h0 hx).2
    have hne := hd x h0 hx
    intro hm
    exact m.disj (F := [x.block]) (fun k hk hk' => hne (by simp at hk'; subst hk'; exact hk)) (fun k hk => by simp at hk; subst hk; exact hlt) _ hm (by simp)
  refine ⟨by rw [List.map_append]; exact o, m.disj h.dis hF, fun s hs => ?_, fun s hs => ?_⟩
  · rcases List.mem_append.1 hs with hs | hs
    · exact (h.inn s hs).only (Only.of_grown g) (h.apart s hs)
    · rw [List.mem_singleton] at hs; subst hs; exact hr.only (Only.of_grown g) hx
  · rcases List.mem_append.1 hs with hs | hs
    · exact far s (h.inn s hs) (h.apart s hs)
    · rw [List.mem_singleton] at hs; subst hs; exact far s hr hx
theorem datas_push (rs : List RowD) (r : RowD) : datas' (rs ++ [r]) = datas' rs ++ [r.2.2] := by simp [datas']
end Go.Proofs.Ytkbhigdciokfkaa
