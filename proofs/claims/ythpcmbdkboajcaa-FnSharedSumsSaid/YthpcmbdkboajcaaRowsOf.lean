/- Rows of rows of integers that a call made itself. -/
import Derived.Test.YthpcmbdkboajcaaApp2
namespace Go.Proofs.Ythpcmbdkboajcaa
open Go.RowKit

abbrev RowD := Option Addr × Nat × List Int
def rowV (r : RowD) : Value := .slice r.1 r.2.2.length r.2.1
def rowsF (rs : List RowD) : List Nat := rs.flatMap fun r => foot r.1 r.2.1
def feetSS (a : Option Addr) (c : Nat) (rs : List RowD) : List Nat := foot a c ++ rowsF rs
structure OwnSS (w : World) (b : Nat) (a : Option Addr) (n c : Nat) (rs : List RowD) : Prop where
  out : OwnC w b a n c 24 1 (rs.map rowV)
  inn : ∀ r ∈ rs, Own w b r.1 r.2.2.length r.2.1 r.2.2
  dis : rs.Pairwise fun r s => Disj (foot r.1 r.2.1) (foot s.1 s.2.1)
  apart : Disj (foot a c) (rowsF rs)
theorem mem_rowsF {rs : List RowD} {r : RowD} {k : Nat} (hr : r ∈ rs) (hk : k ∈ foot r.1 r.2.1) : k ∈ rowsF rs := List.mem_flatMap.2 ⟨r, hr, hk⟩
theorem rowsF_app (rs rs' : List RowD) : rowsF (rs ++ rs') = rowsF rs ++ rowsF rs' := List.flatMap_append
theorem rowsF_one (r : RowD) : rowsF [r] = foot r.1 r.2.1 := by simp [rowsF]
theorem OwnSS.only {X : List Nat} {w w' : World} {b a n c rs} (h : OwnSS w b a n c rs) (ho : Only X w w') (hd : Disj (feetSS a c rs) X) : OwnSS w' b a n c rs :=
  ⟨h.out.only ho (fun k hk => hd k (List.mem_append_left _ hk)), fun r hr => (h.inn r hr).only ho (fun k hk => hd k (List.mem_append_right _ (mem_rowsF hr hk))), h.dis, h.apart⟩
theorem OwnSS.below {w w' : World} {b a n c rs} (h : OwnSS w b a n c rs) (hb : Below w.heap.size w w') : OwnSS w' b a n c rs :=
  ⟨h.out.below hb, fun r hr => (h.inn r hr).below hb, h.dis, h.apart⟩
theorem OwnSS.alloc {w : World} {b a n c rs} (h : OwnSS w b a n c rs) (o : Obj) : OwnSS (w.alloc o) b a n c rs := h.below ((Below.refl _ _).alloc (Nat.le_refl _) _)
theorem OwnSS.drew {w : World} {b a n c rs} (h : OwnSS w b a n c rs) : OwnSS w.drew b a n c rs := h.below ((Below.refl _ _).drew)
theorem OwnSS.lower {w : World} {b b' a n c rs} (h : OwnSS w b a n c rs) (hb : b' ≤ b) : OwnSS w b' a n c rs :=
  ⟨h.out.lower hb, fun r hr => (h.inn r hr).lower hb, h.dis, h.apart⟩
theorem OwnSS.feet {w : World} {b a n c rs} (h : OwnSS w b a n c rs) : ∀ k ∈ feetSS a c rs, b ≤ k ∧ k < w.heap.size := fun k hk => by
  rcases List.mem_append.1 hk with hk | hk
  · exact h.out.feet k hk
  · obtain ⟨r, hr, hk⟩ := List.mem_flatMap.1 hk
    exact (h.inn r hr).feet k hk
theorem OwnSS.nil0 (w : World) (b : Nat) (a : Option Addr) : OwnSS w b a 0 0 [] :=
  ⟨OwnC.nil0 w b 24 1 a, fun r hr => (by cases hr), List.Pairwise.nil, fun k hk => by simp [foot, rowOf] at hk⟩
theorem feetSS_nil (a : Option Addr) : feetSS a 0 [] = [] := by simp [feetSS, foot, rowOf, rowsF]
theorem OwnSS.push {w w' : World} {b a n c rs} {r : RowD} {a5 : Option Addr} {c5 : Nat} (h : OwnSS w b a n c rs) (hr : Own w b r.1 r.2.2.length r.2.1 r.2.2) (hd : Disj (foot r.1 r.2.1) (feetSS a c rs))
    (o : OwnC w' b a5 (n + 1) c5 24 1 (rs.map rowV ++ [rowV r])) (g : w.grownBy w' (rowOf a c)) (m : Moved w a c a5 c5) : OwnSS w' b a5 (n + 1) c5 (rs ++ [r]) := by
  refine ⟨by rw [List.map_append]; exact o, fun s hs => ?_, ?_, ?_⟩
  · rcases List.mem_append.1 hs with hs | hs
    · exact (h.inn s hs).only (Only.of_grown g) (fun k hk hk' => h.apart k hk' (mem_rowsF hs hk))
    · rw [List.mem_singleton] at hs
      subst hs
      exact hr.only (Only.of_grown g) (fun k hk hk' => hd k hk (List.mem_append_left _ hk'))
  · refine List.pairwise_append.2 ⟨h.dis, List.pairwise_singleton _ _, fun x hx y hy => ?_⟩
    rw [List.mem_singleton] at hy
    subst hy
    exact fun k hk hk' => hd k hk' (List.mem_append_right _ (mem_rowsF hx hk))
  · rw [rowsF_app, rowsF_one]
    refine m.disj (h.apart.app fun k hk hk' => hd k hk' (List.mem_append_left _ hk)) (fun k hk => ?_)
    rcases List.mem_append.1 hk with hk | hk
    · exact (h.feet k (List.mem_append_right _ hk)).2
    · exact (hr.feet k hk).2
/-- What push makes of a family that stands apart. -/
theorem push_feet {w : World} {a c a5 c5} {rs : List RowD} {r : RowD} {X : List Nat} (hX : Disj X (feetSS a c rs)) (hr : Disj X (foot r.1 r.2.1)) (m : Moved w a c a5 c5) (hw : ∀ k ∈ X, k < w.heap.size) : Disj X (feetSS a5 c5 (rs ++ [r])) := by
  unfold feetSS
  rw [rowsF_app, rowsF_one]
  refine Disj.app (m.disj (fun k hk hk' => hX k hk' (List.mem_append_left _ hk)) hw).symm (Disj.app (fun k hk hk' => hX k hk (List.mem_append_right _ hk')) hr)
theorem info_ints : (Try.prog.info? 24).map (fun i => (i.zero, i.size, i.bytes)) = some (some (.slice none 0 0), 1, 24) := by kernel_rfl
theorem RowC.lit1 (w : World) (v : Value) (e : TypeId) : RowC (w.alloc (.cells #[v] e)) (some ⟨w.heap.size, 0, none⟩) 1 1 1 [v] := (OwnC.lit w 0 1 e 1 [v] (Nat.zero_le _) rfl (by simp [maxLen])).row
theorem RowC.drew {w a n c sz xs} (h : RowC w a n c sz xs) : RowC w.drew a n c sz xs := h.below ((Below.refl _ _).drew)
theorem wp_appR (w : World) {o : Oper} {act : Act} {K : Act → World → Prop} {Q : Exit → Act → World → Prop} (s x : Operand)
    (ho : o.op = .call { callee := .builtin .append, args := #[s, x], argTypes := #[51, 51] })
    (b : Nat) (a : Option Addr) (n c : Nat) (xs : List Value) (hs : act.eval s = .slice a n c) (hown : OwnC w b a n c 24 1 xs)
    (a' : Option Addr) (c' : Nat) (r : RowD) (hx : act.eval x = .slice a' 1 c') (hrow : RowC w a' 1 c' 1 [rowV r])
    (hlen : n + 1 ≤ 1000000) (hbase : b ≤ w.heap.size)
    (h : ∀ a2 c2 w', OwnC w' b a2 (n + 1) c2 24 1 (xs ++ [rowV r]) → Below b w w' → w.grownBy w' (rowOf a c) → Moved w a c a2 c2 → K (act.put o.dst (.slice a2 (n + 1) c2)) w') : o.wp Try.prog act w K Q := by
  obtain ⟨i0, hi, hz0, hz1, hz2⟩ := info_parts info_ints
  obtain ⟨a2, c2, w', hrun, h1, h2, _, h9⟩ := run_app2 w 51 o.type b 24 i0 (.slice none 0 0) 1 24 Try.underlying51 hi hz0 hz1 hz2 rfl (by decide) a n c _ hown a' 1 c' _ hrow (by
    intro u hu
    simp only [List.mem_singleton] at hu
    subst hu
    rfl) (by omega) (by unfold maxLen; omega) hbase
  unfold Oper.wp
  simp [execOp, ho, resolve, invoke, builtin, hs, hx, hrun, Result.andThen]
  exact h a2 c2 w' h1 (below_grownBy h2 hbase (fun x hc hx => (hown.range x hc hx).1)) h2 h9
theorem wpList_appR (w : World) {ops : Array Oper} {rest : List Oper} {o : Oper} {act : Act} {Q : Exit → Act → World → Prop} (hgd : o.guard = none) (s x : Operand)
    (ho : o.op = .call { callee := .builtin .append, args := #[s, x], argTypes := #[51, 51] })
    (b : Nat) (a : Option Addr) (n c : Nat) (xs : List Value) (hs : act.eval s = .slice a n c) (hown : OwnC w b a n c 24 1 xs)
    (a' : Option Addr) (c' : Nat) (r : RowD) (hx : act.eval x = .slice a' 1 c') (hrow : RowC w a' 1 c' 1 [rowV r])
    (hlen : n + 1 ≤ 1000000) (hbase : b ≤ w.heap.size)
    (h : ∀ a2 c2 w', OwnC w' b a2 (n + 1) c2 24 1 (xs ++ [rowV r]) → Below b w w' → w.grownBy w' (rowOf a c) → Moved w a c a2 c2 → wpList Try.prog ops Q rest (act.put o.dst (.slice a2 (n + 1) c2)) w') : wpList Try.prog ops Q (o :: rest) act w :=
  wpList_plain hgd fun _ hK => wp_appR w s x ho b a n c xs hs hown a' c' r hx hrow hlen hbase fun a2 c2 w' h1 h2 h3 h5 => hK _ _ (h a2 c2 w' h1 h2 h3 h5)
theorem step_appR (w : World) {ops : Array Oper} {o : Oper} {act : Act} {K : Act → World → Prop} {Q : Exit → Act → World → Prop} {E : Prop} (hgd : o.guard = none) (s x : Operand)
    (ho : o.op = .call { callee := .builtin .append, args := #[s, x], argTypes := #[51, 51] })
    (b : Nat) (a : Option Addr) (n c : Nat) (xs : List Value) (hs : act.eval s = .slice a n c) (hown : OwnC w b a n c 24 1 xs)
    (a' : Option Addr) (c' : Nat) (r : RowD) (hx : act.eval x = .slice a' 1 c') (hrow : RowC w a' 1 c' 1 [rowV r])
    (hlen : n + 1 ≤ 1000000) (hbase : b ≤ w.heap.size)
    (h : ∀ a2 c2 w', OwnC w' b a2 (n + 1) c2 24 1 (xs ++ [rowV r]) → Below b w w' → w.grownBy w' (rowOf a c) → Moved w a c a2 c2 → K (act.put o.dst (.slice a2 (n + 1) c2)) w') :
    if Region.wanted o (yielded ops act.tmps) = true then Oper.wp Try.prog o act w K Q else E := by
  rw [if_pos (by simp [Region.wanted, hgd])]
  exact wp_appR w s x ho b a n c xs hs hown a' c' r hx hrow hlen hbase h

/-- The shares of the wires, and what was opened: three families that stand apart. -/
structure WireM (w : World) (b : Nat) (a1 : Option Addr) (n1 c1 : Nat) (F : List Int) (a2 : Option Addr) (n2 c2 : Nat) (S : List Int) (a3 : Option Addr) (n3 c3 : Nat) (rs : List RowD) : Prop where
  f : Own w b a1 n1 c1 F
  s : Own w b a2 n2 c2 S
  o : OwnSS w b a3 n3 c3 rs
  fs : Disj (foot a1 c1) (foot a2 c2)
  fo : Disj (foot a1 c1) (feetSS a3 c3 rs)
  so : Disj (foot a2 c2) (feetSS a3 c3 rs)
section
variable {w w' : World} {b n1 c1 n2 c2 n3 c3 c5 : Nat} {a1 a2 a3 a5 : Option Addr} {F S : List Int} {rs : List RowD}
theorem WireM.below (h : WireM w b a1 n1 c1 F a2 n2 c2 S a3 n3 c3 rs) (hb : Below w.heap.size w w') : WireM w' b a1 n1 c1 F a2 n2 c2 S a3 n3 c3 rs :=
  ⟨h.f.below hb, h.s.below hb, h.o.below hb, h.fs, h.fo, h.so⟩
theorem WireM.alloc (h : WireM w b a1 n1 c1 F a2 n2 c2 S a3 n3 c3 rs) (o : Obj) : WireM (w.alloc o) b a1 n1 c1 F a2 n2 c2 S a3 n3 c3 rs := h.below ((Below.refl _ _).alloc (Nat.le_refl _) _)
theorem WireM.drew (h : WireM w b a1 n1 c1 F a2 n2 c2 S a3 n3 c3 rs) : WireM w.drew b a1 n1 c1 F a2 n2 c2 S a3 n3 c3 rs := h.below ((Below.refl _ _).drew)
theorem WireM.appF {x : Int} (h : WireM w b a1 n1 c1 F a2 n2 c2 S a3 n3 c3 rs) (o : Own w' b a5 (n1 + 1) c5 (F ++ [x])) (g : w.grownBy w' (rowOf a1 c1)) (m : Moved w a1 c1 a5 c5) : WireM w' b a5 (n1 + 1) c5 (F ++ [x]) a2 n2 c2 S a3 n3 c3 rs :=
  ⟨o, h.s.only (Only.of_grown g) h.fs.symm, h.o.only (Only.of_grown g) h.fo.symm, m.disj h.fs (fun k hk => (h.s.feet k hk).2), m.disj h.fo (fun k hk => (h.o.feet k hk).2), h.so⟩
theorem WireM.appS {x : Int} (h : WireM w b a1 n1 c1 F a2 n2 c2 S a3 n3 c3 rs) (o : Own w' b a5 (n2 + 1) c5 (S ++ [x])) (g : w.grownBy w' (rowOf a2 c2)) (m : Moved w a2 c2 a5 c5) : WireM w' b a1 n1 c1 F a5 (n2 + 1) c5 (S ++ [x]) a3 n3 c3 rs :=
  ⟨h.f.only (Only.of_grown g) h.fs, o, h.o.only (Only.of_grown g) h.so.symm, (m.disj h.fs.symm (fun k hk => (h.f.feet k hk).2)).symm, h.fo, m.disj h.so (fun k hk => (h.o.feet k hk).2)⟩
theorem WireM.appO {r : RowD} (h : WireM w b a1 n1 c1 F a2 n2 c2 S a3 n3 c3 rs) (hr : Own w b r.1 r.2.2.length r.2.1 r.2.2) (h1 : Disj (foot a1 c1) (foot r.1 r.2.1)) (h2 : Disj (foot a2 c2) (foot r.1 r.2.1)) (h3 : Disj (foot r.1 r.2.1) (feetSS a3 c3 rs))
    (o : OwnC w' b a5 (n3 + 1) c5 24 1 (rs.map rowV ++ [rowV r])) (g : w.grownBy w' (rowOf a3 c3)) (m : Moved w a3 c3 a5 c5) : WireM w' b a1 n1 c1 F a2 n2 c2 S a5 (n3 + 1) c5 (rs ++ [r]) :=
  ⟨h.f.only (Only.of_grown g) (fun k hk hk' => h.fo k hk (List.mem_append_left _ hk')), h.s.only (Only.of_grown g) (fun k hk hk' => h.so k hk (List.mem_append_left _ hk')), h.o.push hr h3 o g m, h.fs,
    push_feet h.fo h1 m (fun k hk => (h.f.feet k hk).2), push_feet h.so h2 m (fun k hk => (h.s.feet k hk).2)⟩
end
end Go.Proofs.Ythpcmbdkboajcaa
