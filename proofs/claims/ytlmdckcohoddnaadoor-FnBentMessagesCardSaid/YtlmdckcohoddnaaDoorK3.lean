/- Lemmas and walks that the claim's proof rests on, part 3. -/
import Derived.ArgAppend
import Derived.Test.YtlmdckcohoddnaaDoorK2
namespace Go.Proofs.YtlmdckcohoddnaaDoor
open Go.RowKit
def Moved (w : World) (a : Option Addr) (c : Nat) (a2 : Option Addr) (c2 : Nat) : Prop := (a2 = a ∧ c2 = c) ∨ ∀ x, 0 < c2 → a2 = some x → w.heap.size ≤ x.block
theorem Moved.disj {w a c a2 c2} {F : List Nat} (h : Moved w a c a2 c2) (hd : Disj (foot a c) F) (hF : ∀ k ∈ F, k < w.heap.size) : Disj (foot a2 c2) F := by
  rcases h with ⟨rfl, rfl⟩ | h
  · exact hd
  · intro k hk hk'
    obtain ⟨x, hx, hc, rfl⟩ := mem_foot hk
    have := h x hc hx
    have := hF _ hk'
    omega
theorem run_app2 {P : Program} (w : World) (t ty : TypeId)
    (b e : Nat) (i : TypeInfo) (z : Value) (sz bytes : Nat) (ht : P.underlying t = some (.slice e)) (hi : P.info? e = some i) (hz : i.zero = some z)
    (hsize : i.size = sz) (hby : i.bytes = bytes) (hzs : z.cells.size = sz) (hsz : 0 < sz)
    (a : Option Addr) (n c : Nat) (xs : List Value) (hown : OwnC w b a n c e sz xs)
    (a' : Option Addr) (m c' : Nat) (xs' : List Value) (hrow : RowC w a' m c' sz xs') (h1 : ∀ u ∈ xs', u.oneCell' = true)
    (hbytes : (n + m) * bytes ≤ 140737488355328) (hmax : n + m ≤ maxLen) (hbase : b ≤ w.heap.size) :
    ∃ a2 c2 w', (Builtin.append_ #[t, t] ty #[.slice a n c, .slice a' m c']).run P w = .ok (.slice a2 (n + m) c2) w' ∧ OwnC w' b a2 (n + m) c2 e sz (xs ++ xs') ∧ w.grownBy w' (rowOf a c) ∧ RowC w' a n c sz xs ∧ Moved w a c a2 c2 := by
  by_cases hm : m = 0
  · subst hm
    have hx' : xs' = [] := List.eq_nil_of_length_eq_zero (by simpa using hrow.1)
    subst hx'
    have hnc := hown.2.1
    refine ⟨a, c, w, ?_, by simpa using hown, World.grownBy.refl _ _, hown.row, Or.inl ⟨rfl, rfl⟩⟩
    cases a' with
    | none => cases a <;> simp [Builtin.append_, run_underlying ht, sizeOf, typeInfo, hi, Builtin.lenOf, Builtin.firstCells, hnc, storeCells]
    | some y =>
      have hf := run_firstCells_some (P := P) w i.size 0 y 0 c' [] (by simp) (fun j u hu => by simp at hu)
      cases a <;> simp [Builtin.append_, run_underlying ht, sizeOf, typeInfo, hi, Builtin.lenOf, hf, hnc, storeCells]
  · obtain ⟨hr1, hr2, hr3, hr4, g', o', hr5, hr6⟩ := hrow
    obtain rfl := hr5 (by omega)
    have hadd : ∀ (g o j : Nat), (⟨g, o, none⟩ : Addr).add j = ⟨g, o + j, none⟩ := fun g o j => by unfold Addr.add; split <;> simp_all
    have hnews : ∀ j u, xs'[j]? = some u → w.cell? ((⟨g', o', none⟩ : Addr).add j) = some u := fun j u hu => by rw [hadd]; exact hr6 j u hu
    by_cases hc : 0 < c
    · obtain ⟨g, cur, hag, hbg, hgg, hcs, hct⟩ := hown.2.2.2.2 hc
      have hob := hown.owns hc
      have hro : rowOf a c = some g := by unfold rowOf; rw [if_neg (by omega), hag]; rfl
      subst hag
      by_cases hroom : n + m ≤ c
      · obtain ⟨w', hrun, r1, r2⟩ := run_append_fits (P := P) w b t ty e i sz ht hi hsize g n c xs hob ⟨g', o', none⟩ m c' xs' hr1 hnews h1 hroom
        obtain ⟨a2, c2, e2, h2⟩ := OwnC.of_owns r1
        cases e2
        exact ⟨_, _, w', hrun, h2, by rw [hro]; exact r2, h2.prefix_row hown.1, Or.inl ⟨rfl, rfl⟩⟩
      · obtain ⟨v', w', hrun, r1, r2⟩ := run_append_arg_grows (P := P) w t ty e i z sz bytes ht hi hz hsize hby hzs hsz ⟨g, 0, none⟩ n c xs hown.1 (fun j u hu => by
          obtain ⟨q1, q2, q3, q4, gg, oo, q5, q6⟩ := hown.row
          have hn0 : 0 < n := by
            have := (List.getElem?_eq_some_iff.1 hu).1
            rw [hown.1] at this
            cases n with
            | zero => simp at this
            | succ n => omega
          have := q5 hn0
          cases this
          rw [hadd]; exact q6 j u hu) ⟨g', o', none⟩ m c' xs' hr1 hnews (by omega) hmax hbytes
        obtain ⟨a2, c2, rfl, h2⟩ := OwnC.of_owns r1
        exact ⟨_, _, w', hrun, h2.lower hbase, grownBy_some r2 _, hown.row.keep r2, Or.inr fun x hc hx => (h2.range x hc hx).1⟩
    · have hn0 : n = 0 := by have := hown.2.1; omega
      have hc0 : c = 0 := by omega
      subst hn0; subst hc0
      have hxe : xs = [] := List.eq_nil_of_length_eq_zero (by simpa using hown.1)
      subst hxe
      cases a with
      | none =>
        obtain ⟨v', w', hrun, r1, r2, _⟩ := run_append_own (P := P) w w.heap.size t ty e i z sz bytes ht hi hz hsize hby hzs hsz (.slice none 0 0) 0 [] (World.ownsRow_nil w _ e sz) ⟨g', o', none⟩ m c' xs' hr1 hnews h1 hmax hbytes (Nat.le_refl _)
        obtain ⟨a2, c2, rfl, h2⟩ := OwnC.of_owns r1
        exact ⟨_, _, w', hrun, h2.lower hbase, by unfold rowOf; exact r2, hown.row.keep r2, Or.inr fun x hc hx => (h2.range x hc hx).1⟩
      | some y =>
        obtain ⟨v', w', hrun, r1, r2⟩ := run_append_arg_grows (P := P) w t ty e i z sz bytes ht hi hz hsize hby hzs hsz y 0 0 [] (by simp) (fun j u hu => by simp at hu) ⟨g', o', none⟩ m c' xs' hr1 hnews (by omega) hmax hbytes
        obtain ⟨a2, c2, rfl, h2⟩ := OwnC.of_owns r1
        exact ⟨_, _, w', hrun, h2.lower hbase, grownBy_some r2 _, hown.row.keep r2, Or.inr fun x hc hx => (h2.range x hc hx).1⟩
theorem run_appJ (w : World) (ty : TypeId) (b : Nat) (a : Option Addr) (n c : Nat) (l : List Int) (hown : Own w b a n c l) (a' : Option Addr) (m c' : Nat) (l' : List Int) (hrow : Ints w a' m c' l') (hlen : n + m ≤ 1000000000000) (hbase : b ≤ w.heap.size) :
    ∃ a2 c2 w', (Builtin.append_ #[23, 23] ty #[.slice a n c, .slice a' m c']).run Tryd.prog w = .ok (.slice a2 (n + m) c2) w' ∧ Own w' b a2 (n + m) c2 (l ++ l') ∧ Below b w w' ∧ w.grownBy w' (rowOf a c) ∧ Ints w' a n c l ∧ Moved w a c a2 c2 := by
  obtain ⟨i0, hi, hz0, hz1, hz2⟩ := info_parts info_int
  obtain ⟨a2, c2, w', hrun, h1, h2, h3, h9⟩ := run_app2 w 23 ty b 3 i0 (.int .i64 0) 1 8 Tryd.underlying23 hi hz0 hz1 hz2 rfl (by decide) a n c _ hown a' m c' _ hrow.rowC (by
    intro u hu
    simp only [List.mem_map] at hu
    obtain ⟨y, _, rfl⟩ := hu
    rfl) (by omega) (by unfold maxLen; omega) hbase
  exact ⟨a2, c2, w', hrun, by unfold Own; rw [List.map_append]; exact h1, below_grownBy h2 hbase (fun x hc hx => (hown.range x hc hx).1), h2, Ints.of_rowC h3, h9⟩
theorem wp_appJ (w : World) {o : Oper} {act : Act} {K : Act → World → Prop} {Q : Exit → Act → World → Prop} (s x : Operand)
    (ho : o.op = .call { callee := .builtin .append, args := #[s, x], argTypes := #[23, 23] })
    (b : Nat) (a : Option Addr) (n c : Nat) (l : List Int) (hs : act.eval s = .slice a n c) (hown : Own w b a n c l)
    (a' : Option Addr) (m c' : Nat) (l' : List Int) (hx : act.eval x = .slice a' m c') (hrow : Ints w a' m c' l')
    (hlen : n + m ≤ 1000000000000) (hbase : b ≤ w.heap.size)
    (h : ∀ a2 c2 w', Own w' b a2 (n + m) c2 (l ++ l') → Below b w w' → w.grownBy w' (rowOf a c) → Ints w' a n c l → Moved w a c a2 c2 → K (act.put o.dst (.slice a2 (n + m) c2)) w') : o.wp Tryd.prog act w K Q := by
  obtain ⟨a2, c2, w', hrun, h1, h2, h3, h4, h5⟩ := run_appJ w o.type b a n c l hown a' m c' l' hrow hlen hbase
  unfold Oper.wp
  simp [execOp, ho, resolve, invoke, builtin, hs, hx, hrun, Result.andThen]
  exact h a2 c2 w' h1 h2 h3 h4 h5
theorem step_appJ (w : World) {ops : Array Oper} {o : Oper} {act : Act} {K : Act → World → Prop} {Q : Exit → Act → World → Prop} {E : Prop} (hgd : o.guard = none) (s x : Operand)
    (ho : o.op = .call { callee := .builtin .append, args := #[s, x], argTypes := #[23, 23] })
    (b : Nat) (a : Option Addr) (n c : Nat) (l : List Int) (hs : act.eval s = .slice a n c) (hown : Own w b a n c l)
    (a' : Option Addr) (m c' : Nat) (l' : List Int) (hx : act.eval x = .slice a' m c') (hrow : Ints w a' m c' l')
    (hlen : n + m ≤ 1000000000000) (hbase : b ≤ w.heap.size)
    (h : ∀ a2 c2 w', Own w' b a2 (n + m) c2 (l ++ l') → Below b w w' → w.grownBy w' (rowOf a c) → Ints w' a n c l → Moved w a c a2 c2 → K (act.put o.dst (.slice a2 (n + m) c2)) w') :
    if Region.wanted o (yielded ops act.tmps) = true then Oper.wp Tryd.prog o act w K Q else E := by
  rw [if_pos (by simp [Region.wanted, hgd])]
  exact wp_appJ w s x ho b a n c l hs hown a' m c' l' hx hrow hlen hbase h
end Go.Proofs.YtlmdckcohoddnaaDoor
namespace Go.Proofs.YtlmdckcohoddnaaDoor
open Go.RowKit
abbrev RowD := Option Addr × Nat × List Int
def rowV (r : RowD) : Value := .slice r.1 r.2.2.length r.2.1
def rowsF (rs : List RowD) : List Nat := rs.flatMap fun r => foot r.1 r.2.1
def feetSS (a : Option Addr) (c : Nat) (rs : List RowD) : List Nat := foot a c ++ rowsF rs
structure OwnSS (w : World) (b : Nat) (a : Option Addr) (n c : Nat) (rs : List RowD) : Prop where
  out : OwnC w b a n c 23 1 (rs.map rowV)
  inn : ∀ r ∈ rs, Own w b r.1 r.2.2.length r.2.1 r.2.2
  dis : rs.Pairwise fun r s => Disj (foot r.1 r.2.1) (foot s.1 s.2.1)
  apart : Disj (foot a c) (rowsF rs)
theorem mem_rowsF {rs : List RowD} {r : RowD} {k : Nat} (hr : r ∈ rs) (hk : k ∈ foot r.1 r.2.1) : k ∈ rowsF rs := List.mem_flatMap.2 ⟨r, hr, hk⟩
theorem rowsF_app (rs rs' : List RowD) : rowsF (rs ++ rs') = rowsF rs ++ rowsF rs' := List.flatMap_append
theorem rowsF_one (r : RowD) : rowsF [r] = foot r.1 r.2.1 := by simp [rowsF]
theorem OwnSS.only {X : List Nat} {w w' : World} {b a n c rs} (h : OwnSS w b a n c rs) (ho : Only X w w') (hd : Disj (feetSS a c rs) X) : OwnSS w' b a n c rs :=
  ⟨h.out.only ho (fun k hk => hd k (List.mem_append_left _ hk)), fun r hr => (h.inn r hr).only ho (fun k hk => hd k (List.mem_append_right _ (mem_rowsF hr hk))), h.dis, h.apart⟩
theorem OwnSS.below {w w' : World} {b a n c rs} (h : OwnSS w b a n c rs) (hb : Below w.heap.size w w') : OwnSS w' b a n c rs :=
  ⟨h.out.below hb, fun r hr => (h.inn r hr).below hb, h.dis, h.apart⟩
theorem OwnSS.alloc {w : World} {b a n c rs} (h : OwnSS w b a n c rs) (o : Obj) : OwnSS (w.alloc o) b a n c rs := h.below ((Below.refl _ _).alloc (Nat.le_refl _) _)
theorem OwnSS.drew {w : World} {b a n c rs} (h : OwnSS w b a n c rs) : OwnSS w.drew b a n c rs := h.below ((Below.refl _ _).drew)
theorem OwnSS.lower {w : World} {b b' a n c rs} (h : OwnSS w b a n c rs) (hb : b' ≤ b) : OwnSS w b' a n c rs :=
  ⟨h.out.lower hb, fun r hr => (h.inn r hr).lower hb, h.dis, h.apart⟩
theorem OwnSS.feet {w : World} {b a n c rs} (h : OwnSS w b a n c rs) : ∀ k ∈ feetSS a c rs, b ≤ k ∧ k < w.heap.size := fun k hk => by
  rcases List.mem_append.1 hk with hk | hk
  · exact h.out.feet k hk
  · obtain ⟨r, hr, hk⟩ := List.mem_flatMap.1 hk
    exact (h.inn r hr).feet k hk
theorem OwnSS.nil0 (w : World) (b : Nat) (a : Option Addr) : OwnSS w b a 0 0 [] :=
  ⟨OwnC.nil0 w b 23 1 a, fun r hr => (by cases hr), List.Pairwise.nil, fun k hk => by simp [foot, rowOf] at hk⟩
theorem feetSS_nil (a : Option Addr) : feetSS a 0 [] = [] := by simp [feetSS, foot, rowOf, rowsF]
theorem OwnSS.push {w w' : World} {b a n c rs} {r : RowD} {a5 : Option Addr} {c5 : Nat} (h : OwnSS w b a n c rs) (hr : Own w b r.1 r.2.2.length r.2.1 r.2.2) (hd : Disj (foot r.1 r.2.1) (feetSS a c rs))
    (o : OwnC w' b a5 (n + 1) c5 23 1 (rs.map rowV ++ [rowV r])) (g : w.grownBy w' (rowOf a c)) (m : Moved w a c a5 c5) : OwnSS w' b a5 (n + 1) c5 (rs ++ [r]) := by
  refine ⟨by rw [List.map_append]; exact o, fun s hs => ?_, ?_, ?_⟩
  · rcases List.mem_append.1 hs with hs | hs
    · exact (h.inn s hs).only (Only.of_grown g) (fun k hk hk' => h.apart k hk' (mem_rowsF hs hk))
    · rw [List.mem_singleton] at hs
      subst hs
      exact hr.only (Only.of_grown g) (fun k hk hk' => hd k hk (List.mem_append_left _ hk'))
  · refine List.pairwise_append.2 ⟨h.dis, List.pairwise_singleton _ _, fun x hx y hy => ?_⟩
    rw [List.mem_singleton] at hy
    subst hy
    exact fun k hk hk' => hd k hk' (List.mem_append_right _ (mem_rowsF hx hk))
  · rw [rowsF_app, rowsF_one]
    refine m.disj (h.apart.app fun k hk hk' => hd k hk' (List.mem_append_left _ hk)) (fun k hk => ?_)
    rcases List.mem_append.1 hk with hk | hk
    · exact (h.feet k (List.mem_append_right _ hk)).2
    · exact (hr.feet k hk).2
theorem push_feet {w : World} {a c a5 c5} {rs : List RowD} {r : RowD} {X : List Nat} (hX : Disj X (feetSS a c rs)) (hr : Disj X (foot r.1 r.2.1)) (m : Moved w a c a5 c5) (hw : ∀ k ∈ X, k < w.heap.size) : Disj X (feetSS a5 c5 (rs ++ [r])) := by
  unfold feetSS
  rw [rowsF_app, rowsF_one]
  refine Disj.app (m.disj (fun k hk hk' => hX k hk' (List.mem_append_left _ hk)) hw).symm (Disj.app (fun k hk hk' => hX k hk (List.mem_append_right _ hk')) hr)
theorem info_ints : (Tryd.prog.info? 23).map (fun i => (i.zero, i.size, i.bytes)) = some (some (.slice none 0 0), 1, 24) := by kernel_rfl
theorem RowC.lit1 (w : World) (v : Value) (e : TypeId) : RowC (w.alloc (.cells #[v] e)) (some ⟨w.heap.size, 0, none⟩) 1 1 1 [v] := (OwnC.lit w 0 1 e 1 [v] (Nat.zero_le _) rfl (by simp [maxLen])).row
theorem RowC.drew {w a n c sz xs} (h : RowC w a n c sz xs) : RowC w.drew a n c sz xs := h.below ((Below.refl _ _).drew)
structure WireM (w : World) (b : Nat) (a1 : Option Addr) (n1 c1 : Nat) (F : List Int) (a2 : Option Addr) (n2 c2 : Nat) (S : List Int) (a3 : Option Addr) (n3 c3 : Nat) (rs : List RowD) : Prop where
  f : Own w b a1 n1 c1 F
  s : Own w b a2 n2 c2 S
  o : OwnSS w b a3 n3 c3 rs
  fs : Disj (foot a1 c1) (foot a2 c2)
  fo : Disj (foot a1 c1) (feetSS a3 c3 rs)
  so : Disj (foot a2 c2) (feetSS a3 c3 rs)
section
variable {w w' : World} {b n1 c1 n2 c2 n3 c3 c5 : Nat} {a1 a2 a3 a5 : Option Addr} {F S : List Int} {rs : List RowD}
theorem WireM.below (h : WireM w b a1 n1 c1 F a2 n2 c2 S a3 n3 c3 rs) (hb : Below w.heap.size w w') : WireM w' b a1 n1 c1 F a2 n2 c2 S a3 n3 c3 rs :=
  ⟨h.f.below hb, h.s.below hb, h.o.below hb, h.fs, h.fo, h.so⟩
theorem WireM.alloc (h : WireM w b a1 n1 c1 F a2 n2 c2 S a3 n3 c3 rs) (o : Obj) : WireM (w.alloc o) b a1 n1 c1 F a2 n2 c2 S a3 n3 c3 rs := h.below ((Below.refl _ _).alloc (Nat.le_refl _) _)
theorem WireM.drew (h : WireM w b a1 n1 c1 F a2 n2 c2 S a3 n3 c3 rs) : WireM w.drew b a1 n1 c1 F a2 n2 c2 S a3 n3 c3 rs := h.below ((Below.refl _ _).drew)
end
end Go.Proofs.YtlmdckcohoddnaaDoor
namespace Go.Proofs.YtlmdckcohoddnaaDoor
open Go.RowKit
def rowAt (rs : List RowD) (j : Nat) : RowD := rs.getD j (none, 0, [])
theorem rowAt_mem {rs : List RowD} {j : Nat} (h : j < rs.length) : rowAt rs j ∈ rs := by
  unfold rowAt; simp [List.getD, h]
theorem rowAt_some {rs : List RowD} {j : Nat} (h : j < rs.length) : rs[j]? = some (rowAt rs j) := by
  unfold rowAt; simp [List.getD, h]
def tot (rs : List RowD) : Nat := (rs.map fun r => r.2.2.length).sum
structure IntSS (w : World) (a : Option Addr) (n c : Nat) (rs : List RowD) : Prop where
  row : RowC w a n c 1 (rs.map rowV)
  inn : ∀ r ∈ rs, Ints w r.1 r.2.2.length r.2.1 r.2.2
theorem OwnSS.reads {w b a n c rs} (h : OwnSS w b a n c rs) : IntSS w a n c rs := ⟨h.out.row, fun r hr => (h.inn r hr).ints⟩
theorem IntSS.len {w a n c rs} (h : IntSS w a n c rs) : rs.length = n := by have := h.row.1; simpa using this
theorem IntSS.le {w a n c rs} (h : IntSS w a n c rs) : (n : Int) ≤ 9223372036854775807 := by
  have := h.row.2.1; have := h.row.2.2.1; unfold maxLen at this; omega
theorem IntSS.below {w w' a n c rs} (h : IntSS w a n c rs) (hb : Below w.heap.size w w') : IntSS w' a n c rs := ⟨h.row.below hb, fun r hr => (h.inn r hr).below hb⟩
theorem IntSS.alloc {w a n c rs} (h : IntSS w a n c rs) (o : Obj) : IntSS (w.alloc o) a n c rs := h.below ((Below.refl _ _).alloc (Nat.le_refl _) _)
theorem IntSS.drew {w a n c rs} (h : IntSS w a n c rs) : IntSS w.drew a n c rs := h.below ((Below.refl _ _).drew)
theorem IntSS.nil0 (w : World) : IntSS w none 0 0 [] := ⟨⟨rfl, Nat.le_refl _, Nat.zero_le _, fun _ => rfl, 0, 0, fun h => absurd h (by omega), fun i u hu => by simp at hu⟩, fun r hr => by cases hr⟩
theorem IntSS.at {w a n c rs} (h : IntSS w a n c rs) (k : Nat) (hk : k < n) : ∃ g o, a = some ⟨g, o, none⟩ ∧ w.cell? ⟨g, o + k, none⟩ = some (.slice (rowAt rs k).1 (rowAt rs k).2.2.length (rowAt rs k).2.1) ∧ Ints w (rowAt rs k).1 (rowAt rs k).2.2.length (rowAt rs k).2.1 (rowAt rs k).2.2 := by
  have hl := h.len
  obtain ⟨_, _, _, _, g, o, h1, h2⟩ := h.row
  refine ⟨g, o, h1 (by omega), ?_, h.inn _ (rowAt_mem (by omega))⟩
  have := h2 k (rowV (rowAt rs k)) (by rw [List.getElem?_map, rowAt_some (by omega)]; rfl)
  exact this
def datas' (rs : List RowD) : List (List Int) := rs.map fun r => r.2.2
theorem datas_len (rs : List RowD) : (datas' rs).length = rs.length := by simp [datas']
def UpSS (k : Int) (rs : List RowD) : Prop := ∀ j, j < rs.length → UpFrom (k + tot (rs.take j)) (rowAt rs j).2.2
theorem set_key (rs : List RowD) (i : Nat) (l : List Int) (hl : l.length = (rowAt rs i).2.2.length) (hi : i < rs.length) :
    (rs.set i ((rowAt rs i).1, (rowAt rs i).2.1, l)).map (fun r => (r.1, r.2.1, r.2.2.length)) = rs.map (fun r => (r.1, r.2.1, r.2.2.length)) := by
  apply List.ext_getElem?
  intro j
  rw [List.getElem?_map, List.getElem?_map, List.getElem?_set]
  by_cases e : i = j
  · subst e; rw [if_pos rfl, if_pos hi, rowAt_some hi]; simp [hl]
  · rw [if_neg e]
theorem rowsF_key {rs rs' : List RowD} (h : rs'.map (fun r => (r.1, r.2.1, r.2.2.length)) = rs.map (fun r => (r.1, r.2.1, r.2.2.length))) : rowsF rs' = rowsF rs := by
  have e : ∀ q : List RowD, rowsF q = (q.map (fun r => (r.1, r.2.1, r.2.2.length))).flatMap fun t => foot t.1 t.2.1 := fun q => by simp [rowsF, List.flatMap_map]
  rw [e, e, h]
theorem OwnSS.cap {w b a n c rs} (h : OwnSS w b a n c rs) : n ≤ c ∧ c ≤ maxLen := ⟨h.out.row.2.1, h.out.row.2.2.1⟩
theorem OwnSS.put {w w' : World} {b a n c rs} (h : OwnSS w b a n c rs) (i : Nat) (hi : i < rs.length) (l : List Int) (o : Own w' b (rowAt rs i).1 (rowAt rs i).2.2.length (rowAt rs i).2.1 l) (ho : Only (foot (rowAt rs i).1 (rowAt rs i).2.1) w w') :
    OwnSS w' b a n c (rs.set i ((rowAt rs i).1, (rowAt rs i).2.1, l)) := by
  have hl : l.length = (rowAt rs i).2.2.length := by have := o.len; omega
  have hk := set_key rs i l hl hi
  have hm := rowAt_mem hi
  refine ⟨?_, fun r hr => ?_, ?_, ?_⟩
  · have e : ∀ q : List RowD, q.map rowV = (q.map (fun r => (r.1, r.2.1, r.2.2.length))).map fun t => Value.slice t.1 t.2.2 t.2.1 := fun q => by simp [rowV]
    rw [e, hk, ← e]
    exact h.out.only ho (fun k hk hk' => h.apart k hk (mem_rowsF hm hk'))
  · obtain ⟨j, hj⟩ := List.getElem?_of_mem hr
    rw [List.getElem?_set] at hj
    by_cases e : i = j
    · subst e
      rw [if_pos rfl, if_pos hi, Option.some.injEq] at hj
      subst hj
      rw [← hl] at o
      exact o
    · rw [if_neg e] at hj
      have hjl := (List.getElem?_eq_some_iff.1 hj).1
      have hrr : rowAt rs j = r := by have := rowAt_some hjl; rw [hj] at this; exact (Option.some.inj this).symm
      have hmr : r ∈ rs := by rw [← hrr]; exact rowAt_mem hjl
      refine (h.inn r hmr).only ho ?_
      have hp := List.pairwise_iff_getElem.1 h.dis
      have ei : rs[i] = rowAt rs i := by simp [rowAt, List.getD, hi]
      have ej : rs[j] = r := by rw [← hrr]; simp [rowAt, List.getD, hjl]
      rcases Nat.lt_or_gt_of_ne e with hlt | hgt
      · have := hp i j hi hjl hlt; rw [ei, ej] at this; exact this.symm
      · have := hp j i hjl hi hgt; rw [ei, ej] at this; exact this
  · have e : ∀ q : List RowD, (q.Pairwise fun r s => Disj (foot r.1 r.2.1) (foot s.1 s.2.1)) ↔ ((q.map (fun r => (r.1, r.2.1, r.2.2.length))).Pairwise fun r s => Disj (foot r.1 r.2.1) (foot s.1 s.2.1)) := fun q => by rw [List.pairwise_map]
    rw [e, hk, ← e]
    exact h.dis
  · rw [rowsF_key hk]; exact h.apart
theorem tot_datas (rs : List RowD) : tot rs = ((datas' rs).map List.length).sum := by unfold tot datas'; rw [List.map_map]; rfl
end Go.Proofs.YtlmdckcohoddnaaDoor
namespace Go.Proofs.YtlmdckcohoddnaaDoor
open Go.RowKit
def eTagged : Nat := 81
theorem info_Tagged : (Tryd.prog.info? 81).map (fun i => (i.zero, i.size, i.bytes)) = some (some (.agg #[.int .i64 0, .int .i64 0]), 2, 16) := by kernel_rfl
def rowNil : RowD := (none, 0, [])
theorem foot_zero (a : Option Addr) : foot a 0 = [] := by simp [foot, rowOf]
theorem rowsF_nils (n : Nat) : rowsF (List.replicate n rowNil) = [] := by
  unfold rowsF
  rw [List.flatMap_eq_nil_iff]
  intro r hr
  rw [List.eq_of_mem_replicate hr]
  exact foot_zero _
theorem OwnSS.made {w : World} {b : Nat} {a : Option Addr} {n c : Nat} (h : OwnC w b a n c 23 1 (List.replicate n (.slice none 0 0))) : OwnSS w b a n c (List.replicate n rowNil) :=
  ⟨by rw [List.map_replicate]; exact h, fun r hr => by rw [List.eq_of_mem_replicate hr]; exact Own.nil0 _ _ _, by
    rw [List.pairwise_replicate]
    right
    intro k hk
    simp [rowNil, foot_zero] at hk, by rw [rowsF_nils]; exact Disj.nil_r _⟩
theorem OwnSS.cellAt {w : World} {b n c i : Nat} {a : Option Addr} {rs : List RowD} (h : OwnSS w b a n c rs) (hi : i < n) : ∃ g, a = some ⟨g, 0, none⟩ ∧ b ≤ g ∧ g < w.heap.size ∧ g ∈ foot a c ∧ w.cell? ⟨g, i, none⟩ = some (rowV (rowAt rs i)) ∧ w.frozen? ⟨g, i, none⟩ = false := by
  have hl := h.reads.len
  have hc := h.cap
  obtain ⟨g, rfl, hb, hg, ⟨u, hu, hc'⟩, hf, _⟩ := OwnC.atC h.out i (by omega)
  refine ⟨g, rfl, hb, hg, foot_mem (x := ⟨g, 0, none⟩) (by omega), ?_, hf⟩
  rw [hc', ← hu, List.getElem?_map, rowAt_some (by omega)]
  rfl
structure Pl where
  P : Int
  party : Int
  input : Int
  mask : Int
  delta : Int
  shares : List Int
  keys : List Int
  step : Int
  heard : List (List Int)
  status : Int
  out : Int
structure PlX where
  sa : Option Addr
  sn : Nat
  sc : Nat
  ka : Option Addr
  kn : Nat
  kc : Nat
  ha : Option Addr
  hn : Nat
  hc : Nat
def PlR (w : World) (x : PlX) (s k : List Int) (h : List (List Int)) : Prop :=
  Flat 2 w x.sa x.sn x.sc s ∧ Ints w x.ka x.kn x.kc k ∧ ∃ rs, IntSS w x.ha x.hn x.hc rs ∧ datas' rs = h
def PlO (w : World) (b : Nat) (x : PlX) (s k : List Int) (h : List (List Int)) (F : List Nat) : Prop :=
  OwnF 2 eTagged w b x.sa x.sn x.sc s ∧ Own w b x.ka x.kn x.kc k ∧ ∃ rs, OwnSS w b x.ha x.hn x.hc rs ∧ datas' rs = h ∧
    Disj (foot x.sa x.sc) (foot x.ka x.kc) ∧ Disj (foot x.sa x.sc) (feetSS x.ha x.hc rs) ∧ Disj (foot x.ka x.kc) (feetSS x.ha x.hc rs) ∧ F = foot x.sa x.sc ++ (foot x.ka x.kc ++ feetSS x.ha x.hc rs)
theorem PlR.below {w w' x s k h} (p : PlR w x s k h) (hb : Below w.heap.size w w') : PlR w' x s k h := by
  obtain ⟨p1, p2, rs, p3, p4⟩ := p
  exact ⟨p1.below hb, p2.below hb, rs, p3.below hb, p4⟩
theorem PlR.alloc {w x s k h} (p : PlR w x s k h) (o : Obj) : PlR (w.alloc o) x s k h := p.below ((Below.refl _ _).alloc (Nat.le_refl _) _)
theorem PlR.drew {w x s k h} (p : PlR w x s k h) : PlR w.drew x s k h := p.below ((Below.refl _ _).drew)
theorem PlO.rd {w b x s k h F} (p : PlO w b x s k h F) : PlR w x s k h := by
  obtain ⟨p1, p2, rs, p3, p4, _⟩ := p
  exact ⟨p1.flat, p2.ints, rs, p3.reads, p4⟩
theorem PlO.feet {w b x s k h F} (p : PlO w b x s k h F) : ∀ q ∈ F, b ≤ q ∧ q < w.heap.size := by
  obtain ⟨p1, p2, rs, p3, _, _, _, _, rfl⟩ := p
  intro q hq
  rcases List.mem_append.1 hq with hq | hq
  · exact p1.feet q hq
  · rcases List.mem_append.1 hq with hq | hq
    · exact p2.feet q hq
    · exact p3.feet q hq
theorem PlO.only {X : List Nat} {w w' b x s k h F} (p : PlO w b x s k h F) (ho : Only X w w') (hd : Disj F X) : PlO w' b x s k h F := by
  obtain ⟨p1, p2, rs, p3, p4, d1, d2, d3, rfl⟩ := p
  exact ⟨p1.only ho (fun q hq => hd q (List.mem_append_left _ hq)), p2.only ho (fun q hq => hd q (List.mem_append_right _ (List.mem_append_left _ hq))), rs,
    p3.only ho (fun q hq => hd q (List.mem_append_right _ (List.mem_append_right _ hq))), p4, d1, d2, d3, rfl⟩
theorem PlO.below {w w' b x s k h F} (p : PlO w b x s k h F) (hb : Below w.heap.size w w') : PlO w' b x s k h F := by
  obtain ⟨p1, p2, rs, p3, p4⟩ := p
  exact ⟨p1.below hb, p2.below hb, rs, p3.below hb, p4⟩
theorem PlO.alloc {w b x s k h F} (p : PlO w b x s k h F) (o : Obj) : PlO (w.alloc o) b x s k h F := p.below ((Below.refl _ _).alloc (Nat.le_refl _) _)
theorem PlO.drew {w b x s k h F} (p : PlO w b x s k h F) : PlO w.drew b x s k h F := p.below ((Below.refl _ _).drew)
theorem PlO.lower {w b b' x s k h F} (p : PlO w b x s k h F) (hb : b' ≤ b) : PlO w b' x s k h F := by
  obtain ⟨p1, p2, rs, p3, p4⟩ := p
  exact ⟨p1.lower hb, p2.lower hb, rs, p3.lower hb, p4⟩
def totL (h : List (List Int)) : Nat := (h.map List.length).sum
theorem UpSS.of {rs : List RowD} {h : List (List Int)} {k : Int} (e : datas' rs = h) : UpSS k rs ↔ ∀ j, j < h.length → UpFrom (k + totL (h.take j)) (h.getD j []) := by
  have hl : rs.length = h.length := by rw [← e, datas_len]
  have e1 : ∀ j, totL (h.take j) = tot (rs.take j) := fun j => by rw [← e, tot_datas]; unfold totL datas'; simp only [List.map_take]
  have e2 : ∀ j, j < rs.length → h.getD j [] = (rowAt rs j).2.2 := fun j hj => by
    rw [← e]; unfold datas' rowAt; simp [List.getD, hj]
  unfold UpSS
  constructor
  · intro u j hj
    rw [e1, e2 j (by omega)]
    exact u j (by omega)
  · intro u j hj
    rw [← e1, ← e2 j hj]
    exact u j (by omega)
end Go.Proofs.YtlmdckcohoddnaaDoor
namespace Go.Proofs.YtlmdckcohoddnaaDoor
open Go.RowKit
theorem Tbl.drewN {w : World} (h : Tbl w) (m : Nat) : Tbl (w.drewN m) := h
def hAt (h : List (List Int)) (i : Nat) : List Int := h.getD i []
def bodyB (p : Int) (i : Nat) (b : List Int) : Bool := decide (b.length = blen i) && allB b 0 (p - 1)
def heardAt (p : Int) (h : List (List Int)) (i : Nat) : Bool := bodyB p i (hAt h i)
def heardB (p : Int) (h : List (List Int)) (n : Nat) : Bool := (List.range n).all (heardAt p h)
def endB (st ss ou : Int) : Bool := if st = 3 then decide (ss = 1) else (decide (ss = 0) || decide (ss = 2)) && decide (ou = 0)
def plB (a : Pl) : Bool :=
  elsB a.P [a.input, a.mask, a.delta, a.out] && (bitB a.party && (!decide (a.delta = 0) && (decide (a.shares.length = 10) && (decide (a.keys.length = 5) && (allB a.keys 0 (a.P - 1) && (tagsB a.P a.shares 5 && (inB a.step 0 3 && (decide ((a.heard.length : Int) = a.step) && (heardB a.P a.heard a.heard.length && endB a.step a.status a.out)))))))))
theorem elsB_pr {p : Int} {l : List Int} (h : elsB p l = true) : isPr p = true ∧ ∀ x ∈ l, 0 ≤ x ∧ x ≤ p - 1 := by
  unfold elsB at h
  rw [Bool.and_eq_true] at h
  exact ⟨h.1, (allB_iff _ _ _).1 h.2⟩
theorem elsB_of {p : Int} (l : List Int) (h : isPr p = true) : elsB p l = allB l 0 (p - 1) := by unfold elsB; rw [h, Bool.true_and]
theorem hAt_rs {rs : List RowD} {h : List (List Int)} (e : datas' rs = h) (i : Nat) (hi : i < rs.length) : hAt h i = (rowAt rs i).2.2 := by
  rw [← e]; unfold hAt datas' rowAt; simp [List.getD, hi]
set_option maxHeartbeats 4000000 in
set_option maxRecDepth 100000 in
theorem IsPlayer_1_any (p v t : Int) (q : Addr) (w : World) (hp : w.cell? q = some (.int .i64 p)) :
    Calls Tryd.prog 62 #[.agg #[.int .i64 v, .int .i64 t], .pointer (some q)] w fun e w' => e = .returned (.bool (!tagB p v t)) ∧ Below w.heap.size w w' := by
  have hp' : (w.alloc (.cells #[.int .i64 v, .int .i64 t] 81)).cell? q = some (.int .i64 p) := keepA _ hp
  have V0 : Below w.heap.size w (w.alloc (.cells #[.int .i64 v, .int .i64 t] 81)) := (Below.refl _ _).alloc (Nat.le_refl _) _
  go_enter Tryd.func62, Tryd.ntmps62
  go_wp2_with fail
  refine (isTagged_any _ _ _ _).mono ?_; rintro e w' ⟨rfl, u⟩
  have V1 := V0.trans (u.mono V0.size)
  go_wp2
  go_ret
  exact ⟨rfl, V1⟩
theorem IsPlayer_1_enters (args : Array Value) (W : World) : (callFunc 62 args).run Tryd.prog W = .ok (.enter 62 args) W :=
  enters Tryd.func62 (by kernel_rfl) (by kernel_rfl) args W
set_option maxHeartbeats 16000000 in
set_option maxRecDepth 100000 in
theorem IsPlayer_any (a : Pl) (x : PlX) (w : World) (h : PlR w x a.shares a.keys a.heard) (hT : Tbl w) :
    Calls Tryd.prog 16 #[.agg #[.int .i64 a.P, .int .i64 a.party, .int .i64 a.input, .int .i64 a.mask, .int .i64 a.delta, .slice x.sa x.sn x.sc, .slice x.ka x.kn x.kc, .int .i64 a.step, .slice x.ha x.hn x.hc, .int .i64 a.status, .int .i64 a.out]] w fun e w' => e = .returned (.bool (plB a)) ∧ Below w.heap.size w w' := by
  obtain ⟨P, pa, ip, mk, de, S, K, st, H, ss, ou⟩ := a
  obtain ⟨sa, sn, sc, ka, kn, kc, ha, hn, hc⟩ := x
  obtain ⟨hS, hK, rs, hH, hD⟩ := h
  unfold plB
  dsimp only at *
  have hSl := hS.len
  have hKl := hK.len
  have hHl := hH.len
  have hHd : rs.length = H.length := by rw [← hD, datas_len]
  have hsn := hS.le
  have hkn := hK.le
  have hhn := hH.le
  have hKL := Lib.hid hKl
  have hHL := Lib.hid hHl
  have HD := Lib.hid hD
  have e10 : Hid (decide (S.length = 10) = decide (sn = 5)) := Lib.hid (by rw [hSl, decide_eq_decide]; omega)
  have eK : Hid (decide (K.length = 5) = decide (kn = 5)) := Lib.hid (by rw [hKl])
  have eH : Hid ((decide ((H.length : Int) = st)) = decide ((hn : Int) = st)) := Lib.hid (by rw [← hHd, hHl])
  have eHB : Hid (H.length = hn) := Lib.hid (by rw [← hHd, hHl])
  rw [e10.out, eK.out, eH.out, eHB.out]
  have C0 := fun (W : World) (b : Option Addr) (hh : Ints W b 4 4 [ip, mk, de, ou]) => areElements_any P b 4 4 [ip, mk, de, ou] W hh
  have F0 : elsB P [ip, mk, de, ou] = true → isPr P = true := fun h => (elsB_pr h).1
  have C1 := fun (W : World) => isBit_any pa W
  have C5 := fun (W : World) (hh : Ints W ka kn kc K) (hp : isPr P = true) => (show Calls Tryd.prog 59 #[.int .i64 P, .slice ka kn kc] W fun e w' => e = .returned (.bool (allB K 0 (P - 1))) ∧ Below W.heap.size W w' by have := areElements_any P ka kn kc K W hh; rw [elsB_of _ hp] at this; exact this)
  have C6 := fun (W : World) (q : Addr) (hh : Flat 2 W sa sn sc S) (hq : W.cell? q = some (.int .i64 P)) (h5 : sn = 5) => (show Calls Tryd.prog 61 #[.slice sa sn sc, .func (.func 62) #[] #[.pointer (some q)]] W fun e w' => e = .returned (.bool (!tagsB P S 5)) ∧ Below W.heap.size W w' by
    subst h5; exact ContainsFuncT sa 5 sc S _ _ (tagAt P S) W hh IsPlayer_1_enters (fun W2 i hb _ => IsPlayer_1_any P _ _ q W2 (keepC hb hq)))
  have C7 := fun (W : World) => within_any st 0 3 W
  have F7 : inB st 0 3 = true → 0 ≤ st ∧ st ≤ 3 := fun h => inB_true h
  clear hSl hKl hHl hHd hD
  generalize elsB P [ip, mk, de, ou] = b0 at *
  generalize bitB pa = b1 at *
  generalize allB K 0 (P - 1) = b5 at *
  generalize tagsB P S 5 = b6 at *
  generalize inB st 0 3 = b7 at *
  generalize hb2 : (!decide (de = 0)) = b2
  generalize hb3 : decide (sn = 5) = b3
  generalize hb4 : decide (kn = 5) = b4
  generalize hb8 : decide ((hn : Int) = st) = b8
  have HB2 := Lib.hid hb2
  have HB3 := Lib.hid hb3
  have HB4 := Lib.hid hb4
  have HB8 := Lib.hid hb8
  clear hb2 hb3 hb4 hb8 e10 eK eH eHB
  replace C0 := Lib.hid C0
  replace F0 := Lib.hid F0
  replace C1 := Lib.hid C1
  replace C5 := Lib.hid C5
  replace C6 := Lib.hid C6
  replace C7 := Lib.hid C7
  replace F7 := Lib.hid F7
  have LX := Lib.hid hT
  clear hT
  have hI : Ints ((((w.alloc (.cells #[.int .i64 P, .int .i64 pa, .int .i64 ip, .int .i64 mk, .int .i64 de, .slice sa sn sc, .slice ka kn kc, .int .i64 st, .slice ha hn hc, .int .i64 ss, .int .i64 ou] 31)).alloc (.cells #[.int .i64 P] 3))).alloc (.cells #[.int .i64 ip, .int .i64 mk, .int .i64 de, .int .i64 ou] 3)) (some ⟨w.heap.size + 2, 0, none⟩) 4 4 [ip, mk, de, ou] := by simpa using Ints.lit ((w.alloc (.cells #[.int .i64 P, .int .i64 pa, .int .i64 ip, .int .i64 mk, .int .i64 de, .slice sa sn sc, .slice ka kn kc, .int .i64 st, .slice ha hn hc, .int .i64 ss, .int .i64 ou] 31)).alloc (.cells #[.int .i64 P] 3)) [ip, mk, de, ou] 3 (by simp [maxLen])
  go_enter Tryd.func16, Tryd.ntmps16
  go_wp2_with fail
  refine Exists.elim (Blk.new_ w (b := w.heap.size) rfl 31 #[.int .i64 P, .int .i64 pa, .int .i64 ip, .int .i64 mk, .int .i64 de, .slice sa sn sc, .slice ka kn kc, .int .i64 st, .slice ha hn hc, .int .i64 ss, .int .i64 ou]) (fun w1_a0' q => ?_)
  (try rw [q.1] at hI); (try rw [q.1]); have B_a := q.2.1; have s_w1_a0' := q.2.2.1; have u_w1_a0' := q.2.2.2; clear q
  refine Exists.elim (Blk.new_ w1_a0' (b := w.heap.size + 1) s_w1_a0' 3 #[.int .i64 P]) (fun w1_a1' q => ?_)
  (try rw [q.1] at hI); (try rw [q.1]); have B_p := q.2.1; have s_w1_a1' := q.2.2.1; have u_w1_a1' := q.2.2.2; clear q
  refine Exists.elim (Blk.new_ w1_a1' (b := w.heap.size + 2) s_w1_a1' 3 #[.int .i64 ip, .int .i64 mk, .int .i64 de, .int .i64 ou]) (fun w1' q => ?_)
  (try rw [q.1] at hI); (try rw [q.1]); have B_l := q.2.1; have s_w1' := q.2.2.1; have u_w1' := q.2.2.2; clear q
  replace B_a := ((B_a.below u_w1_a1').below u_w1')
  replace B_p := (B_p.below u_w1')
  have U := (u_w1_a0'.trans ((u_w1_a1'.trans (u_w1'.mono u_w1_a1'.size)).mono u_w1_a0'.size))
  replace hS := hS.below U
  replace hK := hK.below U
  replace hH := hH.below U
  have S_w1' : w.heap.size + 3 ≤ w1'.heap.size := Nat.le_of_eq s_w1'.symm
  have V_w1' := (Below.refl w.heap.size w).trans (U.mono ((Below.refl w.heap.size w)).size)
  clear u_w1_a0' u_w1_a1' u_w1' s_w1_a0' s_w1_a1' s_w1' U
  refine (C0.out _ _ hI).mono ?_
  rintro e w2' ⟨rfl, u_w2'⟩
  replace B_a := B_a.below u_w2'
  replace B_p := B_p.below u_w2'
  replace B_l := B_l.below u_w2'
  replace hS := hS.below u_w2'
  replace hK := hK.below u_w2'
  replace hH := hH.below u_w2'
  have S_w2' := u_w2'.size
  have V_w2' : Below w.heap.size w w2' := V_w1'.trans (u_w2'.mono V_w1'.size)
  clear V_w1'
  clear u_w2'
  clear hI C0
  cases b0
  · go_wp2
    go_ret
    exact ⟨rfl, V_w2'⟩
  have hpr := F0.out rfl
  obtain ⟨p1, p2⟩ := isPr_range hpr
  have e_a := B_a.all11
  have e_p_0 := B_p.a1_0
  go_wp2_with fail
  refine (C1.out _).mono ?_; rintro e wm ⟨rfl, qm⟩
  have um := below_of_quiet qm
  clear qm
  clear e_a e_p_0
  replace B_a := B_a.below um
  replace B_p := B_p.below um
  replace B_l := B_l.below um
  replace hS := hS.below um
  replace hK := hK.below um
  replace hH := hH.below um
  have S_wm := um.size
  have V_wm : Below w.heap.size w wm := V_w2'.trans (um.mono V_w2'.size)
  clear V_w2'
  clear um
  cases b1
  · go_wp2
    go_ret
    exact ⟨rfl, V_wm⟩
  cases b2
  · have d1 : ((de == 0) : Bool) = true := by simpa using HB2.out
    have e_a := B_a.all11
    go_wp2
    go_ret
    exact ⟨rfl, V_wm⟩
  have d1 : ((de == 0) : Bool) = false := by simpa using HB2.out
  cases b3
  · have d5 : (((sn : Int) != 5) : Bool) = true := by have := HB3.out; simp at this; simp; omega
    have e_a := B_a.all11
    go_wp2
    go_ret
    exact ⟨rfl, V_wm⟩
  have hs5 : sn = 5 := by simpa using HB3.out
  have d6 : (((sn : Int) != 5) : Bool) = false := by simp; omega
  replace hs5 := Lib.hid hs5
  cases b4
  · have d5 : (((kn : Int) != 5) : Bool) = true := by have := HB4.out; simp at this; simp; omega
    have e_a := B_a.all11
    go_wp2
    go_ret
    exact ⟨rfl, V_wm⟩
  have d7 : (((kn : Int) != 5) : Bool) = false := by have := HB4.out; simp at this; simp; omega
  have e_a := B_a.all11
  have e_p_0 := B_p.a1_0
  go_wp2_with fail
  clear e_a e_p_0
  refine (C5.out _ hK hpr).mono ?_
  rintro e w3' ⟨rfl, u_w3'⟩
  replace B_a := B_a.below u_w3'
  replace B_p := B_p.below u_w3'
  replace B_l := B_l.below u_w3'
  replace hS := hS.below u_w3'
  replace hK := hK.below u_w3'
  replace hH := hH.below u_w3'
  have S_w3' := u_w3'.size
  have V_w3' : Below w.heap.size w w3' := V_wm.trans (u_w3'.mono V_wm.size)
  clear V_wm
  clear u_w3'
  cases b5
  · go_wp2
    go_ret
    exact ⟨rfl, V_w3'⟩
  have hpc : w3'.cell? ⟨w.heap.size + 1, 0, none⟩ = some (.int .i64 P) := B_p.cell 0
  have e_a := B_a.all11
  go_wp2_with fail
  clear e_a
  refine (C6.out _ _ hS hpc hs5.out).mono ?_
  rintro e w4' ⟨rfl, u_w4'⟩
  replace B_a := B_a.below u_w4'
  replace B_p := B_p.below u_w4'
  replace B_l := B_l.below u_w4'
  replace hS := hS.below u_w4'
  replace hK := hK.below u_w4'
  replace hH := hH.below u_w4'
  have S_w4' := u_w4'.size
  have V_w4' : Below w.heap.size w w4' := V_w3'.trans (u_w4'.mono V_w3'.size)
  clear V_w3'
  clear u_w4'
  clear hpc
  cases b6
  · go_wp2
    go_ret
    exact ⟨rfl, V_w4'⟩
  have e_a := B_a.all11
  go_wp2_with fail
  refine (C7.out _).mono ?_; rintro e w' ⟨rfl, rfl⟩
  cases b7
  · go_wp2
    go_ret
    exact ⟨rfl, V_w4'⟩
  have hst := F7.out rfl
  cases b8
  · have d5 : (((hn : Int) != st) : Bool) = true := by have := HB8.out; simp at this; simp; omega
    go_wp2
    go_ret
    exact ⟨rfl, V_w4'⟩
  have d3 : (hn : Int) = st := by simpa using HB8.out
  have d4 : (((hn : Int) != st) : Bool) = false := by simp; omega
  have hn3 : hn ≤ 3 := by omega
  have D3 := Lib.hid d3
  clear d3
  go_wp2
  clear e_a
  go_loopw [71] (fun v wr => ∃ i : Nat, i ≤ hn ∧ v = .int .i64 i ∧ (∀ j, j < i → heardAt P H j = true) ∧ Below w4'.heap.size w4' wr) (fun v _ => hn - (intOf v).toNat)
  case atStart => exact ⟨0, Nat.zero_le _, rfl, fun j hj => absurd hj (by omega), Below.refl _ _⟩
  case round =>
    obtain ⟨i, hi, rfl, hj, hbel⟩ := hrel
    have HJ := Lib.hid hj
    clear hj
    have B_a := B_a.below hbel
    have B_p := B_p.below hbel
    have B_l := B_l.below hbel
    have hS := hS.below hbel
    have hK := hK.below hbel
    have hH := hH.below hbel
    have V_wr := V_w4'.trans (hbel.mono V_w4'.size)
    have S_wr := hbel.size
    have hTw := LX.out.below V_wr
    by_cases hlt : i < hn
    · obtain ⟨g, o, rfl, c0, inn⟩ := hH.at i hlt
      have hat : hAt H i = (rowAt rs i).2.2 := hAt_rs HD.out i (by rw [hHL.out]; exact hlt)
      have tb := hTw.at i (by omega)
      have bb := blen_bd i
      have Hat : Hid (heardAt P H i = (decide ((rowAt rs i).2.2.length = blen i) && allB (rowAt rs i).2.2 0 (P - 1))) := Lib.hid (by unfold heardAt bodyB; rw [hat])
      have CB := fun (W : World) (hh : Ints W (rowAt rs i).1 (rowAt rs i).2.2.length (rowAt rs i).2.1 (rowAt rs i).2.2) => areElements_any P _ _ _ _ W hh
      rw [elsB_of _ hpr] at CB
      have hnr := inn.le
      generalize rowAt rs i = r at *
      obtain ⟨ra, rc, rl⟩ := r
      dsimp only at *
      generalize allB rl 0 (P - 1) = bb5 at *
      replace CB := Lib.hid CB
      clear hat hTw
      have hlt' : (i : Int) < (hn : Int) := by omega
      have hi3 : (i : Int) < 3 := by omega
      have hRL : Hid (rl.length = rl.length) := Lib.hid rfl
      generalize rl.length = rn at *
      by_cases d6 : rn = blen i
      · have d7 : (((rn : Int) != (blen i : Int)) : Bool) = false := by simp; omega
        have d9 : decide (rn = blen i) = true := decide_eq_true d6
        rw [d9, Bool.true_and] at Hat
        clear d9 d6
        have e_p_0 := B_p.a1_0
        go_wp2_with fail
        clear e_p_0
        refine (CB.out _ inn).mono ?_; rintro e w9 ⟨rfl, u9⟩
        have hbel9 := hbel.trans (u9.mono hbel.size)
        clear inn c0 tb CB
        replace B_a := B_a.below u9
        replace B_p := B_p.below u9
        replace B_l := B_l.below u9
        replace hS := hS.below u9
        replace hK := hK.below u9
        replace hH := hH.below u9
        have S_w9 := u9.size
        have V_w9 : Below w.heap.size w w9 := V_wr.trans (u9.mono V_wr.size)
        clear V_wr
        clear u9
        cases bb5
        · have HB := Lib.hid (rangeAll_no (q := heardAt P H) hlt Hat.out)
          go_wp2
          go_ret
          exact ⟨by unfold heardB; rw [HB.out]; rfl, V_w9⟩
        · go_wp2
          go_roundw
          case rel => exact ⟨i + 1, by omega, by go_num, fun j hj => by
            by_cases e : j = i
            · subst e; exact Hat.out
            · exact HJ.out j (by omega), hbel9⟩
          case measure => simp [intOf]; omega
      · have d7 : (((rn : Int) != (blen i : Int)) : Bool) = true := by simp; omega
        have d9 : decide (rn = blen i) = false := decide_eq_false d6
        rw [d9, Bool.false_and] at Hat
        have HB := Lib.hid (rangeAll_no (q := heardAt P H) hlt Hat.out)
        clear d9 d6
        have e_p_0 := B_p.a1_0
        go_wp2
        go_ret
        exact ⟨by unfold heardB; rw [HB.out]; rfl, V_wr⟩
    · obtain rfl : hn = i := by omega
      have HB := Lib.hid (rangeAll_yes (q := heardAt P H) (n := hn) (fun j hj => HJ.out j hj))
      have HR : Hid ((heardB P H hn && endB st ss ou) = endB st ss ou) := Lib.hid (by unfold heardB; rw [HB.out]; rfl)
      clear HB hlt
      have e_a := B_a.all11
      by_cases k3 : st = 3
      · have HE : Hid (endB st ss ou = decide (ss = 1)) := Lib.hid (by unfold endB; rw [if_pos k3])
        have k4 : ((st == 3) : Bool) = true := by simpa using k3
        clear k3
        go_wp2
        go_ret
        exact ⟨ret_bool (by show _ = (heardB P H hn && endB st ss ou); rw [HR.out, HE.out, Bool.eq_iff_iff]; simp), V_wr⟩
      · have HE : Hid (endB st ss ou = ((decide (ss = 0) || decide (ss = 2)) && decide (ou = 0))) := Lib.hid (by unfold endB; rw [if_neg k3])
        have k4 : ((st == 3) : Bool) = false := by simpa using k3
        clear k3
        by_cases s0 : ss = 0
        · subst s0
          go_wp2
          go_ret
          exact ⟨ret_bool (by show _ = (heardB P H hn && endB st 0 ou); rw [HR.out, HE.out, Bool.eq_iff_iff]; simp), V_wr⟩
        · have s1 : ((ss == 0) : Bool) = false := by simpa using s0
          have s3 : decide (ss = 0) = false := by simpa using s0
          rw [s3, Bool.false_or] at HE
          clear s3 s0
          by_cases s0 : ss = 2
          · subst s0
            go_wp2
            go_ret
            exact ⟨ret_bool (by show _ = (heardB P H hn && endB st 2 ou); rw [HR.out, HE.out, Bool.eq_iff_iff]; simp), V_wr⟩
          · have s2 : ((ss == 2) : Bool) = false := by simpa using s0
            have s3 : decide (ss = 2) = false := by simpa using s0
            rw [s3, Bool.false_and] at HE
            clear s3 s0
            go_wp2
            go_ret
            exact ⟨ret_bool (by show _ = (heardB P H hn && endB st ss ou); rw [HR.out, HE.out]), V_wr⟩
end Go.Proofs.YtlmdckcohoddnaaDoor
namespace Go.Proofs.YtlmdckcohoddnaaDoor
open Go.ChangeShapes Go.WideShapes Go.Deep Go.RowKit
end Go.Proofs.YtlmdckcohoddnaaDoor
