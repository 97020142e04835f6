/- Lemmas and walks that the claim's proof rests on, part 2. -/
import Derived.ArgAppend
import Derived.Test.YtlmdckcohoddnaaK1
namespace Go.Proofs.Ytlmdckcohoddnaa
open Go.RowKit
/-- The row (a2, c2) is the row (a, c), or lies in a block that w has not. -/
def Moved (w : World) (a : Option Addr) (c : Nat) (a2 : Option Addr) (c2 : Nat) : Prop := (a2 = a ∧ c2 = c) ∨ ∀ x, 0 < c2 → a2 = some x → w.heap.size ≤ x.block
theorem Moved.disj {w a c a2 c2} {F : List Nat} (h : Moved w a c a2 c2) (hd : Disj (foot a c) F) (hF : ∀ k ∈ F, k < w.heap.size) : Disj (foot a2 c2) F := by
  rcases h with ⟨rfl, rfl⟩ | h
  · exact hd
  · intro k hk hk'
    obtain ⟨x, hx, hc, rfl⟩ := mem_foot hk
    have := h x hc hx
    have := hF _ hk'
    omega
/-- APPEND, WHATEVER THE SHAPES: an owned row, a row that is read (nil, empty or not). The new row is owned, the old one still reads. -/
theorem run_app2 {P : Program} (w : World) (t ty : TypeId)
    (b e : Nat) (i : TypeInfo) (z : Value) (sz bytes : Nat) (ht : P.underlying t = some (.slice e)) (hi : P.info? e = some i) (hz : i.zero = some z)
    (hsize : i.size = sz) (hby : i.bytes = bytes) (hzs : z.cells.size = sz) (hsz : 0 < sz)
    (a : Option Addr) (n c : Nat) (xs : List Value) (hown : OwnC w b a n c e sz xs)
    (a' : Option Addr) (m c' : Nat) (xs' : List Value) (hrow : RowC w a' m c' sz xs') (h1 : ∀ u ∈ xs', u.oneCell' = true)
    (hbytes : (n + m) * bytes ≤ 140737488355328) (hmax : n + m ≤ maxLen) (hbase : b ≤ w.heap.size) :
    ∃ a2 c2 w', (Builtin.append_ #[t, t] ty #[.slice a n c, .slice a' m c']).run P w = .ok (.slice a2 (n + m) c2) w' ∧ OwnC w' b a2 (n + m) c2 e sz (xs ++ xs') ∧ w.grownBy w' (rowOf a c) ∧ RowC w' a n c sz xs ∧ Moved w a c a2 c2 := by
  by_cases hm : m = 0
  · subst hm
    have hx' : xs' = [] := List.eq_nil_of_length_eq_zero (by simpa using hrow.1)
    subst hx'
    have hnc := hown.2.1
    refine ⟨a, c, w, ?_, by simpa using hown, World.grownBy.refl _ _, hown.row, Or.inl ⟨rfl, rfl⟩⟩
    cases a' with
    | none => cases a <;> simp [Builtin.append_, run_underlying ht, sizeOf, typeInfo, hi, Builtin.lenOf, Builtin.firstCells, hnc, storeCells]
    | some y =>
      have hf := run_firstCells_some (P := P) w i.size 0 y 0 c' [] (by simp) (fun j u hu => by simp at hu)
      cases a <;> simp [Builtin.append_, run_underlying ht, sizeOf, typeInfo, hi, Builtin.lenOf, hf, hnc, storeCells]
  · obtain ⟨hr1, hr2, hr3, hr4, g', o', hr5, hr6⟩ := hrow
    obtain rfl := hr5 (by omega)
    have hadd : ∀ (g o j : Nat), (⟨g, o, none⟩ : Addr).add j = ⟨g, o + j, none⟩ := fun g o j => by unfold Addr.add; split <;> simp_all
    have hnews : ∀ j u, xs'[j]? = some u → w.cell? ((⟨g', o', none⟩ : Addr).add j) = some u := fun j u hu => by rw [hadd]; exact hr6 j u hu
    by_cases hc : 0 < c
    · obtain ⟨g, cur, hag, hbg, hgg, hcs, hct⟩ := hown.2.2.2.2 hc
      have hob := hown.owns hc
      have hro : rowOf a c = some g := by unfold rowOf; rw [if_neg (by omega), hag]; rfl
      subst hag
      by_cases hroom : n + m ≤ c
      · obtain ⟨w', hrun, r1, r2⟩ := run_append_fits (P := P) w b t ty e i sz ht hi hsize g n c xs hob ⟨g', o', none⟩ m c' xs' hr1 hnews h1 hroom
        obtain ⟨a2, c2, e2, h2⟩ := OwnC.of_owns r1
        cases e2
        exact ⟨_, _, w', hrun, h2, by rw [hro]; exact r2, h2.prefix_row hown.1, Or.inl ⟨rfl, rfl⟩⟩
      · obtain ⟨v', w', hrun, r1, r2⟩ := run_append_arg_grows (P := P) w t ty e i z sz bytes ht hi hz hsize hby hzs hsz ⟨g, 0, none⟩ n c xs hown.1 (fun j u hu => by
          obtain ⟨q1, q2, q3, q4, gg, oo, q5, q6⟩ := hown.row
          have hn0 : 0 < n := by
            have := (List.getElem?_eq_some_iff.1 hu).1
            rw [hown.1] at this
            cases n with
            | zero => simp at this
            | succ n => omega
          have := q5 hn0
          cases this
          rw [hadd]; exact q6 j u hu) ⟨g', o', none⟩ m c' xs' hr1 hnews (by omega) hmax hbytes
        obtain ⟨a2, c2, rfl, h2⟩ := OwnC.of_owns r1
        exact ⟨_, _, w', hrun, h2.lower hbase, grownBy_some r2 _, hown.row.keep r2, Or.inr fun x hc hx => (h2.range x hc hx).1⟩
    · have hn0 : n = 0 := by have := hown.2.1; omega
      have hc0 : c = 0 := by omega
      subst hn0; subst hc0
      have hxe : xs = [] := List.eq_nil_of_length_eq_zero (by simpa using hown.1)
      subst hxe
      cases a with
      | none =>
        obtain ⟨v', w', hrun, r1, r2, _⟩ := run_append_own (P := P) w w.heap.size t ty e i z sz bytes ht hi hz hsize hby hzs hsz (.slice none 0 0) 0 [] (World.ownsRow_nil w _ e sz) ⟨g', o', none⟩ m c' xs' hr1 hnews h1 hmax hbytes (Nat.le_refl _)
        obtain ⟨a2, c2, rfl, h2⟩ := OwnC.of_owns r1
        exact ⟨_, _, w', hrun, h2.lower hbase, by unfold rowOf; exact r2, hown.row.keep r2, Or.inr fun x hc hx => (h2.range x hc hx).1⟩
      | some y =>
        obtain ⟨v', w', hrun, r1, r2⟩ := run_append_arg_grows (P := P) w t ty e i z sz bytes ht hi hz hsize hby hzs hsz y 0 0 [] (by simp) (fun j u hu => by simp at hu) ⟨g', o', none⟩ m c' xs' hr1 hnews (by omega) hmax hbytes
        obtain ⟨a2, c2, rfl, h2⟩ := OwnC.of_owns r1
        exact ⟨_, _, w', hrun, h2.lower hbase, grownBy_some r2 _, hown.row.keep r2, Or.inr fun x hc hx => (h2.range x hc hx).1⟩
/-- Append on integers: what it leaves. -/
theorem run_appJ (w : World) (ty : TypeId) (b : Nat) (a : Option Addr) (n c : Nat) (l : List Int) (hown : Own w b a n c l) (a' : Option Addr) (m c' : Nat) (l' : List Int) (hrow : Ints w a' m c' l') (hlen : n + m ≤ 1000000000000) (hbase : b ≤ w.heap.size) :
    ∃ a2 c2 w', (Builtin.append_ #[23, 23] ty #[.slice a n c, .slice a' m c']).run Try.prog w = .ok (.slice a2 (n + m) c2) w' ∧ Own w' b a2 (n + m) c2 (l ++ l') ∧ Below b w w' ∧ w.grownBy w' (rowOf a c) ∧ Ints w' a n c l ∧ Moved w a c a2 c2 := by
  obtain ⟨i0, hi, hz0, hz1, hz2⟩ := info_parts info_int
  obtain ⟨a2, c2, w', hrun, h1, h2, h3, h9⟩ := run_app2 w 23 ty b 3 i0 (.int .i64 0) 1 8 Try.underlying23 hi hz0 hz1 hz2 rfl (by decide) a n c _ hown a' m c' _ hrow.rowC (by
    intro u hu
    simp only [List.mem_map] at hu
    obtain ⟨y, _, rfl⟩ := hu
    rfl) (by omega) (by unfold maxLen; omega) hbase
  exact ⟨a2, c2, w', hrun, by unfold Own; rw [List.map_append]; exact h1, below_grownBy h2 hbase (fun x hc hx => (hown.range x hc hx).1), h2, Ints.of_rowC h3, h9⟩
theorem wp_appJ (w : World) {o : Oper} {act : Act} {K : Act → World → Prop} {Q : Exit → Act → World → Prop} (s x : Operand)
    (ho : o.op = .call { callee := .builtin .append, args := #[s, x], argTypes := #[23, 23] })
    (b : Nat) (a : Option Addr) (n c : Nat) (l : List Int) (hs : act.eval s = .slice a n c) (hown : Own w b a n c l)
    (a' : Option Addr) (m c' : Nat) (l' : List Int) (hx : act.eval x = .slice a' m c') (hrow : Ints w a' m c' l')
    (hlen : n + m ≤ 1000000000000) (hbase : b ≤ w.heap.size)
    (h : ∀ a2 c2 w', Own w' b a2 (n + m) c2 (l ++ l') → Below b w w' → w.grownBy w' (rowOf a c) → Ints w' a n c l → Moved w a c a2 c2 → K (act.put o.dst (.slice a2 (n + m) c2)) w') : o.wp Try.prog act w K Q := by
  obtain ⟨a2, c2, w', hrun, h1, h2, h3, h4, h5⟩ := run_appJ w o.type b a n c l hown a' m c' l' hrow hlen hbase
  unfold Oper.wp
  simp [execOp, ho, resolve, invoke, builtin, hs, hx, hrun, Result.andThen]
  exact h a2 c2 w' h1 h2 h3 h4 h5
/-- The same inside a region that draws its order. -/
theorem step_appJ (w : World) {ops : Array Oper} {o : Oper} {act : Act} {K : Act → World → Prop} {Q : Exit → Act → World → Prop} {E : Prop} (hgd : o.guard = none) (s x : Operand)
    (ho : o.op = .call { callee := .builtin .append, args := #[s, x], argTypes := #[23, 23] })
    (b : Nat) (a : Option Addr) (n c : Nat) (l : List Int) (hs : act.eval s = .slice a n c) (hown : Own w b a n c l)
    (a' : Option Addr) (m c' : Nat) (l' : List Int) (hx : act.eval x = .slice a' m c') (hrow : Ints w a' m c' l')
    (hlen : n + m ≤ 1000000000000) (hbase : b ≤ w.heap.size)
    (h : ∀ a2 c2 w', Own w' b a2 (n + m) c2 (l ++ l') → Below b w w' → w.grownBy w' (rowOf a c) → Ints w' a n c l → Moved w a c a2 c2 → K (act.put o.dst (.slice a2 (n + m) c2)) w') :
    if Region.wanted o (yielded ops act.tmps) = true then Oper.wp Try.prog o act w K Q else E := by
  rw [if_pos (by simp [Region.wanted, hgd])]
  exact wp_appJ w s x ho b a n c l hs hown a' m c' l' hx hrow hlen hbase h
end Go.Proofs.Ytlmdckcohoddnaa
namespace Go.Proofs.Ytlmdckcohoddnaa
open Go.RowKit
abbrev RowD := Option Addr × Nat × List Int
def rowV (r : RowD) : Value := .slice r.1 r.2.2.length r.2.1
def rowsF (rs : List RowD) : List Nat := rs.flatMap fun r => foot r.1 r.2.1
def feetSS (a : Option Addr) (c : Nat) (rs : List RowD) : List Nat := foot a c ++ rowsF rs
structure OwnSS (w : World) (b : Nat) (a : Option Addr) (n c : Nat) (rs : List RowD) : Prop where
  out : OwnC w b a n c 23 1 (rs.map rowV)
  inn : ∀ r ∈ rs, Own w b r.1 r.2.2.length r.2.1 r.2.2
  dis : rs.Pairwise fun r s => Disj (foot r.1 r.2.1) (foot s.1 s.2.1)
  apart : Disj (foot a c) (rowsF rs)
theorem mem_rowsF {rs : List RowD} {r : RowD} {k : Nat} (hr : r ∈ rs) (hk : k ∈ foot r.1 r.2.1) : k ∈ rowsF rs := List.mem_flatMap.2 ⟨r, hr, hk⟩
theorem OwnSS.only {X : List Nat} {w w' : World} {b a n c rs} (h : OwnSS w b a n c rs) (ho : Only X w w') (hd : Disj (feetSS a c rs) X) : OwnSS w' b a n c rs :=
  ⟨h.out.only ho (fun k hk => hd k (List.mem_append_left _ hk)), fun r hr => (h.inn r hr).only ho (fun k hk => hd k (List.mem_append_right _ (mem_rowsF hr hk))), h.dis, h.apart⟩
theorem OwnSS.below {w w' : World} {b a n c rs} (h : OwnSS w b a n c rs) (hb : Below w.heap.size w w') : OwnSS w' b a n c rs :=
  ⟨h.out.below hb, fun r hr => (h.inn r hr).below hb, h.dis, h.apart⟩
theorem OwnSS.alloc {w : World} {b a n c rs} (h : OwnSS w b a n c rs) (o : Obj) : OwnSS (w.alloc o) b a n c rs := h.below ((Below.refl _ _).alloc (Nat.le_refl _) _)
theorem OwnSS.drew {w : World} {b a n c rs} (h : OwnSS w b a n c rs) : OwnSS w.drew b a n c rs := h.below ((Below.refl _ _).drew)
theorem OwnSS.lower {w : World} {b b' a n c rs} (h : OwnSS w b a n c rs) (hb : b' ≤ b) : OwnSS w b' a n c rs :=
  ⟨h.out.lower hb, fun r hr => (h.inn r hr).lower hb, h.dis, h.apart⟩
theorem OwnSS.feet {w : World} {b a n c rs} (h : OwnSS w b a n c rs) : ∀ k ∈ feetSS a c rs, b ≤ k ∧ k < w.heap.size := fun k hk => by
  rcases List.mem_append.1 hk with hk | hk
  · exact h.out.feet k hk
  · obtain ⟨r, hr, hk⟩ := List.mem_flatMap.1 hk
    exact (h.inn r hr).feet k hk
theorem OwnSS.nil0 (w : World) (b : Nat) (a : Option Addr) : OwnSS w b a 0 0 [] :=
  ⟨OwnC.nil0 w b 23 1 a, fun r hr => (by cases hr), List.Pairwise.nil, fun k hk => by simp [foot, rowOf] at hk⟩
theorem feetSS_nil (a : Option Addr) : feetSS a 0 [] = [] := by simp [feetSS, foot, rowOf, rowsF]
theorem RowC.lit1 (w : World) (v : Value) (e : TypeId) : RowC (w.alloc (.cells #[v] e)) (some ⟨w.heap.size, 0, none⟩) 1 1 1 [v] := (OwnC.lit w 0 1 e 1 [v] (Nat.zero_le _) rfl (by simp [maxLen])).row
theorem RowC.drew {w a n c sz xs} (h : RowC w a n c sz xs) : RowC w.drew a n c sz xs := h.below ((Below.refl _ _).drew)
/-- The shares of the wires, and what was opened: three families that stand apart. -/
structure WireM (w : World) (b : Nat) (a1 : Option Addr) (n1 c1 : Nat) (F : List Int) (a2 : Option Addr) (n2 c2 : Nat) (S : List Int) (a3 : Option Addr) (n3 c3 : Nat) (rs : List RowD) : Prop where
  f : Own w b a1 n1 c1 F
  s : Own w b a2 n2 c2 S
  o : OwnSS w b a3 n3 c3 rs
  fs : Disj (foot a1 c1) (foot a2 c2)
  fo : Disj (foot a1 c1) (feetSS a3 c3 rs)
  so : Disj (foot a2 c2) (feetSS a3 c3 rs)
section
variable {w w' : World} {b n1 c1 n2 c2 n3 c3 c5 : Nat} {a1 a2 a3 a5 : Option Addr} {F S : List Int} {rs : List RowD}
theorem WireM.below (h : WireM w b a1 n1 c1 F a2 n2 c2 S a3 n3 c3 rs) (hb : Below w.heap.size w w') : WireM w' b a1 n1 c1 F a2 n2 c2 S a3 n3 c3 rs :=
  ⟨h.f.below hb, h.s.below hb, h.o.below hb, h.fs, h.fo, h.so⟩
theorem WireM.alloc (h : WireM w b a1 n1 c1 F a2 n2 c2 S a3 n3 c3 rs) (o : Obj) : WireM (w.alloc o) b a1 n1 c1 F a2 n2 c2 S a3 n3 c3 rs := h.below ((Below.refl _ _).alloc (Nat.le_refl _) _)
theorem WireM.drew (h : WireM w b a1 n1 c1 F a2 n2 c2 S a3 n3 c3 rs) : WireM w.drew b a1 n1 c1 F a2 n2 c2 S a3 n3 c3 rs := h.below ((Below.refl _ _).drew)
end
end Go.Proofs.Ytlmdckcohoddnaa
namespace Go.Proofs.Ytlmdckcohoddnaa
open Go.RowKit
def rowAt (rs : List RowD) (j : Nat) : RowD := rs.getD j (none, 0, [])
theorem rowAt_mem {rs : List RowD} {j : Nat} (h : j < rs.length) : rowAt rs j ∈ rs := by
  unfold rowAt; simp [List.getD, h]
theorem rowAt_some {rs : List RowD} {j : Nat} (h : j < rs.length) : rs[j]? = some (rowAt rs j) := by
  unfold rowAt; simp [List.getD, h]
/-- The sum of the rows' lengths. -/
def tot (rs : List RowD) : Nat := (rs.map fun r => r.2.2.length).sum
theorem tot_take_succ {rs : List RowD} {j : Nat} (h : j < rs.length) : tot (rs.take (j + 1)) = tot (rs.take j) + (rowAt rs j).2.2.length := by
  unfold tot
  rw [List.take_succ_eq_append_getElem h, List.map_append, List.sum_append]
  simp [rowAt, List.getD, h]
theorem tot_take_le (rs : List RowD) (j : Nat) : tot (rs.take j) ≤ tot rs := by
  have : tot rs = tot (rs.take j) + tot (rs.drop j) := by
    unfold tot; rw [← List.sum_append, ← List.map_append, List.take_append_drop]
  omega
theorem tot_take_all (rs : List RowD) : tot (rs.take rs.length) = tot rs := by rw [List.take_length]
/-- The slice (a, n, c) of slices reads as the rows rs. -/
structure IntSS (w : World) (a : Option Addr) (n c : Nat) (rs : List RowD) : Prop where
  row : RowC w a n c 1 (rs.map rowV)
  inn : ∀ r ∈ rs, Ints w r.1 r.2.2.length r.2.1 r.2.2
theorem OwnSS.reads {w b a n c rs} (h : OwnSS w b a n c rs) : IntSS w a n c rs := ⟨h.out.row, fun r hr => (h.inn r hr).ints⟩
theorem IntSS.len {w a n c rs} (h : IntSS w a n c rs) : rs.length = n := by have := h.row.1; simpa using this
theorem IntSS.le {w a n c rs} (h : IntSS w a n c rs) : (n : Int) ≤ 9223372036854775807 := by
  have := h.row.2.1; have := h.row.2.2.1; unfold maxLen at this; omega
theorem IntSS.below {w w' a n c rs} (h : IntSS w a n c rs) (hb : Below w.heap.size w w') : IntSS w' a n c rs := ⟨h.row.below hb, fun r hr => (h.inn r hr).below hb⟩
theorem IntSS.alloc {w a n c rs} (h : IntSS w a n c rs) (o : Obj) : IntSS (w.alloc o) a n c rs := h.below ((Below.refl _ _).alloc (Nat.le_refl _) _)
theorem IntSS.drew {w a n c rs} (h : IntSS w a n c rs) : IntSS w.drew a n c rs := h.below ((Below.refl _ _).drew)
theorem IntSS.nil0 (w : World) : IntSS w none 0 0 [] := ⟨⟨rfl, Nat.le_refl _, Nat.zero_le _, fun _ => rfl, 0, 0, fun h => absurd h (by omega), fun i u hu => by simp at hu⟩, fun r hr => by cases hr⟩
theorem IntSS.at {w a n c rs} (h : IntSS w a n c rs) (k : Nat) (hk : k < n) : ∃ g o, a = some ⟨g, o, none⟩ ∧ w.cell? ⟨g, o + k, none⟩ = some (.slice (rowAt rs k).1 (rowAt rs k).2.2.length (rowAt rs k).2.1) ∧ Ints w (rowAt rs k).1 (rowAt rs k).2.2.length (rowAt rs k).2.1 (rowAt rs k).2.2 := by
  have hl := h.len
  obtain ⟨_, _, _, _, g, o, h1, h2⟩ := h.row
  refine ⟨g, o, h1 (by omega), ?_, h.inn _ (rowAt_mem (by omega))⟩
  have := h2 k (rowV (rowAt rs k)) (by rw [List.getElem?_map, rowAt_some (by omega)]; rfl)
  exact this
/-- The rows of numbers. -/
def datas' (rs : List RowD) : List (List Int) := rs.map fun r => r.2.2
theorem datas_len (rs : List RowD) : (datas' rs).length = rs.length := by simp [datas']
theorem datas_at {rs rs' : List RowD} (h : datas' rs = datas' rs') (k : Nat) (hk : k < rs.length) : (rowAt rs k).2.2 = (rowAt rs' k).2.2 := by
  have hl : rs.length = rs'.length := by rw [← datas_len rs, h, datas_len]
  have := congrArg (fun l => l[k]?) h
  simp only [datas', List.getElem?_map, rowAt_some hk, rowAt_some (hl ▸ hk : k < rs'.length), Option.map_some, Option.some.injEq] at this
  exact this
set_option maxHeartbeats 4000000 in
theorem eqIntSS_b (a : Option Addr) (n c : Nat) (a' : Option Addr) (n' c' : Nat) (rs rs' : List RowD) (w : World) (h : IntSS w a n c rs) (h' : IntSS w a' n' c' rs') (he : datas' rs = datas' rs') :
    Calls Try.prog 20 #[.slice a n c, .slice a' n' c'] w fun e w' => e = .returned (.bool true) ∧ Below w.heap.size w w' := by
  obtain rfl : n = n' := by rw [← h.len, ← h'.len, ← datas_len rs, he, datas_len]
  have hn := h.le
  have HE := Lib.hid he
  have HL := Lib.hid h.len
  clear he
  go_enter Try.func20, Try.ntmps20
  go_wp2
  go_loopw [5] (fun v wr => ∃ k : Nat, k ≤ n ∧ v = .int .i64 k ∧ Below w.heap.size w wr) (fun v _ => n - (intOf v).toNat)
  case atStart => exact ⟨0, Nat.zero_le _, rfl, Below.refl _ _⟩
  case round =>
    obtain ⟨k, hk, rfl, hbel⟩ := hrel
    by_cases hlt : k < n
    · have HD := Lib.hid (datas_at HE.out k (by rw [HL.out]; exact hlt))
      obtain ⟨g, o, rfl, c0, i0⟩ := (h.below hbel).at k hlt
      obtain ⟨g', o', rfl, c1, i1⟩ := (h'.below hbel).at k hlt
      rw [HD.out] at c0 i0
      generalize rowAt rs k = r at *
      generalize rowAt rs' k = s at *
      generalize s.2.2 = l at *
      have hlt' : (k : Int) < (n : Int) := by omega
      go_wp2
      go_region_held3 (fun W => W.cell? ⟨g, o + k, none⟩ = some (.slice r.1 l.length r.2.1) ∧ W.cell? ⟨g', o' + k, none⟩ = some (.slice s.1 l.length s.2.1))
        (first | exact ⟨keepC u2 c0, keepC u2 c1⟩ | go_keep)
        (first | (go_at_call 19; refine (eqIntS_b _ _ _ _ _ _ l _ (by exact i0.drewN 1) (by exact i1.drewN 1)).mono ?_; rintro e w2 ⟨rfl, u2⟩))
      have bel2 : Below w.heap.size w w2 := hbel.drew.trans (u2.mono hbel.size)
      go_wp2
      go_roundw
      case rel => exact ⟨k + 1, by omega, by go_num, bel2⟩
      case measure => simp [intOf]; omega
    · go_wp2
      go_ret
      exact ⟨rfl, hbel⟩
/-- The rows hold the numbers from k on. -/
def UpSS (k : Int) (rs : List RowD) : Prop := ∀ j, j < rs.length → UpFrom (k + tot (rs.take j)) (rowAt rs j).2.2
theorem set_key (rs : List RowD) (i : Nat) (l : List Int) (hl : l.length = (rowAt rs i).2.2.length) (hi : i < rs.length) :
    (rs.set i ((rowAt rs i).1, (rowAt rs i).2.1, l)).map (fun r => (r.1, r.2.1, r.2.2.length)) = rs.map (fun r => (r.1, r.2.1, r.2.2.length)) := by
  apply List.ext_getElem?
  intro j
  rw [List.getElem?_map, List.getElem?_map, List.getElem?_set]
  by_cases e : i = j
  · subst e; rw [if_pos rfl, if_pos hi, rowAt_some hi]; simp [hl]
  · rw [if_neg e]
theorem rowsF_key {rs rs' : List RowD} (h : rs'.map (fun r => (r.1, r.2.1, r.2.2.length)) = rs.map (fun r => (r.1, r.2.1, r.2.2.length))) : rowsF rs' = rowsF rs := by
  have e : ∀ q : List RowD, rowsF q = (q.map (fun r => (r.1, r.2.1, r.2.2.length))).flatMap fun t => foot t.1 t.2.1 := fun q => by simp [rowsF, List.flatMap_map]
  rw [e, e, h]
theorem tot_key {rs rs' : List RowD} (h : rs'.map (fun r => (r.1, r.2.1, r.2.2.length)) = rs.map (fun r => (r.1, r.2.1, r.2.2.length))) (j : Nat) : tot (rs'.take j) = tot (rs.take j) := by
  have e : ∀ q : List RowD, tot (q.take j) = (((q.map (fun r => (r.1, r.2.1, r.2.2.length))).take j).map fun t => t.2.2).sum := fun q => by simp [tot, List.map_take]; rfl
  rw [e, e, h]
theorem at_key {rs rs' : List RowD} (h : rs'.map (fun r => (r.1, r.2.1, r.2.2.length)) = rs.map (fun r => (r.1, r.2.1, r.2.2.length))) (j : Nat) (hj : j < rs.length) : (rowAt rs' j).1 = (rowAt rs j).1 ∧ (rowAt rs' j).2.1 = (rowAt rs j).2.1 ∧ (rowAt rs' j).2.2.length = (rowAt rs j).2.2.length := by
  have hl : rs'.length = rs.length := by simpa using congrArg List.length h
  have := congrArg (fun l => l[j]?) h
  simp only [List.getElem?_map, rowAt_some hj, rowAt_some (hl ▸ hj : j < rs'.length), Option.map_some, Option.some.injEq, Prod.mk.injEq] at this
  exact this
theorem OwnSS.cap {w b a n c rs} (h : OwnSS w b a n c rs) : n ≤ c ∧ c ≤ maxLen := ⟨h.out.row.2.1, h.out.row.2.2.1⟩
/-- A row is written. -/
theorem OwnSS.put {w w' : World} {b a n c rs} (h : OwnSS w b a n c rs) (i : Nat) (hi : i < rs.length) (l : List Int) (o : Own w' b (rowAt rs i).1 (rowAt rs i).2.2.length (rowAt rs i).2.1 l) (ho : Only (foot (rowAt rs i).1 (rowAt rs i).2.1) w w') :
    OwnSS w' b a n c (rs.set i ((rowAt rs i).1, (rowAt rs i).2.1, l)) := by
  have hl : l.length = (rowAt rs i).2.2.length := by have := o.len; omega
  have hk := set_key rs i l hl hi
  have hm := rowAt_mem hi
  refine ⟨?_, fun r hr => ?_, ?_, ?_⟩
  · have e : ∀ q : List RowD, q.map rowV = (q.map (fun r => (r.1, r.2.1, r.2.2.length))).map fun t => Value.slice t.1 t.2.2 t.2.1 := fun q => by simp [rowV]
    rw [e, hk, ← e]
    exact h.out.only ho (fun k hk hk' => h.apart k hk (mem_rowsF hm hk'))
  · obtain ⟨j, hj⟩ := List.getElem?_of_mem hr
    rw [List.getElem?_set] at hj
    by_cases e : i = j
    · subst e
      rw [if_pos rfl, if_pos hi, Option.some.injEq] at hj
      subst hj
      rw [← hl] at o
      exact o
    · rw [if_neg e] at hj
      have hjl := (List.getElem?_eq_some_iff.1 hj).1
      have hrr : rowAt rs j = r := by have := rowAt_some hjl; rw [hj] at this; exact (Option.some.inj this).symm
      have hmr : r ∈ rs := by rw [← hrr]; exact rowAt_mem hjl
      refine (h.inn r hmr).only ho ?_
      have hp := List.pairwise_iff_getElem.1 h.dis
      have ei : rs[i] = rowAt rs i := by simp [rowAt, List.getD, hi]
      have ej : rs[j] = r := by rw [← hrr]; simp [rowAt, List.getD, hjl]
      rcases Nat.lt_or_gt_of_ne e with hlt | hgt
      · have := hp i j hi hjl hlt; rw [ei, ej] at this; exact this.symm
      · have := hp j i hjl hi hgt; rw [ei, ej] at this; exact this
  · have e : ∀ q : List RowD, (q.Pairwise fun r s => Disj (foot r.1 r.2.1) (foot s.1 s.2.1)) ↔ ((q.map (fun r => (r.1, r.2.1, r.2.2.length))).Pairwise fun r s => Disj (foot r.1 r.2.1) (foot s.1 s.2.1)) := fun q => by rw [List.pairwise_map]
    rw [e, hk, ← e]
    exact h.dis
  · rw [rowsF_key hk]; exact h.apart
set_option maxHeartbeats 4000000 in
theorem markIntSS_o (a : Option Addr) (n c b : Nat) (rs : List RowD) (k0 : Int) (w : World) (h : OwnSS w b a n c rs) (h0 : 0 ≤ k0) (h1 : k0 + tot rs ≤ 4000000000000000000) :
    Calls Try.prog 23 #[.slice a n c, .int .i64 k0] w fun e w' => e = .returned (.int .i64 (k0 + tot rs)) ∧ (∃ rs', OwnSS w' b a n c rs' ∧ UpSS k0 rs' ∧ rs'.map (fun r => (r.1, r.2.1, r.2.2.length)) = rs.map (fun r => (r.1, r.2.1, r.2.2.length))) ∧ Only (rowsF rs) w w' := by
  have hn := h.reads.le
  have HL := Lib.hid h.reads.len
  go_enter Try.func23, Try.ntmps23
  go_wp2
  go_loopw [1, 5] (fun u v wr => ∃ i : Nat, i ≤ n ∧ u = .int .i64 (k0 + tot (rs.take i)) ∧ v = .int .i64 i ∧ Only (rowsF rs) w wr ∧ ∃ rs', OwnSS wr b a n c rs' ∧ rs'.map (fun r => (r.1, r.2.1, r.2.2.length)) = rs.map (fun r => (r.1, r.2.1, r.2.2.length)) ∧ ∀ j, j < i → UpFrom (k0 + tot (rs.take j)) (rowAt rs' j).2.2) (fun _ v _ => n - (intOf v).toNat)
  case atStart => exact ⟨0, Nat.zero_le _, by simp [tot], rfl, Only.refl _ _, rs, h, rfl, fun j hj => absurd hj (by omega)⟩
  case round =>
    obtain ⟨i, hi, rfl, rfl, hO, rs', own, hk, hu⟩ := hrel
    have HK := Lib.hid hk
    have HU := Lib.hid hu
    clear hk hu
    have hl' : rs'.length = rs.length := by simpa using congrArg List.length HK.out
    have HL' := Lib.hid hl'
    clear hl'
    by_cases hlt : i < n
    · obtain ⟨e1, e2, e3⟩ := at_key HK.out i (by rw [HL.out]; exact hlt)
      have HT := Lib.hid (tot_take_succ (rs := rs) (j := i) (by rw [HL.out]; exact hlt))
      have t1 := tot_take_le rs (i + 1)
      rw [HT.out] at t1
      have HE1 := Lib.hid e1
      have HE2 := Lib.hid e2
      have HE3 := Lib.hid e3
      rw [← e3] at t1
      clear e1 e2 e3
      obtain ⟨g, o, rfl, c0, _⟩ := own.reads.at i hlt
      have inn := own.inn (rowAt rs' i) (rowAt_mem (by rw [HL'.out, HL.out]; exact hlt))
      have hlt' : (i : Int) < (n : Int) := by omega
      have HT3 : Hid ((k0 + tot (rs.take i) : Int) + ((rowAt rs' i).2.2.length : Nat) = k0 + tot (rs.take (i + 1))) := Lib.hid (by rw [HT.out, HE3.out]; omega)
      obtain ⟨kk, hkk⟩ : ∃ x : Int, k0 + tot (rs.take i) = x := ⟨_, rfl⟩
      have HKK := Lib.hid hkk
      have kk0 : 0 ≤ kk := by omega
      have kk1 : kk + ((rowAt rs' i).2.2.length : Nat) ≤ 4000000000000000000 := by omega
      rw [hkk] at HT3 ⊢
      clear hkk t1
      go_wp2_with fail
      refine (markIntS_o _ _ _ _ _ _ _ inn kk0 kk1).mono ?_; rintro e w2 ⟨rfl, ⟨l', o2, up⟩, g2⟩
      have OS := Lib.hid (own.put i (by rw [HL'.out, HL.out]; exact hlt) l' o2 g2)
      have HS := Lib.hid (set_key rs' i l' (by have := o2.len; omega) (by rw [HL'.out, HL.out]; exact hlt))
      have GG := Lib.hid (hO.trans (g2.more (fun q hq => mem_rowsF (rowAt_mem (rs := rs) (j := i) (by rw [HL.out]; exact hlt)) (by rw [← HE1.out, ← HE2.out]; exact hq))))
      have UP := Lib.hid up
      clear own g2 o2 inn up hO c0
      rw [HT3.out]
      go_wp2
      go_roundw
      case rel => exact ⟨i + 1, by omega, rfl, by go_num, GG.out, _, OS.out, HS.out.trans HK.out, fun j hj => by
        have e : rowAt (rs'.set i ((rowAt rs' i).1, (rowAt rs' i).2.1, l')) j = if i = j then ((rowAt rs' i).1, (rowAt rs' i).2.1, l') else rowAt rs' j := by
          unfold rowAt
          simp only [List.getD, List.getElem?_set]
          by_cases e : i = j
          · subst e; rw [if_pos rfl, if_pos rfl, if_pos (by rw [HL'.out, HL.out]; exact hlt)]; rfl
          · rw [if_neg e, if_neg e]
        rw [e]
        by_cases e : i = j
        · subst e; rw [if_pos rfl, HKK.out]; exact UP.out
        · rw [if_neg e]; exact HU.out j (by omega)⟩
      case measure => simp [intOf]; omega
    · obtain rfl : i = n := by omega
      have ht : tot (rs.take i) = tot rs := by have := HL.out; rw [← this]; exact tot_take_all rs
      have HT := Lib.hid ht
      clear ht
      go_wp2
      go_ret
      exact ⟨by rw [HT.out]; rfl, ⟨rs', own, fun j hj => by rw [tot_key HK.out]; exact HU.out j (by have := HL'.out; have := HL.out; omega), HK.out⟩, hO⟩
set_option maxHeartbeats 4000000 in
theorem heldIntSS_b (a : Option Addr) (n c : Nat) (rs : List RowD) (k0 : Int) (w : World) (h : IntSS w a n c rs) (hu : UpSS k0 rs) (h0 : 0 ≤ k0) (h1 : k0 + tot rs ≤ 4000000000000000000) :
    Calls Try.prog 26 #[.slice a n c, .int .i64 k0] w fun e w' => e = .returned (.int .i64 (k0 + tot rs)) ∧ Below w.heap.size w w' := by
  have hn := h.le
  have HL := Lib.hid h.len
  have HU := Lib.hid hu
  clear hu
  go_enter Try.func26, Try.ntmps26
  go_wp2
  go_loopw [1, 5] (fun u v wr => ∃ i : Nat, i ≤ n ∧ u = .int .i64 (k0 + tot (rs.take i)) ∧ v = .int .i64 i ∧ Below w.heap.size w wr) (fun _ v _ => n - (intOf v).toNat)
  case atStart => exact ⟨0, Nat.zero_le _, by simp [tot], rfl, Below.refl _ _⟩
  case round =>
    obtain ⟨i, hi, rfl, rfl, hbel⟩ := hrel
    by_cases hlt : i < n
    · have HT := Lib.hid (tot_take_succ (rs := rs) (j := i) (by rw [HL.out]; exact hlt))
      have t1 := tot_take_le rs (i + 1)
      rw [HT.out] at t1
      have HUP := Lib.hid (HU.out i (by rw [HL.out]; exact hlt))
      obtain ⟨g, o, rfl, c0, inn⟩ := (h.below hbel).at i hlt
      have hlt' : (i : Int) < (n : Int) := by omega
      have HT3 : Hid ((k0 + tot (rs.take i) : Int) + ((rowAt rs i).2.2.length : Nat) = k0 + tot (rs.take (i + 1))) := Lib.hid (by rw [HT.out]; omega)
      obtain ⟨kk, hkk⟩ : ∃ x : Int, k0 + tot (rs.take i) = x := ⟨_, rfl⟩
      have kk0 : 0 ≤ kk := by omega
      have kk1 : kk + ((rowAt rs i).2.2.length : Nat) ≤ 4000000000000000000 := by omega
      rw [hkk] at HT3 HUP ⊢
      clear hkk t1
      go_wp2_with fail
      refine (heldIntS_b _ _ _ _ _ _ inn HUP.out kk0 kk1).mono ?_; rintro e w2 ⟨rfl, u2⟩
      have bel2 := hbel.trans (u2.mono hbel.size)
      have nn : 0 ≤ kk + ((rowAt rs i).2.2.length : Nat) := by omega
      clear u2 inn c0
      rw [HT3.out] at nn ⊢
      clear kk1
      go_wp2
      go_roundw
      case rel => exact ⟨i + 1, by omega, rfl, by go_num, bel2⟩
      case measure => simp [intOf]; omega
    · obtain rfl : i = n := by omega
      have ht : tot (rs.take i) = tot rs := by have := HL.out; rw [← this]; exact tot_take_all rs
      have HT := Lib.hid ht
      clear ht
      go_wp2
      go_ret
      exact ⟨by rw [HT.out]; rfl, hbel⟩
theorem tot_datas (rs : List RowD) : tot rs = ((datas' rs).map List.length).sum := by unfold tot datas'; rw [List.map_map]; rfl
theorem markIntSS_p (a : Option Addr) (n c b : Nat) (rs : List RowD) (k0 : Int) (w : World) (h : OwnSS w b a n c rs) (h0 : 0 ≤ k0) (h1 : k0 + tot rs ≤ 4000000000000000000) :
    Calls Try.prog 23 #[.slice a n c, .int .i64 k0] w fun e w' => ∃ rs', e = .returned (.int .i64 (k0 + tot rs')) ∧ OwnSS w' b a n c rs' ∧ UpSS k0 rs' ∧ (tot rs' = tot rs ∧ rowsF rs' = rowsF rs) ∧ Only (rowsF rs) w w' :=
  (markIntSS_o a n c b rs k0 w h h0 h1).mono fun _ _ ⟨he, ⟨rs', o, u, k⟩, g⟩ => by
    have ht : tot rs' = tot rs := by
      have hl : rs'.length = rs.length := by simpa using congrArg List.length k
      have := tot_key k rs.length
      rw [List.take_length, ← hl, List.take_length] at this
      exact this
    exact ⟨rs', by rw [ht]; exact he, o, u, ⟨ht, rowsF_key k⟩, g⟩
end Go.Proofs.Ytlmdckcohoddnaa
namespace Go.Proofs.Ytlmdckcohoddnaa
open Go.RowKit
def eTagged : Nat := 43
theorem info_Tagged : (Try.prog.info? 43).map (fun i => (i.zero, i.size, i.bytes)) = some (some (.agg #[.int .i64 0, .int .i64 0]), 2, 16) := by kernel_rfl
set_option maxHeartbeats 4000000 in
set_option maxRecDepth 100000 in
theorem eqTagged_same (x0 x1 : Int) (w : World) :
    Calls Try.prog 38 #[.agg #[.int .i64 x0, .int .i64 x1], .agg #[.int .i64 x0, .int .i64 x1]] w fun e w' => e = .returned (.bool true) ∧ Below w.heap.size w w' := by
  have b0 : ((x0 != x0) : Bool) = false := by simp
  have b1 : ((x1 != x1) : Bool) = false := by simp
  go_enter Try.func38, Try.ntmps38
  go_wp2
  go_ret
  exact ⟨rfl, ((Below.refl _ _).alloc (Nat.le_refl _) _).alloc (by simp) _⟩
set_option maxHeartbeats 4000000 in
set_option maxRecDepth 100000 in
theorem eqTaggedS_b (a : Option Addr) (n c : Nat) (a' : Option Addr) (n' c' : Nat) (l : List Int) (w : World) (h : Flat 2 w a n c l) (h' : Flat 2 w a' n' c' l) :
    Calls Try.prog 18 #[.slice a n c, .slice a' n' c'] w fun e w' => e = .returned (.bool true) ∧ Below w.heap.size w w' := by
  obtain rfl : n = n' := by have := h.len; have := h'.len; omega
  have hn := h.le
  go_enter Try.func18, Try.ntmps18
  go_wp2
  go_loopw [5] (fun v wr => ∃ i : Nat, i ≤ n ∧ v = .int .i64 i ∧ Below w.heap.size w wr) (fun v _ => n - (intOf v).toNat)
  case atStart => exact ⟨0, Nat.zero_le _, rfl, Below.refl _ _⟩
  case round =>
    obtain ⟨i, hk, rfl, hbel⟩ := hrel
    by_cases hlt : i < n
    · obtain ⟨g, o, rfl, hc⟩ := (h.below hbel).at (by omega)
      have c0 : wr.cell? ⟨g, o + i * 2, none⟩ = some (.int .i64 (l.getD (i * 2) 0)) := by have := hc (i * 2) (by omega); simpa only [Nat.add_assoc] using this
      have c1 : wr.cell? ⟨g, o + i * 2 + 1, none⟩ = some (.int .i64 (l.getD (i * 2 + 1) 0)) := by have := hc (i * 2 + 1) (by omega); simpa only [Nat.add_assoc] using this
      clear hc
      obtain ⟨g', o', rfl, hc⟩ := (h'.below hbel).at (by omega)
      have d0 : wr.cell? ⟨g', o' + i * 2, none⟩ = some (.int .i64 (l.getD (i * 2) 0)) := by have := hc (i * 2) (by omega); simpa only [Nat.add_assoc] using this
      have d1 : wr.cell? ⟨g', o' + i * 2 + 1, none⟩ = some (.int .i64 (l.getD (i * 2 + 1) 0)) := by have := hc (i * 2 + 1) (by omega); simpa only [Nat.add_assoc] using this
      clear hc
      generalize l.getD (i * 2) 0 = x0 at *
      generalize l.getD (i * 2 + 1) 0 = x1 at *
      go_wp2
      go_region_held3 (fun W => W.cell? ⟨g, o + i * 2, none⟩ = some (.int .i64 x0) ∧ W.cell? ⟨g, o + i * 2 + 1, none⟩ = some (.int .i64 x1) ∧ W.cell? ⟨g', o' + i * 2, none⟩ = some (.int .i64 x0) ∧ W.cell? ⟨g', o' + i * 2 + 1, none⟩ = some (.int .i64 x1))
        (first | go_keep | exact ⟨keepC u2 c0, keepC u2 c1, keepC u2 d0, keepC u2 d1⟩)
        (first | (go_at_call 38; refine (eqTagged_same _ _ _).mono ?_; rintro e w2 ⟨rfl, u2⟩))
      all_goals have bel2 : Below w.heap.size w w2 := hbel.drew.trans (u2.mono hbel.size)
      all_goals go_wp2
      all_goals go_roundw
      case rel => exact ⟨i + 1, by omega, by go_num, bel2⟩
      case measure => simp [intOf]; omega
    · go_wp2
      go_ret
      exact ⟨rfl, hbel⟩
set_option maxHeartbeats 4000000 in
set_option maxRecDepth 100000 in
theorem markTaggedS_o (a : Option Addr) (n c b : Nat) (l : List Int) (k0 : Int) (w : World) (h : OwnF 2 eTagged w b a n c l) (h0 : 0 ≤ k0) (h1 : k0 + 2 * (n : Int) ≤ 4000000000000000000) :
    Calls Try.prog 21 #[.slice a n c, .int .i64 k0] w fun e w' => e = .returned (.int .i64 (k0 + 2 * (n : Int))) ∧ (∃ l', OwnF 2 eTagged w' b a n c l' ∧ UpFrom k0 l') ∧ Only (foot a c) w w' := by
  have hn := h.flat.le
  go_enter Try.func21, Try.ntmps21
  go_wp2
  go_loopw [1, 5] (fun u v wr => ∃ i : Nat, i ≤ n ∧ u = .int .i64 (k0 + 2 * (i : Int)) ∧ v = .int .i64 i ∧ Only (foot a c) w wr ∧ ∃ l', OwnF 2 eTagged wr b a n c l' ∧ ∀ j, j < i * 2 → l'.getD j 0 = k0 + j) (fun _ v _ => n - (intOf v).toNat)
  case atStart => exact ⟨0, Nat.zero_le _, by simp, rfl, Only.refl _ _, l, h, fun i hi => absurd hi (by omega)⟩
  case round =>
    obtain ⟨i, hk, rfl, rfl, hO, l', own, hl⟩ := hrel
    have HL := Lib.hid hl
    clear hl
    by_cases hlt : i < n
    · obtain ⟨g, rfl, _, _, _, _, _⟩ := own.at (i * 2) (by omega)
      have hm : g ∈ foot (some ⟨g, 0, none⟩) c := foot_mem (x := ⟨g, 0, none⟩) (by have := own.cap; omega)
      have hl' := own.len
      obtain ⟨d0, f0⟩ := own.cf (i * 2) (by omega)
      obtain ⟨d1, f1⟩ := own.cf (i * 2 + 1) (by omega)
      have st0 := own.put (i * 2) (by omega) (k0 + 2 * (i : Int))
      have st1 := st0.put (i * 2 + 1) (by omega) (k0 + 2 * (i : Int) + 1)
      have HST := Lib.hid st1
      have HO := Lib.hid ((hO.setCell ⟨g, i * 2, none⟩ (.int .i64 (k0 + 2 * (i : Int))) hm).setCell ⟨g, i * 2 + 1, none⟩ (.int .i64 (k0 + 2 * (i : Int) + 1)) hm)
      clear own hO st0 st1
      go_wp2
      go_roundw
      case rel => exact ⟨i + 1, by omega, v_int (by omega), by go_num, HO.out, _, HST.out, fun j hj => by
        rw [getD_set, getD_set]
        simp only [List.length_set]
        by_cases z1 : j = i * 2 + 1
        · subst z1; rw [if_pos ⟨rfl, by omega⟩]; omega
        by_cases z0 : j = i * 2
        · subst z0; rw [if_neg (by omega)]; rw [if_pos ⟨rfl, by omega⟩]; omega
        rw [if_neg (by omega), if_neg (by omega)]
        exact HL.out j (by omega)⟩
      case measure => simp [intOf]; omega
    · obtain rfl : i = n := by omega
      go_wp2
      go_ret
      exact ⟨rfl, ⟨l', own, fun j hj => HL.out j (by have := own.len; omega)⟩, hO⟩
set_option maxHeartbeats 4000000 in
set_option maxRecDepth 100000 in
theorem heldTaggedS_b (a : Option Addr) (n c : Nat) (l : List Int) (k0 : Int) (w : World) (h : Flat 2 w a n c l) (hu : UpFrom k0 l) (h0 : 0 ≤ k0) (h1 : k0 + 2 * (n : Int) ≤ 4000000000000000000) :
    Calls Try.prog 24 #[.slice a n c, .int .i64 k0] w fun e w' => e = .returned (.int .i64 (k0 + 2 * (n : Int))) ∧ Below w.heap.size w w' := by
  have hn := h.le
  have HU := Lib.hid hu
  clear hu
  go_enter Try.func24, Try.ntmps24
  go_wp2
  go_loop [1, 5] (fun u v => ∃ i : Nat, i ≤ n ∧ u = .int .i64 (k0 + 2 * (i : Int)) ∧ v = .int .i64 i) (fun _ v => n - (intOf v).toNat)
  case atStart => exact ⟨0, Nat.zero_le _, by simp, rfl⟩
  case round =>
    obtain ⟨i, hk, rfl, rfl⟩ := hrel
    by_cases hlt : i < n
    · obtain ⟨g, o, rfl, hc⟩ := h.at (by omega)
      have hl := h.len
      have c0 : w.cell? ⟨g, o + i * 2, none⟩ = some (.int .i64 (k0 + 2 * (i : Int))) := by
        have := hc (i * 2) (by omega)
        rw [HU.out (i * 2) (by omega)] at this
        rw [show (k0 + 2 * (i : Int) : Int) = k0 + ((i * 2 : Nat) : Int) by omega]
        simpa only [Nat.add_assoc] using this
      have b0 : ((k0 + 2 * (i : Int) != k0 + 2 * (i : Int)) : Bool) = false := by simp
      have c1 : w.cell? ⟨g, o + i * 2 + 1, none⟩ = some (.int .i64 (k0 + 2 * (i : Int) + 1)) := by
        have := hc (i * 2 + 1) (by omega)
        rw [HU.out (i * 2 + 1) (by omega)] at this
        rw [show (k0 + 2 * (i : Int) + 1 : Int) = k0 + ((i * 2 + 1 : Nat) : Int) by omega]
        simpa only [Nat.add_assoc] using this
      have b1 : ((k0 + 2 * (i : Int) + 1 != k0 + 2 * (i : Int) + 1) : Bool) = false := by simp
      clear hc hl
      go_wp2
      go_round
      case rel => exact ⟨i + 1, by omega, v_int (by omega), by go_num⟩
      case measure => simp [intOf]; omega
    · obtain rfl : i = n := by omega
      go_wp2
      go_ret
      exact ⟨rfl, Below.refl _ _⟩
def rowNil : RowD := (none, 0, [])
theorem foot_zero (a : Option Addr) : foot a 0 = [] := by simp [foot, rowOf]
theorem rowsF_nils (n : Nat) : rowsF (List.replicate n rowNil) = [] := by
  unfold rowsF
  rw [List.flatMap_eq_nil_iff]
  intro r hr
  rw [List.eq_of_mem_replicate hr]
  exact foot_zero _
theorem OwnSS.made {w : World} {b : Nat} {a : Option Addr} {n c : Nat} (h : OwnC w b a n c 23 1 (List.replicate n (.slice none 0 0))) : OwnSS w b a n c (List.replicate n rowNil) :=
  ⟨by rw [List.map_replicate]; exact h, fun r hr => by rw [List.eq_of_mem_replicate hr]; exact Own.nil0 _ _ _, by
    rw [List.pairwise_replicate]
    right
    intro k hk
    simp [rowNil, foot_zero] at hk, by rw [rowsF_nils]; exact Disj.nil_r _⟩
theorem OwnSS.cellAt {w : World} {b n c i : Nat} {a : Option Addr} {rs : List RowD} (h : OwnSS w b a n c rs) (hi : i < n) : ∃ g, a = some ⟨g, 0, none⟩ ∧ b ≤ g ∧ g < w.heap.size ∧ g ∈ foot a c ∧ w.cell? ⟨g, i, none⟩ = some (rowV (rowAt rs i)) ∧ w.frozen? ⟨g, i, none⟩ = false := by
  have hl := h.reads.len
  have hc := h.cap
  obtain ⟨g, rfl, hb, hg, ⟨u, hu, hc'⟩, hf, _⟩ := OwnC.atC h.out i (by omega)
  refine ⟨g, rfl, hb, hg, foot_mem (x := ⟨g, 0, none⟩) (by omega), ?_, hf⟩
  rw [hc', ← hu, List.getElem?_map, rowAt_some (by omega)]
  rfl
set_option maxHeartbeats 4000000 in
set_option maxRecDepth 100000 in
theorem eqPlayer_same (s0 : Int) (s1 : Int) (s2 : Int) (s3 : Int) (s4 : Int) (a5 : Option Addr) (n5 c5 : Nat) (b5 : Option Addr) (m5 d5 : Nat) (l5 : List Int) (a6 : Option Addr) (n6 c6 : Nat) (b6 : Option Addr) (m6 d6 : Nat) (l6 : List Int) (s7 : Int) (a8 : Option Addr) (n8 c8 : Nat) (b8 : Option Addr) (m8 d8 : Nat) (l8 k8 : List RowD) (e8 : datas' l8 = datas' k8) (s9 : Int) (s10 : Int) (w : World) (h5 : Flat 2 w a5 n5 c5 l5) (g5 : Flat 2 w b5 m5 d5 l5) (h6 : Ints w a6 n6 c6 l6) (g6 : Ints w b6 m6 d6 l6) (h8 : IntSS w a8 n8 c8 l8) (g8 : IntSS w b8 m8 d8 k8) :
    Calls Try.prog 6 #[.agg #[.int .i64 s0, .int .i64 s1, .int .i64 s2, .int .i64 s3, .int .i64 s4, .slice a5 n5 c5, .slice a6 n6 c6, .int .i64 s7, .slice a8 n8 c8, .int .i64 s9, .int .i64 s10], .agg #[.int .i64 s0, .int .i64 s1, .int .i64 s2, .int .i64 s3, .int .i64 s4, .slice b5 m5 d5, .slice b6 m6 d6, .int .i64 s7, .slice b8 m8 d8, .int .i64 s9, .int .i64 s10]] w fun e w' => e = .returned (.bool true) ∧ Below w.heap.size w w' := by
  have z0 : ((s0 != s0) : Bool) = false := by simp
  have z1 : ((s1 != s1) : Bool) = false := by simp
  have z2 : ((s2 != s2) : Bool) = false := by simp
  have z3 : ((s3 != s3) : Bool) = false := by simp
  have z4 : ((s4 != s4) : Bool) = false := by simp
  have z7 : ((s7 != s7) : Bool) = false := by simp
  have E8 := Lib.hid e8
  clear e8
  have z9 : ((s9 != s9) : Bool) = false := by simp
  have z10 : ((s10 != s10) : Bool) = false := by simp
  go_enter Try.func6, Try.ntmps6
  go_wp2_with fail
  have V0 : Below w.heap.size w ((w.alloc (.cells #[.int .i64 s0, .int .i64 s1, .int .i64 s2, .int .i64 s3, .int .i64 s4, .slice a5 n5 c5, .slice a6 n6 c6, .int .i64 s7, .slice a8 n8 c8, .int .i64 s9, .int .i64 s10] 26)).alloc (.cells #[.int .i64 s0, .int .i64 s1, .int .i64 s2, .int .i64 s3, .int .i64 s4, .slice b5 m5 d5, .slice b6 m6 d6, .int .i64 s7, .slice b8 m8 d8, .int .i64 s9, .int .i64 s10] 26)) := ((Below.refl _ w).alloc (Nat.le_refl w.heap.size) _).alloc (by simp) _
  have P0 : Blk ((w.alloc (.cells #[.int .i64 s0, .int .i64 s1, .int .i64 s2, .int .i64 s3, .int .i64 s4, .slice a5 n5 c5, .slice a6 n6 c6, .int .i64 s7, .slice a8 n8 c8, .int .i64 s9, .int .i64 s10] 26)).alloc (.cells #[.int .i64 s0, .int .i64 s1, .int .i64 s2, .int .i64 s3, .int .i64 s4, .slice b5 m5 d5, .slice b6 m6 d6, .int .i64 s7, .slice b8 m8 d8, .int .i64 s9, .int .i64 s10] 26)) w.heap.size 26 #[.int .i64 s0, .int .i64 s1, .int .i64 s2, .int .i64 s3, .int .i64 s4, .slice a5 n5 c5, .slice a6 n6 c6, .int .i64 s7, .slice a8 n8 c8, .int .i64 s9, .int .i64 s10] := (Blk.new w _ _).alloc _
  have R0 : Blk ((w.alloc (.cells #[.int .i64 s0, .int .i64 s1, .int .i64 s2, .int .i64 s3, .int .i64 s4, .slice a5 n5 c5, .slice a6 n6 c6, .int .i64 s7, .slice a8 n8 c8, .int .i64 s9, .int .i64 s10] 26)).alloc (.cells #[.int .i64 s0, .int .i64 s1, .int .i64 s2, .int .i64 s3, .int .i64 s4, .slice b5 m5 d5, .slice b6 m6 d6, .int .i64 s7, .slice b8 m8 d8, .int .i64 s9, .int .i64 s10] 26)) (w.heap.size + 1) 26 #[.int .i64 s0, .int .i64 s1, .int .i64 s2, .int .i64 s3, .int .i64 s4, .slice b5 m5 d5, .slice b6 m6 d6, .int .i64 s7, .slice b8 m8 d8, .int .i64 s9, .int .i64 s10] := by simpa using (Blk.new (w.alloc _) 26 #[.int .i64 s0, .int .i64 s1, .int .i64 s2, .int .i64 s3, .int .i64 s4, .slice b5 m5 d5, .slice b6 m6 d6, .int .i64 s7, .slice b8 m8 d8, .int .i64 s9, .int .i64 s10] : Blk ((w.alloc (.cells #[.int .i64 s0, .int .i64 s1, .int .i64 s2, .int .i64 s3, .int .i64 s4, .slice a5 n5 c5, .slice a6 n6 c6, .int .i64 s7, .slice a8 n8 c8, .int .i64 s9, .int .i64 s10] 26)).alloc (.cells #[.int .i64 s0, .int .i64 s1, .int .i64 s2, .int .i64 s3, .int .i64 s4, .slice b5 m5 d5, .slice b6 m6 d6, .int .i64 s7, .slice b8 m8 d8, .int .i64 s9, .int .i64 s10] 26)) _ _ _)
  generalize ((w.alloc (.cells #[.int .i64 s0, .int .i64 s1, .int .i64 s2, .int .i64 s3, .int .i64 s4, .slice a5 n5 c5, .slice a6 n6 c6, .int .i64 s7, .slice a8 n8 c8, .int .i64 s9, .int .i64 s10] 26)).alloc (.cells #[.int .i64 s0, .int .i64 s1, .int .i64 s2, .int .i64 s3, .int .i64 s4, .slice b5 m5 d5, .slice b6 m6 d6, .int .i64 s7, .slice b8 m8 d8, .int .i64 s9, .int .i64 s10] 26)) = w0 at *
  refine (eqTaggedS_b _ _ _ _ _ _ l5 _ (h5.below V0) (g5.below V0)).mono ?_; rintro e w1 ⟨rfl, u0⟩
  have V1 := V0.trans (u0.mono V0.size)
  have P1 := P0.below u0
  have R1 := R0.below u0
  clear u0 V0 P0 R0
  have x6 : w1.cell? ⟨w.heap.size, 6, none⟩ = some (.slice a6 n6 c6) := P1.cell 6
  have y6 : w1.cell? ⟨w.heap.size + 1, 6, none⟩ = some (.slice b6 m6 d6) := R1.cell 6
  go_wp2_with fail
  clear x6 y6
  refine (eqIntS_b _ _ _ _ _ _ l6 _ (h6.below V1) (g6.below V1)).mono ?_; rintro e w2 ⟨rfl, u1⟩
  have V2 := V1.trans (u1.mono V1.size)
  have P2 := P1.below u1
  have R2 := R1.below u1
  clear u1 V1 P1 R1
  have x7 : w2.cell? ⟨w.heap.size, 7, none⟩ = some (.int .i64 s7) := P2.cell 7
  have y7 : w2.cell? ⟨w.heap.size + 1, 7, none⟩ = some (.int .i64 s7) := R2.cell 7
  have x8 : w2.cell? ⟨w.heap.size, 8, none⟩ = some (.slice a8 n8 c8) := P2.cell 8
  have y8 : w2.cell? ⟨w.heap.size + 1, 8, none⟩ = some (.slice b8 m8 d8) := R2.cell 8
  go_wp2_with fail
  clear x7 y7 x8 y8
  refine (eqIntSS_b _ _ _ _ _ _ l8 k8 _ (h8.below V2) (g8.below V2) E8.out).mono ?_; rintro e w3 ⟨rfl, u2⟩
  have V3 := V2.trans (u2.mono V2.size)
  have P3 := P2.below u2
  have R3 := R2.below u2
  clear u2 V2 P2 R2
  have x9 : w3.cell? ⟨w.heap.size, 9, none⟩ = some (.int .i64 s9) := P3.cell 9
  have y9 : w3.cell? ⟨w.heap.size + 1, 9, none⟩ = some (.int .i64 s9) := R3.cell 9
  have x10 : w3.cell? ⟨w.heap.size, 10, none⟩ = some (.int .i64 s10) := P3.cell 10
  have y10 : w3.cell? ⟨w.heap.size + 1, 10, none⟩ = some (.int .i64 s10) := R3.cell 10
  go_wp2
  go_ret
  exact ⟨rfl, V3⟩
set_option maxHeartbeats 4000000 in
set_option maxRecDepth 100000 in
theorem markPlayer_any (s0 : Int) (s1 : Int) (s2 : Int) (s3 : Int) (s4 : Int) (a5 : Option Addr) (n5 c5 : Nat) (l5 : List Int) (a6 : Option Addr) (n6 c6 : Nat) (l6 : List Int) (s7 : Int) (a8 : Option Addr) (n8 c8 : Nat) (l8 : List RowD) (s9 : Int) (s10 : Int) (B5 : Nat) (B6 : Nat) (B8 : Nat) (k0 : Int) (w : World) (h5 : OwnF 2 eTagged w B5 a5 n5 c5 l5) (h6 : Own w B6 a6 n6 c6 l6) (h8 : OwnSS w B8 a8 n8 c8 l8) (D5_6 : Disj (foot a5 c5) (foot a6 c6)) (D5_8 : Disj (foot a5 c5) (feetSS a8 c8 l8)) (D6_8 : Disj (foot a6 c6) (feetSS a8 c8 l8)) (hk : 0 ≤ k0) (hk2 : k0 + 2 * (n5 : Int) + (n6 : Int) + (tot l8 : Int) ≤ 4000000000000000000) :
    Calls Try.prog 7 #[.agg #[.int .i64 s0, .int .i64 s1, .int .i64 s2, .int .i64 s3, .int .i64 s4, .slice a5 n5 c5, .slice a6 n6 c6, .int .i64 s7, .slice a8 n8 c8, .int .i64 s9, .int .i64 s10], .int .i64 k0] w fun e w' => ∃ m8, e = .returned (.int .i64 (k0 + 2 * (n5 : Int) + (n6 : Int) + (tot m8 : Int))) ∧ (∃ l, OwnF 2 eTagged w' B5 a5 n5 c5 l ∧ UpFrom (k0) l) ∧ (∃ l, Own w' B6 a6 n6 c6 l ∧ UpFrom (k0 + 2 * (n5 : Int)) l) ∧ OwnSS w' B8 a8 n8 c8 m8 ∧ UpSS (k0 + 2 * (n5 : Int) + (n6 : Int)) m8 ∧ (tot m8 = tot l8 ∧ rowsF m8 = rowsF l8) ∧ Only (foot a5 c5 ++ foot a6 c6 ++ rowsF l8) w w' := by
  have Q5 := Lib.hid h5.feet
  have Q6 := Lib.hid h6.feet
  have Q8 := Lib.hid h8.feet
  have E5_6 := Lib.hid D5_6
  clear D5_6
  have E5_8 := Lib.hid D5_8
  clear D5_8
  have E6_8 := Lib.hid D6_8
  clear D6_8
  go_enter Try.func7, Try.ntmps7
  go_wp2_with fail
  have G0 : Only (foot a5 c5 ++ foot a6 c6 ++ rowsF l8) w (w.alloc (.cells #[.int .i64 s0, .int .i64 s1, .int .i64 s2, .int .i64 s3, .int .i64 s4, .slice a5 n5 c5, .slice a6 n6 c6, .int .i64 s7, .slice a8 n8 c8, .int .i64 s9, .int .i64 s10] 26)) := (Only.refl _ _).alloc _
  have P0 : Blk (w.alloc (.cells #[.int .i64 s0, .int .i64 s1, .int .i64 s2, .int .i64 s3, .int .i64 s4, .slice a5 n5 c5, .slice a6 n6 c6, .int .i64 s7, .slice a8 n8 c8, .int .i64 s9, .int .i64 s10] 26)) w.heap.size 26 #[.int .i64 s0, .int .i64 s1, .int .i64 s2, .int .i64 s3, .int .i64 s4, .slice a5 n5 c5, .slice a6 n6 c6, .int .i64 s7, .slice a8 n8 c8, .int .i64 s9, .int .i64 s10] := Blk.new w _ _
  have h5 := h5.below ((Below.refl w.heap.size w).alloc (Nat.le_refl _) (.cells #[.int .i64 s0, .int .i64 s1, .int .i64 s2, .int .i64 s3, .int .i64 s4, .slice a5 n5 c5, .slice a6 n6 c6, .int .i64 s7, .slice a8 n8 c8, .int .i64 s9, .int .i64 s10] 26))
  have h6 := h6.below ((Below.refl w.heap.size w).alloc (Nat.le_refl _) (.cells #[.int .i64 s0, .int .i64 s1, .int .i64 s2, .int .i64 s3, .int .i64 s4, .slice a5 n5 c5, .slice a6 n6 c6, .int .i64 s7, .slice a8 n8 c8, .int .i64 s9, .int .i64 s10] 26))
  have h8 := h8.below ((Below.refl w.heap.size w).alloc (Nat.le_refl _) (.cells #[.int .i64 s0, .int .i64 s1, .int .i64 s2, .int .i64 s3, .int .i64 s4, .slice a5 n5 c5, .slice a6 n6 c6, .int .i64 s7, .slice a8 n8 c8, .int .i64 s9, .int .i64 s10] 26))
  generalize (w.alloc (.cells #[.int .i64 s0, .int .i64 s1, .int .i64 s2, .int .i64 s3, .int .i64 s4, .slice a5 n5 c5, .slice a6 n6 c6, .int .i64 s7, .slice a8 n8 c8, .int .i64 s9, .int .i64 s10] 26)) = w0 at *
  refine (markTaggedS_o _ _ _ _ _ (k0) _ h5 (by omega) (by omega)).mono ?_; rintro e w1 ⟨rfl, ⟨L5, h5, U5⟩, u0⟩
  replace U5 := Lib.hid U5
  replace h6 := h6.only u0 E5_6.out.symm
  replace h8 := h8.only u0 E5_8.out.symm
  have P1 := P0.only u0 (fun hm => by have := Q5.out _ hm; omega)
  have G1 := G0.trans (u0.more (fun k hk => by simp [hk]))
  clear u0 P0 G0
  have y6 : w1.cell? ⟨w.heap.size, 6, none⟩ = some (.slice a6 n6 c6) := P1.cell 6
  go_wp2_with fail
  clear y6
  refine (markIntS_o _ _ _ _ _ (k0 + 2 * (n5 : Int)) _ h6 (by omega) (by omega)).mono ?_; rintro e w2 ⟨rfl, ⟨L6, h6, U6⟩, u1⟩
  replace U6 := Lib.hid U6
  replace h5 := h5.only u1 E5_6.out
  replace h8 := h8.only u1 E6_8.out.symm
  have P2 := P1.only u1 (fun hm => by have := Q6.out _ hm; omega)
  have G2 := G1.trans (u1.more (fun k hk => by simp [hk]))
  clear u1 P1 G1
  have y8 : w2.cell? ⟨w.heap.size, 8, none⟩ = some (.slice a8 n8 c8) := P2.cell 8
  go_wp2_with fail
  clear y8
  refine (markIntSS_p _ _ _ _ _ (k0 + 2 * (n5 : Int) + (n6 : Int)) _ h8 (by omega) (by omega)).mono ?_; rintro e w3 ⟨m8, rfl, h8, U8, T8, u2⟩
  replace T8 := Lib.hid T8
  replace U8 := Lib.hid U8
  replace h5 := h5.only u2 (fun k hk hk' => (E5_8.out) k hk (List.mem_append_right _ hk'))
  replace h6 := h6.only u2 (fun k hk hk' => (E6_8.out) k hk (List.mem_append_right _ hk'))
  have P3 := P2.only u2 (fun hm => by have := Q8.out _ (List.mem_append_right _ hm); omega)
  have G3 := G2.trans (u2.more (fun k hk => by simp [hk]))
  clear u2 P2 G2
  go_wp2
  go_ret
  exact ⟨m8, rfl, ⟨_, h5, U5.out⟩, ⟨_, h6, U6.out⟩, h8, U8.out, T8.out, G3⟩
set_option maxHeartbeats 4000000 in
set_option maxRecDepth 100000 in
theorem heldPlayer_any (s0 : Int) (s1 : Int) (s2 : Int) (s3 : Int) (s4 : Int) (a5 : Option Addr) (n5 c5 : Nat) (l5 : List Int) (a6 : Option Addr) (n6 c6 : Nat) (l6 : List Int) (s7 : Int) (a8 : Option Addr) (n8 c8 : Nat) (l8 : List RowD) (s9 : Int) (s10 : Int) (k0 : Int) (w : World) (h5 : Flat 2 w a5 n5 c5 l5) (h6 : Ints w a6 n6 c6 l6) (h8 : IntSS w a8 n8 c8 l8) (U5 : UpFrom (k0) l5) (U6 : UpFrom (k0 + 2 * (n5 : Int)) l6) (U8 : UpSS (k0 + 2 * (n5 : Int) + (n6 : Int)) l8) (hk : 0 ≤ k0) (hk2 : k0 + 2 * (n5 : Int) + (n6 : Int) + (tot l8 : Int) ≤ 4000000000000000000) :
    Calls Try.prog 8 #[.agg #[.int .i64 s0, .int .i64 s1, .int .i64 s2, .int .i64 s3, .int .i64 s4, .slice a5 n5 c5, .slice a6 n6 c6, .int .i64 s7, .slice a8 n8 c8, .int .i64 s9, .int .i64 s10], .int .i64 k0] w fun e w' => e = .returned (.int .i64 (k0 + 2 * (n5 : Int) + (n6 : Int) + (tot l8 : Int))) ∧ Below w.heap.size w w' := by
  replace U5 := Lib.hid U5
  replace U6 := Lib.hid U6
  replace U8 := Lib.hid U8
  go_enter Try.func8, Try.ntmps8
  go_wp2_with fail
  have V0 : Below w.heap.size w (w.alloc (.cells #[.int .i64 s0, .int .i64 s1, .int .i64 s2, .int .i64 s3, .int .i64 s4, .slice a5 n5 c5, .slice a6 n6 c6, .int .i64 s7, .slice a8 n8 c8, .int .i64 s9, .int .i64 s10] 26)) := (Below.refl _ w).alloc (Nat.le_refl w.heap.size) _
  have P0 : Blk (w.alloc (.cells #[.int .i64 s0, .int .i64 s1, .int .i64 s2, .int .i64 s3, .int .i64 s4, .slice a5 n5 c5, .slice a6 n6 c6, .int .i64 s7, .slice a8 n8 c8, .int .i64 s9, .int .i64 s10] 26)) w.heap.size 26 #[.int .i64 s0, .int .i64 s1, .int .i64 s2, .int .i64 s3, .int .i64 s4, .slice a5 n5 c5, .slice a6 n6 c6, .int .i64 s7, .slice a8 n8 c8, .int .i64 s9, .int .i64 s10] := Blk.new w _ _
  generalize (w.alloc (.cells #[.int .i64 s0, .int .i64 s1, .int .i64 s2, .int .i64 s3, .int .i64 s4, .slice a5 n5 c5, .slice a6 n6 c6, .int .i64 s7, .slice a8 n8 c8, .int .i64 s9, .int .i64 s10] 26)) = w0 at *
  refine (heldTaggedS_b _ _ _ _ (k0) _ (h5.below V0) U5.out (by omega) (by omega)).mono ?_; rintro e w1 ⟨rfl, u0⟩
  have V1 := V0.trans (u0.mono V0.size)
  have P1 := P0.below u0
  clear u0 V0 P0
  have y6 : w1.cell? ⟨w.heap.size, 6, none⟩ = some (.slice a6 n6 c6) := P1.cell 6
  go_wp2_with fail
  clear y6
  refine (heldIntS_b _ _ _ _ (k0 + 2 * (n5 : Int)) _ (h6.below V1) U6.out (by omega) (by omega)).mono ?_; rintro e w2 ⟨rfl, u1⟩
  have V2 := V1.trans (u1.mono V1.size)
  have P2 := P1.below u1
  clear u1 V1 P1
  have y8 : w2.cell? ⟨w.heap.size, 8, none⟩ = some (.slice a8 n8 c8) := P2.cell 8
  go_wp2_with fail
  clear y8
  refine (heldIntSS_b _ _ _ _ (k0 + 2 * (n5 : Int) + (n6 : Int)) _ (h8.below V2) U8.out (by omega) (by omega)).mono ?_; rintro e w3 ⟨rfl, u2⟩
  have V3 := V2.trans (u2.mono V2.size)
  have P3 := P2.below u2
  clear u2 V2 P2
  go_wp2
  go_ret
  exact ⟨rfl, V3⟩
/-- A player's numbers. -/
structure Pl where
  P : Int
  party : Int
  input : Int
  mask : Int
  delta : Int
  shares : List Int
  keys : List Int
  step : Int
  heard : List (List Int)
  status : Int
  out : Int
/-- Where a player's rows lie. -/
structure PlX where
  sa : Option Addr
  sn : Nat
  sc : Nat
  ka : Option Addr
  kn : Nat
  kc : Nat
  ha : Option Addr
  hn : Nat
  hc : Nat
def PlR (w : World) (x : PlX) (s k : List Int) (h : List (List Int)) : Prop :=
  Flat 2 w x.sa x.sn x.sc s ∧ Ints w x.ka x.kn x.kc k ∧ ∃ rs, IntSS w x.ha x.hn x.hc rs ∧ datas' rs = h
def PlO (w : World) (b : Nat) (x : PlX) (s k : List Int) (h : List (List Int)) (F : List Nat) : Prop :=
  OwnF 2 eTagged w b x.sa x.sn x.sc s ∧ Own w b x.ka x.kn x.kc k ∧ ∃ rs, OwnSS w b x.ha x.hn x.hc rs ∧ datas' rs = h ∧
    Disj (foot x.sa x.sc) (foot x.ka x.kc) ∧ Disj (foot x.sa x.sc) (feetSS x.ha x.hc rs) ∧ Disj (foot x.ka x.kc) (feetSS x.ha x.hc rs) ∧ F = foot x.sa x.sc ++ (foot x.ka x.kc ++ feetSS x.ha x.hc rs)
theorem PlR.below {w w' x s k h} (p : PlR w x s k h) (hb : Below w.heap.size w w') : PlR w' x s k h := by
  obtain ⟨p1, p2, rs, p3, p4⟩ := p
  exact ⟨p1.below hb, p2.below hb, rs, p3.below hb, p4⟩
theorem PlR.alloc {w x s k h} (p : PlR w x s k h) (o : Obj) : PlR (w.alloc o) x s k h := p.below ((Below.refl _ _).alloc (Nat.le_refl _) _)
theorem PlR.drew {w x s k h} (p : PlR w x s k h) : PlR w.drew x s k h := p.below ((Below.refl _ _).drew)
theorem PlO.rd {w b x s k h F} (p : PlO w b x s k h F) : PlR w x s k h := by
  obtain ⟨p1, p2, rs, p3, p4, _⟩ := p
  exact ⟨p1.flat, p2.ints, rs, p3.reads, p4⟩
theorem PlO.feet {w b x s k h F} (p : PlO w b x s k h F) : ∀ q ∈ F, b ≤ q ∧ q < w.heap.size := by
  obtain ⟨p1, p2, rs, p3, _, _, _, _, rfl⟩ := p
  intro q hq
  rcases List.mem_append.1 hq with hq | hq
  · exact p1.feet q hq
  · rcases List.mem_append.1 hq with hq | hq
    · exact p2.feet q hq
    · exact p3.feet q hq
theorem PlO.only {X : List Nat} {w w' b x s k h F} (p : PlO w b x s k h F) (ho : Only X w w') (hd : Disj F X) : PlO w' b x s k h F := by
  obtain ⟨p1, p2, rs, p3, p4, d1, d2, d3, rfl⟩ := p
  exact ⟨p1.only ho (fun q hq => hd q (List.mem_append_left _ hq)), p2.only ho (fun q hq => hd q (List.mem_append_right _ (List.mem_append_left _ hq))), rs,
    p3.only ho (fun q hq => hd q (List.mem_append_right _ (List.mem_append_right _ hq))), p4, d1, d2, d3, rfl⟩
theorem PlO.below {w w' b x s k h F} (p : PlO w b x s k h F) (hb : Below w.heap.size w w') : PlO w' b x s k h F := by
  obtain ⟨p1, p2, rs, p3, p4⟩ := p
  exact ⟨p1.below hb, p2.below hb, rs, p3.below hb, p4⟩
theorem PlO.alloc {w b x s k h F} (p : PlO w b x s k h F) (o : Obj) : PlO (w.alloc o) b x s k h F := p.below ((Below.refl _ _).alloc (Nat.le_refl _) _)
theorem PlO.drew {w b x s k h F} (p : PlO w b x s k h F) : PlO w.drew b x s k h F := p.below ((Below.refl _ _).drew)
theorem PlO.lower {w b b' x s k h F} (p : PlO w b x s k h F) (hb : b' ≤ b) : PlO w b' x s k h F := by
  obtain ⟨p1, p2, rs, p3, p4⟩ := p
  exact ⟨p1.lower hb, p2.lower hb, rs, p3.lower hb, p4⟩
def totL (h : List (List Int)) : Nat := (h.map List.length).sum
theorem tot_totL {rs : List RowD} {h : List (List Int)} (e : datas' rs = h) : tot rs = totL h := by rw [tot_datas, e]; rfl
def cntP (s k : List Int) (h : List (List Int)) : Nat := s.length + k.length + totL h
/-- The numbers from k0 on. -/
def UpP (k0 : Int) (s k : List Int) (h : List (List Int)) : Prop := UpFrom k0 s ∧ UpFrom (k0 + s.length) k ∧ ∀ j, j < h.length → UpFrom (k0 + s.length + k.length + totL (h.take j)) (h.getD j [])
theorem UpSS.of {rs : List RowD} {h : List (List Int)} {k : Int} (e : datas' rs = h) : UpSS k rs ↔ ∀ j, j < h.length → UpFrom (k + totL (h.take j)) (h.getD j []) := by
  have hl : rs.length = h.length := by rw [← e, datas_len]
  have e1 : ∀ j, totL (h.take j) = tot (rs.take j) := fun j => by rw [← e, tot_datas]; unfold totL datas'; simp only [List.map_take]
  have e2 : ∀ j, j < rs.length → h.getD j [] = (rowAt rs j).2.2 := fun j hj => by
    rw [← e]; unfold datas' rowAt; simp [List.getD, hj]
  unfold UpSS
  constructor
  · intro u j hj
    rw [e1, e2 j (by omega)]
    exact u j (by omega)
  · intro u j hj
    rw [← e1, ← e2 j hj]
    exact u j (by omega)
theorem eqPlayer_o (a : Pl) (x y : PlX) (w : World) (h : PlR w x a.shares a.keys a.heard) (h' : PlR w y a.shares a.keys a.heard) :
    Calls Try.prog 6 #[.agg #[.int .i64 a.P, .int .i64 a.party, .int .i64 a.input, .int .i64 a.mask, .int .i64 a.delta, .slice x.sa x.sn x.sc, .slice x.ka x.kn x.kc, .int .i64 a.step, .slice x.ha x.hn x.hc, .int .i64 a.status, .int .i64 a.out], .agg #[.int .i64 a.P, .int .i64 a.party, .int .i64 a.input, .int .i64 a.mask, .int .i64 a.delta, .slice y.sa y.sn y.sc, .slice y.ka y.kn y.kc, .int .i64 a.step, .slice y.ha y.hn y.hc, .int .i64 a.status, .int .i64 a.out]] w fun e w' => e = .returned (.bool true) ∧ Below w.heap.size w w' := by
  obtain ⟨r1, r2, rs, r3, r4⟩ := h
  obtain ⟨t1, t2, ts, t3, t4⟩ := h'
  exact eqPlayer_same _ _ _ _ _ _ _ _ _ _ _ _ _ _ _ _ _ _ _ _ _ _ _ _ _ _ rs ts (r4.trans t4.symm) _ _ w r1 t1 r2 t2 r3 t3
theorem markPlayer_o (a : Pl) (x : PlX) (s k : List Int) (h : List (List Int)) (F : List Nat) (b : Nat) (k0 : Int) (w : World) (p : PlO w b x s k h F) (hk : 0 ≤ k0) (hk2 : k0 + cntP s k h ≤ 4000000000000000000) :
    Calls Try.prog 7 #[.agg #[.int .i64 a.P, .int .i64 a.party, .int .i64 a.input, .int .i64 a.mask, .int .i64 a.delta, .slice x.sa x.sn x.sc, .slice x.ka x.kn x.kc, .int .i64 a.step, .slice x.ha x.hn x.hc, .int .i64 a.status, .int .i64 a.out], .int .i64 k0] w fun e w' => ∃ s' k' h', e = .returned (.int .i64 (k0 + cntP s' k' h')) ∧ PlO w' b x s' k' h' F ∧ UpP k0 s' k' h' ∧ cntP s' k' h' = cntP s k h ∧ Only F w w' := by
  obtain ⟨p1, p2, rs, p3, p4, d1, d2, d3, rfl⟩ := p
  have l1 := p1.len
  have l2 := p2.len
  have hT := tot_totL p4
  unfold cntP at hk2
  refine (markPlayer_any _ _ _ _ _ _ _ _ _ _ _ _ _ _ _ _ _ rs _ _ b b b k0 w p1 p2 p3 d1 d2 d3 hk (by omega)).mono ?_
  rintro e w' ⟨m8, rfl, ⟨s', o5, u5⟩, ⟨k', o6, u6⟩, o8, u8, ⟨T, RF⟩, G⟩
  have n1 := o5.len
  have n2 := o6.len
  have hM := tot_totL (rs := m8) rfl
  have FE : feetSS x.ha x.hc m8 = feetSS x.ha x.hc rs := by unfold feetSS; rw [RF]
  have e1 : k0 + 2 * (x.sn : Int) = k0 + (s'.length : Int) := by omega
  have e2 : k0 + 2 * (x.sn : Int) + (x.kn : Int) = k0 + (s'.length : Int) + (k'.length : Int) := by omega
  refine ⟨s', k', datas' m8, ret_int (by unfold cntP; omega), ⟨o5, o6, m8, o8, rfl, d1, by rw [FE]; exact d2, by rw [FE]; exact d3, by rw [FE]⟩, ⟨u5, by rw [← e1]; exact u6, ?_⟩, by unfold cntP; omega, G.more ?_⟩
  · rw [e2] at u8
    exact (UpSS.of rfl).1 u8
  · intro q hq
    rcases List.mem_append.1 hq with hq | hq
    · rcases List.mem_append.1 hq with hq | hq
      · exact List.mem_append_left _ hq
      · exact List.mem_append_right _ (List.mem_append_left _ hq)
    · exact List.mem_append_right _ (List.mem_append_right _ (List.mem_append_right _ hq))
theorem heldPlayer_o (a : Pl) (x : PlX) (s k : List Int) (h : List (List Int)) (k0 : Int) (w : World) (p : PlR w x s k h) (u : UpP k0 s k h) (hk : 0 ≤ k0) (hk2 : k0 + cntP s k h ≤ 4000000000000000000) :
    Calls Try.prog 8 #[.agg #[.int .i64 a.P, .int .i64 a.party, .int .i64 a.input, .int .i64 a.mask, .int .i64 a.delta, .slice x.sa x.sn x.sc, .slice x.ka x.kn x.kc, .int .i64 a.step, .slice x.ha x.hn x.hc, .int .i64 a.status, .int .i64 a.out], .int .i64 k0] w fun e w' => e = .returned (.int .i64 (k0 + cntP s k h)) ∧ Below w.heap.size w w' := by
  obtain ⟨p1, p2, rs, p3, p4⟩ := p
  have l1 := p1.len
  have l2 := p2.len
  have hT := tot_totL p4
  obtain ⟨u1, u2, u3⟩ := u
  unfold cntP at hk2
  have e1 : k0 + 2 * (x.sn : Int) = k0 + (s.length : Int) := by omega
  have e2 : k0 + 2 * (x.sn : Int) + (x.kn : Int) = k0 + (s.length : Int) + (k.length : Int) := by omega
  refine (heldPlayer_any _ _ _ _ _ _ _ _ _ _ _ _ _ _ _ _ _ rs _ _ k0 w p1 p2 p3 u1 (by rw [e1]; exact u2) (by rw [e2]; exact (UpSS.of p4).2 u3) hk (by omega)).mono ?_
  rintro e w' ⟨rfl, u⟩
  exact ⟨ret_int (by unfold cntP; omega), u⟩
end Go.Proofs.Ytlmdckcohoddnaa
