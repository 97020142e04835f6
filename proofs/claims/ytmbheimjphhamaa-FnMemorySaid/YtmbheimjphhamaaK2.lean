/- Lemmas and walks that the claim's proof rests on, part 2. -/
import Derived.ArgAppend
import Derived.Test.YtmbheimjphhamaaK1
namespace Go.Proofs.Ytmbheimjphhamaa
open Go.RowKit
/-- The row (a2, c2) is the row (a, c), or lies in a block that w has not. -/
def Moved (w : World) (a : Option Addr) (c : Nat) (a2 : Option Addr) (c2 : Nat) : Prop := (a2 = a ∧ c2 = c) ∨ ∀ x, 0 < c2 → a2 = some x → w.heap.size ≤ x.block
theorem Moved.disj {w a c a2 c2} {F : List Nat} (h : Moved w a c a2 c2) (hd : Disj (foot a c) F) (hF : ∀ k ∈ F, k < w.heap.size) : Disj (foot a2 c2) F := by
  rcases h with ⟨rfl, rfl⟩ | h
  · exact hd
  · intro k hk hk'
    obtain ⟨x, hx, hc, rfl⟩ := mem_foot hk
    have := h x hc hx
    have := hF _ hk'
    omega
/-- APPEND, WHATEVER THE SHAPES: an owned row, a row that is read (nil, empty or not). The new row is owned, the old one still reads. -/
theorem run_app2 {P : Program} (w : World) (t ty : TypeId)
    (b e : Nat) (i : TypeInfo) (z : Value) (sz bytes : Nat) (ht : P.underlying t = some (.slice e)) (hi : P.info? e = some i) (hz : i.zero = some z)
    (hsize : i.size = sz) (hby : i.bytes = bytes) (hzs : z.cells.size = sz) (hsz : 0 < sz)
    (a : Option Addr) (n c : Nat) (xs : List Value) (hown : OwnC w b a n c e sz xs)
    (a' : Option Addr) (m c' : Nat) (xs' : List Value) (hrow : RowC w a' m c' sz xs') (h1 : ∀ u ∈ xs', u.oneCell' = true)
    (hbytes : (n + m) * bytes ≤ 140737488355328) (hmax : n + m ≤ maxLen) (hbase : b ≤ w.heap.size) :
    ∃ a2 c2 w', (Builtin.append_ #[t, t] ty #[.slice a n c, .slice a' m c']).run P w = .ok (.slice a2 (n + m) c2) w' ∧ OwnC w' b a2 (n + m) c2 e sz (xs ++ xs') ∧ w.grownBy w' (rowOf a c) ∧ RowC w' a n c sz xs ∧ Moved w a c a2 c2 := by
  by_cases hm : m = 0
  · subst hm
    have hx' : xs' = [] := List.eq_nil_of_length_eq_zero (by simpa using hrow.1)
    subst hx'
    have hnc := hown.2.1
    refine ⟨a, c, w, ?_, by simpa using hown, World.grownBy.refl _ _, hown.row, Or.inl ⟨rfl, rfl⟩⟩
    cases a' with
    | none => cases a <;> simp [Builtin.append_, run_underlying ht, sizeOf, typeInfo, hi, Builtin.lenOf, Builtin.firstCells, hnc, storeCells]
    | some y =>
      have hf := run_firstCells_some (P := P) w i.size 0 y 0 c' [] (by simp) (fun j u hu => by simp at hu)
      cases a <;> simp [Builtin.append_, run_underlying ht, sizeOf, typeInfo, hi, Builtin.lenOf, hf, hnc, storeCells]
  · obtain ⟨hr1, hr2, hr3, hr4, g', o', hr5, hr6⟩ := hrow
    obtain rfl := hr5 (by omega)
    have hadd : ∀ (g o j : Nat), (⟨g, o, none⟩ : Addr).add j = ⟨g, o + j, none⟩ := fun g o j => by unfold Addr.add; split <;> simp_all
    have hnews : ∀ j u, xs'[j]? = some u → w.cell? ((⟨g', o', none⟩ : Addr).add j) = some u := fun j u hu => by rw [hadd]; exact hr6 j u hu
    by_cases hc : 0 < c
    · obtain ⟨g, cur, hag, hbg, hgg, hcs, hct⟩ := hown.2.2.2.2 hc
      have hob := hown.owns hc
      have hro : rowOf a c = some g := by unfold rowOf; rw [if_neg (by omega), hag]; rfl
      subst hag
      by_cases hroom : n + m ≤ c
      · obtain ⟨w', hrun, r1, r2⟩ := run_append_fits (P := P) w b t ty e i sz ht hi hsize g n c xs hob ⟨g', o', none⟩ m c' xs' hr1 hnews h1 hroom
        obtain ⟨a2, c2, e2, h2⟩ := OwnC.of_owns r1
        cases e2
        exact ⟨_, _, w', hrun, h2, by rw [hro]; exact r2, h2.prefix_row hown.1, Or.inl ⟨rfl, rfl⟩⟩
      · obtain ⟨v', w', hrun, r1, r2⟩ := run_append_arg_grows (P := P) w t ty e i z sz bytes ht hi hz hsize hby hzs hsz ⟨g, 0, none⟩ n c xs hown.1 (fun j u hu => by
          obtain ⟨q1, q2, q3, q4, gg, oo, q5, q6⟩ := hown.row
          have hn0 : 0 < n := by
            have := (List.getElem?_eq_some_iff.1 hu).1
            rw [hown.1] at this
            cases n with
            | zero => simp at this
            | succ n => omega
          have := q5 hn0
          cases this
          rw [hadd]; exact q6 j u hu) ⟨g', o', none⟩ m c' xs' hr1 hnews (by omega) hmax hbytes
        obtain ⟨a2, c2, rfl, h2⟩ := OwnC.of_owns r1
        exact ⟨_, _, w', hrun, h2.lower hbase, grownBy_some r2 _, hown.row.keep r2, Or.inr fun x hc hx => (h2.range x hc hx).1⟩
    · have hn0 : n = 0 := by have := hown.2.1; omega
      have hc0 : c = 0 := by omega
      subst hn0; subst hc0
      have hxe : xs = [] := List.eq_nil_of_length_eq_zero (by simpa using hown.1)
      subst hxe
      cases a with
      | none =>
        obtain ⟨v', w', hrun, r1, r2, _⟩ := run_append_own (P := P) w w.heap.size t ty e i z sz bytes ht hi hz hsize hby hzs hsz (.slice none 0 0) 0 [] (World.ownsRow_nil w _ e sz) ⟨g', o', none⟩ m c' xs' hr1 hnews h1 hmax hbytes (Nat.le_refl _)
        obtain ⟨a2, c2, rfl, h2⟩ := OwnC.of_owns r1
        exact ⟨_, _, w', hrun, h2.lower hbase, by unfold rowOf; exact r2, hown.row.keep r2, Or.inr fun x hc hx => (h2.range x hc hx).1⟩
      | some y =>
        obtain ⟨v', w', hrun, r1, r2⟩ := run_append_arg_grows (P := P) w t ty e i z sz bytes ht hi hz hsize hby hzs hsz y 0 0 [] (by simp) (fun j u hu => by simp at hu) ⟨g', o', none⟩ m c' xs' hr1 hnews (by omega) hmax hbytes
        obtain ⟨a2, c2, rfl, h2⟩ := OwnC.of_owns r1
        exact ⟨_, _, w', hrun, h2.lower hbase, grownBy_some r2 _, hown.row.keep r2, Or.inr fun x hc hx => (h2.range x hc hx).1⟩
/-- Append on integers: what it leaves. -/
theorem run_appJ (w : World) (ty : TypeId) (b : Nat) (a : Option Addr) (n c : Nat) (l : List Int) (hown : Own w b a n c l) (a' : Option Addr) (m c' : Nat) (l' : List Int) (hrow : Ints w a' m c' l') (hlen : n + m ≤ 1000000000000) (hbase : b ≤ w.heap.size) :
    ∃ a2 c2 w', (Builtin.append_ #[26, 26] ty #[.slice a n c, .slice a' m c']).run Try.prog w = .ok (.slice a2 (n + m) c2) w' ∧ Own w' b a2 (n + m) c2 (l ++ l') ∧ Below b w w' ∧ w.grownBy w' (rowOf a c) ∧ Ints w' a n c l ∧ Moved w a c a2 c2 := by
  obtain ⟨i0, hi, hz0, hz1, hz2⟩ := info_parts info_int
  obtain ⟨a2, c2, w', hrun, h1, h2, h3, h9⟩ := run_app2 w 26 ty b 3 i0 (.int .i64 0) 1 8 Try.underlying26 hi hz0 hz1 hz2 rfl (by decide) a n c _ hown a' m c' _ hrow.rowC (by
    intro u hu
    simp only [List.mem_map] at hu
    obtain ⟨y, _, rfl⟩ := hu
    rfl) (by omega) (by unfold maxLen; omega) hbase
  exact ⟨a2, c2, w', hrun, by unfold Own; rw [List.map_append]; exact h1, below_grownBy h2 hbase (fun x hc hx => (hown.range x hc hx).1), h2, Ints.of_rowC h3, h9⟩
theorem wp_appJ (w : World) {o : Oper} {act : Act} {K : Act → World → Prop} {Q : Exit → Act → World → Prop} (s x : Operand)
    (ho : o.op = .call { callee := .builtin .append, args := #[s, x], argTypes := #[26, 26] })
    (b : Nat) (a : Option Addr) (n c : Nat) (l : List Int) (hs : act.eval s = .slice a n c) (hown : Own w b a n c l)
    (a' : Option Addr) (m c' : Nat) (l' : List Int) (hx : act.eval x = .slice a' m c') (hrow : Ints w a' m c' l')
    (hlen : n + m ≤ 1000000000000) (hbase : b ≤ w.heap.size)
    (h : ∀ a2 c2 w', Own w' b a2 (n + m) c2 (l ++ l') → Below b w w' → w.grownBy w' (rowOf a c) → Ints w' a n c l → Moved w a c a2 c2 → K (act.put o.dst (.slice a2 (n + m) c2)) w') : o.wp Try.prog act w K Q := by
  obtain ⟨a2, c2, w', hrun, h1, h2, h3, h4, h5⟩ := run_appJ w o.type b a n c l hown a' m c' l' hrow hlen hbase
  unfold Oper.wp
  simp [execOp, ho, resolve, invoke, builtin, hs, hx, hrun, Result.andThen]
  exact h a2 c2 w' h1 h2 h3 h4 h5
theorem wpList_appJ (w : World) {ops : Array Oper} {rest : List Oper} {o : Oper} {act : Act} {Q : Exit → Act → World → Prop} (hgd : o.guard = none) (s x : Operand)
    (ho : o.op = .call { callee := .builtin .append, args := #[s, x], argTypes := #[26, 26] })
    (b : Nat) (a : Option Addr) (n c : Nat) (l : List Int) (hs : act.eval s = .slice a n c) (hown : Own w b a n c l)
    (a' : Option Addr) (m c' : Nat) (l' : List Int) (hx : act.eval x = .slice a' m c') (hrow : Ints w a' m c' l')
    (hlen : n + m ≤ 1000000000000) (hbase : b ≤ w.heap.size)
    (h : ∀ a2 c2 w', Own w' b a2 (n + m) c2 (l ++ l') → Below b w w' → w.grownBy w' (rowOf a c) → Moved w a c a2 c2 → wpList Try.prog ops Q rest (act.put o.dst (.slice a2 (n + m) c2)) w') : wpList Try.prog ops Q (o :: rest) act w :=
  wpList_plain hgd fun _ hK => wp_appJ w s x ho b a n c l hs hown a' m c' l' hx hrow hlen hbase fun a2 c2 w' h1 h2 h3 _ h5 => hK _ _ (h a2 c2 w' h1 h2 h3 h5)
/-- The same inside a region that draws its order. -/
theorem step_appJ (w : World) {ops : Array Oper} {o : Oper} {act : Act} {K : Act → World → Prop} {Q : Exit → Act → World → Prop} {E : Prop} (hgd : o.guard = none) (s x : Operand)
    (ho : o.op = .call { callee := .builtin .append, args := #[s, x], argTypes := #[26, 26] })
    (b : Nat) (a : Option Addr) (n c : Nat) (l : List Int) (hs : act.eval s = .slice a n c) (hown : Own w b a n c l)
    (a' : Option Addr) (m c' : Nat) (l' : List Int) (hx : act.eval x = .slice a' m c') (hrow : Ints w a' m c' l')
    (hlen : n + m ≤ 1000000000000) (hbase : b ≤ w.heap.size)
    (h : ∀ a2 c2 w', Own w' b a2 (n + m) c2 (l ++ l') → Below b w w' → w.grownBy w' (rowOf a c) → Ints w' a n c l → Moved w a c a2 c2 → K (act.put o.dst (.slice a2 (n + m) c2)) w') :
    if Region.wanted o (yielded ops act.tmps) = true then Oper.wp Try.prog o act w K Q else E := by
  rw [if_pos (by simp [Region.wanted, hgd])]
  exact wp_appJ w s x ho b a n c l hs hown a' m c' l' hx hrow hlen hbase h
end Go.Proofs.Ytmbheimjphhamaa
namespace Go.Proofs.Ytmbheimjphhamaa
open Go.RowKit
def eGate : Nat := 90
theorem info_Gate : (Try.prog.info? 90).map (fun i => (i.zero, i.size, i.bytes)) = some (some (.agg #[.int .i64 0, .int .i64 0, .int .i64 0]), 3, 24) := by kernel_rfl
end Go.Proofs.Ytmbheimjphhamaa
namespace Go.Proofs.Ytmbheimjphhamaa
open Go.RowKit
theorem RowC.gate (w : World) (kd ka kb : Int) (e : TypeId) : RowC (w.alloc (.cells #[.int .i64 kd, .int .i64 ka, .int .i64 kb] e)) (some ⟨w.heap.size, 0, none⟩) 1 1 3 [.int .i64 kd, .int .i64 ka, .int .i64 kb] :=
  (OwnC.lit w 0 1 e 3 [.int .i64 kd, .int .i64 ka, .int .i64 kb] (Nat.zero_le _) rfl (by simp [maxLen])).row
theorem run_appG (w : World) (ty : TypeId) (b : Nat) (a : Option Addr) (n c : Nat) (G : List Int) (hown : OwnF 3 eGate w b a n c G) (a' : Option Addr) (c' : Nat) (kd ka kb : Int) (hrow : RowC w a' 1 c' 3 [.int .i64 kd, .int .i64 ka, .int .i64 kb]) (hlen : n + 1 ≤ 1000000) (hbase : b ≤ w.heap.size) :
    ∃ a2 c2 w', (Builtin.append_ #[25, 25] ty #[.slice a n c, .slice a' 1 c']).run Try.prog w = .ok (.slice a2 (n + 1) c2) w' ∧ OwnF 3 eGate w' b a2 (n + 1) c2 (G ++ [kd, ka, kb]) ∧ w.grownBy w' (rowOf a c) ∧ Moved w a c a2 c2 := by
  obtain ⟨i0, hi, hz0, hz1, hz2⟩ := info_parts info_Gate
  obtain ⟨a2, c2, w', hrun, h1, h2, _, h9⟩ := run_app2 w 25 ty b 90 i0 (.agg #[.int .i64 0, .int .i64 0, .int .i64 0]) 3 24 Try.underlying25 hi hz0 hz1 hz2 rfl (by decide) a n c _ hown a' 1 c' _ hrow (by
    intro u hu
    simp only [List.mem_cons, List.not_mem_nil, or_false] at hu
    rcases hu with rfl | rfl | rfl <;> rfl) (by omega) (by unfold maxLen; omega) hbase
  exact ⟨a2, c2, w', hrun, by unfold OwnF; rw [List.map_append]; exact h1, h2, h9⟩
theorem wp_appG (w : World) {o : Oper} {act : Act} {K : Act → World → Prop} {Q : Exit → Act → World → Prop} (s x : Operand)
    (ho : o.op = .call { callee := .builtin .append, args := #[s, x], argTypes := #[25, 25] })
    (b : Nat) (a : Option Addr) (n c : Nat) (G : List Int) (hs : act.eval s = .slice a n c) (hown : OwnF 3 eGate w b a n c G)
    (a' : Option Addr) (c' : Nat) (kd ka kb : Int) (hx : act.eval x = .slice a' 1 c') (hrow : RowC w a' 1 c' 3 [.int .i64 kd, .int .i64 ka, .int .i64 kb])
    (hlen : n + 1 ≤ 1000000) (hbase : b ≤ w.heap.size)
    (h : ∀ a2 c2 w', OwnF 3 eGate w' b a2 (n + 1) c2 (G ++ [kd, ka, kb]) → w.grownBy w' (rowOf a c) → Moved w a c a2 c2 → K (act.put o.dst (.slice a2 (n + 1) c2)) w') : o.wp Try.prog act w K Q := by
  obtain ⟨a2, c2, w', hrun, h1, h2, h5⟩ := run_appG w o.type b a n c G hown a' c' kd ka kb hrow hlen hbase
  unfold Oper.wp
  simp [execOp, ho, resolve, invoke, builtin, hs, hx, hrun, Result.andThen]
  exact h a2 c2 w' h1 h2 h5
theorem wpList_appG (w : World) {ops : Array Oper} {rest : List Oper} {o : Oper} {act : Act} {Q : Exit → Act → World → Prop} (hgd : o.guard = none) (s x : Operand)
    (ho : o.op = .call { callee := .builtin .append, args := #[s, x], argTypes := #[25, 25] })
    (b : Nat) (a : Option Addr) (n c : Nat) (G : List Int) (hs : act.eval s = .slice a n c) (hown : OwnF 3 eGate w b a n c G)
    (a' : Option Addr) (c' : Nat) (kd ka kb : Int) (hx : act.eval x = .slice a' 1 c') (hrow : RowC w a' 1 c' 3 [.int .i64 kd, .int .i64 ka, .int .i64 kb])
    (hlen : n + 1 ≤ 1000000) (hbase : b ≤ w.heap.size)
    (h : ∀ a2 c2 w', OwnF 3 eGate w' b a2 (n + 1) c2 (G ++ [kd, ka, kb]) → w.grownBy w' (rowOf a c) → Moved w a c a2 c2 → wpList Try.prog ops Q rest (act.put o.dst (.slice a2 (n + 1) c2)) w') : wpList Try.prog ops Q (o :: rest) act w :=
  wpList_plain hgd fun _ hK => wp_appG w s x ho b a n c G hs hown a' c' kd ka kb hx hrow hlen hbase fun a2 c2 w' h1 h2 h5 => hK _ _ (h a2 c2 w' h1 h2 h5)
end Go.Proofs.Ytmbheimjphhamaa
namespace Go.Proofs.Ytmbheimjphhamaa
open Go.RowKit
/-- A maker in block g: gates G in a row of its own, no outs; F: the blocks that it may write. -/
def Mk (t : Nat) (w : World) (b g : Nat) (i0 i1 : Int) (G : List Int) (F : List Nat) (oa : Option Addr := none) (on : Nat := 0) (oc : Nat := 0) : Prop :=
  ∃ a n c, Blk w g t #[.int .i64 i0, .int .i64 i1, .slice a n c, .slice oa on oc] ∧ OwnF 3 eGate w b a n c G ∧ g ∉ foot a c ∧ b ≤ g ∧ F = g :: foot a c
/-- A step: what was there stays outside F; the blocks F' are of F or new. -/
structure Stp (F : List Nat) (w : World) (F' : List Nat) (w' : World) : Prop where
  only : Only F w w'
  more : ∀ k ∈ F', k ∈ F ∨ w.heap.size ≤ k
theorem Stp.refl (F : List Nat) (w : World) : Stp F w F w := ⟨Only.refl _ _, fun _ h => .inl h⟩
theorem Stp.trans {F F1 F2 w w1 w2} (h : Stp F w F1 w1) (k : Stp F1 w1 F2 w2) : Stp F w F2 w2 :=
  ⟨⟨k.only.os.trans h.only.os, k.only.tape.trans h.only.tape, k.only.output.trans h.only.output, Nat.le_trans h.only.size k.only.size, fun i hi hn =>
    (k.only.block i (Nat.lt_of_lt_of_le hi h.only.size) (fun hm => by rcases h.more i hm with e | e; exact hn e; omega)).trans (h.only.block i hi hn)⟩,
   fun i hi => by
    rcases k.more i hi with e | e
    · exact h.more i e
    · exact .inr (Nat.le_trans h.only.size e)⟩
theorem Stp.below {F F1 w w1 w2} (h : Stp F w F1 w1) (u : Below w1.heap.size w1 w2) : Stp F w F1 w2 := h.trans ⟨Only.of_below u, fun _ h => .inl h⟩
/-- Something else that is new since w has been written. -/
theorem Stp.onto {X F F1 w w1 w2} (h : Stp F w F1 w1) (u : Only X w1 w2) (hX : ∀ k ∈ X, w.heap.size ≤ k) : Stp F w F1 w2 :=
  ⟨⟨u.os.trans h.only.os, u.tape.trans h.only.tape, u.output.trans h.only.output, Nat.le_trans h.only.size u.size, fun i hi hn =>
    (u.block i (Nat.lt_of_lt_of_le hi h.only.size) (fun hm => by have := hX i hm; omega)).trans (h.only.block i hi hn)⟩, h.more⟩
theorem Stp.alloc {F F1 w w1} (h : Stp F w F1 w1) (o : Obj) : Stp F w F1 (w1.alloc o) := h.below ((Below.refl _ _).alloc (Nat.le_refl _) _)
theorem Stp.drew {F F1 w w1} (h : Stp F w F1 w1) : Stp F w F1 w1.drew := h.below ((Below.refl _ _).drew)
theorem Stp.size {F F1 w w1} (h : Stp F w F1 w1) : w.heap.size ≤ w1.heap.size := h.only.size
theorem Stp.out {F F1 w w1} (h : Stp F w F1 w1) {B : Nat} (hB : B ≤ w.heap.size) (hF : ∀ k ∈ F, B ≤ k) : Below B w w1 := h.only.below hB hF
theorem Mk.feet {t w b g i0 i1 G F} {oa : Option Addr} {on oc : Nat} (h : Mk t w b g i0 i1 G F oa on oc) : ∀ k ∈ F, b ≤ k ∧ k < w.heap.size := by
  obtain ⟨a, n, c, hB, ho, _, hb, rfl⟩ := h
  intro k hk
  rcases List.mem_cons.1 hk with rfl | hk
  · exact ⟨hb, hB.lt⟩
  · exact ho.feet k hk
theorem Mk.only {t w w' b g i0 i1 G F X} {oa : Option Addr} {on oc : Nat} (h : Mk t w b g i0 i1 G F oa on oc) (u : Only X w w') (d : Disj X F) : Mk t w' b g i0 i1 G F oa on oc := by
  obtain ⟨a, n, c, hB, ho, hg, hb, rfl⟩ := h
  exact ⟨a, n, c, hB.only u (fun hm => d g hm (by simp)), ho.only u (fun k hk hx => d k hx (by simp [hk])), hg, hb, rfl⟩
theorem Mk.below {t w w' b g i0 i1 G F} {oa : Option Addr} {on oc : Nat} (h : Mk t w b g i0 i1 G F oa on oc) (u : Below w.heap.size w w') : Mk t w' b g i0 i1 G F oa on oc := h.only (X := []) (Only.of_below u) (Disj.nil_l _)
theorem Mk.alloc {t w b g i0 i1 G F} {oa : Option Addr} {on oc : Nat} (h : Mk t w b g i0 i1 G F oa on oc) (o : Obj) : Mk t (w.alloc o) b g i0 i1 G F oa on oc := h.below ((Below.refl _ _).alloc (Nat.le_refl _) _)
theorem Mk.drew {t w b g i0 i1 G F} {oa : Option Addr} {on oc : Nat} (h : Mk t w b g i0 i1 G F oa on oc) : Mk t w.drew b g i0 i1 G F oa on oc := h.below ((Below.refl _ _).drew)
theorem Mk.drewN {t w b g i0 i1 G F} {oa : Option Addr} {on oc : Nat} (h : Mk t w b g i0 i1 G F oa on oc) (m : Nat) : Mk t (w.drewN m) b g i0 i1 G F oa on oc := h.below (below_of_drewN m)
theorem Own.stp {w w' : World} {b a n c l F F'} (o : Own w b a n c l) (d : Disj (foot a c) F) (h : Stp F w F' w') : Own w' b a n c l ∧ Disj (foot a c) F' :=
  ⟨o.only h.only d, fun k hk hf => by
    rcases h.more k hf with e | e
    · exact d k hk e
    · have := (o.feet k hk).2; omega⟩
/-- A slice that reads as l and lies outside the blocks F. -/
def IntD (w : World) (a : Option Addr) (n c : Nat) (l : List Int) (F : List Nat) : Prop := Ints w a n c l ∧ ∀ x, 0 < n → a = some x → x.block ∉ F
theorem IntD.ints {w a n c l F} (h : IntD w a n c l F) : Ints w a n c l := h.1
theorem Ints.only {w w' : World} {X a n c l} (h : Ints w a n c l) (u : Only X w w') (hd : ∀ x, 0 < n → a = some x → x.block ∉ X) : Ints w' a n c l := by
  obtain ⟨h1, h2, h3, hn, g, o, h4, h5⟩ := h
  refine ⟨h1, h2, h3, hn, g, o, h4, fun i hi => ?_⟩
  have hb : w'.heap[g]? = w.heap[g]? := u.block g (World.block_lt_of_cell? w _ (h5 i hi)) (hd _ (by omega) (h4 (by omega)))
  have := h5 i hi
  simp only [World.cell?] at this ⊢
  rw [hb]; exact this
theorem IntD.stp {w w' : World} {a n c l F F'} (o : IntD w a n c l F) (h : Stp F w F' w') : IntD w' a n c l F' :=
  ⟨o.1.only h.only o.2, fun x hn hx hf => by
    rcases h.more _ hf with e | e
    · exact o.2 x hn hx e
    · have := (o.1.range x hn hx).2; omega⟩
theorem IntD.below {w w' : World} {a n c l F} (o : IntD w a n c l F) (u : Below w.heap.size w w') : IntD w' a n c l F := ⟨o.1.below u, o.2⟩
theorem Own.intD {w b a n c l F} (o : Own w b a n c l) (d : Disj (foot a c) F) : IntD w a n c l F := ⟨o.ints, fun x hn hx hf => d x.block (by rw [hx]; exact foot_mem (by have := o.cap; omega)) hf⟩
theorem IntD.only {X F} {w w' : World} {a n c l} (o : IntD w a n c l F) (u : Only X w w') (hd : ∀ x, 0 < n → a = some x → x.block ∉ X) : IntD w' a n c l F := ⟨o.1.only u hd, o.2⟩
theorem Mk.outs {t w b g i0 i1 G F} {oa : Option Addr} {on oc : Nat} (h : Mk t w b g i0 i1 G F oa on oc) (oa' : Option Addr) (on' oc' : Nat) :
    Mk t (w.setCell ⟨g, 3, none⟩ (.slice oa' on' oc')) b g i0 i1 G F oa' on' oc' ∧ w.cell? ⟨g, 3, none⟩ = some (.slice oa on oc) ∧ w.frozen? ⟨g, 3, none⟩ = false ∧ g ∈ F := by
  obtain ⟨a, n, c, hB, ho, hg, hb, rfl⟩ := h
  have O : Only [g] w (w.setCell ⟨g, 3, none⟩ (.slice oa' on' oc')) := (Only.refl _ _).setCell _ _ (by simp)
  exact ⟨⟨a, n, c, hB.set_ 3 _, ho.only O (fun k hk hk' => hg (by simp at hk'; subst hk'; exact hk)), hg, hb, rfl⟩, hB.cell 3, hB.frozen 3, by simp⟩
theorem Mk.new (t : Nat) (w : World) (b : Nat) (i0 i1 : Int) (hb : b ≤ w.heap.size) : Mk t (w.alloc (.cells #[.int .i64 i0, .int .i64 i1, .slice none 0 0, .slice none 0 0] t)) b w.heap.size i0 i1 [] [w.heap.size] :=
  ⟨none, 0, 0, Blk.new w _ _, OwnC.nil0 _ _ _ _ _, by simp [foot, rowOf], hb, by simp [foot, rowOf]⟩
theorem IntD.nil (w : World) (a : Option Addr) (c : Nat) (F : List Nat) (h : Ints w a 0 c []) : IntD w a 0 c [] F := ⟨h, fun _ h => absurd h (by omega)⟩
theorem foot_nil (a : Option Addr) (F : List Nat) : Disj (foot a 0) F := fun k hk => by simp [foot, rowOf] at hk
end Go.Proofs.Ytmbheimjphhamaa
namespace Go.Proofs.Ytmbheimjphhamaa
open Go.RowKit
/-- The least exponent of 2 that reaches n (n at most 256). -/
def wid (n : Int) : Nat := if n ≤ 1 then 0 else if n ≤ 2 then 1 else if n ≤ 4 then 2 else if n ≤ 8 then 3 else if n ≤ 16 then 4 else if n ≤ 32 then 5 else if n ≤ 64 then 6 else if n ≤ 128 then 7 else 8
theorem wid_cases (n : Int) : (n ≤ 1 ∧ wid n = 0) ∨ (1 < n ∧ n ≤ 2 ∧ wid n = 1) ∨ (2 < n ∧ n ≤ 4 ∧ wid n = 2) ∨ (4 < n ∧ n ≤ 8 ∧ wid n = 3) ∨ (8 < n ∧ n ≤ 16 ∧ wid n = 4) ∨ (16 < n ∧ n ≤ 32 ∧ wid n = 5) ∨
    (32 < n ∧ n ≤ 64 ∧ wid n = 6) ∨ (64 < n ∧ n ≤ 128 ∧ wid n = 7) ∨ (128 < n ∧ wid n = 8) := by
  unfold wid
  (repeat' split) <;> omega
theorem wid_le (n : Int) : wid n ≤ 8 := by have := wid_cases n; omega
theorem wid_lt (n : Int) (k : Nat) (h : n ≤ 256) (hk : k ≤ wid n) : k < wid n ↔ (2 : Int) ^ k < n := by
  have := wid_cases n
  generalize wid n = v at *
  rcases (by omega : k = 0 ∨ k = 1 ∨ k = 2 ∨ k = 3 ∨ k = 4 ∨ k = 5 ∨ k = 6 ∨ k = 7 ∨ k = 8) with rfl | rfl | rfl | rfl | rfl | rfl | rfl | rfl | rfl <;>
    omega
theorem pow_in (k : Nat) (h : k ≤ 8) : wrap64 ((2 : Int) ^ k) = (2 : Int) ^ k := by
  apply IntWalk.wrap64_in <;>
  rcases (by omega : k = 0 ∨ k = 1 ∨ k = 2 ∨ k = 3 ∨ k = 4 ∨ k = 5 ∨ k = 6 ∨ k = 7 ∨ k = 8) with rfl | rfl | rfl | rfl | rfl | rfl | rfl | rfl | rfl <;> omega
set_option maxHeartbeats 400000 in
theorem indexWidth_any (n : Int) (w : World) (_h1 : 1 ≤ n) (h2 : n ≤ 256) :
    Calls Try.prog 51 #[.int .i64 n] w fun e w' => e = .returned (.int .i64 (wid n)) ∧ w = w' := by
  go_enter Try.func51, Try.ntmps51
  go_wp2
  go_loop [3] (fun v => ∃ k : Nat, k ≤ wid n ∧ v = .int .i64 k) (fun v => 8 - (intOf v).toNat)
  case atStart => exact ⟨0, Nat.zero_le _, rfl⟩
  case round =>
    obtain ⟨k, hk, rfl⟩ := hrel
    have h8 := wid_le n
    have hp := pow_in k (by omega)
    have hw := wid_lt n k h2 hk
    by_cases hlt : k < wid n
    · have h3 : (2 : Int) ^ k < n := hw.1 hlt
      clear hw
      go_wp2
      go_round
      case rel => exact ⟨k + 1, by omega, by go_num⟩
      case measure => simp [intOf]; omega
    · have h3 : ¬ (2 : Int) ^ k < n := fun h => hlt (hw.2 h)
      have h4 : k = wid n := by omega
      have H4 := Lib.hid h4
      clear hw h4
      go_wp2
      go_ret
      exact ⟨ret_int (by rw [← H4.out]), rfl⟩
set_option maxHeartbeats 400000 in
theorem cvWidth_any (n : Int) (w : World) (_h1 : 1 ≤ n) (h2 : n ≤ 256) :
    Calls Try.prog 78 #[.int .i64 n] w fun e w' => e = .returned (.int .i64 (wid n)) ∧ w = w' := by
  go_enter Try.func78, Try.ntmps78
  go_wp2
  go_loop [3] (fun v => ∃ k : Nat, k ≤ wid n ∧ v = .int .i64 k) (fun v => 8 - (intOf v).toNat)
  case atStart => exact ⟨0, Nat.zero_le _, rfl⟩
  case round =>
    obtain ⟨k, hk, rfl⟩ := hrel
    have h8 := wid_le n
    have hp := pow_in k (by omega)
    have hw := wid_lt n k h2 hk
    by_cases hlt : k < wid n
    · have h3 : (2 : Int) ^ k < n := hw.1 hlt
      clear hw
      go_wp2
      go_round
      case rel => exact ⟨k + 1, by omega, by go_num⟩
      case measure => simp [intOf]; omega
    · have h3 : ¬ (2 : Int) ^ k < n := fun h => hlt (hw.2 h)
      have h4 : k = wid n := by omega
      have H4 := Lib.hid h4
      clear hw h4
      go_wp2
      go_ret
      exact ⟨ret_int (by rw [← H4.out]), rfl⟩
end Go.Proofs.Ytmbheimjphhamaa
namespace Go.Proofs.Ytmbheimjphhamaa
open Go.RowKit
/-- The wire of the next gate; B: the number of inputs. -/
def gW (B : Int) (G : List Int) : Int := B + ((G.length / 3 : Nat) : Int)
/-- A gate more. -/
def gt (G : List Int) (k a b : Int) : List Int := G ++ [k, a, b]
theorem gt_len (G : List Int) (k a b : Int) : (gt G k a b).length = G.length + 3 := by simp [gt]
/-- The choice of x or y by s: k places. -/
def chS (B s u v : Int) (r : List Int × List Int) : List Int × List Int :=
  (gt (gt (gt r.1 0 u v) 1 s (gW B r.1)) 0 (gW B (gt r.1 0 u v)) v, r.2 ++ [gW B (gt (gt r.1 0 u v) 1 s (gW B r.1))])
def chG (B s : Int) (x y G : List Int) : Nat → List Int × List Int
  | 0 => (G, [])
  | k + 1 => chS B s (x.getD k 0) (y.getD k 0) (chG B s x y G k)
theorem chG_succ (B s : Int) (x y G : List Int) (k : Nat) : chG B s x y G (k + 1) = chS B s (x.getD k 0) (y.getD k 0) (chG B s x y G k) := rfl
theorem chG_len (B s : Int) (x y G : List Int) (k : Nat) : (chG B s x y G k).1.length = G.length + 9 * k ∧ (chG B s x y G k).2.length = k := by
  induction k with
  | zero => simp [chG]
  | succ k ih => simp only [chG, chS, gt_len, List.length_append, List.length_cons, List.length_nil]; omega
theorem gW_gt (B : Int) (G : List Int) (k a b : Int) : gW B (gt G k a b) = gW B G + 1 := by unfold gW; rw [gt_len]; omega
theorem gW_nn {B : Int} {G : List Int} (h : 0 ≤ B) : 0 ≤ gW B G := by unfold gW; omega
/-- The first bits of a number. -/
def btL (n : Int) (k : Nat) : List Int := (List.range k).map fun i => n / 2 ^ i % 2
theorem btL_succ (n : Int) (k : Nat) : btL n (k + 1) = btL n k ++ [n / 2 ^ k % 2] := by simp [btL, List.range_succ]
/-- Numbers one behind the other. -/
def spL (f : Int) (k : Nat) : List Int := (List.range k).map fun (i : Nat) => f + i
theorem spL_succ (f : Int) (k : Nat) : spL f (k + 1) = spL f k ++ [f + k] := by simp [spL, List.range_succ]
theorem spL_len (f : Int) (k : Nat) : (spL f k).length = k := by simp [spL]
end Go.Proofs.Ytmbheimjphhamaa
namespace Go.Proofs.Ytmbheimjphhamaa
open Go.RowKit
set_option maxHeartbeats 4000000 in
theorem inputs_any (i0 i1 : Int) (a : Option Addr) (n c : Nat) (oa : Option Addr) (on oc : Nat) (w : World) (h0 : 0 ≤ i0 ∧ i0 ≤ 100000) (h1 : 0 ≤ i1 ∧ i1 ≤ 100000) :
    Calls Try.prog 80 #[.agg #[.int .i64 i0, .int .i64 i1, .slice a n c, .slice oa on oc]] w fun e w' => e = .returned (.int .i64 (i0 + i1)) ∧ Below w.heap.size w w' := by
  go_enter Try.func80, Try.ntmps80
  go_wp2
  go_ret
  exact ⟨rfl, (Below.refl _ _).alloc (Nat.le_refl _) _⟩
set_option maxHeartbeats 4000000 in
theorem ciInputs_any (i0 i1 : Int) (a : Option Addr) (n c : Nat) (oa : Option Addr) (on oc : Nat) (w : World) (h0 : 0 ≤ i0 ∧ i0 ≤ 100000) (h1 : 0 ≤ i1 ∧ i1 ≤ 100000) :
    Calls Try.prog 85 #[.agg #[.int .i64 i0, .int .i64 i1, .slice a n c, .slice oa on oc]] w fun e w' => e = .returned (.int .i64 (i0 + i1)) ∧ Below w.heap.size w w' := by
  go_enter Try.func85, Try.ntmps85
  go_wp2
  go_ret
  exact ⟨rfl, (Below.refl _ _).alloc (Nat.le_refl _) _⟩
set_option maxHeartbeats 2000000 in
theorem wires_any (i0 i1 : Int) (ga : Option Addr) (gn gc : Nat) (oa : Option Addr) (on oc : Nat) (w : World) (h0 : 0 ≤ i0 ∧ i0 ≤ 100000) (h1 : 0 ≤ i1 ∧ i1 ≤ 100000) (hg : gn ≤ 1000000) :
    Calls Try.prog 83 #[.agg #[.int .i64 i0, .int .i64 i1, .slice ga gn gc, .slice oa on oc]] w fun e w' => e = .returned (.int .i64 (i0 + i1 + gn)) ∧ Below w.heap.size w w' := by
  go_enter Try.func83, Try.ntmps83
  go_wp2_with fail
  have V0 : Below w.heap.size w (w.alloc (.cells #[.int .i64 i0, .int .i64 i1, .slice ga gn gc, .slice oa on oc] 28)) := (Below.refl _ _).alloc (Nat.le_refl _) _
  have B0 : Blk (w.alloc (.cells #[.int .i64 i0, .int .i64 i1, .slice ga gn gc, .slice oa on oc] 28)) w.heap.size 28 #[.int .i64 i0, .int .i64 i1, .slice ga gn gc, .slice oa on oc] := Blk.new w _ _
  generalize (w.alloc (.cells #[.int .i64 i0, .int .i64 i1, .slice ga gn gc, .slice oa on oc] 28)) = w1 at *
  have x0 : w1.cell? ⟨w.heap.size, 0, none⟩ = some (.int .i64 i0) := B0.cell 0
  have x1 : w1.cell? ⟨w.heap.size, 1, none⟩ = some (.int .i64 i1) := B0.cell 1
  have x2 : w1.cell? ⟨w.heap.size, 2, none⟩ = some (.slice ga gn gc) := B0.cell 2
  have x3 : w1.cell? ⟨w.heap.size, 3, none⟩ = some (.slice oa on oc) := B0.cell 3
  have t1 : IntKind.i64.wrap (i0 + i1 + (gn : Int)) = i0 + i1 + gn := IntWalk.i64_in _ (by omega)
  go_region_held3 (fun W => W.cell? ⟨w.heap.size, 0, none⟩ = some (.int .i64 i0) ∧ W.cell? ⟨w.heap.size, 1, none⟩ = some (.int .i64 i1) ∧ W.cell? ⟨w.heap.size, 2, none⟩ = some (.slice ga gn gc) ∧ W.cell? ⟨w.heap.size, 3, none⟩ = some (.slice oa on oc))
    (first | go_keep | exact ⟨keepC u x0, keepC u x1, keepC u x2, keepC u x3⟩)
    (first | (go_at_call 80; refine (inputs_any _ _ _ _ _ _ _ _ _ (by omega) (by omega)).mono ?_; rintro e w2 ⟨rfl, u⟩))
  all_goals have u' : Below w1.heap.size w1 w2 := (Below.refl _ _).drew.trans u
  all_goals go_wp2
  all_goals go_ret
  all_goals exact ⟨rfl, V0.trans (u'.mono V0.size)⟩
set_option maxHeartbeats 2000000 in
theorem ciWires_any (i0 i1 : Int) (ga : Option Addr) (gn gc : Nat) (oa : Option Addr) (on oc : Nat) (w : World) (h0 : 0 ≤ i0 ∧ i0 ≤ 100000) (h1 : 0 ≤ i1 ∧ i1 ≤ 100000) (hg : gn ≤ 1000000) :
    Calls Try.prog 87 #[.agg #[.int .i64 i0, .int .i64 i1, .slice ga gn gc, .slice oa on oc]] w fun e w' => e = .returned (.int .i64 (i0 + i1 + gn)) ∧ Below w.heap.size w w' := by
  go_enter Try.func87, Try.ntmps87
  go_wp2_with fail
  have V0 : Below w.heap.size w (w.alloc (.cells #[.int .i64 i0, .int .i64 i1, .slice ga gn gc, .slice oa on oc] 28)) := (Below.refl _ _).alloc (Nat.le_refl _) _
  have B0 : Blk (w.alloc (.cells #[.int .i64 i0, .int .i64 i1, .slice ga gn gc, .slice oa on oc] 28)) w.heap.size 28 #[.int .i64 i0, .int .i64 i1, .slice ga gn gc, .slice oa on oc] := Blk.new w _ _
  generalize (w.alloc (.cells #[.int .i64 i0, .int .i64 i1, .slice ga gn gc, .slice oa on oc] 28)) = w1 at *
  have x0 : w1.cell? ⟨w.heap.size, 0, none⟩ = some (.int .i64 i0) := B0.cell 0
  have x1 : w1.cell? ⟨w.heap.size, 1, none⟩ = some (.int .i64 i1) := B0.cell 1
  have x2 : w1.cell? ⟨w.heap.size, 2, none⟩ = some (.slice ga gn gc) := B0.cell 2
  have x3 : w1.cell? ⟨w.heap.size, 3, none⟩ = some (.slice oa on oc) := B0.cell 3
  have t1 : IntKind.i64.wrap (i0 + i1 + (gn : Int)) = i0 + i1 + gn := IntWalk.i64_in _ (by omega)
  go_region_held3 (fun W => W.cell? ⟨w.heap.size, 0, none⟩ = some (.int .i64 i0) ∧ W.cell? ⟨w.heap.size, 1, none⟩ = some (.int .i64 i1) ∧ W.cell? ⟨w.heap.size, 2, none⟩ = some (.slice ga gn gc) ∧ W.cell? ⟨w.heap.size, 3, none⟩ = some (.slice oa on oc))
    (first | go_keep | exact ⟨keepC u x0, keepC u x1, keepC u x2, keepC u x3⟩)
    (first | (go_at_call 85; refine (ciInputs_any _ _ _ _ _ _ _ _ _ (by omega) (by omega)).mono ?_; rintro e w2 ⟨rfl, u⟩))
  all_goals have u' : Below w1.heap.size w1 w2 := (Below.refl _ _).drew.trans u
  all_goals go_wp2
  all_goals go_ret
  all_goals exact ⟨rfl, V0.trans (u'.mono V0.size)⟩
end Go.Proofs.Ytmbheimjphhamaa
namespace Go.Proofs.Ytmbheimjphhamaa
open Go.RowKit
def gbB (kd a b own : Int) : Bool :=
  if kd = 0 ∨ kd = 1 then inB a 0 (own - 1) && inB b 0 (own - 1) else if kd = 2 then inB a 0 (own - 1) && (b == 0) else if kd = 3 then (a == 0) && (b == 0) else false
def gbAt (own : Int) (G : List Int) (k : Nat) : Bool := gbB (G.getD (k * 3) 0) (G.getD (k * 3 + 1) 0) (G.getD (k * 3 + 2) 0) (own + k)
def gbsB (own : Int) (G : List Int) (n : Nat) : Bool := (List.range n).all (gbAt own G)
theorem gbsB_no {own : Int} {G : List Int} {n k : Nat} (hk : k < n) (h : gbAt own G k = false) : gbsB own G n = false := by
  rw [Bool.eq_false_iff]
  intro H
  have := List.all_eq_true.1 H k (List.mem_range.2 hk)
  rw [h] at this
  cases this
theorem gbsB_yes {own : Int} {G : List Int} {n : Nat} (h : ∀ k, k < n → gbAt own G k = true) : gbsB own G n = true :=
  List.all_eq_true.2 fun k hk => h k (List.mem_range.1 hk)
/-- The circuit (i0, i1, gates G, outs O) is valid. -/
def ciB (i0 i1 : Int) (gn : Nat) (G O : List Int) : Bool :=
  inB i0 0 20 && inB i1 0 20 && decide (gn ≤ 300) && decide (O.length ≤ 40) && gbsB (i0 + i1) G gn && allB O 0 (i0 + i1 + gn - 1)
set_option maxHeartbeats 2000000 in
theorem gateOk_any (kd a b own : Int) (w : World) (ho : 0 ≤ own) (ho2 : own ≤ 1000) :
    Calls Try.prog 79 #[.agg #[.int .i64 kd, .int .i64 a, .int .i64 b], .int .i64 own] w fun e w' => e = .returned (.bool (gbB kd a b own)) ∧ Below w.heap.size w w' := by
  have V0 : Below w.heap.size w (w.alloc (.cells #[.int .i64 kd, .int .i64 a, .int .i64 b] 90)) := (Below.refl _ _).alloc (Nat.le_refl _) _
  unfold gbB
  by_cases k0 : kd = 0
  · subst k0
    rw [if_pos (by simp)]
    cases h1 : inB a 0 (own - 1)
    all_goals
      go_enter Try.func79, Try.ntmps79
      go_wp2_with (first | (go_at_call 50; refine (within_any _ _ _ _).mono ?_; rintro e w' ⟨rfl, rfl⟩))
      go_ret
      exact ⟨by simp, V0⟩
  by_cases k1 : kd = 1
  · subst k1
    rw [if_pos (by simp)]
    cases h1 : inB a 0 (own - 1)
    all_goals
      go_enter Try.func79, Try.ntmps79
      go_wp2_with (first | (go_at_call 50; refine (within_any _ _ _ _).mono ?_; rintro e w' ⟨rfl, rfl⟩))
      go_ret
      exact ⟨by simp, V0⟩
  rw [if_neg (by simp [k0, k1])]
  by_cases k2 : kd = 2
  · subst k2
    rw [if_pos rfl]
    clear k0 k1
    cases h1 : inB a 0 (own - 1)
    all_goals
      go_enter Try.func79, Try.ntmps79
      go_wp2_with (first | (go_at_call 50; refine (within_any _ _ _ _).mono ?_; rintro e w' ⟨rfl, rfl⟩))
      go_ret
      exact ⟨by simp, V0⟩
  rw [if_neg k2]
  by_cases k3 : kd = 3
  · subst k3
    rw [if_pos rfl]
    clear k0 k1 k2
    cases h1 : (a == 0 : Bool)
    all_goals
      go_enter Try.func79, Try.ntmps79
      go_wp2_with (first | (go_at_call 50; refine (within_any _ _ _ _).mono ?_; rintro e w' ⟨rfl, rfl⟩))
      go_ret
      exact ⟨by simp, V0⟩
  rw [if_neg k3]
  have f0 : ((kd == 0) : Bool) = false := by simp [k0]
  have f1 : ((kd == 1) : Bool) = false := by simp [k1]
  have f2 : ((kd == 2) : Bool) = false := by simp [k2]
  have f3 : ((kd == 3) : Bool) = false := by simp [k3]
  clear k0 k1 k2 k3
  go_enter Try.func79, Try.ntmps79
  go_wp2
  go_ret
  exact ⟨rfl, V0⟩
set_option maxHeartbeats 2000000 in
theorem ciGate_any (kd a b own : Int) (w : World) (ho : 0 ≤ own) (ho2 : own ≤ 1000) :
    Calls Try.prog 84 #[.agg #[.int .i64 kd, .int .i64 a, .int .i64 b], .int .i64 own] w fun e w' => e = .returned (.bool (gbB kd a b own)) ∧ Below w.heap.size w w' := by
  have V0 : Below w.heap.size w (w.alloc (.cells #[.int .i64 kd, .int .i64 a, .int .i64 b] 90)) := (Below.refl _ _).alloc (Nat.le_refl _) _
  unfold gbB
  by_cases k0 : kd = 0
  · subst k0
    rw [if_pos (by simp)]
    cases h1 : inB a 0 (own - 1)
    all_goals
      go_enter Try.func84, Try.ntmps84
      go_wp2_with (first | (go_at_call 64; refine (l1In_any _ _ _ _).mono ?_; rintro e w' ⟨rfl, rfl⟩))
      go_ret
      exact ⟨by simp, V0⟩
  by_cases k1 : kd = 1
  · subst k1
    rw [if_pos (by simp)]
    cases h1 : inB a 0 (own - 1)
    all_goals
      go_enter Try.func84, Try.ntmps84
      go_wp2_with (first | (go_at_call 64; refine (l1In_any _ _ _ _).mono ?_; rintro e w' ⟨rfl, rfl⟩))
      go_ret
      exact ⟨by simp, V0⟩
  rw [if_neg (by simp [k0, k1])]
  by_cases k2 : kd = 2
  · subst k2
    rw [if_pos rfl]
    clear k0 k1
    cases h1 : inB a 0 (own - 1)
    all_goals
      go_enter Try.func84, Try.ntmps84
      go_wp2_with (first | (go_at_call 64; refine (l1In_any _ _ _ _).mono ?_; rintro e w' ⟨rfl, rfl⟩))
      go_ret
      exact ⟨by simp, V0⟩
  rw [if_neg k2]
  have f0 : ((kd == 0) : Bool) = false := by simp [k0]
  have f1 : ((kd == 1) : Bool) = false := by simp [k1]
  have f2 : ((kd == 2) : Bool) = false := by simp [k2]
  clear k0 k1 k2
  go_enter Try.func84, Try.ntmps84
  go_wp2
  all_goals go_ret
  all_goals exact ⟨ret_bool (by simp_all), (Below.refl _ _).alloc (Nat.le_refl _) _⟩
set_option maxHeartbeats 2000000 in
theorem IsCircuit_1_any (x i0 i1 : Int) (ga : Option Addr) (gn gc : Nat) (oa : Option Addr) (on oc : Nat) (g : Nat) (w : World) (B : Blk w g 28 #[.int .i64 i0, .int .i64 i1, .slice ga gn gc, .slice oa on oc]) (h0 : 0 ≤ i0 ∧ i0 ≤ 20) (h1 : 0 ≤ i1 ∧ i1 ≤ 20) (hg : gn ≤ 300) :
    Calls Try.prog 82 #[.int .i64 x, .pointer (some ⟨g, 0, none⟩)] w fun e w' => e = .returned (.bool (decide (0 ≤ x ∧ x ≤ i0 + i1 + gn - 1))) ∧ Below w.heap.size w w' := by
  have x0 : w.cell? ⟨g, 0, none⟩ = some (.int .i64 i0) := B.cell 0
  have x1 : w.cell? ⟨g, 1, none⟩ = some (.int .i64 i1) := B.cell 1
  have x2 : w.cell? ⟨g, 2, none⟩ = some (.slice ga gn gc) := B.cell 2
  have x3 : w.cell? ⟨g, 3, none⟩ = some (.slice oa on oc) := B.cell 3
  have t2 : IntKind.i64.wrap (i0 + i1 + (gn : Int) - 1) = i0 + i1 + gn - 1 := IntWalk.i64_in _ (by omega)
  go_enter Try.func82, Try.ntmps82
  go_wp2_with fail
  refine (wires_any _ _ _ _ _ _ _ _ _ (by omega) (by omega) (by omega)).mono ?_; rintro e w2 ⟨rfl, u⟩
  go_wp2_with (first | (go_at_call 50; refine (within_any _ _ _ _).mono ?_; rintro e w' ⟨rfl, rfl⟩))
  go_ret
  exact ⟨rfl, u⟩
theorem IsCircuit_1_enters (args : Array Value) (W : World) : (callFunc 82 args).run Try.prog W = .ok (.enter 82 args) W :=
  enters Try.func82 (by kernel_rfl) (by kernel_rfl) args W
set_option maxHeartbeats 8000000 in
set_option maxRecDepth 100000 in
theorem IsCircuit_any (i0 i1 : Int) (ga : Option Addr) (gn gc : Nat) (G : List Int) (oa : Option Addr) (on oc : Nat) (O : List Int) (w : World) (hG : Flat 3 w ga gn gc G) (hO : Ints w oa on oc O) :
    Calls Try.prog 55 #[.agg #[.int .i64 i0, .int .i64 i1, .slice ga gn gc, .slice oa on oc]] w fun e w' => e = .returned (.bool (ciB i0 i1 gn G O)) ∧ Below w.heap.size w w' := by
  have V0 : Below w.heap.size w (w.alloc (.cells #[.int .i64 i0, .int .i64 i1, .slice ga gn gc, .slice oa on oc] 28)) := (Below.refl _ _).alloc (Nat.le_refl _) _
  have B0 : Blk (w.alloc (.cells #[.int .i64 i0, .int .i64 i1, .slice ga gn gc, .slice oa on oc] 28)) w.heap.size 28 #[.int .i64 i0, .int .i64 i1, .slice ga gn gc, .slice oa on oc] := Blk.new w _ _
  have hgl := hG.le
  have hol := hO.le
  unfold ciB
  rw [← hO.len]
  cases h2 : inB i0 0 20
  · simp only [Bool.false_and]
    go_enter Try.func55, Try.ntmps55
    go_wp2_with (first | (go_at_call 50; refine (within_any _ _ _ _).mono ?_; rintro e w' ⟨rfl, rfl⟩))
    go_ret
    exact ⟨rfl, V0⟩
  cases h3 : inB i1 0 20
  · simp only [Bool.false_and, Bool.and_false]
    go_enter Try.func55, Try.ntmps55
    go_wp2_with (first | (go_at_call 50; refine (within_any _ _ _ _).mono ?_; rintro e w' ⟨rfl, rfl⟩))
    go_ret
    exact ⟨rfl, V0⟩
  by_cases h4 : gn ≤ 300
  case neg =>
    rw [decide_eq_false h4]
    simp only [Bool.false_and, Bool.and_false]
    have h4' : (300 : Int) < (gn : Int) := by omega
    clear h4
    go_enter Try.func55, Try.ntmps55
    go_wp2_with (first | (go_at_call 50; refine (within_any _ _ _ _).mono ?_; rintro e w' ⟨rfl, rfl⟩))
    go_ret
    exact ⟨rfl, V0⟩
  by_cases h5 : on ≤ 40
  case neg =>
    rw [decide_eq_false h5]
    simp only [Bool.false_and, Bool.and_false]
    have h5' : (40 : Int) < (on : Int) := by omega
    clear h5
    have h4' : ¬ (300 : Int) < (gn : Int) := by omega
    go_enter Try.func55, Try.ntmps55
    go_wp2_with (first | (go_at_call 50; refine (within_any _ _ _ _).mono ?_; rintro e w' ⟨rfl, rfl⟩))
    go_ret
    exact ⟨rfl, V0⟩
  rw [decide_eq_true h4, decide_eq_true h5]
  simp only [Bool.true_and]
  obtain ⟨j1, j1'⟩ := inB_true h2
  obtain ⟨j2, j2'⟩ := inB_true h3
  go_enter Try.func55, Try.ntmps55
  go_wp2_with (first | (go_at_call 50; refine (within_any _ _ _ _).mono ?_; rintro e w' ⟨rfl, rfl⟩))
  go_loopw [30] (fun v wr => ∃ k : Nat, k ≤ gn ∧ v = .int .i64 k ∧ (∀ i, i < k → gbAt (i0 + i1) G i = true) ∧ Below w.heap.size w wr ∧ Blk wr w.heap.size 28 #[.int .i64 i0, .int .i64 i1, .slice ga gn gc, .slice oa on oc]) (fun v _ => gn - (intOf v).toNat)
  case atStart => exact ⟨0, Nat.zero_le _, rfl, fun i hi => absurd hi (by omega), V0, B0⟩
  case round =>
    obtain ⟨k, hk, rfl, hj, hbel, hB⟩ := hrel
    have HJ := Lib.hid hj
    clear hj B0 V0
    by_cases hlt : k < gn
    · obtain ⟨g, o, rfl, hc⟩ := (hG.below hbel).at (by omega)
      have c0 : wr.cell? ⟨g, o + k * 3, none⟩ = some (.int .i64 (G.getD (k * 3) 0)) := hc (k * 3) (by omega)
      have c1 : wr.cell? ⟨g, o + k * 3 + 1, none⟩ = some (.int .i64 (G.getD (k * 3 + 1) 0)) := by have := hc (k * 3 + 1) (by omega); simpa only [Nat.add_assoc] using this
      have c2 : wr.cell? ⟨g, o + k * 3 + 2, none⟩ = some (.int .i64 (G.getD (k * 3 + 2) 0)) := by have := hc (k * 3 + 2) (by omega); simpa only [Nat.add_assoc] using this
      clear hc
      have HGa : Hid (gbAt (i0 + i1) G k = gbB (G.getD (k * 3) 0) (G.getD (k * 3 + 1) 0) (G.getD (k * 3 + 2) 0) (i0 + i1 + k)) := rfl
      generalize G.getD (k * 3) 0 = kd at *
      generalize G.getD (k * 3 + 1) 0 = ka at *
      generalize G.getD (k * 3 + 2) 0 = kb at *
      have x2 : wr.cell? ⟨w.heap.size, 2, none⟩ = some (.slice (some ⟨g, o, none⟩) gn gc) := hB.cell 2
      go_wp2
      have V2 : Below w.heap.size w (wr.alloc (.cells #[.int .i64 kd, .int .i64 ka, .int .i64 kb] 90)) := hbel.alloc hbel.size _
      have Bg : Blk (wr.alloc (.cells #[.int .i64 kd, .int .i64 ka, .int .i64 kb] 90)) wr.heap.size 90 #[.int .i64 kd, .int .i64 ka, .int .i64 kb] := Blk.new wr _ _
      have B2 := hB.alloc (.cells #[.int .i64 kd, .int .i64 ka, .int .i64 kb] 90)
      clear x2 c0 c1 c2 hB hbel
      generalize (wr.alloc (.cells #[.int .i64 kd, .int .i64 ka, .int .i64 kb] 90)) = w2 at *
      have y0 : w2.cell? ⟨wr.heap.size, 0, none⟩ = some (.int .i64 kd) := Bg.cell 0
      have y1 : w2.cell? ⟨wr.heap.size, 1, none⟩ = some (.int .i64 ka) := Bg.cell 1
      have y2 : w2.cell? ⟨wr.heap.size, 2, none⟩ = some (.int .i64 kb) := Bg.cell 2
      have x0 : w2.cell? ⟨w.heap.size, 0, none⟩ = some (.int .i64 i0) := B2.cell 0
      have x1 : w2.cell? ⟨w.heap.size, 1, none⟩ = some (.int .i64 i1) := B2.cell 1
      have x2 : w2.cell? ⟨w.heap.size, 2, none⟩ = some (.slice (some ⟨g, o, none⟩) gn gc) := B2.cell 2
      have x3 : w2.cell? ⟨w.heap.size, 3, none⟩ = some (.slice oa on oc) := B2.cell 3
      have t1 : IntKind.i64.wrap (i0 + i1 + (k : Int)) = i0 + i1 + k := IntWalk.i64_in _ (by omega)
      go_region_held3 (fun W => W.cell? ⟨wr.heap.size, 0, none⟩ = some (.int .i64 kd) ∧ W.cell? ⟨wr.heap.size, 1, none⟩ = some (.int .i64 ka) ∧ W.cell? ⟨wr.heap.size, 2, none⟩ = some (.int .i64 kb) ∧ W.cell? ⟨w.heap.size, 0, none⟩ = some (.int .i64 i0) ∧ W.cell? ⟨w.heap.size, 1, none⟩ = some (.int .i64 i1) ∧ W.cell? ⟨w.heap.size, 2, none⟩ = some (.slice (some ⟨g, o, none⟩) gn gc) ∧ W.cell? ⟨w.heap.size, 3, none⟩ = some (.slice oa on oc))
        (first | go_keep | exact ⟨keepC u4 (keepC u3 y0), keepC u4 (keepC u3 y1), keepC u4 (keepC u3 y2), keepC u4 (keepC u3 x0), keepC u4 (keepC u3 x1), keepC u4 (keepC u3 x2), keepC u4 (keepC u3 x3)⟩ | exact ⟨keepC u3 y0, keepC u3 y1, keepC u3 y2, keepC u3 x0, keepC u3 x1, keepC u3 x2, keepC u3 x3⟩)
        (first | (go_at_call 80; refine (inputs_any _ _ _ _ _ _ _ _ _ (by omega) (by omega)).mono ?_; rintro e w3 ⟨rfl, u3⟩) | (go_at_call 79; refine (gateOk_any _ _ _ _ _ (by omega) (by omega)).mono ?_; rintro e w4 ⟨rfl, u4⟩))
      all_goals have u5 : Below w2.heap.size w2 w4 := (Below.refl _ _).drew.trans (u3.trans (u4.mono u3.size))
      all_goals have V5 := V2.trans (u5.mono V2.size)
      all_goals have B5 := B2.below u5
      all_goals clear y0 y1 y2 x0 x1 x2 x3 u3 u4 u5 B2 Bg V2 t1
      all_goals cases hb : gbB kd ka kb (i0 + i1 + k)
      · have HB := Lib.hid (gbsB_no hlt (HGa.out.trans hb))
        go_wp2
        go_ret
        exact ⟨ret_bool (by rw [HB.out, Bool.false_and]), V5⟩
      · have HB := Lib.hid (HGa.out.trans hb)
        go_wp2
        go_roundw
        case rel => exact ⟨k + 1, by omega, by go_num, fun i hi => by
          by_cases e : i = k
          · subst e; exact HB.out
          · exact HJ.out i (by omega), V5, B5⟩
        case measure => simp [intOf]; omega
    · obtain rfl : k = gn := by omega
      have HGY := Lib.hid (gbsB_yes HJ.out)
      have z1 : wr.cell? ⟨w.heap.size, 3, none⟩ = some (.slice oa on oc) := hB.cell 3
      have HAA := Lib.hid (areAll_b oa on oc O 82 #[.pointer (some ⟨w.heap.size, 0, none⟩)] (fun x => decide (0 ≤ x ∧ x ≤ i0 + i1 + k - 1)) wr (hO.below hbel) IsCircuit_1_enters
        (fun W x hb _ => IsCircuit_1_any x i0 i1 ga k gc oa on oc w.heap.size W (hB.below hb) ⟨j1, j1'⟩ ⟨j2, j2'⟩ h4))
      have HE : Hid (allB O 0 (i0 + i1 + k - 1) = O.all (fun x => decide (0 ≤ x ∧ x ≤ i0 + i1 + k - 1))) := rfl
      go_wp2_with fail
      refine HAA.out.mono ?_; rintro e w2 ⟨rfl, u2⟩
      go_wp2
      go_ret
      exact ⟨ret_bool (by rw [HGY.out, Bool.true_and, HE.out]; simp only [Bool.decide_and]), hbel.trans (u2.mono hbel.size)⟩
set_option maxHeartbeats 8000000 in
set_option maxRecDepth 100000 in
theorem ciGood_any (i0 i1 : Int) (ga : Option Addr) (gn gc : Nat) (G : List Int) (oa : Option Addr) (on oc : Nat) (O : List Int) (w : World) (hG : Flat 3 w ga gn gc G) (hO : Ints w oa on oc O) :
    Calls Try.prog 56 #[.agg #[.int .i64 i0, .int .i64 i1, .slice ga gn gc, .slice oa on oc]] w fun e w' => e = .returned (.bool (ciB i0 i1 gn G O)) ∧ Below w.heap.size w w' := by
  have V0 : Below w.heap.size w (w.alloc (.cells #[.int .i64 i0, .int .i64 i1, .slice ga gn gc, .slice oa on oc] 28)) := (Below.refl _ _).alloc (Nat.le_refl _) _
  have B0 : Blk (w.alloc (.cells #[.int .i64 i0, .int .i64 i1, .slice ga gn gc, .slice oa on oc] 28)) w.heap.size 28 #[.int .i64 i0, .int .i64 i1, .slice ga gn gc, .slice oa on oc] := Blk.new w _ _
  have hgl := hG.le
  have hol := hO.le
  unfold ciB
  rw [← hO.len]
  cases h2 : inB i0 0 20
  · simp only [Bool.false_and]
    go_enter Try.func56, Try.ntmps56
    go_wp2_with (first | (go_at_call 64; refine (l1In_any _ _ _ _).mono ?_; rintro e w' ⟨rfl, rfl⟩))
    go_ret
    exact ⟨rfl, V0⟩
  cases h3 : inB i1 0 20
  · simp only [Bool.false_and, Bool.and_false]
    go_enter Try.func56, Try.ntmps56
    go_wp2_with (first | (go_at_call 64; refine (l1In_any _ _ _ _).mono ?_; rintro e w' ⟨rfl, rfl⟩))
    go_ret
    exact ⟨rfl, V0⟩
  by_cases h4 : gn ≤ 300
  case neg =>
    rw [decide_eq_false h4]
    simp only [Bool.false_and, Bool.and_false]
    have h4' : (300 : Int) < (gn : Int) := by omega
    clear h4
    go_enter Try.func56, Try.ntmps56
    go_wp2_with (first | (go_at_call 64; refine (l1In_any _ _ _ _).mono ?_; rintro e w' ⟨rfl, rfl⟩))
    go_ret
    exact ⟨rfl, V0⟩
  by_cases h5 : on ≤ 40
  case neg =>
    rw [decide_eq_false h5]
    simp only [Bool.false_and, Bool.and_false]
    have h5' : (40 : Int) < (on : Int) := by omega
    clear h5
    have h4' : ¬ (300 : Int) < (gn : Int) := by omega
    go_enter Try.func56, Try.ntmps56
    go_wp2_with (first | (go_at_call 64; refine (l1In_any _ _ _ _).mono ?_; rintro e w' ⟨rfl, rfl⟩))
    go_ret
    exact ⟨rfl, V0⟩
  rw [decide_eq_true h4, decide_eq_true h5]
  simp only [Bool.true_and]
  obtain ⟨j1, j1'⟩ := inB_true h2
  obtain ⟨j2, j2'⟩ := inB_true h3
  go_enter Try.func56, Try.ntmps56
  go_wp2_with (first | (go_at_call 64; refine (l1In_any _ _ _ _).mono ?_; rintro e w' ⟨rfl, rfl⟩))
  go_loopw [30] (fun v wr => ∃ k : Nat, k ≤ gn ∧ v = .int .i64 k ∧ (∀ i, i < k → gbAt (i0 + i1) G i = true) ∧ Below w.heap.size w wr ∧ Blk wr w.heap.size 28 #[.int .i64 i0, .int .i64 i1, .slice ga gn gc, .slice oa on oc]) (fun v _ => gn - (intOf v).toNat)
  case atStart => exact ⟨0, Nat.zero_le _, rfl, fun i hi => absurd hi (by omega), V0, B0⟩
  case round =>
    obtain ⟨k, hk, rfl, hj, hbel, hB⟩ := hrel
    have HJ := Lib.hid hj
    clear hj B0 V0
    by_cases hlt : k < gn
    · obtain ⟨g, o, rfl, hc⟩ := (hG.below hbel).at (by omega)
      have c0 : wr.cell? ⟨g, o + k * 3, none⟩ = some (.int .i64 (G.getD (k * 3) 0)) := hc (k * 3) (by omega)
      have c1 : wr.cell? ⟨g, o + k * 3 + 1, none⟩ = some (.int .i64 (G.getD (k * 3 + 1) 0)) := by have := hc (k * 3 + 1) (by omega); simpa only [Nat.add_assoc] using this
      have c2 : wr.cell? ⟨g, o + k * 3 + 2, none⟩ = some (.int .i64 (G.getD (k * 3 + 2) 0)) := by have := hc (k * 3 + 2) (by omega); simpa only [Nat.add_assoc] using this
      clear hc
      have HGa : Hid (gbAt (i0 + i1) G k = gbB (G.getD (k * 3) 0) (G.getD (k * 3 + 1) 0) (G.getD (k * 3 + 2) 0) (i0 + i1 + k)) := rfl
      generalize G.getD (k * 3) 0 = kd at *
      generalize G.getD (k * 3 + 1) 0 = ka at *
      generalize G.getD (k * 3 + 2) 0 = kb at *
      have x2 : wr.cell? ⟨w.heap.size, 2, none⟩ = some (.slice (some ⟨g, o, none⟩) gn gc) := hB.cell 2
      go_wp2
      have V2 : Below w.heap.size w (wr.alloc (.cells #[.int .i64 kd, .int .i64 ka, .int .i64 kb] 90)) := hbel.alloc hbel.size _
      have Bg : Blk (wr.alloc (.cells #[.int .i64 kd, .int .i64 ka, .int .i64 kb] 90)) wr.heap.size 90 #[.int .i64 kd, .int .i64 ka, .int .i64 kb] := Blk.new wr _ _
      have B2 := hB.alloc (.cells #[.int .i64 kd, .int .i64 ka, .int .i64 kb] 90)
      clear x2 c0 c1 c2 hB hbel
      generalize (wr.alloc (.cells #[.int .i64 kd, .int .i64 ka, .int .i64 kb] 90)) = w2 at *
      have y0 : w2.cell? ⟨wr.heap.size, 0, none⟩ = some (.int .i64 kd) := Bg.cell 0
      have y1 : w2.cell? ⟨wr.heap.size, 1, none⟩ = some (.int .i64 ka) := Bg.cell 1
      have y2 : w2.cell? ⟨wr.heap.size, 2, none⟩ = some (.int .i64 kb) := Bg.cell 2
      have x0 : w2.cell? ⟨w.heap.size, 0, none⟩ = some (.int .i64 i0) := B2.cell 0
      have x1 : w2.cell? ⟨w.heap.size, 1, none⟩ = some (.int .i64 i1) := B2.cell 1
      have x2 : w2.cell? ⟨w.heap.size, 2, none⟩ = some (.slice (some ⟨g, o, none⟩) gn gc) := B2.cell 2
      have x3 : w2.cell? ⟨w.heap.size, 3, none⟩ = some (.slice oa on oc) := B2.cell 3
      have t1 : IntKind.i64.wrap (i0 + i1 + (k : Int)) = i0 + i1 + k := IntWalk.i64_in _ (by omega)
      go_region_held3 (fun W => W.cell? ⟨wr.heap.size, 0, none⟩ = some (.int .i64 kd) ∧ W.cell? ⟨wr.heap.size, 1, none⟩ = some (.int .i64 ka) ∧ W.cell? ⟨wr.heap.size, 2, none⟩ = some (.int .i64 kb) ∧ W.cell? ⟨w.heap.size, 0, none⟩ = some (.int .i64 i0) ∧ W.cell? ⟨w.heap.size, 1, none⟩ = some (.int .i64 i1) ∧ W.cell? ⟨w.heap.size, 2, none⟩ = some (.slice (some ⟨g, o, none⟩) gn gc) ∧ W.cell? ⟨w.heap.size, 3, none⟩ = some (.slice oa on oc))
        (first | go_keep | exact ⟨keepC u4 (keepC u3 y0), keepC u4 (keepC u3 y1), keepC u4 (keepC u3 y2), keepC u4 (keepC u3 x0), keepC u4 (keepC u3 x1), keepC u4 (keepC u3 x2), keepC u4 (keepC u3 x3)⟩ | exact ⟨keepC u3 y0, keepC u3 y1, keepC u3 y2, keepC u3 x0, keepC u3 x1, keepC u3 x2, keepC u3 x3⟩)
        (first | (go_at_call 85; refine (ciInputs_any _ _ _ _ _ _ _ _ _ (by omega) (by omega)).mono ?_; rintro e w3 ⟨rfl, u3⟩) | (go_at_call 84; refine (ciGate_any _ _ _ _ _ (by omega) (by omega)).mono ?_; rintro e w4 ⟨rfl, u4⟩))
      all_goals have u5 : Below w2.heap.size w2 w4 := (Below.refl _ _).drew.trans (u3.trans (u4.mono u3.size))
      all_goals have V5 := V2.trans (u5.mono V2.size)
      all_goals have B5 := B2.below u5
      all_goals clear y0 y1 y2 x0 x1 x2 x3 u3 u4 u5 B2 Bg V2 t1
      all_goals cases hb : gbB kd ka kb (i0 + i1 + k)
      · have HB := Lib.hid (gbsB_no hlt (HGa.out.trans hb))
        go_wp2
        go_ret
        exact ⟨ret_bool (by rw [HB.out, Bool.false_and]), V5⟩
      · have HB := Lib.hid (HGa.out.trans hb)
        go_wp2
        go_roundw
        case rel => exact ⟨k + 1, by omega, by go_num, fun i hi => by
          by_cases e : i = k
          · subst e; exact HB.out
          · exact HJ.out i (by omega), V5, B5⟩
        case measure => simp [intOf]; omega
    · obtain rfl : k = gn := by omega
      have HGY := Lib.hid (gbsB_yes HJ.out)
      have x0 : wr.cell? ⟨w.heap.size, 0, none⟩ = some (.int .i64 i0) := hB.cell 0
      have x1 : wr.cell? ⟨w.heap.size, 1, none⟩ = some (.int .i64 i1) := hB.cell 1
      have x2 : wr.cell? ⟨w.heap.size, 2, none⟩ = some (.slice ga k gc) := hB.cell 2
      have x3 : wr.cell? ⟨w.heap.size, 3, none⟩ = some (.slice oa on oc) := hB.cell 3
      have t1 : IntKind.i64.wrap (i0 + i1 + (k : Int) - 1) = i0 + i1 + k - 1 := IntWalk.i64_in _ (by omega)
      go_wp2
      go_region_held3 (fun W => W.cell? ⟨w.heap.size, 0, none⟩ = some (.int .i64 i0) ∧ W.cell? ⟨w.heap.size, 1, none⟩ = some (.int .i64 i1) ∧ W.cell? ⟨w.heap.size, 2, none⟩ = some (.slice ga k gc) ∧ W.cell? ⟨w.heap.size, 3, none⟩ = some (.slice oa on oc))
        (first | go_keep | exact ⟨keepC u4 (keepC u3 x0), keepC u4 (keepC u3 x1), keepC u4 (keepC u3 x2), keepC u4 (keepC u3 x3)⟩ | exact ⟨keepC u3 x0, keepC u3 x1, keepC u3 x2, keepC u3 x3⟩)
        (first | (go_at_call 87; refine (ciWires_any _ _ _ _ _ _ _ _ _ (by omega) (by omega) (by omega)).mono ?_; rintro e w3 ⟨rfl, u3⟩) | (go_at_call 86; refine (l1All_any _ _ _ O _ _ _ ((hO.below hbel).drew.below u3)).mono ?_; rintro e w4 ⟨rfl, u4⟩; replace u4 := below_of_quiet u4))
      all_goals have u5 : Below wr.heap.size wr w4 := (Below.refl _ _).drew.trans (u3.trans (u4.mono u3.size))
      all_goals go_wp2
      all_goals go_ret
      all_goals exact ⟨ret_bool (by rw [HGY.out, Bool.true_and]), hbel.trans (u5.mono hbel.size)⟩
end Go.Proofs.Ytmbheimjphhamaa
namespace Go.Proofs.Ytmbheimjphhamaa
open Go.RowKit
set_option maxHeartbeats 8000000 in
set_option maxRecDepth 100000 in
theorem valid_yes (i0 i1 : Int) (ga : Option Addr) (gn gc : Nat) (G : List Int) (oa : Option Addr) (on oc : Nat) (O : List Int) (w : World) (hG : Flat 3 w ga gn gc G) (hO : Ints w oa on oc O) (hv : ciB i0 i1 gn G O = true) :
    Calls Try.prog 68 #[.agg #[.int .i64 i0, .int .i64 i1, .slice ga gn gc, .slice oa on oc]] w fun e w' => e = .returned (.tuple #[.agg #[.int .i64 i0, .int .i64 i1, .slice ga gn gc, .slice oa on oc], .bool true]) ∧ Below w.heap.size w w' := by
  have V2 : Below w.heap.size w ((w.alloc (.cells #[.int .i64 i0, .int .i64 i1, .slice ga gn gc, .slice oa on oc] 28)).alloc (.cells #[.int .i64 0, .int .i64 0, .slice none 0 0, .slice none 0 0] 28)) := ((Below.refl _ _).alloc (Nat.le_refl _) _).alloc (by simp) _
  have P2 : Blk ((w.alloc (.cells #[.int .i64 i0, .int .i64 i1, .slice ga gn gc, .slice oa on oc] 28)).alloc (.cells #[.int .i64 0, .int .i64 0, .slice none 0 0, .slice none 0 0] 28)) w.heap.size 28 #[.int .i64 i0, .int .i64 i1, .slice ga gn gc, .slice oa on oc] := (Blk.new w _ _).alloc _
  have R2 : Blk ((w.alloc (.cells #[.int .i64 i0, .int .i64 i1, .slice ga gn gc, .slice oa on oc] 28)).alloc (.cells #[.int .i64 0, .int .i64 0, .slice none 0 0, .slice none 0 0] 28)) (w.heap.size + 1) 28 #[.int .i64 0, .int .i64 0, .slice none 0 0, .slice none 0 0] := by simpa using (Blk.new (w.alloc (.cells #[.int .i64 i0, .int .i64 i1, .slice ga gn gc, .slice oa on oc] 28)) 28 #[.int .i64 0, .int .i64 0, .slice none 0 0, .slice none 0 0])
  go_enter Try.func68, Try.ntmps68
  go_wp2_with fail
  refine (IsCircuit_any _ _ _ _ _ G _ _ _ O _ (hG.below V2) (hO.below V2)).mono ?_; rintro e w3 ⟨rfl, u3⟩
  rw [hv]
  have V3 := V2.trans (u3.mono V2.size)
  have P3 := P2.below u3
  have R3 := R2.below u3
  have x0 : w3.cell? ⟨w.heap.size, 0, none⟩ = some (.int .i64 i0) := P3.cell 0
  have x1 : w3.cell? ⟨w.heap.size, 1, none⟩ = some (.int .i64 i1) := P3.cell 1
  have x2 : w3.cell? ⟨w.heap.size, 2, none⟩ = some (.slice ga gn gc) := P3.cell 2
  have x3 : w3.cell? ⟨w.heap.size, 3, none⟩ = some (.slice oa on oc) := P3.cell 3
  have r0 : w3.cell? ⟨w.heap.size + 1, 0, none⟩ = some (.int .i64 0) := R3.cell 0
  have q0 : w3.frozen? ⟨w.heap.size + 1, 0, none⟩ = false := R3.frozen 0
  have r1 : w3.cell? ⟨w.heap.size + 1, 1, none⟩ = some (.int .i64 0) := R3.cell 1
  have q1 : w3.frozen? ⟨w.heap.size + 1, 1, none⟩ = false := R3.frozen 1
  have r2 : w3.cell? ⟨w.heap.size + 1, 2, none⟩ = some (.slice none 0 0) := R3.cell 2
  have q2 : w3.frozen? ⟨w.heap.size + 1, 2, none⟩ = false := R3.frozen 2
  have r3 : w3.cell? ⟨w.heap.size + 1, 3, none⟩ = some (.slice none 0 0) := R3.cell 3
  have q3 : w3.frozen? ⟨w.heap.size + 1, 3, none⟩ = false := R3.frozen 3
  clear P2 R2 V2 u3 P3 R3
  go_wp2
  have GG := (((((Only.refl [w.heap.size + 1] w3).setCell ⟨w.heap.size + 1, 0, none⟩ (.int .i64 i0) (by simp)).setCell ⟨w.heap.size + 1, 1, none⟩ (.int .i64 i1) (by simp)).setCell ⟨w.heap.size + 1, 2, none⟩ (.slice ga gn gc) (by simp)).setCell ⟨w.heap.size + 1, 3, none⟩ (.slice oa on oc) (by simp))
  exact bodyPost_ret (v := .tuple #[.agg #[.int .i64 i0, .int .i64 i1, .slice ga gn gc, .slice oa on oc], .bool true]) (by simp [results, Try.results68, go_sem, r0, r1, r2, r3]) rfl ⟨rfl, V3.trans (GG.below V3.size (by simp))⟩
set_option maxHeartbeats 8000000 in
set_option maxRecDepth 100000 in
theorem ciIf_yes (i0 i1 : Int) (ga : Option Addr) (gn gc : Nat) (G : List Int) (oa : Option Addr) (on oc : Nat) (O : List Int) (w : World) (hG : Flat 3 w ga gn gc G) (hO : Ints w oa on oc O) (hv : ciB i0 i1 gn G O = true) :
    Calls Try.prog 71 #[.agg #[.int .i64 i0, .int .i64 i1, .slice ga gn gc, .slice oa on oc]] w fun e w' => e = .returned (.tuple #[.agg #[.int .i64 i0, .int .i64 i1, .slice ga gn gc, .slice oa on oc], .bool true]) ∧ Below w.heap.size w w' := by
  have V2 : Below w.heap.size w ((w.alloc (.cells #[.int .i64 i0, .int .i64 i1, .slice ga gn gc, .slice oa on oc] 28)).alloc (.cells #[.int .i64 0, .int .i64 0, .slice none 0 0, .slice none 0 0] 28)) := ((Below.refl _ _).alloc (Nat.le_refl _) _).alloc (by simp) _
  have P2 : Blk ((w.alloc (.cells #[.int .i64 i0, .int .i64 i1, .slice ga gn gc, .slice oa on oc] 28)).alloc (.cells #[.int .i64 0, .int .i64 0, .slice none 0 0, .slice none 0 0] 28)) w.heap.size 28 #[.int .i64 i0, .int .i64 i1, .slice ga gn gc, .slice oa on oc] := (Blk.new w _ _).alloc _
  have R2 : Blk ((w.alloc (.cells #[.int .i64 i0, .int .i64 i1, .slice ga gn gc, .slice oa on oc] 28)).alloc (.cells #[.int .i64 0, .int .i64 0, .slice none 0 0, .slice none 0 0] 28)) (w.heap.size + 1) 28 #[.int .i64 0, .int .i64 0, .slice none 0 0, .slice none 0 0] := by simpa using (Blk.new (w.alloc (.cells #[.int .i64 i0, .int .i64 i1, .slice ga gn gc, .slice oa on oc] 28)) 28 #[.int .i64 0, .int .i64 0, .slice none 0 0, .slice none 0 0])
  go_enter Try.func71, Try.ntmps71
  go_wp2_with fail
  refine (ciGood_any _ _ _ _ _ G _ _ _ O _ (hG.below V2) (hO.below V2)).mono ?_; rintro e w3 ⟨rfl, u3⟩
  rw [hv]
  have V3 := V2.trans (u3.mono V2.size)
  have P3 := P2.below u3
  have R3 := R2.below u3
  have x0 : w3.cell? ⟨w.heap.size, 0, none⟩ = some (.int .i64 i0) := P3.cell 0
  have x1 : w3.cell? ⟨w.heap.size, 1, none⟩ = some (.int .i64 i1) := P3.cell 1
  have x2 : w3.cell? ⟨w.heap.size, 2, none⟩ = some (.slice ga gn gc) := P3.cell 2
  have x3 : w3.cell? ⟨w.heap.size, 3, none⟩ = some (.slice oa on oc) := P3.cell 3
  have r0 : w3.cell? ⟨w.heap.size + 1, 0, none⟩ = some (.int .i64 0) := R3.cell 0
  have q0 : w3.frozen? ⟨w.heap.size + 1, 0, none⟩ = false := R3.frozen 0
  have r1 : w3.cell? ⟨w.heap.size + 1, 1, none⟩ = some (.int .i64 0) := R3.cell 1
  have q1 : w3.frozen? ⟨w.heap.size + 1, 1, none⟩ = false := R3.frozen 1
  have r2 : w3.cell? ⟨w.heap.size + 1, 2, none⟩ = some (.slice none 0 0) := R3.cell 2
  have q2 : w3.frozen? ⟨w.heap.size + 1, 2, none⟩ = false := R3.frozen 2
  have r3 : w3.cell? ⟨w.heap.size + 1, 3, none⟩ = some (.slice none 0 0) := R3.cell 3
  have q3 : w3.frozen? ⟨w.heap.size + 1, 3, none⟩ = false := R3.frozen 3
  clear P2 R2 V2 u3 P3 R3
  go_wp2
  have GG := (((((Only.refl [w.heap.size + 1] w3).setCell ⟨w.heap.size + 1, 0, none⟩ (.int .i64 i0) (by simp)).setCell ⟨w.heap.size + 1, 1, none⟩ (.int .i64 i1) (by simp)).setCell ⟨w.heap.size + 1, 2, none⟩ (.slice ga gn gc) (by simp)).setCell ⟨w.heap.size + 1, 3, none⟩ (.slice oa on oc) (by simp))
  exact bodyPost_ret (v := .tuple #[.agg #[.int .i64 i0, .int .i64 i1, .slice ga gn gc, .slice oa on oc], .bool true]) (by simp [results, Try.results71, go_sem, r0, r1, r2, r3]) rfl ⟨rfl, V3.trans (GG.below V3.size (by simp))⟩
set_option maxHeartbeats 8000000 in
set_option maxRecDepth 100000 in
theorem ciIf_no (i0 i1 : Int) (ga : Option Addr) (gn gc : Nat) (G : List Int) (oa : Option Addr) (on oc : Nat) (O : List Int) (w : World) (hG : Flat 3 w ga gn gc G) (hO : Ints w oa on oc O) (hv : ciB i0 i1 gn G O = false) :
    Calls Try.prog 71 #[.agg #[.int .i64 i0, .int .i64 i1, .slice ga gn gc, .slice oa on oc]] w fun e w' => e = .returned (.tuple #[.agg #[.int .i64 0, .int .i64 0, .slice none 0 0, .slice none 0 0], .bool false]) ∧ Below w.heap.size w w' := by
  have V2 : Below w.heap.size w ((w.alloc (.cells #[.int .i64 i0, .int .i64 i1, .slice ga gn gc, .slice oa on oc] 28)).alloc (.cells #[.int .i64 0, .int .i64 0, .slice none 0 0, .slice none 0 0] 28)) := ((Below.refl _ _).alloc (Nat.le_refl _) _).alloc (by simp) _
  have P2 : Blk ((w.alloc (.cells #[.int .i64 i0, .int .i64 i1, .slice ga gn gc, .slice oa on oc] 28)).alloc (.cells #[.int .i64 0, .int .i64 0, .slice none 0 0, .slice none 0 0] 28)) w.heap.size 28 #[.int .i64 i0, .int .i64 i1, .slice ga gn gc, .slice oa on oc] := (Blk.new w _ _).alloc _
  have R2 : Blk ((w.alloc (.cells #[.int .i64 i0, .int .i64 i1, .slice ga gn gc, .slice oa on oc] 28)).alloc (.cells #[.int .i64 0, .int .i64 0, .slice none 0 0, .slice none 0 0] 28)) (w.heap.size + 1) 28 #[.int .i64 0, .int .i64 0, .slice none 0 0, .slice none 0 0] := by simpa using (Blk.new (w.alloc (.cells #[.int .i64 i0, .int .i64 i1, .slice ga gn gc, .slice oa on oc] 28)) 28 #[.int .i64 0, .int .i64 0, .slice none 0 0, .slice none 0 0])
  go_enter Try.func71, Try.ntmps71
  go_wp2_with fail
  refine (ciGood_any _ _ _ _ _ G _ _ _ O _ (hG.below V2) (hO.below V2)).mono ?_; rintro e w3 ⟨rfl, u3⟩
  rw [hv]
  have V3 := V2.trans (u3.mono V2.size)
  have P3 := P2.below u3
  have R3 := R2.below u3
  have r0 : w3.cell? ⟨w.heap.size + 1, 0, none⟩ = some (.int .i64 0) := R3.cell 0
  have q0 : w3.frozen? ⟨w.heap.size + 1, 0, none⟩ = false := R3.frozen 0
  have r1 : w3.cell? ⟨w.heap.size + 1, 1, none⟩ = some (.int .i64 0) := R3.cell 1
  have q1 : w3.frozen? ⟨w.heap.size + 1, 1, none⟩ = false := R3.frozen 1
  have r2 : w3.cell? ⟨w.heap.size + 1, 2, none⟩ = some (.slice none 0 0) := R3.cell 2
  have q2 : w3.frozen? ⟨w.heap.size + 1, 2, none⟩ = false := R3.frozen 2
  have r3 : w3.cell? ⟨w.heap.size + 1, 3, none⟩ = some (.slice none 0 0) := R3.cell 3
  have q3 : w3.frozen? ⟨w.heap.size + 1, 3, none⟩ = false := R3.frozen 3
  clear P2 R2 V2 u3 P3 R3
  go_wp2
  have GG := (((((Only.refl [w.heap.size + 1] w3).setCell ⟨w.heap.size + 1, 0, none⟩ (.int .i64 0) (by simp)).setCell ⟨w.heap.size + 1, 1, none⟩ (.int .i64 0) (by simp)).setCell ⟨w.heap.size + 1, 2, none⟩ (.slice none 0 0) (by simp)).setCell ⟨w.heap.size + 1, 3, none⟩ (.slice none 0 0) (by simp))
  exact bodyPost_ret (v := .tuple #[.agg #[.int .i64 0, .int .i64 0, .slice none 0 0, .slice none 0 0], .bool false]) (by simp [results, Try.results71, go_sem, r0, r1, r2, r3]) rfl ⟨rfl, V3.trans (GG.below V3.size (by simp))⟩
end Go.Proofs.Ytmbheimjphhamaa
namespace Go.Proofs.Ytmbheimjphhamaa
open Go.RowKit
/-- Numbers whose digests do not wrap. -/
def WB (l : List Int) : Prop := ∀ x ∈ l, -4000000000 ≤ x ∧ x ≤ 4000000000
theorem WB.app {l l' : List Int} (h : WB l) (h' : WB l') : WB (l ++ l') := fun x hx => by
  rcases List.mem_append.1 hx with h1 | h1
  · exact h x h1
  · exact h' x h1
theorem WB.one {x : Int} (h : -4000000000 ≤ x ∧ x ≤ 4000000000) : WB [x] := fun y hy => by simp at hy; subst hy; exact h
theorem WB.cons {x : Int} {l : List Int} (h : -4000000000 ≤ x ∧ x ≤ 4000000000) (h' : WB l) : WB (x :: l) := fun z hz => by
  rcases List.mem_cons.1 hz with rfl | hz
  · exact h
  · exact h' z hz
theorem WB.nil : WB [] := fun x hx => by cases hx
set_option maxHeartbeats 1000000 in
theorem Clone_any (a : Option Addr) (n c : Nat) (l : List Int) (w : World) (h : Ints w a n c l) (hs : n ≤ 10000000) :
    Calls Try.prog 42 #[.slice a n c] w fun e w' => ∃ a' c', e = .returned (.slice a' n c') ∧ Own w' w.heap.size a' n c' l ∧ Below w.heap.size w w' := by
  have hnil := fun (W : World) => Lib.run_eql_slice_nil W 26 3 a n c 0 0 Try.underlying26
  have hn := h.le
  cases a with
  | none =>
    have hc : c = 0 := h.2.2.2.1 rfl
    have hn0 : n = 0 := by have := h.2.1; omega
    subst hc; subst hn0
    have hl : l = [] := List.eq_nil_of_length_eq_zero h.len.symm
    subst hl
    go_enter Try.func42, Try.ntmps42
    go_wp2
    go_ret
    exact ⟨_, _, rfl, Own.nil0 _ _ _, Below.refl _ _⟩
  | some y =>
    go_enter Try.func42, Try.ntmps42
    go_wp2_with (at_builtin; refine wpList_appI _ rfl _ _ rfl w.heap.size _ 0 0 [] rfl (Own.nil0 _ _ _) _ n c l rfl (h.alloc _) (by omega) (by simp) ?_)
    intro a2 c2 w1 own hb _
    try simp only [Nat.zero_add, List.nil_append] at own
    have hb1 := ((Below.refl _ w).alloc (Nat.le_refl _) _).trans hb
    clear hb
    go_wp2
    go_ret
    exact ⟨_, _, ret_slice (by omega), own, hb1⟩
theorem snoc_getD (l l' : List Int) (k : Nat) (h : k < l.length) : (l ++ l').getD k 0 = l.getD k 0 := by simp [List.getD, List.getElem?_append_left h]
theorem mem_range {l : List Int} (h : WB l) (k : Nat) (hk : k < l.length) : -4000000000 ≤ l.getD k 0 ∧ l.getD k 0 ≤ 4000000000 := h _ (getD_mem l k hk)
end Go.Proofs.Ytmbheimjphhamaa
