/- Append of rows of tagged values. -/
import Derived.Test.YtjgbhokilagmoaaApp2
import Derived.Test.YtjgbhokilagmoaaKinds
namespace Go.Proofs.Ytjgbhokilagmoaa
open Go.RowKit
theorem info_TaggedU : (Try.prog.info? 52).map (fun i => (i.zero, i.size, i.bytes)) = some (some (.agg #[.int .i64 0, .int .i64 0]), 2, 16) := by kernel_rfl
section
variable {T E sz bytes : Nat} {z : Value} {w : World} {o : Oper} {act : Act} {Q : Exit → Act → World → Prop}
theorem wp_appU {K : Act → World → Prop} (hu : Try.prog.underlying T = some (.slice E)) (hinfo : (Try.prog.info? E).map (fun i => (i.zero, i.size, i.bytes)) = some (some z, sz, bytes)) (hzs : z.cells.size = sz) (hsz : 0 < sz)
    (s x : Operand) (ho : o.op = .call { callee := .builtin .append, args := #[s, x], argTypes := #[T, T] })
    (b : Nat) (a : Option Addr) (n c : Nat) (xs : List Value) (hs : act.eval s = .slice a n c) (hown : OwnC w b a n c E sz xs)
    (a' : Option Addr) (m c' : Nat) (xs' : List Value) (hx : act.eval x = .slice a' m c') (hrow : RowC w a' m c' sz xs') (h1 : ∀ u ∈ xs', u.oneCell' = true)
    (hlen : (n + m) * bytes ≤ 140737488355328) (hmax : n + m ≤ maxLen) (hbase : b ≤ w.heap.size)
    (h : ∀ a2 c2 w', OwnC w' b a2 (n + m) c2 E sz (xs ++ xs') → Below b w w' → w.grownBy w' (rowOf a c) → Moved w a c a2 c2 → K (act.put o.dst (.slice a2 (n + m) c2)) w') : o.wp Try.prog act w K Q := by
  obtain ⟨i0, hi, hz0, hz1, hz2⟩ := info_parts hinfo
  obtain ⟨a2, c2, w', hrun, h1, h2, _, h9⟩ := run_app2 w T o.type b E i0 z sz bytes hu hi hz0 hz1 hz2 hzs hsz a n c _ hown a' m c' _ hrow h1 hlen hmax hbase
  unfold Oper.wp
  simp [execOp, ho, resolve, invoke, builtin, hs, hx, hrun, Result.andThen]
  exact h a2 c2 w' h1 (below_grownBy h2 hbase (fun x hc hx => (hown.range x hc hx).1)) h2 h9
theorem wpList_appU {ops : Array Oper} {rest : List Oper} (hu : Try.prog.underlying T = some (.slice E)) (hinfo : (Try.prog.info? E).map (fun i => (i.zero, i.size, i.bytes)) = some (some z, sz, bytes)) (hzs : z.cells.size = sz) (hsz : 0 < sz) (hgd : o.guard = none)
    (s x : Operand) (ho : o.op = .call { callee := .builtin .append, args := #[s, x], argTypes := #[T, T] })
    (b : Nat) (a : Option Addr) (n c : Nat) (xs : List Value) (hs : act.eval s = .slice a n c) (hown : OwnC w b a n c E sz xs)
    (a' : Option Addr) (m c' : Nat) (xs' : List Value) (hx : act.eval x = .slice a' m c') (hrow : RowC w a' m c' sz xs') (h1 : ∀ u ∈ xs', u.oneCell' = true)
    (hlen : (n + m) * bytes ≤ 140737488355328) (hmax : n + m ≤ maxLen) (hbase : b ≤ w.heap.size)
    (h : ∀ a2 c2 w', OwnC w' b a2 (n + m) c2 E sz (xs ++ xs') → Below b w w' → w.grownBy w' (rowOf a c) → Moved w a c a2 c2 → wpList Try.prog ops Q rest (act.put o.dst (.slice a2 (n + m) c2)) w') : wpList Try.prog ops Q (o :: rest) act w :=
  wpList_plain hgd fun _ hK => wp_appU hu hinfo hzs hsz s x ho b a n c xs hs hown a' m c' xs' hx hrow h1 hlen hmax hbase fun a2 c2 w' h1 h2 h3 h5 => hK _ _ (h a2 c2 w' h1 h2 h3 h5)
end
section
variable {w : World} {o : Oper} {act : Act} {Q : Exit → Act → World → Prop}
theorem wpList_appTg {ops : Array Oper} {rest : List Oper} (hgd : o.guard = none)
    (s x : Operand) (ho : o.op = .call { callee := .builtin .append, args := #[s, x], argTypes := #[44, 44] })
    (b : Nat) (a : Option Addr) (n c : Nat) (xs : List Value) (hs : act.eval s = .slice a n c) (hown : OwnC w b a n c 52 2 xs)
    (a' : Option Addr) (m c' : Nat) (xs' : List Value) (hx : act.eval x = .slice a' m c') (hrow : RowC w a' m c' 2 xs') (h1 : ∀ u ∈ xs', u.oneCell' = true)
    (hlen : n + m ≤ 1000000) (hbase : b ≤ w.heap.size)
    (h : ∀ a2 c2 w', OwnC w' b a2 (n + m) c2 52 2 (xs ++ xs') → Below b w w' → w.grownBy w' (rowOf a c) → Moved w a c a2 c2 → wpList Try.prog ops Q rest (act.put o.dst (.slice a2 (n + m) c2)) w') : wpList Try.prog ops Q (o :: rest) act w :=
  wpList_appU Try.underlying44 info_TaggedU rfl (by decide) hgd s x ho b a n c xs hs hown a' m c' xs' hx hrow h1 (by omega) (by unfold maxLen; omega) hbase h
end
theorem OwnC.appTg {w' : World} {b a2 n c2} {l l2 : List Int} (h : OwnC w' b a2 (n + 1) c2 52 2 (l.map (Value.int .i64) ++ l2.map (Value.int .i64))) : OwnF 2 52 w' b a2 (n + 1) c2 (l ++ l2) := by
  unfold OwnF; rw [List.map_append]; exact h
end Go.Proofs.Ytjgbhokilagmoaa
