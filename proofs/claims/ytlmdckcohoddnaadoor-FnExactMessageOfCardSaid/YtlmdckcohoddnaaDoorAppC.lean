/- Append of rows of structs, and of rows of rows. -/
import Derived.Test.YtlmdckcohoddnaaDoorPl
namespace Go.Proofs.YtlmdckcohoddnaaDoor
open Go.RowKit
section
variable {T E sz bytes : Nat} {z : Value} {w : World} {o : Oper} {act : Act} {Q : Exit → Act → World → Prop}
theorem wp_appC {K : Act → World → Prop} (hu : Tryd.prog.underlying T = some (.slice E)) (hinfo : (Tryd.prog.info? E).map (fun i => (i.zero, i.size, i.bytes)) = some (some z, sz, bytes)) (hzs : z.cells.size = sz) (hsz : 0 < sz)
    (s x : Operand) (ho : o.op = .call { callee := .builtin .append, args := #[s, x], argTypes := #[T, T] })
    (b : Nat) (a : Option Addr) (n c : Nat) (xs : List Value) (hs : act.eval s = .slice a n c) (hown : OwnC w b a n c E sz xs)
    (a' : Option Addr) (m c' : Nat) (xs' : List Value) (hx : act.eval x = .slice a' m c') (hrow : RowC w a' m c' sz xs') (h1 : ∀ u ∈ xs', u.oneCell' = true)
    (hlen : (n + m) * bytes ≤ 140737488355328) (hmax : n + m ≤ maxLen) (hbase : b ≤ w.heap.size)
    (h : ∀ a2 c2 w', OwnC w' b a2 (n + m) c2 E sz (xs ++ xs') → Below b w w' → w.grownBy w' (rowOf a c) → Moved w a c a2 c2 → K (act.put o.dst (.slice a2 (n + m) c2)) w') : o.wp Tryd.prog act w K Q := by
  obtain ⟨i0, hi, hz0, hz1, hz2⟩ := info_parts hinfo
  obtain ⟨a2, c2, w', hrun, h1, h2, _, h9⟩ := run_app2 w T o.type b E i0 z sz bytes hu hi hz0 hz1 hz2 hzs hsz a n c _ hown a' m c' _ hrow h1 hlen hmax hbase
  unfold Oper.wp
  simp [execOp, ho, resolve, invoke, builtin, hs, hx, hrun, Result.andThen]
  exact h a2 c2 w' h1 (below_grownBy h2 hbase (fun x hc hx => (hown.range x hc hx).1)) h2 h9
theorem wpList_appC {ops : Array Oper} {rest : List Oper} (hu : Tryd.prog.underlying T = some (.slice E)) (hinfo : (Tryd.prog.info? E).map (fun i => (i.zero, i.size, i.bytes)) = some (some z, sz, bytes)) (hzs : z.cells.size = sz) (hsz : 0 < sz) (hgd : o.guard = none)
    (s x : Operand) (ho : o.op = .call { callee := .builtin .append, args := #[s, x], argTypes := #[T, T] })
    (b : Nat) (a : Option Addr) (n c : Nat) (xs : List Value) (hs : act.eval s = .slice a n c) (hown : OwnC w b a n c E sz xs)
    (a' : Option Addr) (m c' : Nat) (xs' : List Value) (hx : act.eval x = .slice a' m c') (hrow : RowC w a' m c' sz xs') (h1 : ∀ u ∈ xs', u.oneCell' = true)
    (hlen : (n + m) * bytes ≤ 140737488355328) (hmax : n + m ≤ maxLen) (hbase : b ≤ w.heap.size)
    (h : ∀ a2 c2 w', OwnC w' b a2 (n + m) c2 E sz (xs ++ xs') → Below b w w' → w.grownBy w' (rowOf a c) → Moved w a c a2 c2 → wpList Tryd.prog ops Q rest (act.put o.dst (.slice a2 (n + m) c2)) w') : wpList Tryd.prog ops Q (o :: rest) act w :=
  wpList_plain hgd fun _ hK => wp_appC hu hinfo hzs hsz s x ho b a n c xs hs hown a' m c' xs' hx hrow h1 hlen hmax hbase fun a2 c2 w' h1 h2 h3 h5 => hK _ _ (h a2 c2 w' h1 h2 h3 h5)
theorem step_appC {ops : Array Oper} {K : Act → World → Prop} {P2 : Prop} (hu : Tryd.prog.underlying T = some (.slice E)) (hinfo : (Tryd.prog.info? E).map (fun i => (i.zero, i.size, i.bytes)) = some (some z, sz, bytes)) (hzs : z.cells.size = sz) (hsz : 0 < sz) (hgd : o.guard = none)
    (s x : Operand) (ho : o.op = .call { callee := .builtin .append, args := #[s, x], argTypes := #[T, T] })
    (b : Nat) (a : Option Addr) (n c : Nat) (xs : List Value) (hs : act.eval s = .slice a n c) (hown : OwnC w b a n c E sz xs)
    (a' : Option Addr) (m c' : Nat) (xs' : List Value) (hx : act.eval x = .slice a' m c') (hrow : RowC w a' m c' sz xs') (h1 : ∀ u ∈ xs', u.oneCell' = true)
    (hlen : (n + m) * bytes ≤ 140737488355328) (hmax : n + m ≤ maxLen) (hbase : b ≤ w.heap.size)
    (h : ∀ a2 c2 w', OwnC w' b a2 (n + m) c2 E sz (xs ++ xs') → Below b w w' → w.grownBy w' (rowOf a c) → Moved w a c a2 c2 → K (act.put o.dst (.slice a2 (n + m) c2)) w') :
    if Region.wanted o (yielded ops act.tmps) = true then Oper.wp Tryd.prog o act w K Q else P2 := by
  rw [if_pos (by simp [Region.wanted, hgd])]
  exact wp_appC hu hinfo hzs hsz s x ho b a n c xs hs hown a' m c' xs' hx hrow h1 hlen hmax hbase h
end
theorem one_ints (l : List Int) : ∀ u ∈ l.map (Value.int .i64), u.oneCell' = true := fun u hu => by
  simp only [List.mem_map] at hu
  obtain ⟨y, _, rfl⟩ := hu
  rfl
theorem one_rows (rs : List RowD) : ∀ u ∈ rs.map rowV, u.oneCell' = true := fun u hu => by
  simp only [List.mem_map] at hu
  obtain ⟨y, _, rfl⟩ := hu
  rfl
section
variable {w : World} {o : Oper} {act : Act} {Q : Exit → Act → World → Prop}
theorem wpList_appT {ops : Array Oper} {rest : List Oper} (hgd : o.guard = none)
    (s x : Operand) (ho : o.op = .call { callee := .builtin .append, args := #[s, x], argTypes := #[29, 29] })
    (b : Nat) (a : Option Addr) (n c : Nat) (xs : List Value) (hs : act.eval s = .slice a n c) (hown : OwnC w b a n c 81 2 xs)
    (a' : Option Addr) (m c' : Nat) (xs' : List Value) (hx : act.eval x = .slice a' m c') (hrow : RowC w a' m c' 2 xs') (h1 : ∀ u ∈ xs', u.oneCell' = true)
    (hlen : n + m ≤ 1000000) (hbase : b ≤ w.heap.size)
    (h : ∀ a2 c2 w', OwnC w' b a2 (n + m) c2 81 2 (xs ++ xs') → Below b w w' → w.grownBy w' (rowOf a c) → Moved w a c a2 c2 → wpList Tryd.prog ops Q rest (act.put o.dst (.slice a2 (n + m) c2)) w') : wpList Tryd.prog ops Q (o :: rest) act w :=
  wpList_appC Tryd.underlying29 info_Tagged rfl (by decide) hgd s x ho b a n c xs hs hown a' m c' xs' hx hrow h1 (by omega) (by unfold maxLen; omega) hbase h
theorem step_appT {ops : Array Oper} {K : Act → World → Prop} {P2 : Prop} (hgd : o.guard = none)
    (s x : Operand) (ho : o.op = .call { callee := .builtin .append, args := #[s, x], argTypes := #[29, 29] })
    (b : Nat) (a : Option Addr) (n c : Nat) (xs : List Value) (hs : act.eval s = .slice a n c) (hown : OwnC w b a n c 81 2 xs)
    (a' : Option Addr) (m c' : Nat) (xs' : List Value) (hx : act.eval x = .slice a' m c') (hrow : RowC w a' m c' 2 xs') (h1 : ∀ u ∈ xs', u.oneCell' = true)
    (hlen : n + m ≤ 1000000) (hbase : b ≤ w.heap.size)
    (h : ∀ a2 c2 w', OwnC w' b a2 (n + m) c2 81 2 (xs ++ xs') → Below b w w' → w.grownBy w' (rowOf a c) → Moved w a c a2 c2 → K (act.put o.dst (.slice a2 (n + m) c2)) w') :
    if Region.wanted o (yielded ops act.tmps) = true then Oper.wp Tryd.prog o act w K Q else P2 :=
  step_appC Tryd.underlying29 info_Tagged rfl (by decide) hgd s x ho b a n c xs hs hown a' m c' xs' hx hrow h1 (by omega) (by unfold maxLen; omega) hbase h
end
section
variable {w : World} {o : Oper} {act : Act} {Q : Exit → Act → World → Prop}
theorem wpList_appSS {ops : Array Oper} {rest : List Oper} (hgd : o.guard = none)
    (s x : Operand) (ho : o.op = .call { callee := .builtin .append, args := #[s, x], argTypes := #[24, 24] })
    (b : Nat) (a : Option Addr) (n c : Nat) (xs : List Value) (hs : act.eval s = .slice a n c) (hown : OwnC w b a n c 23 1 xs)
    (a' : Option Addr) (m c' : Nat) (xs' : List Value) (hx : act.eval x = .slice a' m c') (hrow : RowC w a' m c' 1 xs') (h1 : ∀ u ∈ xs', u.oneCell' = true)
    (hlen : n + m ≤ 1000000) (hbase : b ≤ w.heap.size)
    (h : ∀ a2 c2 w', OwnC w' b a2 (n + m) c2 23 1 (xs ++ xs') → Below b w w' → w.grownBy w' (rowOf a c) → Moved w a c a2 c2 → wpList Tryd.prog ops Q rest (act.put o.dst (.slice a2 (n + m) c2)) w') : wpList Tryd.prog ops Q (o :: rest) act w :=
  wpList_appC Tryd.underlying24 info_ints rfl (by decide) hgd s x ho b a n c xs hs hown a' m c' xs' hx hrow h1 (by omega) (by unfold maxLen; omega) hbase h
theorem step_appSS {ops : Array Oper} {K : Act → World → Prop} {P2 : Prop} (hgd : o.guard = none)
    (s x : Operand) (ho : o.op = .call { callee := .builtin .append, args := #[s, x], argTypes := #[24, 24] })
    (b : Nat) (a : Option Addr) (n c : Nat) (xs : List Value) (hs : act.eval s = .slice a n c) (hown : OwnC w b a n c 23 1 xs)
    (a' : Option Addr) (m c' : Nat) (xs' : List Value) (hx : act.eval x = .slice a' m c') (hrow : RowC w a' m c' 1 xs') (h1 : ∀ u ∈ xs', u.oneCell' = true)
    (hlen : n + m ≤ 1000000) (hbase : b ≤ w.heap.size)
    (h : ∀ a2 c2 w', OwnC w' b a2 (n + m) c2 23 1 (xs ++ xs') → Below b w w' → w.grownBy w' (rowOf a c) → Moved w a c a2 c2 → K (act.put o.dst (.slice a2 (n + m) c2)) w') :
    if Region.wanted o (yielded ops act.tmps) = true then Oper.wp Tryd.prog o act w K Q else P2 :=
  step_appC Tryd.underlying24 info_ints rfl (by decide) hgd s x ho b a n c xs hs hown a' m c' xs' hx hrow h1 (by omega) (by unfold maxLen; omega) hbase h
end
theorem info_Message : (Tryd.prog.info? 44).map (fun i => (i.zero, i.size, i.bytes)) = some (some (.agg #[.int .i64 0, .int .i64 0, .slice none 0 0]), 3, 40) := by kernel_rfl
section
variable {w : World} {o : Oper} {act : Act} {Q : Exit → Act → World → Prop}
theorem wpList_appM {ops : Array Oper} {rest : List Oper} (hgd : o.guard = none)
    (s x : Operand) (ho : o.op = .call { callee := .builtin .append, args := #[s, x], argTypes := #[63, 63] })
    (b : Nat) (a : Option Addr) (n c : Nat) (xs : List Value) (hs : act.eval s = .slice a n c) (hown : OwnC w b a n c 44 3 xs)
    (a' : Option Addr) (m c' : Nat) (xs' : List Value) (hx : act.eval x = .slice a' m c') (hrow : RowC w a' m c' 3 xs') (h1 : ∀ u ∈ xs', u.oneCell' = true)
    (hlen : n + m ≤ 1000000) (hbase : b ≤ w.heap.size)
    (h : ∀ a2 c2 w', OwnC w' b a2 (n + m) c2 44 3 (xs ++ xs') → Below b w w' → w.grownBy w' (rowOf a c) → Moved w a c a2 c2 → wpList Tryd.prog ops Q rest (act.put o.dst (.slice a2 (n + m) c2)) w') : wpList Tryd.prog ops Q (o :: rest) act w :=
  wpList_appC Tryd.underlying63 info_Message rfl (by decide) hgd s x ho b a n c xs hs hown a' m c' xs' hx hrow h1 (by omega) (by unfold maxLen; omega) hbase h
theorem step_appM {ops : Array Oper} {K : Act → World → Prop} {P2 : Prop} (hgd : o.guard = none)
    (s x : Operand) (ho : o.op = .call { callee := .builtin .append, args := #[s, x], argTypes := #[63, 63] })
    (b : Nat) (a : Option Addr) (n c : Nat) (xs : List Value) (hs : act.eval s = .slice a n c) (hown : OwnC w b a n c 44 3 xs)
    (a' : Option Addr) (m c' : Nat) (xs' : List Value) (hx : act.eval x = .slice a' m c') (hrow : RowC w a' m c' 3 xs') (h1 : ∀ u ∈ xs', u.oneCell' = true)
    (hlen : n + m ≤ 1000000) (hbase : b ≤ w.heap.size)
    (h : ∀ a2 c2 w', OwnC w' b a2 (n + m) c2 44 3 (xs ++ xs') → Below b w w' → w.grownBy w' (rowOf a c) → Moved w a c a2 c2 → K (act.put o.dst (.slice a2 (n + m) c2)) w') :
    if Region.wanted o (yielded ops act.tmps) = true then Oper.wp Tryd.prog o act w K Q else P2 :=
  step_appC Tryd.underlying63 info_Message rfl (by decide) hgd s x ho b a n c xs hs hown a' m c' xs' hx hrow h1 (by omega) (by unfold maxLen; omega) hbase h
end
end Go.Proofs.YtlmdckcohoddnaaDoor
