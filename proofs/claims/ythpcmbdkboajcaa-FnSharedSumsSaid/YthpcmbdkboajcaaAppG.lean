/- Append of one gate to a row of gates. -/
import Derived.Test.YthpcmbdkboajcaaApp2
import Derived.Test.YthpcmbdkboajcaaArGates
namespace Go.Proofs.Ythpcmbdkboajcaa
open Go.RowKit

theorem RowC.gate (w : World) (kd ka kb : Int) (e : TypeId) : RowC (w.alloc (.cells #[.int .i64 kd, .int .i64 ka, .int .i64 kb] e)) (some ⟨w.heap.size, 0, none⟩) 1 1 3 [.int .i64 kd, .int .i64 ka, .int .i64 kb] :=
  (OwnC.lit w 0 1 e 3 [.int .i64 kd, .int .i64 ka, .int .i64 kb] (Nat.zero_le _) rfl (by simp [maxLen])).row
theorem run_appG (w : World) (ty : TypeId) (b : Nat) (a : Option Addr) (n c : Nat) (G : List Int) (hown : OwnF 3 eGate w b a n c G) (a' : Option Addr) (c' : Nat) (kd ka kb : Int) (hrow : RowC w a' 1 c' 3 [.int .i64 kd, .int .i64 ka, .int .i64 kb]) (hlen : n + 1 ≤ 1000000) (hbase : b ≤ w.heap.size) :
    ∃ a2 c2 w', (Builtin.append_ #[39, 39] ty #[.slice a n c, .slice a' 1 c']).run Try.prog w = .ok (.slice a2 (n + 1) c2) w' ∧ OwnF 3 eGate w' b a2 (n + 1) c2 (G ++ [kd, ka, kb]) ∧ w.grownBy w' (rowOf a c) ∧ Moved w a c a2 c2 := by
  obtain ⟨i0, hi, hz0, hz1, hz2⟩ := info_parts info_Gate
  obtain ⟨a2, c2, w', hrun, h1, h2, _, h9⟩ := run_app2 w 39 ty b 78 i0 (.agg #[.int .i64 0, .int .i64 0, .int .i64 0]) 3 24 Try.underlying39 hi hz0 hz1 hz2 rfl (by decide) a n c _ hown a' 1 c' _ hrow (by
    intro u hu
    simp only [List.mem_cons, List.not_mem_nil, or_false] at hu
    rcases hu with rfl | rfl | rfl <;> rfl) (by omega) (by unfold maxLen; omega) hbase
  exact ⟨a2, c2, w', hrun, by unfold OwnF; rw [List.map_append]; exact h1, h2, h9⟩
theorem wp_appG (w : World) {o : Oper} {act : Act} {K : Act → World → Prop} {Q : Exit → Act → World → Prop} (s x : Operand)
    (ho : o.op = .call { callee := .builtin .append, args := #[s, x], argTypes := #[39, 39] })
    (b : Nat) (a : Option Addr) (n c : Nat) (G : List Int) (hs : act.eval s = .slice a n c) (hown : OwnF 3 eGate w b a n c G)
    (a' : Option Addr) (c' : Nat) (kd ka kb : Int) (hx : act.eval x = .slice a' 1 c') (hrow : RowC w a' 1 c' 3 [.int .i64 kd, .int .i64 ka, .int .i64 kb])
    (hlen : n + 1 ≤ 1000000) (hbase : b ≤ w.heap.size)
    (h : ∀ a2 c2 w', OwnF 3 eGate w' b a2 (n + 1) c2 (G ++ [kd, ka, kb]) → w.grownBy w' (rowOf a c) → Moved w a c a2 c2 → K (act.put o.dst (.slice a2 (n + 1) c2)) w') : o.wp Try.prog act w K Q := by
  obtain ⟨a2, c2, w', hrun, h1, h2, h5⟩ := run_appG w o.type b a n c G hown a' c' kd ka kb hrow hlen hbase
  unfold Oper.wp
  simp [execOp, ho, resolve, invoke, builtin, hs, hx, hrun, Result.andThen]
  exact h a2 c2 w' h1 h2 h5
theorem wpList_appG (w : World) {ops : Array Oper} {rest : List Oper} {o : Oper} {act : Act} {Q : Exit → Act → World → Prop} (hgd : o.guard = none) (s x : Operand)
    (ho : o.op = .call { callee := .builtin .append, args := #[s, x], argTypes := #[39, 39] })
    (b : Nat) (a : Option Addr) (n c : Nat) (G : List Int) (hs : act.eval s = .slice a n c) (hown : OwnF 3 eGate w b a n c G)
    (a' : Option Addr) (c' : Nat) (kd ka kb : Int) (hx : act.eval x = .slice a' 1 c') (hrow : RowC w a' 1 c' 3 [.int .i64 kd, .int .i64 ka, .int .i64 kb])
    (hlen : n + 1 ≤ 1000000) (hbase : b ≤ w.heap.size)
    (h : ∀ a2 c2 w', OwnF 3 eGate w' b a2 (n + 1) c2 (G ++ [kd, ka, kb]) → w.grownBy w' (rowOf a c) → Moved w a c a2 c2 → wpList Try.prog ops Q rest (act.put o.dst (.slice a2 (n + 1) c2)) w') : wpList Try.prog ops Q (o :: rest) act w :=
  wpList_plain hgd fun _ hK => wp_appG w s x ho b a n c G hs hown a' c' kd ka kb hx hrow hlen hbase fun a2 c2 w' h1 h2 h5 => hK _ _ (h a2 c2 w' h1 h2 h5)
theorem step_appG (w : World) {ops : Array Oper} {o : Oper} {act : Act} {K : Act → World → Prop} {Q : Exit → Act → World → Prop} {E : Prop} (hgd : o.guard = none) (s x : Operand)
    (ho : o.op = .call { callee := .builtin .append, args := #[s, x], argTypes := #[39, 39] })
    (b : Nat) (a : Option Addr) (n c : Nat) (G : List Int) (hs : act.eval s = .slice a n c) (hown : OwnF 3 eGate w b a n c G)
    (a' : Option Addr) (c' : Nat) (kd ka kb : Int) (hx : act.eval x = .slice a' 1 c') (hrow : RowC w a' 1 c' 3 [.int .i64 kd, .int .i64 ka, .int .i64 kb])
    (hlen : n + 1 ≤ 1000000) (hbase : b ≤ w.heap.size)
    (h : ∀ a2 c2 w', OwnF 3 eGate w' b a2 (n + 1) c2 (G ++ [kd, ka, kb]) → w.grownBy w' (rowOf a c) → Moved w a c a2 c2 → K (act.put o.dst (.slice a2 (n + 1) c2)) w') :
    if Region.wanted o (yielded ops act.tmps) = true then Oper.wp Try.prog o act w K Q else E := by
  rw [if_pos (by simp [Region.wanted, hgd])]
  exact wp_appG w s x ho b a n c G hs hown a' c' kd ka kb hx hrow hlen hbase h
end Go.Proofs.Ythpcmbdkboajcaa
