/- Lemmas and walks that the claim's proof rests on, part 7. -/
import Derived.Test.YtlmdckcohoddnaaDoorK1
import Derived.Test.YtlmdckcohoddnaaDoorK2
import Derived.Test.YtlmdckcohoddnaaDoorK3
namespace Go.Proofs.YtlmdckcohoddnaaDoor
open Go.RowKit
section
variable {T E sz bytes : Nat} {z : Value} {w : World} {o : Oper} {act : Act} {Q : Exit → Act → World → Prop}
theorem wp_appC {K : Act → World → Prop} (hu : Tryd.prog.underlying T = some (.slice E)) (hinfo : (Tryd.prog.info? E).map (fun i => (i.zero, i.size, i.bytes)) = some (some z, sz, bytes)) (hzs : z.cells.size = sz) (hsz : 0 < sz)
    (s x : Operand) (ho : o.op = .call { callee := .builtin .append, args := #[s, x], argTypes := #[T, T] })
    (b : Nat) (a : Option Addr) (n c : Nat) (xs : List Value) (hs : act.eval s = .slice a n c) (hown : OwnC w b a n c E sz xs)
    (a' : Option Addr) (m c' : Nat) (xs' : List Value) (hx : act.eval x = .slice a' m c') (hrow : RowC w a' m c' sz xs') (h1 : ∀ u ∈ xs', u.oneCell' = true)
    (hlen : (n + m) * bytes ≤ 140737488355328) (hmax : n + m ≤ maxLen) (hbase : b ≤ w.heap.size)
    (h : ∀ a2 c2 w', OwnC w' b a2 (n + m) c2 E sz (xs ++ xs') → Below b w w' → w.grownBy w' (rowOf a c) → Moved w a c a2 c2 → K (act.put o.dst (.slice a2 (n + m) c2)) w') : o.wp Tryd.prog act w K Q := by
  obtain ⟨i0, hi, hz0, hz1, hz2⟩ := info_parts hinfo
  obtain ⟨a2, c2, w', hrun, h1, h2, _, h9⟩ := run_app2 w T o.type b E i0 z sz bytes hu hi hz0 hz1 hz2 hzs hsz a n c _ hown a' m c' _ hrow h1 hlen hmax hbase
  unfold Oper.wp
  simp [execOp, ho, resolve, invoke, builtin, hs, hx, hrun, Result.andThen]
  exact h a2 c2 w' h1 (below_grownBy h2 hbase (fun x hc hx => (hown.range x hc hx).1)) h2 h9
theorem wpList_appC {ops : Array Oper} {rest : List Oper} (hu : Tryd.prog.underlying T = some (.slice E)) (hinfo : (Tryd.prog.info? E).map (fun i => (i.zero, i.size, i.bytes)) = some (some z, sz, bytes)) (hzs : z.cells.size = sz) (hsz : 0 < sz) (hgd : o.guard = none)
    (s x : Operand) (ho : o.op = .call { callee := .builtin .append, args := #[s, x], argTypes := #[T, T] })
    (b : Nat) (a : Option Addr) (n c : Nat) (xs : List Value) (hs : act.eval s = .slice a n c) (hown : OwnC w b a n c E sz xs)
    (a' : Option Addr) (m c' : Nat) (xs' : List Value) (hx : act.eval x = .slice a' m c') (hrow : RowC w a' m c' sz xs') (h1 : ∀ u ∈ xs', u.oneCell' = true)
    (hlen : (n + m) * bytes ≤ 140737488355328) (hmax : n + m ≤ maxLen) (hbase : b ≤ w.heap.size)
    (h : ∀ a2 c2 w', OwnC w' b a2 (n + m) c2 E sz (xs ++ xs') → Below b w w' → w.grownBy w' (rowOf a c) → Moved w a c a2 c2 → wpList Tryd.prog ops Q rest (act.put o.dst (.slice a2 (n + m) c2)) w') : wpList Tryd.prog ops Q (o :: rest) act w :=
  wpList_plain hgd fun _ hK => wp_appC hu hinfo hzs hsz s x ho b a n c xs hs hown a' m c' xs' hx hrow h1 hlen hmax hbase fun a2 c2 w' h1 h2 h3 h5 => hK _ _ (h a2 c2 w' h1 h2 h3 h5)
theorem step_appC {ops : Array Oper} {K : Act → World → Prop} {P2 : Prop} (hu : Tryd.prog.underlying T = some (.slice E)) (hinfo : (Tryd.prog.info? E).map (fun i => (i.zero, i.size, i.bytes)) = some (some z, sz, bytes)) (hzs : z.cells.size = sz) (hsz : 0 < sz) (hgd : o.guard = none)
    (s x : Operand) (ho : o.op = .call { callee := .builtin .append, args := #[s, x], argTypes := #[T, T] })
    (b : Nat) (a : Option Addr) (n c : Nat) (xs : List Value) (hs : act.eval s = .slice a n c) (hown : OwnC w b a n c E sz xs)
    (a' : Option Addr) (m c' : Nat) (xs' : List Value) (hx : act.eval x = .slice a' m c') (hrow : RowC w a' m c' sz xs') (h1 : ∀ u ∈ xs', u.oneCell' = true)
    (hlen : (n + m) * bytes ≤ 140737488355328) (hmax : n + m ≤ maxLen) (hbase : b ≤ w.heap.size)
    (h : ∀ a2 c2 w', OwnC w' b a2 (n + m) c2 E sz (xs ++ xs') → Below b w w' → w.grownBy w' (rowOf a c) → Moved w a c a2 c2 → K (act.put o.dst (.slice a2 (n + m) c2)) w') :
    if Region.wanted o (yielded ops act.tmps) = true then Oper.wp Tryd.prog o act w K Q else P2 := by
  rw [if_pos (by simp [Region.wanted, hgd])]
  exact wp_appC hu hinfo hzs hsz s x ho b a n c xs hs hown a' m c' xs' hx hrow h1 hlen hmax hbase h
end
theorem one_ints (l : List Int) : ∀ u ∈ l.map (Value.int .i64), u.oneCell' = true := fun u hu => by
  simp only [List.mem_map] at hu
  obtain ⟨y, _, rfl⟩ := hu
  rfl
theorem one_rows (rs : List RowD) : ∀ u ∈ rs.map rowV, u.oneCell' = true := fun u hu => by
  simp only [List.mem_map] at hu
  obtain ⟨y, _, rfl⟩ := hu
  rfl
section
variable {w : World} {o : Oper} {act : Act} {Q : Exit → Act → World → Prop}
theorem wpList_appT {ops : Array Oper} {rest : List Oper} (hgd : o.guard = none)
    (s x : Operand) (ho : o.op = .call { callee := .builtin .append, args := #[s, x], argTypes := #[29, 29] })
    (b : Nat) (a : Option Addr) (n c : Nat) (xs : List Value) (hs : act.eval s = .slice a n c) (hown : OwnC w b a n c 81 2 xs)
    (a' : Option Addr) (m c' : Nat) (xs' : List Value) (hx : act.eval x = .slice a' m c') (hrow : RowC w a' m c' 2 xs') (h1 : ∀ u ∈ xs', u.oneCell' = true)
    (hlen : n + m ≤ 1000000) (hbase : b ≤ w.heap.size)
    (h : ∀ a2 c2 w', OwnC w' b a2 (n + m) c2 81 2 (xs ++ xs') → Below b w w' → w.grownBy w' (rowOf a c) → Moved w a c a2 c2 → wpList Tryd.prog ops Q rest (act.put o.dst (.slice a2 (n + m) c2)) w') : wpList Tryd.prog ops Q (o :: rest) act w :=
  wpList_appC Tryd.underlying29 info_Tagged rfl (by decide) hgd s x ho b a n c xs hs hown a' m c' xs' hx hrow h1 (by omega) (by unfold maxLen; omega) hbase h
theorem step_appT {ops : Array Oper} {K : Act → World → Prop} {P2 : Prop} (hgd : o.guard = none)
    (s x : Operand) (ho : o.op = .call { callee := .builtin .append, args := #[s, x], argTypes := #[29, 29] })
    (b : Nat) (a : Option Addr) (n c : Nat) (xs : List Value) (hs : act.eval s = .slice a n c) (hown : OwnC w b a n c 81 2 xs)
    (a' : Option Addr) (m c' : Nat) (xs' : List Value) (hx : act.eval x = .slice a' m c') (hrow : RowC w a' m c' 2 xs') (h1 : ∀ u ∈ xs', u.oneCell' = true)
    (hlen : n + m ≤ 1000000) (hbase : b ≤ w.heap.size)
    (h : ∀ a2 c2 w', OwnC w' b a2 (n + m) c2 81 2 (xs ++ xs') → Below b w w' → w.grownBy w' (rowOf a c) → Moved w a c a2 c2 → K (act.put o.dst (.slice a2 (n + m) c2)) w') :
    if Region.wanted o (yielded ops act.tmps) = true then Oper.wp Tryd.prog o act w K Q else P2 :=
  step_appC Tryd.underlying29 info_Tagged rfl (by decide) hgd s x ho b a n c xs hs hown a' m c' xs' hx hrow h1 (by omega) (by unfold maxLen; omega) hbase h
end
section
variable {w : World} {o : Oper} {act : Act} {Q : Exit → Act → World → Prop}
theorem wpList_appSS {ops : Array Oper} {rest : List Oper} (hgd : o.guard = none)
    (s x : Operand) (ho : o.op = .call { callee := .builtin .append, args := #[s, x], argTypes := #[24, 24] })
    (b : Nat) (a : Option Addr) (n c : Nat) (xs : List Value) (hs : act.eval s = .slice a n c) (hown : OwnC w b a n c 23 1 xs)
    (a' : Option Addr) (m c' : Nat) (xs' : List Value) (hx : act.eval x = .slice a' m c') (hrow : RowC w a' m c' 1 xs') (h1 : ∀ u ∈ xs', u.oneCell' = true)
    (hlen : n + m ≤ 1000000) (hbase : b ≤ w.heap.size)
    (h : ∀ a2 c2 w', OwnC w' b a2 (n + m) c2 23 1 (xs ++ xs') → Below b w w' → w.grownBy w' (rowOf a c) → Moved w a c a2 c2 → wpList Tryd.prog ops Q rest (act.put o.dst (.slice a2 (n + m) c2)) w') : wpList Tryd.prog ops Q (o :: rest) act w :=
  wpList_appC Tryd.underlying24 info_ints rfl (by decide) hgd s x ho b a n c xs hs hown a' m c' xs' hx hrow h1 (by omega) (by unfold maxLen; omega) hbase h
theorem step_appSS {ops : Array Oper} {K : Act → World → Prop} {P2 : Prop} (hgd : o.guard = none)
    (s x : Operand) (ho : o.op = .call { callee := .builtin .append, args := #[s, x], argTypes := #[24, 24] })
    (b : Nat) (a : Option Addr) (n c : Nat) (xs : List Value) (hs : act.eval s = .slice a n c) (hown : OwnC w b a n c 23 1 xs)
    (a' : Option Addr) (m c' : Nat) (xs' : List Value) (hx : act.eval x = .slice a' m c') (hrow : RowC w a' m c' 1 xs') (h1 : ∀ u ∈ xs', u.oneCell' = true)
    (hlen : n + m ≤ 1000000) (hbase : b ≤ w.heap.size)
    (h : ∀ a2 c2 w', OwnC w' b a2 (n + m) c2 23 1 (xs ++ xs') → Below b w w' → w.grownBy w' (rowOf a c) → Moved w a c a2 c2 → K (act.put o.dst (.slice a2 (n + m) c2)) w') :
    if Region.wanted o (yielded ops act.tmps) = true then Oper.wp Tryd.prog o act w K Q else P2 :=
  step_appC Tryd.underlying24 info_ints rfl (by decide) hgd s x ho b a n c xs hs hown a' m c' xs' hx hrow h1 (by omega) (by unfold maxLen; omega) hbase h
end
theorem info_Message : (Tryd.prog.info? 44).map (fun i => (i.zero, i.size, i.bytes)) = some (some (.agg #[.int .i64 0, .int .i64 0, .slice none 0 0]), 3, 40) := by kernel_rfl
section
variable {w : World} {o : Oper} {act : Act} {Q : Exit → Act → World → Prop}
theorem wpList_appM {ops : Array Oper} {rest : List Oper} (hgd : o.guard = none)
    (s x : Operand) (ho : o.op = .call { callee := .builtin .append, args := #[s, x], argTypes := #[63, 63] })
    (b : Nat) (a : Option Addr) (n c : Nat) (xs : List Value) (hs : act.eval s = .slice a n c) (hown : OwnC w b a n c 44 3 xs)
    (a' : Option Addr) (m c' : Nat) (xs' : List Value) (hx : act.eval x = .slice a' m c') (hrow : RowC w a' m c' 3 xs') (h1 : ∀ u ∈ xs', u.oneCell' = true)
    (hlen : n + m ≤ 1000000) (hbase : b ≤ w.heap.size)
    (h : ∀ a2 c2 w', OwnC w' b a2 (n + m) c2 44 3 (xs ++ xs') → Below b w w' → w.grownBy w' (rowOf a c) → Moved w a c a2 c2 → wpList Tryd.prog ops Q rest (act.put o.dst (.slice a2 (n + m) c2)) w') : wpList Tryd.prog ops Q (o :: rest) act w :=
  wpList_appC Tryd.underlying63 info_Message rfl (by decide) hgd s x ho b a n c xs hs hown a' m c' xs' hx hrow h1 (by omega) (by unfold maxLen; omega) hbase h
end
end Go.Proofs.YtlmdckcohoddnaaDoor
namespace Go.Proofs.YtlmdckcohoddnaaDoor
open Go.RowKit
theorem cellFar {w : World} {p q : Addr} {u v : Value} (h : w.cell? q = some v) (hne : q.block ≠ p.block) : (w.setCell p u).cell? q = some v := by
  rw [World.cell?_setCell_other w p q u (fun e => hne (by rw [e]))]; exact h
def bendI (p : Int) (l : List Int) (i : Nat) (k : Int) : List Int := l.set i ((l.getD i 0 + k) % p)
set_option maxHeartbeats 4000000 in
set_option maxRecDepth 100000 in
theorem bend_any (p s0 s1 : Int) (a : Option Addr) (n c : Nat) (l : List Int) (i : Nat) (k : Int) (w : World) (h : Ints w a n c l) (hs : n ≤ 1048576) (hp : 1 ≤ p) (hp2 : p ≤ 1000) (hl : ∀ x ∈ l, 0 ≤ x ∧ x ≤ p - 1) (hi : i < n) (hk : 0 ≤ k) (hk2 : k ≤ p - 1) :
    Calls Tryd.prog 86 #[.int .i64 p, .agg #[.int .i64 s0, .int .i64 s1, .slice a n c], .int .i64 i, .int .i64 k] w fun e w' => ∃ b d, e = .returned (.agg #[.int .i64 s0, .int .i64 s1, .slice b n d]) ∧ Own w' w.heap.size b n d (bendI p l i k) ∧ Below w.heap.size w w' := by
  have rx : 0 ≤ l.getD i 0 ∧ l.getD i 0 ≤ p - 1 := hl _ (getD_mem l i (by rw [← h.len]; exact hi))
  have HBI : Hid (bendI p l i k = l.set i ((l.getD i 0 + k) % p)) := rfl
  clear hl
  obtain ⟨x, hx⟩ : ∃ x, l.getD i 0 = x := ⟨_, rfl⟩
  rw [hx] at rx HBI
  have HX := Lib.hid hx
  clear hx
  have t1 : IntKind.i64.wrap (x + k) = x + k := IntWalk.i64_in _ (by omega)
  have V0 : Below w.heap.size w ((w.alloc (.cells #[.int .i64 s0, .int .i64 s1, .slice a n c] 44)).alloc (.cells #[.int .i64 0, .int .i64 0, .slice none 0 0] 44)) := ((Below.refl _ _).alloc (Nat.le_refl _) _).alloc (by simp) _
  have B0 : Blk ((w.alloc (.cells #[.int .i64 s0, .int .i64 s1, .slice a n c] 44)).alloc (.cells #[.int .i64 0, .int .i64 0, .slice none 0 0] 44)) w.heap.size 44 #[.int .i64 s0, .int .i64 s1, .slice a n c] := (Blk.new w _ _).alloc _
  have R0 : Blk ((w.alloc (.cells #[.int .i64 s0, .int .i64 s1, .slice a n c] 44)).alloc (.cells #[.int .i64 0, .int .i64 0, .slice none 0 0] 44)) (w.heap.size + 1) 44 #[.int .i64 0, .int .i64 0, .slice none 0 0] := by simpa using (Blk.new (w.alloc (.cells #[.int .i64 s0, .int .i64 s1, .slice a n c] 44)) 44 #[.int .i64 0, .int .i64 0, .slice none 0 0])
  have S0 : w.heap.size + 2 ≤ ((w.alloc (.cells #[.int .i64 s0, .int .i64 s1, .slice a n c] 44)).alloc (.cells #[.int .i64 0, .int .i64 0, .slice none 0 0] 44)).heap.size := by simp
  go_enter Tryd.func86, Tryd.ntmps86
  go_wp2_with fail
  generalize ((w.alloc (.cells #[.int .i64 s0, .int .i64 s1, .slice a n c] 44)).alloc (.cells #[.int .i64 0, .int .i64 0, .slice none 0 0] 44)) = w0 at *
  refine (Clone_any _ _ _ l _ (h.below V0) (by omega)).mono ?_; rintro e w1 ⟨b, d, rfl, o1, u⟩
  have V1 := V0.trans (u.mono V0.size)
  have B1 := B0.below u
  have R1 := R0.below u
  have S1 : w.heap.size + 2 ≤ w1.heap.size := Nat.le_trans S0 u.size
  have Q := Lib.hid o1.feet
  clear u V0 B0 R0
  have x0 : w1.cell? ⟨w.heap.size, 0, none⟩ = some (.int .i64 s0) := B1.cell 0
  have x1 : w1.cell? ⟨w.heap.size, 1, none⟩ = some (.int .i64 s1) := B1.cell 1
  have x2 : w1.cell? ⟨w.heap.size, 2, none⟩ = some (.slice a n c) := B1.cell 2
  have f2 : w1.frozen? ⟨w.heap.size, 2, none⟩ = false := B1.frozen 2
  go_wp2_with fail
  have G : Only [w.heap.size] w1 (w1.setCell ⟨w.heap.size, 2, none⟩ (.slice b n d)) := (Only.refl _ _).setCell ⟨w.heap.size, 2, none⟩ (.slice b n d) (by simp)
  have V2 := V1.trans (G.below V1.size (by simp))
  have B2 : Blk (w1.setCell ⟨w.heap.size, 2, none⟩ (.slice b n d)) w.heap.size 44 #[.int .i64 s0, .int .i64 s1, .slice b n d] := B1.set_ 2 (.slice b n d)
  have R2 := R1.only G (by simp)
  have o2 := o1.only G (fun q hq hq' => by have := Q.out q hq; simp at hq'; omega)
  have S2 : w.heap.size + 2 ≤ (w1.setCell ⟨w.heap.size, 2, none⟩ (.slice b n d)).heap.size := Nat.le_trans S1 G.size
  clear G V1 B1 R1 o1 x0 x1 x2 f2
  generalize (w1.setCell ⟨w.heap.size, 2, none⟩ (.slice b n d)) = w2 at *
  obtain ⟨g, rfl, g0, g1, y0, y1, y2⟩ := o2.at i hi
  rw [HX.out] at y0
  have x0 : w2.cell? ⟨w.heap.size, 0, none⟩ = some (.int .i64 s0) := B2.cell 0
  have x1 : w2.cell? ⟨w.heap.size, 1, none⟩ = some (.int .i64 s1) := B2.cell 1
  have x2 : w2.cell? ⟨w.heap.size, 2, none⟩ = some (.slice (some ⟨g, 0, none⟩) n d) := B2.cell 2
  refine wp_region_still_tail 13 (by kernel_rfl) (by kernel_rfl) ?_
  simp only [List.take_succ_cons, List.take_zero, List.drop_succ_cons, List.drop_zero]
  repeat (first | still_step | still_call (mod_same _ _ _ hp (by omega)))
  refine wpStill_nil ?_
  change wpList _ _ _ _ _ w2.drew
  have o3 := o2.drew
  have V3 := V2.drew
  have B3 := B2.drew
  have R3 := R2.drew
  have S3 : w.heap.size + 2 ≤ w2.drew.heap.size := S2
  clear y0 y1 y2 x0 x1 x2 o2 V2 B2 R2 S2
  generalize w2.drew = w3 at *
  obtain ⟨_, E, _, _, y0, y1, y2⟩ := o3.at i hi
  cases E
  have y3 := y2 ((x + k) % p)
  rw [← HBI.out] at y3
  have x0 : w3.cell? ⟨w.heap.size, 0, none⟩ = some (.int .i64 s0) := B3.cell 0
  have x1 : w3.cell? ⟨w.heap.size, 1, none⟩ = some (.int .i64 s1) := B3.cell 1
  have x2 : w3.cell? ⟨w.heap.size, 2, none⟩ = some (.slice (some ⟨g, 0, none⟩) n d) := B3.cell 2
  have r0 : w3.cell? ⟨w.heap.size + 1, 0, none⟩ = some (.int .i64 0) := R3.cell 0
  have r1 : w3.cell? ⟨w.heap.size + 1, 1, none⟩ = some (.int .i64 0) := R3.cell 1
  have r2 : w3.cell? ⟨w.heap.size + 1, 2, none⟩ = some (.slice none 0 0) := R3.cell 2
  have q0 : w3.frozen? ⟨w.heap.size + 1, 0, none⟩ = false := R3.frozen 0
  have q1 : w3.frozen? ⟨w.heap.size + 1, 1, none⟩ = false := R3.frozen 1
  have q2 : w3.frozen? ⟨w.heap.size + 1, 2, none⟩ = false := R3.frozen 2
  have HY := Lib.hid y3
  clear y2 y3
  go_wp2
  have G := (((Only.refl [w.heap.size + 1] (w3.setCell ⟨g, i, none⟩ (.int .i64 ((x + k) % p)))).setCell ⟨w.heap.size + 1, 0, none⟩ (.int .i64 s0) (by simp)).setCell ⟨w.heap.size + 1, 1, none⟩ (.int .i64 s1) (by simp)).setCell ⟨w.heap.size + 1, 2, none⟩ (.slice (some ⟨g, 0, none⟩) n d) (by simp)
  have V4 := V3.setCell (p := ⟨g, i, none⟩) (by show w.heap.size ≤ g; omega) (.int .i64 ((x + k) % p))
  exact bodyPost_ret (v := .agg #[.int .i64 s0, .int .i64 s1, .slice (some ⟨g, 0, none⟩) n d]) (by simp [results, Tryd.results86, go_sem, r0, r1, r2]) rfl ⟨_, _, rfl, (HY.out.only G (fun q hq hq' => by
    obtain ⟨z, hz, _, rfl⟩ := mem_foot hq
    cases hz
    simp at hq'; omega)).lower (by omega), V4.trans (G.below V4.size (by simp))⟩
set_option maxHeartbeats 4000000 in
set_option maxRecDepth 100000 in
theorem ptBend_any (p s0 s1 : Int) (a : Option Addr) (n c : Nat) (l : List Int) (i : Nat) (k : Int) (w : World) (h : Ints w a n c l) (hs : n ≤ 1048576) (hp : 1 ≤ p) (hp2 : p ≤ 1000) (hl : ∀ x ∈ l, 0 ≤ x ∧ x ≤ p - 1) (hi : i < n) (hk : 0 ≤ k) (hk2 : k ≤ p - 1) :
    Calls Tryd.prog 119 #[.int .i64 p, .agg #[.int .i64 s0, .int .i64 s1, .slice a n c], .int .i64 i, .int .i64 k] w fun e w' => ∃ b d, e = .returned (.agg #[.int .i64 s0, .int .i64 s1, .slice b n d]) ∧ Own w' w.heap.size b n d (bendI p l i k) ∧ Below w.heap.size w w' := by
  have rx : 0 ≤ l.getD i 0 ∧ l.getD i 0 ≤ p - 1 := hl _ (getD_mem l i (by rw [← h.len]; exact hi))
  have HBI : Hid (bendI p l i k = l.set i ((l.getD i 0 + k) % p)) := rfl
  clear hl
  obtain ⟨x, hx⟩ : ∃ x, l.getD i 0 = x := ⟨_, rfl⟩
  rw [hx] at rx HBI
  have HX := Lib.hid hx
  clear hx
  have t1 : IntKind.i64.wrap (x + k) = x + k := IntWalk.i64_in _ (by omega)
  have t2 : (x + k).tmod p = (x + k) % p := Int.tmod_eq_emod_of_nonneg (by omega)
  have t3 : IntKind.i64.wrap ((x + k) % p) = (x + k) % p := IntWalk.i64_in _ (by have := Int.emod_nonneg (x + k) (by omega : p ≠ 0); have := Int.emod_lt_of_pos (x + k) (by omega : 0 < p); omega)
  have t7 : (p == 0) = false := by simp; omega
  have t8 : (p = 0) = False := by simp; omega
  have V0 : Below w.heap.size w ((w.alloc (.cells #[.int .i64 s0, .int .i64 s1, .slice a n c] 44)).alloc (.cells #[.int .i64 0, .int .i64 0, .slice none 0 0] 44)) := ((Below.refl _ _).alloc (Nat.le_refl _) _).alloc (by simp) _
  have B0 : Blk ((w.alloc (.cells #[.int .i64 s0, .int .i64 s1, .slice a n c] 44)).alloc (.cells #[.int .i64 0, .int .i64 0, .slice none 0 0] 44)) w.heap.size 44 #[.int .i64 s0, .int .i64 s1, .slice a n c] := (Blk.new w _ _).alloc _
  have R0 : Blk ((w.alloc (.cells #[.int .i64 s0, .int .i64 s1, .slice a n c] 44)).alloc (.cells #[.int .i64 0, .int .i64 0, .slice none 0 0] 44)) (w.heap.size + 1) 44 #[.int .i64 0, .int .i64 0, .slice none 0 0] := by simpa using (Blk.new (w.alloc (.cells #[.int .i64 s0, .int .i64 s1, .slice a n c] 44)) 44 #[.int .i64 0, .int .i64 0, .slice none 0 0])
  have S0 : w.heap.size + 2 ≤ ((w.alloc (.cells #[.int .i64 s0, .int .i64 s1, .slice a n c] 44)).alloc (.cells #[.int .i64 0, .int .i64 0, .slice none 0 0] 44)).heap.size := by simp
  go_enter Tryd.func119, Tryd.ntmps119
  go_wp2
  generalize ((w.alloc (.cells #[.int .i64 s0, .int .i64 s1, .slice a n c] 44)).alloc (.cells #[.int .i64 0, .int .i64 0, .slice none 0 0] 44)) = w0 at *
  have x0 : w0.cell? ⟨w.heap.size, 0, none⟩ = some (.int .i64 s0) := B0.cell 0
  have x1 : w0.cell? ⟨w.heap.size, 1, none⟩ = some (.int .i64 s1) := B0.cell 1
  have x2 : w0.cell? ⟨w.heap.size, 2, none⟩ = some (.slice a n c) := B0.cell 2
  have hb : w.heap.size ≠ w0.heap.size := by omega
  go_region_held3 (fun W => W.cell? ⟨w.heap.size, 0, none⟩ = some (.int .i64 s0) ∧ W.cell? ⟨w.heap.size, 1, none⟩ = some (.int .i64 s1) ∧ W.cell? ⟨w.heap.size, 2, none⟩ = some (.slice a n c))
    (first | go_keep | exact ⟨keepA _ x0, keepA _ x1, keepA _ x2⟩ | exact ⟨keepC u (keepA _ x0), keepC u (keepA _ x1), keepC u (keepA _ x2)⟩ | exact ⟨keepA _ (keepC u x0), keepA _ (keepC u x1), keepA _ (keepC u x2)⟩ | exact ⟨keepC u x0, keepC u x1, keepC u x2⟩ | exact ⟨cellFar (cellFar (cellFar (keepC u (keepA _ x0)) hb) hb) hb, cellFar (cellFar (cellFar (keepC u (keepA _ x1)) hb) hb) hb, cellFar (cellFar (cellFar (keepC u (keepA _ x2)) hb) hb) hb⟩)
    (first | (go_at_call 120; refine (l1Own_any _ _ _ l _ ((h.below V0).alloc _).drew (by omega)).mono ?_; rintro e w1 ⟨b, d, rfl, o1, u⟩; have BO : Blk w1 w0.heap.size 44 #[.int .i64 0, .int .i64 0, .slice none 0 0] := Blk.below (Blk.new w0 44 #[.int .i64 0, .int .i64 0, .slice none 0 0]).drew u; have e0 : w1.cell? ⟨w0.heap.size, 0, none⟩ = some (.int .i64 0) := BO.cell 0; have e1 : w1.cell? ⟨w0.heap.size, 1, none⟩ = some (.int .i64 0) := BO.cell 1; have e2 : w1.cell? ⟨w0.heap.size, 2, none⟩ = some (.slice none 0 0) := BO.cell 2; have f0 : w1.frozen? ⟨w0.heap.size, 0, none⟩ = false := BO.frozen 0; have f1 : w1.frozen? ⟨w0.heap.size, 1, none⟩ = false := BO.frozen 1; have f2 : w1.frozen? ⟨w0.heap.size, 2, none⟩ = false := BO.frozen 2) | (go_at_call 120; refine (l1Own_any _ _ _ l _ (h.below V0).drew (by omega)).mono ?_; rintro e w1 ⟨b, d, rfl, o1, u⟩))
  all_goals first
    | (have u1 : Below w0.heap.size w0 w1 := ((Below.refl _ w0).alloc (Nat.le_refl _) (.cells #[.int .i64 0, .int .i64 0, .slice none 0 0] 44)).drew.trans (u.mono (by simp))
       have G : Only [w0.heap.size] w1 (((w1.setCell ⟨w0.heap.size, 0, none⟩ (.int .i64 s0)).setCell ⟨w0.heap.size, 1, none⟩ (.int .i64 s1)).setCell ⟨w0.heap.size, 2, none⟩ (.slice b n d)) := (((Only.refl [w0.heap.size] w1).setCell ⟨w0.heap.size, 0, none⟩ (.int .i64 s0) (by simp)).setCell ⟨w0.heap.size, 1, none⟩ (.int .i64 s1) (by simp)).setCell ⟨w0.heap.size, 2, none⟩ (.slice b n d) (by simp)
       have hO0 : ∀ q ∈ foot b d, w0.heap.size + 1 ≤ q := fun q hq => by have := (o1.feet q hq).1; simpa using this
       have hV1 := V0.trans (u1.mono V0.size)
       have hV := hV1.trans (G.below hV1.size (fun q hq => by simp at hq; omega))
       have hR := (R0.below u1).only G (by simp; omega)
       have hO := (o1.only G (fun q hq hq' => by have := hO0 q hq; simp at hq'; omega)).lower (b' := w.heap.size + 2) (by simp; omega)
       have hQ : Hid (∀ q ∈ foot b d, q ≠ w0.heap.size) := Lib.hid (fun q hq => by have := hO0 q hq; omega)
       have hBO : Blk (((w1.setCell ⟨w0.heap.size, 0, none⟩ (.int .i64 s0)).setCell ⟨w0.heap.size, 1, none⟩ (.int .i64 s1)).setCell ⟨w0.heap.size, 2, none⟩ (.slice b n d)) w0.heap.size 44 #[.int .i64 s0, .int .i64 s1, .slice b n d] := ((BO.set_ 0 (.int .i64 s0)).set_ 1 (.int .i64 s1)).set_ 2 (.slice b n d)
       have hob : w.heap.size + 2 ≤ w0.heap.size := S0
       clear u1 G hO0 hV1 u BO e0 e1 e2 f0 f1 f2 o1 V0 B0 R0 S0 x0 x1 x2
       generalize (((w1.setCell ⟨w0.heap.size, 0, none⟩ (.int .i64 s0)).setCell ⟨w0.heap.size, 1, none⟩ (.int .i64 s1)).setCell ⟨w0.heap.size, 2, none⟩ (.slice b n d)) = W at *
       generalize w0.heap.size = ob at *)
    | (have u1 : Below w0.heap.size w0 w1 := (Below.refl _ w0).drew.trans u
       have hV1 := V0.trans (u1.mono V0.size)
       have hV := hV1.alloc hV1.size (.cells #[.int .i64 s0, .int .i64 s1, .slice b n d] 44)
       have hR := (R0.below u1).alloc (.cells #[.int .i64 s0, .int .i64 s1, .slice b n d] 44)
       have hQ : Hid (∀ q ∈ foot b d, q ≠ w1.heap.size) := Lib.hid (fun q hq => by have := (o1.feet q hq).2; omega)
       have hO := (o1.alloc (.cells #[.int .i64 s0, .int .i64 s1, .slice b n d] 44)).lower (b' := w.heap.size + 2) S0
       have hBO : Blk (w1.alloc (.cells #[.int .i64 s0, .int .i64 s1, .slice b n d] 44)) w1.heap.size 44 #[.int .i64 s0, .int .i64 s1, .slice b n d] := Blk.new w1 44 #[.int .i64 s0, .int .i64 s1, .slice b n d]
       have hob : w.heap.size + 2 ≤ w1.heap.size := Nat.le_trans S0 u1.size
       clear u1 hV1 u o1 V0 B0 R0 S0 x0 x1 x2
       generalize (w1.alloc (.cells #[.int .i64 s0, .int .i64 s1, .slice b n d] 44)) = W at *
       generalize w1.heap.size = ob at *)
  all_goals
    obtain ⟨g, rfl, g0, g1, y0, y1, y2⟩ := hO.at i hi
    rw [HX.out] at y0
    have hgo : g ≠ ob := hQ.out g (foot_mem (x := ⟨g, 0, none⟩) (by have := hO.cap; omega))
    have hgo' : ¬ ob = g := fun h => hgo h.symm
    have x0 : W.cell? ⟨ob, 0, none⟩ = some (.int .i64 s0) := hBO.cell 0
    have x1 : W.cell? ⟨ob, 1, none⟩ = some (.int .i64 s1) := hBO.cell 1
    have x2 : W.cell? ⟨ob, 2, none⟩ = some (.slice (some ⟨g, 0, none⟩) n d) := hBO.cell 2
    go_wp2
    refine wp_region_still_tail 13 (by kernel_rfl) (by kernel_rfl) ?_
    simp only [List.take_succ_cons, List.take_zero, List.drop_succ_cons, List.drop_zero]
    repeat still_step
    refine wpStill_nil ?_
    change wpList _ _ _ _ _ W.drew
    have o3 := hO.drew
    have V3 := hV.drew
    have B3 := hBO.drew
    have R3 := hR.drew
    clear y0 y1 y2 x0 x1 x2 hO hV hBO hR
    generalize W.drew = w3 at *
    obtain ⟨_, E, _, _, y0, y1, y2⟩ := o3.at i hi
    cases E
    have y3 := y2 ((x + k) % p)
    rw [← HBI.out] at y3
    have x0 : w3.cell? ⟨ob, 0, none⟩ = some (.int .i64 s0) := B3.cell 0
    have x1 : w3.cell? ⟨ob, 1, none⟩ = some (.int .i64 s1) := B3.cell 1
    have x2 : w3.cell? ⟨ob, 2, none⟩ = some (.slice (some ⟨g, 0, none⟩) n d) := B3.cell 2
    have r0 : w3.cell? ⟨w.heap.size + 1, 0, none⟩ = some (.int .i64 0) := R3.cell 0
    have r1 : w3.cell? ⟨w.heap.size + 1, 1, none⟩ = some (.int .i64 0) := R3.cell 1
    have r2 : w3.cell? ⟨w.heap.size + 1, 2, none⟩ = some (.slice none 0 0) := R3.cell 2
    have q0 : w3.frozen? ⟨w.heap.size + 1, 0, none⟩ = false := R3.frozen 0
    have q1 : w3.frozen? ⟨w.heap.size + 1, 1, none⟩ = false := R3.frozen 1
    have q2 : w3.frozen? ⟨w.heap.size + 1, 2, none⟩ = false := R3.frozen 2
    have HY := Lib.hid y3
    clear y2 y3
    go_wp2
    have G := (((Only.refl [w.heap.size + 1] (w3.setCell ⟨g, i, none⟩ (.int .i64 ((x + k) % p)))).setCell ⟨w.heap.size + 1, 0, none⟩ (.int .i64 s0) (by simp)).setCell ⟨w.heap.size + 1, 1, none⟩ (.int .i64 s1) (by simp)).setCell ⟨w.heap.size + 1, 2, none⟩ (.slice (some ⟨g, 0, none⟩) n d) (by simp)
    have V4 := V3.setCell (p := ⟨g, i, none⟩) (by show w.heap.size ≤ g; omega) (.int .i64 ((x + k) % p))
    exact bodyPost_ret (v := .agg #[.int .i64 s0, .int .i64 s1, .slice (some ⟨g, 0, none⟩) n d]) (by simp [results, Tryd.results119, go_sem, r0, r1, r2]) rfl ⟨_, _, rfl, (HY.out.only G (fun q hq hq' => by
      obtain ⟨z, hz, _, rfl⟩ := mem_foot hq
      cases hz
      simp at hq'; omega)).lower (by omega), V4.trans (G.below V4.size (by simp))⟩
end Go.Proofs.YtlmdckcohoddnaaDoor
namespace Go.Proofs.YtlmdckcohoddnaaDoor
open Go.RowKit
abbrev MsRow := Int × Int × RowD
abbrev MsD := Int × Int × List Int
def msC (r : MsRow) : List Value := [.int .i64 r.1, .int .i64 r.2.1, rowV r.2.2]
def msD (r : MsRow) : MsD := (r.1, r.2.1, r.2.2.2.2)
def bod (rs : List MsRow) : List RowD := rs.map fun r => r.2.2
def msAt (rs : List MsRow) (j : Nat) : MsRow := rs.getD j (0, 0, rowNil)
theorem msAt_mem {rs : List MsRow} {j : Nat} (h : j < rs.length) : msAt rs j ∈ rs := by
  unfold msAt; simp [List.getD, h]
theorem msAt_some {rs : List MsRow} {j : Nat} (h : j < rs.length) : rs[j]? = some (msAt rs j) := by
  unfold msAt; simp [List.getD, h]
theorem bod_len (rs : List MsRow) : (bod rs).length = rs.length := by simp [bod]
theorem bod_at {rs : List MsRow} {j : Nat} (h : j < rs.length) : rowAt (bod rs) j = (msAt rs j).2.2 := by
  unfold rowAt msAt bod; simp [List.getD, h]
theorem msC_len (rs : List MsRow) : (rs.flatMap msC).length = rs.length * 3 := by
  induction rs with
  | nil => rfl
  | cons r rs ih => rw [List.flatMap_cons, List.length_append, ih]; simp [msC]; omega
theorem msC_at {rs : List MsRow} : ∀ {i j : Nat}, i < rs.length → j < 3 → (rs.flatMap msC)[i * 3 + j]? = (msC (msAt rs i))[j]? := by
  induction rs with
  | nil => intro i j hi; simp at hi
  | cons r rs ih =>
    intro i j hi hj
    cases i with
    | zero =>
      rw [List.flatMap_cons, List.getElem?_append_left (by simp [msC]; omega)]
      simp [msAt]
    | succ i =>
      rw [List.flatMap_cons, List.getElem?_append_right (by simp [msC]; omega), show (i + 1) * 3 + j - (msC r).length = i * 3 + j by simp [msC]; omega, ih (by simpa using hi) hj]
      simp [msAt]
theorem msC_set (r : MsRow) : ∀ {rs : List MsRow} {i : Nat}, i < rs.length → (rs.set i r).flatMap msC = (((rs.flatMap msC).set (i * 3) (.int .i64 r.1)).set (i * 3 + 1) (.int .i64 r.2.1)).set (i * 3 + 2) (rowV r.2.2) := by
  intro rs
  induction rs with
  | nil => intro i hi; simp at hi
  | cons s rs ih =>
    intro i hi
    cases i with
    | zero => simp [msC]
    | succ i =>
      rw [List.set_cons_succ, List.flatMap_cons, List.flatMap_cons, ih (by simpa using hi), show (i + 1) * 3 = i * 3 + 1 + 1 + 1 by omega]
      simp [msC]
structure MsS (w : World) (a : Option Addr) (n c : Nat) (rs : List MsRow) : Prop where
  row : RowC w a n c 3 (rs.flatMap msC)
  inn : ∀ r ∈ rs, Ints w r.2.2.1 r.2.2.2.2.length r.2.2.2.1 r.2.2.2.2
theorem MsS.len {w a n c rs} (h : MsS w a n c rs) : rs.length = n := by have := h.row.1; rw [msC_len] at this; omega
theorem MsS.le {w a n c rs} (h : MsS w a n c rs) : (n : Int) ≤ 9223372036854775807 := by
  have := h.row.2.1; have := h.row.2.2.1; unfold maxLen at this; omega
theorem MsS.below {w w' a n c rs} (h : MsS w a n c rs) (hb : Below w.heap.size w w') : MsS w' a n c rs := ⟨h.row.below hb, fun r hr => (h.inn r hr).below hb⟩
theorem MsS.at {w a n c rs} (h : MsS w a n c rs) (k : Nat) (hk : k < n) : ∃ g o, a = some ⟨g, o, none⟩ ∧ w.cell? ⟨g, o + k * 3, none⟩ = some (.int .i64 (msAt rs k).1) ∧ w.cell? ⟨g, o + k * 3 + 1, none⟩ = some (.int .i64 (msAt rs k).2.1) ∧
    w.cell? ⟨g, o + k * 3 + 2, none⟩ = some (.slice (msAt rs k).2.2.1 (msAt rs k).2.2.2.2.length (msAt rs k).2.2.2.1) ∧ Ints w (msAt rs k).2.2.1 (msAt rs k).2.2.2.2.length (msAt rs k).2.2.2.1 (msAt rs k).2.2.2.2 := by
  have hl := h.len
  obtain ⟨_, _, _, _, g, o, h1, h2⟩ := h.row
  refine ⟨g, o, h1 (by omega), ?_, ?_, ?_, h.inn _ (msAt_mem (by omega))⟩
  · have := h2 (k * 3 + 0) (.int .i64 (msAt rs k).1) (by rw [msC_at (by omega) (by omega)]; rfl)
    simpa using this
  · have := h2 (k * 3 + 1) (.int .i64 (msAt rs k).2.1) (by rw [msC_at (by omega) (by omega)]; rfl)
    simpa only [Nat.add_assoc] using this
  · have := h2 (k * 3 + 2) (rowV (msAt rs k).2.2) (by rw [msC_at (by omega) (by omega)]; rfl)
    simp only [Nat.add_assoc] at this ⊢
    exact this
structure MsW (w : World) (b : Nat) (a : Option Addr) (n c : Nat) (rs : List MsRow) : Prop where
  out : OwnC w b a n c 44 3 (rs.flatMap msC)
  inn : ∀ r ∈ rs, Own w b r.2.2.1 r.2.2.2.2.length r.2.2.2.1 r.2.2.2.2
  dis : (bod rs).Pairwise fun r s => Disj (foot r.1 r.2.1) (foot s.1 s.2.1)
  apart : Disj (foot a c) (rowsF (bod rs))
theorem MsW.reads {w b a n c rs} (h : MsW w b a n c rs) : MsS w a n c rs := ⟨h.out.row, fun r hr => (h.inn r hr).ints⟩
theorem MsW.cap {w b a n c rs} (h : MsW w b a n c rs) : n ≤ c ∧ c ≤ maxLen := ⟨h.out.row.2.1, h.out.row.2.2.1⟩
theorem mem_bod {rs : List MsRow} {r : MsRow} (h : r ∈ rs) : r.2.2 ∈ bod rs := List.mem_map.2 ⟨r, h, rfl⟩
theorem MsW.feet {w : World} {b a n c rs} (h : MsW w b a n c rs) : ∀ k ∈ feetSS a c (bod rs), b ≤ k ∧ k < w.heap.size := fun k hk => by
  rcases List.mem_append.1 hk with hk | hk
  · exact h.out.feet k hk
  · obtain ⟨r, hr, hk⟩ := List.mem_flatMap.1 hk
    obtain ⟨s, hs, rfl⟩ := List.mem_map.1 hr
    exact (h.inn s hs).feet k hk
theorem MsW.only {X : List Nat} {w w' : World} {b a n c rs} (h : MsW w b a n c rs) (ho : Only X w w') (hd : Disj (feetSS a c (bod rs)) X) : MsW w' b a n c rs :=
  ⟨h.out.only ho (fun k hk => hd k (List.mem_append_left _ hk)), fun r hr => (h.inn r hr).only ho (fun k hk => hd k (List.mem_append_right _ (mem_rowsF (mem_bod hr) hk))), h.dis, h.apart⟩
theorem MsW.below {w w' : World} {b a n c rs} (h : MsW w b a n c rs) (hb : Below w.heap.size w w') : MsW w' b a n c rs := ⟨h.out.below hb, fun r hr => (h.inn r hr).below hb, h.dis, h.apart⟩
theorem MsW.lower {w : World} {b b' a n c rs} (h : MsW w b a n c rs) (hb : b' ≤ b) : MsW w b' a n c rs := ⟨h.out.lower hb, fun r hr => (h.inn r hr).lower hb, h.dis, h.apart⟩
theorem MsW.nil0 (w : World) (b : Nat) (a : Option Addr) : MsW w b a 0 0 [] := ⟨OwnC.nil0 _ _ _ _ _, fun r hr => (by cases hr), List.Pairwise.nil, fun k hk => by simp [foot, rowOf] at hk⟩
theorem msC_rep (n : Nat) : (List.replicate n ((0, 0, rowNil) : MsRow)).flatMap msC = (List.replicate n [Value.int .i64 0, .int .i64 0, .slice none 0 0]).flatten := by
  induction n with
  | zero => rfl
  | succ n ih => rw [List.replicate_succ, List.flatMap_cons, ih, List.replicate_succ, List.flatten_cons]; rfl
theorem bod_rep (n : Nat) : bod (List.replicate n ((0, 0, rowNil) : MsRow)) = List.replicate n rowNil := by simp [bod]
theorem MsW.made {w : World} {b : Nat} {a : Option Addr} {n c : Nat} (h : OwnC w b a n c 44 3 ((List.replicate n [Value.int .i64 0, .int .i64 0, .slice none 0 0]).flatten)) : MsW w b a n c (List.replicate n (0, 0, rowNil)) :=
  ⟨by rw [msC_rep]; exact h, fun r hr => by rw [List.eq_of_mem_replicate hr]; exact Own.nil0 _ _ _, by
    rw [bod_rep, List.pairwise_replicate]
    right
    intro k hk
    simp [rowNil, foot_zero] at hk, by rw [bod_rep, rowsF_nils]; exact Disj.nil_r _⟩
theorem bod_set (rs : List MsRow) (i : Nat) (r : MsRow) : bod (rs.set i r) = (bod rs).set i r.2.2 := by unfold bod; rw [List.map_set]
theorem MsW.cells {w : World} {b n c i : Nat} {a : Option Addr} {rs : List MsRow} (h : MsW w b a n c rs) (hi : i < n) : ∃ g, a = some ⟨g, 0, none⟩ ∧ b ≤ g ∧ g < w.heap.size ∧ g ∈ foot a c ∧
    (w.cell? ⟨g, i * 3, none⟩ = some (.int .i64 (msAt rs i).1) ∧ w.cell? ⟨g, i * 3 + 1, none⟩ = some (.int .i64 (msAt rs i).2.1) ∧ w.cell? ⟨g, i * 3 + 2, none⟩ = some (rowV (msAt rs i).2.2)) ∧
    (w.frozen? ⟨g, i * 3, none⟩ = false ∧ w.frozen? ⟨g, i * 3 + 1, none⟩ = false ∧ w.frozen? ⟨g, i * 3 + 2, none⟩ = false) := by
  have hl := h.reads.len
  have hc := h.cap
  obtain ⟨g, rfl, hb, hg, ⟨u0, hu0, hc0⟩, hf0, _⟩ := OwnC.atC h.out (i * 3) (by omega)
  obtain ⟨_, E1, _, _, ⟨u1, hu1, hc1⟩, hf1, _⟩ := OwnC.atC h.out (i * 3 + 1) (by omega)
  cases E1
  obtain ⟨_, E2, _, _, ⟨u2, hu2, hc2⟩, hf2, _⟩ := OwnC.atC h.out (i * 3 + 2) (by omega)
  cases E2
  have e0 := msC_at (rs := rs) (i := i) (j := 0) (by omega) (by omega)
  rw [Nat.add_zero, hu0] at e0
  rw [msC_at (by omega) (by omega)] at hu1 hu2
  refine ⟨g, rfl, hb, hg, foot_mem (x := ⟨g, 0, none⟩) (by omega), ⟨by rw [hc0, e0]; rfl, by rw [hc1, ← hu1]; rfl, by rw [hc2, ← hu2]; rfl⟩, hf0, hf1, hf2⟩
theorem set_same {α : Type} {M : List α} {k : Nat} {v : α} (h : M[k]? = some v) : M.set k v = M := by
  apply List.ext_getElem?
  intro j
  rw [List.getElem?_set]
  by_cases e : k = j
  · subst e
    have := (List.getElem?_eq_some_iff.1 h).1
    rw [if_pos rfl, if_pos this, h]
  · rw [if_neg e]
theorem msC_same {rs : List MsRow} {i : Nat} {r : MsRow} (hi : i < rs.length) (h : msC r = msC (msAt rs i)) : (rs.set i r).flatMap msC = rs.flatMap msC := by
  have e0 := msC_at (rs := rs) (i := i) (j := 0) hi (by omega)
  have e1 := msC_at (rs := rs) (i := i) (j := 1) hi (by omega)
  have e2 := msC_at (rs := rs) (i := i) (j := 2) hi (by omega)
  rw [← h] at e0 e1 e2
  rw [Nat.add_zero] at e0
  rw [msC_set r hi, set_same (M := rs.flatMap msC) e0, set_same e1, set_same e2]
theorem MsW.put {w w' : World} {b a n c rs} (h : MsW w b a n c rs) (i : Nat) (hi : i < rs.length) (l : List Int) (o : Own w' b (msAt rs i).2.2.1 (msAt rs i).2.2.2.2.length (msAt rs i).2.2.2.1 l) (ho : Only (foot (msAt rs i).2.2.1 (msAt rs i).2.2.2.1) w w') :
    MsW w' b a n c (rs.set i ((msAt rs i).1, (msAt rs i).2.1, (msAt rs i).2.2.1, (msAt rs i).2.2.2.1, l)) := by
  have hl : l.length = (msAt rs i).2.2.2.2.length := by have := o.len; omega
  have hm := msAt_mem hi
  have hb := bod_at hi
  have hk := set_key (bod rs) i l (by rw [hb]; exact hl) (by rw [bod_len]; exact hi)
  rw [hb] at hk
  have eb : bod (rs.set i ((msAt rs i).1, (msAt rs i).2.1, (msAt rs i).2.2.1, (msAt rs i).2.2.2.1, l)) = (bod rs).set i ((msAt rs i).2.2.1, (msAt rs i).2.2.2.1, l) := bod_set _ _ _
  refine ⟨?_, fun r hr => ?_, ?_, ?_⟩
  · rw [msC_same hi (by simp [msC, rowV, hl])]
    exact h.out.only ho (fun k hk hk' => h.apart k hk (mem_rowsF (mem_bod hm) hk'))
  · obtain ⟨j, hj⟩ := List.getElem?_of_mem hr
    rw [List.getElem?_set] at hj
    by_cases e : i = j
    · subst e
      rw [if_pos rfl, if_pos hi, Option.some.injEq] at hj
      subst hj
      rw [← hl] at o
      exact o
    · rw [if_neg e] at hj
      have hjl := (List.getElem?_eq_some_iff.1 hj).1
      have hrr : msAt rs j = r := by have := msAt_some hjl; rw [hj] at this; exact (Option.some.inj this).symm
      have hmr : r ∈ rs := by rw [← hrr]; exact msAt_mem hjl
      refine (h.inn r hmr).only ho ?_
      have hp := List.pairwise_iff_getElem.1 h.dis
      have ei : (bod rs)[i]'(by rw [bod_len]; exact hi) = (msAt rs i).2.2 := by simp [bod, msAt, List.getD, hi]
      have ej : (bod rs)[j]'(by rw [bod_len]; exact hjl) = r.2.2 := by rw [← hrr]; simp [bod, msAt, List.getD, hjl]
      rcases Nat.lt_or_gt_of_ne e with hlt | hgt
      · have := hp i j (by rw [bod_len]; exact hi) (by rw [bod_len]; exact hjl) hlt; rw [ei, ej] at this; exact this.symm
      · have := hp j i (by rw [bod_len]; exact hjl) (by rw [bod_len]; exact hi) hgt; rw [ei, ej] at this; exact this
  · have e : ∀ q : List RowD, (q.Pairwise fun r s => Disj (foot r.1 r.2.1) (foot s.1 s.2.1)) ↔ ((q.map (fun r => (r.1, r.2.1, r.2.2.length))).Pairwise fun r s => Disj (foot r.1 r.2.1) (foot s.1 s.2.1)) := fun q => by rw [List.pairwise_map]
    rw [eb, e, hk, ← e]
    exact h.dis
  · rw [eb, rowsF_key hk]; exact h.apart
def UpS (k : Int) (rs : List MsRow) : Prop := ∀ j, j < rs.length → (msAt rs j).1 = k + 2 * j + tot ((bod rs).take j) ∧ (msAt rs j).2.1 = k + 2 * j + tot ((bod rs).take j) + 1 ∧ UpFrom (k + 2 * j + tot ((bod rs).take j) + 2) (msAt rs j).2.2.2.2
def MsR (w : World) (a : Option Addr) (n c : Nat) (D : List MsD) : Prop := ∃ rs, MsS w a n c rs ∧ rs.map msD = D
def MsO (w : World) (b : Nat) (a : Option Addr) (n c : Nat) (D : List MsD) (F : List Nat) : Prop := ∃ rs, MsW w b a n c rs ∧ rs.map msD = D ∧ F = feetSS a c (bod rs)
def totM (D : List MsD) : Nat := (D.map fun d => d.2.2.length).sum
def mdAt (D : List MsD) (j : Nat) : MsD := D.getD j (0, 0, [])
def UpM (k : Int) (D : List MsD) : Prop := ∀ j, j < D.length → (mdAt D j).1 = k + 2 * j + totM (D.take j) ∧ (mdAt D j).2.1 = k + 2 * j + totM (D.take j) + 1 ∧ UpFrom (k + 2 * j + totM (D.take j) + 2) (mdAt D j).2.2
theorem totM_map (rs : List MsRow) : totM (rs.map msD) = tot (bod rs) := by unfold totM tot bod; rw [List.map_map, List.map_map]; rfl
theorem totM_take (rs : List MsRow) (j : Nat) : totM ((rs.map msD).take j) = tot ((bod rs).take j) := by
  rw [← List.map_take, totM_map]; unfold bod; rw [List.map_take]
theorem mdAt_map {rs : List MsRow} {j : Nat} (h : j < rs.length) : mdAt (rs.map msD) j = msD (msAt rs j) := by
  unfold mdAt msAt; simp [List.getD, h]
theorem UpM.of {k : Int} {rs : List MsRow} : UpM k (rs.map msD) ↔ UpS k rs := by
  unfold UpM UpS
  constructor
  · intro h j hj
    have := h j (by simpa using hj)
    rwa [totM_take, mdAt_map hj] at this
  · intro h j hj
    have hj' : j < rs.length := by simpa using hj
    rw [totM_take, mdAt_map hj']
    exact h j hj'
theorem MsR.below {w w' a n c D} (h : MsR w a n c D) (hb : Below w.heap.size w w') : MsR w' a n c D := by obtain ⟨rs, h1, h2⟩ := h; exact ⟨rs, h1.below hb, h2⟩
theorem MsR.len {w a n c D} (h : MsR w a n c D) : D.length = n := by obtain ⟨rs, h1, rfl⟩ := h; rw [List.length_map]; exact h1.len
theorem MsR.le {w a n c D} (h : MsR w a n c D) : (n : Int) ≤ 9223372036854775807 := by obtain ⟨rs, h1, _⟩ := h; exact h1.le
theorem MsO.rd {w b a n c D F} (h : MsO w b a n c D F) : MsR w a n c D := by obtain ⟨rs, h1, h2, _⟩ := h; exact ⟨rs, h1.reads, h2⟩
theorem MsO.feet {w b a n c D F} (h : MsO w b a n c D F) : ∀ q ∈ F, b ≤ q ∧ q < w.heap.size := by obtain ⟨rs, h1, _, rfl⟩ := h; exact h1.feet
theorem MsO.only {X : List Nat} {w w' b a n c D F} (h : MsO w b a n c D F) (ho : Only X w w') (hd : Disj F X) : MsO w' b a n c D F := by obtain ⟨rs, h1, h2, rfl⟩ := h; exact ⟨rs, h1.only ho hd, h2, rfl⟩
theorem MsO.below {w w' b a n c D F} (h : MsO w b a n c D F) (hb : Below w.heap.size w w') : MsO w' b a n c D F := by obtain ⟨rs, h1, h2, h3⟩ := h; exact ⟨rs, h1.below hb, h2, h3⟩
theorem MsO.alloc {w b a n c D F} (h : MsO w b a n c D F) (o : Obj) : MsO (w.alloc o) b a n c D F := h.below ((Below.refl _ _).alloc (Nat.le_refl _) _)
theorem MsO.drew {w b a n c D F} (h : MsO w b a n c D F) : MsO w.drew b a n c D F := h.below ((Below.refl _ _).drew)
theorem MsO.lower {w b b' a n c D F} (h : MsO w b a n c D F) (hb : b' ≤ b) : MsO w b' a n c D F := by obtain ⟨rs, h1, h2, h3⟩ := h; exact ⟨rs, h1.lower hb, h2, h3⟩
theorem MsO.nil (w : World) (b : Nat) (a : Option Addr) : MsO w b a 0 0 [] [] := ⟨[], MsW.nil0 _ _ _, rfl, by simp [bod, feetSS_nil]⟩
end Go.Proofs.YtlmdckcohoddnaaDoor
namespace Go.Proofs.YtlmdckcohoddnaaDoor
open Go.RowKit
theorem bod_app (l l' : List MsRow) : bod (l ++ l') = bod l ++ bod l' := by unfold bod; rw [List.map_append]
theorem MsW.app {w w' : World} {b a n c} {rs rs2 : List MsRow} {a5 : Option Addr} {n5 c5 : Nat} (h : MsW w b a n c rs) (h2 : ∀ r ∈ rs2, Own w b r.2.2.1 r.2.2.2.2.length r.2.2.2.1 r.2.2.2.2)
    (hp : (bod rs2).Pairwise fun r s => Disj (foot r.1 r.2.1) (foot s.1 s.2.1)) (hd : Disj (rowsF (bod rs2)) (feetSS a c (bod rs)))
    (o : OwnC w' b a5 n5 c5 44 3 (rs.flatMap msC ++ rs2.flatMap msC)) (g : w.grownBy w' (rowOf a c)) (m : Moved w a c a5 c5) : MsW w' b a5 n5 c5 (rs ++ rs2) := by
  have lt2 : ∀ k ∈ rowsF (bod rs2), k < w.heap.size := fun k hk => by
    obtain ⟨r, hr, hk⟩ := List.mem_flatMap.1 hk
    obtain ⟨s, hs, rfl⟩ := List.mem_map.1 hr
    exact ((h2 s hs).feet k hk).2
  refine ⟨by rw [List.flatMap_append]; exact o, fun s hs => ?_, ?_, ?_⟩
  · rcases List.mem_append.1 hs with hs | hs
    · exact (h.inn s hs).only (Only.of_grown g) (fun k hk hk' => h.apart k hk' (mem_rowsF (mem_bod hs) hk))
    · exact (h2 s hs).only (Only.of_grown g) (fun k hk hk' => hd k (mem_rowsF (mem_bod hs) hk) (List.mem_append_left _ hk'))
  · rw [bod_app, List.pairwise_append]
    exact ⟨h.dis, hp, fun r hr s hs k hk hk' => hd k (mem_rowsF hs hk') (List.mem_append_right _ (mem_rowsF hr hk))⟩
  · rw [bod_app, rowsF_app]
    refine (m.disj (F := rowsF (bod rs) ++ rowsF (bod rs2)) ?_ ?_)
    · exact h.apart.app (fun k hk hk' => hd k hk' (List.mem_append_left _ hk))
    · intro k hk
      rcases List.mem_append.1 hk with hk | hk
      · exact (h.feet k (List.mem_append_right _ hk)).2
      · exact lt2 k hk
theorem MsW.app2 {w w' : World} {b a n c} {rs : List MsRow} {r s : MsRow} {a5 : Option Addr} {c5 : Nat} (h : MsW w b a n c rs) (hr : Own w b r.2.2.1 r.2.2.2.2.length r.2.2.2.1 r.2.2.2.2) (hs : Own w b s.2.2.1 s.2.2.2.2.length s.2.2.2.1 s.2.2.2.2)
    (hrs : Disj (foot r.2.2.1 r.2.2.2.1) (foot s.2.2.1 s.2.2.2.1)) (dr : Disj (foot r.2.2.1 r.2.2.2.1) (feetSS a c (bod rs))) (ds : Disj (foot s.2.2.1 s.2.2.2.1) (feetSS a c (bod rs)))
    (o : OwnC w' b a5 (n + 2) c5 44 3 (rs.flatMap msC ++ (msC r ++ msC s))) (g : w.grownBy w' (rowOf a c)) (m : Moved w a c a5 c5) : MsW w' b a5 (n + 2) c5 (rs ++ [r, s]) := by
  refine h.app (rs2 := [r, s]) (fun q hq => ?_) ?_ ?_ (by simpa using o) g m
  · simp only [List.mem_cons, List.not_mem_nil, or_false] at hq
    rcases hq with rfl | rfl
    · exact hr
    · exact hs
  · show ([r.2.2, s.2.2] : List RowD).Pairwise _
    simp only [List.pairwise_cons, List.mem_cons, List.not_mem_nil, or_false, forall_eq, false_implies, implies_true, and_true, List.Pairwise.nil]
    exact hrs
  · have e : rowsF (bod [r, s]) = foot r.2.2.1 r.2.2.2.1 ++ foot s.2.2.1 s.2.2.2.1 := by simp [bod, rowsF]
    rw [e]
    exact Disj.app_l dr ds
theorem app2_feet {w : World} {a c a5 c5} {rs : List MsRow} {r s : MsRow} {X : List Nat} (hX : Disj X (feetSS a c (bod rs))) (hr : Disj X (foot r.2.2.1 r.2.2.2.1)) (hs : Disj X (foot s.2.2.1 s.2.2.2.1)) (m : Moved w a c a5 c5) (hw : ∀ k ∈ X, k < w.heap.size) :
    Disj X (feetSS a5 c5 (bod (rs ++ [r, s]))) := by
  unfold feetSS
  have e : rowsF (bod [r, s]) = foot r.2.2.1 r.2.2.2.1 ++ foot s.2.2.1 s.2.2.2.1 := by simp [bod, rowsF]
  rw [bod_app, rowsF_app, e]
  refine Disj.app (m.disj (fun k hk hk' => hX k hk' (List.mem_append_left _ hk)) hw).symm (Disj.app (fun k hk hk' => hX k hk (List.mem_append_right _ hk')) (Disj.app hr hs))
theorem MsO.app2 {w : World} {b a n c} {D : List MsD} {F : List Nat} (h : MsO w b a n c D F) : ∃ rs : List MsRow, OwnC w b a n c 44 3 (rs.flatMap msC) ∧ rs.map msD = D ∧ ∀ (w' : World) (r s : MsRow) (a5 : Option Addr) (c5 : Nat),
    Own w b r.2.2.1 r.2.2.2.2.length r.2.2.2.1 r.2.2.2.2 → Own w b s.2.2.1 s.2.2.2.2.length s.2.2.2.1 s.2.2.2.2 → Disj (foot r.2.2.1 r.2.2.2.1) (foot s.2.2.1 s.2.2.2.1) → Disj (foot r.2.2.1 r.2.2.2.1) F → Disj (foot s.2.2.1 s.2.2.2.1) F →
    OwnC w' b a5 (n + 2) c5 44 3 (rs.flatMap msC ++ (msC r ++ msC s)) → w.grownBy w' (rowOf a c) → Moved w a c a5 c5 →
    ∃ F', MsO w' b a5 (n + 2) c5 (D ++ [msD r, msD s]) F' ∧ ∀ X : List Nat, Disj X F → Disj X (foot r.2.2.1 r.2.2.2.1) → Disj X (foot s.2.2.1 s.2.2.2.1) → (∀ k ∈ X, k < w.heap.size) → Disj X F' := by
  obtain ⟨rs, h1, rfl, rfl⟩ := h
  refine ⟨rs, h1.out, rfl, fun w' r s a5 c5 hr hs hrs dr ds o g m => ⟨_, ⟨_, h1.app2 hr hs hrs dr ds o g m, by simp, rfl⟩, fun X hX x1 x2 hw => app2_feet hX x1 x2 m hw⟩⟩
end Go.Proofs.YtlmdckcohoddnaaDoor
namespace Go.Proofs.YtlmdckcohoddnaaDoor
open Go.RowKit
theorem MsO.foot {w : World} {b a n c} {D : List MsD} {F : List Nat} (h : MsO w b a n c D F) : ∀ q ∈ Go.Proofs.YtlmdckcohoddnaaDoor.foot a c, q ∈ F := fun q hq => by
  obtain ⟨rs, _, _, rfl⟩ := h
  exact List.mem_append_left _ hq
section
variable {o : Oper} {act : Act} {Q : Exit → Act → World → Prop}
theorem wpList_appM2 (w : World) {ops : Array Oper} {rest : List Oper} (hgd : o.guard = none)
    (s x : Operand) (ho : o.op = .call { callee := .builtin .append, args := #[s, x], argTypes := #[63, 63] })
    (b : Nat) (a : Option Addr) (n c : Nat) (D : List MsD) (F : List Nat) (om : MsO w b a n c D F) (hs : act.eval s = .slice a n c)
    (f1 s1 f2 s2 : Int) (b1 : Option Addr) (c1 : Nat) (l1 : List Int) (b2 : Option Addr) (c2 : Nat) (l2 : List Int)
    (h1 : Own w b b1 l1.length c1 l1) (h2 : Own w b b2 l2.length c2 l2) (h12 : Disj (foot b1 c1) (foot b2 c2)) (d1 : Disj (foot b1 c1) F) (d2 : Disj (foot b2 c2) F)
    (hx : act.eval x = .slice (some ⟨w.heap.size, 0, none⟩) 2 2) (hlen : n + 2 ≤ 1000000) (hbase : b ≤ w.heap.size)
    (h : ∀ a5 c5 w' F', MsO w' b a5 (n + 2) c5 (D ++ [(f1, s1, l1), (f2, s2, l2)]) F' → (∀ X : List Nat, Disj X F → Disj X (foot b1 c1) → Disj X (foot b2 c2) → (∀ k ∈ X, k < w.heap.size) → Disj X F') → Only (foot a c) w w' →
      (∀ X : List Nat, Disj X (foot a c) → (∀ k ∈ X, k < w.heap.size) → Disj X (foot a5 c5)) → wpList Tryd.prog ops Q rest (act.put o.dst (.slice a5 (n + 2) c5)) w') :
    wpList Tryd.prog ops Q (o :: rest) act (w.alloc (.cells #[.int .i64 f1, .int .i64 s1, .slice b1 l1.length c1, .int .i64 f2, .int .i64 s2, .slice b2 l2.length c2] 44)) := by
  obtain ⟨w2, hw2⟩ : ∃ q, q = w.alloc (.cells #[.int .i64 f1, .int .i64 s1, .slice b1 l1.length c1, .int .i64 f2, .int .i64 s2, .slice b2 l2.length c2] 44) := ⟨_, rfl⟩
  have u : Below w.heap.size w w2 := by rw [hw2]; exact (Below.refl _ _).alloc (Nat.le_refl _) _
  have hrow : RowC w2 (some ⟨w.heap.size, 0, none⟩) 2 2 3 (msC (f1, s1, b1, c1, l1) ++ msC (f2, s2, b2, c2, l2)) := by
    rw [hw2]; exact (OwnC.lit w 0 2 44 3 [.int .i64 f1, .int .i64 s1, .slice b1 l1.length c1, .int .i64 f2, .int .i64 s2, .slice b2 l2.length c2] (Nat.zero_le _) rfl (by simp [maxLen])).row
  have hsz := u.size
  have om2 := om.below u
  rw [← hw2]
  clear hw2
  obtain ⟨rs, q1, q2, q3⟩ := om2.app2
  refine wpList_appM hgd s x ho b a n c _ hs q1 _ 2 2 _ hx hrow (fun v hv => ?_) hlen (by omega) fun a5 c5 w' o5 _ g m => ?_
  · simp only [msC, List.cons_append, List.nil_append, List.mem_cons, List.not_mem_nil, or_false] at hv
    rcases hv with rfl | rfl | rfl | rfl | rfl | rfl <;> rfl
  · obtain ⟨F', t1, t2⟩ := q3 w' (f1, s1, b1, c1, l1) (f2, s2, b2, c2, l2) a5 c5 (h1.below u) (h2.below u) h12 d1 d2 o5 g m
    exact h a5 c5 w' F' t1 (fun X x1 x2 x3 hX => t2 X x1 x2 x3 (fun k hk => by have := hX k hk; omega)) ((Only.of_below u).trans (Only.of_grown g)) (fun X hX hX2 => (m.disj hX.symm (fun k hk => by have := hX2 k hk; omega)).symm)
end
end Go.Proofs.YtlmdckcohoddnaaDoor
