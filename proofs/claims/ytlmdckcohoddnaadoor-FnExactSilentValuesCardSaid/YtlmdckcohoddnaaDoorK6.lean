/- Lemmas and walks that the claim's proof rests on, part 6. -/
import Derived.BigRegion
import Derived.StillTailTactics
import Derived.Deep.DeepCutAuto
import Derived.Test.YtlmdckcohoddnaaDoorK1
import Derived.Test.YtlmdckcohoddnaaDoorK2
import Derived.Test.YtlmdckcohoddnaaDoorK4
import Derived.Test.YtlmdckcohoddnaaDoorK5
namespace Go.Proofs.YtlmdckcohoddnaaDoor
open Go.RowKit
set_option maxHeartbeats 8000000 in
set_option maxRecDepth 100000 in
theorem ptFirst_any (a : Pl) (x : PlX) (w : World) (h : PlR w x a.shares a.keys a.heard) (hN : PlN a) (hs : 1 ≤ a.step) :
    Calls Tryd.prog 138 #[.agg #[.int .i64 a.P, .int .i64 a.party, .int .i64 a.input, .int .i64 a.mask, .int .i64 a.delta, .slice x.sa x.sn x.sc, .slice x.ka x.kn x.kc, .int .i64 a.step, .slice x.ha x.hn x.hc, .int .i64 a.status, .int .i64 a.out]] w fun e w' => ∃ b c, e = .returned (.slice b 2 c) ∧ Ints w' b 2 c [f0 a, f1 a] ∧ Below w.heap.size w w' := by
  have i1 := hN.ip
  have m1 := hN.mks
  have hp1 := hN.p1
  have hp2 := hN.p2
  have hlen := hN.hl
  have hpa := hN.party01
  obtain ⟨hhn, g, o, r, hx, e0, inn, hr⟩ := h.hd 0 (by omega)
  have hrl := (hN.hb 0 (by omega)).1
  rw [← hr] at hrl
  have hrl' : r.2.2.length = 1 := hrl
  obtain ⟨g2, o2, hr1, e1⟩ := inn.at 0 (by omega)
  have hv : r.2.2.getD 0 0 = hdI a 0 0 := by rw [hr]; rfl
  rw [hv] at e1
  rw [hr1, hrl'] at e0
  have hnp : (0 : Int) < (x.hn : Int) := by omega
  clear hr hrl hrl' hr1 hv inn hhn hlen h
  simp only [Nat.add_zero] at e0 e1
  obtain ⟨x_sa, x_sn, x_sc, x_ka, x_kn, x_kc, x_ha, x_hn, x_hc⟩ := x
  dsimp only at *
  subst hx
  have F0 : f0 a = if a.party = 0 then mkI a else hdI a 0 0 := rfl
  have F1 : f1 a = if a.party = 0 then hdI a 0 0 else mkI a := rfl
  have MK : mkI a = (a.input - a.mask) % a.P := rfl
  generalize f0 a = ff0 at *
  generalize f1 a = ff1 at *
  generalize mkI a = mk0 at *
  generalize hdI a 0 0 = y0 at *
  clear hN hs
  obtain ⟨P, pa, ip, mk, de, S, K, st0, H, ss, ou⟩ := a
  dsimp only at *
  have t1 : IntKind.i64.wrap (ip - mk) = ip - mk := IntWalk.i64_in _ (by omega)
  replace MK := Lib.hid MK
  rcases hpa with rfl | rfl
  all_goals
    first | rw [if_pos rfl] at F0 F1 | rw [if_neg (by omega)] at F0 F1
    replace F0 := Lib.hid F0
    replace F1 := Lib.hid F1
  · skip
    go_enter Tryd.func138, Tryd.ntmps138
    go_upto_region 1 with fail
    refine Exists.elim (Blk.new_ w (b := w.heap.size) rfl 31 #[.int .i64 P, .int .i64 0, .int .i64 ip, .int .i64 mk, .int .i64 de, .slice x_sa x_sn x_sc, .slice x_ka x_kn x_kc, .int .i64 st0, .slice (some ⟨g, o, none⟩) x_hn x_hc, .int .i64 ss, .int .i64 ou]) (fun w1' q => ?_)
    rw [q.1]; have B_a := q.2.1; have s_w1' := q.2.2.1; have u_w1' := q.2.2.2; clear q
    have S_w1' : w.heap.size + 1 ≤ w1'.heap.size := Nat.le_of_eq s_w1'.symm
    have V_w1' := (Below.refl w.heap.size w).trans (u_w1'.mono ((Below.refl w.heap.size w)).size)
    clear u_w1' s_w1'
    have e_a := B_a.all11
    have q0 := keepC V_w1' e0
    have q1 := keepC V_w1' e1
    go_region
    clear e_a
    clear q0 q1
    have oL : Own ((w1'.alloc (.cells #[.int .i64 y0, .int .i64 y0] 3)).drew) w1'.heap.size (some ⟨w1'.heap.size, 0, none⟩) 2 2 [y0, y0] := (Own.lit w1' _ [y0, y0] (Nat.le_refl _) (by simp [maxLen])).drew
    have SW := V_w1'.size
    refine Exists.elim (Blk.new_ w1' (b := w1'.heap.size) rfl 3 #[.int .i64 y0, .int .i64 y0]) (fun w2p' q => ?_)
    (try rw [q.1] at oL); (try rw [q.1]); have B_z := q.2.1; have s_w2p' := q.2.2.1; have u_w2p' := q.2.2.2; clear q
    replace B_a := B_a.below u_w2p'
    have S_w2p' : w1'.heap.size + 1 ≤ w2p'.heap.size := Nat.le_of_eq s_w2p'.symm
    have V_w2p' := V_w1'.trans (u_w2p'.mono (V_w1').size)
    clear u_w2p' s_w2p' V_w1'
    have V_w2'_1 : Below w.heap.size w w2p'.drew := (V_w2p').drew
    replace B_a := B_a.drew
    replace B_z := B_z.drew
    have S_w2' : w2p'.heap.size + 0 ≤ w2p'.drew.heap.size := by first | (simp; done) | (simp; omega) | (simp [World.setCell]; done) | (simp [World.setCell]; omega)
    generalize w2p'.drew = w2' at *
    have V_w2' : Below w.heap.size w w2' := V_w2'_1
    clear V_w2p'
    clear V_w2'_1
    generalize w1'.heap.size = gL at *
    clear B_z
    obtain ⟨_, E, _, _, c0, c1, c2⟩ := oL.at 0 (by omega)
    cases E
    have e_a := B_a.all11
    have SS := oL.drew
    go_wp2
    refine wp_region_still_tail 12 (by kernel_rfl) (by kernel_rfl) ?_
    simp only [List.take_succ_cons, List.take_zero, List.drop_succ_cons, List.drop_zero]
    repeat (first | still_step | still_call (btMod_same _ _ _ (by omega) (by omega)))
    refine wpStill_nil ?_
    change wpList _ _ _ _ _ w2'.drew
    clear e_a
    have oD := oL.drew
    clear oL SS
    rw [← MK.out]
    obtain ⟨_, E, _, _, c0, c1, c2⟩ := oD.at 0 (by omega)
    cases E
    have c3 := Lib.hid (c2 mk0)
    clear c2
    go_wp2
    go_ret
    exact ⟨_, _, rfl, by rw [F0.out, F1.out]; exact c3.out.ints, V_w2'.drew.setCell (p := ⟨gL, 0, none⟩) SW _⟩
  · skip
    go_enter Tryd.func138, Tryd.ntmps138
    go_upto_region 1 with fail
    refine Exists.elim (Blk.new_ w (b := w.heap.size) rfl 31 #[.int .i64 P, .int .i64 1, .int .i64 ip, .int .i64 mk, .int .i64 de, .slice x_sa x_sn x_sc, .slice x_ka x_kn x_kc, .int .i64 st0, .slice (some ⟨g, o, none⟩) x_hn x_hc, .int .i64 ss, .int .i64 ou]) (fun w3' q => ?_)
    rw [q.1]; have B_a := q.2.1; have s_w3' := q.2.2.1; have u_w3' := q.2.2.2; clear q
    have S_w3' : w.heap.size + 1 ≤ w3'.heap.size := Nat.le_of_eq s_w3'.symm
    have V_w3' := (Below.refl w.heap.size w).trans (u_w3'.mono ((Below.refl w.heap.size w)).size)
    clear u_w3' s_w3'
    have e_a := B_a.all11
    have q0 := keepC V_w3' e0
    have q1 := keepC V_w3' e1
    go_region
    clear e_a
    clear q0 q1
    have oL : Own ((w3'.alloc (.cells #[.int .i64 y0, .int .i64 y0] 3)).drew) w3'.heap.size (some ⟨w3'.heap.size, 0, none⟩) 2 2 [y0, y0] := (Own.lit w3' _ [y0, y0] (Nat.le_refl _) (by simp [maxLen])).drew
    have SW := V_w3'.size
    refine Exists.elim (Blk.new_ w3' (b := w3'.heap.size) rfl 3 #[.int .i64 y0, .int .i64 y0]) (fun w4p' q => ?_)
    (try rw [q.1] at oL); (try rw [q.1]); have B_z := q.2.1; have s_w4p' := q.2.2.1; have u_w4p' := q.2.2.2; clear q
    replace B_a := B_a.below u_w4p'
    have S_w4p' : w3'.heap.size + 1 ≤ w4p'.heap.size := Nat.le_of_eq s_w4p'.symm
    have V_w4p' := V_w3'.trans (u_w4p'.mono (V_w3').size)
    clear u_w4p' s_w4p' V_w3'
    have V_w4'_1 : Below w.heap.size w w4p'.drew := (V_w4p').drew
    replace B_a := B_a.drew
    replace B_z := B_z.drew
    have S_w4' : w4p'.heap.size + 0 ≤ w4p'.drew.heap.size := by first | (simp; done) | (simp; omega) | (simp [World.setCell]; done) | (simp [World.setCell]; omega)
    generalize w4p'.drew = w4' at *
    have V_w4' : Below w.heap.size w w4' := V_w4'_1
    clear V_w4p'
    clear V_w4'_1
    generalize w3'.heap.size = gL at *
    clear B_z
    obtain ⟨_, E, _, _, c0, c1, c2⟩ := oL.at 1 (by omega)
    cases E
    have e_a := B_a.all11
    have SS := oL.drew
    go_wp2
    refine wp_region_still_tail 12 (by kernel_rfl) (by kernel_rfl) ?_
    simp only [List.take_succ_cons, List.take_zero, List.drop_succ_cons, List.drop_zero]
    repeat (first | still_step | still_call (btMod_same _ _ _ (by omega) (by omega)))
    refine wpStill_nil ?_
    change wpList _ _ _ _ _ w4'.drew
    clear e_a
    have oD := oL.drew
    clear oL SS
    rw [← MK.out]
    obtain ⟨_, E, _, _, c0, c1, c2⟩ := oD.at 1 (by omega)
    cases E
    have c3 := Lib.hid (c2 mk0)
    clear c2
    go_wp2
    go_ret
    exact ⟨_, _, rfl, by rw [F0.out, F1.out]; exact c3.out.ints, V_w4'.drew.setCell (p := ⟨gL, 1, none⟩) SW _⟩
set_option maxHeartbeats 8000000 in
set_option maxRecDepth 100000 in
theorem ptShift_any (a : Pl) (x : PlX) (v t k : Int) (w : World) (hN : PlN a) (hv : 0 ≤ v ∧ v ≤ 1000) (hk : 0 ≤ k ∧ k ≤ 1000) :
    Calls Tryd.prog 143 #[.agg #[.int .i64 a.P, .int .i64 a.party, .int .i64 a.input, .int .i64 a.mask, .int .i64 a.delta, .slice x.sa x.sn x.sc, .slice x.ka x.kn x.kc, .int .i64 a.step, .slice x.ha x.hn x.hc, .int .i64 a.status, .int .i64 a.out], .agg #[.int .i64 v, .int .i64 t], .int .i64 k] w fun e w' => e = .returned (.agg #[.int .i64 (shfV a v k), .int .i64 t]) ∧ Below w.heap.size w w' := by
  have hp1 := hN.p1
  have hp2 := hN.p2
  have t1 : IntKind.i64.wrap (v + k) = v + k := IntWalk.i64_in _ (by omega)
  have t2 : (v + k).tmod a.P = (v + k) % a.P := Int.tmod_eq_emod_of_nonneg (by omega)
  have t3 : IntKind.i64.wrap ((v + k) % a.P) = (v + k) % a.P := IntWalk.i64_in _ (by have := emod_rng (v + k) a.P (by omega); omega)
  have t7 : (a.P == 0) = false := by simp; omega
  have t8 : (a.P = 0) = False := by simp; omega
  clear hN
  unfold shfV
  by_cases k0 : a.party = 0
  · rw [if_pos k0]
    have k1 : ((a.party == 0) : Bool) = true := by simpa using k0
    clear k0
    go_enter Tryd.func143, Tryd.ntmps143
    go_upto_if 9 with fail
    refine Exists.elim (Blk.new_ w (b := w.heap.size) rfl 31 #[.int .i64 a.P, .int .i64 a.party, .int .i64 a.input, .int .i64 a.mask, .int .i64 a.delta, .slice x.sa x.sn x.sc, .slice x.ka x.kn x.kc, .int .i64 a.step, .slice x.ha x.hn x.hc, .int .i64 a.status, .int .i64 a.out]) (fun w1_a0' q => ?_)
    rw [q.1]; have B_a := q.2.1; have s_w1_a0' := q.2.2.1; have u_w1_a0' := q.2.2.2; clear q
    refine Exists.elim (Blk.new_ w1_a0' (b := w.heap.size + 1) s_w1_a0' 81 #[.int .i64 v, .int .i64 t]) (fun w1_a1' q => ?_)
    rw [q.1]; have B_y := q.2.1; have s_w1_a1' := q.2.2.1; have u_w1_a1' := q.2.2.2; clear q
    refine Exists.elim (Blk.new_ w1_a1' (b := w.heap.size + 2) s_w1_a1' 81 #[.int .i64 0, .int .i64 0]) (fun w1' q => ?_)
    rw [q.1]; have B_r := q.2.1; have s_w1' := q.2.2.1; have u_w1' := q.2.2.2; clear q
    replace B_a := ((B_a.below u_w1_a1').below u_w1')
    replace B_y := (B_y.below u_w1')
    have U := (u_w1_a0'.trans ((u_w1_a1'.trans (u_w1'.mono u_w1_a1'.size)).mono u_w1_a0'.size))
    have S_w1' : w.heap.size + 3 ≤ w1'.heap.size := Nat.le_of_eq s_w1'.symm
    have V_w1' := (Below.refl w.heap.size w).trans (U.mono ((Below.refl w.heap.size w)).size)
    clear u_w1_a0' u_w1_a1' u_w1' s_w1_a0' s_w1_a1' s_w1' U
    have e_a := B_a.all11
    have e_y := B_y.all2
    have f_y := B_y.frz2
    have e_r := B_r.all2
    have f_r := B_r.frz2
    go_wp2
    have V9 := ((V_w1'.setCell (p := ⟨w.heap.size + 1, 0, none⟩) (by simp) (.int .i64 ((v + k) % a.P))).setCell (p := ⟨w.heap.size + 2, 0, none⟩) (by simp) (.int .i64 ((v + k) % a.P))).setCell (p := ⟨w.heap.size + 2, 1, none⟩) (by simp) (.int .i64 t)
    exact bodyPost_ret (v := .agg #[.int .i64 ((v + k) % a.P), .int .i64 t]) (by simp [results, Tryd.results143, go_sem, e_r]) rfl ⟨rfl, V9⟩
  · rw [if_neg k0]
    have k1 : ((a.party == 0) : Bool) = false := by simpa using k0
    clear k0
    go_enter Tryd.func143, Tryd.ntmps143
    go_upto_if 9 with fail
    refine Exists.elim (Blk.new_ w (b := w.heap.size) rfl 31 #[.int .i64 a.P, .int .i64 a.party, .int .i64 a.input, .int .i64 a.mask, .int .i64 a.delta, .slice x.sa x.sn x.sc, .slice x.ka x.kn x.kc, .int .i64 a.step, .slice x.ha x.hn x.hc, .int .i64 a.status, .int .i64 a.out]) (fun w2_a0' q => ?_)
    rw [q.1]; have B_a := q.2.1; have s_w2_a0' := q.2.2.1; have u_w2_a0' := q.2.2.2; clear q
    refine Exists.elim (Blk.new_ w2_a0' (b := w.heap.size + 1) s_w2_a0' 81 #[.int .i64 v, .int .i64 t]) (fun w2_a1' q => ?_)
    rw [q.1]; have B_y := q.2.1; have s_w2_a1' := q.2.2.1; have u_w2_a1' := q.2.2.2; clear q
    refine Exists.elim (Blk.new_ w2_a1' (b := w.heap.size + 2) s_w2_a1' 81 #[.int .i64 0, .int .i64 0]) (fun w2' q => ?_)
    rw [q.1]; have B_r := q.2.1; have s_w2' := q.2.2.1; have u_w2' := q.2.2.2; clear q
    replace B_a := ((B_a.below u_w2_a1').below u_w2')
    replace B_y := (B_y.below u_w2')
    have U := (u_w2_a0'.trans ((u_w2_a1'.trans (u_w2'.mono u_w2_a1'.size)).mono u_w2_a0'.size))
    have S_w2' : w.heap.size + 3 ≤ w2'.heap.size := Nat.le_of_eq s_w2'.symm
    have V_w2' := (Below.refl w.heap.size w).trans (U.mono ((Below.refl w.heap.size w)).size)
    clear u_w2_a0' u_w2_a1' u_w2' s_w2_a0' s_w2_a1' s_w2' U
    have e_a := B_a.all11
    have e_y := B_y.all2
    have f_y := B_y.frz2
    have e_r := B_r.all2
    have f_r := B_r.frz2
    go_wp2
    have V9 := (V_w2'.setCell (p := ⟨w.heap.size + 2, 0, none⟩) (by simp) (.int .i64 v)).setCell (p := ⟨w.heap.size + 2, 1, none⟩) (by simp) (.int .i64 t)
    exact bodyPost_ret (v := .agg #[.int .i64 v, .int .i64 t]) (by simp [results, Tryd.results143, go_sem, e_r]) rfl ⟨rfl, V9⟩
end Go.Proofs.YtlmdckcohoddnaaDoor
namespace Go.Proofs.YtlmdckcohoddnaaDoor
open Go.RowKit
section
variable {T E sz bytes : Nat} {z : Value} {w : World} {o : Oper} {act : Act} {Q : Exit → Act → World → Prop}
theorem wp_appC {K : Act → World → Prop} (hu : Tryd.prog.underlying T = some (.slice E)) (hinfo : (Tryd.prog.info? E).map (fun i => (i.zero, i.size, i.bytes)) = some (some z, sz, bytes)) (hzs : z.cells.size = sz) (hsz : 0 < sz)
    (s x : Operand) (ho : o.op = .call { callee := .builtin .append, args := #[s, x], argTypes := #[T, T] })
    (b : Nat) (a : Option Addr) (n c : Nat) (xs : List Value) (hs : act.eval s = .slice a n c) (hown : OwnC w b a n c E sz xs)
    (a' : Option Addr) (m c' : Nat) (xs' : List Value) (hx : act.eval x = .slice a' m c') (hrow : RowC w a' m c' sz xs') (h1 : ∀ u ∈ xs', u.oneCell' = true)
    (hlen : (n + m) * bytes ≤ 140737488355328) (hmax : n + m ≤ maxLen) (hbase : b ≤ w.heap.size)
    (h : ∀ a2 c2 w', OwnC w' b a2 (n + m) c2 E sz (xs ++ xs') → Below b w w' → w.grownBy w' (rowOf a c) → Moved w a c a2 c2 → K (act.put o.dst (.slice a2 (n + m) c2)) w') : o.wp Tryd.prog act w K Q := by
  obtain ⟨i0, hi, hz0, hz1, hz2⟩ := info_parts hinfo
  obtain ⟨a2, c2, w', hrun, h1, h2, _, h9⟩ := run_app2 w T o.type b E i0 z sz bytes hu hi hz0 hz1 hz2 hzs hsz a n c _ hown a' m c' _ hrow h1 hlen hmax hbase
  unfold Oper.wp
  simp [execOp, ho, resolve, invoke, builtin, hs, hx, hrun, Result.andThen]
  exact h a2 c2 w' h1 (below_grownBy h2 hbase (fun x hc hx => (hown.range x hc hx).1)) h2 h9
theorem wpList_appC {ops : Array Oper} {rest : List Oper} (hu : Tryd.prog.underlying T = some (.slice E)) (hinfo : (Tryd.prog.info? E).map (fun i => (i.zero, i.size, i.bytes)) = some (some z, sz, bytes)) (hzs : z.cells.size = sz) (hsz : 0 < sz) (hgd : o.guard = none)
    (s x : Operand) (ho : o.op = .call { callee := .builtin .append, args := #[s, x], argTypes := #[T, T] })
    (b : Nat) (a : Option Addr) (n c : Nat) (xs : List Value) (hs : act.eval s = .slice a n c) (hown : OwnC w b a n c E sz xs)
    (a' : Option Addr) (m c' : Nat) (xs' : List Value) (hx : act.eval x = .slice a' m c') (hrow : RowC w a' m c' sz xs') (h1 : ∀ u ∈ xs', u.oneCell' = true)
    (hlen : (n + m) * bytes ≤ 140737488355328) (hmax : n + m ≤ maxLen) (hbase : b ≤ w.heap.size)
    (h : ∀ a2 c2 w', OwnC w' b a2 (n + m) c2 E sz (xs ++ xs') → Below b w w' → w.grownBy w' (rowOf a c) → Moved w a c a2 c2 → wpList Tryd.prog ops Q rest (act.put o.dst (.slice a2 (n + m) c2)) w') : wpList Tryd.prog ops Q (o :: rest) act w :=
  wpList_plain hgd fun _ hK => wp_appC hu hinfo hzs hsz s x ho b a n c xs hs hown a' m c' xs' hx hrow h1 hlen hmax hbase fun a2 c2 w' h1 h2 h3 h5 => hK _ _ (h a2 c2 w' h1 h2 h3 h5)
theorem step_appC {ops : Array Oper} {K : Act → World → Prop} {P2 : Prop} (hu : Tryd.prog.underlying T = some (.slice E)) (hinfo : (Tryd.prog.info? E).map (fun i => (i.zero, i.size, i.bytes)) = some (some z, sz, bytes)) (hzs : z.cells.size = sz) (hsz : 0 < sz) (hgd : o.guard = none)
    (s x : Operand) (ho : o.op = .call { callee := .builtin .append, args := #[s, x], argTypes := #[T, T] })
    (b : Nat) (a : Option Addr) (n c : Nat) (xs : List Value) (hs : act.eval s = .slice a n c) (hown : OwnC w b a n c E sz xs)
    (a' : Option Addr) (m c' : Nat) (xs' : List Value) (hx : act.eval x = .slice a' m c') (hrow : RowC w a' m c' sz xs') (h1 : ∀ u ∈ xs', u.oneCell' = true)
    (hlen : (n + m) * bytes ≤ 140737488355328) (hmax : n + m ≤ maxLen) (hbase : b ≤ w.heap.size)
    (h : ∀ a2 c2 w', OwnC w' b a2 (n + m) c2 E sz (xs ++ xs') → Below b w w' → w.grownBy w' (rowOf a c) → Moved w a c a2 c2 → K (act.put o.dst (.slice a2 (n + m) c2)) w') :
    if Region.wanted o (yielded ops act.tmps) = true then Oper.wp Tryd.prog o act w K Q else P2 := by
  rw [if_pos (by simp [Region.wanted, hgd])]
  exact wp_appC hu hinfo hzs hsz s x ho b a n c xs hs hown a' m c' xs' hx hrow h1 hlen hmax hbase h
end
theorem one_ints (l : List Int) : ∀ u ∈ l.map (Value.int .i64), u.oneCell' = true := fun u hu => by
  simp only [List.mem_map] at hu
  obtain ⟨y, _, rfl⟩ := hu
  rfl
theorem one_rows (rs : List RowD) : ∀ u ∈ rs.map rowV, u.oneCell' = true := fun u hu => by
  simp only [List.mem_map] at hu
  obtain ⟨y, _, rfl⟩ := hu
  rfl
section
variable {w : World} {o : Oper} {act : Act} {Q : Exit → Act → World → Prop}
theorem wpList_appT {ops : Array Oper} {rest : List Oper} (hgd : o.guard = none)
    (s x : Operand) (ho : o.op = .call { callee := .builtin .append, args := #[s, x], argTypes := #[29, 29] })
    (b : Nat) (a : Option Addr) (n c : Nat) (xs : List Value) (hs : act.eval s = .slice a n c) (hown : OwnC w b a n c 81 2 xs)
    (a' : Option Addr) (m c' : Nat) (xs' : List Value) (hx : act.eval x = .slice a' m c') (hrow : RowC w a' m c' 2 xs') (h1 : ∀ u ∈ xs', u.oneCell' = true)
    (hlen : n + m ≤ 1000000) (hbase : b ≤ w.heap.size)
    (h : ∀ a2 c2 w', OwnC w' b a2 (n + m) c2 81 2 (xs ++ xs') → Below b w w' → w.grownBy w' (rowOf a c) → Moved w a c a2 c2 → wpList Tryd.prog ops Q rest (act.put o.dst (.slice a2 (n + m) c2)) w') : wpList Tryd.prog ops Q (o :: rest) act w :=
  wpList_appC Tryd.underlying29 info_Tagged rfl (by decide) hgd s x ho b a n c xs hs hown a' m c' xs' hx hrow h1 (by omega) (by unfold maxLen; omega) hbase h
theorem step_appT {ops : Array Oper} {K : Act → World → Prop} {P2 : Prop} (hgd : o.guard = none)
    (s x : Operand) (ho : o.op = .call { callee := .builtin .append, args := #[s, x], argTypes := #[29, 29] })
    (b : Nat) (a : Option Addr) (n c : Nat) (xs : List Value) (hs : act.eval s = .slice a n c) (hown : OwnC w b a n c 81 2 xs)
    (a' : Option Addr) (m c' : Nat) (xs' : List Value) (hx : act.eval x = .slice a' m c') (hrow : RowC w a' m c' 2 xs') (h1 : ∀ u ∈ xs', u.oneCell' = true)
    (hlen : n + m ≤ 1000000) (hbase : b ≤ w.heap.size)
    (h : ∀ a2 c2 w', OwnC w' b a2 (n + m) c2 81 2 (xs ++ xs') → Below b w w' → w.grownBy w' (rowOf a c) → Moved w a c a2 c2 → K (act.put o.dst (.slice a2 (n + m) c2)) w') :
    if Region.wanted o (yielded ops act.tmps) = true then Oper.wp Tryd.prog o act w K Q else P2 :=
  step_appC Tryd.underlying29 info_Tagged rfl (by decide) hgd s x ho b a n c xs hs hown a' m c' xs' hx hrow h1 (by omega) (by unfold maxLen; omega) hbase h
end
section
variable {w : World} {o : Oper} {act : Act} {Q : Exit → Act → World → Prop}
theorem wpList_appSS {ops : Array Oper} {rest : List Oper} (hgd : o.guard = none)
    (s x : Operand) (ho : o.op = .call { callee := .builtin .append, args := #[s, x], argTypes := #[24, 24] })
    (b : Nat) (a : Option Addr) (n c : Nat) (xs : List Value) (hs : act.eval s = .slice a n c) (hown : OwnC w b a n c 23 1 xs)
    (a' : Option Addr) (m c' : Nat) (xs' : List Value) (hx : act.eval x = .slice a' m c') (hrow : RowC w a' m c' 1 xs') (h1 : ∀ u ∈ xs', u.oneCell' = true)
    (hlen : n + m ≤ 1000000) (hbase : b ≤ w.heap.size)
    (h : ∀ a2 c2 w', OwnC w' b a2 (n + m) c2 23 1 (xs ++ xs') → Below b w w' → w.grownBy w' (rowOf a c) → Moved w a c a2 c2 → wpList Tryd.prog ops Q rest (act.put o.dst (.slice a2 (n + m) c2)) w') : wpList Tryd.prog ops Q (o :: rest) act w :=
  wpList_appC Tryd.underlying24 info_ints rfl (by decide) hgd s x ho b a n c xs hs hown a' m c' xs' hx hrow h1 (by omega) (by unfold maxLen; omega) hbase h
theorem step_appSS {ops : Array Oper} {K : Act → World → Prop} {P2 : Prop} (hgd : o.guard = none)
    (s x : Operand) (ho : o.op = .call { callee := .builtin .append, args := #[s, x], argTypes := #[24, 24] })
    (b : Nat) (a : Option Addr) (n c : Nat) (xs : List Value) (hs : act.eval s = .slice a n c) (hown : OwnC w b a n c 23 1 xs)
    (a' : Option Addr) (m c' : Nat) (xs' : List Value) (hx : act.eval x = .slice a' m c') (hrow : RowC w a' m c' 1 xs') (h1 : ∀ u ∈ xs', u.oneCell' = true)
    (hlen : n + m ≤ 1000000) (hbase : b ≤ w.heap.size)
    (h : ∀ a2 c2 w', OwnC w' b a2 (n + m) c2 23 1 (xs ++ xs') → Below b w w' → w.grownBy w' (rowOf a c) → Moved w a c a2 c2 → K (act.put o.dst (.slice a2 (n + m) c2)) w') :
    if Region.wanted o (yielded ops act.tmps) = true then Oper.wp Tryd.prog o act w K Q else P2 :=
  step_appC Tryd.underlying24 info_ints rfl (by decide) hgd s x ho b a n c xs hs hown a' m c' xs' hx hrow h1 (by omega) (by unfold maxLen; omega) hbase h
end
theorem info_Message : (Tryd.prog.info? 44).map (fun i => (i.zero, i.size, i.bytes)) = some (some (.agg #[.int .i64 0, .int .i64 0, .slice none 0 0]), 3, 40) := by kernel_rfl
section
variable {w : World} {o : Oper} {act : Act} {Q : Exit → Act → World → Prop}
theorem wpList_appM {ops : Array Oper} {rest : List Oper} (hgd : o.guard = none)
    (s x : Operand) (ho : o.op = .call { callee := .builtin .append, args := #[s, x], argTypes := #[63, 63] })
    (b : Nat) (a : Option Addr) (n c : Nat) (xs : List Value) (hs : act.eval s = .slice a n c) (hown : OwnC w b a n c 44 3 xs)
    (a' : Option Addr) (m c' : Nat) (xs' : List Value) (hx : act.eval x = .slice a' m c') (hrow : RowC w a' m c' 3 xs') (h1 : ∀ u ∈ xs', u.oneCell' = true)
    (hlen : n + m ≤ 1000000) (hbase : b ≤ w.heap.size)
    (h : ∀ a2 c2 w', OwnC w' b a2 (n + m) c2 44 3 (xs ++ xs') → Below b w w' → w.grownBy w' (rowOf a c) → Moved w a c a2 c2 → wpList Tryd.prog ops Q rest (act.put o.dst (.slice a2 (n + m) c2)) w') : wpList Tryd.prog ops Q (o :: rest) act w :=
  wpList_appC Tryd.underlying63 info_Message rfl (by decide) hgd s x ho b a n c xs hs hown a' m c' xs' hx hrow h1 (by omega) (by unfold maxLen; omega) hbase h
theorem step_appM {ops : Array Oper} {K : Act → World → Prop} {P2 : Prop} (hgd : o.guard = none)
    (s x : Operand) (ho : o.op = .call { callee := .builtin .append, args := #[s, x], argTypes := #[63, 63] })
    (b : Nat) (a : Option Addr) (n c : Nat) (xs : List Value) (hs : act.eval s = .slice a n c) (hown : OwnC w b a n c 44 3 xs)
    (a' : Option Addr) (m c' : Nat) (xs' : List Value) (hx : act.eval x = .slice a' m c') (hrow : RowC w a' m c' 3 xs') (h1 : ∀ u ∈ xs', u.oneCell' = true)
    (hlen : n + m ≤ 1000000) (hbase : b ≤ w.heap.size)
    (h : ∀ a2 c2 w', OwnC w' b a2 (n + m) c2 44 3 (xs ++ xs') → Below b w w' → w.grownBy w' (rowOf a c) → Moved w a c a2 c2 → K (act.put o.dst (.slice a2 (n + m) c2)) w') :
    if Region.wanted o (yielded ops act.tmps) = true then Oper.wp Tryd.prog o act w K Q else P2 :=
  step_appC Tryd.underlying63 info_Message rfl (by decide) hgd s x ho b a n c xs hs hown a' m c' xs' hx hrow h1 (by omega) (by unfold maxLen; omega) hbase h
end
end Go.Proofs.YtlmdckcohoddnaaDoor
namespace Go.Proofs.YtlmdckcohoddnaaDoor
open Go.RowKit
set_option maxHeartbeats 8000000 in
set_option maxRecDepth 100000 in
theorem masked_any (a : Pl) (x : PlX) (w : World) (h : PlR w x a.shares a.keys a.heard) (hN : PlN a) (hs : 1 ≤ a.step) :
    Calls Tryd.prog 134 #[.agg #[.int .i64 a.P, .int .i64 a.party, .int .i64 a.input, .int .i64 a.mask, .int .i64 a.delta, .slice x.sa x.sn x.sc, .slice x.ka x.kn x.kc, .int .i64 a.step, .slice x.ha x.hn x.hc, .int .i64 a.status, .int .i64 a.out]] w fun e w' => e = .returned (.tuple #[.int .i64 (f0 a), .int .i64 (f1 a)]) ∧ Below w.heap.size w w' := by
  have i1 := hN.ip
  have m1 := hN.mks
  have hp1 := hN.p1
  have hp2 := hN.p2
  have hlen := hN.hl
  have t1 : IntKind.i64.wrap (a.input - a.mask) = a.input - a.mask := IntWalk.i64_in _ (by omega)
  obtain ⟨hhn, g, o, r, hx, e0, inn, hr⟩ := h.hd 0 (by omega)
  have hrl := (hN.hb 0 (by omega)).1
  rw [← hr] at hrl
  have hrl' : r.2.2.length = 1 := hrl
  obtain ⟨g2, o2, hr1, e1⟩ := inn.at 0 (by omega)
  have hv : r.2.2.getD 0 0 = hdI a 0 0 := by rw [hr]; rfl
  rw [hv] at e1
  rw [hr1, hrl'] at e0
  have hnp : (0 : Int) < (x.hn : Int) := by omega
  clear hr hrl hrl' hr1 hv inn hhn hlen h
  simp only [Nat.add_zero] at e0 e1
  obtain ⟨x_sa, x_sn, x_sc, x_ka, x_kn, x_kc, x_ha, x_hn, x_hc⟩ := x
  dsimp only at *
  subst hx
  have HM : Hid ((a.input - a.mask) % a.P = mkI a) := Lib.hid rfl
  unfold f0 f1
  by_cases k0 : a.party = 0
  all_goals
    first | rw [if_pos k0, if_pos k0] | rw [if_neg k0, if_neg k0]
    first | have k1 : ((a.party == 0) : Bool) = true := by simpa using k0 | have k1 : ((a.party == 0) : Bool) = false := by simpa using k0
    clear k0
    go_enter Tryd.func134, Tryd.ntmps134
    go_wp2_with fail
    refine Exists.elim (Blk.new_ w (b := w.heap.size) rfl 31 #[.int .i64 a.P, .int .i64 a.party, .int .i64 a.input, .int .i64 a.mask, .int .i64 a.delta, .slice x_sa x_sn x_sc, .slice x_ka x_kn x_kc, .int .i64 a.step, .slice (some ⟨g, o, none⟩) x_hn x_hc, .int .i64 a.status, .int .i64 a.out]) (fun w1' q => ?_)
    rw [q.1]; have B_a := q.2.1; have s_w1' := q.2.2.1; have u_w1' := q.2.2.2; clear q
    have S_w1' : w.heap.size + 1 ≤ w1'.heap.size := Nat.le_of_eq s_w1'.symm
    have V_w1' := (Below.refl w.heap.size w).trans (u_w1'.mono ((Below.refl w.heap.size w)).size)
    clear u_w1' s_w1'
    refine (mod_same _ _ _ (by omega) (by omega)).mono ?_; rintro e w' ⟨rfl, hw⟩; replace hw := hw.symm; subst hw
    rw [HM.out]
    have e_a := B_a.all11
    have q0 := keepC V_w1' e0
    have q1 := keepC V_w1' e1
    go_wp2
    first | (go_quiet (fail); go_wp2) | skip
    go_ret2
    first | exact ⟨rfl, V_w1'⟩ | exact ⟨rfl, below_drewN V_w1' _⟩
theorem cellFarP {w : World} {p q : Addr} {u v : Value} (h : w.cell? q = some v) (hne : q.block ≠ p.block) : (w.setCell p u).cell? q = some v := by
  rw [World.cell?_setCell_other w p q u (fun e => hne (by rw [e]))]; exact h
def psum (L W : Nat → Int) (m : Int) : Nat → Int
  | 0 => m
  | k + 1 => psum L W m k + W k * L k
theorem psum_bd {L W : Nat → Int} {m : Int} {k : Nat} (hL : ∀ i, i < k → 0 ≤ L i ∧ L i ≤ 1000) (hW : ∀ i, i < k → -1000 ≤ W i ∧ W i ≤ 1000) (hm : -1000000 ≤ m ∧ m ≤ 1000000) : -1000000 - 1000000 * (k : Int) ≤ psum L W m k ∧ psum L W m k ≤ 1000000 + 1000000 * (k : Int) := by
  induction k with
  | zero => simpa [psum] using hm
  | succ k ih =>
    have := ih (fun i hi => hL i (by omega)) (fun i hi => hW i (by omega))
    obtain ⟨l1, l2⟩ := hL k (by omega)
    obtain ⟨v1, v2⟩ := hW k (by omega)
    have hle : W k * L k ≤ 1000000 := by
      by_cases hw : 0 ≤ W k
      · have : W k * L k ≤ 1000 * 1000 := Int.mul_le_mul v2 l2 l1 (by omega)
        omega
      · have : W k * L k ≤ 0 := Int.mul_nonpos_of_nonpos_of_nonneg (by omega) l1
        omega
    have hge : -1000000 ≤ W k * L k := by
      by_cases hw : 0 ≤ W k
      · have : 0 ≤ W k * L k := Int.mul_nonneg hw l1
        omega
      · have : (-W k) * L k ≤ 1000 * 1000 := Int.mul_le_mul (by omega) l2 l1 (by omega)
        rw [Int.neg_mul] at this
        omega
    unfold psum
    omega
def w5 (w0 w1 w2 w3 w4 : Int) (k : Nat) : Int := if k = 0 then w0 else if k = 1 then w1 else if k = 2 then w2 else if k = 3 then w3 else w4
theorem cmb_psum (p : Int) (L : Nat → Int) (w0 w1 w2 w3 w4 m : Int) : psum L (w5 w0 w1 w2 w3 w4) m 5 % p = cmb p L w0 w1 w2 w3 w4 m := rfl
set_option maxHeartbeats 16000000 in
set_option maxRecDepth 100000 in
theorem combine_any (p : Int) (sa : Option Addr) (sc : Nat) (S : List Int) (LV LT : Nat → Int) (w0 w1 w2 w3 w4 m : Int) (w : World) (h : Flat 2 w sa 5 sc S) (hV : ∀ i, i < 5 → S.getD (i * 2) 0 = LV i) (hT : ∀ i, i < 5 → S.getD (i * 2 + 1) 0 = LT i)
    (hp : 1 ≤ p) (hp2 : p ≤ 1000) (rV : ∀ i, i < 5 → 0 ≤ LV i ∧ LV i ≤ 1000) (rT : ∀ i, i < 5 → 0 ≤ LT i ∧ LT i ≤ 1000) (rW : ∀ i, i < 5 → -1000 ≤ w5 w0 w1 w2 w3 w4 i ∧ w5 w0 w1 w2 w3 w4 i ≤ 1000) (rm : -1000000 ≤ m ∧ m ≤ 1000000) :
    Calls Tryd.prog 135 #[.int .i64 p, .slice sa 5 sc, .agg #[.int .i64 w0, .int .i64 w1, .int .i64 w2, .int .i64 w3, .int .i64 w4], .int .i64 m] w fun e w' => e = .returned (.agg #[.int .i64 (cmb p LV w0 w1 w2 w3 w4 m), .int .i64 (cmb p LT w0 w1 w2 w3 w4 0)]) ∧ Below w.heap.size w w' := by
  have bV := fun (k : Nat) (hk : k ≤ 5) => psum_bd (k := k) (fun i hi => rV i (by omega)) (fun i hi => rW i (by omega)) rm
  have bT := fun (k : Nat) (hk : k ≤ 5) => psum_bd (k := k) (m := 0) (fun i hi => rT i (by omega)) (fun i hi => rW i (by omega)) (by omega)
  have eV := cmb_psum p LV w0 w1 w2 w3 w4 m
  have eT := cmb_psum p LT w0 w1 w2 w3 w4 0
  replace eV := Lib.hid eV
  replace eT := Lib.hid eT
  replace bV := Lib.hid bV
  replace bT := Lib.hid bT
  have HV := Lib.hid hV
  have HT := Lib.hid hT
  have RV := Lib.hid rV
  have RT := Lib.hid rT
  have RW := Lib.hid rW
  clear hV hT rV rT rW
  go_enter Tryd.func135, Tryd.ntmps135
  go_wp2
  refine Exists.elim (Blk.new_ w (b := w.heap.size) rfl 121 #[.int .i64 w0, .int .i64 w1, .int .i64 w2, .int .i64 w3, .int .i64 w4]) (fun w1_a0' q => ?_)
  rw [q.1]; have B_q := q.2.1; have s_w1_a0' := q.2.2.1; have u_w1_a0' := q.2.2.2; clear q
  refine Exists.elim (Blk.new_ w1_a0' (b := w.heap.size + 1) s_w1_a0' 81 #[.int .i64 0, .int .i64 0]) (fun w1_a1' q => ?_)
  rw [q.1]; have B_r := q.2.1; have s_w1_a1' := q.2.2.1; have u_w1_a1' := q.2.2.2; clear q
  refine Exists.elim (Blk.new_ w1_a1' (b := w.heap.size + 2) s_w1_a1' 81 #[.int .i64 m, .int .i64 0]) (fun w1' q => ?_)
  rw [q.1]; have B_o := q.2.1; have s_w1' := q.2.2.1; have u_w1' := q.2.2.2; clear q
  replace B_q := ((B_q.below u_w1_a1').below u_w1')
  replace B_r := (B_r.below u_w1')
  have U := (u_w1_a0'.trans ((u_w1_a1'.trans (u_w1'.mono u_w1_a1'.size)).mono u_w1_a0'.size))
  have S_w1' : w.heap.size + 3 ≤ w1'.heap.size := Nat.le_of_eq s_w1'.symm
  have V_w1' := (Below.refl w.heap.size w).trans (U.mono ((Below.refl w.heap.size w)).size)
  clear u_w1_a0' u_w1_a1' u_w1' s_w1_a0' s_w1_a1' s_w1' U
  go_loopw [15] (fun v wr => ∃ k : Nat, k ≤ 5 ∧ v = .int .i64 k ∧ Below w.heap.size w wr ∧ Blk wr (w.heap.size + 1) 81 #[.int .i64 0, .int .i64 0] ∧ Blk wr (w.heap.size + 2) 81 #[.int .i64 (psum LV (w5 w0 w1 w2 w3 w4) m k), .int .i64 (psum LT (w5 w0 w1 w2 w3 w4) 0 k)]) (fun v _ => 5 - (intOf v).toNat)
  case atStart => exact ⟨0, by omega, rfl, V_w1', B_r, B_o⟩
  case round =>
    obtain ⟨k, hk, rfl, hbel, BR, BO⟩ := hrel
    by_cases hlt : k < 5
    · obtain ⟨g, o, rfl, hc⟩ := (h.below hbel).at (by omega)
      have b1 := bV.out k (by omega)
      have b2 := bV.out (k + 1) (by omega)
      have b3 := bT.out k (by omega)
      have b4 := bT.out (k + 1) (by omega)
      have c0 := hc (k * 2) (by omega)
      have c1 := hc (k * 2 + 1) (by omega)
      rw [HV.out k hlt] at c0
      rw [HT.out k hlt] at c1
      clear hc
      have hcase : k = 0 ∨ k = 1 ∨ k = 2 ∨ k = 3 ∨ k = 4 := by omega
      rcases hcase with rfl | rfl | rfl | rfl | rfl
      · have hv : psum LV (w5 w0 w1 w2 w3 w4) m (0 + 1) = psum LV (w5 w0 w1 w2 w3 w4) m 0 + w0 * LV 0 := rfl
        have ht : psum LT (w5 w0 w1 w2 w3 w4) 0 (0 + 1) = psum LT (w5 w0 w1 w2 w3 w4) 0 0 + w0 * LT 0 := rfl
        rw [hv] at b2
        rw [ht] at b4
        replace hv := Lib.hid hv
        replace ht := Lib.hid ht
        generalize psum LV (w5 w0 w1 w2 w3 w4) m 0 = pv at *
        generalize psum LT (w5 w0 w1 w2 w3 w4) 0 0 = pt at *
        generalize LV 0 = xv at *
        generalize LT 0 = xt at *
        simp only [Nat.add_zero, Nat.zero_add, Nat.zero_mul] at c0 c1
        have t1 : IntKind.i64.wrap (w0 * xv) = w0 * xv := IntWalk.i64_in _ (by omega)
        have t2 : IntKind.i64.wrap (pv + w0 * xv) = pv + w0 * xv := IntWalk.i64_in _ (by omega)
        have t3 : IntKind.i64.wrap (w0 * xt) = w0 * xt := IntWalk.i64_in _ (by omega)
        have t4 : IntKind.i64.wrap (pt + w0 * xt) = pt + w0 * xt := IntWalk.i64_in _ (by omega)
        clear b1 b2 b3 b4
        rw [show ((0 : Nat) : Int) = 0 from rfl]
        have ix : ∀ w' : World, (Instr.index 121 (.agg #[.int .i64 w0, .int .i64 w1, .int .i64 w2, .int .i64 w3, .int .i64 w4]) (.int .i64 0)).run Tryd.prog w' = .ok (.int .i64 w0) w' := fun _ => by kernel_rfl
        have o0 : wr.cell? ⟨w.heap.size + 2, 0, none⟩ = some (.int .i64 pv) := BO.cell 0
        have o1 : wr.cell? ⟨w.heap.size + 2, 1, none⟩ = some (.int .i64 pt) := BO.cell 1
        go_wp2
        have f0 : wr.frozen? ⟨w.heap.size + 2, 0, none⟩ = false := BO.frozen 0
        have f1 : wr.frozen? ⟨w.heap.size + 2, 1, none⟩ = false := BO.frozen 1
        go_region
        have hbel2 := ((hbel.setCell (p := ⟨w.heap.size + 2, 0, none⟩) (by first | (simp; done) | (simp; omega)) (.int .i64 (pv + w0 * xv))).setCell (p := ⟨w.heap.size + 2, 1, none⟩) (by first | (simp; done) | (simp; omega)) (.int .i64 (pt + w0 * xt))).drew
        have BO2 := ((BO.set_ 0 (.int .i64 (pv + w0 * xv))).set_ 1 (.int .i64 (pt + w0 * xt))).drew
        have BR2 := ((BR.far (p := ⟨w.heap.size + 2, 0, none⟩) (by simp) (.int .i64 (pv + w0 * xv))).far (p := ⟨w.heap.size + 2, 1, none⟩) (by simp) (.int .i64 (pt + w0 * xt))).drew
        clear o0 o1 f0 f1 c0 c1
        go_wp2
        go_roundw
        case rel => exact ⟨0 + 1, by omega, by go_num, hbel2, BR2, by rw [hv.out, ht.out]; exact BO2⟩
        case measure => simp [intOf]
      · have hv : psum LV (w5 w0 w1 w2 w3 w4) m (1 + 1) = psum LV (w5 w0 w1 w2 w3 w4) m 1 + w1 * LV 1 := rfl
        have ht : psum LT (w5 w0 w1 w2 w3 w4) 0 (1 + 1) = psum LT (w5 w0 w1 w2 w3 w4) 0 1 + w1 * LT 1 := rfl
        rw [hv] at b2
        rw [ht] at b4
        replace hv := Lib.hid hv
        replace ht := Lib.hid ht
        generalize psum LV (w5 w0 w1 w2 w3 w4) m 1 = pv at *
        generalize psum LT (w5 w0 w1 w2 w3 w4) 0 1 = pt at *
        generalize LV 1 = xv at *
        generalize LT 1 = xt at *
        simp only [Nat.reduceMul, Nat.reduceAdd] at c0 c1
        have t1 : IntKind.i64.wrap (w1 * xv) = w1 * xv := IntWalk.i64_in _ (by omega)
        have t2 : IntKind.i64.wrap (pv + w1 * xv) = pv + w1 * xv := IntWalk.i64_in _ (by omega)
        have t3 : IntKind.i64.wrap (w1 * xt) = w1 * xt := IntWalk.i64_in _ (by omega)
        have t4 : IntKind.i64.wrap (pt + w1 * xt) = pt + w1 * xt := IntWalk.i64_in _ (by omega)
        clear b1 b2 b3 b4
        rw [show ((1 : Nat) : Int) = 1 from rfl]
        have ix : ∀ w' : World, (Instr.index 121 (.agg #[.int .i64 w0, .int .i64 w1, .int .i64 w2, .int .i64 w3, .int .i64 w4]) (.int .i64 1)).run Tryd.prog w' = .ok (.int .i64 w1) w' := fun _ => by kernel_rfl
        have o0 : wr.cell? ⟨w.heap.size + 2, 0, none⟩ = some (.int .i64 pv) := BO.cell 0
        have o1 : wr.cell? ⟨w.heap.size + 2, 1, none⟩ = some (.int .i64 pt) := BO.cell 1
        go_wp2
        have f0 : wr.frozen? ⟨w.heap.size + 2, 0, none⟩ = false := BO.frozen 0
        have f1 : wr.frozen? ⟨w.heap.size + 2, 1, none⟩ = false := BO.frozen 1
        go_region
        have hbel2 := ((hbel.setCell (p := ⟨w.heap.size + 2, 0, none⟩) (by first | (simp; done) | (simp; omega)) (.int .i64 (pv + w1 * xv))).setCell (p := ⟨w.heap.size + 2, 1, none⟩) (by first | (simp; done) | (simp; omega)) (.int .i64 (pt + w1 * xt))).drew
        have BO2 := ((BO.set_ 0 (.int .i64 (pv + w1 * xv))).set_ 1 (.int .i64 (pt + w1 * xt))).drew
        have BR2 := ((BR.far (p := ⟨w.heap.size + 2, 0, none⟩) (by simp) (.int .i64 (pv + w1 * xv))).far (p := ⟨w.heap.size + 2, 1, none⟩) (by simp) (.int .i64 (pt + w1 * xt))).drew
        clear o0 o1 f0 f1 c0 c1
        go_wp2
        go_roundw
        case rel => exact ⟨1 + 1, by omega, by go_num, hbel2, BR2, by rw [hv.out, ht.out]; exact BO2⟩
        case measure => simp [intOf]
      · have hv : psum LV (w5 w0 w1 w2 w3 w4) m (2 + 1) = psum LV (w5 w0 w1 w2 w3 w4) m 2 + w2 * LV 2 := rfl
        have ht : psum LT (w5 w0 w1 w2 w3 w4) 0 (2 + 1) = psum LT (w5 w0 w1 w2 w3 w4) 0 2 + w2 * LT 2 := rfl
        rw [hv] at b2
        rw [ht] at b4
        replace hv := Lib.hid hv
        replace ht := Lib.hid ht
        generalize psum LV (w5 w0 w1 w2 w3 w4) m 2 = pv at *
        generalize psum LT (w5 w0 w1 w2 w3 w4) 0 2 = pt at *
        generalize LV 2 = xv at *
        generalize LT 2 = xt at *
        simp only [Nat.reduceMul, Nat.reduceAdd] at c0 c1
        have t1 : IntKind.i64.wrap (w2 * xv) = w2 * xv := IntWalk.i64_in _ (by omega)
        have t2 : IntKind.i64.wrap (pv + w2 * xv) = pv + w2 * xv := IntWalk.i64_in _ (by omega)
        have t3 : IntKind.i64.wrap (w2 * xt) = w2 * xt := IntWalk.i64_in _ (by omega)
        have t4 : IntKind.i64.wrap (pt + w2 * xt) = pt + w2 * xt := IntWalk.i64_in _ (by omega)
        clear b1 b2 b3 b4
        rw [show ((2 : Nat) : Int) = 2 from rfl]
        have ix : ∀ w' : World, (Instr.index 121 (.agg #[.int .i64 w0, .int .i64 w1, .int .i64 w2, .int .i64 w3, .int .i64 w4]) (.int .i64 2)).run Tryd.prog w' = .ok (.int .i64 w2) w' := fun _ => by kernel_rfl
        have o0 : wr.cell? ⟨w.heap.size + 2, 0, none⟩ = some (.int .i64 pv) := BO.cell 0
        have o1 : wr.cell? ⟨w.heap.size + 2, 1, none⟩ = some (.int .i64 pt) := BO.cell 1
        go_wp2
        have f0 : wr.frozen? ⟨w.heap.size + 2, 0, none⟩ = false := BO.frozen 0
        have f1 : wr.frozen? ⟨w.heap.size + 2, 1, none⟩ = false := BO.frozen 1
        go_region
        have hbel2 := ((hbel.setCell (p := ⟨w.heap.size + 2, 0, none⟩) (by first | (simp; done) | (simp; omega)) (.int .i64 (pv + w2 * xv))).setCell (p := ⟨w.heap.size + 2, 1, none⟩) (by first | (simp; done) | (simp; omega)) (.int .i64 (pt + w2 * xt))).drew
        have BO2 := ((BO.set_ 0 (.int .i64 (pv + w2 * xv))).set_ 1 (.int .i64 (pt + w2 * xt))).drew
        have BR2 := ((BR.far (p := ⟨w.heap.size + 2, 0, none⟩) (by simp) (.int .i64 (pv + w2 * xv))).far (p := ⟨w.heap.size + 2, 1, none⟩) (by simp) (.int .i64 (pt + w2 * xt))).drew
        clear o0 o1 f0 f1 c0 c1
        go_wp2
        go_roundw
        case rel => exact ⟨2 + 1, by omega, by go_num, hbel2, BR2, by rw [hv.out, ht.out]; exact BO2⟩
        case measure => simp [intOf]
      · have hv : psum LV (w5 w0 w1 w2 w3 w4) m (3 + 1) = psum LV (w5 w0 w1 w2 w3 w4) m 3 + w3 * LV 3 := rfl
        have ht : psum LT (w5 w0 w1 w2 w3 w4) 0 (3 + 1) = psum LT (w5 w0 w1 w2 w3 w4) 0 3 + w3 * LT 3 := rfl
        rw [hv] at b2
        rw [ht] at b4
        replace hv := Lib.hid hv
        replace ht := Lib.hid ht
        generalize psum LV (w5 w0 w1 w2 w3 w4) m 3 = pv at *
        generalize psum LT (w5 w0 w1 w2 w3 w4) 0 3 = pt at *
        generalize LV 3 = xv at *
        generalize LT 3 = xt at *
        simp only [Nat.reduceMul, Nat.reduceAdd] at c0 c1
        have t1 : IntKind.i64.wrap (w3 * xv) = w3 * xv := IntWalk.i64_in _ (by omega)
        have t2 : IntKind.i64.wrap (pv + w3 * xv) = pv + w3 * xv := IntWalk.i64_in _ (by omega)
        have t3 : IntKind.i64.wrap (w3 * xt) = w3 * xt := IntWalk.i64_in _ (by omega)
        have t4 : IntKind.i64.wrap (pt + w3 * xt) = pt + w3 * xt := IntWalk.i64_in _ (by omega)
        clear b1 b2 b3 b4
        rw [show ((3 : Nat) : Int) = 3 from rfl]
        have ix : ∀ w' : World, (Instr.index 121 (.agg #[.int .i64 w0, .int .i64 w1, .int .i64 w2, .int .i64 w3, .int .i64 w4]) (.int .i64 3)).run Tryd.prog w' = .ok (.int .i64 w3) w' := fun _ => by kernel_rfl
        have o0 : wr.cell? ⟨w.heap.size + 2, 0, none⟩ = some (.int .i64 pv) := BO.cell 0
        have o1 : wr.cell? ⟨w.heap.size + 2, 1, none⟩ = some (.int .i64 pt) := BO.cell 1
        go_wp2
        have f0 : wr.frozen? ⟨w.heap.size + 2, 0, none⟩ = false := BO.frozen 0
        have f1 : wr.frozen? ⟨w.heap.size + 2, 1, none⟩ = false := BO.frozen 1
        go_region
        have hbel2 := ((hbel.setCell (p := ⟨w.heap.size + 2, 0, none⟩) (by first | (simp; done) | (simp; omega)) (.int .i64 (pv + w3 * xv))).setCell (p := ⟨w.heap.size + 2, 1, none⟩) (by first | (simp; done) | (simp; omega)) (.int .i64 (pt + w3 * xt))).drew
        have BO2 := ((BO.set_ 0 (.int .i64 (pv + w3 * xv))).set_ 1 (.int .i64 (pt + w3 * xt))).drew
        have BR2 := ((BR.far (p := ⟨w.heap.size + 2, 0, none⟩) (by simp) (.int .i64 (pv + w3 * xv))).far (p := ⟨w.heap.size + 2, 1, none⟩) (by simp) (.int .i64 (pt + w3 * xt))).drew
        clear o0 o1 f0 f1 c0 c1
        go_wp2
        go_roundw
        case rel => exact ⟨3 + 1, by omega, by go_num, hbel2, BR2, by rw [hv.out, ht.out]; exact BO2⟩
        case measure => simp [intOf]
      · have hv : psum LV (w5 w0 w1 w2 w3 w4) m (4 + 1) = psum LV (w5 w0 w1 w2 w3 w4) m 4 + w4 * LV 4 := rfl
        have ht : psum LT (w5 w0 w1 w2 w3 w4) 0 (4 + 1) = psum LT (w5 w0 w1 w2 w3 w4) 0 4 + w4 * LT 4 := rfl
        rw [hv] at b2
        rw [ht] at b4
        replace hv := Lib.hid hv
        replace ht := Lib.hid ht
        generalize psum LV (w5 w0 w1 w2 w3 w4) m 4 = pv at *
        generalize psum LT (w5 w0 w1 w2 w3 w4) 0 4 = pt at *
        generalize LV 4 = xv at *
        generalize LT 4 = xt at *
        simp only [Nat.reduceMul, Nat.reduceAdd] at c0 c1
        have t1 : IntKind.i64.wrap (w4 * xv) = w4 * xv := IntWalk.i64_in _ (by omega)
        have t2 : IntKind.i64.wrap (pv + w4 * xv) = pv + w4 * xv := IntWalk.i64_in _ (by omega)
        have t3 : IntKind.i64.wrap (w4 * xt) = w4 * xt := IntWalk.i64_in _ (by omega)
        have t4 : IntKind.i64.wrap (pt + w4 * xt) = pt + w4 * xt := IntWalk.i64_in _ (by omega)
        clear b1 b2 b3 b4
        rw [show ((4 : Nat) : Int) = 4 from rfl]
        have ix : ∀ w' : World, (Instr.index 121 (.agg #[.int .i64 w0, .int .i64 w1, .int .i64 w2, .int .i64 w3, .int .i64 w4]) (.int .i64 4)).run Tryd.prog w' = .ok (.int .i64 w4) w' := fun _ => by kernel_rfl
        have o0 : wr.cell? ⟨w.heap.size + 2, 0, none⟩ = some (.int .i64 pv) := BO.cell 0
        have o1 : wr.cell? ⟨w.heap.size + 2, 1, none⟩ = some (.int .i64 pt) := BO.cell 1
        go_wp2
        have f0 : wr.frozen? ⟨w.heap.size + 2, 0, none⟩ = false := BO.frozen 0
        have f1 : wr.frozen? ⟨w.heap.size + 2, 1, none⟩ = false := BO.frozen 1
        go_region
        have hbel2 := ((hbel.setCell (p := ⟨w.heap.size + 2, 0, none⟩) (by first | (simp; done) | (simp; omega)) (.int .i64 (pv + w4 * xv))).setCell (p := ⟨w.heap.size + 2, 1, none⟩) (by first | (simp; done) | (simp; omega)) (.int .i64 (pt + w4 * xt))).drew
        have BO2 := ((BO.set_ 0 (.int .i64 (pv + w4 * xv))).set_ 1 (.int .i64 (pt + w4 * xt))).drew
        have BR2 := ((BR.far (p := ⟨w.heap.size + 2, 0, none⟩) (by simp) (.int .i64 (pv + w4 * xv))).far (p := ⟨w.heap.size + 2, 1, none⟩) (by simp) (.int .i64 (pt + w4 * xt))).drew
        clear o0 o1 f0 f1 c0 c1
        go_wp2
        go_roundw
        case rel => exact ⟨4 + 1, by omega, by go_num, hbel2, BR2, by rw [hv.out, ht.out]; exact BO2⟩
        case measure => simp [intOf]
    · obtain rfl : k = 5 := by omega
      have o0 : wr.cell? ⟨w.heap.size + 2, 0, none⟩ = some (.int .i64 (psum LV (w5 w0 w1 w2 w3 w4) m 5)) := BO.cell 0
      have o1 : wr.cell? ⟨w.heap.size + 2, 1, none⟩ = some (.int .i64 (psum LT (w5 w0 w1 w2 w3 w4) 0 5)) := BO.cell 1
      have r0 : wr.cell? ⟨w.heap.size + 1, 0, none⟩ = some (.int .i64 0) := BR.cell 0
      have r1 : wr.cell? ⟨w.heap.size + 1, 1, none⟩ = some (.int .i64 0) := BR.cell 1
      have f0 : wr.frozen? ⟨w.heap.size + 1, 0, none⟩ = false := BR.frozen 0
      have f1 : wr.frozen? ⟨w.heap.size + 1, 1, none⟩ = false := BR.frozen 1
      have bv := bV.out 5 (by omega)
      have bt := bT.out 5 (by omega)
      generalize psum LV (w5 w0 w1 w2 w3 w4) m 5 = pv at *
      generalize psum LT (w5 w0 w1 w2 w3 w4) 0 5 = pt at *
      clear hk hlt
      go_wp2
      go_region_held3 (fun W => W.cell? ⟨w.heap.size + 2, 0, none⟩ = some (.int .i64 pv) ∧ W.cell? ⟨w.heap.size + 2, 1, none⟩ = some (.int .i64 pt))
        (go_keep)
        (first | (go_at_call 69; refine (mod_same _ _ _ hp (by omega)).mono ?_; rintro e w' ⟨rfl, rfl⟩))
      go_wp2
      have hb2 := (hbel.drew.setCell (p := ⟨w.heap.size + 1, 0, none⟩) (by simp) (.int .i64 (pv % p))).setCell (p := ⟨w.heap.size + 1, 1, none⟩) (by simp) (.int .i64 (pt % p))
      exact bodyPost_ret (v := .agg #[.int .i64 (pv % p), .int .i64 (pt % p)]) (by simp [results, Tryd.results135, go_sem, r0, r1]) rfl ⟨by rw [eV.out, eT.out], by first | exact hb2 | exact hb2.drew⟩
end Go.Proofs.YtlmdckcohoddnaaDoor
