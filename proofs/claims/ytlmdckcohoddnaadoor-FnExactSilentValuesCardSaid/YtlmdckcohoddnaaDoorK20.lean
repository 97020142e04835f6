/- Lemmas and walks that the claim's proof rests on, part 20. -/
import Derived.Test.YtlmdckcohoddnaaDoorK17
import Derived.Test.YtlmdckcohoddnaaDoorK18
import Derived.Test.YtlmdckcohoddnaaDoorK19
namespace Go.Proofs.YtlmdckcohoddnaaDoor
open Go.RowKit
def svOne (a b : Pl) (at_ i v : Int) : Bool := decide ((runP (chgP a.P at_ i.toNat v) 3 a b []).1.status = 1) && decide ((runP (chgP a.P at_ i.toNat v) 3 a b []).2.1.status = 1)
def svT (a b : Pl) (at_ i : Int) : Nat → List Int
  | 0 => []
  | m + 1 => svT a b at_ i m ++ if svOne a b at_ i ((m : Int) + 1) then [(m : Int) + 1] else []
def svR (a b : Pl) (at_ i : Int) : List Int := if svB a b at_ i then svT a b at_ i (a.P.toNat - 1) else []
theorem svT_len (a b : Pl) (at_ i : Int) (m : Nat) : (svT a b at_ i m).length ≤ m := by
  induction m with
  | zero => exact Nat.le_refl _
  | succ m ih => unfold svT; split <;> simp <;> omega
theorem svB_two {a b : Pl} {at_ i : Int} (h : svB a b at_ i = true) : twoB a b = true := by unfold svB at h; simp only [Bool.and_eq_true] at h; exact h.1
theorem svR_len (a b : Pl) (at_ i : Int) : (svR a b at_ i).length ≤ 1000000 := by
  unfold svR
  split
  · rename_i h
    have := (PlN.of (twoB_parts (svB_two h)).1).p2
    have := svT_len a b at_ i (a.P.toNat - 1)
    omega
  · simp
theorem sv_rb {a b : Pl} {at_ i v : Int} (h : svB a b at_ i = true) (hv : 0 ≤ v ∧ v ≤ a.P - 1) : rbB a b at_ i v = true := by
  unfold svB at h
  unfold rbB
  simp only [Bool.and_eq_true] at h ⊢
  exact ⟨h.1, h.2.1, by unfold inB; simp; omega, h.2.2⟩
theorem Flat.of_blk {w : World} {g : Nat} {t : TypeId} {l0 l1 l2 l3 : Int} (h : Blk w g t #[.int .i64 l0, .int .i64 l1, .int .i64 l2, .int .i64 l3]) : Flat 4 w (some ⟨g, 0, none⟩) 1 1 [l0, l1, l2, l3] :=
  ⟨rfl, Nat.le_refl _, by simp [maxLen], fun e => (by cases e), g, 0, fun _ => rfl, fun i u hu => by
    have := h.cell i
    rw [Nat.zero_add, this]
    rw [show (#[Value.int .i64 l0, .int .i64 l1, .int .i64 l2, .int .i64 l3] : Array Value) = ([l0, l1, l2, l3].map (Value.int .i64)).toArray from rfl, List.getElem?_toArray]
    exact hu⟩
set_option maxHeartbeats 16000000 in
set_option maxRecDepth 100000 in
theorem SilentValues_any (a : Pl) (x : PlX) (b : Pl) (z : PlX) (at_ i : Int) (w : World) (h : PlR w x a.shares a.keys a.heard) (h' : PlR w z b.shares b.keys b.heard) (hT : Tbl w) :
    Calls Tryd.prog 48 #[.agg #[.int .i64 a.P, .int .i64 a.party, .int .i64 a.input, .int .i64 a.mask, .int .i64 a.delta, .slice x.sa x.sn x.sc, .slice x.ka x.kn x.kc, .int .i64 a.step, .slice x.ha x.hn x.hc, .int .i64 a.status, .int .i64 a.out], .agg #[.int .i64 b.P, .int .i64 b.party, .int .i64 b.input, .int .i64 b.mask, .int .i64 b.delta, .slice z.sa z.sn z.sc, .slice z.ka z.kn z.kc, .int .i64 b.step, .slice z.ha z.hn z.hc, .int .i64 b.status, .int .i64 b.out], .int .i64 at_, .int .i64 i] w fun e w' => ∃ p n c, e = .returned (.tuple #[.slice p n c, .bool (svB a b at_ i)]) ∧ Own w' w.heap.size p n c (svR a b at_ i) ∧ Below w.heap.size w w' := by
  have CM := Lib.hid (fun (hb : svB a b at_ i = true) (v : Int) (hv : 1 ≤ v ∧ v ≤ a.P - 1) (g : Nat) (W : World) (h2 : PlR W x a.shares a.keys a.heard) (k2 : PlR W z b.shares b.keys b.heard) (hT2 : Tbl W) (hM : Flat 4 W (some ⟨g, 0, none⟩) 1 1 [1, at_, i, v]) (hg : g < W.heap.size) => runMeddled_any a b x z at_ i v g 0 1 W h2 k2 hT2 (sv_rb hb (by omega)) hM hg)
  have HP := Lib.hid (fun (hb : svB a b at_ i = true) => (show 2 ≤ a.P ∧ a.P ≤ 251 from ⟨(PlN.of (twoB_parts (svB_two hb)).1).p1, (PlN.of (twoB_parts (svB_two hb)).1).p2⟩))
  have SB : Hid (svB a b at_ i = (twoB a b && (inB at_ 0 5 && inB i 0 ((blen (at_ / 2).toNat : Int) - 1)))) := Lib.hid rfl
  have CT := Lib.hid (fun (W : World) (h2 : PlR W x a.shares a.keys a.heard) (k2 : PlR W z b.shares b.keys b.heard) (hT2 : Tbl W) => areTwo_any a x b z W h2 k2 hT2)
  have CW1 := Lib.hid (fun (W : World) => within_any at_ 0 5 W)
  have CW2 := Lib.hid (fun (W : World) => within_any i 0 ((blen (at_ / 2).toNat : Int) - 1) W)
  have F1 : inB at_ 0 5 = true → at_.tdiv 2 = ((at_ / 2).toNat : Int) ∧ (at_ / 2).toNat < 3 := fun hb => by
    have := inB_true hb
    exact ⟨tdiv_two (by omega), by omega⟩
  replace F1 := Lib.hid F1
  have hbl := Lib.hid (blen_bd (at_ / 2).toNat)
  unfold svR
  generalize svB a b at_ i = bb at *
  have LX := Lib.hid hT
  have LA := Lib.hid h
  have LB := Lib.hid h'
  clear hT h h'
  generalize twoB a b = b1 at *
  generalize inB at_ 0 5 = b2 at *
  generalize inB i 0 ((blen (at_ / 2).toNat : Int) - 1) = b3 at *
  cases b1
  · rw [show bb = false by rw [SB.out]; rfl]
    simp only [Bool.false_eq_true, if_false]
    go_enter Tryd.func48, Tryd.ntmps48
    go_upto_region 1 with fail
    refine Exists.elim (Blk.new_ w (b := w.heap.size) rfl 31 #[.int .i64 a.P, .int .i64 a.party, .int .i64 a.input, .int .i64 a.mask, .int .i64 a.delta, .slice x.sa x.sn x.sc, .slice x.ka x.kn x.kc, .int .i64 a.step, .slice x.ha x.hn x.hc, .int .i64 a.status, .int .i64 a.out]) (fun w1_a0' q => ?_)
    rw [q.1]; have B_a := q.2.1; have s_w1_a0' := q.2.2.1; have u_w1_a0' := q.2.2.2; clear q
    refine Exists.elim (Blk.new_ w1_a0' (b := w.heap.size + 1) s_w1_a0' 31 #[.int .i64 b.P, .int .i64 b.party, .int .i64 b.input, .int .i64 b.mask, .int .i64 b.delta, .slice z.sa z.sn z.sc, .slice z.ka z.kn z.kc, .int .i64 b.step, .slice z.ha z.hn z.hc, .int .i64 b.status, .int .i64 b.out]) (fun w1' q => ?_)
    rw [q.1]; have B_b := q.2.1; have s_w1' := q.2.2.1; have u_w1' := q.2.2.2; clear q
    replace B_a := (B_a.below u_w1')
    have U := (u_w1_a0'.trans (u_w1'.mono u_w1_a0'.size))
    have S_w1' : w.heap.size + 2 ≤ w1'.heap.size := Nat.le_of_eq s_w1'.symm
    have V_w1' := (Below.refl w.heap.size w).trans (U.mono ((Below.refl w.heap.size w)).size)
    clear u_w1_a0' u_w1' s_w1_a0' s_w1' U
    have e_a := B_a.all11
    have e_b := B_b.all11
    go_wp2_with fail
    clear e_a e_b
    refine (CT.out _ (LA.out.below V_w1') (LB.out.below V_w1') (LX.out.below V_w1')).mono ?_
    rintro e w2' ⟨rfl, u_w2'⟩
    replace B_a := B_a.below u_w2'
    replace B_b := B_b.below u_w2'
    have S_w2' := u_w2'.size
    have V_w2' : Below w.heap.size w w2' := V_w1'.trans (u_w2'.mono V_w1'.size)
    clear V_w1'
    clear u_w2'
    go_wp2
    go_ret2
    exact ⟨none, 0, 0, rfl, Own.nil0 _ _ _, V_w2'⟩
  cases b2
  · rw [show bb = false by rw [SB.out]; rfl]
    simp only [Bool.false_eq_true, if_false]
    go_enter Tryd.func48, Tryd.ntmps48
    go_upto_region 1 with fail
    refine Exists.elim (Blk.new_ w (b := w.heap.size) rfl 31 #[.int .i64 a.P, .int .i64 a.party, .int .i64 a.input, .int .i64 a.mask, .int .i64 a.delta, .slice x.sa x.sn x.sc, .slice x.ka x.kn x.kc, .int .i64 a.step, .slice x.ha x.hn x.hc, .int .i64 a.status, .int .i64 a.out]) (fun w1_a0' q => ?_)
    rw [q.1]; have B_a := q.2.1; have s_w1_a0' := q.2.2.1; have u_w1_a0' := q.2.2.2; clear q
    refine Exists.elim (Blk.new_ w1_a0' (b := w.heap.size + 1) s_w1_a0' 31 #[.int .i64 b.P, .int .i64 b.party, .int .i64 b.input, .int .i64 b.mask, .int .i64 b.delta, .slice z.sa z.sn z.sc, .slice z.ka z.kn z.kc, .int .i64 b.step, .slice z.ha z.hn z.hc, .int .i64 b.status, .int .i64 b.out]) (fun w1' q => ?_)
    rw [q.1]; have B_b := q.2.1; have s_w1' := q.2.2.1; have u_w1' := q.2.2.2; clear q
    replace B_a := (B_a.below u_w1')
    have U := (u_w1_a0'.trans (u_w1'.mono u_w1_a0'.size))
    have S_w1' : w.heap.size + 2 ≤ w1'.heap.size := Nat.le_of_eq s_w1'.symm
    have V_w1' := (Below.refl w.heap.size w).trans (U.mono ((Below.refl w.heap.size w)).size)
    clear u_w1_a0' u_w1' s_w1_a0' s_w1' U
    have e_a := B_a.all11
    have e_b := B_b.all11
    go_wp2_with fail
    clear e_a e_b
    refine (CT.out _ (LA.out.below V_w1') (LB.out.below V_w1') (LX.out.below V_w1')).mono ?_
    rintro e w2' ⟨rfl, u_w2'⟩
    replace B_a := B_a.below u_w2'
    replace B_b := B_b.below u_w2'
    have S_w2' := u_w2'.size
    have V_w2' : Below w.heap.size w w2' := V_w1'.trans (u_w2'.mono V_w1'.size)
    clear V_w1'
    clear u_w2'
    go_wp2_with fail
    refine (CW1.out _).mono ?_
    rintro e w_q ⟨rfl, rfl⟩
    go_wp2
    go_ret2
    exact ⟨none, 0, 0, rfl, Own.nil0 _ _ _, V_w2'⟩
  obtain ⟨t1, t2⟩ := F1.out rfl
  generalize (at_ / 2).toNat = q at *
  have tL : IntKind.i64.wrap ((blen q : Int) - 1) = (blen q : Int) - 1 := IntWalk.i64_in _ (by have := hbl.out; omega)
  have tq : IntKind.i64.wrap (q : Int) = (q : Int) := IntWalk.i64_in _ (by omega)
  have q0 : (0 : Int) ≤ (q : Int) := by omega
  have q3 : (q : Int) < 3 := by omega
  cases b3
  · rw [show bb = false by rw [SB.out]; rfl]
    simp only [Bool.false_eq_true, if_false]
    go_enter Tryd.func48, Tryd.ntmps48
    go_upto_region 1 with fail
    refine Exists.elim (Blk.new_ w (b := w.heap.size) rfl 31 #[.int .i64 a.P, .int .i64 a.party, .int .i64 a.input, .int .i64 a.mask, .int .i64 a.delta, .slice x.sa x.sn x.sc, .slice x.ka x.kn x.kc, .int .i64 a.step, .slice x.ha x.hn x.hc, .int .i64 a.status, .int .i64 a.out]) (fun w1_a0' q => ?_)
    rw [q.1]; have B_a := q.2.1; have s_w1_a0' := q.2.2.1; have u_w1_a0' := q.2.2.2; clear q
    refine Exists.elim (Blk.new_ w1_a0' (b := w.heap.size + 1) s_w1_a0' 31 #[.int .i64 b.P, .int .i64 b.party, .int .i64 b.input, .int .i64 b.mask, .int .i64 b.delta, .slice z.sa z.sn z.sc, .slice z.ka z.kn z.kc, .int .i64 b.step, .slice z.ha z.hn z.hc, .int .i64 b.status, .int .i64 b.out]) (fun w1' q => ?_)
    rw [q.1]; have B_b := q.2.1; have s_w1' := q.2.2.1; have u_w1' := q.2.2.2; clear q
    replace B_a := (B_a.below u_w1')
    have U := (u_w1_a0'.trans (u_w1'.mono u_w1_a0'.size))
    have S_w1' : w.heap.size + 2 ≤ w1'.heap.size := Nat.le_of_eq s_w1'.symm
    have V_w1' := (Below.refl w.heap.size w).trans (U.mono ((Below.refl w.heap.size w)).size)
    clear u_w1_a0' u_w1' s_w1_a0' s_w1' U
    have e_a := B_a.all11
    have e_b := B_b.all11
    go_wp2_with fail
    clear e_a e_b
    refine (CT.out _ (LA.out.below V_w1') (LB.out.below V_w1') (LX.out.below V_w1')).mono ?_
    rintro e w2' ⟨rfl, u_w2'⟩
    replace B_a := B_a.below u_w2'
    replace B_b := B_b.below u_w2'
    have S_w2' := u_w2'.size
    have V_w2' : Below w.heap.size w w2' := V_w1'.trans (u_w2'.mono V_w1'.size)
    clear V_w1'
    clear u_w2'
    go_wp2_with fail
    refine (CW1.out _).mono ?_
    rintro e w_q ⟨rfl, rfl⟩
    have e_t := (LX.out.below V_w2').at q t2
    go_wp2_with fail
    clear e_t
    refine (CW2.out _).mono ?_
    rintro e w_q ⟨rfl, rfl⟩
    go_wp2
    go_ret2
    exact ⟨none, 0, 0, rfl, Own.nil0 _ _ _, V_w2'⟩
  obtain rfl : bb = true := by rw [SB.out]; rfl
  simp only [if_true]
  replace CM := Lib.hid (CM.out rfl)
  have hP := HP.out rfl
  go_enter Tryd.func48, Tryd.ntmps48
  go_upto_region 1 with fail
  refine Exists.elim (Blk.new_ w (b := w.heap.size) rfl 31 #[.int .i64 a.P, .int .i64 a.party, .int .i64 a.input, .int .i64 a.mask, .int .i64 a.delta, .slice x.sa x.sn x.sc, .slice x.ka x.kn x.kc, .int .i64 a.step, .slice x.ha x.hn x.hc, .int .i64 a.status, .int .i64 a.out]) (fun w1_a0' q => ?_)
  rw [q.1]; have B_a := q.2.1; have s_w1_a0' := q.2.2.1; have u_w1_a0' := q.2.2.2; clear q
  refine Exists.elim (Blk.new_ w1_a0' (b := w.heap.size + 1) s_w1_a0' 31 #[.int .i64 b.P, .int .i64 b.party, .int .i64 b.input, .int .i64 b.mask, .int .i64 b.delta, .slice z.sa z.sn z.sc, .slice z.ka z.kn z.kc, .int .i64 b.step, .slice z.ha z.hn z.hc, .int .i64 b.status, .int .i64 b.out]) (fun w1' q => ?_)
  rw [q.1]; have B_b := q.2.1; have s_w1' := q.2.2.1; have u_w1' := q.2.2.2; clear q
  replace B_a := (B_a.below u_w1')
  have U := (u_w1_a0'.trans (u_w1'.mono u_w1_a0'.size))
  have S_w1' : w.heap.size + 2 ≤ w1'.heap.size := Nat.le_of_eq s_w1'.symm
  have V_w1' := (Below.refl w.heap.size w).trans (U.mono ((Below.refl w.heap.size w)).size)
  clear u_w1_a0' u_w1' s_w1_a0' s_w1' U
  have e_a := B_a.all11
  have e_b := B_b.all11
  go_wp2_with fail
  clear e_a e_b
  refine (CT.out _ (LA.out.below V_w1') (LB.out.below V_w1') (LX.out.below V_w1')).mono ?_
  rintro e w2' ⟨rfl, u_w2'⟩
  replace B_a := B_a.below u_w2'
  replace B_b := B_b.below u_w2'
  have S_w2' := u_w2'.size
  have V_w2' : Below w.heap.size w w2' := V_w1'.trans (u_w2'.mono V_w1'.size)
  clear V_w1'
  clear u_w2'
  go_wp2_with fail
  refine (CW1.out _).mono ?_
  rintro e w_q ⟨rfl, rfl⟩
  have e_t := (LX.out.below V_w2').at q t2
  go_wp2_with fail
  clear e_t
  refine (CW2.out _).mono ?_
  rintro e w_q ⟨rfl, rfl⟩
  clear t1 t2 tL tq q0 q3
  go_wp2_with fail
  refine Exists.elim (Blk.new_ w2' (b := w2'.heap.size) rfl 3 #[]) (fun w3' q => ?_)
  rw [q.1]; have B_e0 := q.2.1; have s_w3' := q.2.2.1; have u_w3' := q.2.2.2; clear q
  replace B_a := B_a.below u_w3'
  replace B_b := B_b.below u_w3'
  have S_w3' : w2'.heap.size + 1 ≤ w3'.heap.size := Nat.le_of_eq s_w3'.symm
  have V_w3' := V_w2'.trans (u_w3'.mono (V_w2').size)
  clear u_w3' s_w3' V_w2'
  clear B_e0
  have V0 := V_w3'
  obtain ⟨wL, rfl⟩ : ∃ q, q = w3' := ⟨_, rfl⟩
  have SZL : w.heap.size + 2 ≤ wL.heap.size := by omega
  go_loopw [11, 10] (fun v u wr => ∃ m : Nat, (m : Int) ≤ a.P - 1 ∧ v = .int .i64 ((m : Int) + 1) ∧ Below wL.heap.size wL wr ∧ ∃ p5 n5 c5, u = .slice p5 n5 c5 ∧ Own wr wL.heap.size p5 n5 c5 (svT a b at_ i m)) (fun v _ _ => 300 - (intOf v).toNat)
  case atStart => exact ⟨0, by omega, rfl, Below.refl _ _, _, 0, 0, rfl, Own.nil0 _ _ _⟩
  case round =>
    obtain ⟨m, hm, rfl, hbel, p5, n5, c5, rfl, own⟩ := hrel
    have B_a := B_a.below hbel
    have B_b := B_b.below hbel
    have V_wr := (Below.refl wL.heap.size wL).trans (hbel.mono (Below.refl wL.heap.size wL).size)
    have S_wr := hbel.size
    have hl5 : n5 ≤ 300 := by have := own.ints.len; have := svT_len a b at_ i m; omega
    have VW : Below w.heap.size w wr := V0.trans ((V_wr).mono V0.size)
    by_cases hlt : (m : Int) + 1 < a.P
    · have CMv := CM.out ((m : Int) + 1) (by omega)
      have HS : Hid (svT a b at_ i (m + 1) = svT a b at_ i m ++ if (decide ((runP (chgP a.P at_ i.toNat ((m : Int) + 1)) 3 a b []).1.status = 1) && decide ((runP (chgP a.P at_ i.toNat ((m : Int) + 1)) 3 a b []).2.1.status = 1)) then [(m : Int) + 1] else []) := Lib.hid rfl
      generalize runP (chgP a.P at_ i.toNat ((m : Int) + 1)) 3 a b [] = RP at *
      obtain ⟨r1, r2, D⟩ := RP
      dsimp only at CMv HS
      replace CMv := Lib.hid CMv
      have e_a := B_a.all11
      have e_b := B_b.all11
      go_wp2_with fail
      clear e_a e_b
      refine Exists.elim (Blk.new_ wr (b := wr.heap.size) rfl 109 #[.int .i64 1, .int .i64 at_, .int .i64 i, .int .i64 ((m : Int) + 1)]) (fun w4' q => ?_)
      rw [q.1]; have B_e := q.2.1; have s_w4' := q.2.2.1; have u_w4' := q.2.2.2; clear q
      replace B_a := B_a.below u_w4'
      replace B_b := B_b.below u_w4'
      replace own := own.below u_w4'
      have S_w4' : wr.heap.size + 1 ≤ w4'.heap.size := Nat.le_of_eq s_w4'.symm
      have V_w4' := V_wr.trans (u_w4'.mono (V_wr).size)
      clear u_w4' s_w4' V_wr
      have VX := V0.trans ((V_w4').mono V0.size)
      refine (CMv.out _ _ (LA.out.below VX) (LB.out.below VX) (LX.out.below VX) (Flat.of_blk B_e) B_e.lt).mono ?_
      rintro e w5' ⟨y, y2, p9, n9, c9, rfl, u_w5'⟩
      replace B_a := B_a.below u_w5'
      replace B_b := B_b.below u_w5'
      replace B_e := B_e.below u_w5'
      replace own := own.below u_w5'
      have S_w5' := u_w5'.size
      have V_w5' : Below wL.heap.size wL w5' := V_w4'.trans (u_w5'.mono V_w4'.size)
      clear V_w4'
      clear u_w5'
      go_upto_region 8 with fail
      refine Exists.elim (Blk.new_ w5' (b := w5'.heap.size) rfl 31 #[.int .i64 r1.P, .int .i64 r1.party, .int .i64 r1.input, .int .i64 r1.mask, .int .i64 r1.delta, .slice y.sa y.sn y.sc, .slice y.ka y.kn y.kc, .int .i64 r1.step, .slice y.ha y.hn y.hc, .int .i64 r1.status, .int .i64 r1.out]) (fun w6_a0' q => ?_)
      rw [q.1]; have B_c := q.2.1; have s_w6_a0' := q.2.2.1; have u_w6_a0' := q.2.2.2; clear q
      refine Exists.elim (Blk.new_ w6_a0' (b := w5'.heap.size + 1) s_w6_a0' 31 #[.int .i64 r2.P, .int .i64 r2.party, .int .i64 r2.input, .int .i64 r2.mask, .int .i64 r2.delta, .slice y2.sa y2.sn y2.sc, .slice y2.ka y2.kn y2.kc, .int .i64 r2.step, .slice y2.ha y2.hn y2.hc, .int .i64 r2.status, .int .i64 r2.out]) (fun w6' q => ?_)
      rw [q.1]; have B_d := q.2.1; have s_w6' := q.2.2.1; have u_w6' := q.2.2.2; clear q
      replace B_c := (B_c.below u_w6')
      have U := (u_w6_a0'.trans (u_w6'.mono u_w6_a0'.size))
      replace B_a := B_a.below U
      replace B_b := B_b.below U
      replace B_e := B_e.below U
      replace own := own.below U
      have S_w6' : w5'.heap.size + 2 ≤ w6'.heap.size := Nat.le_of_eq s_w6'.symm
      have V_w6' := V_w5'.trans (U.mono (V_w5').size)
      clear u_w6_a0' u_w6' s_w6_a0' s_w6' U V_w5'
      have e_c_9 := B_c.a11_9
      have e_d_9 := B_d.a11_9
      generalize r1.status = s1 at *
      generalize r2.status = s2 at *
      by_cases h1 : s1 = 1
      · subst h1
        by_cases h2 : s2 = 1
        · subst h2
          simp only [decide_true, Bool.and_self, if_true] at HS
          have VB := V_w6'
          go_wp2_with (at_builtin; refine wpList_appI _ rfl _ _ rfl wL.heap.size p5 n5 c5 (svT a b at_ i m) rfl (own.alloc _) _ 1 1 [(m : Int) + 1] rfl (Ints.lit1 _ _ _) (by omega) (by have := VB.size; simp; omega) ?_)
          intro a7 c7 w9 o7 u7 _
          have VE := (VB.alloc VB.size (.cells #[.int .i64 ((m : Int) + 1)] 3)).trans u7
          clear u7 VB
          go_wp2
          go_roundw
          case rel => exact ⟨m + 1, by omega, by go_num, VE, a7, n5 + 1, c7, rfl, by rw [HS.out]; exact o7⟩
          case measure => simp [intOf]; omega
        · have e2 : ((s2 == 1) : Bool) = false := by simpa using h2
          have HS2 : Hid (svT a b at_ i (m + 1) = svT a b at_ i m) := Lib.hid (by rw [HS.out]; simp [h2])
          replace h2 := Lib.hid h2
          go_wp2
          go_roundw
          case rel => exact ⟨m + 1, by omega, by go_num, V_w6', p5, n5, c5, rfl, by rw [HS2.out]; exact own⟩
          case measure => simp [intOf]; omega
      · have e1 : ((s1 == 1) : Bool) = false := by simpa using h1
        have HS2 : Hid (svT a b at_ i (m + 1) = svT a b at_ i m) := Lib.hid (by rw [HS.out]; simp [h1])
        replace h1 := Lib.hid h1
        go_wp2
        go_roundw
        case rel => exact ⟨m + 1, by omega, by go_num, V_w6', p5, n5, c5, rfl, by rw [HS2.out]; exact own⟩
        case measure => simp [intOf]; omega
    · have hm2 : (a.P.toNat - 1) = m := by omega
      have own2 : Own wr wL.heap.size p5 n5 c5 (svT a b at_ i (a.P.toNat - 1)) := by rw [hm2]; exact own
      clear own hm2
      have e_a_0 := B_a.a11_0
      go_wp2
      go_ret2
      exact ⟨p5, n5, c5, rfl, own2.lower (by omega), VW⟩
set_option maxHeartbeats 16000000 in
set_option maxRecDepth 100000 in
theorem spec_SilentValues_any (a : Pl) (x : PlX) (b : Pl) (z : PlX) (at_ i : Int) (w : World) (h : PlR w x a.shares a.keys a.heard) (h' : PlR w z b.shares b.keys b.heard) (hT : Tbl w) :
    Calls Tryd.prog 47 #[.agg #[.int .i64 a.P, .int .i64 a.party, .int .i64 a.input, .int .i64 a.mask, .int .i64 a.delta, .slice x.sa x.sn x.sc, .slice x.ka x.kn x.kc, .int .i64 a.step, .slice x.ha x.hn x.hc, .int .i64 a.status, .int .i64 a.out], .agg #[.int .i64 b.P, .int .i64 b.party, .int .i64 b.input, .int .i64 b.mask, .int .i64 b.delta, .slice z.sa z.sn z.sc, .slice z.ka z.kn z.kc, .int .i64 b.step, .slice z.ha z.hn z.hc, .int .i64 b.status, .int .i64 b.out], .int .i64 at_, .int .i64 i] w fun e w' => ∃ p n c, e = .returned (.tuple #[.slice p n c, .bool (svB a b at_ i)]) ∧ Own w' w.heap.size p n c (svR a b at_ i) ∧ Below w.heap.size w w' := by
  have CM := Lib.hid (fun (hb : svB a b at_ i = true) (v : Int) (hv : 1 ≤ v ∧ v ≤ a.P - 1) (g : Nat) (W : World) (h2 : PlR W x a.shares a.keys a.heard) (k2 : PlR W z b.shares b.keys b.heard) (hT2 : Tbl W) (hM : Flat 4 W (some ⟨g, 0, none⟩) 1 1 [1, at_, i, v]) (hg : g < W.heap.size) => nwRun_any a b x z at_ i v g 0 1 W h2 k2 (two_runS (svB_two hb)) (twoB_parts (svB_two hb)).2.2.1 (twoB_parts (svB_two hb)).2.2.2.1 (twoB_parts (svB_two hb)).2.2.2.2.1 (by obtain ⟨_, q1, q2, q3⟩ := rbB_parts (sv_rb hb (v := v) (by omega)); omega) hM)
  have HP := Lib.hid (fun (hb : svB a b at_ i = true) => (show 2 ≤ a.P ∧ a.P ≤ 251 from ⟨(PlN.of (twoB_parts (svB_two hb)).1).p1, (PlN.of (twoB_parts (svB_two hb)).1).p2⟩))
  have SB : Hid (svB a b at_ i = (twoB a b && (inB at_ 0 5 && inB i 0 ((blen (at_ / 2).toNat : Int) - 1)))) := Lib.hid rfl
  have CA := Lib.hid (fun (pl : Option Addr) (cl : Nat) (W : World) (h2 : PlR W x a.shares a.keys a.heard) (k2 : PlR W z b.shares b.keys b.heard) (hT2 : Tbl W) (hM : Flat 4 W pl 1 cl [1, at_, i, 0]) => nwAsked_1 a b x z at_ i pl cl W h2 k2 hT2 hM)
  unfold svR
  generalize svB a b at_ i = bb at *
  have LX := Lib.hid hT
  have LA := Lib.hid h
  have LB := Lib.hid h'
  clear hT h h'
  cases bb
  all_goals
    go_enter Tryd.func47, Tryd.ntmps47
    go_upto_region 1 with fail
    refine Exists.elim (Blk.new_ w (b := w.heap.size) rfl 31 #[.int .i64 a.P, .int .i64 a.party, .int .i64 a.input, .int .i64 a.mask, .int .i64 a.delta, .slice x.sa x.sn x.sc, .slice x.ka x.kn x.kc, .int .i64 a.step, .slice x.ha x.hn x.hc, .int .i64 a.status, .int .i64 a.out]) (fun w1_a0' q => ?_)
    rw [q.1]; have B_a := q.2.1; have s_w1_a0' := q.2.2.1; have u_w1_a0' := q.2.2.2; clear q
    refine Exists.elim (Blk.new_ w1_a0' (b := w.heap.size + 1) s_w1_a0' 31 #[.int .i64 b.P, .int .i64 b.party, .int .i64 b.input, .int .i64 b.mask, .int .i64 b.delta, .slice z.sa z.sn z.sc, .slice z.ka z.kn z.kc, .int .i64 b.step, .slice z.ha z.hn z.hc, .int .i64 b.status, .int .i64 b.out]) (fun w1' q => ?_)
    rw [q.1]; have B_b := q.2.1; have s_w1' := q.2.2.1; have u_w1' := q.2.2.2; clear q
    replace B_a := (B_a.below u_w1')
    have U := (u_w1_a0'.trans (u_w1'.mono u_w1_a0'.size))
    have S_w1' : w.heap.size + 2 ≤ w1'.heap.size := Nat.le_of_eq s_w1'.symm
    have V_w1' := (Below.refl w.heap.size w).trans (U.mono ((Below.refl w.heap.size w)).size)
    clear u_w1_a0' u_w1' s_w1_a0' s_w1' U
    have e_a := B_a.all11
    have e_b := B_b.all11
    go_wp2_with fail
    clear e_a e_b
    refine Exists.elim (Blk.new_ w1' (b := w1'.heap.size) rfl 109 #[.int .i64 1, .int .i64 at_, .int .i64 i, .int .i64 0]) (fun w2' q => ?_)
    rw [q.1]; have B_e0 := q.2.1; have s_w2' := q.2.2.1; have u_w2' := q.2.2.2; clear q
    replace B_a := B_a.below u_w2'
    replace B_b := B_b.below u_w2'
    have S_w2' : w1'.heap.size + 1 ≤ w2'.heap.size := Nat.le_of_eq s_w2'.symm
    have V_w2' := V_w1'.trans (u_w2'.mono (V_w1').size)
    clear u_w2' s_w2' V_w1'
    refine (CA.out _ 1 _ (LA.out.below V_w2') (LB.out.below V_w2') (LX.out.below V_w2') (Flat.of_blk B_e0)).mono ?_
    rintro e w3' ⟨rfl, u_w3'⟩
    replace B_a := B_a.below u_w3'
    replace B_b := B_b.below u_w3'
    replace B_e0 := B_e0.below u_w3'
    have S_w3' := u_w3'.size
    have V_w3' : Below w.heap.size w w3' := V_w2'.trans (u_w3'.mono V_w2'.size)
    clear V_w2'
    clear u_w3'
    clear B_e0
  · go_wp2
    go_ret2
    exact ⟨none, 0, 0, rfl, Own.nil0 _ _ _, V_w3'⟩
  replace CM := Lib.hid (CM.out (by simp))
  have hP := HP.out (by simp)
  go_wp2_with fail
  have V0 := V_w3'
  obtain ⟨wL, rfl⟩ : ∃ q, q = w3' := ⟨_, rfl⟩
  have SZL : w.heap.size + 2 ≤ wL.heap.size := by omega
  go_loopw [11, 10] (fun v u wr => ∃ m : Nat, (m : Int) ≤ a.P - 1 ∧ v = .int .i64 ((m : Int) + 1) ∧ Below wL.heap.size wL wr ∧ ∃ p5 n5 c5, u = .slice p5 n5 c5 ∧ Own wr wL.heap.size p5 n5 c5 (svT a b at_ i m)) (fun v _ _ => 300 - (intOf v).toNat)
  case atStart => exact ⟨0, by omega, rfl, Below.refl _ _, _, 0, 0, rfl, Own.nil0 _ _ _⟩
  case round =>
    obtain ⟨m, hm, rfl, hbel, p5, n5, c5, rfl, own⟩ := hrel
    have B_a := B_a.below hbel
    have B_b := B_b.below hbel
    have V_wr := (Below.refl wL.heap.size wL).trans (hbel.mono (Below.refl wL.heap.size wL).size)
    have S_wr := hbel.size
    have hl5 : n5 ≤ 300 := by have := own.ints.len; have := svT_len a b at_ i m; omega
    have VW : Below w.heap.size w wr := V0.trans ((V_wr).mono V0.size)
    by_cases hlt : (m : Int) + 1 < a.P
    · have CMv := CM.out ((m : Int) + 1) (by omega)
      have HS : Hid (svT a b at_ i (m + 1) = svT a b at_ i m ++ if (decide ((runP (chgP a.P at_ i.toNat ((m : Int) + 1)) 3 a b []).1.status = 1) && decide ((runP (chgP a.P at_ i.toNat ((m : Int) + 1)) 3 a b []).2.1.status = 1)) then [(m : Int) + 1] else []) := Lib.hid rfl
      generalize runP (chgP a.P at_ i.toNat ((m : Int) + 1)) 3 a b [] = RP at *
      obtain ⟨r1, r2, D⟩ := RP
      dsimp only at CMv HS
      replace CMv := Lib.hid CMv
      have e_a := B_a.all11
      have e_b := B_b.all11
      go_wp2_with fail
      clear e_a e_b
      refine Exists.elim (Blk.new_ wr (b := wr.heap.size) rfl 109 #[.int .i64 1, .int .i64 at_, .int .i64 i, .int .i64 ((m : Int) + 1)]) (fun w4' q => ?_)
      rw [q.1]; have B_e := q.2.1; have s_w4' := q.2.2.1; have u_w4' := q.2.2.2; clear q
      replace B_a := B_a.below u_w4'
      replace B_b := B_b.below u_w4'
      replace own := own.below u_w4'
      have S_w4' : wr.heap.size + 1 ≤ w4'.heap.size := Nat.le_of_eq s_w4'.symm
      have V_w4' := V_wr.trans (u_w4'.mono (V_wr).size)
      clear u_w4' s_w4' V_wr
      have VX := V0.trans ((V_w4').mono V0.size)
      refine (CMv.out _ _ (LA.out.below VX) (LB.out.below VX) (LX.out.below VX) (Flat.of_blk B_e) B_e.lt).mono ?_
      rintro e w5' ⟨y, y2, p9, n9, c9, rfl, u_w5'⟩
      replace B_a := B_a.below u_w5'
      replace B_b := B_b.below u_w5'
      replace B_e := B_e.below u_w5'
      replace own := own.below u_w5'
      have S_w5' := u_w5'.size
      have V_w5' : Below wL.heap.size wL w5' := V_w4'.trans (u_w5'.mono V_w4'.size)
      clear V_w4'
      clear u_w5'
      go_upto_region 8 with fail
      refine Exists.elim (Blk.new_ w5' (b := w5'.heap.size) rfl 31 #[.int .i64 r1.P, .int .i64 r1.party, .int .i64 r1.input, .int .i64 r1.mask, .int .i64 r1.delta, .slice y.sa y.sn y.sc, .slice y.ka y.kn y.kc, .int .i64 r1.step, .slice y.ha y.hn y.hc, .int .i64 r1.status, .int .i64 r1.out]) (fun w6_a0' q => ?_)
      rw [q.1]; have B_c := q.2.1; have s_w6_a0' := q.2.2.1; have u_w6_a0' := q.2.2.2; clear q
      refine Exists.elim (Blk.new_ w6_a0' (b := w5'.heap.size + 1) s_w6_a0' 31 #[.int .i64 r2.P, .int .i64 r2.party, .int .i64 r2.input, .int .i64 r2.mask, .int .i64 r2.delta, .slice y2.sa y2.sn y2.sc, .slice y2.ka y2.kn y2.kc, .int .i64 r2.step, .slice y2.ha y2.hn y2.hc, .int .i64 r2.status, .int .i64 r2.out]) (fun w6' q => ?_)
      rw [q.1]; have B_d := q.2.1; have s_w6' := q.2.2.1; have u_w6' := q.2.2.2; clear q
      replace B_c := (B_c.below u_w6')
      have U := (u_w6_a0'.trans (u_w6'.mono u_w6_a0'.size))
      replace B_a := B_a.below U
      replace B_b := B_b.below U
      replace B_e := B_e.below U
      replace own := own.below U
      have S_w6' : w5'.heap.size + 2 ≤ w6'.heap.size := Nat.le_of_eq s_w6'.symm
      have V_w6' := V_w5'.trans (U.mono (V_w5').size)
      clear u_w6_a0' u_w6' s_w6_a0' s_w6' U V_w5'
      have e_c_9 := B_c.a11_9
      have e_d_9 := B_d.a11_9
      generalize r1.status = s1 at *
      generalize r2.status = s2 at *
      by_cases h1 : s1 = 1
      · subst h1
        by_cases h2 : s2 = 1
        · subst h2
          simp only [decide_true, Bool.and_self, if_true] at HS
          have VB := V_w6'
          go_wp2_with (at_builtin; refine wpList_appI _ rfl _ _ rfl wL.heap.size p5 n5 c5 (svT a b at_ i m) rfl (own.alloc _) _ 1 1 [(m : Int) + 1] rfl (Ints.lit1 _ _ _) (by omega) (by have := VB.size; simp; omega) ?_)
          intro a7 c7 w9 o7 u7 _
          have VE := (VB.alloc VB.size (.cells #[.int .i64 ((m : Int) + 1)] 3)).trans u7
          clear u7 VB
          go_wp2
          go_roundw
          case rel => exact ⟨m + 1, by omega, by go_num, VE, a7, n5 + 1, c7, rfl, by rw [HS.out]; exact o7⟩
          case measure => simp [intOf]; omega
        · have e2 : ((s2 == 1) : Bool) = false := by simpa using h2
          have HS2 : Hid (svT a b at_ i (m + 1) = svT a b at_ i m) := Lib.hid (by rw [HS.out]; simp [h2])
          replace h2 := Lib.hid h2
          go_wp2
          go_roundw
          case rel => exact ⟨m + 1, by omega, by go_num, V_w6', p5, n5, c5, rfl, by rw [HS2.out]; exact own⟩
          case measure => simp [intOf]; omega
      · have e1 : ((s1 == 1) : Bool) = false := by simpa using h1
        have HS2 : Hid (svT a b at_ i (m + 1) = svT a b at_ i m) := Lib.hid (by rw [HS.out]; simp [h1])
        replace h1 := Lib.hid h1
        go_wp2
        go_roundw
        case rel => exact ⟨m + 1, by omega, by go_num, V_w6', p5, n5, c5, rfl, by rw [HS2.out]; exact own⟩
        case measure => simp [intOf]; omega
    · have hm2 : (a.P.toNat - 1) = m := by omega
      have own2 : Own wr wL.heap.size p5 n5 c5 (svT a b at_ i (a.P.toNat - 1)) := by rw [hm2]; exact own
      clear own hm2
      have e_a_0 := B_a.a11_0
      go_wp2
      go_ret2
      exact ⟨p5, n5, c5, rfl, own2.lower (by omega), VW⟩
end Go.Proofs.YtlmdckcohoddnaaDoor
namespace Go.Proofs.YtlmdckcohoddnaaDoor
open Go.RowKit
set_option maxHeartbeats 16000000 in
set_option maxRecDepth 100000 in
theorem FnExactSilentValues_walk (a0 : Pl) (p0 : PlX) (a1 : Pl) (p1 : PlX) (a2 : Int) (a3 : Int) (w : World) (z0 : PlR w p0 a0.shares a0.keys a0.heard) (z1 : PlR w p1 a1.shares a1.keys a1.heard) (_w2 : -9223372036854775808 ≤ a2 ∧ a2 ≤ 9223372036854775807) (_w3 : -9223372036854775808 ≤ a3 ∧ a3 ≤ 9223372036854775807) (hT : Tbl w) :
    Calls Tryd.prog 11 #[.agg #[.int .i64 a0.P, .int .i64 a0.party, .int .i64 a0.input, .int .i64 a0.mask, .int .i64 a0.delta, .slice p0.sa p0.sn p0.sc, .slice p0.ka p0.kn p0.kc, .int .i64 a0.step, .slice p0.ha p0.hn p0.hc, .int .i64 a0.status, .int .i64 a0.out], .agg #[.int .i64 a1.P, .int .i64 a1.party, .int .i64 a1.input, .int .i64 a1.mask, .int .i64 a1.delta, .slice p1.sa p1.sn p1.sc, .slice p1.ka p1.kn p1.kc, .int .i64 a1.step, .slice p1.ha p1.hn p1.hc, .int .i64 a1.status, .int .i64 a1.out], .int .i64 a2, .int .i64 a3] w fun e w' => e = .returned (.bool true) ∧ Below w.heap.size w w' := by
  have LX := Lib.hid hT
  clear hT
  have CS := fun (W : World) (x0 : PlX) (x1 : PlX) => spec_SilentValues_any a0 x0 a1 x1 a2 a3 W
  have CI := fun (W : World) (x0 : PlX) (x1 : PlX) => SilentValues_any a0 x0 a1 x1 a2 a3 W
  have hl0 := svR_len a0 a1 a2 a3
  generalize svR a0 a1 a2 a3 = d0_0 at CS CI hl0
  generalize svB a0 a1 a2 a3 = d1_0 at CS CI hl0
  replace CS := Lib.hid CS
  replace CI := Lib.hid CI
  by_cases ht0 : (szP p0 a0.shares a0.keys a0.heard : Int) ≤ 1048576
  · skip
    by_cases ht1 : (szP p1 a1.shares a1.keys a1.heard : Int) ≤ 1048576 - (szP p0 a0.shares a0.keys a0.heard : Int)
    · skip
      go_enter Tryd.func11, Tryd.ntmps11
      go_wp2_with fail
      refine Exists.elim (Blk.new_ w (b := w.heap.size) rfl 26 #[.int .i64 a0.P, .int .i64 a0.party, .int .i64 a0.input, .int .i64 a0.mask, .int .i64 a0.delta, .slice p0.sa p0.sn p0.sc, .slice p0.ka p0.kn p0.kc, .int .i64 a0.step, .slice p0.ha p0.hn p0.hc, .int .i64 a0.status, .int .i64 a0.out]) (fun w1_a0' q => ?_)
      rw [q.1]; have B_p0 := q.2.1; have s_w1_a0' := q.2.2.1; have u_w1_a0' := q.2.2.2; clear q
      refine Exists.elim (Blk.new_ w1_a0' (b := w.heap.size + 1) s_w1_a0' 26 #[.int .i64 a1.P, .int .i64 a1.party, .int .i64 a1.input, .int .i64 a1.mask, .int .i64 a1.delta, .slice p1.sa p1.sn p1.sc, .slice p1.ka p1.kn p1.kc, .int .i64 a1.step, .slice p1.ha p1.hn p1.hc, .int .i64 a1.status, .int .i64 a1.out]) (fun w1' q => ?_)
      rw [q.1]; have B_p1 := q.2.1; have s_w1' := q.2.2.1; have u_w1' := q.2.2.2; clear q
      replace B_p0 := (B_p0.below u_w1')
      have U := (u_w1_a0'.trans (u_w1'.mono u_w1_a0'.size))
      have V_w1' := (Below.refl w.heap.size w).trans (U.mono ((Below.refl w.heap.size w)).size)
      have S_w1' : w.heap.size + 2 ≤ w1'.heap.size := Nat.le_of_eq s_w1'.symm
      clear u_w1_a0' u_w1' s_w1_a0' s_w1' U
      refine (szPlayer_o_yes a0 p0 (1048576) _ (z0.below V_w1') (by omega) (by omega)).mono ?_
      rintro e w2' ⟨rfl, u_w2'⟩
      replace B_p0 := B_p0.below u_w2'
      replace B_p1 := B_p1.below u_w2'
      have V_w2' := V_w1'.trans (u_w2'.mono (V_w1').size)
      have S_w2' := u_w2'.size
      clear u_w2' V_w1'
      have e_p1 := B_p1.all11
      go_wp2_with fail
      clear e_p1
      refine (szPlayer_o_yes a1 p1 (1048576 - (szP p0 a0.shares a0.keys a0.heard : Int)) _ (z1.below V_w2') (by omega) (by omega)).mono ?_
      rintro e w3' ⟨rfl, u_w3'⟩
      replace B_p0 := B_p0.below u_w3'
      replace B_p1 := B_p1.below u_w3'
      have V_w3' := V_w2'.trans (u_w3'.mono (V_w2').size)
      have S_w3' := u_w3'.size
      clear u_w3' V_w2'
      have hlf : (0 : Int) ≤ 1048576 - (szP p0 a0.shares a0.keys a0.heard : Int) - (szP p1 a1.shares a1.keys a1.heard : Int) := by omega
      have hcn0 := z0.cnt (by omega)
      replace ht0 : (szP p0 a0.shares a0.keys a0.heard : Int) ≤ 1048576 := by omega
      have hcn1 := z1.cnt (by omega)
      replace ht1 : (szP p1 a1.shares a1.keys a1.heard : Int) ≤ 1048576 := by omega
      have e_p0_0 : w3'.cell? ⟨w.heap.size, 0, none⟩ = some (.int .i64 a0.P) := B_p0.cell 0
      have e_p0_1 : w3'.cell? ⟨w.heap.size, 1, none⟩ = some (.int .i64 a0.party) := B_p0.cell 1
      have e_p0_2 : w3'.cell? ⟨w.heap.size, 2, none⟩ = some (.int .i64 a0.input) := B_p0.cell 2
      have e_p0_3 : w3'.cell? ⟨w.heap.size, 3, none⟩ = some (.int .i64 a0.mask) := B_p0.cell 3
      have e_p0_4 : w3'.cell? ⟨w.heap.size, 4, none⟩ = some (.int .i64 a0.delta) := B_p0.cell 4
      have e_p0_5 : w3'.cell? ⟨w.heap.size, 5, none⟩ = some (.slice p0.sa p0.sn p0.sc) := B_p0.cell 5
      have e_p0_6 : w3'.cell? ⟨w.heap.size, 6, none⟩ = some (.slice p0.ka p0.kn p0.kc) := B_p0.cell 6
      have e_p0_7 : w3'.cell? ⟨w.heap.size, 7, none⟩ = some (.int .i64 a0.step) := B_p0.cell 7
      have e_p0_8 : w3'.cell? ⟨w.heap.size, 8, none⟩ = some (.slice p0.ha p0.hn p0.hc) := B_p0.cell 8
      have e_p0_9 : w3'.cell? ⟨w.heap.size, 9, none⟩ = some (.int .i64 a0.status) := B_p0.cell 9
      have e_p0_10 : w3'.cell? ⟨w.heap.size, 10, none⟩ = some (.int .i64 a0.out) := B_p0.cell 10
      have e_p1_0 : w3'.cell? ⟨w.heap.size + 1, 0, none⟩ = some (.int .i64 a1.P) := B_p1.cell 0
      have e_p1_1 : w3'.cell? ⟨w.heap.size + 1, 1, none⟩ = some (.int .i64 a1.party) := B_p1.cell 1
      have e_p1_2 : w3'.cell? ⟨w.heap.size + 1, 2, none⟩ = some (.int .i64 a1.input) := B_p1.cell 2
      have e_p1_3 : w3'.cell? ⟨w.heap.size + 1, 3, none⟩ = some (.int .i64 a1.mask) := B_p1.cell 3
      have e_p1_4 : w3'.cell? ⟨w.heap.size + 1, 4, none⟩ = some (.int .i64 a1.delta) := B_p1.cell 4
      have e_p1_5 : w3'.cell? ⟨w.heap.size + 1, 5, none⟩ = some (.slice p1.sa p1.sn p1.sc) := B_p1.cell 5
      have e_p1_6 : w3'.cell? ⟨w.heap.size + 1, 6, none⟩ = some (.slice p1.ka p1.kn p1.kc) := B_p1.cell 6
      have e_p1_7 : w3'.cell? ⟨w.heap.size + 1, 7, none⟩ = some (.int .i64 a1.step) := B_p1.cell 7
      have e_p1_8 : w3'.cell? ⟨w.heap.size + 1, 8, none⟩ = some (.slice p1.ha p1.hn p1.hc) := B_p1.cell 8
      have e_p1_9 : w3'.cell? ⟨w.heap.size + 1, 9, none⟩ = some (.int .i64 a1.status) := B_p1.cell 9
      have e_p1_10 : w3'.cell? ⟨w.heap.size + 1, 10, none⟩ = some (.int .i64 a1.out) := B_p1.cell 10
      go_wp2
      go_region_held3 (fun W => W.cell? ⟨w.heap.size, 0, none⟩ = some (.int .i64 a0.P) ∧ W.cell? ⟨w.heap.size, 1, none⟩ = some (.int .i64 a0.party) ∧ W.cell? ⟨w.heap.size, 2, none⟩ = some (.int .i64 a0.input) ∧ W.cell? ⟨w.heap.size, 3, none⟩ = some (.int .i64 a0.mask) ∧ W.cell? ⟨w.heap.size, 4, none⟩ = some (.int .i64 a0.delta) ∧ W.cell? ⟨w.heap.size, 5, none⟩ = some (.slice p0.sa p0.sn p0.sc) ∧ W.cell? ⟨w.heap.size, 6, none⟩ = some (.slice p0.ka p0.kn p0.kc) ∧ W.cell? ⟨w.heap.size, 7, none⟩ = some (.int .i64 a0.step) ∧ W.cell? ⟨w.heap.size, 8, none⟩ = some (.slice p0.ha p0.hn p0.hc) ∧ W.cell? ⟨w.heap.size, 9, none⟩ = some (.int .i64 a0.status) ∧ W.cell? ⟨w.heap.size, 10, none⟩ = some (.int .i64 a0.out) ∧ W.cell? ⟨w.heap.size + 1, 0, none⟩ = some (.int .i64 a1.P) ∧ W.cell? ⟨w.heap.size + 1, 1, none⟩ = some (.int .i64 a1.party) ∧ W.cell? ⟨w.heap.size + 1, 2, none⟩ = some (.int .i64 a1.input) ∧ W.cell? ⟨w.heap.size + 1, 3, none⟩ = some (.int .i64 a1.mask) ∧ W.cell? ⟨w.heap.size + 1, 4, none⟩ = some (.int .i64 a1.delta) ∧ W.cell? ⟨w.heap.size + 1, 5, none⟩ = some (.slice p1.sa p1.sn p1.sc) ∧ W.cell? ⟨w.heap.size + 1, 6, none⟩ = some (.slice p1.ka p1.kn p1.kc) ∧ W.cell? ⟨w.heap.size + 1, 7, none⟩ = some (.int .i64 a1.step) ∧ W.cell? ⟨w.heap.size + 1, 8, none⟩ = some (.slice p1.ha p1.hn p1.hc) ∧ W.cell? ⟨w.heap.size + 1, 9, none⟩ = some (.int .i64 a1.status) ∧ W.cell? ⟨w.heap.size + 1, 10, none⟩ = some (.int .i64 a1.out))
        (first | exact ⟨keepC u_w6' (keepC u_w5' (keepC u_w4' (e_p0_0))), keepC u_w6' (keepC u_w5' (keepC u_w4' (e_p0_1))), keepC u_w6' (keepC u_w5' (keepC u_w4' (e_p0_2))), keepC u_w6' (keepC u_w5' (keepC u_w4' (e_p0_3))), keepC u_w6' (keepC u_w5' (keepC u_w4' (e_p0_4))), keepC u_w6' (keepC u_w5' (keepC u_w4' (e_p0_5))), keepC u_w6' (keepC u_w5' (keepC u_w4' (e_p0_6))), keepC u_w6' (keepC u_w5' (keepC u_w4' (e_p0_7))), keepC u_w6' (keepC u_w5' (keepC u_w4' (e_p0_8))), keepC u_w6' (keepC u_w5' (keepC u_w4' (e_p0_9))), keepC u_w6' (keepC u_w5' (keepC u_w4' (e_p0_10))), keepC u_w6' (keepC u_w5' (keepC u_w4' (e_p1_0))), keepC u_w6' (keepC u_w5' (keepC u_w4' (e_p1_1))), keepC u_w6' (keepC u_w5' (keepC u_w4' (e_p1_2))), keepC u_w6' (keepC u_w5' (keepC u_w4' (e_p1_3))), keepC u_w6' (keepC u_w5' (keepC u_w4' (e_p1_4))), keepC u_w6' (keepC u_w5' (keepC u_w4' (e_p1_5))), keepC u_w6' (keepC u_w5' (keepC u_w4' (e_p1_6))), keepC u_w6' (keepC u_w5' (keepC u_w4' (e_p1_7))), keepC u_w6' (keepC u_w5' (keepC u_w4' (e_p1_8))), keepC u_w6' (keepC u_w5' (keepC u_w4' (e_p1_9))), keepC u_w6' (keepC u_w5' (keepC u_w4' (e_p1_10)))⟩ | exact ⟨keepC u_w5' (keepC u_w4' (e_p0_0)), keepC u_w5' (keepC u_w4' (e_p0_1)), keepC u_w5' (keepC u_w4' (e_p0_2)), keepC u_w5' (keepC u_w4' (e_p0_3)), keepC u_w5' (keepC u_w4' (e_p0_4)), keepC u_w5' (keepC u_w4' (e_p0_5)), keepC u_w5' (keepC u_w4' (e_p0_6)), keepC u_w5' (keepC u_w4' (e_p0_7)), keepC u_w5' (keepC u_w4' (e_p0_8)), keepC u_w5' (keepC u_w4' (e_p0_9)), keepC u_w5' (keepC u_w4' (e_p0_10)), keepC u_w5' (keepC u_w4' (e_p1_0)), keepC u_w5' (keepC u_w4' (e_p1_1)), keepC u_w5' (keepC u_w4' (e_p1_2)), keepC u_w5' (keepC u_w4' (e_p1_3)), keepC u_w5' (keepC u_w4' (e_p1_4)), keepC u_w5' (keepC u_w4' (e_p1_5)), keepC u_w5' (keepC u_w4' (e_p1_6)), keepC u_w5' (keepC u_w4' (e_p1_7)), keepC u_w5' (keepC u_w4' (e_p1_8)), keepC u_w5' (keepC u_w4' (e_p1_9)), keepC u_w5' (keepC u_w4' (e_p1_10))⟩ | exact ⟨keepC u_w4' (e_p0_0), keepC u_w4' (e_p0_1), keepC u_w4' (e_p0_2), keepC u_w4' (e_p0_3), keepC u_w4' (e_p0_4), keepC u_w4' (e_p0_5), keepC u_w4' (e_p0_6), keepC u_w4' (e_p0_7), keepC u_w4' (e_p0_8), keepC u_w4' (e_p0_9), keepC u_w4' (e_p0_10), keepC u_w4' (e_p1_0), keepC u_w4' (e_p1_1), keepC u_w4' (e_p1_2), keepC u_w4' (e_p1_3), keepC u_w4' (e_p1_4), keepC u_w4' (e_p1_5), keepC u_w4' (e_p1_6), keepC u_w4' (e_p1_7), keepC u_w4' (e_p1_8), keepC u_w4' (e_p1_9), keepC u_w4' (e_p1_10)⟩ | go_keep)
        (first | ((with_reducible refine (toPlayer_o a0 p0 _ (z0.below (V_w3'.drew)) ht0).mono ?_); rintro e w4' ⟨y0, F_y0, rfl, oy0, u_w4'⟩) | ((with_reducible refine (toPlayer_o a1 p1 _ (z1.below ((V_w3'.drew).trans (u_w4'.mono (V_w3'.drew).size))) ht1).mono ?_); rintro e w5' ⟨y1, F_y1, rfl, oy1, u_w5'⟩) | ((with_reducible refine (CS.out _ _ _ ((oy0.below u_w5').rd) (oy1.rd) (LX.out.below (((V_w3'.drew).trans (u_w4'.mono (V_w3'.drew).size)).trans (u_w5'.mono ((V_w3'.drew).trans (u_w4'.mono (V_w3'.drew).size)).size)))).mono ?_); rintro e w6' ⟨r0, rn0, rc0, rfl, or0, u_w6'⟩))
      have CC0 := (u_w4').trans (u_w5'.mono (u_w4').size)
      have S_bw6 : w3'.heap.size ≤ w5'.heap.size := CC0.size
      have CC1 := (CC0).trans (u_w6'.mono (CC0).size)
      have u_all : Below w3'.heap.size w3' w6' := (Below.refl _ _).drew.trans CC1
      clear u_w4' u_w5' u_w6' CC0 CC1 e_p0_0 e_p0_1 e_p0_2 e_p0_3 e_p0_4 e_p0_5 e_p0_6 e_p0_7 e_p0_8 e_p0_9 e_p0_10 e_p1_0 e_p1_1 e_p1_2 e_p1_3 e_p1_4 e_p1_5 e_p1_6 e_p1_7 e_p1_8 e_p1_9 e_p1_10 oy0 oy1
      replace B_p0 := B_p0.below u_all
      replace B_p1 := B_p1.below u_all
      have V_w6' := V_w3'.trans (u_all.mono (V_w3').size)
      have S_w6' := u_all.size
      clear u_all V_w3'
      have Q_or0 := Lib.hid or0.feet
      have e_p0 := B_p0.all11
      go_wp2_with fail
      clear e_p0
      refine (toPlayer_o a0 p0 _ (z0.below V_w6') ht0).mono ?_
      rintro e w7' ⟨x0, F_x0, rfl, ox0, u_w7'⟩
      replace B_p0 := B_p0.below u_w7'
      replace B_p1 := B_p1.below u_w7'
      replace or0 := or0.below u_w7'
      have V_w7' := V_w6'.trans (u_w7'.mono (V_w6').size)
      have S_w7' := u_w7'.size
      clear u_w7' V_w6'
      have Q_ox0 := Lib.hid ox0.feet
      have e_p1 := B_p1.all11
      have B_p1_0 := B_p1.alloc (.cells #[.int .i64 a0.P, .int .i64 a0.party, .int .i64 a0.input, .int .i64 a0.mask, .int .i64 a0.delta, .slice x0.sa x0.sn x0.sc, .slice x0.ka x0.kn x0.kc, .int .i64 a0.step, .slice x0.ha x0.hn x0.hc, .int .i64 a0.status, .int .i64 a0.out] 31)
      have e_p1_0 := B_p1_0.all11
      go_wp2_with fail
      clear e_p1 B_p1_0 e_p1_0
      refine Exists.elim (Blk.new_ w7' (b := w7'.heap.size) rfl 31 #[.int .i64 a0.P, .int .i64 a0.party, .int .i64 a0.input, .int .i64 a0.mask, .int .i64 a0.delta, .slice x0.sa x0.sn x0.sc, .slice x0.ka x0.kn x0.kc, .int .i64 a0.step, .slice x0.ha x0.hn x0.hc, .int .i64 a0.status, .int .i64 a0.out]) (fun w8' q => ?_)
      rw [q.1]; have B_x0 := q.2.1; have s_w8' := q.2.2.1; have u_w8' := q.2.2.2; clear q
      replace B_p0 := B_p0.below u_w8'
      replace B_p1 := B_p1.below u_w8'
      replace or0 := or0.below u_w8'
      replace ox0 := ox0.below u_w8'
      have V_w8' := V_w7'.trans (u_w8'.mono (V_w7').size)
      have S_w8' : w7'.heap.size + 1 ≤ w8'.heap.size := Nat.le_of_eq s_w8'.symm
      clear u_w8' s_w8' V_w7'
      refine (toPlayer_o a1 p1 _ (z1.below V_w8') ht1).mono ?_
      rintro e w9' ⟨x1, F_x1, rfl, ox1, u_w9'⟩
      replace B_p0 := B_p0.below u_w9'
      replace B_p1 := B_p1.below u_w9'
      replace B_x0 := B_x0.below u_w9'
      replace or0 := or0.below u_w9'
      replace ox0 := ox0.below u_w9'
      have V_w9' := V_w8'.trans (u_w9'.mono (V_w8').size)
      have S_w9' := u_w9'.size
      clear u_w9' V_w8'
      have Q_ox1 := Lib.hid ox1.feet
      have e_x0 := B_x0.all11
      have B_x0_0 := B_x0.alloc (.cells #[.int .i64 a1.P, .int .i64 a1.party, .int .i64 a1.input, .int .i64 a1.mask, .int .i64 a1.delta, .slice x1.sa x1.sn x1.sc, .slice x1.ka x1.kn x1.kc, .int .i64 a1.step, .slice x1.ha x1.hn x1.hc, .int .i64 a1.status, .int .i64 a1.out] 31)
      have e_x0_0 := B_x0_0.all11
      go_wp2_with fail
      clear e_x0 B_x0_0 e_x0_0
      refine Exists.elim (Blk.new_ w9' (b := w9'.heap.size) rfl 31 #[.int .i64 a1.P, .int .i64 a1.party, .int .i64 a1.input, .int .i64 a1.mask, .int .i64 a1.delta, .slice x1.sa x1.sn x1.sc, .slice x1.ka x1.kn x1.kc, .int .i64 a1.step, .slice x1.ha x1.hn x1.hc, .int .i64 a1.status, .int .i64 a1.out]) (fun w10' q => ?_)
      rw [q.1]; have B_x1 := q.2.1; have s_w10' := q.2.2.1; have u_w10' := q.2.2.2; clear q
      replace B_p0 := B_p0.below u_w10'
      replace B_p1 := B_p1.below u_w10'
      replace B_x0 := B_x0.below u_w10'
      replace or0 := or0.below u_w10'
      replace ox0 := ox0.below u_w10'
      replace ox1 := ox1.below u_w10'
      have V_w10' := V_w9'.trans (u_w10'.mono (V_w9').size)
      have S_w10' : w9'.heap.size + 1 ≤ w10'.heap.size := Nat.le_of_eq s_w10'.symm
      clear u_w10' s_w10' V_w9'
      refine (CI.out _ _ _ ox0.rd ox1.rd (LX.out.below V_w10')).mono ?_
      rintro e w11' ⟨g0, gn0, gc0, rfl, og0, u_w11'⟩
      replace B_p0 := B_p0.below u_w11'
      replace B_p1 := B_p1.below u_w11'
      replace B_x0 := B_x0.below u_w11'
      replace B_x1 := B_x1.below u_w11'
      replace or0 := or0.below u_w11'
      replace ox0 := ox0.below u_w11'
      replace ox1 := ox1.below u_w11'
      have V_w11' := V_w10'.trans (u_w11'.mono (V_w10').size)
      have S_w11' := u_w11'.size
      clear u_w11' V_w10'
      have Q_og0 := Lib.hid og0.feet
      go_wp2_with fail
      refine (eqIntS_b _ _ _ _ _ _ _ _ og0.ints or0.ints).mono ?_
      rintro e w12' ⟨rfl, u_w12'⟩
      replace B_p0 := B_p0.below u_w12'
      replace B_p1 := B_p1.below u_w12'
      replace B_x0 := B_x0.below u_w12'
      replace B_x1 := B_x1.below u_w12'
      replace or0 := or0.below u_w12'
      replace ox0 := ox0.below u_w12'
      replace ox1 := ox1.below u_w12'
      replace og0 := og0.below u_w12'
      have V_w12' := V_w11'.trans (u_w12'.mono (V_w11').size)
      have S_w12' := u_w12'.size
      clear u_w12' V_w11'
      go_wp2
      go_region_held3 (fun W => W.cell? ⟨w7'.heap.size, 0, none⟩ = some (.int .i64 a0.P) ∧ W.cell? ⟨w7'.heap.size, 1, none⟩ = some (.int .i64 a0.party) ∧ W.cell? ⟨w7'.heap.size, 2, none⟩ = some (.int .i64 a0.input) ∧ W.cell? ⟨w7'.heap.size, 3, none⟩ = some (.int .i64 a0.mask) ∧ W.cell? ⟨w7'.heap.size, 4, none⟩ = some (.int .i64 a0.delta) ∧ W.cell? ⟨w7'.heap.size, 5, none⟩ = some (.slice x0.sa x0.sn x0.sc) ∧ W.cell? ⟨w7'.heap.size, 6, none⟩ = some (.slice x0.ka x0.kn x0.kc) ∧ W.cell? ⟨w7'.heap.size, 7, none⟩ = some (.int .i64 a0.step) ∧ W.cell? ⟨w7'.heap.size, 8, none⟩ = some (.slice x0.ha x0.hn x0.hc) ∧ W.cell? ⟨w7'.heap.size, 9, none⟩ = some (.int .i64 a0.status) ∧ W.cell? ⟨w7'.heap.size, 10, none⟩ = some (.int .i64 a0.out) ∧ W.cell? ⟨w.heap.size, 0, none⟩ = some (.int .i64 a0.P) ∧ W.cell? ⟨w.heap.size, 1, none⟩ = some (.int .i64 a0.party) ∧ W.cell? ⟨w.heap.size, 2, none⟩ = some (.int .i64 a0.input) ∧ W.cell? ⟨w.heap.size, 3, none⟩ = some (.int .i64 a0.mask) ∧ W.cell? ⟨w.heap.size, 4, none⟩ = some (.int .i64 a0.delta) ∧ W.cell? ⟨w.heap.size, 5, none⟩ = some (.slice p0.sa p0.sn p0.sc) ∧ W.cell? ⟨w.heap.size, 6, none⟩ = some (.slice p0.ka p0.kn p0.kc) ∧ W.cell? ⟨w.heap.size, 7, none⟩ = some (.int .i64 a0.step) ∧ W.cell? ⟨w.heap.size, 8, none⟩ = some (.slice p0.ha p0.hn p0.hc) ∧ W.cell? ⟨w.heap.size, 9, none⟩ = some (.int .i64 a0.status) ∧ W.cell? ⟨w.heap.size, 10, none⟩ = some (.int .i64 a0.out))
        (first | (have Bu := (B_x0.drew.below tu).below tv; have Bv := (B_p0.drew.below tu).below tv; exact ⟨Bu.a11_0, Bu.a11_1, Bu.a11_2, Bu.a11_3, Bu.a11_4, Bu.a11_5, Bu.a11_6, Bu.a11_7, Bu.a11_8, Bu.a11_9, Bu.a11_10, Bv.a11_0, Bv.a11_1, Bv.a11_2, Bv.a11_3, Bv.a11_4, Bv.a11_5, Bv.a11_6, Bv.a11_7, Bv.a11_8, Bv.a11_9, Bv.a11_10⟩) | (have Bu := B_x0.drew.below tu; have Bv := B_p0.drew.below tu; exact ⟨Bu.a11_0, Bu.a11_1, Bu.a11_2, Bu.a11_3, Bu.a11_4, Bu.a11_5, Bu.a11_6, Bu.a11_7, Bu.a11_8, Bu.a11_9, Bu.a11_10, Bv.a11_0, Bv.a11_1, Bv.a11_2, Bv.a11_3, Bv.a11_4, Bv.a11_5, Bv.a11_6, Bv.a11_7, Bv.a11_8, Bv.a11_9, Bv.a11_10⟩) | (have Bu := B_x0.drew; have Bv := B_p0.drew; exact ⟨Bu.a11_0, Bu.a11_1, Bu.a11_2, Bu.a11_3, Bu.a11_4, Bu.a11_5, Bu.a11_6, Bu.a11_7, Bu.a11_8, Bu.a11_9, Bu.a11_10, Bv.a11_0, Bv.a11_1, Bv.a11_2, Bv.a11_3, Bv.a11_4, Bv.a11_5, Bv.a11_6, Bv.a11_7, Bv.a11_8, Bv.a11_9, Bv.a11_10⟩))
        (first | (go_at_call 15; refine (toPlayer_o a0 p0 _ (z0.below V_w12'.drew) ht0).mono ?_; rintro e wt ⟨t0, F_t0, rfl, ot0, tu⟩) | (go_at_call 17; refine (eqPlayer_o a0 _ _ _ (ox0.drew.below tu).rd ot0.rd).mono ?_; rintro e wq ⟨rfl, tv⟩))
      have u_w13' : Below w12'.heap.size w12' wq := (Below.refl _ _).drew.trans (tu.trans (tv.mono tu.size))
      clear tu tv ot0
      replace B_p0 := B_p0.below u_w13'
      replace B_p1 := B_p1.below u_w13'
      replace B_x0 := B_x0.below u_w13'
      replace B_x1 := B_x1.below u_w13'
      replace or0 := or0.below u_w13'
      replace ox0 := ox0.below u_w13'
      replace ox1 := ox1.below u_w13'
      replace og0 := og0.below u_w13'
      have V_wq := V_w12'.trans (u_w13'.mono (V_w12').size)
      have S_wq := u_w13'.size
      clear u_w13' V_w12'
      generalize wq = w13' at *
      have V_w13' := V_wq
      clear V_wq
      have S_w13' := S_wq
      clear S_wq
      go_wp2
      go_region_held3 (fun W => W.cell? ⟨w9'.heap.size, 0, none⟩ = some (.int .i64 a1.P) ∧ W.cell? ⟨w9'.heap.size, 1, none⟩ = some (.int .i64 a1.party) ∧ W.cell? ⟨w9'.heap.size, 2, none⟩ = some (.int .i64 a1.input) ∧ W.cell? ⟨w9'.heap.size, 3, none⟩ = some (.int .i64 a1.mask) ∧ W.cell? ⟨w9'.heap.size, 4, none⟩ = some (.int .i64 a1.delta) ∧ W.cell? ⟨w9'.heap.size, 5, none⟩ = some (.slice x1.sa x1.sn x1.sc) ∧ W.cell? ⟨w9'.heap.size, 6, none⟩ = some (.slice x1.ka x1.kn x1.kc) ∧ W.cell? ⟨w9'.heap.size, 7, none⟩ = some (.int .i64 a1.step) ∧ W.cell? ⟨w9'.heap.size, 8, none⟩ = some (.slice x1.ha x1.hn x1.hc) ∧ W.cell? ⟨w9'.heap.size, 9, none⟩ = some (.int .i64 a1.status) ∧ W.cell? ⟨w9'.heap.size, 10, none⟩ = some (.int .i64 a1.out) ∧ W.cell? ⟨w.heap.size + 1, 0, none⟩ = some (.int .i64 a1.P) ∧ W.cell? ⟨w.heap.size + 1, 1, none⟩ = some (.int .i64 a1.party) ∧ W.cell? ⟨w.heap.size + 1, 2, none⟩ = some (.int .i64 a1.input) ∧ W.cell? ⟨w.heap.size + 1, 3, none⟩ = some (.int .i64 a1.mask) ∧ W.cell? ⟨w.heap.size + 1, 4, none⟩ = some (.int .i64 a1.delta) ∧ W.cell? ⟨w.heap.size + 1, 5, none⟩ = some (.slice p1.sa p1.sn p1.sc) ∧ W.cell? ⟨w.heap.size + 1, 6, none⟩ = some (.slice p1.ka p1.kn p1.kc) ∧ W.cell? ⟨w.heap.size + 1, 7, none⟩ = some (.int .i64 a1.step) ∧ W.cell? ⟨w.heap.size + 1, 8, none⟩ = some (.slice p1.ha p1.hn p1.hc) ∧ W.cell? ⟨w.heap.size + 1, 9, none⟩ = some (.int .i64 a1.status) ∧ W.cell? ⟨w.heap.size + 1, 10, none⟩ = some (.int .i64 a1.out))
        (first | (have Bu := (B_x1.drew.below tu).below tv; have Bv := (B_p1.drew.below tu).below tv; exact ⟨Bu.a11_0, Bu.a11_1, Bu.a11_2, Bu.a11_3, Bu.a11_4, Bu.a11_5, Bu.a11_6, Bu.a11_7, Bu.a11_8, Bu.a11_9, Bu.a11_10, Bv.a11_0, Bv.a11_1, Bv.a11_2, Bv.a11_3, Bv.a11_4, Bv.a11_5, Bv.a11_6, Bv.a11_7, Bv.a11_8, Bv.a11_9, Bv.a11_10⟩) | (have Bu := B_x1.drew.below tu; have Bv := B_p1.drew.below tu; exact ⟨Bu.a11_0, Bu.a11_1, Bu.a11_2, Bu.a11_3, Bu.a11_4, Bu.a11_5, Bu.a11_6, Bu.a11_7, Bu.a11_8, Bu.a11_9, Bu.a11_10, Bv.a11_0, Bv.a11_1, Bv.a11_2, Bv.a11_3, Bv.a11_4, Bv.a11_5, Bv.a11_6, Bv.a11_7, Bv.a11_8, Bv.a11_9, Bv.a11_10⟩) | (have Bu := B_x1.drew; have Bv := B_p1.drew; exact ⟨Bu.a11_0, Bu.a11_1, Bu.a11_2, Bu.a11_3, Bu.a11_4, Bu.a11_5, Bu.a11_6, Bu.a11_7, Bu.a11_8, Bu.a11_9, Bu.a11_10, Bv.a11_0, Bv.a11_1, Bv.a11_2, Bv.a11_3, Bv.a11_4, Bv.a11_5, Bv.a11_6, Bv.a11_7, Bv.a11_8, Bv.a11_9, Bv.a11_10⟩))
        (first | (go_at_call 15; refine (toPlayer_o a1 p1 _ (z1.below V_w13'.drew) ht1).mono ?_; rintro e wt ⟨t1, F_t1, rfl, ot1, tu⟩) | (go_at_call 17; refine (eqPlayer_o a1 _ _ _ (ox1.drew.below tu).rd ot1.rd).mono ?_; rintro e wq ⟨rfl, tv⟩))
      have u_w14' : Below w13'.heap.size w13' wq := (Below.refl _ _).drew.trans (tu.trans (tv.mono tu.size))
      clear tu tv ot1
      replace B_p0 := B_p0.below u_w14'
      replace B_p1 := B_p1.below u_w14'
      replace B_x0 := B_x0.below u_w14'
      replace B_x1 := B_x1.below u_w14'
      replace or0 := or0.below u_w14'
      replace ox0 := ox0.below u_w14'
      replace ox1 := ox1.below u_w14'
      replace og0 := og0.below u_w14'
      have V_wq := V_w13'.trans (u_w14'.mono (V_w13').size)
      have S_wq := u_w14'.size
      clear u_w14' V_w13'
      generalize wq = w14' at *
      have V_w14' := V_wq
      clear V_wq
      have S_w14' := S_wq
      clear S_wq
      have e_x0 := B_x0.all11
      go_wp2_with fail
      clear e_x0
      refine (markPlayer_o _ _ _ _ _ _ _ _ _ ox0 (by omega) (by omega)).mono ?_
      rintro e w15' ⟨ms_ox0, mk_ox0, mh_ox0, rfl, ox0, U_ox0, T_ox0, G⟩
      replace U_ox0 := Lib.hid U_ox0
      have hm_ox0 : cntP ms_ox0 mk_ox0 mh_ox0 ≤ 10000000 := by omega
      clear T_ox0
      replace or0 := or0.only G (fun k hk hk' => by have := Q_or0.out k hk; have := Q_ox0.out k hk'; omega)
      replace ox1 := ox1.only G (fun k hk hk' => by have := Q_ox1.out k hk; have := Q_ox0.out k hk'; omega)
      replace og0 := og0.only G (fun k hk hk' => by have := Q_og0.out k hk; have := Q_ox0.out k hk'; omega)
      replace B_p0 := B_p0.only G (fun hm => by have := Q_ox0.out _ hm; omega)
      replace B_p1 := B_p1.only G (fun hm => by have := Q_ox0.out _ hm; omega)
      replace B_x0 := B_x0.only G (fun hm => by have := Q_ox0.out _ hm; omega)
      replace B_x1 := B_x1.only G (fun hm => by have := Q_ox0.out _ hm; omega)
      have V_w15' := V_w14'.trans (G.below V_w14'.size (fun k hm => by have := V_w14'.size; have := Q_ox0.out k hm; omega))
      have S_w15' := G.size
      clear G V_w14'
      have e_x1 := B_x1.all11
      go_wp2_with fail
      clear e_x1
      refine (markPlayer_o _ _ _ _ _ _ _ _ _ ox1 (by omega) (by omega)).mono ?_
      rintro e w16' ⟨ms_ox1, mk_ox1, mh_ox1, rfl, ox1, U_ox1, T_ox1, G⟩
      replace U_ox1 := Lib.hid U_ox1
      have hm_ox1 : cntP ms_ox1 mk_ox1 mh_ox1 ≤ 10000000 := by omega
      clear T_ox1
      replace or0 := or0.only G (fun k hk hk' => by have := Q_or0.out k hk; have := Q_ox1.out k hk'; omega)
      replace ox0 := ox0.only G (fun k hk hk' => by have := Q_ox0.out k hk; have := Q_ox1.out k hk'; omega)
      replace og0 := og0.only G (fun k hk hk' => by have := Q_og0.out k hk; have := Q_ox1.out k hk'; omega)
      replace B_p0 := B_p0.only G (fun hm => by have := Q_ox1.out _ hm; omega)
      replace B_p1 := B_p1.only G (fun hm => by have := Q_ox1.out _ hm; omega)
      replace B_x0 := B_x0.only G (fun hm => by have := Q_ox1.out _ hm; omega)
      replace B_x1 := B_x1.only G (fun hm => by have := Q_ox1.out _ hm; omega)
      have V_w16' := V_w15'.trans (G.below V_w15'.size (fun k hm => by have := V_w15'.size; have := Q_ox1.out k hm; omega))
      have S_w16' := G.size
      clear G V_w15'
      go_wp2_with fail
      refine (eqIntS_b _ _ _ _ _ _ _ _ og0.ints or0.ints).mono ?_
      rintro e w17' ⟨rfl, u_w17'⟩
      replace B_p0 := B_p0.below u_w17'
      replace B_p1 := B_p1.below u_w17'
      replace B_x0 := B_x0.below u_w17'
      replace B_x1 := B_x1.below u_w17'
      replace or0 := or0.below u_w17'
      replace ox0 := ox0.below u_w17'
      replace ox1 := ox1.below u_w17'
      replace og0 := og0.below u_w17'
      have V_w17' := V_w16'.trans (u_w17'.mono (V_w16').size)
      have S_w17' := u_w17'.size
      clear u_w17' V_w16'
      clear ox0
      clear ox1
      clear B_x0
      clear B_x1
      have hn_og0 : gn0 ≤ 1000000 := by have := og0.len; omega
      go_wp2_with fail
      refine (markIntS_o _ _ _ _ _ _ _ og0 (by omega) (by omega)).mono ?_
      rintro e w18' ⟨rfl, ⟨L_og0, og0, U_og0⟩, G⟩
      replace U_og0 := Lib.hid U_og0
      replace or0 := or0.only G (fun k hk hk' => by have := Q_or0.out k hk; have := Q_og0.out k hk'; omega)
      replace B_p0 := B_p0.only G (fun hm => by have := Q_og0.out _ hm; omega)
      replace B_p1 := B_p1.only G (fun hm => by have := Q_og0.out _ hm; omega)
      have V_w18' := V_w17'.trans (G.below V_w17'.size (fun k hm => by have := V_w17'.size; have := Q_og0.out k hm; omega))
      have S_w18' := G.size
      clear G V_w17'
      go_wp2_with fail
      refine (heldIntS_b _ _ _ _ _ _ og0.ints U_og0.out (by omega) (by omega)).mono ?_
      rintro e w19' ⟨rfl, u_w19'⟩
      replace B_p0 := B_p0.below u_w19'
      replace B_p1 := B_p1.below u_w19'
      replace or0 := or0.below u_w19'
      replace og0 := og0.below u_w19'
      have V_w19' := V_w18'.trans (u_w19'.mono (V_w18').size)
      have S_w19' := u_w19'.size
      clear u_w19' V_w18'
      have e_p0_0 : w19'.cell? ⟨w.heap.size, 0, none⟩ = some (.int .i64 a0.P) := B_p0.cell 0
      have e_p0_1 : w19'.cell? ⟨w.heap.size, 1, none⟩ = some (.int .i64 a0.party) := B_p0.cell 1
      have e_p0_2 : w19'.cell? ⟨w.heap.size, 2, none⟩ = some (.int .i64 a0.input) := B_p0.cell 2
      have e_p0_3 : w19'.cell? ⟨w.heap.size, 3, none⟩ = some (.int .i64 a0.mask) := B_p0.cell 3
      have e_p0_4 : w19'.cell? ⟨w.heap.size, 4, none⟩ = some (.int .i64 a0.delta) := B_p0.cell 4
      have e_p0_5 : w19'.cell? ⟨w.heap.size, 5, none⟩ = some (.slice p0.sa p0.sn p0.sc) := B_p0.cell 5
      have e_p0_6 : w19'.cell? ⟨w.heap.size, 6, none⟩ = some (.slice p0.ka p0.kn p0.kc) := B_p0.cell 6
      have e_p0_7 : w19'.cell? ⟨w.heap.size, 7, none⟩ = some (.int .i64 a0.step) := B_p0.cell 7
      have e_p0_8 : w19'.cell? ⟨w.heap.size, 8, none⟩ = some (.slice p0.ha p0.hn p0.hc) := B_p0.cell 8
      have e_p0_9 : w19'.cell? ⟨w.heap.size, 9, none⟩ = some (.int .i64 a0.status) := B_p0.cell 9
      have e_p0_10 : w19'.cell? ⟨w.heap.size, 10, none⟩ = some (.int .i64 a0.out) := B_p0.cell 10
      have e_p1_0 : w19'.cell? ⟨w.heap.size + 1, 0, none⟩ = some (.int .i64 a1.P) := B_p1.cell 0
      have e_p1_1 : w19'.cell? ⟨w.heap.size + 1, 1, none⟩ = some (.int .i64 a1.party) := B_p1.cell 1
      have e_p1_2 : w19'.cell? ⟨w.heap.size + 1, 2, none⟩ = some (.int .i64 a1.input) := B_p1.cell 2
      have e_p1_3 : w19'.cell? ⟨w.heap.size + 1, 3, none⟩ = some (.int .i64 a1.mask) := B_p1.cell 3
      have e_p1_4 : w19'.cell? ⟨w.heap.size + 1, 4, none⟩ = some (.int .i64 a1.delta) := B_p1.cell 4
      have e_p1_5 : w19'.cell? ⟨w.heap.size + 1, 5, none⟩ = some (.slice p1.sa p1.sn p1.sc) := B_p1.cell 5
      have e_p1_6 : w19'.cell? ⟨w.heap.size + 1, 6, none⟩ = some (.slice p1.ka p1.kn p1.kc) := B_p1.cell 6
      have e_p1_7 : w19'.cell? ⟨w.heap.size + 1, 7, none⟩ = some (.int .i64 a1.step) := B_p1.cell 7
      have e_p1_8 : w19'.cell? ⟨w.heap.size + 1, 8, none⟩ = some (.slice p1.ha p1.hn p1.hc) := B_p1.cell 8
      have e_p1_9 : w19'.cell? ⟨w.heap.size + 1, 9, none⟩ = some (.int .i64 a1.status) := B_p1.cell 9
      have e_p1_10 : w19'.cell? ⟨w.heap.size + 1, 10, none⟩ = some (.int .i64 a1.out) := B_p1.cell 10
      go_wp2
      go_region_held3 (fun W => W.cell? ⟨w.heap.size, 0, none⟩ = some (.int .i64 a0.P) ∧ W.cell? ⟨w.heap.size, 1, none⟩ = some (.int .i64 a0.party) ∧ W.cell? ⟨w.heap.size, 2, none⟩ = some (.int .i64 a0.input) ∧ W.cell? ⟨w.heap.size, 3, none⟩ = some (.int .i64 a0.mask) ∧ W.cell? ⟨w.heap.size, 4, none⟩ = some (.int .i64 a0.delta) ∧ W.cell? ⟨w.heap.size, 5, none⟩ = some (.slice p0.sa p0.sn p0.sc) ∧ W.cell? ⟨w.heap.size, 6, none⟩ = some (.slice p0.ka p0.kn p0.kc) ∧ W.cell? ⟨w.heap.size, 7, none⟩ = some (.int .i64 a0.step) ∧ W.cell? ⟨w.heap.size, 8, none⟩ = some (.slice p0.ha p0.hn p0.hc) ∧ W.cell? ⟨w.heap.size, 9, none⟩ = some (.int .i64 a0.status) ∧ W.cell? ⟨w.heap.size, 10, none⟩ = some (.int .i64 a0.out) ∧ W.cell? ⟨w.heap.size + 1, 0, none⟩ = some (.int .i64 a1.P) ∧ W.cell? ⟨w.heap.size + 1, 1, none⟩ = some (.int .i64 a1.party) ∧ W.cell? ⟨w.heap.size + 1, 2, none⟩ = some (.int .i64 a1.input) ∧ W.cell? ⟨w.heap.size + 1, 3, none⟩ = some (.int .i64 a1.mask) ∧ W.cell? ⟨w.heap.size + 1, 4, none⟩ = some (.int .i64 a1.delta) ∧ W.cell? ⟨w.heap.size + 1, 5, none⟩ = some (.slice p1.sa p1.sn p1.sc) ∧ W.cell? ⟨w.heap.size + 1, 6, none⟩ = some (.slice p1.ka p1.kn p1.kc) ∧ W.cell? ⟨w.heap.size + 1, 7, none⟩ = some (.int .i64 a1.step) ∧ W.cell? ⟨w.heap.size + 1, 8, none⟩ = some (.slice p1.ha p1.hn p1.hc) ∧ W.cell? ⟨w.heap.size + 1, 9, none⟩ = some (.int .i64 a1.status) ∧ W.cell? ⟨w.heap.size + 1, 10, none⟩ = some (.int .i64 a1.out))
        (first | exact ⟨keepC u_w22' (keepC u_w21' (keepC u_w20' (e_p0_0))), keepC u_w22' (keepC u_w21' (keepC u_w20' (e_p0_1))), keepC u_w22' (keepC u_w21' (keepC u_w20' (e_p0_2))), keepC u_w22' (keepC u_w21' (keepC u_w20' (e_p0_3))), keepC u_w22' (keepC u_w21' (keepC u_w20' (e_p0_4))), keepC u_w22' (keepC u_w21' (keepC u_w20' (e_p0_5))), keepC u_w22' (keepC u_w21' (keepC u_w20' (e_p0_6))), keepC u_w22' (keepC u_w21' (keepC u_w20' (e_p0_7))), keepC u_w22' (keepC u_w21' (keepC u_w20' (e_p0_8))), keepC u_w22' (keepC u_w21' (keepC u_w20' (e_p0_9))), keepC u_w22' (keepC u_w21' (keepC u_w20' (e_p0_10))), keepC u_w22' (keepC u_w21' (keepC u_w20' (e_p1_0))), keepC u_w22' (keepC u_w21' (keepC u_w20' (e_p1_1))), keepC u_w22' (keepC u_w21' (keepC u_w20' (e_p1_2))), keepC u_w22' (keepC u_w21' (keepC u_w20' (e_p1_3))), keepC u_w22' (keepC u_w21' (keepC u_w20' (e_p1_4))), keepC u_w22' (keepC u_w21' (keepC u_w20' (e_p1_5))), keepC u_w22' (keepC u_w21' (keepC u_w20' (e_p1_6))), keepC u_w22' (keepC u_w21' (keepC u_w20' (e_p1_7))), keepC u_w22' (keepC u_w21' (keepC u_w20' (e_p1_8))), keepC u_w22' (keepC u_w21' (keepC u_w20' (e_p1_9))), keepC u_w22' (keepC u_w21' (keepC u_w20' (e_p1_10)))⟩ | exact ⟨keepC u_w21' (keepC u_w20' (e_p0_0)), keepC u_w21' (keepC u_w20' (e_p0_1)), keepC u_w21' (keepC u_w20' (e_p0_2)), keepC u_w21' (keepC u_w20' (e_p0_3)), keepC u_w21' (keepC u_w20' (e_p0_4)), keepC u_w21' (keepC u_w20' (e_p0_5)), keepC u_w21' (keepC u_w20' (e_p0_6)), keepC u_w21' (keepC u_w20' (e_p0_7)), keepC u_w21' (keepC u_w20' (e_p0_8)), keepC u_w21' (keepC u_w20' (e_p0_9)), keepC u_w21' (keepC u_w20' (e_p0_10)), keepC u_w21' (keepC u_w20' (e_p1_0)), keepC u_w21' (keepC u_w20' (e_p1_1)), keepC u_w21' (keepC u_w20' (e_p1_2)), keepC u_w21' (keepC u_w20' (e_p1_3)), keepC u_w21' (keepC u_w20' (e_p1_4)), keepC u_w21' (keepC u_w20' (e_p1_5)), keepC u_w21' (keepC u_w20' (e_p1_6)), keepC u_w21' (keepC u_w20' (e_p1_7)), keepC u_w21' (keepC u_w20' (e_p1_8)), keepC u_w21' (keepC u_w20' (e_p1_9)), keepC u_w21' (keepC u_w20' (e_p1_10))⟩ | exact ⟨keepC u_w20' (e_p0_0), keepC u_w20' (e_p0_1), keepC u_w20' (e_p0_2), keepC u_w20' (e_p0_3), keepC u_w20' (e_p0_4), keepC u_w20' (e_p0_5), keepC u_w20' (e_p0_6), keepC u_w20' (e_p0_7), keepC u_w20' (e_p0_8), keepC u_w20' (e_p0_9), keepC u_w20' (e_p0_10), keepC u_w20' (e_p1_0), keepC u_w20' (e_p1_1), keepC u_w20' (e_p1_2), keepC u_w20' (e_p1_3), keepC u_w20' (e_p1_4), keepC u_w20' (e_p1_5), keepC u_w20' (e_p1_6), keepC u_w20' (e_p1_7), keepC u_w20' (e_p1_8), keepC u_w20' (e_p1_9), keepC u_w20' (e_p1_10)⟩ | go_keep)
        (first | ((with_reducible refine (toPlayer_o a0 p0 _ (z0.below (V_w19'.drew)) ht0).mono ?_); rintro e w20' ⟨x0, F_x0, rfl, ox0, u_w20'⟩) | ((with_reducible refine (toPlayer_o a1 p1 _ (z1.below ((V_w19'.drew).trans (u_w20'.mono (V_w19'.drew).size))) ht1).mono ?_); rintro e w21' ⟨x1, F_x1, rfl, ox1, u_w21'⟩) | ((with_reducible refine (CI.out _ _ _ ((ox0.below u_w21').rd) (ox1.rd) (LX.out.below (((V_w19'.drew).trans (u_w20'.mono (V_w19'.drew).size)).trans (u_w21'.mono ((V_w19'.drew).trans (u_w20'.mono (V_w19'.drew).size)).size)))).mono ?_); rintro e w22' ⟨h0, hn0, hc0, rfl, oh0, u_w22'⟩))
      have CC0 := (u_w20').trans (u_w21'.mono (u_w20').size)
      have S_bw22 : w19'.heap.size ≤ w21'.heap.size := CC0.size
      have CC1 := (CC0).trans (u_w22'.mono (CC0).size)
      have u_all : Below w19'.heap.size w19' w22' := (Below.refl _ _).drew.trans CC1
      clear u_w20' u_w21' u_w22' CC0 CC1 e_p0_0 e_p0_1 e_p0_2 e_p0_3 e_p0_4 e_p0_5 e_p0_6 e_p0_7 e_p0_8 e_p0_9 e_p0_10 e_p1_0 e_p1_1 e_p1_2 e_p1_3 e_p1_4 e_p1_5 e_p1_6 e_p1_7 e_p1_8 e_p1_9 e_p1_10 ox0 ox1
      replace B_p0 := B_p0.below u_all
      replace B_p1 := B_p1.below u_all
      replace or0 := or0.below u_all
      replace og0 := og0.below u_all
      have V_w22' := V_w19'.trans (u_all.mono (V_w19').size)
      have S_w22' := u_all.size
      clear u_all V_w19'
      have Q_oh0 := Lib.hid oh0.feet
      go_wp2_with fail
      refine (eqIntS_b _ _ _ _ _ _ _ _ oh0.ints or0.ints).mono ?_
      rintro e w23' ⟨rfl, u_w23'⟩
      replace B_p0 := B_p0.below u_w23'
      replace B_p1 := B_p1.below u_w23'
      replace or0 := or0.below u_w23'
      replace og0 := og0.below u_w23'
      replace oh0 := oh0.below u_w23'
      have V_w23' := V_w22'.trans (u_w23'.mono (V_w22').size)
      have S_w23' := u_w23'.size
      clear u_w23' V_w22'
      go_wp2_with fail
      refine (heldIntS_b _ _ _ _ _ _ og0.ints U_og0.out (by omega) (by omega)).mono ?_
      rintro e w24' ⟨rfl, u_w24'⟩
      replace B_p0 := B_p0.below u_w24'
      replace B_p1 := B_p1.below u_w24'
      replace or0 := or0.below u_w24'
      replace og0 := og0.below u_w24'
      replace oh0 := oh0.below u_w24'
      have V_w24' := V_w23'.trans (u_w24'.mono (V_w23').size)
      have S_w24' := u_w24'.size
      clear u_w24' V_w23'
      go_wp2
      go_ret
      exact ⟨rfl, V_w24'⟩
    · skip
      go_enter Tryd.func11, Tryd.ntmps11
      go_wp2_with fail
      refine Exists.elim (Blk.new_ w (b := w.heap.size) rfl 26 #[.int .i64 a0.P, .int .i64 a0.party, .int .i64 a0.input, .int .i64 a0.mask, .int .i64 a0.delta, .slice p0.sa p0.sn p0.sc, .slice p0.ka p0.kn p0.kc, .int .i64 a0.step, .slice p0.ha p0.hn p0.hc, .int .i64 a0.status, .int .i64 a0.out]) (fun w25_a0' q => ?_)
      rw [q.1]; have B_p0 := q.2.1; have s_w25_a0' := q.2.2.1; have u_w25_a0' := q.2.2.2; clear q
      refine Exists.elim (Blk.new_ w25_a0' (b := w.heap.size + 1) s_w25_a0' 26 #[.int .i64 a1.P, .int .i64 a1.party, .int .i64 a1.input, .int .i64 a1.mask, .int .i64 a1.delta, .slice p1.sa p1.sn p1.sc, .slice p1.ka p1.kn p1.kc, .int .i64 a1.step, .slice p1.ha p1.hn p1.hc, .int .i64 a1.status, .int .i64 a1.out]) (fun w25' q => ?_)
      rw [q.1]; have B_p1 := q.2.1; have s_w25' := q.2.2.1; have u_w25' := q.2.2.2; clear q
      replace B_p0 := (B_p0.below u_w25')
      have U := (u_w25_a0'.trans (u_w25'.mono u_w25_a0'.size))
      have V_w25' := (Below.refl w.heap.size w).trans (U.mono ((Below.refl w.heap.size w)).size)
      have S_w25' : w.heap.size + 2 ≤ w25'.heap.size := Nat.le_of_eq s_w25'.symm
      clear u_w25_a0' u_w25' s_w25_a0' s_w25' U
      refine (szPlayer_o_yes a0 p0 (1048576) _ (z0.below V_w25') (by omega) (by omega)).mono ?_
      rintro e w26' ⟨rfl, u_w26'⟩
      replace B_p0 := B_p0.below u_w26'
      replace B_p1 := B_p1.below u_w26'
      have V_w26' := V_w25'.trans (u_w26'.mono (V_w25').size)
      have S_w26' := u_w26'.size
      clear u_w26' V_w25'
      have e_p1 := B_p1.all11
      go_wp2_with fail
      clear e_p1
      refine (szPlayer_o_no a1 p1 (1048576 - (szP p0 a0.shares a0.keys a0.heard : Int)) _ (z1.below V_w26') (by omega) (by omega) (by omega)).mono ?_
      rintro e w27' ⟨rfl, u_w27'⟩
      replace B_p0 := B_p0.below u_w27'
      replace B_p1 := B_p1.below u_w27'
      have V_w27' := V_w26'.trans (u_w27'.mono (V_w26').size)
      have S_w27' := u_w27'.size
      clear u_w27' V_w26'
      go_wp2
      go_ret
      exact ⟨rfl, V_w27'⟩
  · skip
    go_enter Tryd.func11, Tryd.ntmps11
    go_wp2_with fail
    refine Exists.elim (Blk.new_ w (b := w.heap.size) rfl 26 #[.int .i64 a0.P, .int .i64 a0.party, .int .i64 a0.input, .int .i64 a0.mask, .int .i64 a0.delta, .slice p0.sa p0.sn p0.sc, .slice p0.ka p0.kn p0.kc, .int .i64 a0.step, .slice p0.ha p0.hn p0.hc, .int .i64 a0.status, .int .i64 a0.out]) (fun w28_a0' q => ?_)
    rw [q.1]; have B_p0 := q.2.1; have s_w28_a0' := q.2.2.1; have u_w28_a0' := q.2.2.2; clear q
    refine Exists.elim (Blk.new_ w28_a0' (b := w.heap.size + 1) s_w28_a0' 26 #[.int .i64 a1.P, .int .i64 a1.party, .int .i64 a1.input, .int .i64 a1.mask, .int .i64 a1.delta, .slice p1.sa p1.sn p1.sc, .slice p1.ka p1.kn p1.kc, .int .i64 a1.step, .slice p1.ha p1.hn p1.hc, .int .i64 a1.status, .int .i64 a1.out]) (fun w28' q => ?_)
    rw [q.1]; have B_p1 := q.2.1; have s_w28' := q.2.2.1; have u_w28' := q.2.2.2; clear q
    replace B_p0 := (B_p0.below u_w28')
    have U := (u_w28_a0'.trans (u_w28'.mono u_w28_a0'.size))
    have V_w28' := (Below.refl w.heap.size w).trans (U.mono ((Below.refl w.heap.size w)).size)
    have S_w28' : w.heap.size + 2 ≤ w28'.heap.size := Nat.le_of_eq s_w28'.symm
    clear u_w28_a0' u_w28' s_w28_a0' s_w28' U
    refine (szPlayer_o_no a0 p0 (1048576) _ (z0.below V_w28') (by omega) (by omega) (by omega)).mono ?_
    rintro e w29' ⟨rfl, u_w29'⟩
    replace B_p0 := B_p0.below u_w29'
    replace B_p1 := B_p1.below u_w29'
    have V_w29' := V_w28'.trans (u_w29'.mono (V_w28').size)
    have S_w29' := u_w29'.size
    clear u_w29' V_w28'
    go_wp2
    go_ret
    exact ⟨rfl, V_w29'⟩
end Go.Proofs.YtlmdckcohoddnaaDoor
