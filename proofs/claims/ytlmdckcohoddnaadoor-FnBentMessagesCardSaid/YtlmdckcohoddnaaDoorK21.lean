/- Lemmas and walks that the claim's proof rests on, part 21. -/
import Derived.Deep.DeepCutAuto
import Derived.Deep.QuietTactic
import Derived.BigQuiet
import Derived.Test.YtlmdckcohoddnaaDoorK1
import Derived.Test.YtlmdckcohoddnaaDoorK3
import Derived.Test.YtlmdckcohoddnaaDoorK4
import Derived.Test.YtlmdckcohoddnaaDoorK17
import Derived.Test.YtlmdckcohoddnaaDoorK19
namespace Go.Proofs.YtlmdckcohoddnaaDoor
open Go.RowKit
theorem dl_shV (p key q x : Int) (i : Nat) (hi : i < 5) : shV (dlP p key q x) i = dlS p key q i := by
  have : i = 0 ∨ i = 1 ∨ i = 2 ∨ i = 3 ∨ i = 4 := by omega
  rcases this with rfl | rfl | rfl | rfl | rfl <;> rfl
theorem dl_shT (p key q x : Int) (i : Nat) (hi : i < 5) : shT (dlP p key q x) i = dlT p key q i := by
  have : i = 0 ∨ i = 1 ∨ i = 2 ∨ i = 3 ∨ i = 4 := by omega
  rcases this with rfl | rfl | rfl | rfl | rfl <;> rfl
theorem dl_ky (p key q x : Int) (i : Nat) (hi : i < 5) : kyI (dlP p key q x) i = numI [key, 3 + q, (i : Int), 61] p := dlK_at p key q 5 i hi
theorem dl_fit {p key x y : Int} (hp : isPr p = true) : Fit (dlP p key 0 x) (dlP p key 1 y) (fun i => (dlL p key).getD i 0) := by
  have p1 := (isPr_range hp).1
  refine ⟨hp, rfl, rfl, rfl, rfl, rfl, fun i hi => ?_, fun i hi => ?_, fun i hi => ?_, dlD_rng p key 0 p1, dlD_rng p key 1 p1, ?_⟩
  · rw [dl_shV _ _ _ _ _ hi, dl_shV _ _ _ _ _ hi]
    have e0 : dlS p key 0 i = numI [key, 1, (i : Int), 61] p := by unfold dlS; rw [if_neg (by decide)]
    have e1 : dlS p key 1 i = ((dlL p key).getD i 0 - numI [key, 1, (i : Int), 61] p) % p := by unfold dlS; rw [if_pos rfl]
    rw [e0, e1]
    refine ((Cg.refl p _).add (Cg.emod p _)).trans (Cg.of_eq ?_)
    show numI [key, 1, (i : Int), 61] p + ((dlL p key).getD i 0 - numI [key, 1, (i : Int), 61] p) = (dlL p key).getD i 0
    omega
  · rw [dl_shT _ _ _ _ _ hi, dl_shV _ _ _ _ _ hi, dl_ky _ _ _ _ _ hi]
    exact Cg.emod p _
  · rw [dl_shT _ _ _ _ _ hi, dl_shV _ _ _ _ _ hi, dl_ky _ _ _ _ _ hi]
    exact Cg.emod p _
  · exact Cg.emod p _
theorem dl_plB {p key q x : Int} (hp : isPr p = true) (hq : q = 0 ∨ q = 1) (hx : 0 ≤ x ∧ x ≤ p - 1) : plB (dlP p key q x) = true := by
  have p1 := (isPr_range hp).1
  have hd := dlD_rng p key q p1
  have hm : 0 ≤ (dlL p key).getD q.toNat 0 ∧ (dlL p key).getD q.toNat 0 ≤ p - 1 := dlL_at p key p1 q.toNat (by omega)
  unfold plB
  simp only [Bool.and_eq_true]
  refine ⟨?_, ?_, ?_, ?_, ?_, ?_, ?_, ?_, ?_, ?_, ?_⟩
  · unfold elsB
    rw [Bool.and_eq_true]
    refine ⟨hp, (allB_iff _ _ _).2 (four_rng hx hm (show 0 ≤ dlD p key q ∧ dlD p key q ≤ p - 1 from ⟨by omega, hd.2⟩) (show (0 : Int) ≤ 0 ∧ (0 : Int) ≤ p - 1 from ⟨by omega, by omega⟩))⟩
  · rcases hq with rfl | rfl <;> rfl
  · have : ¬ (dlP p key q x).delta = 0 := by show ¬ dlD p key q = 0; omega
    rw [decide_eq_false this]; rfl
  · rfl
  · exact decide_eq_true (by show (dlK p key q 5).length = 5; simp [dlK])
  · refine (allB_iff _ _ _).2 (fun v hv => ?_)
    obtain ⟨j, hj, rfl⟩ := mem_getD _ v hv
    have hj5 : j < 5 := by have : (dlK p key q 5).length = 5 := by simp [dlK]
                           exact this ▸ hj
    show 0 ≤ (dlK p key q 5).getD j 0 ∧ (dlK p key q 5).getD j 0 ≤ p - 1
    rw [dlK_at _ _ _ _ _ hj5]
    exact numI_range _ _ (by omega)
  · unfold tagsB
    rw [List.all_eq_true]
    intro i hi
    have hi5 := List.mem_range.1 hi
    have e1 := dl_shV p key q x i hi5
    have e2 := dl_shT p key q x i hi5
    unfold shV at e1
    unfold shT at e2
    unfold tagAt tagB elB
    rw [e1, e2]
    have h1 := dlS_rng p key q i p1
    have h2 := dlT_rng p key q i p1
    show ((isPr p && decide (0 ≤ dlS p key q i ∧ dlS p key q i ≤ p - 1)) && (isPr p && decide (0 ≤ dlT p key q i ∧ dlT p key q i ≤ p - 1))) = true
    rw [hp, decide_eq_true h1, decide_eq_true h2]; rfl
  · rfl
  · rfl
  · rfl
  · rfl
theorem dl_new {p key q x : Int} (hp : isPr p = true) (hq : q = 0 ∨ q = 1) (hx : 0 ≤ x ∧ x ≤ p - 1) : New (dlP p key q x) := ⟨PlN.of (dl_plB hp hq hx), rfl, rfl, rfl⟩
end Go.Proofs.YtlmdckcohoddnaaDoor
namespace Go.Proofs.YtlmdckcohoddnaaDoor
open Go.RowKit
theorem sameInts_p (a : Option Addr) (n c : Nat) (a' : Option Addr) (n' c' : Nat) (l : List Int) (w : World) (h : Ints w a n c l) (h' : Ints w a' n' c' l) :
    Calls Tryd.prog 82 #[.slice a n c, .slice a' n' c'] w fun e w' => e = .returned (.bool true) ∧ ∃ m, w' = w.drewN m := by
  obtain rfl : n = n' := by rw [h.len, h'.len]
  have hn := h.le
  go_enter Tryd.func82, Tryd.ntmps82
  go_wp2
  go_loopw [13] (fun v wr => ∃ k : Nat, k ≤ n ∧ v = .int .i64 k ∧ ∃ m, wr = w.drewN m) (fun v _ => n - (intOf v).toNat)
  case atStart => exact ⟨0, Nat.zero_le _, rfl, 0, rfl⟩
  case round =>
    obtain ⟨k, hk, rfl, m, rfl⟩ := hrel
    by_cases hlt : k < n
    · obtain ⟨g, o, rfl, hcell⟩ := h.at k hlt
      obtain ⟨g', o', rfl, hcell'⟩ := h'.at k hlt
      have hb : ((l.getD k 0 != l.getD k 0) : Bool) = false := by simp
      go_wp2
      go_quiet (fail)
      go_wp2
      go_roundw
      case rel => exact ⟨k + 1, by omega, by go_num, _, by first | rfl | exact World.drewN_drewN ..⟩
      case measure => simp [intOf]; omega
    · go_wp2
      go_ret
      exact ⟨rfl, _, rfl⟩
set_option maxHeartbeats 4000000 in
theorem sameLists_p (a : Option Addr) (n c : Nat) (a' : Option Addr) (n' c' : Nat) (rs rs' : List RowD) (w : World) (h : IntSS w a n c rs) (h' : IntSS w a' n' c' rs') (hd : datas' rs = datas' rs') :
    Calls Tryd.prog 83 #[.slice a n c, .slice a' n' c'] w fun e w' => e = .returned (.bool true) ∧ Below w.heap.size w w' := by
  obtain rfl : n = n' := by rw [← h.len, ← h'.len, ← datas_len rs, ← datas_len rs', hd]
  have hn := h.le
  have HD := Lib.hid hd
  have HH := Lib.hid h
  have HH' := Lib.hid h'
  have HL := Lib.hid h.len
  have HL' := Lib.hid h'.len
  clear hd h h'
  go_enter Tryd.func83, Tryd.ntmps83
  go_wp2
  go_loopw [13] (fun v wr => ∃ k : Nat, k ≤ n ∧ v = .int .i64 k ∧ Below w.heap.size w wr) (fun v _ => n - (intOf v).toNat)
  case atStart => exact ⟨0, Nat.zero_le _, rfl, Below.refl _ _⟩
  case round =>
    obtain ⟨k, hk, rfl, hbel⟩ := hrel
    by_cases hlt : k < n
    · obtain ⟨g, o, rfl, hcell, hin⟩ := (HH.out.below hbel).at k hlt
      obtain ⟨g', o', rfl, hcell', hin'⟩ := (HH'.out.below hbel).at k hlt
      have hlt' : (k : Int) < (n : Int) := by omega
      have e1 : (rowAt rs k).2.2 = (rowAt rs' k).2.2 := by
        have := congrArg (fun q => q.getD k []) HD.out
        simpa [datas', rowAt, List.getD, HL.out, HL'.out, hlt] using this
      generalize rowAt rs k = r at *
      generalize rowAt rs' k = r' at *
      obtain ⟨ra, rc, rl⟩ := r
      obtain ⟨ra', rc', rl'⟩ := r'
      dsimp only at *
      subst e1
      have CC := Lib.hid (fun (W : World) (m : Nat) (hw : W = wr.drewN m) => sameInts_p ra rl.length rc ra' rl.length rc' rl W (hw ▸ hin.below (below_of_drewN m)) (hw ▸ hin'.below (below_of_drewN m)))
      go_wp2
      go_quiet ((go_at_call 82; exact Calls.quiet_of (CC.out _ _ rfl)))
      generalize hwq : wr.drewN nq = wq at *
      have hb2 : Below w.heap.size w wq := hwq ▸ (below_drewN hbel nq)
      go_wp2
      go_roundw
      case rel => exact ⟨k + 1, by omega, by go_num, hb2⟩
      case measure => simp [intOf]; omega
    · go_wp2
      go_ret
      exact ⟨rfl, hbel⟩
set_option maxHeartbeats 8000000 in
set_option maxRecDepth 100000 in
theorem pSamePlayer_p (a : Pl) (x y : PlX) (w : World) (h : PlR w x a.shares a.keys a.heard) (h' : PlR w y a.shares a.keys a.heard) :
    Calls Tryd.prog 33 #[.agg #[.int .i64 a.P, .int .i64 a.party, .int .i64 a.input, .int .i64 a.mask, .int .i64 a.delta, .slice x.sa x.sn x.sc, .slice x.ka x.kn x.kc, .int .i64 a.step, .slice x.ha x.hn x.hc, .int .i64 a.status, .int .i64 a.out], .agg #[.int .i64 a.P, .int .i64 a.party, .int .i64 a.input, .int .i64 a.mask, .int .i64 a.delta, .slice y.sa y.sn y.sc, .slice y.ka y.kn y.kc, .int .i64 a.step, .slice y.ha y.hn y.hc, .int .i64 a.status, .int .i64 a.out]] w fun e w' => e = .returned (.bool true) ∧ Below w.heap.size w w' := by
  obtain ⟨x_sa, x_sn, x_sc, x_ka, x_kn, x_kc, x_ha, x_hn, x_hc⟩ := x
  obtain ⟨y_sa, y_sn, y_sc, y_ka, y_kn, y_kc, y_ha, y_hn, y_hc⟩ := y
  obtain ⟨hS, hK, rs, hH, hD⟩ := h
  obtain ⟨hS', hK', rs', hH', hD'⟩ := h'
  dsimp only at *
  have hl := hS.len
  have hl' := hS'.len
  obtain rfl : x_sn = y_sn := by omega
  have hn := hS.le
  have CI := Lib.hid (fun (W : World) (q : Ints W x_ka x_kn x_kc a.keys) (q' : Ints W y_ka y_kn y_kc a.keys) => sameInts_p _ _ _ _ _ _ a.keys W q q')
  have CL := Lib.hid (fun (W : World) (q : IntSS W x_ha x_hn x_hc rs) (q' : IntSS W y_ha y_hn y_hc rs') => sameLists_p _ _ _ _ _ _ rs rs' W q q' (hD.trans hD'.symm))
  have LS := Lib.hid hS
  have LS' := Lib.hid hS'
  have LK := Lib.hid hK
  have LK' := Lib.hid hK'
  have LH := Lib.hid hH
  have LH' := Lib.hid hH'
  clear hS hS' hK hK' hH hH' hD hD' hl hl'
  go_enter Tryd.func33, Tryd.ntmps33
  go_wp2_with fail
  refine Exists.elim (Blk.new_ w (b := w.heap.size) rfl 31 #[.int .i64 a.P, .int .i64 a.party, .int .i64 a.input, .int .i64 a.mask, .int .i64 a.delta, .slice x_sa x_sn x_sc, .slice x_ka x_kn x_kc, .int .i64 a.step, .slice x_ha x_hn x_hc, .int .i64 a.status, .int .i64 a.out]) (fun w1_a0' q => ?_)
  rw [q.1]; have B_a := q.2.1; have s_w1_a0' := q.2.2.1; have u_w1_a0' := q.2.2.2; clear q
  refine Exists.elim (Blk.new_ w1_a0' (b := w.heap.size + 1) s_w1_a0' 31 #[.int .i64 a.P, .int .i64 a.party, .int .i64 a.input, .int .i64 a.mask, .int .i64 a.delta, .slice y_sa x_sn y_sc, .slice y_ka y_kn y_kc, .int .i64 a.step, .slice y_ha y_hn y_hc, .int .i64 a.status, .int .i64 a.out]) (fun w1' q => ?_)
  rw [q.1]; have B_b := q.2.1; have s_w1' := q.2.2.1; have u_w1' := q.2.2.2; clear q
  replace B_a := (B_a.below u_w1')
  have U := (u_w1_a0'.trans (u_w1'.mono u_w1_a0'.size))
  have S_w1' : w.heap.size + 2 ≤ w1'.heap.size := Nat.le_of_eq s_w1'.symm
  have V_w1' := (Below.refl w.heap.size w).trans (U.mono ((Below.refl w.heap.size w)).size)
  clear u_w1_a0' u_w1' s_w1_a0' s_w1' U
  refine (CI.out _ (LK.out.below V_w1') (LK'.out.below V_w1')).mono ?_
  rintro e w2' ⟨rfl, q_w2'⟩
  have u_w2' := below_of_quiet q_w2'
  clear q_w2'
  replace B_a := B_a.below u_w2'
  replace B_b := B_b.below u_w2'
  have S_w2' := u_w2'.size
  have V_w2' : Below w.heap.size w w2' := V_w1'.trans (u_w2'.mono V_w1'.size)
  clear V_w1'
  clear u_w2'
  have e_a := B_a.all11
  have e_b := B_b.all11
  go_wp2_with fail
  clear e_a e_b
  refine (CL.out _ (LH.out.below V_w2') (LH'.out.below V_w2')).mono ?_
  rintro e w3' ⟨rfl, u_w3'⟩
  replace B_a := B_a.below u_w3'
  replace B_b := B_b.below u_w3'
  have S_w3' := u_w3'.size
  have V_w3' : Below w.heap.size w w3' := V_w2'.trans (u_w3'.mono V_w2'.size)
  clear V_w2'
  clear u_w3'
  have e_a := B_a.all11
  have e_b := B_b.all11
  go_wp2
  clear e_a e_b
  have VV := V_w3'
  go_loopw [88] (fun v wr => ∃ k : Nat, k ≤ x_sn ∧ v = .int .i64 k ∧ Below w3'.heap.size w3' wr) (fun v _ => x_sn - (intOf v).toNat)
  case atStart => exact ⟨0, Nat.zero_le _, rfl, Below.refl _ _⟩
  case round =>
    obtain ⟨k, hk, rfl, hbel⟩ := hrel
    have B_a := B_a.below hbel
    have B_b := B_b.below hbel
    have V_wr := V_w3'.trans (hbel.mono V_w3'.size)
    have S_wr := hbel.size
    by_cases hlt : k < x_sn
    · obtain ⟨g, o, rfl, c0⟩ := (LS.out.below V_wr).at (by omega)
      obtain ⟨g', o', rfl, c0'⟩ := (LS'.out.below V_wr).at (by omega)
      have hlt' : (k : Int) < (x_sn : Int) := by omega
      have d0 := c0 (k * 2) (by omega)
      have d1 := c0 (k * 2 + 1) (by omega)
      have d0' := c0' (k * 2) (by omega)
      have d1' := c0' (k * 2 + 1) (by omega)
      rw [← Nat.add_assoc] at d1 d1'
      generalize a.shares.getD (k * 2) 0 = q0 at *
      generalize a.shares.getD (k * 2 + 1) 0 = q1 at *
      clear c0 c0'
      have e_a_5 := B_a.a11_5
      have e_b_5 := B_b.a11_5
      go_wp2
      go_quiet (fail)
      clear e_a_5 e_b_5
      go_wp2
      go_roundw
      case rel => exact ⟨k + 1, by omega, by go_num, below_drewN hbel _⟩
      case measure => simp [intOf]; omega
    · go_wp2
      go_ret
      exact ⟨rfl, V_wr⟩
end Go.Proofs.YtlmdckcohoddnaaDoor
