/- FnBatches: what holds one by one holds in a batch; how many pairs a batch misses; sums and shifts of tagged values. -/
import Derived.Test.YtjgbhokilagmoaaBatB
import Derived.Test.YtjgbhokilagmoaaBatC
import Derived.Test.YtjgbhokilagmoaaBatE
import Derived.Test.YtjgbhokilagmoaaBatG
import Derived.Test.YtjgbhokilagmoaaMisc1
import Derived.Deep.DeepCutAuto
namespace Go.Proofs.Ytjgbhokilagmoaa
open Go.RowKit
def BoolP (w : World) (e : Ending) (w' : World) : Prop := ∃ b : Bool, e = .returned (.bool b) ∧ w = w'
set_option maxHeartbeats 1000000 in
theorem big_any (a : Option Addr) (n c : Nat) (a' : Option Addr) (n' c' : Nat) (w : World) (h : Cod w w.heap.size a n c) (h' : Cod w w.heap.size a' n' c') :
    Calls Try.prog 7 #[.slice a n c, .slice a' n' c'] w (BoolP w) := by
  have m1 := h.1
  have m2 := h.2.1
  have m3 := h'.1
  have m4 := h'.2.1
  unfold maxLen at m2 m4
  have hn : (n : Int) ≤ 9223372036854775807 := by omega
  have hn' : (n' : Int) ≤ 9223372036854775807 := by omega
  clear m1 m2 m3 m4
  by_cases h1 : (n : Int) > 1048576
  · go_enter Try.func7, Try.ntmps7
    go_wp2
    go_ret
    exact ⟨_, rfl, rfl⟩
  · have d1 : decide ((n : Int) > 1048576) = false := by simp; omega
    go_enter Try.func7, Try.ntmps7
    go_wp2
    go_ret
    exact ⟨_, rfl, rfl⟩
theorem sameInts_q (a : Option Addr) (n c : Nat) (a' : Option Addr) (n' c' : Nat) (l : List Int) (w : World) (h : Ints w a n c l) (h' : Ints w a' n' c' l) :
    Calls Try.prog 23 #[.slice a n c, .slice a' n' c'] w fun e w' => e = .returned (.bool true) ∧ ∃ m, w' = w.drewN m := by
  obtain rfl : n = n' := by rw [h.len, h'.len]
  have hn := h.le
  go_enter Try.func23, Try.ntmps23
  go_wp2
  go_loopw [13] (fun v wr => ∃ k : Nat, k ≤ n ∧ v = .int .i64 k ∧ ∃ m, wr = w.drewN m) (fun v _ => n - (intOf v).toNat)
  case atStart => exact ⟨0, Nat.zero_le _, rfl, 0, rfl⟩
  case round =>
    obtain ⟨k, hk, rfl, m, rfl⟩ := hrel
    by_cases hlt : k < n
    · obtain ⟨g, o, rfl, hcell⟩ := h.at k hlt
      obtain ⟨g', o', rfl, hcell'⟩ := h'.at k hlt
      have hb : ((l.getD k 0 != l.getD k 0) : Bool) = false := by simp
      go_wp2
      go_quiet (fail)
      go_wp2
      go_roundw
      case rel => exact ⟨k + 1, by omega, by go_num, _, by first | rfl | exact World.drewN_drewN ..⟩
      case measure => simp [intOf]; omega
    · go_wp2
      go_ret
      exact ⟨rfl, _, rfl⟩
/-- What a batch's row says of the law. -/
theorem bh_law (p d : Int) (keys L ws : List Int) (kn n wn : Nat) (h : bhOK p d keys L ws kn n wn = true) : tlB p d keys L kn n = true ∧ (wtR p d keys L kn n = [] → bhV p d keys L ws kn n wn = true) := by
  have h1 : tlB p d keys L kn n = true := by unfold bhOK at h; simp only [Bool.and_eq_true] at h; exact h.1
  refine ⟨h1, fun hz => ?_⟩
  unfold wtR at hz
  rw [if_pos h1] at hz
  unfold bhV
  rw [h, batch_hold n (all_hold hz)]
  rfl
theorem bm_law (p : Int) (c t : List Int) (tn : Nat) (h : bmOK p c t 1 tn = true) : tn = 1 ∧ missedB p (c.getD 0 0) (t.getD 0 0) = true ∧ bmN p c t 1 tn = p + (p - 1) * (missedV p (c.getD 0 0) (t.getD 0 0) + if t.getD 0 0 = 0 then 1 else 0) ∧ (2 ≤ p ∧ p ≤ 251) ∧ 0 ≤ missedV p (c.getD 0 0) (t.getD 0 0) ∧ missedV p (c.getD 0 0) (t.getD 0 0) ≤ 251 := by
  have hh := h
  unfold bmOK at h
  simp only [Bool.and_eq_true, decide_eq_true_eq] at h
  obtain ⟨h1, h2, h3, _, _⟩ := h
  have hp : isPr p = true := by unfold elsB at h1; simp only [Bool.and_eq_true] at h1; exact h1.1
  have hr := isPr_range hp
  have c0 := els_rng h1 0
  have t0 := els_rng h2 0
  have hb : missedB p (c.getD 0 0) (t.getD 0 0) = true := by
    unfold missedB elB
    rw [hp]
    simp only [Bool.true_and, Bool.and_eq_true, decide_eq_true_eq]
    exact ⟨by omega, by omega⟩
  have hv : missedV p (c.getD 0 0) (t.getD 0 0) = (missC p (c.getD 0 0) (t.getD 0 0) p.toNat : Int) := by unfold missedV; rw [if_pos hb]
  have hle := missC_le p (c.getD 0 0) (t.getD 0 0) p.toNat
  refine ⟨h3.symm, hb, ?_, ⟨hr.1, hr.2⟩, by rw [hv]; omega, by rw [hv]; omega⟩
  unfold bmN
  rw [if_pos hh, hv, ← bm_one hp c t t0.1 t0.2]
  have : pw0 p (1 + 1) = p * p := by simp [pw0]
  rw [this]
set_option maxHeartbeats 16000000 in
set_option maxRecDepth 100000 in
theorem FnBatches_walk (a0 : Option Addr) (n0 c0 : Nat) (a1 : Option Addr) (n1 c1 : Nat) (w : World) (z0 : Cod w w.heap.size a0 n0 c0) (z1 : Cod w w.heap.size a1 n1 c1) :
    Calls Try.prog 4 #[.slice a0 n0 c0, .slice a1 n1 c1] w fun e w' => e = .returned (.bool true) ∧ Below w.heap.size w w' := by

  have Z1 := Lib.hid z1
  go_enter Try.func4, Try.ntmps4
  go_wp2_with fail
  refine (big_any _ _ _ _ _ _ _ z0 z1).mono ?_; rintro e w' ⟨b, rfl, rfl⟩
  clear z1
  cases b
  rotate_left
  · go_wp2
    go_ret
    exact ⟨rfl, Below.refl _ _⟩
  go_wp2_with fail
  refine (DrawBatchHolds_any _ _ _ _ z0).mono ?_
  rintro e w1' ⟨p, d, ka, kn, kc, keys, la, n, lc, L, wa, wn, wc, ws, rfl, hk, hl, hw, u_w1'⟩
  have S_w1' := u_w1'.size
  have V_w1' : Below w.heap.size w w1' := (Below.refl w.heap.size w).trans (u_w1'.mono (Below.refl w.heap.size w).size)
  clear u_w1'

  clear z0
  go_wp2_with fail
  refine (BatchHolds_any p d _ _ _ keys _ _ _ L _ _ _ ws _ hk hl hw).mono ?_
  rintro e w2' ⟨rfl, u_w2'⟩
  replace hk := hk.below u_w2'
  replace hl := hl.below u_w2'
  replace hw := hw.below u_w2'
  have S_w2' := u_w2'.size
  have V_w2' : Below w.heap.size w w2' := V_w1'.trans (u_w2'.mono V_w1'.size)
  clear V_w1'
  clear u_w2'
  go_wp2_with fail
  refine (spec_BatchHolds_any p d _ _ _ keys _ _ _ L _ _ _ ws _ hk hl hw).mono ?_
  rintro e w3' ⟨rfl, u_w3'⟩
  replace hk := hk.below u_w3'
  replace hl := hl.below u_w3'
  replace hw := hw.below u_w3'
  have S_w3' := u_w3'.size
  have V_w3' : Below w.heap.size w w3' := V_w2'.trans (u_w3'.mono V_w2'.size)
  clear V_w2'
  clear u_w3'
  have HB := Lib.hid (bh_law p d keys L ws kn n wn)
  generalize bhV p d keys L ws kn n wn = v at *
  generalize bhOK p d keys L ws kn n wn = ok at *
  go_upto_if 79 with fail
  go_cut [] (fun wx => Below w.heap.size w wx)

  case first => as_aux_lemma =>
    cases ok
    · go_wp2_with fail
      go_meet
      case rel => exact V_w3'
    · obtain ⟨ht, hv⟩ := HB.out rfl
      clear HB
      replace hv := Lib.hid hv
      go_wp2_with fail
      refine (WrongTags_any p d _ _ _ keys _ _ _ L _ hk hl).mono ?_
      rintro e w4' ⟨x, m, xc, rfl, hx, u_w4'⟩
      replace hk := hk.below u_w4'
      replace hl := hl.below u_w4'
      replace hw := hw.below u_w4'
      have S_w4' := u_w4'.size
      have V_w4' : Below w.heap.size w w4' := V_w3'.trans (u_w4'.mono V_w3'.size)
      clear V_w3'
      clear u_w4'
      go_wp2_with fail
      refine (spec_WrongTags_any p d _ _ _ keys _ _ _ L _ hk hl).mono ?_
      rintro e w5' ⟨y, m', yc, rfl, hy, u_w5'⟩
      replace hk := hk.below u_w5'
      replace hl := hl.below u_w5'
      replace hw := hw.below u_w5'
      replace hx := hx.below u_w5'
      have S_w5' := u_w5'.size
      have V_w5' : Below w.heap.size w w5' := V_w4'.trans (u_w5'.mono V_w4'.size)
      clear V_w4'
      clear u_w5'
      rw [ht]
      generalize wtR p d keys L kn n = R at *
      have hm := hy.ints.len
      by_cases h0 : m' = 0
      · have hR : R = [] := List.eq_nil_of_length_eq_zero (by omega)
        have hv' := hv.out hR
        clear hv
        subst hv'
        have e0 : (((m' : Int) == 0) : Bool) = true := by simp [h0]
        clear hm h0 hR

        go_wp2_with fail
        refine (sameInts_q _ _ _ _ _ _ R _ hx.ints hy.ints).mono ?_
        rintro e w6' ⟨rfl, q_w6'⟩
        have u_w6' := below_of_quiet q_w6'
        clear q_w6'
        replace hk := hk.below u_w6'
        replace hl := hl.below u_w6'
        replace hw := hw.below u_w6'
        replace hx := hx.below u_w6'
        replace hy := hy.below u_w6'
        have S_w6' := u_w6'.size
        have V_w6' : Below w.heap.size w w6' := V_w5'.trans (u_w6'.mono V_w5'.size)
        clear V_w5'
        clear u_w6'
        go_wp2_with fail
        go_meet
        case rel => exact V_w6'

      · have e0 : (((m' : Int) == 0) : Bool) = false := by simpa using h0
        clear hm h0 hv

        go_wp2_with fail
        refine (sameInts_q _ _ _ _ _ _ R _ hx.ints hy.ints).mono ?_
        rintro e w7' ⟨rfl, q_w7'⟩
        have u_w7' := below_of_quiet q_w7'
        clear q_w7'
        replace hk := hk.below u_w7'
        replace hl := hl.below u_w7'
        replace hw := hw.below u_w7'
        replace hx := hx.below u_w7'
        replace hy := hy.below u_w7'
        have S_w7' := u_w7'.size
        have V_w7' : Below w.heap.size w w7' := V_w5'.trans (u_w7'.mono V_w5'.size)
        clear V_w5'
        clear u_w7'
        go_wp2_with fail
        go_meet
        case rel => exact V_w7'


  case rest => as_aux_lemma =>
    clear HB


    go_wp2_with fail
    refine (DrawBatchMisses_any _ _ _ _ (Z1.out.belowAll hcut)).mono ?_
    rintro e w8' ⟨p, ca, n, cc, c, ta, tn, tc, t, rfl, hc, ht, u_w8'⟩
    have S_w8' := u_w8'.size
    have V_w8' : Below w.heap.size w w8' := hcut.trans (u_w8'.mono hcut.size)
    clear hcut
    clear u_w8'
    go_wp2_with fail
    refine (BatchMisses_any p _ _ _ c _ _ _ t _ hc ht).mono ?_
    rintro e w9' ⟨rfl, u_w9'⟩
    replace hc := hc.below u_w9'
    replace ht := ht.below u_w9'
    have S_w9' := u_w9'.size
    have V_w9' : Below w.heap.size w w9' := V_w8'.trans (u_w9'.mono V_w8'.size)
    clear V_w8'
    clear u_w9'
    go_wp2_with fail
    refine (spec_BatchMisses_any p _ _ _ c _ _ _ t _ hc ht).mono ?_
    rintro e w10' ⟨rfl, u_w10'⟩
    replace hc := hc.below u_w10'
    replace ht := ht.below u_w10'
    have S_w10' := u_w10'.size
    have V_w10' : Below w.heap.size w w10' := V_w9'.trans (u_w10'.mono V_w9'.size)
    clear V_w9'
    clear u_w10'
    have HB : Hid (n = 1 → bmOK p c t n tn = true → tn = 1 ∧ missedB p (c.getD 0 0) (t.getD 0 0) = true ∧ bmN p c t n tn = p + (p - 1) * (missedV p (c.getD 0 0) (t.getD 0 0) + if t.getD 0 0 = 0 then 1 else 0) ∧ (2 ≤ p ∧ p ≤ 251) ∧ 0 ≤ missedV p (c.getD 0 0) (t.getD 0 0) ∧ missedV p (c.getD 0 0) (t.getD 0 0) ≤ 251) := Lib.hid (fun e h => by subst e; exact bm_law p c t tn h)
    generalize bmN p c t n tn = N at *
    generalize bmOK p c t n tn = ok at *
    go_upto_region 18 with fail
    go_cut [150] (fun q wx => q = .bool (ok && ((n : Int) == 1)) ∧ wx = w10')
    case first => as_aux_lemma =>
      cases ok
      · go_wp2_with fail
        go_meet
        case rel => exact ⟨rfl, rfl⟩
      · go_wp2_with fail
        go_meet
        case rel => exact ⟨by simp, rfl⟩
    case rest => as_aux_lemma =>
      obtain ⟨rfl, rfl⟩ := hcut
      generalize hq : (ok && ((n : Int) == 1)) = q
      have HQ : Hid (q = true → ok = true ∧ n = 1) := Lib.hid (fun h => by rw [h] at hq; simp at hq; exact ⟨hq.1, by omega⟩)
      clear hq
      go_upto_if 150 with fail
      go_cut [] (fun wx => Below w.heap.size w wx)

      case first => as_aux_lemma =>
        cases q
        · go_wp2_with fail
          go_meet
          case rel => exact V_w10'
        · obtain ⟨hok, hn1⟩ := HQ.out rfl
          obtain ⟨htn, hmb, hN, ⟨p1, p2⟩, m1, m2⟩ := HB.out hn1 hok
          clear HB HQ hok
          subst hn1
          subst htn
          obtain ⟨g, o, rfl, hcell⟩ := hc.at 0 (by omega)
          obtain ⟨g', o', rfl, hcell'⟩ := ht.at 0 (by omega)
          simp only [Nat.add_zero] at hcell hcell'
          have CM := Lib.hid (fun W : World => MissedDeltas_any p (c.getD 0 0) (t.getD 0 0) W)
          rw [hmb] at CM
          clear hmb
          generalize missedV p (c.getD 0 0) (t.getD 0 0) = mv at *
          generalize c.getD 0 0 = cv at *
          generalize t.getD 0 0 = tv at *
          go_upto_region 19 with fail
          go_quiet ((go_at_call 34; exact Calls.quiet_of (CM.out _)))
          by_cases htv : tv = 0
          · subst htv
            rw [if_pos rfl] at hN
            subst hN
            have HM := True.intro
            have k0 : -1 ≤ mv + 1 ∧ mv + 1 ≤ 300 := by omega
            have X1 : -1000000000000 ≤ (p - 1) * (mv + 1) ∧ (p - 1) * (mv + 1) ≤ 1000000000000 := by
              have h1 := Int.natAbs_mul (p - 1) (mv + 1)
              have h2 : (p - 1).natAbs * (mv + 1).natAbs ≤ 1000000 * 1000000 := Nat.mul_le_mul (by omega) (by omega)
              omega
            have x1 : IntKind.i64.wrap (p - 1) = p - 1 := IntWalk.i64_in _ (by omega)
            have x2 : IntKind.i64.wrap (mv + 1) = mv + 1 := IntWalk.i64_in _ (by omega)
            have x3 : IntKind.i64.wrap ((p - 1) * (mv + 1)) = (p - 1) * (mv + 1) := IntWalk.i64_in _ (by omega)
            have x4 : IntKind.i64.wrap (p + (p - 1) * (mv + 1)) = p + (p - 1) * (mv + 1) := IntWalk.i64_in _ (by omega)
            clear k0 X1 HM
            go_wp2
            go_meet
            case rel => exact (V_w10').trans ((below_of_drewN nq).mono (V_w10').size)
          · have e0 : ((tv == 0) : Bool) = false := by simpa using htv
            rw [if_neg htv, Int.add_zero] at hN
            subst hN
            have HM := True.intro
            have k0 : -1 ≤ mv ∧ mv ≤ 300 := by omega
            have X1 : -1000000000000 ≤ (p - 1) * (mv) ∧ (p - 1) * (mv) ≤ 1000000000000 := by
              have h1 := Int.natAbs_mul (p - 1) (mv)
              have h2 : (p - 1).natAbs * (mv).natAbs ≤ 1000000 * 1000000 := Nat.mul_le_mul (by omega) (by omega)
              omega
            have x1 : IntKind.i64.wrap (p - 1) = p - 1 := IntWalk.i64_in _ (by omega)
            have x2 : IntKind.i64.wrap (mv) = mv := IntWalk.i64_in _ (by omega)
            have x3 : IntKind.i64.wrap ((p - 1) * (mv)) = (p - 1) * (mv) := IntWalk.i64_in _ (by omega)
            have x4 : IntKind.i64.wrap (p + (p - 1) * (mv)) = p + (p - 1) * (mv) := IntWalk.i64_in _ (by omega)
            clear k0 X1 HM
            go_wp2
            go_meet
            case rel => exact (V_w10').trans ((below_of_drewN nq).mono (V_w10').size)

      case rest => as_aux_lemma =>
        clear HB HQ V_w10'


        go_wp2_with fail
        refine (DrawAddTagged_any _ _ _ _ (Z1.out.belowAll hcut)).mono ?_
        rintro e w11' ⟨p2, v1, t1, v2, t2, rfl, u_w11'⟩
        have S_w11' := u_w11'.size
        have V_w11' : Below w.heap.size w w11' := hcut.trans (u_w11'.mono hcut.size)
        clear hcut
        clear u_w11'
        go_upto_region 26 with fail
        refine Exists.elim (Blk.new_ w11' (b := w11'.heap.size) rfl 52 #[.int .i64 v1, .int .i64 t1]) (fun w12_a0' q => ?_)
        rw [q.1]; have B_x := q.2.1; have s_w12_a0' := q.2.2.1; have u_w12_a0' := q.2.2.2; clear q
        refine Exists.elim (Blk.new_ w12_a0' (b := w11'.heap.size + 1) s_w12_a0' 52 #[.int .i64 v2, .int .i64 t2]) (fun w12' q => ?_)
        rw [q.1]; have B_y := q.2.1; have s_w12' := q.2.2.1; have u_w12' := q.2.2.2; clear q
        replace B_x := (B_x.below u_w12')
        have U := (u_w12_a0'.trans (u_w12'.mono u_w12_a0'.size))
        have S_w12' : w11'.heap.size + 2 ≤ w12'.heap.size := Nat.le_of_eq s_w12'.symm
        have V_w12' := V_w11'.trans (U.mono (V_w11').size)
        clear u_w12_a0' u_w12' s_w12_a0' s_w12' U V_w11'
        have e_x := B_x.all2
        have f_x := B_x.frz2
        have e_y := B_y.all2
        have f_y := B_y.frz2
        go_wp2_with fail
        clear e_x f_x e_y f_y
        refine (AddTagged_any p2 v1 t1 v2 t2 _).mono ?_
        rintro e w13' ⟨rfl, u_w13'⟩
        replace B_x := B_x.below u_w13'
        replace B_y := B_y.below u_w13'
        have S_w13' := u_w13'.size
        have V_w13' : Below w.heap.size w w13' := V_w12'.trans (u_w13'.mono V_w12'.size)
        clear V_w12'
        clear u_w13'
        go_upto_region 27 with fail
        refine Exists.elim (Blk.new_ w13' (b := w13'.heap.size) rfl 52 #[.int .i64 (adV (adB p2 v1 t1 v2 t2) p2 v1 v2), .int .i64 (adV (adB p2 v1 t1 v2 t2) p2 t1 t2)]) (fun w14' q => ?_)
        rw [q.1]; have B_u := q.2.1; have s_w14' := q.2.2.1; have u_w14' := q.2.2.2; clear q
        replace B_x := B_x.below u_w14'
        replace B_y := B_y.below u_w14'
        have S_w14' : w13'.heap.size + 1 ≤ w14'.heap.size := Nat.le_of_eq s_w14'.symm
        have V_w14' := V_w13'.trans (u_w14'.mono (V_w13').size)
        clear u_w14' s_w14' V_w13'
        have e_x := B_x.all2
        have f_x := B_x.frz2
        have e_y := B_y.all2
        have f_y := B_y.frz2
        go_wp2_with fail
        clear e_x f_x e_y f_y
        refine (spec_AddTagged_any p2 v1 t1 v2 t2 _).mono ?_
        rintro e w15' ⟨rfl, u_w15'⟩
        replace B_x := B_x.below u_w15'
        replace B_y := B_y.below u_w15'
        replace B_u := B_u.below u_w15'
        have S_w15' := u_w15'.size
        have V_w15' : Below w.heap.size w w15' := V_w14'.trans (u_w15'.mono V_w14'.size)
        clear V_w14'
        clear u_w15'
        go_upto_region 28 with fail
        refine Exists.elim (Blk.new_ w15' (b := w15'.heap.size) rfl 52 #[.int .i64 (adV (adB p2 v1 t1 v2 t2) p2 v1 v2), .int .i64 (adV (adB p2 v1 t1 v2 t2) p2 t1 t2)]) (fun w16' q => ?_)
        rw [q.1]; have B_u2 := q.2.1; have s_w16' := q.2.2.1; have u_w16' := q.2.2.2; clear q
        replace B_x := B_x.below u_w16'
        replace B_y := B_y.below u_w16'
        replace B_u := B_u.below u_w16'
        have S_w16' : w15'.heap.size + 1 ≤ w16'.heap.size := Nat.le_of_eq s_w16'.symm
        have V_w16' := V_w15'.trans (u_w16'.mono (V_w15').size)
        clear u_w16' s_w16' V_w15'
        go_wp2_with fail
        refine (DrawShiftTagged_any _ _ _ _ (Z1.out.belowAll V_w16')).mono ?_
        rintro e w17' ⟨p3, v3, t3, k3, rfl, u_w17'⟩
        replace B_x := B_x.below u_w17'
        replace B_y := B_y.below u_w17'
        replace B_u := B_u.below u_w17'
        replace B_u2 := B_u2.below u_w17'
        have S_w17' := u_w17'.size
        have V_w17' : Below w.heap.size w w17' := V_w16'.trans (u_w17'.mono V_w16'.size)
        clear V_w16'
        clear u_w17'
        go_upto_region 29 with fail
        refine Exists.elim (Blk.new_ w17' (b := w17'.heap.size) rfl 52 #[.int .i64 v3, .int .i64 t3]) (fun w18' q => ?_)
        rw [q.1]; have B_s := q.2.1; have s_w18' := q.2.2.1; have u_w18' := q.2.2.2; clear q
        replace B_x := B_x.below u_w18'
        replace B_y := B_y.below u_w18'
        replace B_u := B_u.below u_w18'
        replace B_u2 := B_u2.below u_w18'
        have S_w18' : w17'.heap.size + 1 ≤ w18'.heap.size := Nat.le_of_eq s_w18'.symm
        have V_w18' := V_w17'.trans (u_w18'.mono (V_w17').size)
        clear u_w18' s_w18' V_w17'
        have e_s := B_s.all2
        have f_s := B_s.frz2
        go_wp2_with fail
        clear e_s f_s
        refine (ShiftTagged_any p3 v3 t3 k3 _).mono ?_
        rintro e w19' ⟨rfl, u_w19'⟩
        replace B_x := B_x.below u_w19'
        replace B_y := B_y.below u_w19'
        replace B_u := B_u.below u_w19'
        replace B_u2 := B_u2.below u_w19'
        replace B_s := B_s.below u_w19'
        have S_w19' := u_w19'.size
        have V_w19' : Below w.heap.size w w19' := V_w18'.trans (u_w19'.mono V_w18'.size)
        clear V_w18'
        clear u_w19'
        go_upto_region 30 with fail
        refine Exists.elim (Blk.new_ w19' (b := w19'.heap.size) rfl 52 #[.int .i64 (adV (shB p3 v3 t3 k3) p3 v3 k3), .int .i64 (shT' (shB p3 v3 t3 k3) t3)]) (fun w20' q => ?_)
        rw [q.1]; have B_r := q.2.1; have s_w20' := q.2.2.1; have u_w20' := q.2.2.2; clear q
        replace B_x := B_x.below u_w20'
        replace B_y := B_y.below u_w20'
        replace B_u := B_u.below u_w20'
        replace B_u2 := B_u2.below u_w20'
        replace B_s := B_s.below u_w20'
        have S_w20' : w19'.heap.size + 1 ≤ w20'.heap.size := Nat.le_of_eq s_w20'.symm
        have V_w20' := V_w19'.trans (u_w20'.mono (V_w19').size)
        clear u_w20' s_w20' V_w19'
        have e_s := B_s.all2
        have f_s := B_s.frz2
        go_wp2_with fail
        clear e_s f_s
        refine (spec_ShiftTagged_any p3 v3 t3 k3 _).mono ?_
        rintro e w21' ⟨rfl, u_w21'⟩
        replace B_x := B_x.below u_w21'
        replace B_y := B_y.below u_w21'
        replace B_u := B_u.below u_w21'
        replace B_u2 := B_u2.below u_w21'
        replace B_s := B_s.below u_w21'
        replace B_r := B_r.below u_w21'
        have S_w21' := u_w21'.size
        have V_w21' : Below w.heap.size w w21' := V_w20'.trans (u_w21'.mono V_w20'.size)
        clear V_w20'
        clear u_w21'
        go_upto_region 31 with fail
        refine Exists.elim (Blk.new_ w21' (b := w21'.heap.size) rfl 52 #[.int .i64 (adV (shB p3 v3 t3 k3) p3 v3 k3), .int .i64 (shT' (shB p3 v3 t3 k3) t3)]) (fun w22' q => ?_)
        rw [q.1]; have B_r2 := q.2.1; have s_w22' := q.2.2.1; have u_w22' := q.2.2.2; clear q
        replace B_x := B_x.below u_w22'
        replace B_y := B_y.below u_w22'
        replace B_u := B_u.below u_w22'
        replace B_u2 := B_u2.below u_w22'
        replace B_s := B_s.below u_w22'
        replace B_r := B_r.below u_w22'
        have S_w22' : w21'.heap.size + 1 ≤ w22'.heap.size := Nat.le_of_eq s_w22'.symm
        have V_w22' := V_w21'.trans (u_w22'.mono (V_w21').size)
        clear u_w22' s_w22' V_w21'
        generalize adV (adB p2 v1 t1 v2 t2) p2 v1 v2 = av at *
        generalize adV (adB p2 v1 t1 v2 t2) p2 t1 t2 = at' at *
        generalize adB p2 v1 t1 v2 t2 = ab at *
        generalize adV (shB p3 v3 t3 k3) p3 v3 k3 = sv at *
        generalize shT' (shB p3 v3 t3 k3) t3 = st' at *
        generalize shB p3 v3 t3 k3 = sb at *
        have e_u := B_u.all2
        have e_u2 := B_u2.all2
        have e_r := B_r.all2
        have e_r2 := B_r2.all2
        go_wp2
        go_ret
        exact ⟨rfl, V_w22'⟩
end Go.Proofs.Ytjgbhokilagmoaa
