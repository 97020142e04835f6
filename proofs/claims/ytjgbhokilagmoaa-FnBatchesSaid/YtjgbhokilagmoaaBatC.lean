/- For how many pairs of delta and weights changes are missed: the program's and the reference's. -/
import Derived.Test.YtjgbhokilagmoaaBatP
import Derived.Test.YtjgbhokilagmoaaDigest
import Derived.Test.YtjgbhokilagmoaaAreAll
import Derived.Test.YtjgbhokilagmoaaField
import Derived.Deep.DeepCutAuto
import Derived.Deep.QuietTactic
import Derived.BigQuiet
namespace Go.Proofs.Ytjgbhokilagmoaa
open Go.RowKit
def pw0 (p : Int) : Nat → Int
  | 0 => 1
  | k + 1 => pw0 p k * p
theorem pw0_pos {p : Int} (h : 1 ≤ p) (k : Nat) : 1 ≤ pw0 p k := by
  induction k with
  | zero => exact Int.le_refl 1
  | succ k ih =>
    have : (1 : Int) * 1 ≤ pw0 p k * p := Int.mul_le_mul ih h (by omega) (by omega)
    unfold pw0; omega
theorem pw0_step {p : Int} (h : 1 ≤ p) (k : Nat) : pw0 p k ≤ pw0 p (k + 1) := by
  have h1 := pw0_pos h k
  have : pw0 p k * 1 ≤ pw0 p k * p := Int.mul_le_mul_of_nonneg_left h (by omega)
  show pw0 p k ≤ pw0 p k * p
  omega
theorem pw0_mono {p : Int} (h : 1 ≤ p) (j k : Nat) : pw0 p j ≤ pw0 p (j + k) := by
  induction k with
  | zero => exact Int.le_refl _
  | succ k ih => exact Int.le_trans ih (pw0_step h (j + k))
theorem pw0_le {p : Int} (h : 1 ≤ p) (h2 : p ≤ 251) (k : Nat) : pw0 p k ≤ 251 ^ k := by
  induction k with
  | zero => exact Int.le_refl 1
  | succ k ih =>
    have h1 := pw0_pos h k
    show pw0 p k * p ≤ 251 ^ (k + 1)
    rw [Int.pow_succ]
    exact Int.mul_le_mul ih h2 (by omega) (by omega)
theorem pw0_cap {p : Int} (h : 1 ≤ p) (h2 : p ≤ 251) (k : Nat) (hk : k ≤ 5) : 1 ≤ pw0 p k ∧ pw0 p k ≤ 1000000000000 := by
  refine ⟨pw0_pos h k, ?_⟩
  have h3 := pw0_mono h k (5 - k)
  have h4 := pw0_le h h2 5
  rw [show k + (5 - k) = 5 by omega] at h3
  have : (251 : Int) ^ 5 ≤ 1000000000000 := by decide
  omega
theorem btR_rng {p r : Int} (hp : 1 ≤ p) (hr : 0 ≤ r) (k : Nat) : 0 ≤ btR p r k ∧ btR p r k ≤ r := by
  induction k with
  | zero => exact ⟨hr, Int.le_refl _⟩
  | succ k ih =>
    have h1 := Int.ediv_nonneg ih.1 (by omega : 0 ≤ p)
    have h2 := Int.ediv_le_self p ih.1
    unfold btR; omega
theorem btV_rng {p r : Int} {c : List Int} (hp : 1 ≤ p) (hp2 : p ≤ 251) (hc : ∀ i, 0 ≤ c.getD i 0 ∧ c.getD i 0 ≤ p) (k : Nat) : 0 ≤ btV p r c k ∧ btV p r c k ≤ 63001 * k := by
  induction k with
  | zero => exact ⟨Int.le_refl 0, by simp [btV]⟩
  | succ k ih =>
    have h1 := Int.emod_nonneg (btR p r k) (by omega : p ≠ 0)
    have h2 := Int.emod_lt_of_pos (btR p r k) (by omega : 0 < p)
    have h3 := hc k
    have h4 := Int.mul_nonneg h1 h3.1
    have h5 : btR p r k % p * c.getD k 0 ≤ 251 * 251 := Int.mul_le_mul (by omega) (by omega) h3.1 (by omega)
    unfold btV
    omega
theorem btS_rng {p r d : Int} {c t : List Int} (hp : 1 ≤ p) (hp2 : p ≤ 251) (k : Nat) : 0 ≤ btS p r d c t k ∧ btS p r d c t k ≤ 63001 * k := by
  induction k with
  | zero => exact ⟨Int.le_refl 0, by simp [btS]⟩
  | succ k ih =>
    have h1 := Int.emod_nonneg (btR p r k) (by omega : p ≠ 0)
    have h2 := Int.emod_lt_of_pos (btR p r k) (by omega : 0 < p)
    have h3 := Int.emod_nonneg (c.getD k 0 * d - t.getD k 0) (by omega : p ≠ 0)
    have h3' := Int.emod_lt_of_pos (c.getD k 0 * d - t.getD k 0) (by omega : 0 < p)
    have h4 := Int.mul_nonneg h1 h3
    have h5 : btR p r k % p * ((c.getD k 0 * d - t.getD k 0) % p) ≤ 251 * 251 := Int.mul_le_mul (by omega) (by omega) h3 (by omega)
    unfold btS
    omega
/-- The test as the program makes it. -/
theorem bmT_prog (p : Int) (c t : List Int) (n code : Nat) : bmT p c t n code = decide ((btV p ((code : Int) / p) c n * ((code : Int) % p) - btV p ((code : Int) / p) t n) % p = 0) := by
  unfold bmT
  rw [decide_eq_decide, (btS_cg p ((code : Int) / p) ((code : Int) % p) c t n).eq]
def bmOK (p : Int) (c t : List Int) (n tn : Nat) : Bool := elsB p c && (elsB p t && (decide (n = tn) && (decide (n ≤ 4) && decide (pw0 p (n + 1) ≤ 20000))))
def bmN (p : Int) (c t : List Int) (n tn : Nat) : Int := if bmOK p c t n tn then (cntB (bmT p c t n) (pw0 p (n + 1)).toNat : Int) else 0
theorem elsB_get {p : Int} {l : List Int} (h : elsB p l = true) (i : Nat) : 0 ≤ l.getD i 0 ∧ l.getD i 0 ≤ p := by
  obtain ⟨_, p1, _, h2⟩ := elsB_true h
  rw [allB_iff] at h2
  by_cases hi : i < l.length
  · have := h2 _ (getD_mem l i hi); omega
  · have : l.getD i 0 = 0 := by simp [List.getD, hi]
    omega
set_option maxHeartbeats 16000000 in
set_option maxRecDepth 100000 in
theorem BatchMisses_any (p : Int) (ca : Option Addr) (n cc : Nat) (c : List Int) (ta : Option Addr) (tn tc : Nat) (t : List Int) (w : World) (hC : Ints w ca n cc c) (hT : Ints w ta tn tc t) :
    Calls Try.prog 32 #[.int .i64 p, .slice ca n cc, .slice ta tn tc] w fun e w' => e = .returned (.tuple #[.int .i64 (bmN p c t n tn), .bool (bmOK p c t n tn)]) ∧ Below w.heap.size w w' := by
  have C1 := Lib.hid (fun (W : World) (h : Ints W ca n cc c) => areElements_any p ca n cc c W h)
  have C2 := Lib.hid (fun (W : World) (h : Ints W ta tn tc t) => areElements_any p ta tn tc t W h)
  have hcn := hC.le
  have htn := hT.le
  have e3 : ((((n : Nat) : Int) != ((tn : Nat) : Int)) : Bool) = !decide (n = tn) := by rw [Bool.eq_iff_iff]; simp; omega
  have e4 : decide ((n : Int) > 4) = !decide (n ≤ 4) := by rw [Bool.eq_iff_iff]; simp; omega
  have e5 : decide (pw0 p (n + 1) > 20000) = !decide (pw0 p (n + 1) ≤ 20000) := by rw [Bool.eq_iff_iff]; simp
  have HC := Lib.hid (fun h => And.intro (elsB_true (p := p) (l := c) h) (fun i => elsB_get (p := p) (l := c) h i))
  have HT := Lib.hid (fun h => fun i => elsB_get (p := p) (l := t) h i)
  have LC := Lib.hid hC
  have LT := Lib.hid hT
  have HL := Lib.hid (And.intro hC.len hT.len)
  clear hC hT
  unfold bmN bmOK
  generalize elsB p c = b1 at *
  generalize elsB p t = b2 at *
  generalize hb3 : decide (n = tn) = b3 at *
  generalize hb4 : decide (n ≤ 4) = b4 at *
  generalize hb5 : decide (pw0 p (n + 1) ≤ 20000) = b5 at *
  replace hb3 := Lib.hid hb3
  replace hb4 := Lib.hid hb4
  replace hb5 := Lib.hid hb5
















  cases b1
  · simp only [Bool.false_and, Bool.false_eq_true, if_false]

    go_enter Try.func32, Try.ntmps32
    go_wp2_with fail
    refine (C1.out _ (LC.out.below (Below.refl w.heap.size w))).mono ?_
    rintro e w1' ⟨rfl, u_w1'⟩
    have S_w1' := u_w1'.size
    have V_w1' : Below w.heap.size w w1' := (Below.refl w.heap.size w).trans (u_w1'.mono (Below.refl w.heap.size w).size)
    clear u_w1'
    go_wp2
    go_ret2
    exact ⟨rfl, V_w1'⟩
  obtain ⟨⟨_, p1, p2, _⟩, hc⟩ := HC.out rfl
  cases b2
  · simp only [Bool.false_and, Bool.and_false, Bool.false_eq_true, if_false]

    go_enter Try.func32, Try.ntmps32
    go_wp2_with fail
    refine (C1.out _ (LC.out.below (Below.refl w.heap.size w))).mono ?_
    rintro e w1' ⟨rfl, u_w1'⟩
    have S_w1' := u_w1'.size
    have V_w1' : Below w.heap.size w w1' := (Below.refl w.heap.size w).trans (u_w1'.mono (Below.refl w.heap.size w).size)
    clear u_w1'
    go_wp2_with fail
    refine (C2.out _ (LT.out.below V_w1')).mono ?_
    rintro e w2' ⟨rfl, u_w2'⟩
    have S_w2' := u_w2'.size
    have V_w2' : Below w.heap.size w w2' := V_w1'.trans (u_w2'.mono V_w1'.size)
    clear V_w1'
    clear u_w2'
    go_wp2
    go_ret2
    exact ⟨rfl, V_w2'⟩
  have ht := HT.out rfl
  cases b3
  · simp only [Bool.false_and, Bool.and_false, Bool.false_eq_true, if_false]
    simp only [Bool.not_false] at e3

    go_enter Try.func32, Try.ntmps32
    go_wp2_with fail
    refine (C1.out _ (LC.out.below (Below.refl w.heap.size w))).mono ?_
    rintro e w1' ⟨rfl, u_w1'⟩
    have S_w1' := u_w1'.size
    have V_w1' : Below w.heap.size w w1' := (Below.refl w.heap.size w).trans (u_w1'.mono (Below.refl w.heap.size w).size)
    clear u_w1'
    go_wp2_with fail
    refine (C2.out _ (LT.out.below V_w1')).mono ?_
    rintro e w2' ⟨rfl, u_w2'⟩
    have S_w2' := u_w2'.size
    have V_w2' : Below w.heap.size w w2' := V_w1'.trans (u_w2'.mono V_w1'.size)
    clear V_w1'
    clear u_w2'
    go_wp2
    go_ret2
    exact ⟨rfl, V_w2'⟩
  simp only [Bool.not_true] at e3
  obtain rfl : n = tn := of_decide_eq_true hb3.out
  cases b4
  · simp only [Bool.false_and, Bool.and_false, Bool.false_eq_true, if_false]
    have h4 : ¬ n ≤ 4 := of_decide_eq_false hb4.out
    have h4' : ¬ ((n : Int) ≤ 4) := by omega

    go_enter Try.func32, Try.ntmps32
    go_wp2_with fail
    refine (C1.out _ (LC.out.below (Below.refl w.heap.size w))).mono ?_
    rintro e w1' ⟨rfl, u_w1'⟩
    have S_w1' := u_w1'.size
    have V_w1' : Below w.heap.size w w1' := (Below.refl w.heap.size w).trans (u_w1'.mono (Below.refl w.heap.size w).size)
    clear u_w1'
    go_wp2_with fail
    refine (C2.out _ (LT.out.below V_w1')).mono ?_
    rintro e w2' ⟨rfl, u_w2'⟩
    have S_w2' := u_w2'.size
    have V_w2' : Below w.heap.size w w2' := V_w1'.trans (u_w2'.mono V_w1'.size)
    clear V_w1'
    clear u_w2'
    go_wp2
    go_ret2
    exact ⟨rfl, V_w2'⟩
  have h4 : n ≤ 4 := of_decide_eq_true hb4.out
  have h4' : (n : Int) ≤ 4 := by omega
  have hcap := Lib.hid (fun k hk => pw0_cap (p := p) (by omega) p2 k hk)
  replace hc := Lib.hid hc
  replace ht := Lib.hid ht
  simp only [Bool.true_and]
  clear e4

  go_enter Try.func32, Try.ntmps32
  go_wp2_with fail
  refine (C1.out _ (LC.out.below (Below.refl w.heap.size w))).mono ?_
  rintro e w1' ⟨rfl, u_w1'⟩
  have S_w1' := u_w1'.size
  have V_w1' : Below w.heap.size w w1' := (Below.refl w.heap.size w).trans (u_w1'.mono (Below.refl w.heap.size w).size)
  clear u_w1'
  go_wp2_with fail
  refine (C2.out _ (LT.out.below V_w1')).mono ?_
  rintro e w2' ⟨rfl, u_w2'⟩
  have S_w2' := u_w2'.size
  have V_w2' : Below w.heap.size w w2' := V_w1'.trans (u_w2'.mono V_w1'.size)
  clear V_w1'
  clear u_w2'
  go_wp2
  go_loopw [8, 41] (fun u v wr => ∃ k : Nat, k ≤ n ∧ u = .int .i64 (pw0 p (k + 1)) ∧ v = .int .i64 k ∧ w2' = wr) (fun _ v _ => n - (intOf v).toNat)
  case atStart => exact ⟨0, Nat.zero_le _, by simp [pw0], rfl, rfl⟩
  case round =>
    obtain ⟨k, hk, rfl, rfl, rfl⟩ := hrel
    by_cases hlt : k < n
    · have q1 := hcap.out (k + 1) (by omega)
      have q2 := hcap.out (k + 1 + 1) (by omega)
      have q3 : pw0 p (k + 1 + 1) = pw0 p (k + 1) * p := rfl
      have q4 : IntKind.i64.wrap (pw0 p (k + 1) * p) = pw0 p (k + 1) * p := IntWalk.i64_in _ (by omega)
      replace q3 := Lib.hid q3
      go_wp2
      go_roundw
      case rel => exact ⟨k + 1, by omega, v_int (by rw [q3.out]), by go_num, by first | rfl | trivial⟩
      case measure => simp [intOf]; omega
    · obtain rfl : n = k := by omega
      have q1 := hcap.out (n + 1) (by omega)
      cases b5
      · have h5 : ¬ pw0 p (n + 1) ≤ 20000 := of_decide_eq_false hb5.out
        go_wp2
        go_ret2
        exact ⟨by simp, V_w2'⟩
      have h5 : pw0 p (n + 1) ≤ 20000 := of_decide_eq_true hb5.out
      have HV := Lib.hid (fun (r : Int) (h : 0 ≤ r) (j : Nat) => And.intro (btV_rng (p := p) (r := r) (c := c) (by omega) p2 hc.out j) (btV_rng (p := p) (r := r) (c := t) (by omega) p2 ht.out j))
      have HR := Lib.hid (fun (r : Int) (h : 0 ≤ r) (j : Nat) => btR_rng (p := p) (r := r) (by omega) h j)
      have t7 : (p == 0) = false := by simp; omega
      have t8 : (p = 0) = False := by simp; omega
      have V0 := V_w2'
      generalize hall : pw0 p (n + 1) = all at *
      replace hall := Lib.hid hall
      clear e5
      go_wp2
      go_loopw [9, 50] (fun u v wr => ∃ k : Nat, (k : Int) ≤ all ∧ u = .int .i64 (cntB (bmT p c t n) k : Nat) ∧ v = .int .i64 k ∧ Below w.heap.size w wr) (fun _ v _ => all.toNat - (intOf v).toNat)
      case atStart => exact ⟨0, by omega, rfl, rfl, V0⟩
      case round =>
        obtain ⟨k, hk, rfl, rfl, hbel⟩ := hrel
        by_cases hlt : (k : Int) < all
        · have f1 : (k : Int).tmod p = (k : Int) % p := Int.tmod_eq_emod_of_nonneg (by omega)
          have f2 : (k : Int).tdiv p = (k : Int) / p := Int.tdiv_eq_ediv_of_nonneg (by omega)
          have d0 := Int.emod_nonneg (k : Int) (by omega : p ≠ 0)
          have d1 := Int.emod_lt_of_pos (k : Int) (by omega : 0 < p)
          have r0 := Int.ediv_nonneg (show (0 : Int) ≤ (k : Int) by omega) (show (0 : Int) ≤ p by omega)
          have r1 := Int.ediv_le_self p (show (0 : Int) ≤ (k : Int) by omega)
          have hle := cntB_le (bmT p c t n) k
          have HB := Lib.hid (bmT_prog p c t n k)
          generalize (k : Int) % p = d at *
          generalize (k : Int) / p = r at *
          have w1 : IntKind.i64.wrap d = d := IntWalk.i64_in _ (by omega)
          have w2 : IntKind.i64.wrap r = r := IntWalk.i64_in _ (by omega)
          go_wp2
          go_quiet (fail)
          clear f1 f2 w1 w2
          generalize hwq : wr.drewN nq = wq at *
          have hb2 : Below w.heap.size w wq := hwq ▸ (below_drewN hbel nq)
          clear hwq
          go_wp2
          go_loopw [12, 13, 14, 61] (fun e x y v wi => ∃ j : Nat, j ≤ n ∧ e = .int .i64 (btR p r j) ∧ x = .int .i64 (btV p r c j) ∧ y = .int .i64 (btV p r t j) ∧ v = .int .i64 j ∧ Below w.heap.size w wi) (fun _ _ _ v _ => n - (intOf v).toNat)
          case atStart => exact ⟨0, Nat.zero_le _, rfl, rfl, rfl, rfl, hb2⟩
          case round =>
            obtain ⟨j, hj, rfl, rfl, rfl, rfl, hbi⟩ := hrel
            have rR := HR.out r r0 j
            obtain ⟨vc, vt⟩ := HV.out r r0 j
            by_cases hji : j < n
            · have hji' : (j : Int) < (n : Int) := by omega
              obtain ⟨g, o, hca, cc0⟩ := (LC.out.below hbi).at j hji
              obtain ⟨g', o', hta, ct0⟩ := (LT.out.below hbi).at j hji
              subst hca hta
              have hx := hc.out j
              have hy := ht.out j
              have HSc : Hid (btV p r c (j + 1) = btV p r c j + btR p r j % p * c.getD j 0) := Lib.hid rfl
              have HSt : Hid (btV p r t (j + 1) = btV p r t j + btR p r j % p * t.getD j 0) := Lib.hid rfl
              have HSr : Hid (btR p r (j + 1) = btR p r j / p) := Lib.hid rfl
              generalize c.getD j 0 = x at *
              generalize t.getD j 0 = y at *
              generalize btV p r c j = VC at *
              generalize btV p r t j = VT at *
              generalize btR p r j = RR at *
              have f1 : RR.tmod p = RR % p := Int.tmod_eq_emod_of_nonneg rR.1
              have f2 : RR.tdiv p = RR / p := Int.tdiv_eq_ediv_of_nonneg rR.1
              have m0 := Int.emod_nonneg RR (by omega : p ≠ 0)
              have m1 := Int.emod_lt_of_pos RR (by omega : 0 < p)
              have q0 := Int.ediv_nonneg rR.1 (show (0 : Int) ≤ p by omega)
              have q1 := Int.ediv_le_self p rR.1
              generalize RR % p = m at *
              generalize RR / p = Q at *
              have n1 := Int.mul_nonneg m0 hx.1
              have n2 : m * x ≤ 251 * 251 := Int.mul_le_mul (by omega) (by omega) hx.1 (by omega)
              have n3 := Int.mul_nonneg m0 hy.1
              have n4 : m * y ≤ 251 * 251 := Int.mul_le_mul (by omega) (by omega) hy.1 (by omega)
              have w1 : IntKind.i64.wrap m = m := IntWalk.i64_in _ (by omega)
              have w2 : IntKind.i64.wrap Q = Q := IntWalk.i64_in _ (by omega)
              have w3 : IntKind.i64.wrap (m * x) = m * x := IntWalk.i64_in _ (by omega)
              have w4 : IntKind.i64.wrap (m * y) = m * y := IntWalk.i64_in _ (by omega)
              have w5 : IntKind.i64.wrap (VC + m * x) = VC + m * x := IntWalk.i64_in _ (by omega)
              have w6 : IntKind.i64.wrap (VT + m * y) = VT + m * y := IntWalk.i64_in _ (by omega)
              go_wp2
              go_quiet (fail)
              generalize hwi : wr.drewN nq = wi2 at *
              have hb3 : Below w.heap.size w wi2 := hwi ▸ (below_drewN hbi nq)
              clear hwi
              go_wp2
              go_roundw
              case rel => exact ⟨j + 1, by omega, v_int (by rw [HSr.out]), v_int (by rw [HSc.out]), v_int (by rw [HSt.out]), by go_num, hb3⟩
              case measure => simp [intOf]; omega
            · obtain rfl : n = j := by omega
              have hge : ¬ ((n : Int) < (n : Int)) := by omega
              generalize btV p r c n = VC at *
              generalize btV p r t n = VT at *
              generalize btR p r n = RR at *
              have n1 := Int.mul_nonneg vc.1 d0
              have n2 : VC * d ≤ 63001 * 4 * 251 := Int.mul_le_mul (by omega) (by omega) d0 (by omega)
              have w3 : IntKind.i64.wrap (VC * d) = VC * d := IntWalk.i64_in _ (by omega)
              have w4 : IntKind.i64.wrap (VC * d - VT) = VC * d - VT := IntWalk.i64_in _ (by omega)
              by_cases hx : (VC * d - VT) % p = 0
              · have hb : ((VC * d - VT) % p == 0) = true := by simp [hx]
                have HS : Hid (cntB (bmT p c t n) (k + 1) = cntB (bmT p c t n) k + 1) := Lib.hid (by simp only [cntB]; rw [HB.out, decide_eq_true hx]; rfl)
                replace hx := Lib.hid hx
                go_wp2_with (first | (go_at_call 95; refine (mod_same _ _ _ (by omega) (by omega)).mono ?_; rintro e w' ⟨rfl, rfl⟩) | go_in)
                go_roundw
                case rel => exact ⟨k + 1, by omega, v_int (by rw [HS.out]; omega), by go_num, hbi⟩
                case measure => simp [intOf]; omega
              · have hb : ((VC * d - VT) % p == 0) = false := by simp [hx]
                have HS : Hid (cntB (bmT p c t n) (k + 1) = cntB (bmT p c t n) k) := Lib.hid (by simp only [cntB]; rw [HB.out, decide_eq_false hx]; rfl)
                replace hx := Lib.hid hx
                go_wp2_with (first | (go_at_call 95; refine (mod_same _ _ _ (by omega) (by omega)).mono ?_; rintro e w' ⟨rfl, rfl⟩) | go_in)
                go_roundw
                case rel => exact ⟨k + 1, by omega, v_int (by rw [HS.out]), by go_num, hbi⟩
                case measure => simp [intOf]; omega
        · have HE : Hid (all.toNat = k) := Lib.hid (by omega)
          go_wp2
          go_ret2
          exact ⟨ret_2 (v_int (by rw [hall.out, HE.out])) rfl, hbel⟩
set_option maxHeartbeats 16000000 in
set_option maxRecDepth 100000 in
theorem spec_BatchMisses_any (p : Int) (ca : Option Addr) (n cc : Nat) (c : List Int) (ta : Option Addr) (tn tc : Nat) (t : List Int) (w : World) (hC : Ints w ca n cc c) (hT : Ints w ta tn tc t) :
    Calls Try.prog 33 #[.int .i64 p, .slice ca n cc, .slice ta tn tc] w fun e w' => e = .returned (.tuple #[.int .i64 (bmN p c t n tn), .bool (bmOK p c t n tn)]) ∧ Below w.heap.size w w' := by
  have C1 := Lib.hid (fun (W : World) (h : Ints W ca n cc c) => fpIn_any p ca n cc c W h)
  have C2 := Lib.hid (fun (W : World) (h : Ints W ta tn tc t) => l1All_any ta tn tc t 0 (p - 1) W h)
  have hcn := hC.le
  have htn := hT.le
  have e3 : ((((tn : Nat) : Int) != ((n : Nat) : Int)) : Bool) = !decide (n = tn) := by rw [Bool.eq_iff_iff]; simp; omega
  have HC := Lib.hid (fun h => And.intro (elsB_true (p := p) (l := c) h) (fun i => elsB_get (p := p) (l := c) h i))
  have HT := Lib.hid (fun h => fun i => elsB_get (p := p) (l := t) h i)
  have HA : Hid (elsB p c = true → elsB p t = allB t 0 (p - 1)) := Lib.hid (fun h => by unfold elsB; rw [(elsB_true h).1, Bool.true_and])
  have LC := Lib.hid hC
  have LT := Lib.hid hT
  clear hC hT
  unfold bmN bmOK
  generalize elsB p t = b2 at *
  generalize allB t 0 (p - 1) = bx at *
  generalize elsB p c = b1 at *
  generalize hb3 : decide (n = tn) = b3 at *
  generalize hb4 : decide (n ≤ 4) = b4 at *
  generalize hb5 : decide (pw0 p (n + 1) ≤ 20000) = b5 at *
  replace hb3 := Lib.hid hb3
  replace hb4 := Lib.hid hb4
  replace hb5 := Lib.hid hb5
















  cases b1
  · simp only [Bool.false_and, Bool.false_eq_true, if_false]

    go_enter Try.func33, Try.ntmps33
    go_wp2_with fail
    refine (C1.out _ (LC.out.below (Below.refl w.heap.size w))).mono ?_
    rintro e w1' ⟨rfl, q_w1'⟩
    have u_w1' := below_of_quiet q_w1'
    clear q_w1'
    have S_w1' := u_w1'.size
    have V_w1' : Below w.heap.size w w1' := (Below.refl w.heap.size w).trans (u_w1'.mono (Below.refl w.heap.size w).size)
    clear u_w1'
    go_wp2
    go_ret2
    exact ⟨rfl, V_w1'⟩
  obtain ⟨⟨_, p1, p2, _⟩, hc⟩ := HC.out rfl
  obtain rfl := HA.out rfl
  have tp : IntKind.i64.wrap (p - 1) = p - 1 := IntWalk.i64_in _ (by omega)
  cases b2
  · simp only [Bool.false_and, Bool.and_false, Bool.false_eq_true, if_false]

    go_enter Try.func33, Try.ntmps33
    go_wp2_with fail
    refine (C1.out _ (LC.out.below (Below.refl w.heap.size w))).mono ?_
    rintro e w1' ⟨rfl, q_w1'⟩
    have u_w1' := below_of_quiet q_w1'
    clear q_w1'
    have S_w1' := u_w1'.size
    have V_w1' : Below w.heap.size w w1' := (Below.refl w.heap.size w).trans (u_w1'.mono (Below.refl w.heap.size w).size)
    clear u_w1'
    go_wp2_with fail
    refine (C2.out _ (LT.out.below V_w1')).mono ?_
    rintro e w2' ⟨rfl, q_w2'⟩
    have u_w2' := below_of_quiet q_w2'
    clear q_w2'
    have S_w2' := u_w2'.size
    have V_w2' : Below w.heap.size w w2' := V_w1'.trans (u_w2'.mono V_w1'.size)
    clear V_w1'
    clear u_w2'
    go_wp2
    go_ret2
    exact ⟨rfl, V_w2'⟩
  have ht := HT.out rfl
  cases b3
  · simp only [Bool.false_and, Bool.and_false, Bool.false_eq_true, if_false]
    simp only [Bool.not_false] at e3

    go_enter Try.func33, Try.ntmps33
    go_wp2_with fail
    refine (C1.out _ (LC.out.below (Below.refl w.heap.size w))).mono ?_
    rintro e w1' ⟨rfl, q_w1'⟩
    have u_w1' := below_of_quiet q_w1'
    clear q_w1'
    have S_w1' := u_w1'.size
    have V_w1' : Below w.heap.size w w1' := (Below.refl w.heap.size w).trans (u_w1'.mono (Below.refl w.heap.size w).size)
    clear u_w1'
    go_wp2_with fail
    refine (C2.out _ (LT.out.below V_w1')).mono ?_
    rintro e w2' ⟨rfl, q_w2'⟩
    have u_w2' := below_of_quiet q_w2'
    clear q_w2'
    have S_w2' := u_w2'.size
    have V_w2' : Below w.heap.size w w2' := V_w1'.trans (u_w2'.mono V_w1'.size)
    clear V_w1'
    clear u_w2'
    go_wp2
    go_ret2
    exact ⟨rfl, V_w2'⟩
  simp only [Bool.not_true] at e3
  obtain rfl : n = tn := of_decide_eq_true hb3.out
  cases b4
  · simp only [Bool.false_and, Bool.and_false, Bool.false_eq_true, if_false]
    have h4 : ¬ n ≤ 4 := of_decide_eq_false hb4.out
    have h4' : ¬ ((n : Int) ≤ 4) := by omega

    go_enter Try.func33, Try.ntmps33
    go_wp2_with fail
    refine (C1.out _ (LC.out.below (Below.refl w.heap.size w))).mono ?_
    rintro e w1' ⟨rfl, q_w1'⟩
    have u_w1' := below_of_quiet q_w1'
    clear q_w1'
    have S_w1' := u_w1'.size
    have V_w1' : Below w.heap.size w w1' := (Below.refl w.heap.size w).trans (u_w1'.mono (Below.refl w.heap.size w).size)
    clear u_w1'
    go_wp2_with fail
    refine (C2.out _ (LT.out.below V_w1')).mono ?_
    rintro e w2' ⟨rfl, q_w2'⟩
    have u_w2' := below_of_quiet q_w2'
    clear q_w2'
    have S_w2' := u_w2'.size
    have V_w2' : Below w.heap.size w w2' := V_w1'.trans (u_w2'.mono V_w1'.size)
    clear V_w1'
    clear u_w2'
    go_wp2
    go_ret2
    exact ⟨rfl, V_w2'⟩
  have h4 : n ≤ 4 := of_decide_eq_true hb4.out
  have h4' : (n : Int) ≤ 4 := by omega
  have hcap := Lib.hid (fun k hk => pw0_cap (p := p) (by omega) p2 k hk)
  have hmono := Lib.hid (fun j k => pw0_mono (p := p) (by omega) j k)
  replace hc := Lib.hid hc
  replace ht := Lib.hid ht
  simp only [Bool.true_and]

  go_enter Try.func33, Try.ntmps33
  go_wp2_with fail
  refine (C1.out _ (LC.out.below (Below.refl w.heap.size w))).mono ?_
  rintro e w1' ⟨rfl, q_w1'⟩
  have u_w1' := below_of_quiet q_w1'
  clear q_w1'
  have S_w1' := u_w1'.size
  have V_w1' : Below w.heap.size w w1' := (Below.refl w.heap.size w).trans (u_w1'.mono (Below.refl w.heap.size w).size)
  clear u_w1'
  go_wp2_with fail
  refine (C2.out _ (LT.out.below V_w1')).mono ?_
  rintro e w2' ⟨rfl, q_w2'⟩
  have u_w2' := below_of_quiet q_w2'
  clear q_w2'
  have S_w2' := u_w2'.size
  have V_w2' : Below w.heap.size w w2' := V_w1'.trans (u_w2'.mono V_w1'.size)
  clear V_w1'
  clear u_w2'
  go_wp2
  go_loopw [9, 10] (fun u v wr => ∃ k : Nat, k ≤ n + 1 ∧ u = .int .i64 (pw0 p k) ∧ v = .int .i64 k ∧ (k = n + 1 → pw0 p k ≤ 20000) ∧ w2' = wr) (fun _ v _ => n + 1 - (intOf v).toNat)
  case atStart => exact ⟨0, Nat.zero_le _, by simp [pw0], rfl, fun e => absurd e (by omega), rfl⟩
  case round =>
    obtain ⟨k, hk, rfl, rfl, hk5, rfl⟩ := hrel
    replace hk5 := Lib.hid hk5
    by_cases hlt : k ≤ n
    · have hlt' : (k : Int) ≤ (n : Int) := by omega
      have q1 := hcap.out k (by omega)
      have q2 := hcap.out (k + 1) (by omega)
      have q3 : pw0 p (k + 1) = pw0 p k * p := rfl
      have q4 : IntKind.i64.wrap (pw0 p k * p) = pw0 p k * p := IntWalk.i64_in _ (by omega)
      have q5 := hmono.out (k + 1) (n - k)
      rw [show k + 1 + (n - k) = n + 1 by omega] at q5
      replace q3 := Lib.hid q3
      by_cases h5 : pw0 p k * p ≤ 20000
      · go_wp2
        go_roundw
        case rel => exact ⟨k + 1, by omega, v_int (by rw [q3.out]), by go_num, fun _ => by rw [q3.out]; exact h5, by first | rfl | trivial⟩
        case measure => simp [intOf]; omega
      · obtain rfl : b5 = false := by rw [← hb5.out, decide_eq_false_iff_not]; rw [q3.out] at q5; omega
        have h5' : pw0 p k * p > 20000 := by omega
        go_wp2
        go_ret2
        exact ⟨by simp, V_w2'⟩
    · obtain rfl : k = n + 1 := by omega
      have q1 := hcap.out (n + 1) (by omega)
      have h5 : pw0 p (n + 1) ≤ 20000 := hk5.out rfl
      obtain rfl : b5 = true := by rw [← hb5.out, decide_eq_true_iff]; exact h5
      have hlt' : ¬ (((n + 1 : Nat) : Int) ≤ (n : Int)) := by omega
      have HV := Lib.hid (fun (r d : Int) (j : Nat) => btS_rng (p := p) (r := r) (d := d) (c := c) (t := t) (by omega) p2 j)
      have HR := Lib.hid (fun (r : Int) (h : 0 ≤ r) (j : Nat) => btR_rng (p := p) (r := r) (by omega) h j)
      have t7 : (p == 0) = false := by simp; omega
      have t8 : (p = 0) = False := by simp; omega
      have V0 := V_w2'
      generalize hall : pw0 p (n + 1) = all at *
      replace hall := Lib.hid hall
      clear hk5
      go_wp2
      go_loopw [11, 12] (fun u v wr => ∃ k : Nat, (k : Int) ≤ all ∧ u = .int .i64 (cntB (bmT p c t n) k : Nat) ∧ v = .int .i64 k ∧ Below w.heap.size w wr) (fun _ v _ => all.toNat - (intOf v).toNat)
      case atStart => exact ⟨0, by omega, rfl, rfl, V0⟩
      case round =>
        obtain ⟨k, hk, rfl, rfl, hbel⟩ := hrel
        by_cases hlt : (k : Int) < all
        · have f1 : (k : Int).tmod p = (k : Int) % p := Int.tmod_eq_emod_of_nonneg (by omega)
          have f2 : (k : Int).tdiv p = (k : Int) / p := Int.tdiv_eq_ediv_of_nonneg (by omega)
          have d0 := Int.emod_nonneg (k : Int) (by omega : p ≠ 0)
          have d1 := Int.emod_lt_of_pos (k : Int) (by omega : 0 < p)
          have r0 := Int.ediv_nonneg (show (0 : Int) ≤ (k : Int) by omega) (show (0 : Int) ≤ p by omega)
          have r1 := Int.ediv_le_self p (show (0 : Int) ≤ (k : Int) by omega)
          have hle := cntB_le (bmT p c t n) k
          have HB : Hid (bmT p c t n k = decide (btS p ((k : Int) / p) ((k : Int) % p) c t n % p = 0)) := Lib.hid rfl
          generalize (k : Int) % p = d at *
          generalize (k : Int) / p = r at *
          have w1 : IntKind.i64.wrap d = d := IntWalk.i64_in _ (by omega)
          have w2 : IntKind.i64.wrap r = r := IntWalk.i64_in _ (by omega)
          go_wp2
          go_quiet (fail)
          clear f1 f2 w1 w2
          generalize hwq : wr.drewN nq = wq at *
          have hb2 : Below w.heap.size w wq := hwq ▸ (below_drewN hbel nq)
          clear hwq
          go_wp2
          go_loopw [14, 15, 63] (fun e x v wi => ∃ j : Nat, j ≤ n ∧ e = .int .i64 (btR p r j) ∧ x = .int .i64 (btS p r d c t j) ∧ v = .int .i64 j ∧ Below w.heap.size w wi) (fun _ _ v _ => n - (intOf v).toNat)
          case atStart => exact ⟨0, Nat.zero_le _, rfl, rfl, rfl, hb2⟩
          case round =>
            obtain ⟨j, hj, rfl, rfl, rfl, hbi⟩ := hrel
            have rR := HR.out r r0 j
            have vc := HV.out r d j
            by_cases hji : j < n
            · have hji' : (j : Int) < (n : Int) := by omega
              obtain ⟨g, o, hca, cc0⟩ := (LC.out.below hbi).at j hji
              obtain ⟨g', o', hta, ct0⟩ := (LT.out.below hbi).at j hji
              subst hca hta
              have hx := hc.out j
              have hy := ht.out j
              have HSc : Hid (btS p r d c t (j + 1) = btS p r d c t j + btR p r j % p * ((c.getD j 0 * d - t.getD j 0) % p)) := Lib.hid rfl
              have HSr : Hid (btR p r (j + 1) = btR p r j / p) := Lib.hid rfl
              generalize c.getD j 0 = x at *
              generalize t.getD j 0 = y at *
              generalize btS p r d c t j = VC at *
              generalize btR p r j = RR at *
              have f1 : RR.tmod p = RR % p := Int.tmod_eq_emod_of_nonneg rR.1
              have f2 : RR.tdiv p = RR / p := Int.tdiv_eq_ediv_of_nonneg rR.1
              have m0 := Int.emod_nonneg RR (by omega : p ≠ 0)
              have m1 := Int.emod_lt_of_pos RR (by omega : 0 < p)
              have q0 := Int.ediv_nonneg rR.1 (show (0 : Int) ≤ p by omega)
              have q1 := Int.ediv_le_self p rR.1
              generalize RR % p = m at *
              generalize RR / p = Q at *
              have n1 := Int.mul_nonneg hx.1 d0
              have n2 : x * d ≤ 251 * 251 := Int.mul_le_mul (by omega) (by omega) d0 (by omega)
              have n3 := Int.emod_nonneg (x * d - y) (by omega : p ≠ 0)
              have n3' := Int.emod_lt_of_pos (x * d - y) (by omega : 0 < p)
              have w1 : IntKind.i64.wrap m = m := IntWalk.i64_in _ (by omega)
              have w2 : IntKind.i64.wrap Q = Q := IntWalk.i64_in _ (by omega)
              have w3 : IntKind.i64.wrap (x * d) = x * d := IntWalk.i64_in _ (by omega)
              have w4 : IntKind.i64.wrap (x * d - y) = x * d - y := IntWalk.i64_in _ (by omega)
              have CB := Lib.hid (fun W : World => btMod_same (x * d - y) p W (by omega) (by omega))
              generalize (x * d - y) % p = E at *
              have n5 := Int.mul_nonneg m0 n3
              have n6 : m * E ≤ 251 * 251 := Int.mul_le_mul (by omega) (by omega) n3 (by omega)
              have w5 : IntKind.i64.wrap (m * E) = m * E := IntWalk.i64_in _ (by omega)
              have w6 : IntKind.i64.wrap (VC + m * E) = VC + m * E := IntWalk.i64_in _ (by omega)
              go_wp2
              go_quiet ((go_at_call 103; exact Calls.quiet_of_same (CB.out _)))
              generalize hwi : wr.drewN nq = wi2 at *
              have hb3 : Below w.heap.size w wi2 := hwi ▸ (below_drewN hbi nq)
              clear hwi
              go_wp2
              go_roundw
              case rel => exact ⟨j + 1, by omega, v_int (by rw [HSr.out]), v_int (by rw [HSc.out]), by go_num, hb3⟩
              case measure => simp [intOf]; omega
            · obtain rfl : n = j := by omega
              have hge : ¬ ((n : Int) < (n : Int)) := by omega
              generalize btS p r d c t n = VC at *
              generalize btR p r n = RR at *
              have f1 : VC.tmod p = VC % p := Int.tmod_eq_emod_of_nonneg vc.1
              have n3 := Int.emod_nonneg VC (by omega : p ≠ 0)
              have n3' := Int.emod_lt_of_pos VC (by omega : 0 < p)
              have w3 : IntKind.i64.wrap (VC % p) = VC % p := IntWalk.i64_in _ (by omega)
              by_cases hx : VC % p = 0
              · have hb : (VC % p == 0) = true := by simp [hx]
                have HS : Hid (cntB (bmT p c t n) (k + 1) = cntB (bmT p c t n) k + 1) := Lib.hid (by simp only [cntB]; rw [HB.out, decide_eq_true hx]; rfl)
                replace hx := Lib.hid hx
                go_wp2
                go_roundw
                case rel => exact ⟨k + 1, by omega, v_int (by rw [HS.out]; omega), by go_num, hbi⟩
                case measure => simp [intOf]; omega
              · have hb : (VC % p == 0) = false := by simp [hx]
                have HS : Hid (cntB (bmT p c t n) (k + 1) = cntB (bmT p c t n) k) := Lib.hid (by simp only [cntB]; rw [HB.out, decide_eq_false hx]; rfl)
                replace hx := Lib.hid hx
                go_wp2
                go_roundw
                case rel => exact ⟨k + 1, by omega, v_int (by rw [HS.out]), by go_num, hbi⟩
                case measure => simp [intOf]; omega
        · have HE : Hid (all.toNat = k) := Lib.hid (by omega)
          go_wp2
          go_ret2
          exact ⟨ret_2 (v_int (by rw [hall.out, HE.out])) rfl, hbel⟩
end Go.Proofs.Ytjgbhokilagmoaa
