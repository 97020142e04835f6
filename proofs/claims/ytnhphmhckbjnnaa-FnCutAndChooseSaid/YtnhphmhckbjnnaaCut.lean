/- FnCutAndChoose: fewer bad copies are missed more often, the worst number is worst, a checked set has its size, chances compare both ways. -/
import Derived.Test.YtnhphmhckbjnnaaDrawK
import Derived.Test.YtnhphmhckbjnnaaChMath
import Derived.Test.YtnhphmhckbjnnaaChoose3
import Derived.Test.YtnhphmhckbjnnaaCks
import Derived.Test.YtnhphmhckbjnnaaSameI
import Derived.Deep.DeepCutAuto
namespace Go.Proofs.Ytnhphmhckbjnnaa
open Go.RowKit

def BoolP (w : World) (e : Ending) (w' : World) : Prop := ∃ b : Bool, e = .returned (.bool b) ∧ w = w'
set_option maxHeartbeats 1000000 in
theorem big_any (a : Option Addr) (n c : Nat) (a' : Option Addr) (n' c' : Nat) (w : World) (h : Cod w w.heap.size a n c) (h' : Cod w w.heap.size a' n' c') :
    Calls Try.prog 5 #[.slice a n c, .slice a' n' c'] w (BoolP w) := by
  have m1 := h.1
  have m2 := h.2.1
  have m3 := h'.1
  have m4 := h'.2.1
  unfold maxLen at m2 m4
  have hn : (n : Int) ≤ 9223372036854775807 := by omega
  have hn' : (n' : Int) ≤ 9223372036854775807 := by omega
  clear m1 m2 m3 m4
  by_cases h1 : (n : Int) > 1048576
  · go_enter Try.func5, Try.ntmps5
    go_wp2
    go_ret
    exact ⟨_, rfl, rfl⟩
  · have d1 : decide ((n : Int) > 1048576) = false := by simp; omega
    go_enter Try.func5, Try.ntmps5
    go_wp2
    go_ret
    exact ⟨_, rfl, rfl⟩
theorem wm_yes {n k : Int} (h : 1 ≤ n ∧ n ≤ 40 ∧ 0 ≤ k ∧ k ≤ n - 1) : okC n k = true ∧ wmI n k = worstI n k ∧ wmN n k = worstN n k ∧ wmD n k = worstD n k := by
  have : okC n k = true := by unfold okC; exact decide_eq_true h
  unfold wmI wmN wmD
  rw [if_pos this, if_pos this, if_pos this]
  exact ⟨this, rfl, rfl, rfl⟩
theorem worst_ok {n k : Int} (w : World) (h : 1 ≤ n ∧ n ≤ 40 ∧ 0 ≤ k ∧ k ≤ n - 1) :
    Calls Try.prog 11 #[.int .i64 n, .int .i64 k] w fun e w' => e = .returned (.tuple #[.int .i64 (worstI n k), .int .i64 (worstN n k), .int .i64 (worstD n k), .bool true]) ∧ Below w.heap.size w w' := by
  obtain ⟨h1, h2, h3, h4⟩ := wm_yes h
  have := WorstMajority_any n k w
  rw [h1, h2, h3, h4] at this
  exact this
theorem cmp_ok {a b c d : Int} (w : World) (h : 0 ≤ a ∧ a ≤ 1000000000000 ∧ 0 ≤ c ∧ c ≤ 1000000000000 ∧ 1 ≤ b ∧ b ≤ 1000000000000 ∧ 1 ≤ d ∧ d ≤ 1000000000000) :
    Calls Try.prog 9 #[.int .i64 a, .int .i64 b, .int .i64 c, .int .i64 d] w fun e w' => e = .returned (.tuple #[.int .i64 (sgnI (a * d - c * b)), .bool true]) ∧ Below w.heap.size w w' := by
  obtain ⟨h1, h2⟩ := cmp_yes h
  have := CompareChances_any a b c d w
  rw [h1, h2] at this
  exact this
theorem missVB_yes {n b k : Int} (h : missVB n b k = true) : (1 ≤ n ∧ n ≤ 40 ∧ 0 ≤ b ∧ b ≤ n ∧ 0 ≤ k ∧ k ≤ n - 1) ∧ missVN n b k = missN n b k ∧ missVD n b k = missD n b k := by
  unfold missVB at h
  rw [Bool.and_eq_true] at h
  have h1 := okC_range h.1
  have h2 := of_decide_eq_true h.2
  unfold missVN missVD
  rw [if_pos ⟨h.1, h2⟩, if_pos ⟨h.1, h2⟩]
  exact ⟨⟨h1.1, h1.2.1, h2.1, h2.2, h1.2.2⟩, rfl, rfl⟩
theorem missVB_of {n b k : Int} (h : 1 ≤ n ∧ n ≤ 40 ∧ 0 ≤ b ∧ b ≤ n ∧ 0 ≤ k ∧ k ≤ n - 1) : missVB n b k = true ∧ missVN n b k = missN n b k ∧ missVD n b k = missD n b k ∧ majVN n b k = majN n b k ∧ majVD n b k = majD n b k := by
  have h1 : okC n k = true := by unfold okC; exact decide_eq_true (by omega)
  have h2 : 0 ≤ b ∧ b ≤ n := by omega
  unfold missVB missVN missVD majVN majVD
  rw [h1, if_pos ⟨rfl, h2⟩, if_pos ⟨rfl, h2⟩, if_pos ⟨rfl, h2⟩, if_pos ⟨rfl, h2⟩]
  exact ⟨by simp [h2], rfl, rfl, rfl, rfl⟩
theorem miss_ok {n b k : Int} (w : World) (h : 1 ≤ n ∧ n ≤ 40 ∧ 0 ≤ b ∧ b ≤ n ∧ 0 ≤ k ∧ k ≤ n - 1) :
    Calls Try.prog 7 #[.int .i64 n, .int .i64 b, .int .i64 k] w fun e w' => e = .returned (.tuple #[.int .i64 (missN n b k), .int .i64 (missD n b k), .bool true]) ∧ ∃ m, w' = w.drewN m := by
  obtain ⟨h1, h2, h3, _, _⟩ := missVB_of h
  have := MissChance_any n b k w
  rw [h1, h2, h3] at this
  exact this
theorem maj_ok {n b k : Int} (w : World) (h : 1 ≤ n ∧ n ≤ 40 ∧ 0 ≤ b ∧ b ≤ n ∧ 0 ≤ k ∧ k ≤ n - 1) :
    Calls Try.prog 13 #[.int .i64 n, .int .i64 b, .int .i64 k] w fun e w' => e = .returned (.tuple #[.int .i64 (majN n b k), .int .i64 (majD n b k), .bool true]) ∧ ∃ m, w' = w.drewN m := by
  obtain ⟨h1, _, _, h2, h3⟩ := missVB_of h
  have := MajorityChance_any n b k w
  rw [h1, h2, h3] at this
  exact this
theorem spec_maj_ok {n b k : Int} (w : World) (h : 1 ≤ n ∧ n ≤ 40 ∧ 0 ≤ b ∧ b ≤ n ∧ 0 ≤ k ∧ k ≤ n - 1) :
    Calls Try.prog 14 #[.int .i64 n, .int .i64 b, .int .i64 k] w fun e w' => e = .returned (.tuple #[.int .i64 (majN n b k), .int .i64 (majD n b k), .bool true]) ∧ ∃ m, w' = w.drewN m := by
  obtain ⟨h1, _, _, h2, h3⟩ := missVB_of h
  have := spec_MajorityChance_any n b k w
  rw [h1, h2, h3] at this
  exact this
theorem cmp_back (a b c d : Int) (w : World) :
    Calls Try.prog 9 #[.int .i64 c, .int .i64 d, .int .i64 a, .int .i64 b] w fun e w' => e = .returned (.tuple #[.int .i64 (-cmpV a b c d), .bool (cmpB a b c d)]) ∧ Below w.heap.size w w' := by
  obtain ⟨h1, h2⟩ := cmp_anti a b c d
  have := CompareChances_any c d a b w
  rw [h1, h2] at this
  exact this
theorem cmpV_bd (a b c d : Int) : -1 ≤ cmpV a b c d ∧ cmpV a b c d ≤ 1 := by
  unfold cmpV
  split
  · exact sgnI_bd _
  · omega
theorem okC_worst {m t : Int} (h : okC m t = true) : (1 ≤ m ∧ m ≤ 40 ∧ 0 ≤ t ∧ t ≤ m - 1) ∧ wmI m t = worstI m t ∧ wmN m t = worstN m t ∧ wmD m t = worstD m t := by
  have h1 := okC_range h
  unfold wmI wmN wmD
  rw [if_pos h, if_pos h, if_pos h]
  exact ⟨h1, rfl, rfl, rfl⟩
theorem ckB_size {key n t : Int} (h : ckB key n t = true) : ((ckL key n t).length : Int) = t := by
  have h2 := ckL_full h
  unfold ckB at h
  rw [Bool.and_eq_true] at h
  have := okC_range h.1
  omega
set_option maxHeartbeats 16000000 in
set_option maxRecDepth 100000 in
theorem FnCutAndChoose_walk (a0 : Option Addr) (n0 c0 : Nat) (a1 : Option Addr) (n1 c1 : Nat) (w : World) (z0 : Cod w w.heap.size a0 n0 c0) (z1 : Cod w w.heap.size a1 n1 c1) :
    Calls Try.prog 3 #[.slice a0 n0 c0, .slice a1 n1 c1] w fun e w' => e = .returned (.bool true) ∧ Below w.heap.size w w' := by

  have Z1 := Lib.hid z1
  go_enter Try.func3, Try.ntmps3
  go_wp2_with fail
  refine (big_any _ _ _ _ _ _ _ z0 z1).mono ?_; rintro e w' ⟨b, rfl, rfl⟩
  clear z1
  cases b
  rotate_left
  · go_wp2
    go_ret
    exact ⟨rfl, Below.refl _ _⟩
  go_wp2_with fail
  refine (DrawMissChance_any _ _ _ _ z0).mono ?_
  rintro e w1' ⟨n, b, k, rfl, u_w1'⟩
  have S_w1' := u_w1'.size
  have V_w1' : Below w.heap.size w w1' := (Below.refl w.heap.size w).trans (u_w1'.mono (Below.refl w.heap.size w).size)
  clear u_w1'
  clear z0
  go_wp2_with fail
  refine (MissChance_any n b k _).mono ?_
  rintro e w2' ⟨rfl, q_w2'⟩
  have u_w2' := below_of_quiet q_w2'
  clear q_w2'
  have S_w2' := u_w2'.size
  have V_w2' : Below w.heap.size w w2' := V_w1'.trans (u_w2'.mono V_w1'.size)
  clear V_w1'
  clear u_w2'
  go_wp2_with fail
  refine (spec_MissChance_any n b k _).mono ?_
  rintro e w3' ⟨rfl, q_w3'⟩
  have u_w3' := below_of_quiet q_w3'
  clear q_w3'
  have S_w3' := u_w3'.size
  have V_w3' : Below w.heap.size w w3' := V_w2'.trans (u_w3'.mono V_w2'.size)
  clear V_w2'
  clear u_w3'
  have HB : Hid (missVB n b k = true → (1 ≤ n ∧ n ≤ 40 ∧ 0 ≤ b ∧ b ≤ n ∧ 0 ≤ k ∧ k ≤ n - 1) ∧ missVN n b k = missN n b k ∧ missVD n b k = missD n b k) := Lib.hid missVB_yes
  generalize missVN n b k = mn at *
  generalize missVD n b k = md at *
  generalize missVB n b k = ok at *
  go_upto_region 6 with fail
  go_cut [111] (fun q wx => q = .bool false ∧ w3' = wx)
  case first => as_aux_lemma =>
    cases ok
    · go_wp2_with fail
      go_meet
      case rel => exact ⟨rfl, rfl⟩
    · obtain ⟨⟨h1, h2, h3, h4, h5, h6⟩, e1, e2⟩ := HB.out rfl
      have m1 := (missN_range n b k h1 h2 h3 h4 h5 h6).1
      have m2 := miss_le (k := k) h2 h3 h4
      rw [← e1] at m1 m2
      rw [← e2] at m2
      clear e1 e2 h1 h2 h3 h4 h5 h6 HB
      have d1 : decide (mn < 0) = false := by simp; omega
      have d2 : decide (mn > md) = false := by simp; omega
      go_wp2_with fail
      go_meet
      case rel => exact ⟨rfl, rfl⟩
  case rest => as_aux_lemma =>
    obtain ⟨rfl, rfl⟩ := hcut
    go_upto_region 8 with fail
    go_cut [117] (fun q wx => q = .bool (ok && decide (b < n)) ∧ w3' = wx)
    case first => as_aux_lemma =>
      cases ok
      · go_wp2_with fail
        go_meet
        case rel => exact ⟨rfl, rfl⟩
      · go_wp2_with fail
        go_meet
        case rel => exact ⟨rfl, rfl⟩
    case rest => as_aux_lemma =>
      obtain ⟨rfl, rfl⟩ := hcut
      generalize hq : (ok && decide (b < n)) = q
      have HQ : Hid (q = true → ok = true ∧ b < n) := Lib.hid (fun h => by rw [h] at hq; simpa using hq)
      clear hq
      go_upto_if 117 with fail
      go_cut [] (fun wx => Below w.heap.size w wx)

      case first => as_aux_lemma =>
        cases q
        · go_wp2_with fail
          go_meet
          case rel => exact V_w3'
        · obtain ⟨hok, hbn⟩ := HQ.out rfl
          obtain ⟨⟨h1, h2, h3, h4, h5, h6⟩, e1, e2⟩ := HB.out hok
          subst e1 e2
          clear hok HQ HB
          have r1 := missN_range n b k h1 h2 h3 h4 h5 h6
          have r2 := missD_range n b k h1 h2 h3 h4 h5 h6
          have r3 := missN_range n (b + 1) k h1 h2 (by omega) (by omega) h5 h6
          have r4 := missD_range n (b + 1) k h1 h2 (by omega) (by omega) h5 h6
          have o1 := miss_step h1 h2 h3 hbn h5 h6
          go_wp2_with fail
          refine (miss_ok _ ⟨h1, h2, by omega, by omega, h5, h6⟩).mono ?_
          rintro e w4' ⟨rfl, q_w4'⟩
          have u_w4' := below_of_quiet q_w4'
          clear q_w4'
          have S_w4' := u_w4'.size
          have V_w4' : Below w.heap.size w w4' := V_w3'.trans (u_w4'.mono V_w3'.size)
          clear V_w3'
          clear u_w4'
          generalize missN n (b + 1) k = cn at *
          generalize missD n (b + 1) k = cd at *
          generalize missN n b k = mn at *
          generalize missD n b k = md at *
          go_wp2_with fail
          refine (cmp_ok _ ⟨r3.1, r3.2, r1.1, r1.2, r4.1, r4.2, r2.1, r2.2⟩).mono ?_
          rintro e w5' ⟨rfl, u_w5'⟩
          have S_w5' := u_w5'.size
          have V_w5' : Below w.heap.size w w5' := V_w4'.trans (u_w5'.mono V_w4'.size)
          clear V_w4'
          clear u_w5'
          generalize sgnI (cn * md - mn * cd) = o at *
          have d1 : decide (o > 0) = false := by simp; omega
          clear o1
          go_wp2_with fail
          go_meet
          case rel => exact V_w5'

      case rest => as_aux_lemma =>
        clear HB HQ V_w3'

        go_wp2_with fail
        refine (DrawWorstMajority_any _ _ _ _ (Z1.out.belowAll hcut)).mono ?_
        rintro e w6' ⟨m, t, rfl, u_w6'⟩
        have S_w6' := u_w6'.size
        have V_w6' : Below w.heap.size w w6' := hcut.trans (u_w6'.mono hcut.size)
        clear hcut
        clear u_w6'
        go_wp2_with fail
        refine (WorstMajority_any m t _).mono ?_
        rintro e w7' ⟨rfl, u_w7'⟩
        have S_w7' := u_w7'.size
        have V_w7' : Below w.heap.size w w7' := V_w6'.trans (u_w7'.mono V_w6'.size)
        clear V_w6'
        clear u_w7'
        go_wp2_with fail
        refine (spec_WorstMajority_any m t _).mono ?_
        rintro e w8' ⟨rfl, u_w8'⟩
        have S_w8' := u_w8'.size
        have V_w8' : Below w.heap.size w w8' := V_w7'.trans (u_w8'.mono V_w7'.size)
        clear V_w7'
        clear u_w8'
        have HW : Hid (okC m t = true → (1 ≤ m ∧ m ≤ 40 ∧ 0 ≤ t ∧ t ≤ m - 1) ∧ wmI m t = worstI m t ∧ wmN m t = worstN m t ∧ wmD m t = worstD m t) := Lib.hid okC_worst
        generalize wmI m t = bi at *
        generalize wmN m t = bn at *
        generalize wmD m t = bd at *
        generalize okC m t = one at *
        go_upto_if 182 with fail
        go_cut [] (fun wx => Below w.heap.size w wx)

        case first => as_aux_lemma =>
          cases one
          · go_wp2_with fail
            go_meet
            case rel => exact V_w8'
          · obtain ⟨⟨h1, h2, h3, h4⟩, e1, e2, e3⟩ := HW.out rfl
            clear HW
            obtain ⟨N, rfl⟩ : ∃ N : Nat, m = N := ⟨m.toNat, by omega⟩
            have wr0 := worst_range N t h1 h2 h3 h4
            have HM : Hid (∀ j : Int, 0 ≤ j → j ≤ (N : Int) → sgnI (majN N j t * worstD N t - worstN N t * majD N j t) ≤ 0 ∧ (sgnI (majN N j t * worstD N t - worstN N t * majD N j t) = 0 → worstI N t ≤ j)) := Lib.hid (fun j g1 g2 => worst_max h1 h2 h3 h4 g1 g2)
            rw [← e1, ← e2, ← e3] at HM
            rw [← e2, ← e3] at wr0
            clear e1 e2 e3
            go_wp2
            go_loopw [29] (fun v wr => ∃ k : Nat, k ≤ N + 1 ∧ v = .int .i64 k ∧ Below w.heap.size w wr) (fun v _ => N + 1 - (intOf v).toNat)
            case atStart => exact ⟨0, Nat.zero_le _, rfl, V_w8'⟩
            case round =>
              obtain ⟨k, hk, rfl, hV⟩ := hrel
              clear V_w8'

              by_cases hlt : (k : Int) ≤ (N : Int)
              · have hk1 : (0 : Int) ≤ (k : Int) := by omega
                have wn := majN_range N k t h1 h2 hk1 hlt h3 h4
                have wd := majD_range N k t h1 h2 hk1 hlt h3 h4
                obtain ⟨o1, o2⟩ := HM.out k hk1 hlt
                go_wp2_with fail
                refine (maj_ok _ ⟨h1, h2, hk1, hlt, h3, h4⟩).mono ?_
                rintro e w9' ⟨rfl, q_w9'⟩
                have u_w9' := below_of_quiet q_w9'
                clear q_w9'
                have S_w9' := u_w9'.size
                have V_w9' : Below w.heap.size w w9' := hV.trans (u_w9'.mono hV.size)
                clear hV
                clear u_w9'
                go_wp2_with fail
                refine (spec_maj_ok _ ⟨h1, h2, hk1, hlt, h3, h4⟩).mono ?_
                rintro e w10' ⟨rfl, q_w10'⟩
                have u_w10' := below_of_quiet q_w10'
                clear q_w10'
                have S_w10' := u_w10'.size
                have V_w10' : Below w.heap.size w w10' := V_w9'.trans (u_w10'.mono V_w9'.size)
                clear V_w9'
                clear u_w10'
                generalize majN N k t = cn at *
                generalize majD N k t = cd at *
                go_wp2_with fail
                refine (cmp_ok _ ⟨wn.1, wn.2, wr0.1, wr0.2.1, wd.1, wd.2, wr0.2.2.1, wr0.2.2.2⟩).mono ?_
                rintro e w11' ⟨rfl, u_w11'⟩
                have S_w11' := u_w11'.size
                have V_w11' : Below w.heap.size w w11' := V_w10'.trans (u_w11'.mono V_w10'.size)
                clear V_w10'
                clear u_w11'
                generalize sgnI (cn * bd - bn * cd) = o at *
                have d1 : decide (o > 0) = false := by simp; omega
                by_cases h0 : o = 0
                · subst h0
                  have h3 := o2 rfl
                  have d2 : decide ((k : Int) < bi) = false := by simp; omega
                  clear o1 o2
                  go_wp2
                  go_roundw
                  case rel => exact ⟨k + 1, by omega, by go_num, V_w11'⟩
                  case measure => simp [intOf]; omega
                · have d3 : ((o == 0) : Bool) = false := by simpa using h0
                  clear o1 o2 h0
                  go_wp2
                  go_roundw
                  case rel => exact ⟨k + 1, by omega, by go_num, V_w11'⟩
                  case measure => simp [intOf]; omega
              · go_wp2_with fail
                go_meet
                case rel => exact hV

        case rest => as_aux_lemma =>
          clear HW V_w8'

          go_wp2_with fail
          refine (DrawCaughtBy_any _ _ _ _ (Z1.out.belowAll hcut)).mono ?_
          rintro e w12' ⟨p, ca, cn, cc, cl, ka, kn, kc, kl, rfl, hc, hk, u_w12'⟩
          have S_w12' := u_w12'.size
          have V_w12' : Below w.heap.size w w12' := hcut.trans (u_w12'.mono hcut.size)
          clear hcut
          clear u_w12'

          go_wp2_with fail
          refine (CaughtBy_any p _ _ _ cl _ _ _ kl _ hc hk).mono ?_
          rintro e w13' ⟨rfl, u_w13'⟩
          replace hc := hc.below u_w13'
          replace hk := hk.below u_w13'
          have S_w13' := u_w13'.size
          have V_w13' : Below w.heap.size w w13' := V_w12'.trans (u_w13'.mono V_w12'.size)
          clear V_w12'
          clear u_w13'
          go_wp2_with fail
          refine (spec_CaughtBy_any p _ _ _ cl _ _ _ kl _ hc hk).mono ?_
          rintro e w14' ⟨rfl, q_w14'⟩
          have u_w14' := below_of_quiet q_w14'
          clear q_w14'
          replace hc := hc.below u_w14'
          replace hk := hk.below u_w14'
          have S_w14' := u_w14'.size
          have V_w14' : Below w.heap.size w w14' := V_w13'.trans (u_w14'.mono V_w13'.size)
          clear V_w13'
          clear u_w14'
          clear hc
          clear hk
          generalize caughtV p cl kl = cv at *
          generalize caughtB p cl kl = cb at *
          go_wp2_with fail
          refine (DrawCheckedSet_any _ _ _ _ (Z1.out.belowAll V_w14')).mono ?_
          rintro e w15' ⟨key, u, v, rfl, u_w15'⟩
          have S_w15' := u_w15'.size
          have V_w15' : Below w.heap.size w w15' := V_w14'.trans (u_w15'.mono V_w14'.size)
          clear V_w14'
          clear u_w15'
          go_wp2_with fail
          refine (CheckedSet_any key u v _).mono ?_
          rintro e w16' ⟨sa, sn, sc, rfl, so, u_w16'⟩
          have S_w16' := u_w16'.size
          have V_w16' : Below w.heap.size w w16' := V_w15'.trans (u_w16'.mono V_w15'.size)
          clear V_w15'
          clear u_w16'

          go_wp2_with fail
          refine (spec_CheckedSet_any key u v _).mono ?_
          rintro e w17' ⟨ta, tn, tc, rfl, uo, u_w17'⟩
          replace so := so.below u_w17'
          have S_w17' := u_w17'.size
          have V_w17' : Below w.heap.size w w17' := V_w16'.trans (u_w17'.mono V_w16'.size)
          clear V_w16'
          clear u_w17'

          have HS : Hid (ckB key u v = true → (tn : Int) = v) := Lib.hid (fun h => by rw [uo.len]; exact ckB_size h)
          have HT := uo.ints.le
          generalize ckB key u v = five at *
          go_upto_region 37 with fail
          go_cut [310] (fun q wx => q = .bool false ∧ Below w.heap.size w wx)

          case first => as_aux_lemma =>
            cases five

            · go_wp2_with fail
              refine (sameInts_same _ _ _ _ _ _ _ _ so.ints uo.ints).mono ?_
              rintro e w18' ⟨rfl, q_w18'⟩
              have u_w18' := below_of_quiet q_w18'
              clear q_w18'
              replace so := so.below u_w18'
              replace uo := uo.below u_w18'
              have S_w18' := u_w18'.size
              have V_w18' : Below w.heap.size w w18' := V_w17'.trans (u_w18'.mono V_w17'.size)
              clear V_w17'
              clear u_w18'
              go_wp2_with fail
              go_meet
              case rel => exact ⟨rfl, V_w18'⟩

            · have e1 := HS.out rfl
              subst e1
              go_wp2_with fail
              refine (sameInts_same _ _ _ _ _ _ _ _ so.ints uo.ints).mono ?_
              rintro e w19' ⟨rfl, q_w19'⟩
              have u_w19' := below_of_quiet q_w19'
              clear q_w19'
              replace so := so.below u_w19'
              replace uo := uo.below u_w19'
              have S_w19' := u_w19'.size
              have V_w19' : Below w.heap.size w w19' := V_w17'.trans (u_w19'.mono V_w17'.size)
              clear V_w17'
              clear u_w19'
              go_wp2_with fail
              go_meet
              case rel => exact ⟨rfl, V_w19'⟩

          case rest => as_aux_lemma =>
            clear V_w17' HS HT
            obtain ⟨rfl, hcut⟩ := hcut
            clear so
            clear uo

            go_wp2_with fail
            refine (DrawCompareChances_any _ _ _ _ (Z1.out.belowAll hcut)).mono ?_
            rintro e w20' ⟨e, f, g, h, rfl, u_w20'⟩
            have S_w20' := u_w20'.size
            have V_w20' : Below w.heap.size w w20' := hcut.trans (u_w20'.mono hcut.size)
            clear hcut
            clear u_w20'
            have hb := cmpV_bd e f g h
            go_wp2_with fail
            refine (CompareChances_any e f g h _).mono ?_
            rintro e w21' ⟨rfl, u_w21'⟩
            have S_w21' := u_w21'.size
            have V_w21' : Below w.heap.size w w21' := V_w20'.trans (u_w21'.mono V_w20'.size)
            clear V_w20'
            clear u_w21'
            go_wp2_with fail
            refine (spec_CompareChances_any e f g h _).mono ?_
            rintro e w22' ⟨rfl, u_w22'⟩
            have S_w22' := u_w22'.size
            have V_w22' : Below w.heap.size w w22' := V_w21'.trans (u_w22'.mono V_w21'.size)
            clear V_w21'
            clear u_w22'
            go_wp2_with fail
            refine (cmp_back e f g h _).mono ?_
            rintro e w23' ⟨rfl, u_w23'⟩
            have S_w23' := u_w23'.size
            have V_w23' : Below w.heap.size w w23' := V_w22'.trans (u_w23'.mono V_w22'.size)
            clear V_w22'
            clear u_w23'
            generalize cmpV e f g h = cv at *
            generalize cmpB e f g h = cb at *
            have w1 : IntKind.i64.wrap (-cv) = -cv := IntWalk.i64_in _ (by omega)
            go_wp2
            go_ret
            exact ⟨rfl, V_w23'⟩
end Go.Proofs.Ytnhphmhckbjnnaa
