/- FnCopies: the best number of checks is best, the least number of copies keeps the chance, sets are counted. -/
import Derived.Test.YtjgbhokilagmoaaDrawC
import Derived.Test.YtjgbhokilagmoaaChMath
import Derived.Test.YtjgbhokilagmoaaChoose3
import Derived.Test.YtjgbhokilagmoaaMajor
import Derived.Deep.DeepCutAuto
namespace Go.Proofs.Ytjgbhokilagmoaa
open Go.RowKit

def BoolP (w : World) (e : Ending) (w' : World) : Prop := ∃ b : Bool, e = .returned (.bool b) ∧ w = w'
set_option maxHeartbeats 1000000 in
theorem big_any (a : Option Addr) (n c : Nat) (a' : Option Addr) (n' c' : Nat) (w : World) (h : Cod w w.heap.size a n c) (h' : Cod w w.heap.size a' n' c') :
    Calls Try.prog 7 #[.slice a n c, .slice a' n' c'] w (BoolP w) := by
  have m1 := h.1
  have m2 := h.2.1
  have m3 := h'.1
  have m4 := h'.2.1
  unfold maxLen at m2 m4
  have hn : (n : Int) ≤ 9223372036854775807 := by omega
  have hn' : (n' : Int) ≤ 9223372036854775807 := by omega
  clear m1 m2 m3 m4
  by_cases h1 : (n : Int) > 1048576
  · go_enter Try.func7, Try.ntmps7
    go_wp2
    go_ret
    exact ⟨_, rfl, rfl⟩
  · have d1 : decide ((n : Int) > 1048576) = false := by simp; omega
    go_enter Try.func7, Try.ntmps7
    go_wp2
    go_ret
    exact ⟨_, rfl, rfl⟩
theorem lst_some {a d : Int} {k : Int} (hB : lcB a d = true) (hk : lcN a d = k) : (1 ≤ k ∧ k ≤ 40) ∧ lcT a d = bestI k ∧ sgnI (worstN k (bestI k) * d - a * worstD k (bestI k)) ≤ 0 ∧ (1 ≤ a ∧ a ≤ 1000 ∧ 1 ≤ d ∧ d ≤ 1000000) := by
  unfold lcB at hB
  rw [Bool.and_eq_true] at hB
  obtain ⟨h1, h2⟩ := hB
  unfold lcN at hk
  unfold lcT
  rw [if_pos h1] at hk ⊢
  obtain ⟨j, hj⟩ := Option.isSome_iff_exists.1 h2
  rw [hj] at hk ⊢
  simp only at hk ⊢
  subst hk
  unfold lstO at hj
  have hm := List.mem_of_find?_eq_some hj
  have hp := List.find?_some hj
  simp only [List.mem_range] at hm
  unfold lstP at hp
  unfold lcOk at h1
  exact ⟨⟨by omega, by omega⟩, rfl, by simpa using hp, by simpa using h1⟩
theorem wm_yes {n k : Int} (h : 1 ≤ n ∧ n ≤ 40 ∧ 0 ≤ k ∧ k ≤ n - 1) : okC n k = true ∧ wmI n k = worstI n k ∧ wmN n k = worstN n k ∧ wmD n k = worstD n k := by
  have : okC n k = true := by unfold okC; exact decide_eq_true h
  unfold wmI wmN wmD
  rw [if_pos this, if_pos this, if_pos this]
  exact ⟨this, rfl, rfl, rfl⟩
theorem worst_ok {n k : Int} (w : World) (h : 1 ≤ n ∧ n ≤ 40 ∧ 0 ≤ k ∧ k ≤ n - 1) :
    Calls Try.prog 13 #[.int .i64 n, .int .i64 k] w fun e w' => e = .returned (.tuple #[.int .i64 (worstI n k), .int .i64 (worstN n k), .int .i64 (worstD n k), .bool true]) ∧ Below w.heap.size w w' := by
  obtain ⟨h1, h2, h3, h4⟩ := wm_yes h
  have := WorstMajority_any n k w
  rw [h1, h2, h3, h4] at this
  exact this
theorem cmp_ok {a b c d : Int} (w : World) (h : 0 ≤ a ∧ a ≤ 1000000000000 ∧ 0 ≤ c ∧ c ≤ 1000000000000 ∧ 1 ≤ b ∧ b ≤ 1000000000000 ∧ 1 ≤ d ∧ d ≤ 1000000000000) :
    Calls Try.prog 11 #[.int .i64 a, .int .i64 b, .int .i64 c, .int .i64 d] w fun e w' => e = .returned (.tuple #[.int .i64 (sgnI (a * d - c * b)), .bool true]) ∧ Below w.heap.size w w' := by
  obtain ⟨h1, h2⟩ := cmp_yes h
  have := CompareChances_any a b c d w
  rw [h1, h2] at this
  exact this
theorem sets_ok {n k : Int} (w : World) (h : 0 ≤ n ∧ n ≤ 40 ∧ -100 ≤ k ∧ k ≤ 100) :
    Calls Try.prog 48 #[.int .i64 n, .int .i64 k] w fun e w' => e = .returned (.tuple #[.int .i64 (setsI n k), .bool true]) ∧ ∃ m, w' = w.drewN m := by
  have := SetsOf_any n k w
  rw [show setsOfV n k = setsI n k by unfold setsOfV; rw [if_pos h], show setsOfB n k = true from decide_eq_true h] at this
  exact this
set_option maxHeartbeats 16000000 in
set_option maxRecDepth 100000 in
theorem FnCopies_walk (a0 : Option Addr) (n0 c0 : Nat) (a1 : Option Addr) (n1 c1 : Nat) (w : World) (z0 : Cod w w.heap.size a0 n0 c0) (z1 : Cod w w.heap.size a1 n1 c1) :
    Calls Try.prog 5 #[.slice a0 n0 c0, .slice a1 n1 c1] w fun e w' => e = .returned (.bool true) ∧ Below w.heap.size w w' := by

  have Z1 := Lib.hid z1
  go_enter Try.func5, Try.ntmps5
  go_wp2_with fail
  refine (big_any _ _ _ _ _ _ _ z0 z1).mono ?_; rintro e w' ⟨b, rfl, rfl⟩
  clear z1
  cases b
  rotate_left
  · go_wp2
    go_ret
    exact ⟨rfl, Below.refl _ _⟩
  go_wp2_with fail
  refine (DrawBestChecks_any _ _ _ _ z0).mono ?_
  rintro e w1' ⟨n, rfl, u_w1'⟩
  have S_w1' := u_w1'.size
  have V_w1' : Below w.heap.size w w1' := (Below.refl w.heap.size w).trans (u_w1'.mono (Below.refl w.heap.size w).size)
  clear u_w1'
  clear z0
  go_wp2_with fail
  refine (BestChecks_any n _).mono ?_
  rintro e w2' ⟨rfl, u_w2'⟩
  have S_w2' := u_w2'.size
  have V_w2' : Below w.heap.size w w2' := V_w1'.trans (u_w2'.mono V_w1'.size)
  clear V_w1'
  clear u_w2'
  go_wp2_with fail
  refine (spec_BestChecks_any n _).mono ?_
  rintro e w3' ⟨rfl, u_w3'⟩
  have S_w3' := u_w3'.size
  have V_w3' : Below w.heap.size w w3' := V_w2'.trans (u_w3'.mono V_w2'.size)
  clear V_w2'
  clear u_w3'
  have HB : Hid (bcB n = true → (1 ≤ n ∧ n ≤ 40) ∧ bcV n = bestI n) := Lib.hid (fun h => by unfold bcB at h; have h' := of_decide_eq_true h; unfold bcV; rw [if_pos h']; exact ⟨h', rfl⟩)
  generalize bcV n = t at *
  generalize bcB n = ok at *
  go_upto_region 8 with fail
  go_cut [85] (fun q wx => q = .bool (ok && decide (n ≤ 16)) ∧ wx = w3')
  case first => as_aux_lemma =>
    cases ok
    · go_wp2_with fail
      go_meet
      case rel => exact ⟨rfl, rfl⟩
    · go_wp2_with fail
      go_meet
      case rel => exact ⟨rfl, rfl⟩
  case rest => as_aux_lemma =>
    obtain ⟨rfl, rfl⟩ := hcut
    generalize hq : (ok && decide (n ≤ 16)) = q
    have HQ : Hid (q = true → ok = true ∧ n ≤ 16) := Lib.hid (fun h => by rw [h] at hq; simpa using hq)
    clear hq
    go_upto_if 85 with fail
    go_cut [] (fun wx => Below w.heap.size w wx)

    case first => as_aux_lemma =>
      cases q
      · go_wp2_with fail
        go_meet
        case rel => exact V_w3'
      · obtain ⟨hok, hn16⟩ := HQ.out rfl
        obtain ⟨⟨hn1, hn2⟩, ht⟩ := HB.out hok
        subst ht
        clear hok HQ HB
        obtain ⟨N, rfl⟩ : ∃ N : Nat, n = N := ⟨n.toNat, by omega⟩
        have hb0 : 0 ≤ bestI N ∧ bestI N ≤ (N : Int) - 1 := bestI_range N (by omega)
        have wr0 := worst_range N (bestI N) hn1 hn2 hb0.1 hb0.2
        have HM : Hid (∀ k : Int, 0 ≤ k → k ≤ (N : Int) - 1 → sgnI (worstN N (bestI N) * worstD N k - worstN N k * worstD N (bestI N)) ≤ 0 ∧ (sgnI (worstN N (bestI N) * worstD N k - worstN N k * worstD N (bestI N)) = 0 → bestI N ≤ k)) := Lib.hid (fun k h1 h2 => best_min hn1 hn2 h1 h2)
        go_wp2_with fail
        refine (worst_ok _ ⟨hn1, hn2, hb0.1, hb0.2⟩).mono ?_
        rintro e w4' ⟨rfl, u_w4'⟩
        have S_w4' := u_w4'.size
        have V_w4' : Below w.heap.size w w4' := V_w3'.trans (u_w4'.mono V_w3'.size)
        clear V_w3'
        clear u_w4'
        generalize worstN N (bestI N) = bn at *
        generalize worstD N (bestI N) = bd at *
        generalize worstI N (bestI N) = bi at *
        generalize bestI N = best at *
        go_wp2
        go_loopw [14] (fun v wr => ∃ k : Nat, k ≤ N ∧ v = .int .i64 k ∧ Below w.heap.size w wr) (fun v _ => N - (intOf v).toNat)
        case atStart => exact ⟨0, Nat.zero_le _, rfl, V_w4'⟩
        case round =>
          obtain ⟨k, hk, rfl, hV⟩ := hrel
          clear V_w4'

          by_cases hlt : k < N
          · have hk1 : (0 : Int) ≤ (k : Int) := by omega
            have hk2 : (k : Int) ≤ (N : Int) - 1 := by omega
            have wr1 := worst_range N k hn1 hn2 hk1 hk2
            obtain ⟨o1, o2⟩ := HM.out k hk1 hk2
            have hlt' : (k : Int) < (N : Int) := by omega
            go_wp2_with fail
            refine (worst_ok _ ⟨hn1, hn2, hk1, hk2⟩).mono ?_
            rintro e w5' ⟨rfl, u_w5'⟩
            have S_w5' := u_w5'.size
            have V_w5' : Below w.heap.size w w5' := hV.trans (u_w5'.mono hV.size)
            clear hV
            clear u_w5'
            generalize worstN N k = cn at *
            generalize worstD N k = cd at *
            generalize worstI N k = ci at *
            go_wp2_with fail
            refine (cmp_ok _ ⟨wr0.1, wr0.2.1, wr1.1, wr1.2.1, wr0.2.2.1, wr0.2.2.2, wr1.2.2.1, wr1.2.2.2⟩).mono ?_
            rintro e w6' ⟨rfl, u_w6'⟩
            have S_w6' := u_w6'.size
            have V_w6' : Below w.heap.size w w6' := V_w5'.trans (u_w6'.mono V_w5'.size)
            clear V_w5'
            clear u_w6'
            generalize sgnI (bn * cd - cn * bd) = o at *
            have d1 : decide (o > 0) = false := by simp; omega
            by_cases h0 : o = 0
            · subst h0
              have h3 := o2 rfl
              have d2 : decide ((k : Int) < best) = false := by simp; omega
              clear o1 o2
              go_wp2
              go_roundw
              case rel => exact ⟨k + 1, by omega, by go_num, V_w6'⟩
              case measure => simp [intOf]; omega
            · have d3 : ((o == 0) : Bool) = false := by simpa using h0
              clear o2 h0
              go_wp2
              go_roundw
              case rel => exact ⟨k + 1, by omega, by go_num, V_w6'⟩
              case measure => simp [intOf]; omega
          · go_wp2_with fail
            go_meet
            case rel => exact hV

    case rest => as_aux_lemma =>
      clear HB HQ V_w3'

      go_wp2_with fail
      refine (DrawLeastCopies_any _ _ _ _ (Z1.out.belowAll hcut)).mono ?_
      rintro e w7' ⟨x, y, rfl, u_w7'⟩
      have S_w7' := u_w7'.size
      have V_w7' : Below w.heap.size w w7' := hcut.trans (u_w7'.mono hcut.size)
      clear hcut
      clear u_w7'
      go_wp2_with fail
      refine (LeastCopies_any x y _).mono ?_
      rintro e w8' ⟨rfl, u_w8'⟩
      have S_w8' := u_w8'.size
      have V_w8' : Below w.heap.size w w8' := V_w7'.trans (u_w8'.mono V_w7'.size)
      clear V_w7'
      clear u_w8'
      go_wp2_with fail
      refine (spec_LeastCopies_any x y _).mono ?_
      rintro e w9' ⟨rfl, u_w9'⟩
      have S_w9' := u_w9'.size
      have V_w9' : Below w.heap.size w w9' := V_w8'.trans (u_w9'.mono V_w8'.size)
      clear V_w8'
      clear u_w9'
      have HL : Hid (∀ k, lcB x y = true → lcN x y = k → (1 ≤ k ∧ k ≤ 40) ∧ lcT x y = bestI k ∧ sgnI (worstN k (bestI k) * y - x * worstD k (bestI k)) ≤ 0 ∧ (1 ≤ x ∧ x ≤ 1000 ∧ 1 ≤ y ∧ y ≤ 1000000)) := Lib.hid (fun k h1 h2 => lst_some h1 h2)
      generalize lcN x y = cc at *
      generalize lcT x y = ct at *
      generalize lcB x y = cb at *
      go_upto_if 170 with fail
      go_cut [] (fun wx => Below w.heap.size w wx)

      case first => as_aux_lemma =>
        cases cb
        · go_wp2_with fail
          go_meet
          case rel => exact V_w9'
        · obtain ⟨⟨hk1, hk2⟩, ht, ho, hx⟩ := HL.out cc rfl rfl
          subst ht
          clear HL
          obtain ⟨N, rfl⟩ : ∃ N : Nat, cc = N := ⟨cc.toNat, by omega⟩
          have hb0 : 0 ≤ bestI N ∧ bestI N ≤ (N : Int) - 1 := bestI_range N (by omega)
          have wr0 := worst_range N (bestI N) hk1 hk2 hb0.1 hb0.2
          go_wp2_with fail
          refine (worst_ok _ ⟨hk1, hk2, hb0.1, hb0.2⟩).mono ?_
          rintro e w10' ⟨rfl, u_w10'⟩
          have S_w10' := u_w10'.size
          have V_w10' : Below w.heap.size w w10' := V_w9'.trans (u_w10'.mono V_w9'.size)
          clear V_w9'
          clear u_w10'
          generalize worstN N (bestI N) = bn at *
          generalize worstD N (bestI N) = bd at *
          go_wp2_with fail
          refine (cmp_ok _ ⟨wr0.1, wr0.2.1, by omega, by omega, wr0.2.2.1, wr0.2.2.2, by omega, by omega⟩).mono ?_
          rintro e w11' ⟨rfl, u_w11'⟩
          have S_w11' := u_w11'.size
          have V_w11' : Below w.heap.size w w11' := V_w10'.trans (u_w11'.mono V_w10'.size)
          clear V_w10'
          clear u_w11'
          generalize sgnI (bn * y - x * bd) = o at *
          have d1 : decide (o > 0) = false := by simp; omega
          go_wp2_with fail
          go_meet
          case rel => exact V_w11'

      case rest => as_aux_lemma =>
        clear HL V_w9'

        go_wp2_with fail
        refine (DrawSetsOf_any _ _ _ _ (Z1.out.belowAll hcut)).mono ?_
        rintro e w12' ⟨m, k, rfl, u_w12'⟩
        have S_w12' := u_w12'.size
        have V_w12' : Below w.heap.size w w12' := hcut.trans (u_w12'.mono hcut.size)
        clear hcut
        clear u_w12'
        go_wp2_with fail
        refine (SetsOf_any m k _).mono ?_
        rintro e w13' ⟨rfl, q_w13'⟩
        have u_w13' := below_of_quiet q_w13'
        clear q_w13'
        have S_w13' := u_w13'.size
        have V_w13' : Below w.heap.size w w13' := V_w12'.trans (u_w13'.mono V_w12'.size)
        clear V_w12'
        clear u_w13'
        go_wp2_with fail
        refine (spec_SetsOf_any m k _).mono ?_
        rintro e w14' ⟨rfl, q_w14'⟩
        have u_w14' := below_of_quiet q_w14'
        clear q_w14'
        have S_w14' := u_w14'.size
        have V_w14' : Below w.heap.size w w14' := V_w13'.trans (u_w14'.mono V_w13'.size)
        clear V_w13'
        clear u_w14'
        have HS : Hid (setsOfB m k = true → (0 ≤ m ∧ m ≤ 40 ∧ -100 ≤ k ∧ k ≤ 100) ∧ setsOfV m k = setsI m k) := Lib.hid (fun h => by unfold setsOfB at h; have h' := of_decide_eq_true h; unfold setsOfV; rw [if_pos h']; exact ⟨h', rfl⟩)
        generalize setsOfV m k = sv at *
        generalize setsOfB m k = sb at *
        go_upto_region 32 with fail
        go_cut [226] (fun q wx => q = .bool (sb && decide (m > 0)) ∧ wx = w14')
        case first => as_aux_lemma =>
          cases sb
          · go_wp2_with fail
            go_meet
            case rel => exact ⟨rfl, rfl⟩
          · go_wp2_with fail
            go_meet
            case rel => exact ⟨rfl, rfl⟩
        case rest => as_aux_lemma =>
          obtain ⟨rfl, rfl⟩ := hcut
          generalize hq : (sb && decide (m > 0)) = q
          have HQ : Hid (q = true → sb = true ∧ m > 0) := Lib.hid (fun h => by rw [h] at hq; simpa using hq)
          clear hq
          go_upto_if 226 with fail
          go_cut [] (fun wx => Below w.heap.size w wx)

          case first => as_aux_lemma =>
            cases q
            · go_wp2_with fail
              go_meet
              case rel => exact V_w14'
            · obtain ⟨hsb, hm0⟩ := HQ.out rfl
              obtain ⟨⟨g1, g2, g3, g4⟩, ht⟩ := HS.out hsb
              subst ht
              clear hsb HQ HS
              have HP := Lib.hid (setsI_pascal (n := m) (k := k) (by omega) g2)
              by_cases hk : k = -100
              · subst hk

                have HZ : setsI (m - 1) (-100) = setsI m (-100) := by unfold setsI; rw [if_pos (Or.inl (by omega)), if_pos (Or.inl (by omega))]
                replace HZ := Lib.hid HZ
                go_wp2_with fail
                refine (sets_ok _ ⟨by omega, by omega, by omega, by omega⟩).mono ?_
                rintro e w15' ⟨rfl, q_w15'⟩
                have u_w15' := below_of_quiet q_w15'
                clear q_w15'
                have S_w15' := u_w15'.size
                have V_w15' : Below w.heap.size w w15' := V_w14'.trans (u_w15'.mono V_w14'.size)
                clear V_w14'
                clear u_w15'
                rw [HZ.out]
                generalize setsI m (-100) = sm at *
                go_wp2
                go_ret
                exact ⟨rfl, V_w15'⟩

              · have b1 : ((k == -100) : Bool) = false := by simpa using hk

                go_wp2_with fail
                refine (sets_ok _ ⟨by omega, by omega, by omega, by omega⟩).mono ?_
                rintro e w16' ⟨rfl, q_w16'⟩
                have u_w16' := below_of_quiet q_w16'
                clear q_w16'
                have S_w16' := u_w16'.size
                have V_w16' : Below w.heap.size w w16' := V_w14'.trans (u_w16'.mono V_w14'.size)
                clear V_w14'
                clear u_w16'
                go_wp2_with fail
                refine (sets_ok _ ⟨by omega, by omega, by omega, by omega⟩).mono ?_
                rintro e w17' ⟨rfl, q_w17'⟩
                have u_w17' := below_of_quiet q_w17'
                clear q_w17'
                have S_w17' := u_w17'.size
                have V_w17' : Below w.heap.size w w17' := V_w16'.trans (u_w17'.mono V_w16'.size)
                clear V_w16'
                clear u_w17'
                have hs1 := setsI_le (m - 1) k (by omega) (by omega)
                have hs2 := setsI_le (m - 1) (k - 1) (by omega) (by omega)
                generalize setsI (m - 1) k = s1 at *
                generalize setsI (m - 1) (k - 1) = s2 at *
                generalize setsI m k = sm at *
                have bz : ((s1 + s2 != sm) : Bool) = false := by simp [HP.out]
                go_wp2_with fail
                go_meet
                case rel => exact V_w17'


          case rest => as_aux_lemma =>
            clear HS HQ V_w14'

            go_wp2_with fail
            refine (DrawMajorityOf_any _ _ _ _ (Z1.out.belowAll hcut)).mono ?_
            rintro e w18' ⟨la, ln, lc, l, rfl, hl, u_w18'⟩
            have S_w18' := u_w18'.size
            have V_w18' : Below w.heap.size w w18' := hcut.trans (u_w18'.mono hcut.size)
            clear hcut
            clear u_w18'

            go_wp2_with fail
            refine (MajorityOf_any _ _ _ l _ hl).mono ?_
            rintro e w19' ⟨rfl, q_w19'⟩
            have u_w19' := below_of_quiet q_w19'
            clear q_w19'
            replace hl := hl.below u_w19'
            have S_w19' := u_w19'.size
            have V_w19' : Below w.heap.size w w19' := V_w18'.trans (u_w19'.mono V_w18'.size)
            clear V_w18'
            clear u_w19'
            go_wp2_with fail
            refine (spec_MajorityOf_any _ _ _ l _ hl).mono ?_
            rintro e w20' ⟨rfl, q_w20'⟩
            have u_w20' := below_of_quiet q_w20'
            clear q_w20'
            replace hl := hl.below u_w20'
            have S_w20' := u_w20'.size
            have V_w20' : Below w.heap.size w w20' := V_w19'.trans (u_w20'.mono V_w19'.size)
            clear V_w19'
            clear u_w20'
            generalize majV l = mv at *
            generalize majOk l = mo at *
            go_wp2_with fail
            refine (DrawAllBadChance_any _ _ _ _ (Z1.out.belowAll V_w20')).mono ?_
            rintro e w21' ⟨u, v, rfl, u_w21'⟩
            replace hl := hl.below u_w21'
            have S_w21' := u_w21'.size
            have V_w21' : Below w.heap.size w w21' := V_w20'.trans (u_w21'.mono V_w20'.size)
            clear V_w20'
            clear u_w21'
            go_wp2_with fail
            refine (AllBadChance_any u v _).mono ?_
            rintro e w22' ⟨rfl, q_w22'⟩
            have u_w22' := below_of_quiet q_w22'
            clear q_w22'
            replace hl := hl.below u_w22'
            have S_w22' := u_w22'.size
            have V_w22' : Below w.heap.size w w22' := V_w21'.trans (u_w22'.mono V_w21'.size)
            clear V_w21'
            clear u_w22'
            go_wp2_with fail
            refine (spec_AllBadChance_any u v _).mono ?_
            rintro e w23' ⟨rfl, q_w23'⟩
            have u_w23' := below_of_quiet q_w23'
            clear q_w23'
            replace hl := hl.below u_w23'
            have S_w23' := u_w23'.size
            have V_w23' : Below w.heap.size w w23' := V_w22'.trans (u_w23'.mono V_w22'.size)
            clear V_w22'
            clear u_w23'
            generalize allBadN u v = av at *
            generalize allBadD u v = ad at *
            generalize okC u v = ao at *
            go_wp2
            go_ret
            exact ⟨rfl, V_w23'⟩
end Go.Proofs.Ytjgbhokilagmoaa
