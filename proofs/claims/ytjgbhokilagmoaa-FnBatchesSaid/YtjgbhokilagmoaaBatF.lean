/- Draws of tagged values. -/
import Derived.Test.YtjgbhokilagmoaaAppT
import Derived.Test.YtjgbhokilagmoaaCurB
import Derived.Test.YtjgbhokilagmoaaDigest
import Derived.Deep.DeepCutAuto
namespace Go.Proofs.Ytjgbhokilagmoaa
open Go.RowKit
def TgP (w : World) (g k : Nat) (e : Ending) (w' : World) : Prop := ∃ (v t : Int) (k' : Nat), e = .returned (.agg #[.int .i64 v, .int .i64 t]) ∧ (-1000000 ≤ v ∧ v ≤ 1000000) ∧ (-1000000 ≤ t ∧ t ≤ 1000000) ∧ k' ≤ k + 8 ∧ Cur w' g k' ∧ Only [g] w w'
theorem OwnF.cur {k e : Nat} {w1 w2 : World} {g b : Nat} {a : Option Addr} {n c : Nat} {l : List Int} (h : OwnF k e w1 b a n c l) (ho : Only [g] w1 w2) (hb : g < b) : OwnF k e w2 b a n c l :=
  h.only ho (fun q hq hq' => by have := h.feet q hq; simp at hq'; omega)
set_option maxHeartbeats 4000000 in
theorem tagged_any (g k : Nat) (p : Int) (w : World) (h : Cur w g k) (hk : k ≤ 700000000000000) (hp : -1000000 ≤ p ∧ p ≤ 1000000) :
    Calls Try.prog 105 #[.pointer (some ⟨g, 0, none⟩), .int .i64 p] w (TgP w g k) := by
  have hg := h.lt


  go_enter Try.func105, Try.ntmps105
  go_upto_region 1 with fail
  refine Exists.elim (Blk.new_ w (b := w.heap.size) rfl 52 #[.int .i64 0, .int .i64 0]) (fun w1' q => ?_)
  rw [q.1]; have B_r := q.2.1; have s_w1' := q.2.2.1; have u_w1' := q.2.2.2; clear q
  have C_w1' := h.below u_w1'
  have S_w1' : w.heap.size + 1 ≤ w1'.heap.size := Nat.le_of_eq s_w1'.symm
  have V_w1' := (Only.refl [g] w).trans (Only.of_below u_w1')
  clear u_w1' s_w1'
  go_wp2_with fail
  refine (element_any g _ p _ C_w1' (by omega) hp).mono ?_
  rintro e w2' ⟨v, k_w2', rfl, v0, v1, q_w2', C_w2', o_w2'⟩
  have V_w2' := V_w1'.trans o_w2'
  replace B_r := B_r.only o_w2' (by simp; omega)
  have S_w2' := o_w2'.size
  clear o_w2' V_w1'
  go_wp2_with fail
  refine (element_any g _ p _ C_w2' (by omega) hp).mono ?_
  rintro e w3' ⟨t, k_w3', rfl, t0, t1, q_w3', C_w3', o_w3'⟩
  have V_w3' := V_w2'.trans o_w3'
  replace B_r := B_r.only o_w3' (by simp; omega)
  have S_w3' := o_w3'.size
  clear o_w3' V_w2'
  have e_r := B_r.all2
  have f_r := B_r.frz2
  go_wp2
  clear e_r f_r
  refine Exists.elim (B_r.row2 (.int .i64 v) (.int .i64 t)) (fun w4' q => ?_)
  rw [q.1]; replace B_r := q.2.1; have G := q.2.2; clear q
  have V_w4' : Only [g] w w4' := (V_w3').thn G (fun q hq => Or.inl (by have := (V_w3').size; simp at hq; omega))
  have C_w4'_0 : Cur w4' g _ := C_w3'.only G (fun q hq => by simp at hq; omega)
  have sG0 := G.size
  clear G
  clear V_w3'
  have S_w4' : w3'.heap.size + 0 ≤ w4'.heap.size := by omega
  clear sG0
  have e_r := B_r.all2
  exact bodyPost_ret (v := .agg #[.int .i64 v, .int .i64 t]) (by simp [results, Try.results105, go_sem, e_r]) rfl ⟨v, t, _, rfl, ⟨v0, v1⟩, ⟨t0, t1⟩, by omega, C_w4'_0, V_w4'⟩
theorem row_tg1 (w : World) (v t : Int) : RowC (w.alloc (.cells #[.int .i64 v, .int .i64 t] 52)) (some ⟨w.heap.size, 0, none⟩) 1 1 2 ([v, t].map (Value.int .i64)) :=
  (OwnC.lit w 0 1 52 2 [.int .i64 v, .int .i64 t] (Nat.zero_le _) rfl (by simp [maxLen])).row
def TgsP (w : World) (g k : Nat) (e : Ending) (w' : World) : Prop := ∃ (p d : Int) (ka : Option Addr) (kn kc : Nat) (keys : List Int) (la : Option Addr) (n lc : Nat) (L : List Int) (k' : Nat), e = .returned (.tuple #[.int .i64 p, .int .i64 d, .slice ka kn kc, .slice la n lc]) ∧ (-1000000 ≤ p ∧ p ≤ 1000000) ∧ n ≤ 100 ∧ Own w' w.heap.size ka kn kc keys ∧ OwnF 2 52 w' w.heap.size la n lc L ∧ k' ≤ k + 1000 ∧ Cur w' g k' ∧ Only [g] w w'
set_option maxHeartbeats 16000000 in
set_option maxRecDepth 100000 in
theorem tags_any (g k : Nat) (w : World) (h : Cur w g k) (hk : k ≤ 600000000000000) :
    Calls Try.prog 91 #[.pointer (some ⟨g, 0, none⟩)] w (TgsP w g k) := by
  have hg := h.lt


  go_enter Try.func91, Try.ntmps91
  go_wp2_with fail
  refine (anyPrime_any g _ _ h (by omega)).mono ?_
  rintro e w1' ⟨p, k_w1', rfl, p0, p1, q_w1', C_w1', o_w1'⟩
  have V_w1' := (Only.refl [g] w).trans o_w1'
  have S_w1' := o_w1'.size
  clear o_w1' 
  go_wp2_with fail
  refine (element_any g _ p _ C_w1' (by omega) (by omega)).mono ?_
  rintro e w2' ⟨d, k_w2', rfl, d0, d1, q_w2', C_w2', o_w2'⟩
  have V_w2' := V_w1'.trans o_w2'
  have S_w2' := o_w2'.size
  clear o_w2' V_w1'
  go_wp2_with fail
  refine (pick_any g _ 6 _ C_w2' (by omega)).mono ?_
  rintro e w3' ⟨n, k_w3', rfl, n0, n1, n2, q_w3', C_w3', o_w3'⟩
  have V_w3' := V_w2'.trans o_w3'
  have S_w3' := o_w3'.size
  clear o_w3' V_w2'
  go_wp2_with fail
  refine (one_any g _ 24 _ C_w3' (by omega)).mono ?_
  rintro e w4' ⟨b, k_w4', rfl, q_w4', C_w4', o_w4'⟩
  have V_w4' := V_w3'.trans o_w4'
  have S_w4' := o_w4'.size
  clear o_w4' V_w3'
  have n3 : n ≤ 6 := by omega
  clear n1 n2
  go_upto_if 21 with fail
  go_cut [10] (fun v wx => ∃ (N : Int) (kN : Nat), v = .int .i64 N ∧ 0 ≤ N ∧ N ≤ 22 ∧ kN ≤ k + 100 ∧ Cur wx g kN ∧ Only [g] w wx)

  case first => as_aux_lemma =>
    cases b
    · go_wp2_with fail
      go_meet
      case rel => exact ⟨n, _, rfl, n0, by omega, by omega, C_w4', V_w4'⟩
    · go_wp2_with fail
      refine (pick_any g _ 2 _ C_w4' (by omega)).mono ?_
      rintro e w5' ⟨m, k_w5', rfl, m0, m1, m2, q_w5', C_w5', o_w5'⟩
      have V_w5' := V_w4'.trans o_w5'
      have S_w5' := o_w5'.size
      clear o_w5' V_w4'
      have m3 : m ≤ 2 := by omega
      clear m1 m2
      go_wp2_with fail
      go_meet
      case rel => exact ⟨20 + m, _, rfl, by omega, by omega, by omega, C_w5', V_w5'⟩

  case rest => as_aux_lemma =>
    obtain ⟨N, kN, rfl, N0, N1, hkN, hc, hO⟩ := hcut
    go_wp2
    go_loopw [10, 8, 9] (fun v x y wr => ∃ i : Nat, (i : Int) ≤ N ∧ v = .int .i64 (N - i) ∧ ∃ (a : Option Addr) (c : Nat) (l : List Int) (la : Option Addr) (lc : Nat) (L : List Int) (kk : Nat), x = .slice a i c ∧ y = .slice la i lc ∧ Own wr w.heap.size a i c l ∧ OwnF 2 52 wr w.heap.size la i lc L ∧ Disj (foot a c) (foot la lc) ∧ kk ≤ kN + 8 * i ∧ Cur wr g kk ∧ Only [g] w wr) (fun v _ _ _ => (intOf v).toNat)
    case atStart => exact ⟨0, by omega, by simp, none, 0, [], none, 0, [], kN, rfl, rfl, Own.nil0 _ _ _, OwnC.nil0 _ _ _ _ _, fun q hq => by simp [foot, rowOf] at hq, by omega, hc, hO⟩
    case round =>
      obtain ⟨i, hi, rfl, a, c, l, la, lc, L, kk, rfl, rfl, rk, rl, hD, hkk, hc, hO⟩ := hrel
      replace hD := Lib.hid hD
      by_cases hlt : N - (i : Int) > 0
      · go_wp2_with fail
        refine (element_any g kk p _ hc (by omega) (by omega)).mono ?_; rintro e w2 ⟨x, k2, rfl, x0, x1, q2, c2, o2⟩
        replace rk := rk.cur o2 hg
        replace rl := rl.cur o2 hg
        have hO2 := hO.trans o2
        clear hO hc o2
        go_wp2_with fail
        refine (element_any g k2 p _ c2 (by omega) (by omega)).mono ?_; rintro e w3 ⟨y, k3, rfl, y0, y1, q3, c3, o3⟩
        replace rk := rk.cur o3 hg
        replace rl := rl.cur o3 hg
        have hO3 := hO2.trans o3
        clear hO2 c2 o3
        have S3 := hO3.size
        go_wp2_with (at_builtin; refine wpList_appJ _ rfl _ _ rfl w.heap.size a i c l rfl (rk.alloc _) _ 1 1 [x] rfl (Ints.lit1 _ _ _) (by omega) (by simp; omega) ?_)
        intro a5 c5 w5 rk5 u5 g5 mv5
        obtain ⟨wA, hwA⟩ : ∃ q, q = w3.alloc (.cells #[.int .i64 x] 3) := ⟨_, rfl⟩
        rw [← hwA] at u5 g5 mv5
        have GA : Below w3.heap.size w3 wA := by rw [hwA]; exact (Below.refl _ _).alloc (Nat.le_refl _) _
        clear hwA
        have GM : Only (foot a c) wA w5 := Only.of_grown g5
        have Fk := Lib.hid rk.feet
        have Fl := Lib.hid rl.feet
        replace rl := (rl.below GA).only GM (fun q hq hq' => hD.out q hq' hq)
        have c5' := (c3.below GA).only GM (fun q hq => by have := Fk.out q hq; omega)
        have hO5 := (hO3.trans (Only.of_below GA)).thn GM (fun q hq => by have := Fk.out q hq; omega)
        have hD5 : Hid (Disj (foot a5 c5) (foot la lc)) := Lib.hid (mv5.disj hD.out (fun q hq => by have := Fl.out q hq; have := GA.size; omega))
        clear GM GA u5 g5 mv5 rk hO3 c3 S3
        have S5 := hO5.size
        have m1 : -1000000000000 ≤ y * d ∧ y * d ≤ 1000000000000 := by
          have h1 := Int.natAbs_mul y d
          have h2 : y.natAbs * d.natAbs ≤ 1000000 * 1000000 := Nat.mul_le_mul (by omega) (by omega)
          omega
        have w1 : IntKind.i64.wrap (y * d) = y * d := IntWalk.i64_in _ (by omega)
        have w2 : IntKind.i64.wrap (y * d + x) = y * d + x := IntWalk.i64_in _ (by omega)
        go_wp2_with fail
        refine (l1Most_any p 1 _).mono ?_; rintro e w6 ⟨rfl, q6⟩
        have u6 := below_of_quiet q6
        clear q6
        replace rk5 := rk5.below u6
        replace rl := rl.below u6
        have c6 := c5'.below u6
        have hO6 := hO5.trans (Only.of_below u6)
        clear c5' hO5 u6 S5
        have S6 := hO6.size
        go_wp2_with fail
        refine (btMod_same (y * d + x) (max p 1) _ (by omega) (by omega)).mono ?_; rintro e w7 ⟨rfl, rfl⟩
        clear m1 w1 w2
        generalize (y * d + x) % max p 1 = tg
        go_wp2_with (at_builtin; refine wpList_appTg rfl _ _ rfl w.heap.size la i lc (L.map (Value.int .i64)) rfl (rl.alloc _) _ 1 1 ([y, tg].map (Value.int .i64)) rfl (row_tg1 _ _ _) (fun v hv => by simp only [List.map_cons, List.map_nil, List.mem_cons, List.not_mem_nil, or_false] at hv; rcases hv with rfl | rfl <;> rfl) (by omega) (by simp; omega) ?_)
        intro a7 c7 w8 rl7 u7 g7 mv7
        obtain ⟨wA, hwA⟩ : ∃ q, q = w7.alloc (.cells #[.int .i64 y, .int .i64 tg] 52) := ⟨_, rfl⟩
        rw [← hwA] at u7 g7 mv7
        have GA : Below w7.heap.size w7 wA := by rw [hwA]; exact (Below.refl _ _).alloc (Nat.le_refl _) _
        clear hwA
        have GM : Only (foot la lc) wA w8 := Only.of_grown g7
        have Fk5 := Lib.hid rk5.feet
        have Fl5 := Lib.hid rl.feet
        replace rk5 := (rk5.below GA).only GM (fun q hq hq' => hD5.out q hq hq')
        have c8 := (c6.below GA).only GM (fun q hq => by have := Fl5.out q hq; omega)
        have hO8 := (hO6.trans (Only.of_below GA)).thn GM (fun q hq => by have := Fl5.out q hq; omega)
        have hD8 : Hid (Disj (foot a5 c5) (foot a7 c7)) := Lib.hid ((mv7.disj hD5.out.symm (fun q hq => by have := Fk5.out q hq; have := GA.size; omega)).symm)
        have rl8 : OwnF 2 52 w8 w.heap.size a7 (i + 1) c7 (L ++ [y, tg]) := OwnC.appTg (l2 := [y, tg]) rl7
        clear GM GA u7 g7 mv7 rl7 hO6 c6 S6 rl
        go_wp2
        go_roundw
        case rel => exact ⟨i + 1, by omega, by congr 1; omega, a5, c5, _, a7, c7, _, k3, rfl, rfl, rk5, rl8, hD8.out, by omega, c8, hO8⟩
        case measure => simp [intOf]; omega
      · have hiN : N = (i : Int) := by omega
        have hi22 : i ≤ 22 := by omega
        subst hiN
        by_cases hi0 : 0 < i
        · have hi0' : (i : Int) > 0 := by omega
          go_wp2_with fail
          refine (one_any g kk 2 _ hc (by omega)).mono ?_; rintro e wq ⟨bq, kq, rfl, qq, cq, oq⟩
          replace rk := rk.cur oq hg
          replace rl := rl.cur oq hg
          have hOq := hO.trans oq
          clear oq hO hc
          cases bq
          · skip
            go_wp2_with fail
            refine (one_any g kq 24 _ cq (by omega)).mono ?_; rintro e wt ⟨bt, kt, rfl, qt, ct, ot⟩
            replace rk := rk.cur ot hg
            replace rl := rl.cur ot hg
            have hOt := (hOq).trans ot
            clear ot
            have St := hOt.size
            cases bt
            · go_wp2
              exact bodyPost_ret (v := .tuple #[.int .i64 p, .int .i64 d, .slice a (i) c, .slice la i lc]) (by simp [results, Try.results91, go_sem]) rfl ⟨p, d, a, i, c, l, la, i, lc, L, kt, rfl, ⟨by omega, by omega⟩, by omega, rk, rl, by omega, ct, hOt⟩
            · go_wp2_with (at_builtin; refine wpList_appJ _ rfl _ _ rfl w.heap.size a i c l rfl (rk.alloc _) _ 1 1 [0] rfl (Ints.lit1 _ _ _) (by omega) (by simp; omega) ?_)
              intro a5 c5 w5 rk5 u5 g5 mv5
              obtain ⟨wA, hwA⟩ : ∃ q, q = wt.alloc (.cells #[.int .i64 0] 3) := ⟨_, rfl⟩
              rw [← hwA] at u5 g5 mv5
              have GA : Below wt.heap.size wt wA := by rw [hwA]; exact (Below.refl _ _).alloc (Nat.le_refl _) _
              clear hwA
              have GM : Only (foot a c) wA w5 := Only.of_grown g5
              have Fk := Lib.hid rk.feet
              replace rl := (rl.below GA).only GM (fun q hq hq' => hD.out q hq' hq)
              have c5' := (ct.below GA).only GM (fun q hq => by have := Fk.out q hq; omega)
              have hO5 := (hOt.trans (Only.of_below GA)).thn GM (fun q hq => by have := Fk.out q hq; omega)
              clear GM GA u5 g5 mv5
              go_wp2
              exact bodyPost_ret (v := .tuple #[.int .i64 p, .int .i64 d, .slice a5 (i + 1) c5, .slice la i lc]) (by simp [results, Try.results91, go_sem]) rfl ⟨p, d, a5, i + 1, c5, l ++ [0], la, i, lc, L, kt, rfl, ⟨by omega, by omega⟩, by omega, rk5, rl, by omega, c5', hO5⟩
          · go_wp2_with fail
            refine (pick_any g kq (i : Int) _ cq (by omega)).mono ?_; rintro e wr2 ⟨s, ks, rfl, s0, s1, s2, qs, cs, os⟩
            replace rk := rk.cur os hg
            replace rl := rl.cur os hg
            have hOs := hOq.trans os
            clear os hOq cq
            go_wp2_with fail
            refine (tagged_any g ks p _ cs (by omega) (by omega)).mono ?_; rintro e wz ⟨v1, v2, kz, rfl, _, _, qz, cz, oz⟩
            replace rk := rk.cur oz hg
            replace rl := rl.cur oz hg
            have hOz := hOs.trans oz
            clear oz hOs cs
            obtain ⟨sN, rfl⟩ : ∃ q : Nat, s = q := ⟨s.toNat, by omega⟩
            have hsi : sN < i := by omega
            obtain ⟨gl, hla, b0, b1, e0, f0, _⟩ := rl.at (sN * 2) (by omega)
            subst hla
            obtain ⟨e1, f1⟩ := rl.cf (sN * 2 + 1) (by omega)
            have hsi' : (sN : Int) < (i : Int) := by omega
            have hcap := rl.cap
            go_upto_region 15 with fail
            clear e0 e1 f0 f1
            have rl2 := (rl.put (sN * 2) (by omega) v1).put (sN * 2 + 1) (by omega) v2
            have GM : Only [gl] wz ((wz.setCell ⟨gl, sN * 2, none⟩ (.int .i64 v1)).setCell ⟨gl, sN * 2 + 1, none⟩ (.int .i64 v2)) := ((Only.refl _ _).setCell _ _ (by simp)).setCell _ _ (by simp)
            generalize (wz.setCell ⟨gl, sN * 2, none⟩ (.int .i64 v1)).setCell ⟨gl, sN * 2 + 1, none⟩ (.int .i64 v2) = wy at *
            clear rl
            have rl := rl2
            clear rl2
            replace rk := rk.only GM (fun q hq hq' => by simp at hq'; subst hq'; exact hD.out _ hq (foot_mem (x := ⟨q, 0, none⟩) (by omega)))
            have cy := cz.only GM (fun q hq => by simp at hq; omega)
            have hOy := hOz.thn GM (fun q hq => Or.inl (by simp at hq; omega))
            clear GM hOz cz
            go_wp2_with fail
            refine (one_any g kz 24 _ cy (by omega)).mono ?_; rintro e wt ⟨bt, kt, rfl, qt, ct, ot⟩
            replace rk := rk.cur ot hg
            replace rl := rl.cur ot hg
            have hOt := (hOy).trans ot
            clear ot
            have St := hOt.size
            cases bt
            · go_wp2
              exact bodyPost_ret (v := .tuple #[.int .i64 p, .int .i64 d, .slice a (i) c, .slice (some ⟨gl, 0, none⟩) i lc]) (by simp [results, Try.results91, go_sem]) rfl ⟨p, d, a, i, c, l, (some ⟨gl, 0, none⟩), i, lc, _, kt, rfl, ⟨by omega, by omega⟩, by omega, rk, rl, by omega, ct, hOt⟩
            · go_wp2_with (at_builtin; refine wpList_appJ _ rfl _ _ rfl w.heap.size a i c l rfl (rk.alloc _) _ 1 1 [0] rfl (Ints.lit1 _ _ _) (by omega) (by simp; omega) ?_)
              intro a5 c5 w5 rk5 u5 g5 mv5
              obtain ⟨wA, hwA⟩ : ∃ q, q = wt.alloc (.cells #[.int .i64 0] 3) := ⟨_, rfl⟩
              rw [← hwA] at u5 g5 mv5
              have GA : Below wt.heap.size wt wA := by rw [hwA]; exact (Below.refl _ _).alloc (Nat.le_refl _) _
              clear hwA
              have GM : Only (foot a c) wA w5 := Only.of_grown g5
              have Fk := Lib.hid rk.feet
              replace rl := (rl.below GA).only GM (fun q hq hq' => hD.out q hq' hq)
              have c5' := (ct.below GA).only GM (fun q hq => by have := Fk.out q hq; omega)
              have hO5 := (hOt.trans (Only.of_below GA)).thn GM (fun q hq => by have := Fk.out q hq; omega)
              clear GM GA u5 g5 mv5
              go_wp2
              exact bodyPost_ret (v := .tuple #[.int .i64 p, .int .i64 d, .slice a5 (i + 1) c5, .slice (some ⟨gl, 0, none⟩) i lc]) (by simp [results, Try.results91, go_sem]) rfl ⟨p, d, a5, i + 1, c5, l ++ [0], (some ⟨gl, 0, none⟩), i, lc, _, kt, rfl, ⟨by omega, by omega⟩, by omega, rk5, rl, by omega, c5', hO5⟩
        · have hi0' : ¬ ((i : Int) > 0) := by omega
          go_wp2_with fail
          refine (one_any g kk 24 _ hc (by omega)).mono ?_; rintro e wt ⟨bt, kt, rfl, qt, ct, ot⟩
          replace rk := rk.cur ot hg
          replace rl := rl.cur ot hg
          have hOt := (hO).trans ot
          clear ot
          have St := hOt.size
          cases bt
          · go_wp2
            exact bodyPost_ret (v := .tuple #[.int .i64 p, .int .i64 d, .slice a (i) c, .slice la i lc]) (by simp [results, Try.results91, go_sem]) rfl ⟨p, d, a, i, c, l, la, i, lc, L, kt, rfl, ⟨by omega, by omega⟩, by omega, rk, rl, by omega, ct, hOt⟩
          · go_wp2_with (at_builtin; refine wpList_appJ _ rfl _ _ rfl w.heap.size a i c l rfl (rk.alloc _) _ 1 1 [0] rfl (Ints.lit1 _ _ _) (by omega) (by simp; omega) ?_)
            intro a5 c5 w5 rk5 u5 g5 mv5
            obtain ⟨wA, hwA⟩ : ∃ q, q = wt.alloc (.cells #[.int .i64 0] 3) := ⟨_, rfl⟩
            rw [← hwA] at u5 g5 mv5
            have GA : Below wt.heap.size wt wA := by rw [hwA]; exact (Below.refl _ _).alloc (Nat.le_refl _) _
            clear hwA
            have GM : Only (foot a c) wA w5 := Only.of_grown g5
            have Fk := Lib.hid rk.feet
            replace rl := (rl.below GA).only GM (fun q hq hq' => hD.out q hq' hq)
            have c5' := (ct.below GA).only GM (fun q hq => by have := Fk.out q hq; omega)
            have hO5 := (hOt.trans (Only.of_below GA)).thn GM (fun q hq => by have := Fk.out q hq; omega)
            clear GM GA u5 g5 mv5
            go_wp2
            exact bodyPost_ret (v := .tuple #[.int .i64 p, .int .i64 d, .slice a5 (i + 1) c5, .slice la i lc]) (by simp [results, Try.results91, go_sem]) rfl ⟨p, d, a5, i + 1, c5, l ++ [0], la, i, lc, L, kt, rfl, ⟨by omega, by omega⟩, by omega, rk5, rl, by omega, c5', hO5⟩
end Go.Proofs.Ytjgbhokilagmoaa
