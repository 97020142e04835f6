/- Lemmas and walks that the claim's proof rests on, part 19. -/
import Derived.Deep.DeepCutAuto
import Derived.Deep.RegionHeld3
import Derived.Test.YtlmdckcohoddnaaDoorK1
import Derived.Test.YtlmdckcohoddnaaDoorK2
import Derived.Test.YtlmdckcohoddnaaDoorK7
import Derived.Test.YtlmdckcohoddnaaDoorK17
namespace Go.Proofs.YtlmdckcohoddnaaDoor
open Go.RowKit
def dlS (p key q : Int) (i : Nat) : Int := if q = 1 then ((dlL p key).getD i 0 - numI [key, 1, (i : Int), 61] p) % p else numI [key, 1, (i : Int), 61] p
def dlT (p key q : Int) (i : Nat) : Int := (dlS p key q i * dlD p key (1 - q) + numI [key, 3 + (1 - q), (i : Int), 61] p) % p
def dlSh (p key q : Int) : Nat → List Int
  | 0 => []
  | n + 1 => dlSh p key q n ++ [dlS p key q n, dlT p key q n]
def dlP (p key q input : Int) : Pl := ⟨p, q, input, (dlL p key).getD q.toNat 0, dlD p key q, dlSh p key q 5, dlK p key q 5, 0, [], 0, 0⟩
theorem dlS_rng (p key q : Int) (i : Nat) (h : 2 ≤ p) : 0 ≤ dlS p key q i ∧ dlS p key q i ≤ p - 1 := by
  unfold dlS
  split
  · exact emod_rng' _ _ (by omega)
  · exact numI_range _ _ (by omega)
theorem dlT_rng (p key q : Int) (i : Nat) (h : 2 ≤ p) : 0 ≤ dlT p key q i ∧ dlT p key q i ≤ p - 1 := emod_rng' _ _ (by omega)
theorem Own.cellG {w b g n c l} (h : Own w b (some ⟨g, 0, none⟩) n c l) (k : Nat) (hk : k < n) : w.cell? ⟨g, k, none⟩ = some (.int .i64 (l.getD k 0)) := by
  obtain ⟨g', e, _, _, hc, _⟩ := h.at k hk
  cases e
  exact hc
theorem Ints.cellG {w g n c l} (h : Ints w (some ⟨g, 0, none⟩) n c l) (k : Nat) (hk : k < n) : w.cell? ⟨g, k, none⟩ = some (.int .i64 (l.getD k 0)) := by
  obtain ⟨g', o, e, hc⟩ := h.at k hk
  cases e
  simpa using hc
theorem PlO.mk2 {w b sa sn sc ka kn kc s k} (hs : OwnF 2 eTagged w b sa sn sc s) (hk : Own w b ka kn kc k) (hd : Disj (foot sa sc) (foot ka kc)) :
    PlO w b ⟨sa, sn, sc, ka, kn, kc, none, 0, 0⟩ s k [] (foot sa sc ++ (foot ka kc ++ feetSS none 0 [])) :=
  ⟨hs, hk, [], OwnSS.nil0 _ _ _, rfl, hd, fun q hq hq' => by simp [feetSS, foot, rowOf, rowsF] at hq', fun q hq hq' => by simp [feetSS, foot, rowOf, rowsF] at hq', rfl⟩
structure PtDe0D where
  l6 : Bool
  l10 : Bool
  l14 : Bool
  l15 : Bool
  l16 : Bool
  v6 : Value
  v10 : Value
  v14 : Value
  v15 : Value
  v16 : Value
  ka : Option Addr
  kc : Nat
  bx_p : Nat
structure PtDe0F (W0 : World) (gB : Nat) (gv : Nat) (c5 : Nat) (LV : List Int) (M : Int) (D : Int) (p : Int) (input : Int) (KL : List Int) (l6 : Bool) (l10 : Bool) (l14 : Bool) (l15 : Bool) (l16 : Bool) (v6 : Value) (v10 : Value) (v14 : Value) (v15 : Value) (v16 : Value) (ka : Option Addr) (kc : Nat) (bx_p : Nat) (wJ : World) : Prop where
  U : Below W0.heap.size W0 wJ
  k14_10 : l14 = true → l10 = true
  k15_6 : l15 = true → l6 = true
  k15_10 : l15 = true → l10 = true
  k15_14 : l15 = true → l14 = true
  vq6 : l6 = true → v6 = .int .i64 M
  vq10 : l10 = true → v10 = .int .i64 D
  vq14 : l14 = true → v14 = .slice ka 5 kc
  ok : l14 = true → Own wJ W0.heap.size ka 5 kc KL
  vq15 : l15 = true → v15 = .agg #[.int .i64 p, .int .i64 0, .int .i64 input, .int .i64 M, .int .i64 D, .slice none 0 0, .slice ka 5 kc, .int .i64 0, .slice none 0 0, .int .i64 0, .int .i64 0]
  vq16 : l16 = true → v16 = .pointer (some ⟨bx_p, 0, none⟩)
  Bp : l16 = true → Blk wJ bx_p 31 #[.int .i64 0, .int .i64 0, .int .i64 0, .int .i64 0, .int .i64 0, .slice none 0 0, .slice none 0 0, .int .i64 0, .slice none 0 0, .int .i64 0, .int .i64 0]
  hb_p : l16 = true → (W0.heap.size ≤ bx_p ∧ bx_p < wJ.heap.size)
  kp : l14 = true → l16 = true → bx_p ∉ foot ka kc
  pv : l16 = true → bx_p ∉ foot (some ⟨gv, 0, none⟩) c5
  OV : Own wJ gB (some ⟨gv, 0, none⟩) 5 c5 LV
  OM : LV.getD 0 0 = M
set_option maxHeartbeats 16000000 in
set_option maxRecDepth 100000 in
theorem ptDeal_0 (p key input : Int) (w : World) (hp : 2 ≤ p) (hp2 : p ≤ 251) (hk : 0 ≤ key ∧ key ≤ 1000000000) :
    Calls Tryd.prog 81 #[.int .i64 p, .int .i64 key, .int .i64 0, .int .i64 input] w fun e w' => ∃ y F, e = .returned (.agg #[.int .i64 (dlP p key 0 input).P, .int .i64 (dlP p key 0 input).party, .int .i64 (dlP p key 0 input).input, .int .i64 (dlP p key 0 input).mask, .int .i64 (dlP p key 0 input).delta, .slice y.sa y.sn y.sc, .slice y.ka y.kn y.kc, .int .i64 (dlP p key 0 input).step, .slice y.ha y.hn y.hc, .int .i64 (dlP p key 0 input).status, .int .i64 (dlP p key 0 input).out]) ∧ PlO w' w.heap.size y (dlP p key 0 input).shares (dlP p key 0 input).keys (dlP p key 0 input).heard F ∧ Below w.heap.size w w' := by
  have HKR := Lib.hid hk
  clear hk
  go_enter Tryd.func81, Tryd.ntmps81
  go_upto_region 1 with fail
  refine Exists.elim (Blk.new_ w (b := w.heap.size) rfl 31 #[.int .i64 0, .int .i64 0, .int .i64 0, .int .i64 0, .int .i64 0, .slice none 0 0, .slice none 0 0, .int .i64 0, .slice none 0 0, .int .i64 0, .int .i64 0]) (fun w1' q => ?_)
  rw [q.1]; have B_r := q.2.1; have s_w1' := q.2.2.1; have u_w1' := q.2.2.2; clear q
  have S_w1' : w.heap.size + 1 ≤ w1'.heap.size := Nat.le_of_eq s_w1'.symm
  have V_w1' := (Below.refl w.heap.size w).trans (u_w1'.mono ((Below.refl w.heap.size w)).size)
  clear u_w1' s_w1'
  go_wp2
  go_loopw [9, 10] (fun u v wr => ∃ k : Nat, k ≤ 4 ∧ v = .int .i64 k ∧ Below w1'.heap.size w1' wr ∧ ∃ a1 c1, u = .slice a1 k c1 ∧ Own wr w1'.heap.size a1 k c1 (dlQ p key k)) (fun _ v _ => 4 - (intOf v).toNat)
  case atStart => exact ⟨0, by omega, rfl, Below.refl _ _, _, _, rfl, Own.nil0 _ _ _⟩
  case round =>
    obtain ⟨k, hk, rfl, hbel, a1, c1, rfl, own⟩ := hrel
    by_cases hlt : k < 4
    · have hlt' : (k : Int) < 4 := by omega
      have HS := Lib.hid (dlQ_succ p key k)
      have HW := Lib.hid (WB.key (a := 0) (b := (k : Int)) HKR.out (by omega) (by omega))
      go_wp2_with fail
      refine (ptDraw_any key 0 k p _ HW.out (by omega) (by omega)).mono ?_; rintro e w2 ⟨rfl, u5⟩
      have own2 := own.below u5
      have b2 := hbel.trans (u5.mono hbel.size)
      clear own u5 hbel
      generalize numI [key, 0, (k : Int), 61] p = X at *
      go_wp2_with (at_builtin; refine wpList_appI _ rfl _ _ rfl w1'.heap.size a1 k c1 (dlQ p key k) rfl (own2.alloc _) _ 1 1 [X] rfl (Ints.lit1 _ _ _) (by omega) (by have := b2.size; simp; omega) ?_)
      intro a5 c5 w3 o5 u5 _
      have b3 := (b2.alloc b2.size (.cells #[.int .i64 X] 3)).trans u5
      clear u5 b2 own2
      go_wp2
      go_roundw
      case rel => exact ⟨k + 1, by omega, by go_num, b3, a5, c5, rfl, by rw [HS.out]; exact o5⟩
      case measure => simp [intOf]; omega
    · obtain rfl : k = 4 := by omega
      have WB0 := Lib.hid (Nat.le_refl w1'.heap.size)
      have O1 := Lib.hid (S_w1')
      have rx := numI_range [key, 0, 2, 61] p (by omega)
      have ry := numI_range [key, 0, 3, 61] p (by omega)
      obtain ⟨g, rfl, g0, g1, y0, _, _⟩ := own.at 2 (by omega)
      have y1 := own.cellG 3 (by omega)
      have HL : Hid (dlL p key = dlQ p key 4 ++ [numI [key, 0, 2, 61] p * numI [key, 0, 3, 61] p % p]) := Lib.hid rfl
      have HY0 : Hid ((dlQ p key 4).getD 2 0 = numI [key, 0, 2, 61] p) := Lib.hid rfl
      have HY1 : Hid ((dlQ p key 4).getD 3 0 = numI [key, 0, 3, 61] p) := Lib.hid rfl
      rw [HY0.out] at y0
      rw [HY1.out] at y1
      generalize numI [key, 0, 2, 61] p = X at *
      generalize numI [key, 0, 3, 61] p = Y at *
      have m0 : 0 ≤ X * Y := Int.mul_nonneg rx.1 ry.1
      have m1 : X * Y ≤ 250 * 250 := Int.mul_le_mul (by omega) (by omega) (by omega) (by omega)
      have t1 : IntKind.i64.wrap (X * Y) = X * Y := IntWalk.i64_in _ (by omega)
      have t2 : (X * Y).tmod p = X * Y % p := Int.tmod_eq_emod_of_nonneg m0
      have rz := emod_rng' (X * Y) p (by omega)
      have t3 : IntKind.i64.wrap (X * Y % p) = X * Y % p := IntWalk.i64_in _ (by omega)
      have z1 : (p = 0) = False := by simp; omega
      have z2 : ((p == 0) : Bool) = false := by simp; omega
      go_upto_region 6 with fail
      have B_r := B_r.below hbel
      have V_wr := V_w1'.trans (hbel.mono V_w1'.size)
      have S_wr := hbel.size
      obtain ⟨gB, HGB⟩ : ∃ gB, gB = w1'.heap.size := ⟨_, rfl⟩
      rw [← HGB] at own
      have hgb : gB ≤ wr.heap.size := by rw [HGB]; exact hbel.size
      have hgw : w.heap.size + 1 ≤ gB := by rw [HGB]; exact S_w1'
      clear HGB hbel
      refine wp_region_noPanic ?_
      refine wp_region_held_drew (S := (fun W => W.cell? ⟨g, 2, none⟩ = some (.int .i64 X) ∧ W.cell? ⟨g, 3, none⟩ = some (.int .i64 Y))) (by kernel_rfl) ?hS1 (fun hHeld => ?go1)
      case hS1 => exact ⟨y0, y1⟩
      refine tk (i := 0) (oi := ⟨some 28, _, _, _, _, _⟩) (v := ?v0_2) hHeld rfl ?y0_2 ?r0_2
      case y0_2 => (intro w _; first | (go_simp; first | done | with_reducible rfl) | with_reducible rfl)
      (try simp only [pt_])
      refine tk (i := 1) (oi := ⟨some 29, _, _, _, _, _⟩) (v := ?v1_3) hHeld rfl ?y1_3 ?r1_3
      case y1_3 => (intro w _; first | (go_simp; first | done | with_reducible rfl) | with_reducible rfl)
      (try simp only [pt_])
      refine tk (i := 2) (oi := ⟨some 30, _, _, _, _, _⟩) (v := ?v2_4) hHeld rfl ?y2_4 ?r2_4
      case y2_4 => (intro w _; first | (go_simp; first | done | with_reducible rfl) | with_reducible rfl)
      (try simp only [pt_])
      refine tk (i := 3) (oi := ⟨some 31, _, _, _, _, _⟩) (v := ?v3_5) hHeld rfl ?y3_5 ?r3_5
      case y3_5 => (intro w hSw; obtain ⟨qS0, qS1⟩ := hSw; first | (go_simp; first | done | with_reducible rfl) | with_reducible rfl)
      (try simp only [pt_])
      refine tk (i := 4) (oi := ⟨some 32, _, _, _, _, _⟩) (v := ?v4_6) hHeld rfl ?y4_6 ?r4_6
      case y4_6 => (intro w _; first | (go_simp; first | done | with_reducible rfl) | with_reducible rfl)
      (try simp only [pt_])
      refine tk (i := 5) (oi := ⟨some 33, _, _, _, _, _⟩) (v := ?v5_7) hHeld rfl ?y5_7 ?r5_7
      case y5_7 => (intro w _; first | (go_simp; first | done | with_reducible rfl) | with_reducible rfl)
      (try simp only [pt_])
      refine tk (i := 6) (oi := ⟨some 34, _, _, _, _, _⟩) (v := ?v6_8) hHeld rfl ?y6_8 ?r6_8
      case y6_8 => (intro w hSw; obtain ⟨qS0, qS1⟩ := hSw; first | (go_simp; first | done | with_reducible rfl) | with_reducible rfl)
      (try simp only [pt_])
      refine tk (i := 7) (oi := ⟨some 35, _, _, _, _, _⟩) (v := ?v7_9) hHeld rfl ?y7_9 ?r7_9
      case y7_9 => (intro w _; first | (go_simp; first | done | with_reducible rfl) | with_reducible rfl)
      (try simp only [pt_])
      refine tk (i := 8) (oi := ⟨some 36, _, _, _, _, _⟩) (v := ?v8_10) hHeld rfl ?y8_10 ?r8_10
      case y8_10 => (intro w _; first | (go_simp; first | done | with_reducible rfl) | with_reducible rfl)
      (try simp only [pt_])
      refine tk (i := 9) (oi := ⟨some 37, _, _, _, _, _⟩) (v := ?v9_11) hHeld rfl ?y9_11 ?r9_11
      case y9_11 => (intro w _; first | (go_simp; first | done | with_reducible rfl) | with_reducible rfl)
      (try simp only [pt_])
      refine wpAnyH_ready (rs := [10]) (by kernel_rfl) (by simp) ?_
      refine AllReadyH.cons (o := ⟨some 38, _, _, _, _, _⟩) rfl (fun K hK => ?_) ?_
      go_simp
      refine hK.out _ _ ?_ (fun hHeld => ?_)
      · exact ⟨keepA _ y0, keepA _ y1⟩
      clear hK K
      (try simp only [pt_])
      refine wpAnyH_ready (rs := [11]) (by kernel_rfl) (by simp) ?_
      refine AllReadyH.cons (o := ⟨some 39, _, _, _, _, _⟩) rfl (fun K hK => ?_) ?_
      have b2 : Below wr.heap.size wr (wr.drew.alloc (.cells #[.int .i64 (X * Y % p)] 3)) := (Below.refl _ _).drew.alloc (Nat.le_refl _) _
      refine step_appI _ rfl _ _ rfl gB _ 4 c1 (dlQ p key 4) rfl (own.drew.alloc _) _ 1 1 [X * Y % p] rfl (Ints.lit1 _ _ _) (by omega) (Nat.le_trans hgb b2.size) ?_
      intro a5 c5 w5 o5 u5 g5 i5
      have G5 := Only.of_grown g5
      have B_r5 := (Blk.below B_r b2).only G5 (fun hq => by have := (own.feet _ hq).1; omega)
      have b3 := (b2.mono hgb).trans u5
      clear G5
      have y0' := i5.cellG 2 (by omega)
      have y1' := i5.cellG 3 (by omega)
      rw [HY0.out] at y0'
      rw [HY1.out] at y1'
      clear b2 u5 g5 i5
      refine hK.out _ _ ?_ (fun hHeld => ?_)
      · exact ⟨y0', y1'⟩
      clear hK K
      (try simp only [pt_])
      refine tk (i := 12) (oi := ⟨some 9, _, _, _, _, _⟩) (v := ?v12_12) hHeld rfl ?y12_12 ?r12_12
      case y12_12 => (intro w _; first | (go_simp; first | done | with_reducible rfl) | with_reducible rfl)
      (try simp only [pt_])
      refine wpAnyH_done (by kernel_rfl) ?_ _
      refine NoPanic.normal ?_
      rotate_left 1
      exact AllReadyH.nil
      exact AllReadyH.nil
      clear y0 y1 y0' y1' t1 t2 t3 m0 m1 z1 z2 rx ry rz own g0 g1 HY0 HY1
      have o6 : Own w5 gB a5 5 c5 (dlL p key) := by rw [HL.out]; exact o5
      clear o5 HL
      have V5 := (V_wr).trans (b3.mono (by omega))
      have S5 := b3.size
      replace B_r := B_r5
      clear B_r5 b3
      obtain ⟨gv, rfl, g0, g1, _, _, _⟩ := o6.at 0 (by omega)
      have OV : Own w5 gB (some ⟨gv, 0, none⟩) 5 c5 (dlL p key) := o6
      have HM : Hid ((dlL p key).getD 0 0 = (dlL p key).getD 0 0) := Lib.hid rfl
      obtain ⟨M, hM⟩ : ∃ M, M = (dlL p key).getD 0 0 := ⟨_, rfl⟩
      have HMM := Lib.hid hM
      clear hM HM
      have KK := Lib.hid (fun (W : World) => ptKeys_any p key 0 W hp hp2 HKR.out (by omega))
      have KD := Lib.hid (fun (W : World) => ptDelta_any p key 0 W hp hp2 HKR.out (by omega))
      generalize HDe : dlD p key 0 = D at KD
      generalize HKe : dlK p key 0 5 = KL at KK
      have HD := Lib.hid HDe
      have HKL := Lib.hid HKe
      clear HDe HKe g0 g1
      go_upto_region 7 with fail
      refine wp_region_noPanic ?_
      refine wp_region_held_drew (S := (fun _ => True)) (by kernel_rfl) ?hS13 (fun hHeld => ?go13)
      case hS13 => trivial
      refine tk (i := 0) (oi := ⟨some 40, _, _, _, _, _⟩) (v := ?v0_14) hHeld rfl ?y0_14 ?r0_14
      case y0_14 => (intro w _; first | (go_simp; first | done | with_reducible rfl) | with_reducible rfl)
      (try simp only [pt_])
      refine tk (i := 1) (oi := ⟨some 41, _, _, _, _, _⟩) (v := ?v1_15) hHeld rfl ?y1_15 ?r1_15
      case y1_15 => (intro w _; first | (go_simp; first | done | with_reducible rfl) | with_reducible rfl)
      (try simp only [pt_])
      refine tk (i := 2) (oi := ⟨some 42, _, _, _, _, _⟩) (v := ?v2_16) hHeld rfl ?y2_16 ?r2_16
      case y2_16 => (intro w _; first | (go_simp; first | done | with_reducible rfl) | with_reducible rfl)
      (try simp only [pt_])
      refine tk (i := 3) (oi := ⟨some 43, _, _, _, _, _⟩) (v := ?v3_17) hHeld rfl ?y3_17 ?r3_17
      case y3_17 => (intro w _; first | (go_simp; first | done | with_reducible rfl) | with_reducible rfl)
      (try simp only [pt_])
      refine tk (i := 4) (oi := ⟨some 44, _, _, _, _, _⟩) (v := ?v4_18) hHeld rfl ?y4_18 ?r4_18
      case y4_18 => (intro w _; first | (go_simp; first | done | with_reducible rfl) | with_reducible rfl)
      (try simp only [pt_])
      refine tk (i := 5) (oi := ⟨some 45, _, _, _, _, _⟩) (v := ?v5_19) hHeld rfl ?y5_19 ?r5_19
      case y5_19 => (intro w _; first | (go_simp; first | done | with_reducible rfl) | with_reducible rfl)
      (try simp only [pt_])
      refine tk (i := 7) (oi := ⟨some 47, _, _, _, _, _⟩) (v := ?v7_20) hHeld rfl ?y7_20 ?r7_20
      case y7_20 => (intro w _; first | (go_simp; first | done | with_reducible rfl) | with_reducible rfl)
      (try simp only [pt_])
      refine tk (i := 8) (oi := ⟨some 48, _, _, _, _, _⟩) (v := ?v8_21) hHeld rfl ?y8_21 ?r8_21
      case y8_21 => (intro w _; first | (go_simp; first | done | with_reducible rfl) | with_reducible rfl)
      (try simp only [pt_])
      refine tk (i := 9) (oi := ⟨some 49, _, _, _, _, _⟩) (v := ?v9_22) hHeld rfl ?y9_22 ?r9_22
      case y9_22 => (intro w _; first | (go_simp; first | done | with_reducible rfl) | with_reducible rfl)
      (try simp only [pt_])
      refine tk (i := 11) (oi := ⟨some 51, _, _, _, _, _⟩) (v := ?v11_23) hHeld rfl ?y11_23 ?r11_23
      case y11_23 => (intro w _; first | (go_simp; first | done | with_reducible rfl) | with_reducible rfl)
      (try simp only [pt_])
      refine tk (i := 12) (oi := ⟨some 52, _, _, _, _, _⟩) (v := ?v12_24) hHeld rfl ?y12_24 ?r12_24
      case y12_24 => (intro w _; first | (go_simp; first | done | with_reducible rfl) | with_reducible rfl)
      (try simp only [pt_])
      refine tk (i := 13) (oi := ⟨some 53, _, _, _, _, _⟩) (v := ?v13_25) hHeld rfl ?y13_25 ?r13_25
      case y13_25 => (intro w _; first | (go_simp; first | done | with_reducible rfl) | with_reducible rfl)
      (try simp only [pt_])
      rotate_left 1
      refine wpAnyH_inv [6, 10, 14, 15, 16] #[true, true, true, true, true, true, false, true, true, true, false, true, true, true, false, false, false, false] #[true, true, true, true, true, true, true, true, true, true, true, true, true, true, true, true, true, false] 6 1 (fun (a0J : Act) (lJ : Array Bool) (aJ : Act) (wJ : World) => ∃ dJ : PtDe0D, lJ = #[true, true, true, true, true, true, dJ.l6, true, true, true, dJ.l10, true, true, true, dJ.l14, dJ.l15, dJ.l16, false] ∧ aJ = (((((a0J.put (some 46) dJ.v6).put (some 50) dJ.v10).put (some 54) dJ.v14).put (some 55) dJ.v15).put (some 11) dJ.v16) ∧ PtDe0F w5 gB gv c5 (dlL p key) M D p input KL dJ.l6 dJ.l10 dJ.l14 dJ.l15 dJ.l16 dJ.v6 dJ.v10 dJ.v14 dJ.v15 dJ.v16 dJ.ka dJ.kc dJ.bx_p wJ) (by kernel_rfl) (by kernel_rfl) (by kernel_rfl) (by kernel_rfl) (by kernel_rfl) ?hJ hHeld ?hi ?hs ?he
      case hJ => rintro lJ aJ wJ ⟨dJ, rfl, _⟩; exact ⟨[dJ.l6, dJ.l10, dJ.l14, dJ.l15, dJ.l16], rfl, rfl⟩
      case hi => exact ⟨⟨false, false, false, false, false, _, _, _, _, _, none, 0, 0⟩, rfl, (Act.selfs (Act.selfs (Act.selfs (Act.selfs (Act.selfs rfl 46) 50) 54) 55) 11), ⟨(Below.refl _ _).drew, fun q0 => (by cases q0), fun q0 => (by cases q0), fun q0 => (by cases q0), fun q0 => (by cases q0), fun q0 => (by cases q0), fun q0 => (by cases q0), fun q0 => (by cases q0), fun q0 => (by cases q0), fun q0 => (by cases q0), fun q0 => (by cases q0), fun q0 => (by cases q0), fun q0 => (by cases q0), fun q0 q1 => (by cases q0), fun q0 => (by cases q0), OV.drew, HMM.out.symm⟩⟩
      case hs =>
        refine StepsI.cons (o := ⟨some 46, _, _, _, _, _⟩) rfl ?_ ?_
        · intro lJ aJ wi K hS hJ hz0 hd hK
          obtain ⟨dJ, hJ⟩ := hJ
          obtain ⟨e1, hJ⟩ := hJ
          obtain ⟨e2, hF⟩ := hJ
          subst e1
          subst e2
          cases dJ with | mk l6 l10 l14 l15 l16 v6 v10 v14 v15 v16 ka kc bx_p =>
          replace hF : PtDe0F w5 gB gv c5 (dlL p key) M D p input KL l6 l10 l14 l15 l16 v6 v10 v14 v15 v16 ka kc bx_p wi := hF
          have U := hF.U
          have k14_10 := hF.k14_10
          have k15_6 := hF.k15_6
          have k15_10 := hF.k15_10
          have k15_14 := hF.k15_14
          have vq6 := hF.vq6
          have vq10 := hF.vq10
          have vq14 := hF.vq14
          have ok := hF.ok
          have vq15 := hF.vq15
          have vq16 := hF.vq16
          have Bp := hF.Bp
          have hb_p := hF.hb_p
          have kp := hF.kp
          have pv := hF.pv
          have OV := hF.OV
          have OM := hF.OM
          clear hF
          have e0 : l6 = false := hz0; subst e0
          clear hz0 hd
          (try simp only [Act.put, List.setIfInBounds_toArray, List.set_cons_zero, List.set_cons_succ])
          replace k14_10 := Lib.hid k14_10
          replace k15_10 := Lib.hid k15_10
          replace k15_14 := Lib.hid k15_14
          replace k15_6 := Lib.hid k15_6
          replace vq10 := Lib.hid vq10
          replace vq14 := Lib.hid vq14
          replace vq15 := Lib.hid vq15
          replace vq16 := Lib.hid vq16
          replace vq6 := Lib.hid vq6
          have c6 := OV.cellG 0 (by omega)
          rw [OM] at c6
          go_simp
          clear c6
          exact hK.out _ _ trivial ⟨⟨true, l10, l14, l15, l16, .int .i64 M, v10, v14, v15, v16, ka, kc, bx_p⟩, rfl, by kernel_rfl, (show PtDe0F w5 gB gv c5 (dlL p key) M D p input KL true l10 l14 l15 l16 (.int .i64 M) v10 v14 v15 v16 ka kc bx_p wi from ⟨(U), (fun nd14 => (k14_10.out nd14)), (fun nd15 => (by cases k15_6.out nd15)), (fun nd15 => (by cases k15_6.out nd15)), (fun nd15 => (by cases k15_6.out nd15)), (fun nd6 => rfl), (fun nd10 => (vq10.out nd10)), (fun nd14 => (vq14.out nd14)), (fun nd14 => (ok nd14)), (fun nd15 => (by cases k15_6.out nd15)), (fun nd16 => (vq16.out nd16)), (fun nd16 => (Bp nd16)), (fun nd16 => (hb_p nd16)), (fun nd14 nd16 => (kp nd14 nd16)), (fun nd16 => (pv nd16)), (OV), (OM)⟩)⟩
        refine StepsI.cons (o := ⟨some 50, _, _, _, _, _⟩) rfl ?_ ?_
        · intro lJ aJ wi K hS hJ hz0 hd hK
          obtain ⟨dJ, hJ⟩ := hJ
          obtain ⟨e1, hJ⟩ := hJ
          obtain ⟨e2, hF⟩ := hJ
          subst e1
          subst e2
          cases dJ with | mk l6 l10 l14 l15 l16 v6 v10 v14 v15 v16 ka kc bx_p =>
          replace hF : PtDe0F w5 gB gv c5 (dlL p key) M D p input KL l6 l10 l14 l15 l16 v6 v10 v14 v15 v16 ka kc bx_p wi := hF
          have U := hF.U
          have k14_10 := hF.k14_10
          have k15_6 := hF.k15_6
          have k15_10 := hF.k15_10
          have k15_14 := hF.k15_14
          have vq6 := hF.vq6
          have vq10 := hF.vq10
          have vq14 := hF.vq14
          have ok := hF.ok
          have vq15 := hF.vq15
          have vq16 := hF.vq16
          have Bp := hF.Bp
          have hb_p := hF.hb_p
          have kp := hF.kp
          have pv := hF.pv
          have OV := hF.OV
          have OM := hF.OM
          clear hF
          have e0 : l10 = false := hz0; subst e0
          clear hz0 hd
          (try simp only [Act.put, List.setIfInBounds_toArray, List.set_cons_zero, List.set_cons_succ])
          replace k14_10 := Lib.hid k14_10
          replace k15_10 := Lib.hid k15_10
          replace k15_14 := Lib.hid k15_14
          replace k15_6 := Lib.hid k15_6
          replace vq10 := Lib.hid vq10
          replace vq14 := Lib.hid vq14
          replace vq15 := Lib.hid vq15
          replace vq16 := Lib.hid vq16
          replace vq6 := Lib.hid vq6
          go_simp
          refine (KD.out _).mono ?_
          rintro e wo ⟨rfl, u⟩
          exact hK.out _ _ trivial ⟨⟨l6, true, l14, l15, l16, v6, .int .i64 D, v14, v15, v16, ka, kc, bx_p⟩, rfl, by kernel_rfl, (show PtDe0F w5 gB gv c5 (dlL p key) M D p input KL l6 true l14 l15 l16 v6 (.int .i64 D) v14 v15 v16 ka kc bx_p wo from ⟨((U).trans (u.mono (U).size)), (fun nd14 => (by cases k14_10.out nd14)), (fun nd15 => (by cases k15_10.out nd15)), (fun nd15 => (by cases k15_10.out nd15)), (fun nd15 => (by cases k15_10.out nd15)), (fun nd6 => (vq6.out nd6)), (fun nd10 => rfl), (fun nd14 => (by cases k14_10.out nd14)), (fun nd14 => (by cases k14_10.out nd14)), (fun nd15 => (by cases k15_10.out nd15)), (fun nd16 => (vq16.out nd16)), (fun nd16 => ((Bp nd16)).below u), (fun nd16 => ⟨((hb_p nd16)).1, Nat.lt_of_lt_of_le ((hb_p nd16)).2 u.size⟩), (fun nd14 nd16 => (by cases k14_10.out nd14)), (fun nd16 => (pv nd16)), ((OV).below u), (OM)⟩)⟩
        refine StepsI.cons (o := ⟨some 54, _, _, _, _, _⟩) rfl ?_ ?_
        · intro lJ aJ wi K hS hJ hz0 hd hK
          obtain ⟨dJ, hJ⟩ := hJ
          obtain ⟨e1, hJ⟩ := hJ
          obtain ⟨e2, hF⟩ := hJ
          subst e1
          subst e2
          cases dJ with | mk l6 l10 l14 l15 l16 v6 v10 v14 v15 v16 ka kc bx_p =>
          replace hF : PtDe0F w5 gB gv c5 (dlL p key) M D p input KL l6 l10 l14 l15 l16 v6 v10 v14 v15 v16 ka kc bx_p wi := hF
          have U := hF.U
          have k14_10 := hF.k14_10
          have k15_6 := hF.k15_6
          have k15_10 := hF.k15_10
          have k15_14 := hF.k15_14
          have vq6 := hF.vq6
          have vq10 := hF.vq10
          have vq14 := hF.vq14
          have ok := hF.ok
          have vq15 := hF.vq15
          have vq16 := hF.vq16
          have Bp := hF.Bp
          have hb_p := hF.hb_p
          have kp := hF.kp
          have pv := hF.pv
          have OV := hF.OV
          have OM := hF.OM
          clear hF
          have e0 : l14 = false := hz0; subst e0
          have e10 : l10 = true := hd 10 (by kernel_rfl); subst e10
          clear hz0 hd
          (try simp only [Act.put, List.setIfInBounds_toArray, List.set_cons_zero, List.set_cons_succ])
          replace k14_10 := Lib.hid k14_10
          replace k15_10 := Lib.hid k15_10
          replace k15_14 := Lib.hid k15_14
          replace k15_6 := Lib.hid k15_6
          replace vq10 := Lib.hid vq10
          replace vq14 := Lib.hid vq14
          replace vq15 := Lib.hid vq15
          replace vq16 := Lib.hid vq16
          replace vq6 := Lib.hid vq6
          go_simp
          refine (KK.out _).mono ?_
          rintro e wo ⟨ka', kc', rfl, n1, u⟩
          exact hK.out _ _ trivial ⟨⟨l6, true, true, l15, l16, v6, v10, .slice ka' 5 kc', v15, v16, ka', kc', bx_p⟩, rfl, by kernel_rfl, (show PtDe0F w5 gB gv c5 (dlL p key) M D p input KL l6 true true l15 l16 v6 v10 (.slice ka' 5 kc') v15 v16 ka' kc' bx_p wo from ⟨((U).trans (u.mono (U).size)), (fun nd14 => rfl), (fun nd15 => (by cases k15_14.out nd15)), (fun nd15 => (by cases k15_14.out nd15)), (fun nd15 => (by cases k15_14.out nd15)), (fun nd6 => (vq6.out nd6)), (fun nd10 => (vq10.out nd10)), (fun nd14 => rfl), (fun nd14 => n1.lower U.size), (fun nd15 => (by cases k15_14.out nd15)), (fun nd16 => (vq16.out nd16)), (fun nd16 => ((Bp nd16)).below u), (fun nd16 => ⟨((hb_p nd16)).1, Nat.lt_of_lt_of_le ((hb_p nd16)).2 u.size⟩), (fun nd14 nd16 => fun hq => by have := n1.feet _ hq; have := (hb_p nd16).2; omega), (fun nd16 => (pv nd16)), ((OV).below u), (OM)⟩)⟩
        refine StepsI.cons (o := ⟨some 55, _, _, _, _, _⟩) rfl ?_ ?_
        · intro lJ aJ wi K hS hJ hz0 hd hK
          obtain ⟨dJ, hJ⟩ := hJ
          obtain ⟨e1, hJ⟩ := hJ
          obtain ⟨e2, hF⟩ := hJ
          subst e1
          subst e2
          cases dJ with | mk l6 l10 l14 l15 l16 v6 v10 v14 v15 v16 ka kc bx_p =>
          replace hF : PtDe0F w5 gB gv c5 (dlL p key) M D p input KL l6 l10 l14 l15 l16 v6 v10 v14 v15 v16 ka kc bx_p wi := hF
          have U := hF.U
          have k14_10 := hF.k14_10
          have k15_6 := hF.k15_6
          have k15_10 := hF.k15_10
          have k15_14 := hF.k15_14
          have vq6 := hF.vq6
          have vq10 := hF.vq10
          have vq14 := hF.vq14
          have ok := hF.ok
          have vq15 := hF.vq15
          have vq16 := hF.vq16
          have Bp := hF.Bp
          have hb_p := hF.hb_p
          have kp := hF.kp
          have pv := hF.pv
          have OV := hF.OV
          have OM := hF.OM
          clear hF
          have e0 : l15 = false := hz0; subst e0
          have e6 : l6 = true := hd 6 (by kernel_rfl); subst e6
          have e10 : l10 = true := hd 10 (by kernel_rfl); subst e10
          have e14 : l14 = true := hd 14 (by kernel_rfl); subst e14
          clear hz0 hd
          (try simp only [Act.put, List.setIfInBounds_toArray, List.set_cons_zero, List.set_cons_succ])
          have g' := vq6 rfl; subst g'
          have g' := vq10 rfl; subst g'
          have g' := vq14 rfl; subst g'
          replace k14_10 := Lib.hid k14_10
          replace k15_10 := Lib.hid k15_10
          replace k15_14 := Lib.hid k15_14
          replace k15_6 := Lib.hid k15_6
          replace vq10 := Lib.hid vq10
          replace vq14 := Lib.hid vq14
          replace vq15 := Lib.hid vq15
          replace vq16 := Lib.hid vq16
          replace vq6 := Lib.hid vq6
          go_simp
          exact hK.out _ _ trivial ⟨⟨true, true, true, true, l16, .int .i64 M, .int .i64 D, .slice ka 5 kc, .agg #[.int .i64 p, .int .i64 0, .int .i64 input, .int .i64 M, .int .i64 D, .slice none 0 0, .slice ka 5 kc, .int .i64 0, .slice none 0 0, .int .i64 0, .int .i64 0], v16, ka, kc, bx_p⟩, rfl, by kernel_rfl, (show PtDe0F w5 gB gv c5 (dlL p key) M D p input KL true true true true l16 (.int .i64 M) (.int .i64 D) (.slice ka 5 kc) (.agg #[.int .i64 p, .int .i64 0, .int .i64 input, .int .i64 M, .int .i64 D, .slice none 0 0, .slice ka 5 kc, .int .i64 0, .slice none 0 0, .int .i64 0, .int .i64 0]) v16 ka kc bx_p wi from ⟨(U), (fun nd14 => (k14_10.out nd14)), (fun nd15 => rfl), (fun nd15 => rfl), (fun nd15 => rfl), (fun nd6 => (vq6.out nd6)), (fun nd10 => (vq10.out nd10)), (fun nd14 => (vq14.out nd14)), (fun nd14 => (ok nd14)), (fun nd15 => rfl), (fun nd16 => (vq16.out nd16)), (fun nd16 => (Bp nd16)), (fun nd16 => (hb_p nd16)), (fun nd14 nd16 => (kp nd14 nd16)), (fun nd16 => (pv nd16)), (OV), (OM)⟩)⟩
        refine StepsI.cons (o := ⟨some 11, _, _, _, _, _⟩) rfl ?_ ?_
        · intro lJ aJ wi K hS hJ hz0 hd hK
          obtain ⟨dJ, hJ⟩ := hJ
          obtain ⟨e1, hJ⟩ := hJ
          obtain ⟨e2, hF⟩ := hJ
          subst e1
          subst e2
          cases dJ with | mk l6 l10 l14 l15 l16 v6 v10 v14 v15 v16 ka kc bx_p =>
          replace hF : PtDe0F w5 gB gv c5 (dlL p key) M D p input KL l6 l10 l14 l15 l16 v6 v10 v14 v15 v16 ka kc bx_p wi := hF
          have U := hF.U
          have k14_10 := hF.k14_10
          have k15_6 := hF.k15_6
          have k15_10 := hF.k15_10
          have k15_14 := hF.k15_14
          have vq6 := hF.vq6
          have vq10 := hF.vq10
          have vq14 := hF.vq14
          have ok := hF.ok
          have vq15 := hF.vq15
          have vq16 := hF.vq16
          have Bp := hF.Bp
          have hb_p := hF.hb_p
          have kp := hF.kp
          have pv := hF.pv
          have OV := hF.OV
          have OM := hF.OM
          clear hF
          have e0 : l16 = false := hz0; subst e0
          clear hz0 hd
          (try simp only [Act.put, List.setIfInBounds_toArray, List.set_cons_zero, List.set_cons_succ])
          replace k14_10 := Lib.hid k14_10
          replace k15_10 := Lib.hid k15_10
          replace k15_14 := Lib.hid k15_14
          replace k15_6 := Lib.hid k15_6
          replace vq10 := Lib.hid vq10
          replace vq14 := Lib.hid vq14
          replace vq15 := Lib.hid vq15
          replace vq16 := Lib.hid vq16
          replace vq6 := Lib.hid vq6
          go_simp
          refine Exists.elim (Blk.new_ wi rfl 31 #[.int .i64 0, .int .i64 0, .int .i64 0, .int .i64 0, .int .i64 0, .slice none 0 0, .slice none 0 0, .int .i64 0, .slice none 0 0, .int .i64 0, .int .i64 0]) (fun wo q => ?_)
          rw [q.1]
          have B_p := q.2.1; have u := q.2.2.2; have ha : wi.heap.size < wo.heap.size := Nat.le_of_eq q.2.2.1.symm; clear q
          exact hK.out _ _ trivial ⟨⟨l6, l10, l14, l15, true, v6, v10, v14, v15, .pointer (some ⟨wi.heap.size, 0, none⟩), ka, kc, wi.heap.size⟩, rfl, by kernel_rfl, (show PtDe0F w5 gB gv c5 (dlL p key) M D p input KL l6 l10 l14 l15 true v6 v10 v14 v15 (.pointer (some ⟨wi.heap.size, 0, none⟩)) ka kc wi.heap.size wo from ⟨((U).trans (u.mono (U).size)), (fun nd14 => (k14_10.out nd14)), (fun nd15 => (k15_6.out nd15)), (fun nd15 => (k15_10.out nd15)), (fun nd15 => (k15_14.out nd15)), (fun nd6 => (vq6.out nd6)), (fun nd10 => (vq10.out nd10)), (fun nd14 => (vq14.out nd14)), (fun nd14 => ((ok nd14)).below u), (fun nd15 => (vq15.out nd15)), (fun nd16 => rfl), (fun nd16 => B_p), (fun nd16 => ⟨U.size, ha⟩), (fun nd14 nd16 => fun hq => by have := (ok nd14).feet _ hq; omega), (fun nd16 => fun hq => by have := OV.feet _ hq; omega), ((OV).below u), (OM)⟩)⟩
        exact StepsI.nil
      case he =>
        intro aJ wc hS hJ
        obtain ⟨dJ, hJ⟩ := hJ
        obtain ⟨hl, hJ⟩ := hJ
        obtain ⟨e2, hF⟩ := hJ
        subst e2
        cases dJ with | mk l6 l10 l14 l15 l16 v6 v10 v14 v15 v16 ka kc bx_p =>
        replace hF : PtDe0F w5 gB gv c5 (dlL p key) M D p input KL l6 l10 l14 l15 l16 v6 v10 v14 v15 v16 ka kc bx_p wc := hF
        have U := hF.U
        have k14_10 := hF.k14_10
        have k15_6 := hF.k15_6
        have k15_10 := hF.k15_10
        have k15_14 := hF.k15_14
        have vq6 := hF.vq6
        have vq10 := hF.vq10
        have vq14 := hF.vq14
        have ok := hF.ok
        have vq15 := hF.vq15
        have vq16 := hF.vq16
        have Bp := hF.Bp
        have hb_p := hF.hb_p
        have kp := hF.kp
        have pv := hF.pv
        have OV := hF.OV
        have OM := hF.OM
        clear hF
        have e6 : true = l6 := congrArg (fun q : Array Bool => q.getD 6 true) hl; subst e6
        have e10 : true = l10 := congrArg (fun q : Array Bool => q.getD 10 true) hl; subst e10
        have e14 : true = l14 := congrArg (fun q : Array Bool => q.getD 14 true) hl; subst e14
        have e15 : true = l15 := congrArg (fun q : Array Bool => q.getD 15 true) hl; subst e15
        have e16 : true = l16 := congrArg (fun q : Array Bool => q.getD 16 true) hl; subst e16
        clear hl k14_10 k15_6 k15_10 k15_14
        replace vq6 := vq6 rfl
        replace vq10 := vq10 rfl
        replace vq14 := vq14 rfl
        replace ok := ok rfl
        replace vq15 := vq15 rfl
        replace vq16 := vq16 rfl
        replace Bp := Bp rfl
        replace hb_p := hb_p rfl
        replace kp := kp rfl rfl
        replace pv := pv rfl
        have hHeld := hS; clear hS
        (try simp only [Act.put, List.setIfInBounds_toArray, List.set_cons_zero, List.set_cons_succ])
        subst vq6 vq10 vq14 vq15 vq16
        have B_p := Bp; clear Bp
        have G_all : Only [bx_p] wc wc := Only.refl _ _
        refine wpAnyH_ready (rs := [17]) (by kernel_rfl) (by simp) ?_
        refine AllReadyH.cons (o := ⟨none, _, _, _, _, _⟩) rfl (fun K hK => ?_) ?_
        refine step_st B_p (by simp [Region.wanted]) _ _ _ (by rfl) (by rfl) (by rfl) (by kernel_rfl) (by rfl) (by simp [Value.oneCell']) ?_
        intro wS17 B_p' G
        replace B_p := B_p'; clear B_p'
        replace ok := ok.only G (fun q hq hq' => by simp at hq'; rw [hq'] at hq; exact kp hq)
        replace OV := OV.only G (fun q hq hq' => by simp at hq'; rw [hq'] at hq; exact pv hq)
        replace G_all := G_all.trans (G.more (F' := [bx_p]) (by simp))
        clear G
        refine hK.out _ _ trivial (fun hHeld => ?_)
        clear hK K
        (try simp only [pt_])
        refine wpAnyH_done (by kernel_rfl) ?_ _
        refine NoPanic.normal ?_
        rotate_left 1
        exact AllReadyH.nil
        have u_all : Below w5.heap.size w5 wS17 := U.trans (G_all.below U.size (by intro q hq; simp at hq; omega))
        clear U G_all hHeld
        have hbp := hb_p.1
        clear hb_p
        have pB := B_p.lt
        replace B_r := B_r.below u_all
        replace o6 := o6.below u_all
        have S_wS17 := u_all.size
        have V_wS17 : Below w.heap.size w wS17 := V5.trans (u_all.mono V5.size)
        clear V5
        clear u_all
        clear o6
        have KD1 := Lib.hid (fun (W : World) => ptDelta_any p key 1 W hp hp2 HKR.out (by omega))
        have KK1 := Lib.hid (fun (W : World) => ptKeys_any p key 1 W hp hp2 HKR.out (by omega))
        have dr1 := dlD_rng p key 1 hp
        generalize HDe : dlD p key 1 = D1 at KD1 dr1
        have HD1 := Lib.hid HDe
        clear HDe
        go_wp2_with fail
        refine (KD1.out _).mono ?_
        rintro e w2' ⟨rfl, u_w2'⟩
        replace B_r := B_r.below u_w2'
        replace B_p := B_p.below u_w2'
        replace OV := OV.below u_w2'
        replace ok := ok.below u_w2'
        have S_w2' := u_w2'.size
        have V_w2' : Below w.heap.size w w2' := V_wS17.trans (u_w2'.mono V_wS17.size)
        clear V_wS17
        clear u_w2'
        go_wp2_with fail
        refine (KK1.out _).mono ?_
        rintro e w3' ⟨a8, c8, rfl, o8, u_w3'⟩
        replace B_r := B_r.below u_w3'
        replace B_p := B_p.below u_w3'
        replace OV := OV.below u_w3'
        replace ok := ok.below u_w3'
        have S_w3' := u_w3'.size
        have V_w3' : Below w.heap.size w w3' := V_w2'.trans (u_w3'.mono V_w2'.size)
        clear V_w2'
        clear u_w3'
        have p8 : bx_p ∉ foot a8 c8 := fun hq => by have := (o8.feet _ hq).1; omega
        obtain ⟨g8, rfl, g0, g1, _, _, _⟩ := o8.at 0 (by omega)
        clear g0 g1
        clear KD KK KD1 KK1
        have QV := Lib.hid OV.feet
        have Qk := Lib.hid ok.feet
        have Q8 := Lib.hid o8.feet
        obtain ⟨N0, HN0⟩ : ∃ N0, N0 = w3'.heap.size := ⟨_, rfl⟩
        rw [← HN0] at QV Qk Q8
        have pN : bx_p < N0 := by rw [HN0]; exact B_p.lt
        have rN : w.heap.size < bx_p := by omega
        have NW : N0 ≤ w3'.heap.size := by rw [HN0]; exact Nat.le_refl _
        clear HN0
        have PV := Lib.hid pv
        have PK := Lib.hid kp
        have P8 := Lib.hid p8
        clear pv kp p8
        obtain ⟨dN, HdN⟩ : ∃ dN, dN = w5.heap.size := ⟨_, rfl⟩
        replace o8 := o8.lower (b' := w5.heap.size) (by omega)
        rw [← HdN] at ok o8
        have hdn : w.heap.size + 1 ≤ dN := by rw [HdN]; omega
        clear HdN
        go_wp2
        go_loopw [68] (fun v wr => ∃ k sa sc, k ≤ 5 ∧ v = .int .i64 (k : Nat) ∧ N0 ≤ wr.heap.size ∧ Below w.heap.size w wr ∧ Blk wr w.heap.size 31 #[.int .i64 0, .int .i64 0, .int .i64 0, .int .i64 0, .int .i64 0, .slice none 0 0, .slice none 0 0, .int .i64 0, .slice none 0 0, .int .i64 0, .int .i64 0] ∧ Blk wr bx_p 31 #[.int .i64 p, .int .i64 0, .int .i64 input, .int .i64 M, .int .i64 D, .slice sa k sc, .slice ka 5 kc, .int .i64 0, .slice none 0 0, .int .i64 0, .int .i64 0] ∧ Own wr gB (some ⟨gv, 0, none⟩) 5 c5 (dlL p key) ∧ Own wr dN ka 5 kc KL ∧ Own wr dN (some ⟨g8, 0, none⟩) 5 c8 (dlK p key 1 5) ∧ OwnF 2 eTagged wr N0 sa k sc (dlSh p key 0 k)) (fun v _ => 5 - (intOf v).toNat)
        case atStart => exact ⟨0, none, 0, by omega, rfl, NW, V_w3', B_r, B_p, OV, ok, o8, OwnC.nil0 _ _ _ _ _⟩
        case round =>
          obtain ⟨k, sa, sc, hk, rfl, NR, V_wr, B_r, B_p, OV, ok, o8, own⟩ := hrel
          by_cases hlt : k < 5
          · have hlt' : (k : Int) < 5 := by omega
            have HS : Hid (dlSh p key 0 (k + 1) = dlSh p key 0 k ++ [dlS p key 0 k, dlT p key 0 k]) := Lib.hid rfl
            have HW := Lib.hid (WB.key (a := 1) (b := (k : Int)) HKR.out (by omega) (by omega))
            have xv := OV.cellG k hlt
            have rX := dlL_at p key hp k hlt
            have rR := numI_range [key, 1, (k : Int), 61] p (by omega)
            have CD := Lib.hid (fun (W : World) => ptDraw_any key 1 k p W HW.out (by omega) (by omega))
            have rS := dlS_rng p key 0 k hp
            have rY := numI_range [key, 3 + 1, (k : Int), 61] p (by omega)
            have HSS : Hid (dlS p key 0 k = numI [key, 1, (k : Int), 61] p) := Lib.hid rfl
            have HTT : Hid (dlT p key 0 k = (dlS p key 0 k * D1 + numI [key, 3 + 1, (k : Int), 61] p) % p) := Lib.hid (by rw [← HD1.out]; rfl)
            have HY8 := Lib.hid (dlK_at p key 1 5 k hlt)
            generalize (dlL p key).getD k 0 = X at *
            generalize numI [key, 1, (k : Int), 61] p = R at *
            generalize numI [key, 3 + 1, (k : Int), 61] p = Y at *
            generalize dlS p key 0 k = s at *
            generalize dlT p key 0 k = T9 at *
            have dr0 := dr1
            have m0 : 0 ≤ s * D1 := Int.mul_nonneg rS.1 (by omega)
            have m1 : s * D1 ≤ 250 * 250 := Int.mul_le_mul (by omega) (by omega) (by omega) (by omega)
            have t1 : IntKind.i64.wrap (s * D1) = s * D1 := IntWalk.i64_in _ (by omega)
            have t2 : IntKind.i64.wrap (s * D1 + Y) = s * D1 + Y := IntWalk.i64_in _ (by omega)
            have t3 : (s * D1 + Y).tmod p = (s * D1 + Y) % p := Int.tmod_eq_emod_of_nonneg (by omega)
            have rT := emod_rng' (s * D1 + Y) p (by omega)
            have t4 : IntKind.i64.wrap ((s * D1 + Y) % p) = (s * D1 + Y) % p := IntWalk.i64_in _ (by omega)
            have z1 : (p = 0) = False := by simp; omega
            have z2 : ((p == 0) : Bool) = false := by simp; omega
            have tS : IntKind.i64.wrap (X - R) = X - R := IntWalk.i64_in _ (by omega)
            replace t1 := Lib.hid t1
            replace t2 := Lib.hid t2
            replace t3 := Lib.hid t3
            replace t4 := Lib.hid t4
            replace z1 := Lib.hid z1
            clear m0 m1
            go_wp2_with fail
            clear xv
            refine (CD.out _).mono ?_
            rintro e w4' ⟨rfl, u_w4'⟩
            replace B_r := B_r.below u_w4'
            replace B_p := B_p.below u_w4'
            replace OV := OV.below u_w4'
            replace ok := ok.below u_w4'
            replace o8 := o8.below u_w4'
            replace own := own.below u_w4'
            have S_w4' := u_w4'.size
            have V_w4' : Below w.heap.size w w4' := V_wr.trans (u_w4'.mono V_wr.size)
            clear V_wr
            clear u_w4'
            have HS9 := HSS.out
            subst HS9
            go_upto_region 15 with fail
            have t1 := t1.out
            have t2 := t2.out
            have t3 := t3.out
            have t4 := t4.out
            have z1 := z1.out
            have y8 := o8.cellG k hlt
            rw [HY8.out] at y8
            have QS := Lib.hid own.feet
            have NS := S_w4'
            have c5a := B_p.drew.cell 5
            have c5b := (B_p.alloc (.cells #[.int .i64 s, .int .i64 ((s * D1 + Y) % p)] 81)).cell 5
            have uA : Below w4'.heap.size w4' (w4'.drew.alloc (.cells #[.int .i64 s, .int .i64 ((s * D1 + Y) % p)] 81)) := (Below.refl _ _).drew.alloc (Nat.le_refl _) _
            have hNA : N0 ≤ (w4'.drew.alloc (.cells #[.int .i64 s, .int .i64 ((s * D1 + Y) % p)] 81)).heap.size := Nat.le_trans (by omega) uA.size
            have LIT := (OwnC.lit w4'.drew w4'.drew.heap.size 1 81 2 [.int .i64 s, .int .i64 ((s * D1 + Y) % p)] (Nat.le_refl _) rfl (by simp [maxLen])).row
            refine wp_region_noPanic ?_
            refine wp_region_held_drew (S := (fun W => W.cell? ⟨g8, k, none⟩ = some (.int .i64 Y))) (by kernel_rfl) ?hS26 (fun hHeld => ?go26)
            case hS26 => exact y8
            refine tk (i := 0) (oi := ⟨some 84, _, _, _, _, _⟩) (v := ?v0_27) hHeld rfl ?y0_27 ?r0_27
            case y0_27 => (intro w _; first | (go_simp; first | done | with_reducible rfl) | with_reducible rfl)
            (try simp only [pt_])
            refine tk (i := 2) (oi := ⟨some 86, _, _, _, _, _⟩) (v := ?v2_28) hHeld rfl ?y2_28 ?r2_28
            case y2_28 => (intro w _; first | (go_simp; first | done | with_reducible rfl) | with_reducible rfl)
            (try simp only [pt_])
            refine tk (i := 3) (oi := ⟨some 87, _, _, _, _, _⟩) (v := ?v3_29) hHeld rfl ?y3_29 ?r3_29
            case y3_29 => (intro w _; first | (go_simp; first | done | with_reducible rfl) | with_reducible rfl)
            (try simp only [pt_])
            refine tk (i := 4) (oi := ⟨some 88, _, _, _, _, _⟩) (v := ?v4_30) hHeld rfl ?y4_30 ?r4_30
            case y4_30 => (intro w _; first | (go_simp; first | done | with_reducible rfl) | with_reducible rfl)
            (try simp only [pt_])
            refine tk (i := 5) (oi := ⟨some 89, _, _, _, _, _⟩) (v := ?v5_31) hHeld rfl ?y5_31 ?r5_31
            case y5_31 => (intro w _; first | (go_simp; first | done | with_reducible rfl) | with_reducible rfl)
            (try simp only [pt_])
            refine tk (i := 6) (oi := ⟨some 90, _, _, _, _, _⟩) (v := ?v6_32) hHeld rfl ?y6_32 ?r6_32
            case y6_32 => (intro w _; first | (go_simp; first | done | with_reducible rfl) | with_reducible rfl)
            (try simp only [pt_])
            refine tk (i := 7) (oi := ⟨some 91, _, _, _, _, _⟩) (v := ?v7_33) hHeld rfl ?y7_33 ?r7_33
            case y7_33 => (intro w _; first | (go_simp; first | done | with_reducible rfl) | with_reducible rfl)
            (try simp only [pt_])
            refine tk (i := 8) (oi := ⟨some 92, _, _, _, _, _⟩) (v := ?v8_34) hHeld rfl ?y8_34 ?r8_34
            case y8_34 => (intro w _; first | (go_simp; first | done | with_reducible rfl) | with_reducible rfl)
            (try simp only [pt_])
            refine tk (i := 9) (oi := ⟨some 93, _, _, _, _, _⟩) (v := ?v9_35) hHeld rfl ?y9_35 ?r9_35
            case y9_35 => (intro w qS0; first | (go_simp; first | done | with_reducible rfl) | with_reducible rfl)
            (try simp only [pt_])
            refine tk (i := 10) (oi := ⟨some 94, _, _, _, _, _⟩) (v := ?v10_36) hHeld rfl ?y10_36 ?r10_36
            case y10_36 => (intro w _; first | (go_simp; first | done | with_reducible rfl) | with_reducible rfl)
            (try simp only [pt_])
            refine tk (i := 11) (oi := ⟨some 95, _, _, _, _, _⟩) (v := ?v11_37) hHeld rfl ?y11_37 ?r11_37
            case y11_37 => (intro w _; first | (go_simp; first | done | with_reducible rfl) | with_reducible rfl)
            (try simp only [pt_])
            refine tk (i := 12) (oi := ⟨some 96, _, _, _, _, _⟩) (v := ?v12_38) hHeld rfl ?y12_38 ?r12_38
            case y12_38 => (intro w _; first | (go_simp; first | done | with_reducible rfl) | with_reducible rfl)
            (try simp only [pt_])
            refine tk (i := 13) (oi := ⟨some 97, _, _, _, _, _⟩) (v := ?v13_39) hHeld rfl ?y13_39 ?r13_39
            case y13_39 => (intro w _; first | (go_simp; first | done | with_reducible rfl) | with_reducible rfl)
            (try simp only [pt_])
            refine wpAnyH_ready (rs := [1, 14]) (by kernel_rfl) (by simp) ?_
            refine AllReadyH.cons (o := ⟨some 85, _, _, _, _, _⟩) rfl (fun K hK => ?_) ?_
            go_simp
            refine hK.out _ _ ?_ (fun hHeld => ?_)
            · first | exact y8 | exact keepA _ y8 | exact y8g | exact y8s
            clear hK K
            (try simp only [pt_])
            refine wpAnyH_ready (rs := [14]) (by kernel_rfl) (by simp) ?_
            refine AllReadyH.cons (o := ⟨some 98, _, _, _, _, _⟩) rfl (fun K hK => ?_) ?_
            go_simp
            refine hK.out _ _ ?_ (fun hHeld => ?_)
            · first | exact y8 | exact keepA _ y8 | exact y8g | exact y8s
            clear hK K
            (try simp only [pt_])
            refine wpAnyH_ready (rs := [15]) (by kernel_rfl) (by simp) ?_
            refine AllReadyH.cons (o := ⟨some 99, _, _, _, _, _⟩) rfl (fun K hK => ?_) ?_
            refine step_appT rfl _ _ rfl N0 sa k sc _ rfl (own.below uA) _ 1 1 [.int .i64 s, .int .i64 ((s * D1 + Y) % p)] rfl LIT (by simp [Value.oneCell']) (by omega) hNA ?_
            intro a7 c7 w7 oc u7 g7 m7
            have G7 := Only.of_grown g7
            have B_p7 := (B_p.below uA).only G7 (fun hq => by have := (QS.out _ hq).1; omega)
            have o87 := (o8.below uA).only G7 (fun q hq hq' => by have := (Q8.out _ hq).2; have := (QS.out _ hq').1; omega)
            have y8g := o87.cellG k hlt
            rw [HY8.out] at y8g
            have j5 := B_p7.cell 5
            have f5 := B_p7.frozen 5
            refine hK.out _ _ ?_ (fun hHeld => ?_)
            · first | exact y8 | exact keepA _ y8 | exact y8g | exact y8s
            clear hK K
            (try simp only [pt_])
            refine tk (i := 16) (oi := ⟨some 100, _, _, _, _, _⟩) (v := ?v16_40) hHeld rfl ?y16_40 ?r16_40
            case y16_40 => (intro w _; first | (go_simp; first | done | with_reducible rfl) | with_reducible rfl)
            (try simp only [pt_])
            refine wpAnyH_ready (rs := [17]) (by kernel_rfl) (by simp) ?_
            refine AllReadyH.cons (o := ⟨none, _, _, _, _, _⟩) rfl (fun K hK => ?_) ?_
            have GS : Only [bx_p] w7 (w7.setCell ⟨bx_p, 5, none⟩ (.slice a7 (k + 1) c7)) := (Only.refl _ _).setCell _ _ (by simp)
            have B_pS := B_p7.set_ 5 (.slice a7 (k + 1) c7)
            go_simp
            generalize w7.setCell ⟨bx_p, 5, none⟩ (.slice a7 (k + 1) c7) = wS at *
            have y8s := (o87.only GS (fun q hq hq' => by simp at hq'; rw [hq'] at hq; exact P8.out hq)).cellG k hlt
            rw [HY8.out] at y8s
            refine hK.out _ _ ?_ (fun hHeld => ?_)
            · first | exact y8 | exact keepA _ y8 | exact y8g | exact y8s
            clear hK K
            (try simp only [pt_])
            refine wpAnyH_done (by kernel_rfl) ?_ _
            refine NoPanic.normal ?_
            rotate_left 1
            exact AllReadyH.nil
            exact AllReadyH.nil
            exact AllReadyH.nil
            refine AllReadyH.cons (o := ⟨some 98, _, _, _, _, _⟩) rfl (fun K hK => ?_) ?_
            go_simp
            refine hK.out _ _ ?_ (fun hHeld => ?_)
            · first | exact y8 | exact keepA _ y8 | exact y8g | exact y8s
            clear hK K
            (try simp only [pt_])
            refine wpAnyH_ready (rs := [1]) (by kernel_rfl) (by simp) ?_
            refine AllReadyH.cons (o := ⟨some 85, _, _, _, _, _⟩) rfl (fun K hK => ?_) ?_
            go_simp
            refine hK.out _ _ ?_ (fun hHeld => ?_)
            · first | exact y8 | exact keepA _ y8 | exact y8g | exact y8s
            clear hK K
            (try simp only [pt_])
            refine wpAnyH_ready (rs := [15]) (by kernel_rfl) (by simp) ?_
            refine AllReadyH.cons (o := ⟨some 99, _, _, _, _, _⟩) rfl (fun K hK => ?_) ?_
            refine step_appT rfl _ _ rfl N0 sa k sc _ rfl (own.below uA) _ 1 1 [.int .i64 s, .int .i64 ((s * D1 + Y) % p)] rfl LIT (by simp [Value.oneCell']) (by omega) hNA ?_
            intro a7 c7 w7 oc u7 g7 m7
            have G7 := Only.of_grown g7
            have B_p7 := (B_p.below uA).only G7 (fun hq => by have := (QS.out _ hq).1; omega)
            have o87 := (o8.below uA).only G7 (fun q hq hq' => by have := (Q8.out _ hq).2; have := (QS.out _ hq').1; omega)
            have y8g := o87.cellG k hlt
            rw [HY8.out] at y8g
            have j5 := B_p7.cell 5
            have f5 := B_p7.frozen 5
            refine hK.out _ _ ?_ (fun hHeld => ?_)
            · first | exact y8 | exact keepA _ y8 | exact y8g | exact y8s
            clear hK K
            (try simp only [pt_])
            refine tk (i := 16) (oi := ⟨some 100, _, _, _, _, _⟩) (v := ?v16_41) hHeld rfl ?y16_41 ?r16_41
            case y16_41 => (intro w _; first | (go_simp; first | done | with_reducible rfl) | with_reducible rfl)
            (try simp only [pt_])
            refine wpAnyH_ready (rs := [17]) (by kernel_rfl) (by simp) ?_
            refine AllReadyH.cons (o := ⟨none, _, _, _, _, _⟩) rfl (fun K hK => ?_) ?_
            have GS : Only [bx_p] w7 (w7.setCell ⟨bx_p, 5, none⟩ (.slice a7 (k + 1) c7)) := (Only.refl _ _).setCell _ _ (by simp)
            have B_pS := B_p7.set_ 5 (.slice a7 (k + 1) c7)
            go_simp
            generalize w7.setCell ⟨bx_p, 5, none⟩ (.slice a7 (k + 1) c7) = wS at *
            have y8s := (o87.only GS (fun q hq hq' => by simp at hq'; rw [hq'] at hq; exact P8.out hq)).cellG k hlt
            rw [HY8.out] at y8s
            refine hK.out _ _ ?_ (fun hHeld => ?_)
            · first | exact y8 | exact keepA _ y8 | exact y8g | exact y8s
            clear hK K
            (try simp only [pt_])
            refine wpAnyH_done (by kernel_rfl) ?_ _
            refine NoPanic.normal ?_
            rotate_left 1
            exact AllReadyH.nil
            exact AllReadyH.nil
            exact AllReadyH.nil
            exact AllReadyH.nil
            all_goals
              have GT : Only (bx_p :: foot sa sc) w4' wS := (Only.of_below uA).trans ((G7.more (fun q hq => List.mem_cons_of_mem _ hq)).trans (GS.more (fun q hq => by simp at hq; rw [hq]; exact List.mem_cons_self)))
              have hF : ∀ q ∈ bx_p :: foot sa sc, q = bx_p ∨ N0 ≤ q := fun q hq => by
                rcases List.mem_cons.1 hq with h | h
                · exact Or.inl h
                · exact Or.inr (QS.out _ h).1
              replace B_r := B_r.only GT (fun hq => by have := hF _ hq; omega)
              replace OV := OV.only GT (fun q hq hq' => by rcases hF _ hq' with h | h; (rw [h] at hq; exact PV.out hq); (have := (QV.out _ hq).2; omega))
              replace ok := ok.only GT (fun q hq hq' => by rcases hF _ hq' with h | h; (rw [h] at hq; exact PK.out hq); (have := (Qk.out _ hq).2; omega))
              replace o8 := o8.only GT (fun q hq hq' => by rcases hF _ hq' with h | h; (rw [h] at hq; exact P8.out hq); (have := (Q8.out _ hq).2; omega))
              have own2 : OwnF 2 eTagged w7 N0 a7 (k + 1) c7 (dlSh p key 0 (k + 1)) := by
                rw [HS.out, HTT.out]; unfold OwnF; rw [List.map_append]; exact oc
              replace own2 := own2.only GS (fun q hq hq' => by have := (OwnF.feet own2 _ hq).1; simp at hq'; omega)
              simp only [List.setIfInBounds_toArray, List.set_cons_zero, List.set_cons_succ] at B_pS
              have VS : Below w.heap.size w wS := (V_w4').trans (GT.below ((V_w4').size) (fun q hq => by have := hF _ hq; omega))
              have NS2 := GT.size
              clear GT hF G7 GS B_p7 o87 y8g y8s j5 f5 u7 g7 m7 oc own c5a c5b uA hNA LIT y8 t1 t2 t3 t4 z1
              go_wp2
              go_roundw
              case rel => exact ⟨k + 1, a7, c7, by omega, by go_num, by omega, VS, B_r, B_pS, OV, ok, o8, own2⟩
              case measure => simp [intOf]; omega
          · obtain rfl : k = 5 := by omega
            have Q_own := Lib.hid own.feet
            have Q5 := Lib.hid own.feet
            have e_p := B_p.all11
            have e_r := B_r.all11
            have f_r := B_r.frz11
            go_wp2
            clear e_p e_r f_r
            clear OV o8
            have Q_ok := Lib.hid (fun q (hq : q ∈ foot ka kc) => (show dN ≤ q ∧ q < wr.heap.size from ⟨(ok.feet q hq).1, (ok.feet q hq).2⟩))
            refine Exists.elim (B_r.row11 (.int .i64 p) (.int .i64 0) (.int .i64 input) (.int .i64 M) (.int .i64 D) (.slice sa 5 sc) (.slice ka 5 kc) (.int .i64 0) (.slice none 0 0) (.int .i64 0) (.int .i64 0)) (fun w5' q => ?_)
            rw [q.1]; replace B_r := q.2.1; have G := q.2.2; clear q
            have V_w5' := (V_wr).trans (G.below (V_wr).size (fun q hq => by have := (V_wr).size; simp at hq; omega))
            replace B_p := B_p.only G (by first | (simp; done) | (simp; omega))
            replace ok := ok.only G (fun q hq hq' => by have := Q_ok.out q hq; simp at hq'; omega)
            replace own := own.only G (fun q hq hq' => by have := Q_own.out q hq; simp at hq'; omega)
            have sG0 := G.size
            clear G
            clear V_wr
            have S_w5' : wr.heap.size + 0 ≤ w5'.heap.size := by omega
            clear sG0
            have e_r := B_r.all11
            have GO := own
            exact bodyPost_ret (v := .agg #[.int .i64 p, .int .i64 0, .int .i64 input, .int .i64 M, .int .i64 D, .slice sa 5 sc, .slice ka 5 kc, .int .i64 0, .slice none 0 0, .int .i64 0, .int .i64 0]) (by simp [results, Tryd.results81, go_sem, e_r]) rfl ⟨⟨sa, 5, sc, ka, 5, kc, none, 0, 0⟩, _, by rw [show dlP p key 0 input = ⟨p, 0, input, M, D, dlSh p key 0 5, KL, 0, [], 0, 0⟩ from by rw [HMM.out, ← HD.out, ← HKL.out]; rfl], PlO.mk2 (OwnF.lower own (by omega)) (by rw [show (dlP p key 0 input).keys = KL from HKL.out]; exact ok.lower (by omega)) (fun q hq hq' => by have := (Q5.out _ hq).1; have := (Qk.out _ hq').2; omega), V_w5'⟩
structure PtDe1D where
  l6 : Bool
  l10 : Bool
  l14 : Bool
  l15 : Bool
  l16 : Bool
  v6 : Value
  v10 : Value
  v14 : Value
  v15 : Value
  v16 : Value
  ka : Option Addr
  kc : Nat
  bx_p : Nat
structure PtDe1F (W0 : World) (gB : Nat) (gv : Nat) (c5 : Nat) (LV : List Int) (M : Int) (D : Int) (p : Int) (input : Int) (KL : List Int) (l6 : Bool) (l10 : Bool) (l14 : Bool) (l15 : Bool) (l16 : Bool) (v6 : Value) (v10 : Value) (v14 : Value) (v15 : Value) (v16 : Value) (ka : Option Addr) (kc : Nat) (bx_p : Nat) (wJ : World) : Prop where
  U : Below W0.heap.size W0 wJ
  k14_10 : l14 = true → l10 = true
  k15_6 : l15 = true → l6 = true
  k15_10 : l15 = true → l10 = true
  k15_14 : l15 = true → l14 = true
  vq6 : l6 = true → v6 = .int .i64 M
  vq10 : l10 = true → v10 = .int .i64 D
  vq14 : l14 = true → v14 = .slice ka 5 kc
  ok : l14 = true → Own wJ W0.heap.size ka 5 kc KL
  vq15 : l15 = true → v15 = .agg #[.int .i64 p, .int .i64 1, .int .i64 input, .int .i64 M, .int .i64 D, .slice none 0 0, .slice ka 5 kc, .int .i64 0, .slice none 0 0, .int .i64 0, .int .i64 0]
  vq16 : l16 = true → v16 = .pointer (some ⟨bx_p, 0, none⟩)
  Bp : l16 = true → Blk wJ bx_p 31 #[.int .i64 0, .int .i64 0, .int .i64 0, .int .i64 0, .int .i64 0, .slice none 0 0, .slice none 0 0, .int .i64 0, .slice none 0 0, .int .i64 0, .int .i64 0]
  hb_p : l16 = true → (W0.heap.size ≤ bx_p ∧ bx_p < wJ.heap.size)
  kp : l14 = true → l16 = true → bx_p ∉ foot ka kc
  pv : l16 = true → bx_p ∉ foot (some ⟨gv, 0, none⟩) c5
  OV : Own wJ gB (some ⟨gv, 0, none⟩) 5 c5 LV
  OM : LV.getD 1 0 = M
set_option maxHeartbeats 16000000 in
set_option maxRecDepth 100000 in
theorem ptDeal_1 (p key input : Int) (w : World) (hp : 2 ≤ p) (hp2 : p ≤ 251) (hk : 0 ≤ key ∧ key ≤ 1000000000) :
    Calls Tryd.prog 81 #[.int .i64 p, .int .i64 key, .int .i64 1, .int .i64 input] w fun e w' => ∃ y F, e = .returned (.agg #[.int .i64 (dlP p key 1 input).P, .int .i64 (dlP p key 1 input).party, .int .i64 (dlP p key 1 input).input, .int .i64 (dlP p key 1 input).mask, .int .i64 (dlP p key 1 input).delta, .slice y.sa y.sn y.sc, .slice y.ka y.kn y.kc, .int .i64 (dlP p key 1 input).step, .slice y.ha y.hn y.hc, .int .i64 (dlP p key 1 input).status, .int .i64 (dlP p key 1 input).out]) ∧ PlO w' w.heap.size y (dlP p key 1 input).shares (dlP p key 1 input).keys (dlP p key 1 input).heard F ∧ Below w.heap.size w w' := by
  have HKR := Lib.hid hk
  clear hk
  go_enter Tryd.func81, Tryd.ntmps81
  go_upto_region 1 with fail
  refine Exists.elim (Blk.new_ w (b := w.heap.size) rfl 31 #[.int .i64 0, .int .i64 0, .int .i64 0, .int .i64 0, .int .i64 0, .slice none 0 0, .slice none 0 0, .int .i64 0, .slice none 0 0, .int .i64 0, .int .i64 0]) (fun w1' q => ?_)
  rw [q.1]; have B_r := q.2.1; have s_w1' := q.2.2.1; have u_w1' := q.2.2.2; clear q
  have S_w1' : w.heap.size + 1 ≤ w1'.heap.size := Nat.le_of_eq s_w1'.symm
  have V_w1' := (Below.refl w.heap.size w).trans (u_w1'.mono ((Below.refl w.heap.size w)).size)
  clear u_w1' s_w1'
  go_wp2
  go_loopw [9, 10] (fun u v wr => ∃ k : Nat, k ≤ 4 ∧ v = .int .i64 k ∧ Below w1'.heap.size w1' wr ∧ ∃ a1 c1, u = .slice a1 k c1 ∧ Own wr w1'.heap.size a1 k c1 (dlQ p key k)) (fun _ v _ => 4 - (intOf v).toNat)
  case atStart => exact ⟨0, by omega, rfl, Below.refl _ _, _, _, rfl, Own.nil0 _ _ _⟩
  case round =>
    obtain ⟨k, hk, rfl, hbel, a1, c1, rfl, own⟩ := hrel
    by_cases hlt : k < 4
    · have hlt' : (k : Int) < 4 := by omega
      have HS := Lib.hid (dlQ_succ p key k)
      have HW := Lib.hid (WB.key (a := 0) (b := (k : Int)) HKR.out (by omega) (by omega))
      go_wp2_with fail
      refine (ptDraw_any key 0 k p _ HW.out (by omega) (by omega)).mono ?_; rintro e w2 ⟨rfl, u5⟩
      have own2 := own.below u5
      have b2 := hbel.trans (u5.mono hbel.size)
      clear own u5 hbel
      generalize numI [key, 0, (k : Int), 61] p = X at *
      go_wp2_with (at_builtin; refine wpList_appI _ rfl _ _ rfl w1'.heap.size a1 k c1 (dlQ p key k) rfl (own2.alloc _) _ 1 1 [X] rfl (Ints.lit1 _ _ _) (by omega) (by have := b2.size; simp; omega) ?_)
      intro a5 c5 w3 o5 u5 _
      have b3 := (b2.alloc b2.size (.cells #[.int .i64 X] 3)).trans u5
      clear u5 b2 own2
      go_wp2
      go_roundw
      case rel => exact ⟨k + 1, by omega, by go_num, b3, a5, c5, rfl, by rw [HS.out]; exact o5⟩
      case measure => simp [intOf]; omega
    · obtain rfl : k = 4 := by omega
      have WB0 := Lib.hid (Nat.le_refl w1'.heap.size)
      have O1 := Lib.hid (S_w1')
      have rx := numI_range [key, 0, 2, 61] p (by omega)
      have ry := numI_range [key, 0, 3, 61] p (by omega)
      obtain ⟨g, rfl, g0, g1, y0, _, _⟩ := own.at 2 (by omega)
      have y1 := own.cellG 3 (by omega)
      have HL : Hid (dlL p key = dlQ p key 4 ++ [numI [key, 0, 2, 61] p * numI [key, 0, 3, 61] p % p]) := Lib.hid rfl
      have HY0 : Hid ((dlQ p key 4).getD 2 0 = numI [key, 0, 2, 61] p) := Lib.hid rfl
      have HY1 : Hid ((dlQ p key 4).getD 3 0 = numI [key, 0, 3, 61] p) := Lib.hid rfl
      rw [HY0.out] at y0
      rw [HY1.out] at y1
      generalize numI [key, 0, 2, 61] p = X at *
      generalize numI [key, 0, 3, 61] p = Y at *
      have m0 : 0 ≤ X * Y := Int.mul_nonneg rx.1 ry.1
      have m1 : X * Y ≤ 250 * 250 := Int.mul_le_mul (by omega) (by omega) (by omega) (by omega)
      have t1 : IntKind.i64.wrap (X * Y) = X * Y := IntWalk.i64_in _ (by omega)
      have t2 : (X * Y).tmod p = X * Y % p := Int.tmod_eq_emod_of_nonneg m0
      have rz := emod_rng' (X * Y) p (by omega)
      have t3 : IntKind.i64.wrap (X * Y % p) = X * Y % p := IntWalk.i64_in _ (by omega)
      have z1 : (p = 0) = False := by simp; omega
      have z2 : ((p == 0) : Bool) = false := by simp; omega
      go_upto_region 6 with fail
      have B_r := B_r.below hbel
      have V_wr := V_w1'.trans (hbel.mono V_w1'.size)
      have S_wr := hbel.size
      obtain ⟨gB, HGB⟩ : ∃ gB, gB = w1'.heap.size := ⟨_, rfl⟩
      rw [← HGB] at own
      have hgb : gB ≤ wr.heap.size := by rw [HGB]; exact hbel.size
      have hgw : w.heap.size + 1 ≤ gB := by rw [HGB]; exact S_w1'
      clear HGB hbel
      refine wp_region_noPanic ?_
      refine wp_region_held_drew (S := (fun W => W.cell? ⟨g, 2, none⟩ = some (.int .i64 X) ∧ W.cell? ⟨g, 3, none⟩ = some (.int .i64 Y))) (by kernel_rfl) ?hS42 (fun hHeld => ?go42)
      case hS42 => exact ⟨y0, y1⟩
      refine tk (i := 0) (oi := ⟨some 28, _, _, _, _, _⟩) (v := ?v0_43) hHeld rfl ?y0_43 ?r0_43
      case y0_43 => (intro w _; first | (go_simp; first | done | with_reducible rfl) | with_reducible rfl)
      (try simp only [pt_])
      refine tk (i := 1) (oi := ⟨some 29, _, _, _, _, _⟩) (v := ?v1_44) hHeld rfl ?y1_44 ?r1_44
      case y1_44 => (intro w _; first | (go_simp; first | done | with_reducible rfl) | with_reducible rfl)
      (try simp only [pt_])
      refine tk (i := 2) (oi := ⟨some 30, _, _, _, _, _⟩) (v := ?v2_45) hHeld rfl ?y2_45 ?r2_45
      case y2_45 => (intro w _; first | (go_simp; first | done | with_reducible rfl) | with_reducible rfl)
      (try simp only [pt_])
      refine tk (i := 3) (oi := ⟨some 31, _, _, _, _, _⟩) (v := ?v3_46) hHeld rfl ?y3_46 ?r3_46
      case y3_46 => (intro w hSw; obtain ⟨qS0, qS1⟩ := hSw; first | (go_simp; first | done | with_reducible rfl) | with_reducible rfl)
      (try simp only [pt_])
      refine tk (i := 4) (oi := ⟨some 32, _, _, _, _, _⟩) (v := ?v4_47) hHeld rfl ?y4_47 ?r4_47
      case y4_47 => (intro w _; first | (go_simp; first | done | with_reducible rfl) | with_reducible rfl)
      (try simp only [pt_])
      refine tk (i := 5) (oi := ⟨some 33, _, _, _, _, _⟩) (v := ?v5_48) hHeld rfl ?y5_48 ?r5_48
      case y5_48 => (intro w _; first | (go_simp; first | done | with_reducible rfl) | with_reducible rfl)
      (try simp only [pt_])
      refine tk (i := 6) (oi := ⟨some 34, _, _, _, _, _⟩) (v := ?v6_49) hHeld rfl ?y6_49 ?r6_49
      case y6_49 => (intro w hSw; obtain ⟨qS0, qS1⟩ := hSw; first | (go_simp; first | done | with_reducible rfl) | with_reducible rfl)
      (try simp only [pt_])
      refine tk (i := 7) (oi := ⟨some 35, _, _, _, _, _⟩) (v := ?v7_50) hHeld rfl ?y7_50 ?r7_50
      case y7_50 => (intro w _; first | (go_simp; first | done | with_reducible rfl) | with_reducible rfl)
      (try simp only [pt_])
      refine tk (i := 8) (oi := ⟨some 36, _, _, _, _, _⟩) (v := ?v8_51) hHeld rfl ?y8_51 ?r8_51
      case y8_51 => (intro w _; first | (go_simp; first | done | with_reducible rfl) | with_reducible rfl)
      (try simp only [pt_])
      refine tk (i := 9) (oi := ⟨some 37, _, _, _, _, _⟩) (v := ?v9_52) hHeld rfl ?y9_52 ?r9_52
      case y9_52 => (intro w _; first | (go_simp; first | done | with_reducible rfl) | with_reducible rfl)
      (try simp only [pt_])
      refine wpAnyH_ready (rs := [10]) (by kernel_rfl) (by simp) ?_
      refine AllReadyH.cons (o := ⟨some 38, _, _, _, _, _⟩) rfl (fun K hK => ?_) ?_
      go_simp
      refine hK.out _ _ ?_ (fun hHeld => ?_)
      · exact ⟨keepA _ y0, keepA _ y1⟩
      clear hK K
      (try simp only [pt_])
      refine wpAnyH_ready (rs := [11]) (by kernel_rfl) (by simp) ?_
      refine AllReadyH.cons (o := ⟨some 39, _, _, _, _, _⟩) rfl (fun K hK => ?_) ?_
      have b2 : Below wr.heap.size wr (wr.drew.alloc (.cells #[.int .i64 (X * Y % p)] 3)) := (Below.refl _ _).drew.alloc (Nat.le_refl _) _
      refine step_appI _ rfl _ _ rfl gB _ 4 c1 (dlQ p key 4) rfl (own.drew.alloc _) _ 1 1 [X * Y % p] rfl (Ints.lit1 _ _ _) (by omega) (Nat.le_trans hgb b2.size) ?_
      intro a5 c5 w5 o5 u5 g5 i5
      have G5 := Only.of_grown g5
      have B_r5 := (Blk.below B_r b2).only G5 (fun hq => by have := (own.feet _ hq).1; omega)
      have b3 := (b2.mono hgb).trans u5
      clear G5
      have y0' := i5.cellG 2 (by omega)
      have y1' := i5.cellG 3 (by omega)
      rw [HY0.out] at y0'
      rw [HY1.out] at y1'
      clear b2 u5 g5 i5
      refine hK.out _ _ ?_ (fun hHeld => ?_)
      · exact ⟨y0', y1'⟩
      clear hK K
      (try simp only [pt_])
      refine tk (i := 12) (oi := ⟨some 9, _, _, _, _, _⟩) (v := ?v12_53) hHeld rfl ?y12_53 ?r12_53
      case y12_53 => (intro w _; first | (go_simp; first | done | with_reducible rfl) | with_reducible rfl)
      (try simp only [pt_])
      refine wpAnyH_done (by kernel_rfl) ?_ _
      refine NoPanic.normal ?_
      rotate_left 1
      exact AllReadyH.nil
      exact AllReadyH.nil
      clear y0 y1 y0' y1' t1 t2 t3 m0 m1 z1 z2 rx ry rz own g0 g1 HY0 HY1
      have o6 : Own w5 gB a5 5 c5 (dlL p key) := by rw [HL.out]; exact o5
      clear o5 HL
      have V5 := (V_wr).trans (b3.mono (by omega))
      have S5 := b3.size
      replace B_r := B_r5
      clear B_r5 b3
      obtain ⟨gv, rfl, g0, g1, _, _, _⟩ := o6.at 0 (by omega)
      have OV : Own w5 gB (some ⟨gv, 0, none⟩) 5 c5 (dlL p key) := o6
      have HM : Hid ((dlL p key).getD 1 0 = (dlL p key).getD 1 0) := Lib.hid rfl
      obtain ⟨M, hM⟩ : ∃ M, M = (dlL p key).getD 1 0 := ⟨_, rfl⟩
      have HMM := Lib.hid hM
      clear hM HM
      have KK := Lib.hid (fun (W : World) => ptKeys_any p key 1 W hp hp2 HKR.out (by omega))
      have KD := Lib.hid (fun (W : World) => ptDelta_any p key 1 W hp hp2 HKR.out (by omega))
      generalize HDe : dlD p key 1 = D at KD
      generalize HKe : dlK p key 1 5 = KL at KK
      have HD := Lib.hid HDe
      have HKL := Lib.hid HKe
      clear HDe HKe g0 g1
      go_upto_region 7 with fail
      refine wp_region_noPanic ?_
      refine wp_region_held_drew (S := (fun _ => True)) (by kernel_rfl) ?hS54 (fun hHeld => ?go54)
      case hS54 => trivial
      refine tk (i := 0) (oi := ⟨some 40, _, _, _, _, _⟩) (v := ?v0_55) hHeld rfl ?y0_55 ?r0_55
      case y0_55 => (intro w _; first | (go_simp; first | done | with_reducible rfl) | with_reducible rfl)
      (try simp only [pt_])
      refine tk (i := 1) (oi := ⟨some 41, _, _, _, _, _⟩) (v := ?v1_56) hHeld rfl ?y1_56 ?r1_56
      case y1_56 => (intro w _; first | (go_simp; first | done | with_reducible rfl) | with_reducible rfl)
      (try simp only [pt_])
      refine tk (i := 2) (oi := ⟨some 42, _, _, _, _, _⟩) (v := ?v2_57) hHeld rfl ?y2_57 ?r2_57
      case y2_57 => (intro w _; first | (go_simp; first | done | with_reducible rfl) | with_reducible rfl)
      (try simp only [pt_])
      refine tk (i := 3) (oi := ⟨some 43, _, _, _, _, _⟩) (v := ?v3_58) hHeld rfl ?y3_58 ?r3_58
      case y3_58 => (intro w _; first | (go_simp; first | done | with_reducible rfl) | with_reducible rfl)
      (try simp only [pt_])
      refine tk (i := 4) (oi := ⟨some 44, _, _, _, _, _⟩) (v := ?v4_59) hHeld rfl ?y4_59 ?r4_59
      case y4_59 => (intro w _; first | (go_simp; first | done | with_reducible rfl) | with_reducible rfl)
      (try simp only [pt_])
      refine tk (i := 5) (oi := ⟨some 45, _, _, _, _, _⟩) (v := ?v5_60) hHeld rfl ?y5_60 ?r5_60
      case y5_60 => (intro w _; first | (go_simp; first | done | with_reducible rfl) | with_reducible rfl)
      (try simp only [pt_])
      refine tk (i := 7) (oi := ⟨some 47, _, _, _, _, _⟩) (v := ?v7_61) hHeld rfl ?y7_61 ?r7_61
      case y7_61 => (intro w _; first | (go_simp; first | done | with_reducible rfl) | with_reducible rfl)
      (try simp only [pt_])
      refine tk (i := 8) (oi := ⟨some 48, _, _, _, _, _⟩) (v := ?v8_62) hHeld rfl ?y8_62 ?r8_62
      case y8_62 => (intro w _; first | (go_simp; first | done | with_reducible rfl) | with_reducible rfl)
      (try simp only [pt_])
      refine tk (i := 9) (oi := ⟨some 49, _, _, _, _, _⟩) (v := ?v9_63) hHeld rfl ?y9_63 ?r9_63
      case y9_63 => (intro w _; first | (go_simp; first | done | with_reducible rfl) | with_reducible rfl)
      (try simp only [pt_])
      refine tk (i := 11) (oi := ⟨some 51, _, _, _, _, _⟩) (v := ?v11_64) hHeld rfl ?y11_64 ?r11_64
      case y11_64 => (intro w _; first | (go_simp; first | done | with_reducible rfl) | with_reducible rfl)
      (try simp only [pt_])
      refine tk (i := 12) (oi := ⟨some 52, _, _, _, _, _⟩) (v := ?v12_65) hHeld rfl ?y12_65 ?r12_65
      case y12_65 => (intro w _; first | (go_simp; first | done | with_reducible rfl) | with_reducible rfl)
      (try simp only [pt_])
      refine tk (i := 13) (oi := ⟨some 53, _, _, _, _, _⟩) (v := ?v13_66) hHeld rfl ?y13_66 ?r13_66
      case y13_66 => (intro w _; first | (go_simp; first | done | with_reducible rfl) | with_reducible rfl)
      (try simp only [pt_])
      rotate_left 1
      refine wpAnyH_inv [6, 10, 14, 15, 16] #[true, true, true, true, true, true, false, true, true, true, false, true, true, true, false, false, false, false] #[true, true, true, true, true, true, true, true, true, true, true, true, true, true, true, true, true, false] 6 1 (fun (a0J : Act) (lJ : Array Bool) (aJ : Act) (wJ : World) => ∃ dJ : PtDe1D, lJ = #[true, true, true, true, true, true, dJ.l6, true, true, true, dJ.l10, true, true, true, dJ.l14, dJ.l15, dJ.l16, false] ∧ aJ = (((((a0J.put (some 46) dJ.v6).put (some 50) dJ.v10).put (some 54) dJ.v14).put (some 55) dJ.v15).put (some 11) dJ.v16) ∧ PtDe1F w5 gB gv c5 (dlL p key) M D p input KL dJ.l6 dJ.l10 dJ.l14 dJ.l15 dJ.l16 dJ.v6 dJ.v10 dJ.v14 dJ.v15 dJ.v16 dJ.ka dJ.kc dJ.bx_p wJ) (by kernel_rfl) (by kernel_rfl) (by kernel_rfl) (by kernel_rfl) (by kernel_rfl) ?hJ hHeld ?hi ?hs ?he
      case hJ => rintro lJ aJ wJ ⟨dJ, rfl, _⟩; exact ⟨[dJ.l6, dJ.l10, dJ.l14, dJ.l15, dJ.l16], rfl, rfl⟩
      case hi => exact ⟨⟨false, false, false, false, false, _, _, _, _, _, none, 0, 0⟩, rfl, (Act.selfs (Act.selfs (Act.selfs (Act.selfs (Act.selfs rfl 46) 50) 54) 55) 11), ⟨(Below.refl _ _).drew, fun q0 => (by cases q0), fun q0 => (by cases q0), fun q0 => (by cases q0), fun q0 => (by cases q0), fun q0 => (by cases q0), fun q0 => (by cases q0), fun q0 => (by cases q0), fun q0 => (by cases q0), fun q0 => (by cases q0), fun q0 => (by cases q0), fun q0 => (by cases q0), fun q0 => (by cases q0), fun q0 q1 => (by cases q0), fun q0 => (by cases q0), OV.drew, HMM.out.symm⟩⟩
      case hs =>
        refine StepsI.cons (o := ⟨some 46, _, _, _, _, _⟩) rfl ?_ ?_
        · intro lJ aJ wi K hS hJ hz0 hd hK
          obtain ⟨dJ, hJ⟩ := hJ
          obtain ⟨e1, hJ⟩ := hJ
          obtain ⟨e2, hF⟩ := hJ
          subst e1
          subst e2
          cases dJ with | mk l6 l10 l14 l15 l16 v6 v10 v14 v15 v16 ka kc bx_p =>
          replace hF : PtDe1F w5 gB gv c5 (dlL p key) M D p input KL l6 l10 l14 l15 l16 v6 v10 v14 v15 v16 ka kc bx_p wi := hF
          have U := hF.U
          have k14_10 := hF.k14_10
          have k15_6 := hF.k15_6
          have k15_10 := hF.k15_10
          have k15_14 := hF.k15_14
          have vq6 := hF.vq6
          have vq10 := hF.vq10
          have vq14 := hF.vq14
          have ok := hF.ok
          have vq15 := hF.vq15
          have vq16 := hF.vq16
          have Bp := hF.Bp
          have hb_p := hF.hb_p
          have kp := hF.kp
          have pv := hF.pv
          have OV := hF.OV
          have OM := hF.OM
          clear hF
          have e0 : l6 = false := hz0; subst e0
          clear hz0 hd
          (try simp only [Act.put, List.setIfInBounds_toArray, List.set_cons_zero, List.set_cons_succ])
          replace k14_10 := Lib.hid k14_10
          replace k15_10 := Lib.hid k15_10
          replace k15_14 := Lib.hid k15_14
          replace k15_6 := Lib.hid k15_6
          replace vq10 := Lib.hid vq10
          replace vq14 := Lib.hid vq14
          replace vq15 := Lib.hid vq15
          replace vq16 := Lib.hid vq16
          replace vq6 := Lib.hid vq6
          have c6 := OV.cellG 1 (by omega)
          rw [OM] at c6
          go_simp
          clear c6
          exact hK.out _ _ trivial ⟨⟨true, l10, l14, l15, l16, .int .i64 M, v10, v14, v15, v16, ka, kc, bx_p⟩, rfl, by kernel_rfl, (show PtDe1F w5 gB gv c5 (dlL p key) M D p input KL true l10 l14 l15 l16 (.int .i64 M) v10 v14 v15 v16 ka kc bx_p wi from ⟨(U), (fun nd14 => (k14_10.out nd14)), (fun nd15 => (by cases k15_6.out nd15)), (fun nd15 => (by cases k15_6.out nd15)), (fun nd15 => (by cases k15_6.out nd15)), (fun nd6 => rfl), (fun nd10 => (vq10.out nd10)), (fun nd14 => (vq14.out nd14)), (fun nd14 => (ok nd14)), (fun nd15 => (by cases k15_6.out nd15)), (fun nd16 => (vq16.out nd16)), (fun nd16 => (Bp nd16)), (fun nd16 => (hb_p nd16)), (fun nd14 nd16 => (kp nd14 nd16)), (fun nd16 => (pv nd16)), (OV), (OM)⟩)⟩
        refine StepsI.cons (o := ⟨some 50, _, _, _, _, _⟩) rfl ?_ ?_
        · intro lJ aJ wi K hS hJ hz0 hd hK
          obtain ⟨dJ, hJ⟩ := hJ
          obtain ⟨e1, hJ⟩ := hJ
          obtain ⟨e2, hF⟩ := hJ
          subst e1
          subst e2
          cases dJ with | mk l6 l10 l14 l15 l16 v6 v10 v14 v15 v16 ka kc bx_p =>
          replace hF : PtDe1F w5 gB gv c5 (dlL p key) M D p input KL l6 l10 l14 l15 l16 v6 v10 v14 v15 v16 ka kc bx_p wi := hF
          have U := hF.U
          have k14_10 := hF.k14_10
          have k15_6 := hF.k15_6
          have k15_10 := hF.k15_10
          have k15_14 := hF.k15_14
          have vq6 := hF.vq6
          have vq10 := hF.vq10
          have vq14 := hF.vq14
          have ok := hF.ok
          have vq15 := hF.vq15
          have vq16 := hF.vq16
          have Bp := hF.Bp
          have hb_p := hF.hb_p
          have kp := hF.kp
          have pv := hF.pv
          have OV := hF.OV
          have OM := hF.OM
          clear hF
          have e0 : l10 = false := hz0; subst e0
          clear hz0 hd
          (try simp only [Act.put, List.setIfInBounds_toArray, List.set_cons_zero, List.set_cons_succ])
          replace k14_10 := Lib.hid k14_10
          replace k15_10 := Lib.hid k15_10
          replace k15_14 := Lib.hid k15_14
          replace k15_6 := Lib.hid k15_6
          replace vq10 := Lib.hid vq10
          replace vq14 := Lib.hid vq14
          replace vq15 := Lib.hid vq15
          replace vq16 := Lib.hid vq16
          replace vq6 := Lib.hid vq6
          go_simp
          refine (KD.out _).mono ?_
          rintro e wo ⟨rfl, u⟩
          exact hK.out _ _ trivial ⟨⟨l6, true, l14, l15, l16, v6, .int .i64 D, v14, v15, v16, ka, kc, bx_p⟩, rfl, by kernel_rfl, (show PtDe1F w5 gB gv c5 (dlL p key) M D p input KL l6 true l14 l15 l16 v6 (.int .i64 D) v14 v15 v16 ka kc bx_p wo from ⟨((U).trans (u.mono (U).size)), (fun nd14 => (by cases k14_10.out nd14)), (fun nd15 => (by cases k15_10.out nd15)), (fun nd15 => (by cases k15_10.out nd15)), (fun nd15 => (by cases k15_10.out nd15)), (fun nd6 => (vq6.out nd6)), (fun nd10 => rfl), (fun nd14 => (by cases k14_10.out nd14)), (fun nd14 => (by cases k14_10.out nd14)), (fun nd15 => (by cases k15_10.out nd15)), (fun nd16 => (vq16.out nd16)), (fun nd16 => ((Bp nd16)).below u), (fun nd16 => ⟨((hb_p nd16)).1, Nat.lt_of_lt_of_le ((hb_p nd16)).2 u.size⟩), (fun nd14 nd16 => (by cases k14_10.out nd14)), (fun nd16 => (pv nd16)), ((OV).below u), (OM)⟩)⟩
        refine StepsI.cons (o := ⟨some 54, _, _, _, _, _⟩) rfl ?_ ?_
        · intro lJ aJ wi K hS hJ hz0 hd hK
          obtain ⟨dJ, hJ⟩ := hJ
          obtain ⟨e1, hJ⟩ := hJ
          obtain ⟨e2, hF⟩ := hJ
          subst e1
          subst e2
          cases dJ with | mk l6 l10 l14 l15 l16 v6 v10 v14 v15 v16 ka kc bx_p =>
          replace hF : PtDe1F w5 gB gv c5 (dlL p key) M D p input KL l6 l10 l14 l15 l16 v6 v10 v14 v15 v16 ka kc bx_p wi := hF
          have U := hF.U
          have k14_10 := hF.k14_10
          have k15_6 := hF.k15_6
          have k15_10 := hF.k15_10
          have k15_14 := hF.k15_14
          have vq6 := hF.vq6
          have vq10 := hF.vq10
          have vq14 := hF.vq14
          have ok := hF.ok
          have vq15 := hF.vq15
          have vq16 := hF.vq16
          have Bp := hF.Bp
          have hb_p := hF.hb_p
          have kp := hF.kp
          have pv := hF.pv
          have OV := hF.OV
          have OM := hF.OM
          clear hF
          have e0 : l14 = false := hz0; subst e0
          have e10 : l10 = true := hd 10 (by kernel_rfl); subst e10
          clear hz0 hd
          (try simp only [Act.put, List.setIfInBounds_toArray, List.set_cons_zero, List.set_cons_succ])
          replace k14_10 := Lib.hid k14_10
          replace k15_10 := Lib.hid k15_10
          replace k15_14 := Lib.hid k15_14
          replace k15_6 := Lib.hid k15_6
          replace vq10 := Lib.hid vq10
          replace vq14 := Lib.hid vq14
          replace vq15 := Lib.hid vq15
          replace vq16 := Lib.hid vq16
          replace vq6 := Lib.hid vq6
          go_simp
          refine (KK.out _).mono ?_
          rintro e wo ⟨ka', kc', rfl, n1, u⟩
          exact hK.out _ _ trivial ⟨⟨l6, true, true, l15, l16, v6, v10, .slice ka' 5 kc', v15, v16, ka', kc', bx_p⟩, rfl, by kernel_rfl, (show PtDe1F w5 gB gv c5 (dlL p key) M D p input KL l6 true true l15 l16 v6 v10 (.slice ka' 5 kc') v15 v16 ka' kc' bx_p wo from ⟨((U).trans (u.mono (U).size)), (fun nd14 => rfl), (fun nd15 => (by cases k15_14.out nd15)), (fun nd15 => (by cases k15_14.out nd15)), (fun nd15 => (by cases k15_14.out nd15)), (fun nd6 => (vq6.out nd6)), (fun nd10 => (vq10.out nd10)), (fun nd14 => rfl), (fun nd14 => n1.lower U.size), (fun nd15 => (by cases k15_14.out nd15)), (fun nd16 => (vq16.out nd16)), (fun nd16 => ((Bp nd16)).below u), (fun nd16 => ⟨((hb_p nd16)).1, Nat.lt_of_lt_of_le ((hb_p nd16)).2 u.size⟩), (fun nd14 nd16 => fun hq => by have := n1.feet _ hq; have := (hb_p nd16).2; omega), (fun nd16 => (pv nd16)), ((OV).below u), (OM)⟩)⟩
        refine StepsI.cons (o := ⟨some 55, _, _, _, _, _⟩) rfl ?_ ?_
        · intro lJ aJ wi K hS hJ hz0 hd hK
          obtain ⟨dJ, hJ⟩ := hJ
          obtain ⟨e1, hJ⟩ := hJ
          obtain ⟨e2, hF⟩ := hJ
          subst e1
          subst e2
          cases dJ with | mk l6 l10 l14 l15 l16 v6 v10 v14 v15 v16 ka kc bx_p =>
          replace hF : PtDe1F w5 gB gv c5 (dlL p key) M D p input KL l6 l10 l14 l15 l16 v6 v10 v14 v15 v16 ka kc bx_p wi := hF
          have U := hF.U
          have k14_10 := hF.k14_10
          have k15_6 := hF.k15_6
          have k15_10 := hF.k15_10
          have k15_14 := hF.k15_14
          have vq6 := hF.vq6
          have vq10 := hF.vq10
          have vq14 := hF.vq14
          have ok := hF.ok
          have vq15 := hF.vq15
          have vq16 := hF.vq16
          have Bp := hF.Bp
          have hb_p := hF.hb_p
          have kp := hF.kp
          have pv := hF.pv
          have OV := hF.OV
          have OM := hF.OM
          clear hF
          have e0 : l15 = false := hz0; subst e0
          have e6 : l6 = true := hd 6 (by kernel_rfl); subst e6
          have e10 : l10 = true := hd 10 (by kernel_rfl); subst e10
          have e14 : l14 = true := hd 14 (by kernel_rfl); subst e14
          clear hz0 hd
          (try simp only [Act.put, List.setIfInBounds_toArray, List.set_cons_zero, List.set_cons_succ])
          have g' := vq6 rfl; subst g'
          have g' := vq10 rfl; subst g'
          have g' := vq14 rfl; subst g'
          replace k14_10 := Lib.hid k14_10
          replace k15_10 := Lib.hid k15_10
          replace k15_14 := Lib.hid k15_14
          replace k15_6 := Lib.hid k15_6
          replace vq10 := Lib.hid vq10
          replace vq14 := Lib.hid vq14
          replace vq15 := Lib.hid vq15
          replace vq16 := Lib.hid vq16
          replace vq6 := Lib.hid vq6
          go_simp
          exact hK.out _ _ trivial ⟨⟨true, true, true, true, l16, .int .i64 M, .int .i64 D, .slice ka 5 kc, .agg #[.int .i64 p, .int .i64 1, .int .i64 input, .int .i64 M, .int .i64 D, .slice none 0 0, .slice ka 5 kc, .int .i64 0, .slice none 0 0, .int .i64 0, .int .i64 0], v16, ka, kc, bx_p⟩, rfl, by kernel_rfl, (show PtDe1F w5 gB gv c5 (dlL p key) M D p input KL true true true true l16 (.int .i64 M) (.int .i64 D) (.slice ka 5 kc) (.agg #[.int .i64 p, .int .i64 1, .int .i64 input, .int .i64 M, .int .i64 D, .slice none 0 0, .slice ka 5 kc, .int .i64 0, .slice none 0 0, .int .i64 0, .int .i64 0]) v16 ka kc bx_p wi from ⟨(U), (fun nd14 => (k14_10.out nd14)), (fun nd15 => rfl), (fun nd15 => rfl), (fun nd15 => rfl), (fun nd6 => (vq6.out nd6)), (fun nd10 => (vq10.out nd10)), (fun nd14 => (vq14.out nd14)), (fun nd14 => (ok nd14)), (fun nd15 => rfl), (fun nd16 => (vq16.out nd16)), (fun nd16 => (Bp nd16)), (fun nd16 => (hb_p nd16)), (fun nd14 nd16 => (kp nd14 nd16)), (fun nd16 => (pv nd16)), (OV), (OM)⟩)⟩
        refine StepsI.cons (o := ⟨some 11, _, _, _, _, _⟩) rfl ?_ ?_
        · intro lJ aJ wi K hS hJ hz0 hd hK
          obtain ⟨dJ, hJ⟩ := hJ
          obtain ⟨e1, hJ⟩ := hJ
          obtain ⟨e2, hF⟩ := hJ
          subst e1
          subst e2
          cases dJ with | mk l6 l10 l14 l15 l16 v6 v10 v14 v15 v16 ka kc bx_p =>
          replace hF : PtDe1F w5 gB gv c5 (dlL p key) M D p input KL l6 l10 l14 l15 l16 v6 v10 v14 v15 v16 ka kc bx_p wi := hF
          have U := hF.U
          have k14_10 := hF.k14_10
          have k15_6 := hF.k15_6
          have k15_10 := hF.k15_10
          have k15_14 := hF.k15_14
          have vq6 := hF.vq6
          have vq10 := hF.vq10
          have vq14 := hF.vq14
          have ok := hF.ok
          have vq15 := hF.vq15
          have vq16 := hF.vq16
          have Bp := hF.Bp
          have hb_p := hF.hb_p
          have kp := hF.kp
          have pv := hF.pv
          have OV := hF.OV
          have OM := hF.OM
          clear hF
          have e0 : l16 = false := hz0; subst e0
          clear hz0 hd
          (try simp only [Act.put, List.setIfInBounds_toArray, List.set_cons_zero, List.set_cons_succ])
          replace k14_10 := Lib.hid k14_10
          replace k15_10 := Lib.hid k15_10
          replace k15_14 := Lib.hid k15_14
          replace k15_6 := Lib.hid k15_6
          replace vq10 := Lib.hid vq10
          replace vq14 := Lib.hid vq14
          replace vq15 := Lib.hid vq15
          replace vq16 := Lib.hid vq16
          replace vq6 := Lib.hid vq6
          go_simp
          refine Exists.elim (Blk.new_ wi rfl 31 #[.int .i64 0, .int .i64 0, .int .i64 0, .int .i64 0, .int .i64 0, .slice none 0 0, .slice none 0 0, .int .i64 0, .slice none 0 0, .int .i64 0, .int .i64 0]) (fun wo q => ?_)
          rw [q.1]
          have B_p := q.2.1; have u := q.2.2.2; have ha : wi.heap.size < wo.heap.size := Nat.le_of_eq q.2.2.1.symm; clear q
          exact hK.out _ _ trivial ⟨⟨l6, l10, l14, l15, true, v6, v10, v14, v15, .pointer (some ⟨wi.heap.size, 0, none⟩), ka, kc, wi.heap.size⟩, rfl, by kernel_rfl, (show PtDe1F w5 gB gv c5 (dlL p key) M D p input KL l6 l10 l14 l15 true v6 v10 v14 v15 (.pointer (some ⟨wi.heap.size, 0, none⟩)) ka kc wi.heap.size wo from ⟨((U).trans (u.mono (U).size)), (fun nd14 => (k14_10.out nd14)), (fun nd15 => (k15_6.out nd15)), (fun nd15 => (k15_10.out nd15)), (fun nd15 => (k15_14.out nd15)), (fun nd6 => (vq6.out nd6)), (fun nd10 => (vq10.out nd10)), (fun nd14 => (vq14.out nd14)), (fun nd14 => ((ok nd14)).below u), (fun nd15 => (vq15.out nd15)), (fun nd16 => rfl), (fun nd16 => B_p), (fun nd16 => ⟨U.size, ha⟩), (fun nd14 nd16 => fun hq => by have := (ok nd14).feet _ hq; omega), (fun nd16 => fun hq => by have := OV.feet _ hq; omega), ((OV).below u), (OM)⟩)⟩
        exact StepsI.nil
      case he =>
        intro aJ wc hS hJ
        obtain ⟨dJ, hJ⟩ := hJ
        obtain ⟨hl, hJ⟩ := hJ
        obtain ⟨e2, hF⟩ := hJ
        subst e2
        cases dJ with | mk l6 l10 l14 l15 l16 v6 v10 v14 v15 v16 ka kc bx_p =>
        replace hF : PtDe1F w5 gB gv c5 (dlL p key) M D p input KL l6 l10 l14 l15 l16 v6 v10 v14 v15 v16 ka kc bx_p wc := hF
        have U := hF.U
        have k14_10 := hF.k14_10
        have k15_6 := hF.k15_6
        have k15_10 := hF.k15_10
        have k15_14 := hF.k15_14
        have vq6 := hF.vq6
        have vq10 := hF.vq10
        have vq14 := hF.vq14
        have ok := hF.ok
        have vq15 := hF.vq15
        have vq16 := hF.vq16
        have Bp := hF.Bp
        have hb_p := hF.hb_p
        have kp := hF.kp
        have pv := hF.pv
        have OV := hF.OV
        have OM := hF.OM
        clear hF
        have e6 : true = l6 := congrArg (fun q : Array Bool => q.getD 6 true) hl; subst e6
        have e10 : true = l10 := congrArg (fun q : Array Bool => q.getD 10 true) hl; subst e10
        have e14 : true = l14 := congrArg (fun q : Array Bool => q.getD 14 true) hl; subst e14
        have e15 : true = l15 := congrArg (fun q : Array Bool => q.getD 15 true) hl; subst e15
        have e16 : true = l16 := congrArg (fun q : Array Bool => q.getD 16 true) hl; subst e16
        clear hl k14_10 k15_6 k15_10 k15_14
        replace vq6 := vq6 rfl
        replace vq10 := vq10 rfl
        replace vq14 := vq14 rfl
        replace ok := ok rfl
        replace vq15 := vq15 rfl
        replace vq16 := vq16 rfl
        replace Bp := Bp rfl
        replace hb_p := hb_p rfl
        replace kp := kp rfl rfl
        replace pv := pv rfl
        have hHeld := hS; clear hS
        (try simp only [Act.put, List.setIfInBounds_toArray, List.set_cons_zero, List.set_cons_succ])
        subst vq6 vq10 vq14 vq15 vq16
        have B_p := Bp; clear Bp
        have G_all : Only [bx_p] wc wc := Only.refl _ _
        refine wpAnyH_ready (rs := [17]) (by kernel_rfl) (by simp) ?_
        refine AllReadyH.cons (o := ⟨none, _, _, _, _, _⟩) rfl (fun K hK => ?_) ?_
        refine step_st B_p (by simp [Region.wanted]) _ _ _ (by rfl) (by rfl) (by rfl) (by kernel_rfl) (by rfl) (by simp [Value.oneCell']) ?_
        intro wS17 B_p' G
        replace B_p := B_p'; clear B_p'
        replace ok := ok.only G (fun q hq hq' => by simp at hq'; rw [hq'] at hq; exact kp hq)
        replace OV := OV.only G (fun q hq hq' => by simp at hq'; rw [hq'] at hq; exact pv hq)
        replace G_all := G_all.trans (G.more (F' := [bx_p]) (by simp))
        clear G
        refine hK.out _ _ trivial (fun hHeld => ?_)
        clear hK K
        (try simp only [pt_])
        refine wpAnyH_done (by kernel_rfl) ?_ _
        refine NoPanic.normal ?_
        rotate_left 1
        exact AllReadyH.nil
        have u_all : Below w5.heap.size w5 wS17 := U.trans (G_all.below U.size (by intro q hq; simp at hq; omega))
        clear U G_all hHeld
        have hbp := hb_p.1
        clear hb_p
        have pB := B_p.lt
        replace B_r := B_r.below u_all
        replace o6 := o6.below u_all
        have S_wS17 := u_all.size
        have V_wS17 : Below w.heap.size w wS17 := V5.trans (u_all.mono V5.size)
        clear V5
        clear u_all
        clear o6
        have KD1 := Lib.hid (fun (W : World) => ptDelta_any p key 0 W hp hp2 HKR.out (by omega))
        have KK1 := Lib.hid (fun (W : World) => ptKeys_any p key 0 W hp hp2 HKR.out (by omega))
        have dr1 := dlD_rng p key 0 hp
        generalize HDe : dlD p key 0 = D1 at KD1 dr1
        have HD1 := Lib.hid HDe
        clear HDe
        go_wp2_with fail
        refine (KD1.out _).mono ?_
        rintro e w2' ⟨rfl, u_w2'⟩
        replace B_r := B_r.below u_w2'
        replace B_p := B_p.below u_w2'
        replace OV := OV.below u_w2'
        replace ok := ok.below u_w2'
        have S_w2' := u_w2'.size
        have V_w2' : Below w.heap.size w w2' := V_wS17.trans (u_w2'.mono V_wS17.size)
        clear V_wS17
        clear u_w2'
        go_wp2_with fail
        refine (KK1.out _).mono ?_
        rintro e w3' ⟨a8, c8, rfl, o8, u_w3'⟩
        replace B_r := B_r.below u_w3'
        replace B_p := B_p.below u_w3'
        replace OV := OV.below u_w3'
        replace ok := ok.below u_w3'
        have S_w3' := u_w3'.size
        have V_w3' : Below w.heap.size w w3' := V_w2'.trans (u_w3'.mono V_w2'.size)
        clear V_w2'
        clear u_w3'
        have p8 : bx_p ∉ foot a8 c8 := fun hq => by have := (o8.feet _ hq).1; omega
        obtain ⟨g8, rfl, g0, g1, _, _, _⟩ := o8.at 0 (by omega)
        clear g0 g1
        clear KD KK KD1 KK1
        have QV := Lib.hid OV.feet
        have Qk := Lib.hid ok.feet
        have Q8 := Lib.hid o8.feet
        obtain ⟨N0, HN0⟩ : ∃ N0, N0 = w3'.heap.size := ⟨_, rfl⟩
        rw [← HN0] at QV Qk Q8
        have pN : bx_p < N0 := by rw [HN0]; exact B_p.lt
        have rN : w.heap.size < bx_p := by omega
        have NW : N0 ≤ w3'.heap.size := by rw [HN0]; exact Nat.le_refl _
        clear HN0
        have PV := Lib.hid pv
        have PK := Lib.hid kp
        have P8 := Lib.hid p8
        clear pv kp p8
        obtain ⟨dN, HdN⟩ : ∃ dN, dN = w5.heap.size := ⟨_, rfl⟩
        replace o8 := o8.lower (b' := w5.heap.size) (by omega)
        rw [← HdN] at ok o8
        have hdn : w.heap.size + 1 ≤ dN := by rw [HdN]; omega
        clear HdN
        go_wp2
        go_loopw [68] (fun v wr => ∃ k sa sc, k ≤ 5 ∧ v = .int .i64 (k : Nat) ∧ N0 ≤ wr.heap.size ∧ Below w.heap.size w wr ∧ Blk wr w.heap.size 31 #[.int .i64 0, .int .i64 0, .int .i64 0, .int .i64 0, .int .i64 0, .slice none 0 0, .slice none 0 0, .int .i64 0, .slice none 0 0, .int .i64 0, .int .i64 0] ∧ Blk wr bx_p 31 #[.int .i64 p, .int .i64 1, .int .i64 input, .int .i64 M, .int .i64 D, .slice sa k sc, .slice ka 5 kc, .int .i64 0, .slice none 0 0, .int .i64 0, .int .i64 0] ∧ Own wr gB (some ⟨gv, 0, none⟩) 5 c5 (dlL p key) ∧ Own wr dN ka 5 kc KL ∧ Own wr dN (some ⟨g8, 0, none⟩) 5 c8 (dlK p key 0 5) ∧ OwnF 2 eTagged wr N0 sa k sc (dlSh p key 1 k)) (fun v _ => 5 - (intOf v).toNat)
        case atStart => exact ⟨0, none, 0, by omega, rfl, NW, V_w3', B_r, B_p, OV, ok, o8, OwnC.nil0 _ _ _ _ _⟩
        case round =>
          obtain ⟨k, sa, sc, hk, rfl, NR, V_wr, B_r, B_p, OV, ok, o8, own⟩ := hrel
          by_cases hlt : k < 5
          · have hlt' : (k : Int) < 5 := by omega
            have HS : Hid (dlSh p key 1 (k + 1) = dlSh p key 1 k ++ [dlS p key 1 k, dlT p key 1 k]) := Lib.hid rfl
            have HW := Lib.hid (WB.key (a := 1) (b := (k : Int)) HKR.out (by omega) (by omega))
            have xv := OV.cellG k hlt
            have rX := dlL_at p key hp k hlt
            have rR := numI_range [key, 1, (k : Int), 61] p (by omega)
            have CD := Lib.hid (fun (W : World) => ptDraw_any key 1 k p W HW.out (by omega) (by omega))
            have rS := dlS_rng p key 1 k hp
            have rY := numI_range [key, 3 + 0, (k : Int), 61] p (by omega)
            have HSS : Hid (dlS p key 1 k = ((dlL p key).getD k 0 - numI [key, 1, (k : Int), 61] p) % p) := Lib.hid rfl
            have HTT : Hid (dlT p key 1 k = (dlS p key 1 k * D1 + numI [key, 3 + 0, (k : Int), 61] p) % p) := Lib.hid (by rw [← HD1.out]; rfl)
            have HY8 := Lib.hid (dlK_at p key 0 5 k hlt)
            generalize (dlL p key).getD k 0 = X at *
            generalize numI [key, 1, (k : Int), 61] p = R at *
            generalize numI [key, 3 + 0, (k : Int), 61] p = Y at *
            generalize dlS p key 1 k = s at *
            generalize dlT p key 1 k = T9 at *
            have dr0 := dr1
            have m0 : 0 ≤ s * D1 := Int.mul_nonneg rS.1 (by omega)
            have m1 : s * D1 ≤ 250 * 250 := Int.mul_le_mul (by omega) (by omega) (by omega) (by omega)
            have t1 : IntKind.i64.wrap (s * D1) = s * D1 := IntWalk.i64_in _ (by omega)
            have t2 : IntKind.i64.wrap (s * D1 + Y) = s * D1 + Y := IntWalk.i64_in _ (by omega)
            have t3 : (s * D1 + Y).tmod p = (s * D1 + Y) % p := Int.tmod_eq_emod_of_nonneg (by omega)
            have rT := emod_rng' (s * D1 + Y) p (by omega)
            have t4 : IntKind.i64.wrap ((s * D1 + Y) % p) = (s * D1 + Y) % p := IntWalk.i64_in _ (by omega)
            have z1 : (p = 0) = False := by simp; omega
            have z2 : ((p == 0) : Bool) = false := by simp; omega
            have tS : IntKind.i64.wrap (X - R) = X - R := IntWalk.i64_in _ (by omega)
            replace t1 := Lib.hid t1
            replace t2 := Lib.hid t2
            replace t3 := Lib.hid t3
            replace t4 := Lib.hid t4
            replace z1 := Lib.hid z1
            clear m0 m1
            go_wp2_with fail
            clear xv
            refine (CD.out _).mono ?_
            rintro e w4' ⟨rfl, u_w4'⟩
            replace B_r := B_r.below u_w4'
            replace B_p := B_p.below u_w4'
            replace OV := OV.below u_w4'
            replace ok := ok.below u_w4'
            replace o8 := o8.below u_w4'
            replace own := own.below u_w4'
            have S_w4' := u_w4'.size
            have V_w4' : Below w.heap.size w w4' := V_wr.trans (u_w4'.mono V_wr.size)
            clear V_wr
            clear u_w4'
            go_wp2_with fail
            refine (btMod_same _ _ _ (by omega) (by omega)).mono ?_
            rintro e w_q ⟨rfl, hwq⟩
            replace hwq := hwq.symm
            subst hwq
            have HS9 := HSS.out
            rw [← HS9]
            clear HS9
            go_upto_region 15 with fail
            have t1 := t1.out
            have t2 := t2.out
            have t3 := t3.out
            have t4 := t4.out
            have z1 := z1.out
            have y8 := o8.cellG k hlt
            rw [HY8.out] at y8
            have QS := Lib.hid own.feet
            have NS := S_w4'
            have c5a := B_p.drew.cell 5
            have c5b := (B_p.alloc (.cells #[.int .i64 s, .int .i64 ((s * D1 + Y) % p)] 81)).cell 5
            have uA : Below w4'.heap.size w4' (w4'.drew.alloc (.cells #[.int .i64 s, .int .i64 ((s * D1 + Y) % p)] 81)) := (Below.refl _ _).drew.alloc (Nat.le_refl _) _
            have hNA : N0 ≤ (w4'.drew.alloc (.cells #[.int .i64 s, .int .i64 ((s * D1 + Y) % p)] 81)).heap.size := Nat.le_trans (by omega) uA.size
            have LIT := (OwnC.lit w4'.drew w4'.drew.heap.size 1 81 2 [.int .i64 s, .int .i64 ((s * D1 + Y) % p)] (Nat.le_refl _) rfl (by simp [maxLen])).row
            refine wp_region_noPanic ?_
            refine wp_region_held_drew (S := (fun W => W.cell? ⟨g8, k, none⟩ = some (.int .i64 Y))) (by kernel_rfl) ?hS67 (fun hHeld => ?go67)
            case hS67 => exact y8
            refine tk (i := 0) (oi := ⟨some 84, _, _, _, _, _⟩) (v := ?v0_68) hHeld rfl ?y0_68 ?r0_68
            case y0_68 => (intro w _; first | (go_simp; first | done | with_reducible rfl) | with_reducible rfl)
            (try simp only [pt_])
            refine tk (i := 2) (oi := ⟨some 86, _, _, _, _, _⟩) (v := ?v2_69) hHeld rfl ?y2_69 ?r2_69
            case y2_69 => (intro w _; first | (go_simp; first | done | with_reducible rfl) | with_reducible rfl)
            (try simp only [pt_])
            refine tk (i := 3) (oi := ⟨some 87, _, _, _, _, _⟩) (v := ?v3_70) hHeld rfl ?y3_70 ?r3_70
            case y3_70 => (intro w _; first | (go_simp; first | done | with_reducible rfl) | with_reducible rfl)
            (try simp only [pt_])
            refine tk (i := 4) (oi := ⟨some 88, _, _, _, _, _⟩) (v := ?v4_71) hHeld rfl ?y4_71 ?r4_71
            case y4_71 => (intro w _; first | (go_simp; first | done | with_reducible rfl) | with_reducible rfl)
            (try simp only [pt_])
            refine tk (i := 5) (oi := ⟨some 89, _, _, _, _, _⟩) (v := ?v5_72) hHeld rfl ?y5_72 ?r5_72
            case y5_72 => (intro w _; first | (go_simp; first | done | with_reducible rfl) | with_reducible rfl)
            (try simp only [pt_])
            refine tk (i := 6) (oi := ⟨some 90, _, _, _, _, _⟩) (v := ?v6_73) hHeld rfl ?y6_73 ?r6_73
            case y6_73 => (intro w _; first | (go_simp; first | done | with_reducible rfl) | with_reducible rfl)
            (try simp only [pt_])
            refine tk (i := 7) (oi := ⟨some 91, _, _, _, _, _⟩) (v := ?v7_74) hHeld rfl ?y7_74 ?r7_74
            case y7_74 => (intro w _; first | (go_simp; first | done | with_reducible rfl) | with_reducible rfl)
            (try simp only [pt_])
            refine tk (i := 8) (oi := ⟨some 92, _, _, _, _, _⟩) (v := ?v8_75) hHeld rfl ?y8_75 ?r8_75
            case y8_75 => (intro w _; first | (go_simp; first | done | with_reducible rfl) | with_reducible rfl)
            (try simp only [pt_])
            refine tk (i := 9) (oi := ⟨some 93, _, _, _, _, _⟩) (v := ?v9_76) hHeld rfl ?y9_76 ?r9_76
            case y9_76 => (intro w qS0; first | (go_simp; first | done | with_reducible rfl) | with_reducible rfl)
            (try simp only [pt_])
            refine tk (i := 10) (oi := ⟨some 94, _, _, _, _, _⟩) (v := ?v10_77) hHeld rfl ?y10_77 ?r10_77
            case y10_77 => (intro w _; first | (go_simp; first | done | with_reducible rfl) | with_reducible rfl)
            (try simp only [pt_])
            refine tk (i := 11) (oi := ⟨some 95, _, _, _, _, _⟩) (v := ?v11_78) hHeld rfl ?y11_78 ?r11_78
            case y11_78 => (intro w _; first | (go_simp; first | done | with_reducible rfl) | with_reducible rfl)
            (try simp only [pt_])
            refine tk (i := 12) (oi := ⟨some 96, _, _, _, _, _⟩) (v := ?v12_79) hHeld rfl ?y12_79 ?r12_79
            case y12_79 => (intro w _; first | (go_simp; first | done | with_reducible rfl) | with_reducible rfl)
            (try simp only [pt_])
            refine tk (i := 13) (oi := ⟨some 97, _, _, _, _, _⟩) (v := ?v13_80) hHeld rfl ?y13_80 ?r13_80
            case y13_80 => (intro w _; first | (go_simp; first | done | with_reducible rfl) | with_reducible rfl)
            (try simp only [pt_])
            refine wpAnyH_ready (rs := [1, 14]) (by kernel_rfl) (by simp) ?_
            refine AllReadyH.cons (o := ⟨some 85, _, _, _, _, _⟩) rfl (fun K hK => ?_) ?_
            go_simp
            refine hK.out _ _ ?_ (fun hHeld => ?_)
            · first | exact y8 | exact keepA _ y8 | exact y8g | exact y8s
            clear hK K
            (try simp only [pt_])
            refine wpAnyH_ready (rs := [14]) (by kernel_rfl) (by simp) ?_
            refine AllReadyH.cons (o := ⟨some 98, _, _, _, _, _⟩) rfl (fun K hK => ?_) ?_
            go_simp
            refine hK.out _ _ ?_ (fun hHeld => ?_)
            · first | exact y8 | exact keepA _ y8 | exact y8g | exact y8s
            clear hK K
            (try simp only [pt_])
            refine wpAnyH_ready (rs := [15]) (by kernel_rfl) (by simp) ?_
            refine AllReadyH.cons (o := ⟨some 99, _, _, _, _, _⟩) rfl (fun K hK => ?_) ?_
            refine step_appT rfl _ _ rfl N0 sa k sc _ rfl (own.below uA) _ 1 1 [.int .i64 s, .int .i64 ((s * D1 + Y) % p)] rfl LIT (by simp [Value.oneCell']) (by omega) hNA ?_
            intro a7 c7 w7 oc u7 g7 m7
            have G7 := Only.of_grown g7
            have B_p7 := (B_p.below uA).only G7 (fun hq => by have := (QS.out _ hq).1; omega)
            have o87 := (o8.below uA).only G7 (fun q hq hq' => by have := (Q8.out _ hq).2; have := (QS.out _ hq').1; omega)
            have y8g := o87.cellG k hlt
            rw [HY8.out] at y8g
            have j5 := B_p7.cell 5
            have f5 := B_p7.frozen 5
            refine hK.out _ _ ?_ (fun hHeld => ?_)
            · first | exact y8 | exact keepA _ y8 | exact y8g | exact y8s
            clear hK K
            (try simp only [pt_])
            refine tk (i := 16) (oi := ⟨some 100, _, _, _, _, _⟩) (v := ?v16_81) hHeld rfl ?y16_81 ?r16_81
            case y16_81 => (intro w _; first | (go_simp; first | done | with_reducible rfl) | with_reducible rfl)
            (try simp only [pt_])
            refine wpAnyH_ready (rs := [17]) (by kernel_rfl) (by simp) ?_
            refine AllReadyH.cons (o := ⟨none, _, _, _, _, _⟩) rfl (fun K hK => ?_) ?_
            have GS : Only [bx_p] w7 (w7.setCell ⟨bx_p, 5, none⟩ (.slice a7 (k + 1) c7)) := (Only.refl _ _).setCell _ _ (by simp)
            have B_pS := B_p7.set_ 5 (.slice a7 (k + 1) c7)
            go_simp
            generalize w7.setCell ⟨bx_p, 5, none⟩ (.slice a7 (k + 1) c7) = wS at *
            have y8s := (o87.only GS (fun q hq hq' => by simp at hq'; rw [hq'] at hq; exact P8.out hq)).cellG k hlt
            rw [HY8.out] at y8s
            refine hK.out _ _ ?_ (fun hHeld => ?_)
            · first | exact y8 | exact keepA _ y8 | exact y8g | exact y8s
            clear hK K
            (try simp only [pt_])
            refine wpAnyH_done (by kernel_rfl) ?_ _
            refine NoPanic.normal ?_
            rotate_left 1
            exact AllReadyH.nil
            exact AllReadyH.nil
            exact AllReadyH.nil
            refine AllReadyH.cons (o := ⟨some 98, _, _, _, _, _⟩) rfl (fun K hK => ?_) ?_
            go_simp
            refine hK.out _ _ ?_ (fun hHeld => ?_)
            · first | exact y8 | exact keepA _ y8 | exact y8g | exact y8s
            clear hK K
            (try simp only [pt_])
            refine wpAnyH_ready (rs := [1]) (by kernel_rfl) (by simp) ?_
            refine AllReadyH.cons (o := ⟨some 85, _, _, _, _, _⟩) rfl (fun K hK => ?_) ?_
            go_simp
            refine hK.out _ _ ?_ (fun hHeld => ?_)
            · first | exact y8 | exact keepA _ y8 | exact y8g | exact y8s
            clear hK K
            (try simp only [pt_])
            refine wpAnyH_ready (rs := [15]) (by kernel_rfl) (by simp) ?_
            refine AllReadyH.cons (o := ⟨some 99, _, _, _, _, _⟩) rfl (fun K hK => ?_) ?_
            refine step_appT rfl _ _ rfl N0 sa k sc _ rfl (own.below uA) _ 1 1 [.int .i64 s, .int .i64 ((s * D1 + Y) % p)] rfl LIT (by simp [Value.oneCell']) (by omega) hNA ?_
            intro a7 c7 w7 oc u7 g7 m7
            have G7 := Only.of_grown g7
            have B_p7 := (B_p.below uA).only G7 (fun hq => by have := (QS.out _ hq).1; omega)
            have o87 := (o8.below uA).only G7 (fun q hq hq' => by have := (Q8.out _ hq).2; have := (QS.out _ hq').1; omega)
            have y8g := o87.cellG k hlt
            rw [HY8.out] at y8g
            have j5 := B_p7.cell 5
            have f5 := B_p7.frozen 5
            refine hK.out _ _ ?_ (fun hHeld => ?_)
            · first | exact y8 | exact keepA _ y8 | exact y8g | exact y8s
            clear hK K
            (try simp only [pt_])
            refine tk (i := 16) (oi := ⟨some 100, _, _, _, _, _⟩) (v := ?v16_82) hHeld rfl ?y16_82 ?r16_82
            case y16_82 => (intro w _; first | (go_simp; first | done | with_reducible rfl) | with_reducible rfl)
            (try simp only [pt_])
            refine wpAnyH_ready (rs := [17]) (by kernel_rfl) (by simp) ?_
            refine AllReadyH.cons (o := ⟨none, _, _, _, _, _⟩) rfl (fun K hK => ?_) ?_
            have GS : Only [bx_p] w7 (w7.setCell ⟨bx_p, 5, none⟩ (.slice a7 (k + 1) c7)) := (Only.refl _ _).setCell _ _ (by simp)
            have B_pS := B_p7.set_ 5 (.slice a7 (k + 1) c7)
            go_simp
            generalize w7.setCell ⟨bx_p, 5, none⟩ (.slice a7 (k + 1) c7) = wS at *
            have y8s := (o87.only GS (fun q hq hq' => by simp at hq'; rw [hq'] at hq; exact P8.out hq)).cellG k hlt
            rw [HY8.out] at y8s
            refine hK.out _ _ ?_ (fun hHeld => ?_)
            · first | exact y8 | exact keepA _ y8 | exact y8g | exact y8s
            clear hK K
            (try simp only [pt_])
            refine wpAnyH_done (by kernel_rfl) ?_ _
            refine NoPanic.normal ?_
            rotate_left 1
            exact AllReadyH.nil
            exact AllReadyH.nil
            exact AllReadyH.nil
            exact AllReadyH.nil
            all_goals
              have GT : Only (bx_p :: foot sa sc) w4' wS := (Only.of_below uA).trans ((G7.more (fun q hq => List.mem_cons_of_mem _ hq)).trans (GS.more (fun q hq => by simp at hq; rw [hq]; exact List.mem_cons_self)))
              have hF : ∀ q ∈ bx_p :: foot sa sc, q = bx_p ∨ N0 ≤ q := fun q hq => by
                rcases List.mem_cons.1 hq with h | h
                · exact Or.inl h
                · exact Or.inr (QS.out _ h).1
              replace B_r := B_r.only GT (fun hq => by have := hF _ hq; omega)
              replace OV := OV.only GT (fun q hq hq' => by rcases hF _ hq' with h | h; (rw [h] at hq; exact PV.out hq); (have := (QV.out _ hq).2; omega))
              replace ok := ok.only GT (fun q hq hq' => by rcases hF _ hq' with h | h; (rw [h] at hq; exact PK.out hq); (have := (Qk.out _ hq).2; omega))
              replace o8 := o8.only GT (fun q hq hq' => by rcases hF _ hq' with h | h; (rw [h] at hq; exact P8.out hq); (have := (Q8.out _ hq).2; omega))
              have own2 : OwnF 2 eTagged w7 N0 a7 (k + 1) c7 (dlSh p key 1 (k + 1)) := by
                rw [HS.out, HTT.out]; unfold OwnF; rw [List.map_append]; exact oc
              replace own2 := own2.only GS (fun q hq hq' => by have := (OwnF.feet own2 _ hq).1; simp at hq'; omega)
              simp only [List.setIfInBounds_toArray, List.set_cons_zero, List.set_cons_succ] at B_pS
              have VS : Below w.heap.size w wS := (V_w4').trans (GT.below ((V_w4').size) (fun q hq => by have := hF _ hq; omega))
              have NS2 := GT.size
              clear GT hF G7 GS B_p7 o87 y8g y8s j5 f5 u7 g7 m7 oc own c5a c5b uA hNA LIT y8 t1 t2 t3 t4 z1
              go_wp2
              go_roundw
              case rel => exact ⟨k + 1, a7, c7, by omega, by go_num, by omega, VS, B_r, B_pS, OV, ok, o8, own2⟩
              case measure => simp [intOf]; omega
          · obtain rfl : k = 5 := by omega
            have Q_own := Lib.hid own.feet
            have Q5 := Lib.hid own.feet
            have e_p := B_p.all11
            have e_r := B_r.all11
            have f_r := B_r.frz11
            go_wp2
            clear e_p e_r f_r
            clear OV o8
            have Q_ok := Lib.hid (fun q (hq : q ∈ foot ka kc) => (show dN ≤ q ∧ q < wr.heap.size from ⟨(ok.feet q hq).1, (ok.feet q hq).2⟩))
            refine Exists.elim (B_r.row11 (.int .i64 p) (.int .i64 1) (.int .i64 input) (.int .i64 M) (.int .i64 D) (.slice sa 5 sc) (.slice ka 5 kc) (.int .i64 0) (.slice none 0 0) (.int .i64 0) (.int .i64 0)) (fun w5' q => ?_)
            rw [q.1]; replace B_r := q.2.1; have G := q.2.2; clear q
            have V_w5' := (V_wr).trans (G.below (V_wr).size (fun q hq => by have := (V_wr).size; simp at hq; omega))
            replace B_p := B_p.only G (by first | (simp; done) | (simp; omega))
            replace ok := ok.only G (fun q hq hq' => by have := Q_ok.out q hq; simp at hq'; omega)
            replace own := own.only G (fun q hq hq' => by have := Q_own.out q hq; simp at hq'; omega)
            have sG0 := G.size
            clear G
            clear V_wr
            have S_w5' : wr.heap.size + 0 ≤ w5'.heap.size := by omega
            clear sG0
            have e_r := B_r.all11
            have GO := own
            exact bodyPost_ret (v := .agg #[.int .i64 p, .int .i64 1, .int .i64 input, .int .i64 M, .int .i64 D, .slice sa 5 sc, .slice ka 5 kc, .int .i64 0, .slice none 0 0, .int .i64 0, .int .i64 0]) (by simp [results, Tryd.results81, go_sem, e_r]) rfl ⟨⟨sa, 5, sc, ka, 5, kc, none, 0, 0⟩, _, by rw [show dlP p key 1 input = ⟨p, 1, input, M, D, dlSh p key 1 5, KL, 0, [], 0, 0⟩ from by rw [HMM.out, ← HD.out, ← HKL.out]; rfl], PlO.mk2 (OwnF.lower own (by omega)) (by rw [show (dlP p key 1 input).keys = KL from HKL.out]; exact ok.lower (by omega)) (fun q hq hq' => by have := (Q5.out _ hq).1; have := (Qk.out _ hq').2; omega), V_w5'⟩
end Go.Proofs.YtlmdckcohoddnaaDoor
