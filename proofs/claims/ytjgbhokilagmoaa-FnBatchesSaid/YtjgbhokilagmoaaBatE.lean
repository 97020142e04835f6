/- Batches that hold, and wrong tags: the walks. -/
import Derived.Test.YtjgbhokilagmoaaBatD
import Derived.StillTailTactics
namespace Go.Proofs.Ytjgbhokilagmoaa
open Go.RowKit
set_option maxHeartbeats 16000000 in
set_option maxRecDepth 100000 in
theorem BatchHolds_any (p delta : Int) (ka : Option Addr) (kn kc : Nat) (keys : List Int) (la : Option Addr) (n lc : Nat) (L : List Int) (wa : Option Addr) (wn wc : Nat) (ws : List Int) (w : World) (hK : Ints w ka kn kc keys) (hL : Flat 2 w la n lc L) (hW : Ints w wa wn wc ws) :
    Calls Try.prog 27 #[.int .i64 p, .int .i64 delta, .slice ka kn kc, .slice la n lc, .slice wa wn wc] w fun e w' => e = .returned (.tuple #[.bool (bhV p delta keys L ws kn n wn), .bool (bhOK p delta keys L ws kn n wn)]) ∧ Below w.heap.size w w' := by
  have CT := Lib.hid (fun (W : World) (h : Ints W ka kn kc keys) (h2 : Flat 2 W la n lc L) => areTagged_any p delta ka kn kc keys la n lc L W h h2)
  have HP := Lib.hid (fun h => tlB_parts (p := p) (delta := delta) (keys := keys) (L := L) (kn := kn) (n := n) h)
  have hkn := hK.le
  have hln := hL.le
  have LK := Lib.hid hK
  have LL := Lib.hid hL
  have CE := Lib.hid (fun (W : World) (h : Ints W wa wn wc ws) => areElements_any p wa wn wc ws W h)
  have hwn := hW.le
  have LW := Lib.hid hW
  have e3 : ((((wn : Nat) : Int) != ((n : Nat) : Int)) : Bool) = !decide (wn = n) := by rw [Bool.eq_iff_iff]; simp; omega
  have HE := Lib.hid (fun h => els_rng (p := p) (l := ws) h)
  have HKe := Lib.hid (fun h => els_rng (p := p) (l := keys) h)
  have HTg := Lib.hid (fun h => tag_rng (p := p) (L := L) (n := n) h)
  clear hK hL hW
  unfold bhV bhOK
  generalize tlB p delta keys L kn n = b1 at *
  generalize elsB p ws = b2 at *
  generalize hb3 : decide (wn = n) = b3 at *
  replace hb3 := Lib.hid hb3











  cases b1
  · simp only [Bool.false_and]

    go_enter Try.func27, Try.ntmps27
    go_wp2_with fail
    refine (CT.out _ (LK.out.below (Below.refl w.heap.size w)) (Flat.below LL.out (Below.refl w.heap.size w))).mono ?_
    rintro e w1' ⟨rfl, u_w1'⟩
    have S_w1' := u_w1'.size
    have V_w1' : Below w.heap.size w w1' := (Below.refl w.heap.size w).trans (u_w1'.mono (Below.refl w.heap.size w).size)
    clear u_w1'
    go_wp2
    go_ret2
    exact ⟨rfl, V_w1'⟩
  obtain ⟨⟨_, p1, p2, d1, d2⟩, hke, rfl, hn20, htg⟩ := HP.out rfl
  simp only [Bool.true_and]





  cases b2
  · simp only [Bool.false_and]

    go_enter Try.func27, Try.ntmps27
    go_wp2_with fail
    refine (CT.out _ (LK.out.below (Below.refl w.heap.size w)) (Flat.below LL.out (Below.refl w.heap.size w))).mono ?_
    rintro e w1' ⟨rfl, u_w1'⟩
    have S_w1' := u_w1'.size
    have V_w1' : Below w.heap.size w w1' := (Below.refl w.heap.size w).trans (u_w1'.mono (Below.refl w.heap.size w).size)
    clear u_w1'
    go_wp2_with fail
    refine (CE.out _ (LW.out.below V_w1')).mono ?_
    rintro e w2' ⟨rfl, u_w2'⟩
    have S_w2' := u_w2'.size
    have V_w2' : Below w.heap.size w w2' := V_w1'.trans (u_w2'.mono V_w1'.size)
    clear V_w1'
    clear u_w2'
    go_wp2
    go_ret2
    exact ⟨rfl, V_w2'⟩
  cases b3
  · simp only [Bool.and_false, Bool.false_and]
    simp only [Bool.not_false] at e3

    go_enter Try.func27, Try.ntmps27
    go_wp2_with fail
    refine (CT.out _ (LK.out.below (Below.refl w.heap.size w)) (Flat.below LL.out (Below.refl w.heap.size w))).mono ?_
    rintro e w1' ⟨rfl, u_w1'⟩
    have S_w1' := u_w1'.size
    have V_w1' : Below w.heap.size w w1' := (Below.refl w.heap.size w).trans (u_w1'.mono (Below.refl w.heap.size w).size)
    clear u_w1'
    go_wp2_with fail
    refine (CE.out _ (LW.out.below V_w1')).mono ?_
    rintro e w2' ⟨rfl, u_w2'⟩
    have S_w2' := u_w2'.size
    have V_w2' : Below w.heap.size w w2' := V_w1'.trans (u_w2'.mono V_w1'.size)
    clear V_w1'
    clear u_w2'
    go_wp2
    go_ret2
    exact ⟨rfl, V_w2'⟩
  simp only [Bool.not_true] at e3
  obtain rfl : wn = kn := of_decide_eq_true hb3.out
  have hws := Lib.hid (HE.out rfl)
  have hkr := Lib.hid (HKe.out hke)
  have htr := Lib.hid (HTg.out htg)
  have hp : 1 ≤ p := by omega
  have hp3 : p ≤ 1000 := by omega
  simp only [Bool.and_self, Bool.true_and]

  go_enter Try.func27, Try.ntmps27
  go_wp2_with fail
  refine (CT.out _ (LK.out.below (Below.refl w.heap.size w)) (Flat.below LL.out (Below.refl w.heap.size w))).mono ?_
  rintro e w1' ⟨rfl, u_w1'⟩
  have S_w1' := u_w1'.size
  have V_w1' : Below w.heap.size w w1' := (Below.refl w.heap.size w).trans (u_w1'.mono (Below.refl w.heap.size w).size)
  clear u_w1'
  go_wp2_with fail
  refine (CE.out _ (LW.out.below V_w1')).mono ?_
  rintro e w2' ⟨rfl, u_w2'⟩
  have S_w2' := u_w2'.size
  have V_w2' : Below w.heap.size w w2' := V_w1'.trans (u_w2'.mono V_w1'.size)
  clear V_w1'
  clear u_w2'
  go_upto_region 4 with fail
  refine Exists.elim (Blk.new_ w2' (b := w2'.heap.size) rfl 52 #[.int .i64 0, .int .i64 0]) (fun w3' q => ?_)
  rw [q.1]; have B_x := q.2.1; have s_w3' := q.2.2.1; have u_w3' := q.2.2.2; clear q
  have S_w3' : w2'.heap.size + 1 ≤ w3'.heap.size := Nat.le_of_eq s_w3'.symm
  have V_w3' := V_w2'.trans (u_w3'.mono (V_w2').size)
  clear u_w3' s_w3' V_w2'
  go_wp2_with fail
  have V0 := V_w3'
  obtain ⟨wL, rfl⟩ : ∃ q, q = w3' := ⟨_, rfl⟩
  have hbl : w.heap.size ≤ (w2'.heap.size) := by omega
  generalize (w2'.heap.size) = bx at *

  go_loopw [38, 13] (fun v u wr => ∃ k : Nat, k ≤ wn ∧ v = .int .i64 k ∧ u = .int .i64 (baK p ws keys k) ∧ Below w.heap.size w wr ∧ Blk wr bx 52 #[.int .i64 (baV p ws L 0 k), .int .i64 (baV p ws L 1 k)]) (fun v _ _ => wn - (intOf v).toNat)
  case atStart => exact ⟨0, Nat.zero_le _, rfl, rfl, V0, B_x⟩
  case round =>
    obtain ⟨k, hk, rfl, rfl, hbel, B_x⟩ := hrel
    have v0 := baV_rng hp ws L 0 k
    have v1 := baV_rng hp ws L 1 k
    have vk := baK_rng hp ws keys k




    by_cases hlt : k < wn
    · have hlt' : (k : Int) < (wn : Int) := by omega
      obtain ⟨g1, o1, h1, cw⟩ := (LW.out.below hbel).at k hlt
      obtain ⟨g2, o2, h2, ck⟩ := (LK.out.below hbel).at k hlt
      obtain ⟨g3, o3, h3, hc⟩ := (Flat.below LL.out hbel).at (by omega)
      subst h1 h2 h3
      have c0 : wr.cell? ⟨g3, o3 + k * 2, none⟩ = some (.int .i64 (L.getD (k * 2) 0)) := hc _ (by omega)
      have c1 : wr.cell? ⟨g3, o3 + k * 2 + 1, none⟩ = some (.int .i64 (L.getD (k * 2 + 1) 0)) := by have := hc (k * 2 + 1) (by omega); simpa only [Nat.add_assoc] using this
      clear hc
      have rw_ := hws.out k
      have rk := hkr.out k
      obtain ⟨r0, r1⟩ := htr.out k hlt
      have HS0 : Hid (baV p ws L 0 (k + 1) = (baV p ws L 0 k + ws.getD k 0 * L.getD (k * 2) 0) % p) := Lib.hid rfl
      have HS1 : Hid (baV p ws L 1 (k + 1) = (baV p ws L 1 k + ws.getD k 0 * L.getD (k * 2 + 1) 0) % p) := Lib.hid rfl
      have HSK : Hid (baK p ws keys (k + 1) = (baK p ws keys k + ws.getD k 0 * keys.getD k 0) % p) := Lib.hid rfl
      generalize L.getD (k * 2) 0 = x0 at *
      generalize L.getD (k * 2 + 1) 0 = x1 at *
      generalize hww : ws.getD k 0 = ww at *
      replace hww := Lib.hid hww
      generalize hkk : keys.getD k 0 = kk at *
      replace hkk := Lib.hid hkk
      generalize baV p ws L 0 k = S0 at *
      generalize baV p ws L 1 k = S1 at *
      generalize baK p ws keys k = SK at *
      have n1 := Int.mul_nonneg rw_.1 r0.1
      have n2 : ww * x0 ≤ 251 * 251 := Int.mul_le_mul (by omega) (by omega) r0.1 (by omega)
      have n3 := Int.mul_nonneg rw_.1 r1.1
      have n4 : ww * x1 ≤ 251 * 251 := Int.mul_le_mul (by omega) (by omega) r1.1 (by omega)
      have n5 := Int.mul_nonneg rw_.1 rk.1
      have n6 : ww * kk ≤ 251 * 251 := Int.mul_le_mul (by omega) (by omega) rk.1 (by omega)
      have w1 : IntKind.i64.wrap (ww * x0) = ww * x0 := IntWalk.i64_in _ (by omega)
      have w2 : IntKind.i64.wrap (ww * x1) = ww * x1 := IntWalk.i64_in _ (by omega)
      have w3 : IntKind.i64.wrap (ww * kk) = ww * kk := IntWalk.i64_in _ (by omega)
      have w4 : IntKind.i64.wrap (S0 + ww * x0) = S0 + ww * x0 := IntWalk.i64_in _ (by omega)
      have w5 : IntKind.i64.wrap (S1 + ww * x1) = S1 + ww * x1 := IntWalk.i64_in _ (by omega)
      have w6 : IntKind.i64.wrap (SK + ww * kk) = SK + ww * kk := IntWalk.i64_in _ (by omega)
      have e_x := B_x.all2
      go_upto_region 7 with fail
      refine wp_region_still_tail 25 (by kernel_rfl) (by kernel_rfl) ?_
      simp only [List.take_succ_cons, List.take_zero, List.drop_succ_cons, List.drop_zero]
      repeat (first | still_step | still_call (mod_same _ _ _ hp (by omega)))
      refine wpStill_nil ?_
      change wpList _ _ _ _ _ wr.drew
      clear e_x
      clear c0 c1
      have ck2 : wr.drew.cell? ⟨g2, o2 + k, none⟩ = some (.int .i64 kk) := ck
      have V_w4'_1 : Below w.heap.size w wr.drew := (hbel).drew
      replace B_x := B_x.drew
      have S_w4' : wr.heap.size + 0 ≤ wr.drew.heap.size := by first | (simp; done) | (simp; omega) | (simp [World.setCell]; done) | (simp [World.setCell]; omega)
      generalize wr.drew = w4' at *
      have V_w4' : Below w.heap.size w w4' := V_w4'_1
      clear hbel
      clear V_w4'_1
      have e_x := B_x.all2
      have f_x := B_x.frz2
      go_upto_region 8 with fail
      clear e_x f_x
      clear ck2
      have hmS0 := Int.emod_nonneg (S0 + ww * x0) (by omega : p ≠ 0)
      refine Exists.elim (B_x.row2 (.int .i64 ((S0 + ww * x0) % p)) (.int .i64 ((S1 + ww * x1) % p))) (fun w5' q => ?_)
      rw [q.1]; replace B_x := q.2.1; have G := q.2.2; clear q
      have V_w5' := (V_w4').trans (G.below (V_w4').size (fun q hq => by have := (V_w4').size; simp at hq; omega))
      have sG0 := G.size
      clear G
      clear V_w4'
      have S_w5' : w4'.heap.size + 0 ≤ w5'.heap.size := by omega
      clear sG0
      obtain ⟨g9, o9, h9, ck3⟩ := (LK.out.below V_w5').at k hlt
      cases h9
      rw [hkk.out] at ck3
      go_wp2_with (first | (go_at_call 95; refine (mod_same _ _ _ hp (by omega)).mono ?_; rintro e w' ⟨rfl, rfl⟩))
      go_roundw
      case rel => exact ⟨k + 1, by omega, by go_num, v_int (by rw [HSK.out]), V_w5', by rw [HS0.out, HS1.out]; exact B_x⟩
      case measure => simp [intOf]; omega

    · obtain rfl : wn = k := by omega
      have hge : ¬ ((wn : Int) < (wn : Int)) := by omega
      have e_x := B_x.all2
      go_wp2_with fail
      clear e_x
      refine (holds_any p delta _ _ _ _ hp hp3 ⟨d1, d2⟩ vk v0 v1).mono ?_
      rintro e w6' ⟨rfl, u_w6'⟩
      replace B_x := B_x.below u_w6'
      have S_w6' := u_w6'.size
      have V_w6' : Below w.heap.size w w6' := hbel.trans (u_w6'.mono hbel.size)
      clear hbel
      clear u_w6'
      go_wp2
      go_ret2
      exact ⟨rfl, V_w6'⟩
set_option maxHeartbeats 16000000 in
set_option maxRecDepth 100000 in
theorem spec_BatchHolds_any (p delta : Int) (ka : Option Addr) (kn kc : Nat) (keys : List Int) (la : Option Addr) (n lc : Nat) (L : List Int) (wa : Option Addr) (wn wc : Nat) (ws : List Int) (w : World) (hK : Ints w ka kn kc keys) (hL : Flat 2 w la n lc L) (hW : Ints w wa wn wc ws) :
    Calls Try.prog 28 #[.int .i64 p, .int .i64 delta, .slice ka kn kc, .slice la n lc, .slice wa wn wc] w fun e w' => e = .returned (.tuple #[.bool (bhV p delta keys L ws kn n wn), .bool (bhOK p delta keys L ws kn n wn)]) ∧ Below w.heap.size w w' := by
  have CT := Lib.hid (fun (W : World) (h : Ints W ka kn kc keys) (h2 : Flat 2 W la n lc L) => tgLists_any p delta ka kn kc keys la n lc L W h h2)
  have HP := Lib.hid (fun h => tlB_parts (p := p) (delta := delta) (keys := keys) (L := L) (kn := kn) (n := n) h)
  have hkn := hK.le
  have hln := hL.le
  have LK := Lib.hid hK
  have LL := Lib.hid hL
  have CE := Lib.hid (fun (W : World) (h : Ints W wa wn wc ws) => l1All_any wa wn wc ws 0 (p - 1) W h)
  have HA : Hid (tlB p delta keys L kn n = true → elsB p ws = allB ws 0 (p - 1)) := Lib.hid (fun h => by unfold elsB; rw [(tlB_parts h).1.1, Bool.true_and])
  have hwn := hW.le
  have LW := Lib.hid hW
  have e3 : ((((wn : Nat) : Int) != ((n : Nat) : Int)) : Bool) = !decide (wn = n) := by rw [Bool.eq_iff_iff]; simp; omega
  have HE := Lib.hid (fun h => els_rng (p := p) (l := ws) h)
  have HKe := Lib.hid (fun h => els_rng (p := p) (l := keys) h)
  have HTg := Lib.hid (fun h => tag_rng (p := p) (L := L) (n := n) h)
  clear hK hL hW
  unfold bhV bhOK
  generalize tlB p delta keys L kn n = b1 at *
  generalize elsB p ws = b2 at *
  generalize allB ws 0 (p - 1) = bx at *
  generalize hb3 : decide (wn = n) = b3 at *
  replace hb3 := Lib.hid hb3











  cases b1
  · simp only [Bool.false_and]

    go_enter Try.func28, Try.ntmps28
    go_wp2_with fail
    refine (CT.out _ (LK.out.below (Below.refl w.heap.size w)) (Flat.below LL.out (Below.refl w.heap.size w))).mono ?_
    rintro e w1' ⟨rfl, u_w1'⟩
    have S_w1' := u_w1'.size
    have V_w1' : Below w.heap.size w w1' := (Below.refl w.heap.size w).trans (u_w1'.mono (Below.refl w.heap.size w).size)
    clear u_w1'
    go_wp2
    go_ret2
    exact ⟨rfl, V_w1'⟩
  obtain ⟨⟨_, p1, p2, d1, d2⟩, hke, rfl, hn20, htg⟩ := HP.out rfl
  simp only [Bool.true_and]
  obtain rfl := HA.out rfl
  have tp : IntKind.i64.wrap (p - 1) = p - 1 := IntWalk.i64_in _ (by omega)
  cases b3
  · simp only [Bool.and_false, Bool.false_and]
    simp only [Bool.not_false] at e3

    go_enter Try.func28, Try.ntmps28
    go_wp2_with fail
    refine (CT.out _ (LK.out.below (Below.refl w.heap.size w)) (Flat.below LL.out (Below.refl w.heap.size w))).mono ?_
    rintro e w1' ⟨rfl, u_w1'⟩
    have S_w1' := u_w1'.size
    have V_w1' : Below w.heap.size w w1' := (Below.refl w.heap.size w).trans (u_w1'.mono (Below.refl w.heap.size w).size)
    clear u_w1'
    go_wp2
    go_ret2
    exact ⟨rfl, V_w1'⟩
  simp only [Bool.not_true] at e3





  cases b2
  · simp only [Bool.false_and]

    go_enter Try.func28, Try.ntmps28
    go_wp2_with fail
    refine (CT.out _ (LK.out.below (Below.refl w.heap.size w)) (Flat.below LL.out (Below.refl w.heap.size w))).mono ?_
    rintro e w1' ⟨rfl, u_w1'⟩
    have S_w1' := u_w1'.size
    have V_w1' : Below w.heap.size w w1' := (Below.refl w.heap.size w).trans (u_w1'.mono (Below.refl w.heap.size w).size)
    clear u_w1'
    go_wp2_with fail
    refine (CE.out _ (LW.out.below V_w1')).mono ?_
    rintro e w2' ⟨rfl, q_w2'⟩
    have u_w2' := below_of_quiet q_w2'
    clear q_w2'
    have S_w2' := u_w2'.size
    have V_w2' : Below w.heap.size w w2' := V_w1'.trans (u_w2'.mono V_w1'.size)
    clear V_w1'
    clear u_w2'
    go_wp2
    go_ret2
    exact ⟨rfl, V_w2'⟩
  obtain rfl : wn = kn := of_decide_eq_true hb3.out
  have hws := Lib.hid (HE.out rfl)
  have hkr := Lib.hid (HKe.out hke)
  have htr := Lib.hid (HTg.out htg)
  have hp : 1 ≤ p := by omega
  have hp3 : p ≤ 1000 := by omega
  simp only [Bool.and_self, Bool.true_and]

  go_enter Try.func28, Try.ntmps28
  go_wp2_with fail
  refine (CT.out _ (LK.out.below (Below.refl w.heap.size w)) (Flat.below LL.out (Below.refl w.heap.size w))).mono ?_
  rintro e w1' ⟨rfl, u_w1'⟩
  have S_w1' := u_w1'.size
  have V_w1' : Below w.heap.size w w1' := (Below.refl w.heap.size w).trans (u_w1'.mono (Below.refl w.heap.size w).size)
  clear u_w1'
  go_wp2_with fail
  refine (CE.out _ (LW.out.below V_w1')).mono ?_
  rintro e w2' ⟨rfl, q_w2'⟩
  have u_w2' := below_of_quiet q_w2'
  clear q_w2'
  have S_w2' := u_w2'.size
  have V_w2' : Below w.heap.size w w2' := V_w1'.trans (u_w2'.mono V_w1'.size)
  clear V_w1'
  clear u_w2'
  go_upto_region 4 with fail
  refine Exists.elim (Blk.new_ w2' (b := w2'.heap.size) rfl 52 #[.int .i64 0, .int .i64 0]) (fun w3' q => ?_)
  rw [q.1]; have B_x := q.2.1; have s_w3' := q.2.2.1; have u_w3' := q.2.2.2; clear q
  have S_w3' : w2'.heap.size + 1 ≤ w3'.heap.size := Nat.le_of_eq s_w3'.symm
  have V_w3' := V_w2'.trans (u_w3'.mono (V_w2').size)
  clear u_w3' s_w3' V_w2'
  go_wp2_with fail
  have V0 := V_w3'
  obtain ⟨wL, rfl⟩ : ∃ q, q = w3' := ⟨_, rfl⟩
  have hbl : w.heap.size ≤ (w2'.heap.size) := by omega
  generalize (w2'.heap.size) = bx at *

  go_loopw [39, 13] (fun v u wr => ∃ k : Nat, k ≤ wn ∧ v = .int .i64 k ∧ u = .int .i64 (baK p ws keys k) ∧ Below w.heap.size w wr ∧ Blk wr bx 52 #[.int .i64 (baV p ws L 0 k), .int .i64 (baV p ws L 1 k)]) (fun v _ _ => wn - (intOf v).toNat)
  case atStart => exact ⟨0, Nat.zero_le _, rfl, rfl, V0, B_x⟩
  case round =>
    obtain ⟨k, hk, rfl, rfl, hbel, B_x⟩ := hrel
    have v0 := baV_rng hp ws L 0 k
    have v1 := baV_rng hp ws L 1 k
    have vk := baK_rng hp ws keys k




    by_cases hlt : k < wn
    · have hlt' : (k : Int) < (wn : Int) := by omega
      obtain ⟨g1, o1, h1, cw⟩ := (LW.out.below hbel).at k hlt
      obtain ⟨g2, o2, h2, ck⟩ := (LK.out.below hbel).at k hlt
      obtain ⟨g3, o3, h3, hc⟩ := (Flat.below LL.out hbel).at (by omega)
      subst h1 h2 h3
      have c0 : wr.cell? ⟨g3, o3 + k * 2, none⟩ = some (.int .i64 (L.getD (k * 2) 0)) := hc _ (by omega)
      have c1 : wr.cell? ⟨g3, o3 + k * 2 + 1, none⟩ = some (.int .i64 (L.getD (k * 2 + 1) 0)) := by have := hc (k * 2 + 1) (by omega); simpa only [Nat.add_assoc] using this
      clear hc
      have rw_ := hws.out k
      have rk := hkr.out k
      obtain ⟨r0, r1⟩ := htr.out k hlt
      have HS0 : Hid (baV p ws L 0 (k + 1) = (baV p ws L 0 k + ws.getD k 0 * L.getD (k * 2) 0) % p) := Lib.hid rfl
      have HS1 : Hid (baV p ws L 1 (k + 1) = (baV p ws L 1 k + ws.getD k 0 * L.getD (k * 2 + 1) 0) % p) := Lib.hid rfl
      have HSK : Hid (baK p ws keys (k + 1) = (baK p ws keys k + ws.getD k 0 * keys.getD k 0) % p) := Lib.hid rfl
      generalize L.getD (k * 2) 0 = x0 at *
      generalize L.getD (k * 2 + 1) 0 = x1 at *
      generalize hww : ws.getD k 0 = ww at *
      replace hww := Lib.hid hww
      generalize hkk : keys.getD k 0 = kk at *
      replace hkk := Lib.hid hkk
      generalize baV p ws L 0 k = S0 at *
      generalize baV p ws L 1 k = S1 at *
      generalize baK p ws keys k = SK at *
      have n1 := Int.mul_nonneg rw_.1 r0.1
      have n2 : ww * x0 ≤ 251 * 251 := Int.mul_le_mul (by omega) (by omega) r0.1 (by omega)
      have n3 := Int.mul_nonneg rw_.1 r1.1
      have n4 : ww * x1 ≤ 251 * 251 := Int.mul_le_mul (by omega) (by omega) r1.1 (by omega)
      have n5 := Int.mul_nonneg rw_.1 rk.1
      have n6 : ww * kk ≤ 251 * 251 := Int.mul_le_mul (by omega) (by omega) rk.1 (by omega)
      have w1 : IntKind.i64.wrap (ww * x0) = ww * x0 := IntWalk.i64_in _ (by omega)
      have w2 : IntKind.i64.wrap (ww * x1) = ww * x1 := IntWalk.i64_in _ (by omega)
      have w3 : IntKind.i64.wrap (ww * kk) = ww * kk := IntWalk.i64_in _ (by omega)
      have w4 : IntKind.i64.wrap (S0 + ww * x0) = S0 + ww * x0 := IntWalk.i64_in _ (by omega)
      have w5 : IntKind.i64.wrap (S1 + ww * x1) = S1 + ww * x1 := IntWalk.i64_in _ (by omega)
      have w6 : IntKind.i64.wrap (SK + ww * kk) = SK + ww * kk := IntWalk.i64_in _ (by omega)
      have CA := Lib.hid (fun W : World => tgAdd_any p S0 S1 x0 x1 ww W hp hp3 v0 v1 r0 r1 rw_)
      have f1 : (SK + ww * kk).tmod p = (SK + ww * kk) % p := Int.tmod_eq_emod_of_nonneg (by omega)
      have g0 := Int.emod_nonneg (SK + ww * kk) (by omega : p ≠ 0)
      have g1 := Int.emod_lt_of_pos (SK + ww * kk) (by omega : 0 < p)
      have w7 : IntKind.i64.wrap ((SK + ww * kk) % p) = (SK + ww * kk) % p := IntWalk.i64_in _ (by omega)
      have t7 : (p == 0) = false := by simp; omega
      have t8 : (p = 0) = False := by simp; omega
      go_upto_region 7 with fail
      clear c0 c1
      refine Exists.elim (Blk.new_ wr (b := wr.heap.size) rfl 52 #[.int .i64 x0, .int .i64 x1]) (fun w4' q => ?_)
      rw [q.1]; have B_y := q.2.1; have s_w4' := q.2.2.1; have u_w4' := q.2.2.2; clear q
      replace B_x := B_x.below u_w4'
      have S_w4' : wr.heap.size + 1 ≤ w4'.heap.size := Nat.le_of_eq s_w4'.symm
      have V_w4' := hbel.trans (u_w4'.mono (hbel).size)
      clear u_w4' s_w4' hbel
      obtain ⟨g8, o8, h8, cw2⟩ := (LW.out.below V_w4').at k hlt
      cases h8
      rw [hww.out] at cw2
      have e_x := B_x.all2
      have e_y := B_y.all2
      refine wp_region_still_tail 7 (by kernel_rfl) (by kernel_rfl) ?_
      simp only [List.take_succ_cons, List.take_zero, List.drop_succ_cons, List.drop_zero]
      repeat (first | still_step)
      refine wpStill_nil ?_
      change wpList _ _ _ _ _ w4'.drew
      clear e_x e_y
      clear cw2
      have V_w5'_1 : Below w.heap.size w w4'.drew := (V_w4').drew
      replace B_x := B_x.drew
      replace B_y := B_y.drew
      have S_w5' : w4'.heap.size + 0 ≤ w4'.drew.heap.size := by first | (simp; done) | (simp; omega) | (simp [World.setCell]; done) | (simp [World.setCell]; omega)
      generalize w4'.drew = w5' at *
      have V_w5' : Below w.heap.size w w5' := V_w5'_1
      clear V_w4'
      clear V_w5'_1
      go_wp2_with fail
      refine (CA.out _).mono ?_
      rintro e w6' ⟨rfl, u_w6'⟩
      replace B_x := B_x.below u_w6'
      replace B_y := B_y.below u_w6'
      have S_w6' := u_w6'.size
      have V_w6' : Below w.heap.size w w6' := V_w5'.trans (u_w6'.mono V_w5'.size)
      clear V_w5'
      clear u_w6'
      have e_x := B_x.all2
      have f_x := B_x.frz2
      go_upto_region 8 with fail
      clear e_x f_x
      clear B_y
      refine Exists.elim (B_x.row2 (.int .i64 ((S0 + ww * x0) % p)) (.int .i64 ((S1 + ww * x1) % p))) (fun w7' q => ?_)
      rw [q.1]; replace B_x := q.2.1; have G := q.2.2; clear q
      have V_w7' := (V_w6').trans (G.below (V_w6').size (fun q hq => by have := (V_w6').size; simp at hq; omega))
      have sG0 := G.size
      clear G
      clear V_w6'
      have S_w7' : w6'.heap.size + 0 ≤ w7'.heap.size := by omega
      clear sG0
      obtain ⟨g8', o8', h8, cw2⟩ := (LW.out.below V_w7').at k hlt
      cases h8
      rw [hww.out] at cw2
      obtain ⟨g9, o9, h9, ck3⟩ := (LK.out.below V_w7').at k hlt
      cases h9
      rw [hkk.out] at ck3
      go_quiet (fail)
      generalize hwq : w7'.drewN nq = wq at *
      have u9 : Below w7'.heap.size w7' wq := hwq ▸ below_of_drewN nq
      clear hwq cw2 ck3
      replace B_x := B_x.below u9
      have S_wq := u9.size
      have V_wq : Below w.heap.size w wq := V_w7'.trans (u9.mono V_w7'.size)
      clear V_w7'
      clear u9
      go_wp2
      go_roundw
      case rel => exact ⟨k + 1, by omega, by go_num, v_int (by rw [HSK.out]), V_wq, by rw [HS0.out, HS1.out]; exact B_x⟩
      case measure => simp [intOf]; omega

    · obtain rfl : wn = k := by omega
      have hge : ¬ ((wn : Int) < (wn : Int)) := by omega
      have e_x := B_x.all2
      go_wp2_with fail
      clear e_x
      refine (tgHolds_any p delta _ _ _ _ hp hp3 ⟨d1, d2⟩ vk v0 v1).mono ?_
      rintro e w8' ⟨rfl, u_w8'⟩
      replace B_x := B_x.below u_w8'
      have S_w8' := u_w8'.size
      have V_w8' : Below w.heap.size w w8' := hbel.trans (u_w8'.mono hbel.size)
      clear hbel
      clear u_w8'
      go_wp2
      go_ret2
      exact ⟨rfl, V_w8'⟩
set_option maxHeartbeats 16000000 in
set_option maxRecDepth 100000 in
theorem WrongTags_any (p delta : Int) (ka : Option Addr) (kn kc : Nat) (keys : List Int) (la : Option Addr) (n lc : Nat) (L : List Int) (w : World) (hK : Ints w ka kn kc keys) (hL : Flat 2 w la n lc L) :
    Calls Try.prog 29 #[.int .i64 p, .int .i64 delta, .slice ka kn kc, .slice la n lc] w fun e w' => ∃ a m c, e = .returned (.tuple #[.slice a m c, .bool (tlB p delta keys L kn n)]) ∧ Own w' w.heap.size a m c (wtR p delta keys L kn n) ∧ Below w.heap.size w w' := by
  have CT := Lib.hid (fun (W : World) (h : Ints W ka kn kc keys) (h2 : Flat 2 W la n lc L) => areTagged_any p delta ka kn kc keys la n lc L W h h2)
  have HP := Lib.hid (fun h => tlB_parts (p := p) (delta := delta) (keys := keys) (L := L) (kn := kn) (n := n) h)
  have hkn := hK.le
  have hln := hL.le
  have LK := Lib.hid hK
  have LL := Lib.hid hL
  have HKe := Lib.hid (fun h => els_rng (p := p) (l := keys) h)
  have HTg := Lib.hid (fun h => tag_rng (p := p) (L := L) (n := n) h)
  clear hK hL
  unfold wtR
  generalize tlB p delta keys L kn n = b1 at *






  cases b1
  · simp only [Bool.false_eq_true, if_false]

    go_enter Try.func29, Try.ntmps29
    go_wp2_with fail
    refine (CT.out _ (LK.out.below (Below.refl w.heap.size w)) (Flat.below LL.out (Below.refl w.heap.size w))).mono ?_
    rintro e w1' ⟨rfl, u_w1'⟩
    have S_w1' := u_w1'.size
    have V_w1' : Below w.heap.size w w1' := (Below.refl w.heap.size w).trans (u_w1'.mono (Below.refl w.heap.size w).size)
    clear u_w1'
    go_wp2
    go_ret2
    exact ⟨none, 0, 0, rfl, Own.nil0 _ _ _, V_w1'⟩
  obtain ⟨⟨_, p1, p2, d1, d2⟩, hke, rfl, hn20, htg⟩ := HP.out rfl
  simp only [if_true]
  have hkr := Lib.hid (HKe.out hke)
  have htr := Lib.hid (HTg.out htg)
  have hp : 1 ≤ p := by omega
  have hp3 : p ≤ 1000 := by omega

  go_enter Try.func29, Try.ntmps29
  go_wp2_with fail
  refine (CT.out _ (LK.out.below (Below.refl w.heap.size w)) (Flat.below LL.out (Below.refl w.heap.size w))).mono ?_
  rintro e w1' ⟨rfl, u_w1'⟩
  have S_w1' := u_w1'.size
  have V_w1' : Below w.heap.size w w1' := (Below.refl w.heap.size w).trans (u_w1'.mono (Below.refl w.heap.size w).size)
  clear u_w1'
  go_wp2_with fail
  refine Exists.elim (Blk.new_ w1' (b := w1'.heap.size) rfl 3 #[]) (fun w2' q => ?_)
  rw [q.1]; have B_e0 := q.2.1; have s_w2' := q.2.2.1; have u_w2' := q.2.2.2; clear q
  have S_w2' : w1'.heap.size + 1 ≤ w2'.heap.size := Nat.le_of_eq s_w2'.symm
  have V_w2' := V_w1'.trans (u_w2'.mono (V_w1').size)
  clear u_w2' s_w2' V_w1'
  clear B_e0
  have V0 := V_w2'
  obtain ⟨wL, rfl⟩ : ∃ q, q = w2' := ⟨_, rfl⟩

  go_loopw [22, 10] (fun v u wr => ∃ k : Nat, k ≤ kn ∧ v = .int .i64 k ∧ Below wL.heap.size wL wr ∧ ∃ a5 n5 c5, u = .slice a5 n5 c5 ∧ Own wr wL.heap.size a5 n5 c5 (wtL p delta keys L k)) (fun v _ _ => kn - (intOf v).toNat)
  case atStart => exact ⟨0, Nat.zero_le _, rfl, Below.refl _ _, _, 0, 0, rfl, Own.nil0 _ _ _⟩
  case round =>
    obtain ⟨k, hk, rfl, hbel, a5, n5, c5, rfl, own⟩ := hrel
    have hl5 : n5 ≤ 20 := by have := own.ints.len; have := wtL_len p delta keys L k; omega
    have VW : Below w.heap.size w wr := V0.trans (hbel.mono V0.size)



    by_cases hlt : k < kn
    · have hlt' : (k : Int) < (kn : Int) := by omega
      obtain ⟨g2, o2, h2, ck⟩ := (LK.out.below VW).at k hlt
      obtain ⟨g3, o3, h3, hc⟩ := (Flat.below LL.out VW).at (by omega)
      subst h2 h3
      have c0 : wr.cell? ⟨g3, o3 + k * 2, none⟩ = some (.int .i64 (L.getD (k * 2) 0)) := hc _ (by omega)
      have c1 : wr.cell? ⟨g3, o3 + k * 2 + 1, none⟩ = some (.int .i64 (L.getD (k * 2 + 1) 0)) := by have := hc (k * 2 + 1) (by omega); simpa only [Nat.add_assoc] using this
      clear hc ck
      have rk := hkr.out k
      obtain ⟨r0, r1⟩ := htr.out k hlt
      have HS : Hid (wtL p delta keys L (k + 1) = wtL p delta keys L k ++ if hAtB p delta keys L k then [] else [(k : Int)]) := Lib.hid rfl
      have HH : Hid (hAtB p delta keys L k = holdB p delta (keys.getD k 0) (L.getD (k * 2) 0) (L.getD (k * 2 + 1) 0)) := Lib.hid rfl
      generalize L.getD (k * 2) 0 = x0 at *
      generalize L.getD (k * 2 + 1) 0 = x1 at *
      generalize hkk : keys.getD k 0 = kk at *
      replace hkk := Lib.hid hkk
      have CH := Lib.hid (fun W : World => holds_any p delta kk x0 x1 W hp hp3 ⟨d1, d2⟩ rk r0 r1)
      generalize holdB p delta kk x0 x1 = bh at *

      go_upto_region 7 with fail
      clear c0 c1
      refine Exists.elim (Blk.new_ wr (b := wr.heap.size) rfl 52 #[.int .i64 x0, .int .i64 x1]) (fun w3' q => ?_)
      rw [q.1]; have B_x := q.2.1; have s_w3' := q.2.2.1; have u_w3' := q.2.2.2; clear q
      replace own := own.below u_w3'
      have S_w3' : wr.heap.size + 1 ≤ w3'.heap.size := Nat.le_of_eq s_w3'.symm
      have V_w3' := hbel.trans (u_w3'.mono (hbel).size)
      clear u_w3' s_w3' hbel
      have VX := V0.trans ((V_w3').mono V0.size)
      obtain ⟨g9, o9, h9, ck3⟩ := (LK.out.below VX).at k hlt
      cases h9
      rw [hkk.out] at ck3
      have e_x := B_x.all2
      have ck9 : w3'.cell? ⟨g2, o2 + k, none⟩ = some (.int .i64 kk) := ck3
      go_region_held3 (fun W => W.cell? ⟨wr.heap.size, 0, none⟩ = some (.int .i64 x0) ∧ W.cell? ⟨wr.heap.size, 1, none⟩ = some (.int .i64 x1) ∧ W.cell? ⟨g2, o2 + k, none⟩ = some (.int .i64 kk))
        (first | go_keep | exact ⟨(B_x.a2_0), (B_x.a2_1), ck9⟩ | exact ⟨keepA _ (B_x.a2_0), keepA _ (B_x.a2_1), keepA _ ck9⟩ | exact ⟨keepA _ (keepA _ (B_x.a2_0)), keepA _ (keepA _ (B_x.a2_1)), keepA _ (keepA _ ck9)⟩ | exact ⟨keepA _ (keepA _ (keepA _ (B_x.a2_0))), keepA _ (keepA _ (keepA _ (B_x.a2_1))), keepA _ (keepA _ (keepA _ ck9))⟩ | exact ⟨keepC uj ((B_x.a2_0)), keepC uj ((B_x.a2_1)), keepC uj (ck9)⟩ | exact ⟨keepA _ (keepC uj ((B_x.a2_0))), keepA _ (keepC uj ((B_x.a2_1))), keepA _ (keepC uj (ck9))⟩ | exact ⟨keepA _ (keepA _ (keepC uj ((B_x.a2_0)))), keepA _ (keepA _ (keepC uj ((B_x.a2_1)))), keepA _ (keepA _ (keepC uj (ck9)))⟩ | exact ⟨keepC uj (keepA _ (B_x.a2_0)), keepC uj (keepA _ (B_x.a2_1)), keepC uj (keepA _ ck9)⟩ | exact ⟨keepA _ (keepC uj (keepA _ (B_x.a2_0))), keepA _ (keepC uj (keepA _ (B_x.a2_1))), keepA _ (keepC uj (keepA _ ck9))⟩ | exact ⟨keepA _ (keepA _ (keepC uj (keepA _ (B_x.a2_0)))), keepA _ (keepA _ (keepC uj (keepA _ (B_x.a2_1)))), keepA _ (keepA _ (keepC uj (keepA _ ck9)))⟩ | exact ⟨keepC uj (keepA _ (keepA _ (B_x.a2_0))), keepC uj (keepA _ (keepA _ (B_x.a2_1))), keepC uj (keepA _ (keepA _ ck9))⟩ | exact ⟨keepA _ (keepC uj (keepA _ (keepA _ (B_x.a2_0)))), keepA _ (keepC uj (keepA _ (keepA _ (B_x.a2_1)))), keepA _ (keepC uj (keepA _ (keepA _ ck9)))⟩ | exact ⟨keepA _ (keepA _ (keepC uj (keepA _ (keepA _ (B_x.a2_0))))), keepA _ (keepA _ (keepC uj (keepA _ (keepA _ (B_x.a2_1))))), keepA _ (keepA _ (keepC uj (keepA _ (keepA _ ck9))))⟩ | exact ⟨keepC uj (keepA _ (keepA _ (keepA _ (B_x.a2_0)))), keepC uj (keepA _ (keepA _ (keepA _ (B_x.a2_1)))), keepC uj (keepA _ (keepA _ (keepA _ ck9)))⟩ | exact ⟨keepA _ (keepC uj (keepA _ (keepA _ (keepA _ (B_x.a2_0))))), keepA _ (keepC uj (keepA _ (keepA _ (keepA _ (B_x.a2_1))))), keepA _ (keepC uj (keepA _ (keepA _ (keepA _ ck9))))⟩ | exact ⟨keepA _ (keepA _ (keepC uj (keepA _ (keepA _ (keepA _ (B_x.a2_0)))))), keepA _ (keepA _ (keepC uj (keepA _ (keepA _ (keepA _ (B_x.a2_1)))))), keepA _ (keepA _ (keepC uj (keepA _ (keepA _ (keepA _ ck9)))))⟩)
        ((go_at_call 96; refine (CH.out _).mono ?_; rintro e wj ⟨rfl, uj⟩))
      have u9 : Below w3'.heap.size w3' wj := (Below.refl _ _).drew.trans uj
      clear uj ck3
      clear e_x ck9
      replace B_x := B_x.below u9
      replace own := own.below u9
      have S_wj := u9.size
      have V_wj : Below wL.heap.size wL wj := V_w3'.trans (u9.mono V_w3'.size)
      clear V_w3'
      clear u9
      cases bh
      · have HS2 : Hid (wtL p delta keys L (k + 1) = wtL p delta keys L k ++ [(k : Int)]) := Lib.hid (by rw [HS.out, HH.out]; rfl)
        have VB := V_wj
        go_wp2_with (at_builtin; refine wpList_appI _ rfl _ _ rfl wL.heap.size a5 n5 c5 (wtL p delta keys L k) rfl (own.alloc _) _ 1 1 [(k : Int)] rfl (Ints.lit1 _ _ _) (by omega) (by have := VB.size; simp; omega) ?_)
        intro a7 c7 w9 o7 u7 _
        have VE := (VB.alloc VB.size (.cells #[.int .i64 (k : Int)] 3)).trans u7
        clear u7 VB
        go_wp2
        go_roundw
        case rel => exact ⟨k + 1, by omega, by go_num, VE, a7, n5 + 1, c7, rfl, by rw [HS2.out]; exact o7⟩
        case measure => simp [intOf]; omega
      · have HS2 : Hid (wtL p delta keys L (k + 1) = wtL p delta keys L k) := Lib.hid (by rw [HS.out, HH.out]; simp)
        go_wp2
        go_roundw
        case rel => exact ⟨k + 1, by omega, by go_num, V_wj, a5, n5, c5, rfl, by rw [HS2.out]; exact own⟩
        case measure => simp [intOf]; omega

    · obtain rfl : kn = k := by omega
      have hge : ¬ ((kn : Int) < (kn : Int)) := by omega
      have SW := V0.size
      go_wp2
      go_ret2
      exact ⟨a5, n5, c5, rfl, own.lower SW, VW⟩
set_option maxHeartbeats 16000000 in
set_option maxRecDepth 100000 in
theorem spec_WrongTags_any (p delta : Int) (ka : Option Addr) (kn kc : Nat) (keys : List Int) (la : Option Addr) (n lc : Nat) (L : List Int) (w : World) (hK : Ints w ka kn kc keys) (hL : Flat 2 w la n lc L) :
    Calls Try.prog 30 #[.int .i64 p, .int .i64 delta, .slice ka kn kc, .slice la n lc] w fun e w' => ∃ a m c, e = .returned (.tuple #[.slice a m c, .bool (tlB p delta keys L kn n)]) ∧ Own w' w.heap.size a m c (wtR p delta keys L kn n) ∧ Below w.heap.size w w' := by
  have CT := Lib.hid (fun (W : World) (h : Ints W ka kn kc keys) (h2 : Flat 2 W la n lc L) => tgLists_any p delta ka kn kc keys la n lc L W h h2)
  have HP := Lib.hid (fun h => tlB_parts (p := p) (delta := delta) (keys := keys) (L := L) (kn := kn) (n := n) h)
  have hkn := hK.le
  have hln := hL.le
  have LK := Lib.hid hK
  have LL := Lib.hid hL
  have HKe := Lib.hid (fun h => els_rng (p := p) (l := keys) h)
  have HTg := Lib.hid (fun h => tag_rng (p := p) (L := L) (n := n) h)
  clear hK hL
  unfold wtR
  generalize tlB p delta keys L kn n = b1 at *






  cases b1
  · simp only [Bool.false_eq_true, if_false]

    go_enter Try.func30, Try.ntmps30
    go_wp2_with fail
    refine (CT.out _ (LK.out.below (Below.refl w.heap.size w)) (Flat.below LL.out (Below.refl w.heap.size w))).mono ?_
    rintro e w1' ⟨rfl, u_w1'⟩
    have S_w1' := u_w1'.size
    have V_w1' : Below w.heap.size w w1' := (Below.refl w.heap.size w).trans (u_w1'.mono (Below.refl w.heap.size w).size)
    clear u_w1'
    go_wp2
    go_ret2
    exact ⟨none, 0, 0, rfl, Own.nil0 _ _ _, V_w1'⟩
  obtain ⟨⟨_, p1, p2, d1, d2⟩, hke, rfl, hn20, htg⟩ := HP.out rfl
  simp only [if_true]
  have hkr := Lib.hid (HKe.out hke)
  have htr := Lib.hid (HTg.out htg)
  have hp : 1 ≤ p := by omega
  have hp3 : p ≤ 1000 := by omega

  go_enter Try.func30, Try.ntmps30
  go_wp2_with fail
  refine (CT.out _ (LK.out.below (Below.refl w.heap.size w)) (Flat.below LL.out (Below.refl w.heap.size w))).mono ?_
  rintro e w1' ⟨rfl, u_w1'⟩
  have S_w1' := u_w1'.size
  have V_w1' : Below w.heap.size w w1' := (Below.refl w.heap.size w).trans (u_w1'.mono (Below.refl w.heap.size w).size)
  clear u_w1'
  go_wp2_with fail
  have V0 := V_w1'
  obtain ⟨wL, rfl⟩ : ∃ q, q = w1' := ⟨_, rfl⟩

  go_loopw [21, 10] (fun v u wr => ∃ k : Nat, k ≤ kn ∧ v = .int .i64 k ∧ Below wL.heap.size wL wr ∧ ∃ a5 n5 c5, u = .slice a5 n5 c5 ∧ Own wr wL.heap.size a5 n5 c5 (wtL p delta keys L k)) (fun v _ _ => kn - (intOf v).toNat)
  case atStart => exact ⟨0, Nat.zero_le _, rfl, Below.refl _ _, _, 0, 0, rfl, Own.nil0 _ _ _⟩
  case round =>
    obtain ⟨k, hk, rfl, hbel, a5, n5, c5, rfl, own⟩ := hrel
    have hl5 : n5 ≤ 20 := by have := own.ints.len; have := wtL_len p delta keys L k; omega
    have VW : Below w.heap.size w wr := V0.trans (hbel.mono V0.size)



    by_cases hlt : k < kn
    · have hlt' : (k : Int) < (kn : Int) := by omega
      obtain ⟨g2, o2, h2, ck⟩ := (LK.out.below VW).at k hlt
      obtain ⟨g3, o3, h3, hc⟩ := (Flat.below LL.out VW).at (by omega)
      subst h2 h3
      have c0 : wr.cell? ⟨g3, o3 + k * 2, none⟩ = some (.int .i64 (L.getD (k * 2) 0)) := hc _ (by omega)
      have c1 : wr.cell? ⟨g3, o3 + k * 2 + 1, none⟩ = some (.int .i64 (L.getD (k * 2 + 1) 0)) := by have := hc (k * 2 + 1) (by omega); simpa only [Nat.add_assoc] using this
      clear hc ck
      have rk := hkr.out k
      obtain ⟨r0, r1⟩ := htr.out k hlt
      have HS : Hid (wtL p delta keys L (k + 1) = wtL p delta keys L k ++ if hAtB p delta keys L k then [] else [(k : Int)]) := Lib.hid rfl
      have HH : Hid (hAtB p delta keys L k = holdB p delta (keys.getD k 0) (L.getD (k * 2) 0) (L.getD (k * 2 + 1) 0)) := Lib.hid rfl
      generalize L.getD (k * 2) 0 = x0 at *
      generalize L.getD (k * 2 + 1) 0 = x1 at *
      generalize hkk : keys.getD k 0 = kk at *
      replace hkk := Lib.hid hkk
      have CH := Lib.hid (fun W : World => tgHolds_any p delta kk x0 x1 W hp hp3 ⟨d1, d2⟩ rk r0 r1)
      generalize holdB p delta kk x0 x1 = bh at *

      go_upto_region 7 with fail
      clear c0 c1
      refine Exists.elim (Blk.new_ wr (b := wr.heap.size) rfl 52 #[.int .i64 x0, .int .i64 x1]) (fun w2' q => ?_)
      rw [q.1]; have B_x := q.2.1; have s_w2' := q.2.2.1; have u_w2' := q.2.2.2; clear q
      replace own := own.below u_w2'
      have S_w2' : wr.heap.size + 1 ≤ w2'.heap.size := Nat.le_of_eq s_w2'.symm
      have V_w2' := hbel.trans (u_w2'.mono (hbel).size)
      clear u_w2' s_w2' hbel
      have VX := V0.trans ((V_w2').mono V0.size)
      obtain ⟨g9, o9, h9, ck3⟩ := (LK.out.below VX).at k hlt
      cases h9
      rw [hkk.out] at ck3
      have e_x := B_x.all2
      have ck9 : w2'.cell? ⟨g2, o2 + k, none⟩ = some (.int .i64 kk) := ck3
      go_region_held3 (fun W => W.cell? ⟨wr.heap.size, 0, none⟩ = some (.int .i64 x0) ∧ W.cell? ⟨wr.heap.size, 1, none⟩ = some (.int .i64 x1) ∧ W.cell? ⟨g2, o2 + k, none⟩ = some (.int .i64 kk))
        (first | go_keep | exact ⟨(B_x.a2_0), (B_x.a2_1), ck9⟩ | exact ⟨keepA _ (B_x.a2_0), keepA _ (B_x.a2_1), keepA _ ck9⟩ | exact ⟨keepA _ (keepA _ (B_x.a2_0)), keepA _ (keepA _ (B_x.a2_1)), keepA _ (keepA _ ck9)⟩ | exact ⟨keepA _ (keepA _ (keepA _ (B_x.a2_0))), keepA _ (keepA _ (keepA _ (B_x.a2_1))), keepA _ (keepA _ (keepA _ ck9))⟩ | exact ⟨keepC uj ((B_x.a2_0)), keepC uj ((B_x.a2_1)), keepC uj (ck9)⟩ | exact ⟨keepA _ (keepC uj ((B_x.a2_0))), keepA _ (keepC uj ((B_x.a2_1))), keepA _ (keepC uj (ck9))⟩ | exact ⟨keepA _ (keepA _ (keepC uj ((B_x.a2_0)))), keepA _ (keepA _ (keepC uj ((B_x.a2_1)))), keepA _ (keepA _ (keepC uj (ck9)))⟩ | exact ⟨keepC uj (keepA _ (B_x.a2_0)), keepC uj (keepA _ (B_x.a2_1)), keepC uj (keepA _ ck9)⟩ | exact ⟨keepA _ (keepC uj (keepA _ (B_x.a2_0))), keepA _ (keepC uj (keepA _ (B_x.a2_1))), keepA _ (keepC uj (keepA _ ck9))⟩ | exact ⟨keepA _ (keepA _ (keepC uj (keepA _ (B_x.a2_0)))), keepA _ (keepA _ (keepC uj (keepA _ (B_x.a2_1)))), keepA _ (keepA _ (keepC uj (keepA _ ck9)))⟩ | exact ⟨keepC uj (keepA _ (keepA _ (B_x.a2_0))), keepC uj (keepA _ (keepA _ (B_x.a2_1))), keepC uj (keepA _ (keepA _ ck9))⟩ | exact ⟨keepA _ (keepC uj (keepA _ (keepA _ (B_x.a2_0)))), keepA _ (keepC uj (keepA _ (keepA _ (B_x.a2_1)))), keepA _ (keepC uj (keepA _ (keepA _ ck9)))⟩ | exact ⟨keepA _ (keepA _ (keepC uj (keepA _ (keepA _ (B_x.a2_0))))), keepA _ (keepA _ (keepC uj (keepA _ (keepA _ (B_x.a2_1))))), keepA _ (keepA _ (keepC uj (keepA _ (keepA _ ck9))))⟩ | exact ⟨keepC uj (keepA _ (keepA _ (keepA _ (B_x.a2_0)))), keepC uj (keepA _ (keepA _ (keepA _ (B_x.a2_1)))), keepC uj (keepA _ (keepA _ (keepA _ ck9)))⟩ | exact ⟨keepA _ (keepC uj (keepA _ (keepA _ (keepA _ (B_x.a2_0))))), keepA _ (keepC uj (keepA _ (keepA _ (keepA _ (B_x.a2_1))))), keepA _ (keepC uj (keepA _ (keepA _ (keepA _ ck9))))⟩ | exact ⟨keepA _ (keepA _ (keepC uj (keepA _ (keepA _ (keepA _ (B_x.a2_0)))))), keepA _ (keepA _ (keepC uj (keepA _ (keepA _ (keepA _ (B_x.a2_1)))))), keepA _ (keepA _ (keepC uj (keepA _ (keepA _ (keepA _ ck9)))))⟩)
        ((go_at_call 99; refine (CH.out _).mono ?_; rintro e wj ⟨rfl, uj⟩))
      have u9 : Below w2'.heap.size w2' wj := (Below.refl _ _).drew.trans uj
      clear uj ck3
      clear e_x ck9
      replace B_x := B_x.below u9
      replace own := own.below u9
      have S_wj := u9.size
      have V_wj : Below wL.heap.size wL wj := V_w2'.trans (u9.mono V_w2'.size)
      clear V_w2'
      clear u9
      cases bh
      · have HS2 : Hid (wtL p delta keys L (k + 1) = wtL p delta keys L k ++ [(k : Int)]) := Lib.hid (by rw [HS.out, HH.out]; rfl)
        have VB := V_wj
        go_wp2_with (at_builtin; refine wpList_appI _ rfl _ _ rfl wL.heap.size a5 n5 c5 (wtL p delta keys L k) rfl (own.alloc _) _ 1 1 [(k : Int)] rfl (Ints.lit1 _ _ _) (by omega) (by have := VB.size; simp; omega) ?_)
        intro a7 c7 w9 o7 u7 _
        have VE := (VB.alloc VB.size (.cells #[.int .i64 (k : Int)] 3)).trans u7
        clear u7 VB
        go_wp2
        go_roundw
        case rel => exact ⟨k + 1, by omega, by go_num, VE, a7, n5 + 1, c7, rfl, by rw [HS2.out]; exact o7⟩
        case measure => simp [intOf]; omega
      · have HS2 : Hid (wtL p delta keys L (k + 1) = wtL p delta keys L k) := Lib.hid (by rw [HS.out, HH.out]; simp)
        go_wp2
        go_roundw
        case rel => exact ⟨k + 1, by omega, by go_num, V_wj, a5, n5, c5, rfl, by rw [HS2.out]; exact own⟩
        case measure => simp [intOf]; omega

    · obtain rfl : kn = k := by omega
      have hge : ¬ ((kn : Int) < (kn : Int)) := by omega
      have SW := V0.size
      go_wp2
      go_ret2
      exact ⟨a5, n5, c5, rfl, own.lower SW, VW⟩
end Go.Proofs.Ytjgbhokilagmoaa
