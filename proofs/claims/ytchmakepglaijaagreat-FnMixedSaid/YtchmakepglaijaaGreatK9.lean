/- Lemmas and walks that the claim's proof rests on, part 9. -/
import Derived.Deep.DeepCutAuto
import Derived.Test.YtchmakepglaijaaGreatK2
import Derived.Test.YtchmakepglaijaaGreatK4
import Derived.Test.YtchmakepglaijaaGreatK6
import Derived.Test.YtchmakepglaijaaGreatK7
import Derived.Test.YtchmakepglaijaaGreatK8
namespace Go.Proofs.YtchmakepglaijaaGreat
open Go.RowKit
set_option maxHeartbeats 8000000 in
set_option maxRecDepth 100000 in
theorem constant_any (x : Int) (n : Nat) {oa : Option Addr} {on oc : Nat} (b g : Nat) (i0 i1 : Int) (G : List Int) (F : List Nat) (w : World) (h : Mk 94 w b g i0 i1 G F oa on oc) (hb : b ≤ w.heap.size) (h0 : 0 ≤ i0 ∧ i0 ≤ 1000) (h1 : 0 ≤ i1 ∧ i1 ≤ 1000) (hx : 0 ≤ x ∧ x ≤ 1000000000) (hn : n ≤ 60) (hl : G.length ≤ 20000) :
    Calls Tryz.prog 92 #[.pointer (some ⟨g, 0, none⟩), .int .i64 x, .int .i64 n] w fun e w' => ∃ a1 c1 F', e = .returned (.slice a1 n c1) ∧ Own w' w.heap.size a1 n c1 (coL (gW (i0 + i1) (gt G 3 0 0)) x n) ∧ Disj (foot a1 c1) F' ∧ Mk 94 w' b g i0 i1 (gt (gt G 3 0 0) 2 (gW (i0 + i1) G) 0) F' oa on oc ∧ Stp F w F' w' := by
  have S0 := Stp.refl F w
  go_enter Tryz.func92, Tryz.ntmps92
  go_wp2_with fail
  refine (zero_any b g i0 i1 _ F _ h (Nat.le_trans hb S0.size) h0 h1 (by (try simp only [gt_len]); omega)).mono ?_; rintro e wm1 ⟨rfl, Fm1, Mm1, sm1⟩
  have Sm1 := S0.trans sm1
  clear h S0 sm1
  go_wp2_with fail
  refine (bitsOf_any x n _ hx hn).mono ?_; rintro e w2 ⟨ba, bc, rfl, ob, u2⟩
  have M2 := (Mm1.alloc (.cells #[] 3)).below u2
  have S2 := (Sm1.alloc (.cells #[] 3)).below u2
  have hz := gW_le (i0 + i1) G
  have hz' := gW_nn (G := G) (show 0 ≤ i0 + i1 by omega)
  have HZ := Lib.hid (gW_gt (i0 + i1) G 3 0 0)
  clear u2 Mm1 Sm1
  have HZ0 : ∃ z, gW (i0 + i1) G = z := ⟨_, rfl⟩
  obtain ⟨z, hz0⟩ := HZ0
  rw [hz0] at HZ hz hz' M2
  rw [HZ.out]
  try rw [hz0]
  have HZ0 := Lib.hid hz0
  clear hz0
  go_wp2
  have own0 : Own w2 w2.heap.size (some ⟨wm1.heap.size, 0, none⟩) 0 0 (coL (z + 1) x 0) := Own.nil0 _ _ _
  go_loopw [8, 18] (fun u v wr => ∃ k : Nat, k ≤ n ∧ v = .int .i64 k ∧ Below w2.heap.size w2 wr ∧ ∃ a1 c1, u = .slice a1 k c1 ∧ Own wr w2.heap.size a1 k c1 (coL (z + 1) x k)) (fun _ v _ => n - (intOf v).toNat)
  case atStart => exact ⟨0, Nat.zero_le _, rfl, Below.refl _ _, _, _, rfl, own0⟩
  case round =>
    obtain ⟨k, hk, rfl, hbel, a1, c1, rfl, own⟩ := hrel
    by_cases hlt : k < n
    · have HS := Lib.hid (coL_succ (z + 1) x k)
      obtain ⟨gb, oo, rfl, hc⟩ := (ob.ints.below hbel).at k hlt
      have hq : (btL x n).getD k 0 = x / 2 ^ k % 2 := by simp [btL, List.getD, hlt]
      have hr : 0 ≤ x / 2 ^ k % 2 ∧ x / 2 ^ k % 2 ≤ 1 := by omega
      rw [hq] at hc
      clear hq
      generalize x / 2 ^ k % 2 = y at *
      go_wp2_with (at_builtin; refine wpList_appI _ rfl _ _ rfl w2.heap.size a1 k c1 (coL (z + 1) x k) rfl (own.alloc _) _ 1 1 [z + 1 - y] rfl (Ints.lit1 _ _ _) (by omega) (by have := hbel.size; simp; omega) ?_)
      intro a5 c5 w3 o5 u5 _
      have b3 := (hbel.alloc hbel.size (.cells #[.int .i64 (z + 1 - y)] 3)).trans u5
      clear u5 hbel own hc
      go_wp2
      go_roundw
      case rel => exact ⟨k + 1, by omega, by go_num, b3, a5, c5, rfl, by rw [HS.out]; exact o5⟩
      case measure => simp [intOf]; omega
    · obtain rfl : k = n := by omega
      go_wp2
      go_ret
      exact ⟨_, _, Fm1, rfl, by rw [HZ.out]; exact own.lower S2.size, Disj.of_rng own.feet M2.feet (.inr (Nat.le_refl _)), by rw [HZ0.out]; exact M2.below hbel, S2.below hbel⟩
set_option maxHeartbeats 8000000 in
set_option maxRecDepth 100000 in
theorem gdConst_any (x : Int) (n : Nat) {oa : Option Addr} {on oc : Nat} (b g : Nat) (i0 i1 : Int) (G : List Int) (F : List Nat) (w : World) (h : Mk 110 w b g i0 i1 G F oa on oc) (hb : b ≤ w.heap.size) (h0 : 0 ≤ i0 ∧ i0 ≤ 1000) (h1 : 0 ≤ i1 ∧ i1 ≤ 1000) (hx : 0 ≤ x ∧ x ≤ 1000000000) (hn : n ≤ 60) (hl : G.length ≤ 20000) :
    Calls Tryz.prog 103 #[.pointer (some ⟨g, 0, none⟩), .int .i64 x, .int .i64 n] w fun e w' => ∃ a1 c1 F', e = .returned (.slice a1 n c1) ∧ Own w' w.heap.size a1 n c1 (coL (gW (i0 + i1) (gt G 3 0 0)) x n) ∧ Disj (foot a1 c1) F' ∧ Mk 110 w' b g i0 i1 (gt (gt G 3 0 0) 2 (gW (i0 + i1) G) 0) F' oa on oc ∧ Stp F w F' w' := by
  have S0 := Stp.refl F w
  go_enter Tryz.func103, Tryz.ntmps103
  go_wp2_with fail
  refine (sone_any b g i0 i1 _ F _ h (Nat.le_trans hb S0.size) h0 h1 (by (try simp only [gt_len]); omega)).mono ?_; rintro e wm1 ⟨rfl, Fm1, Mm1, sm1⟩
  have Sm1 := S0.trans sm1
  clear h S0 sm1
  go_wp2_with fail
  refine (snot_any _ b g i0 i1 _ Fm1 _ Mm1 (Nat.le_trans hb Sm1.size) h0 h1 (by (try simp only [gt_len]); omega)).mono ?_; rintro e wm2 ⟨rfl, Fm2, Mm2, sm2⟩
  have Sm2 := Sm1.trans sm2
  clear Mm1 Sm1 sm2
  go_wp2_with fail
  refine (btOf_any x n _ hx hn).mono ?_; rintro e w2 ⟨ba, bc, rfl, ob, u2⟩
  have M2 := Mm2.below u2
  have S2 := Sm2.below u2
  have hz := gW_le (i0 + i1) G
  have hz' := gW_nn (G := G) (show 0 ≤ i0 + i1 by omega)
  have HZ := Lib.hid (gW_gt (i0 + i1) G 3 0 0)
  clear u2 Mm2 Sm2
  have HZ0 : ∃ z, gW (i0 + i1) G = z := ⟨_, rfl⟩
  obtain ⟨z, hz0⟩ := HZ0
  rw [hz0] at HZ hz hz' M2
  rw [HZ.out]
  try rw [hz0]
  have HZ0 := Lib.hid hz0
  clear hz0
  go_wp2
  have own0 : Own w2 w2.heap.size none 0 0 (coL (z + 1) x 0) := Own.nil0 _ _ _
  go_loopw [9, 21] (fun u v wr => ∃ k : Nat, k ≤ n ∧ v = .int .i64 k ∧ Below w2.heap.size w2 wr ∧ ∃ a1 c1, u = .slice a1 k c1 ∧ Own wr w2.heap.size a1 k c1 (coL (z + 1) x k)) (fun _ v _ => n - (intOf v).toNat)
  case atStart => exact ⟨0, Nat.zero_le _, rfl, Below.refl _ _, _, _, rfl, own0⟩
  case round =>
    obtain ⟨k, hk, rfl, hbel, a1, c1, rfl, own⟩ := hrel
    by_cases hlt : k < n
    · have HS := Lib.hid (coL_succ (z + 1) x k)
      obtain ⟨gb, oo, rfl, hc⟩ := (ob.ints.below hbel).at k hlt
      have hq : (btL x n).getD k 0 = x / 2 ^ k % 2 := by simp [btL, List.getD, hlt]
      have hr : 0 ≤ x / 2 ^ k % 2 ∧ x / 2 ^ k % 2 ≤ 1 := by omega
      rw [hq] at hc
      clear hq
      generalize x / 2 ^ k % 2 = y at *
      by_cases h1 : y = 1
      · subst h1
        go_wp2_with (at_builtin; refine wpList_appI _ rfl _ _ rfl w2.heap.size a1 k c1 (coL (z + 1) x k) rfl (own.alloc _) _ 1 1 [z] rfl (Ints.lit1 _ _ _) (by omega) (by have := hbel.size; simp; omega) ?_)
        intro a5 c5 w3 o5 u5 _
        have b3 := (hbel.alloc hbel.size (.cells #[.int .i64 (z)] 3)).trans u5
        clear u5 hbel own hc
        go_wp2
        go_roundw
        case rel => exact ⟨k + 1, by omega, by go_num, b3, a5, c5, rfl, by
          rw [HS.out]
          have e : z + 1 - 1 = z := by omega
          rw [e]; exact o5⟩
        case measure => simp [intOf]; omega
      · have h1' : (y == 1) = false := by simp [h1]
        go_wp2_with (at_builtin; refine wpList_appI _ rfl _ _ rfl w2.heap.size a1 k c1 (coL (z + 1) x k) rfl (own.alloc _) _ 1 1 [z + 1] rfl (Ints.lit1 _ _ _) (by omega) (by have := hbel.size; simp; omega) ?_)
        intro a5 c5 w3 o5 u5 _
        have b3 := (hbel.alloc hbel.size (.cells #[.int .i64 (z + 1)] 3)).trans u5
        clear u5 hbel own hc
        go_wp2
        go_roundw
        case rel => exact ⟨k + 1, by omega, by go_num, b3, a5, c5, rfl, by
          rw [HS.out]
          have e : y = 0 := by omega
          rw [e, Int.sub_zero]; exact o5⟩
        case measure => simp [intOf]; omega
    · obtain rfl : k = n := by omega
      go_wp2
      go_ret
      exact ⟨_, _, Fm2, rfl, by rw [HZ.out]; exact own.lower S2.size, Disj.of_rng own.feet M2.feet (.inr (Nat.le_refl _)), by rw [HZ0.out]; exact M2.below hbel, S2.below hbel⟩
end Go.Proofs.YtchmakepglaijaaGreat
namespace Go.Proofs.YtchmakepglaijaaGreat
open Go.RowKit
set_option maxHeartbeats 8000000 in
set_option maxRecDepth 100000 in
theorem reduceCircuit_any (p : Int) (w : World) (hp : 2 ≤ p) (hp2 : p ≤ 256) :
    Calls Tryz.prog 48 #[.int .i64 p] w fun e w' => ∃ ga gn gc oa on oc, e = .returned (.agg #[.int .i64 (wid p), .int .i64 (wid p), .slice ga gn gc, .slice oa on oc]) ∧ OwnF 3 eGate w' w.heap.size ga gn gc (reG p) ∧ Own w' w.heap.size oa on oc (reO p) ∧ Disj (foot ga gc) (foot oa oc) ∧ Below w.heap.size w w' := by
  obtain ⟨n, hn⟩ : ∃ n, n = wid p := ⟨_, rfl⟩
  have hn8 := wid_le p
  have hn1 := wid_cases p
  rw [← hn] at hn8 hn1
  replace hn1 : 1 ≤ n := by omega
  unfold reG reO
  rw [← hn]
  have e1 : Hid (((n : Int) + 1) = ((n + 1 : Nat) : Int)) := rfl
  go_enter Tryz.func48, Tryz.ntmps48
  go_wp2_with fail
  refine (widthFor_any p _ (by omega) hp2).mono ?_; rintro e w' ⟨rfl, rfl⟩
  rw [← hn]
  clear hn
  go_wp2_with fail
  have R3 : Blk ((w.alloc (.cells #[.int .i64 0, .int .i64 0, .slice none 0 0, .slice none 0 0] 49)).alloc (.cells #[.int .i64 (n : Int), .int .i64 (n : Int), .slice none 0 0, .slice none 0 0] 94)) w.heap.size 49 #[.int .i64 0, .int .i64 0, .slice none 0 0, .slice none 0 0] := (Blk.new w _ _).alloc _
  have M3 : Mk 94 ((w.alloc (.cells #[.int .i64 0, .int .i64 0, .slice none 0 0, .slice none 0 0] 49)).alloc (.cells #[.int .i64 (n : Int), .int .i64 (n : Int), .slice none 0 0, .slice none 0 0] 94)) (w.heap.size + 1) (w.heap.size + 1) n n [] [w.heap.size + 1] := by simpa using Mk.new 94 (w.alloc (.cells #[.int .i64 0, .int .i64 0, .slice none 0 0, .slice none 0 0] 49)) (w.heap.size + 1) (n : Int) (n : Int) (by simp)
  have V3 : Below w.heap.size w ((w.alloc (.cells #[.int .i64 0, .int .i64 0, .slice none 0 0, .slice none 0 0] 49)).alloc (.cells #[.int .i64 (n : Int), .int .i64 (n : Int), .slice none 0 0, .slice none 0 0] 94)) := ((Below.refl _ _).alloc (Nat.le_refl _) _).alloc (by simp) _
  have Z3 : w.heap.size + 1 + 1 ≤ ((w.alloc (.cells #[.int .i64 0, .int .i64 0, .slice none 0 0, .slice none 0 0] 49)).alloc (.cells #[.int .i64 (n : Int), .int .i64 (n : Int), .slice none 0 0, .slice none 0 0] 94)).heap.size := by simp
  generalize ((w.alloc (.cells #[.int .i64 0, .int .i64 0, .slice none 0 0, .slice none 0 0] 49)).alloc (.cells #[.int .i64 (n : Int), .int .i64 (n : Int), .slice none 0 0, .slice none 0 0] 94)) = w3 at *
  refine (span_any 0 n _ (by omega) (by omega)).mono ?_; rintro e w4 ⟨xa, xc, rfl, oa4, u4⟩
  go_wp2_with fail
  refine (span_any n n _ (by omega) (by omega)).mono ?_; rintro e w5 ⟨ya, yc, rfl, ob5, u5⟩
  have M4 := M3.below u4
  have M5 := M4.below u5
  have R5 := (R3.below u4).below u5
  have V5 := (V3.trans (u4.mono V3.size)).trans (u5.mono (V3.trans (u4.mono V3.size)).size)
  have Z5 : w.heap.size + 1 + 1 ≤ w5.heap.size := Nat.le_trans Z3 (Nat.le_trans u4.size u5.size)
  have dA := (oa4.below u5).intD (Disj.of_rng oa4.feet M3.feet (.inr (Nat.le_refl _)))
  have dB := ob5.intD (Disj.of_rng ob5.feet M4.feet (.inr (Nat.le_refl _)))
  clear oa4 ob5 u4 u5 M3 M4 R3 V3 Z3
  go_wp2_with fail
  have h0 : (0 : Int) ≤ (n : Int) ∧ (n : Int) ≤ 1000 := by omega
  have L1 := adG_len ((n : Int) + n) (spL 0 n) (spL n n) [] n
  refine (add_any _ n _ _ _ n _ _ (w.heap.size + 1) (w.heap.size + 1) n n [] _ w5 M5 (by omega) h0 h0 dA dB (Nat.le_refl _) (by omega) (by simp)).mono ?_; rintro e w6 ⟨sa, sc, F6, rfl, os6, ds6, M6, s6⟩
  clear dA dB M5
  obtain ⟨⟨G1, q1, z1⟩, hr1⟩ : ∃ r, r = adG ((n : Int) + n) (spL 0 n) (spL n n) [] n := ⟨_, rfl⟩
  rw [← hr1] at os6 M6 L1
  simp only [List.length_nil] at L1
  try rw [← hr1]
  have H1 : Hid (re1 n = (G1, q1, z1)) := hr1.symm
  clear hr1
  go_wp2_with (at_builtin; refine wpList_appJ _ rfl _ _ rfl w5.heap.size sa n sc q1 rfl (os6.alloc _) _ 1 1 [z1] rfl (Ints.lit1 _ _ _) (by omega) (by have := s6.size; simp; omega) ?_)
  intro ta tc w7 ot _ g7 m7
  have O7 := Only.of_grown g7
  have M7 := Mk.only (Mk.alloc M6 _) O7 ds6
  have s7 := Stp.onto (Stp.alloc s6 _) O7 (fun k hk => (os6.feet k hk).1)
  have dt : Disj (foot ta tc) F6 := m7.disj ds6 (fun k hk => by have := (M6.feet k hk).2; simp; omega)
  clear os6 ds6 M6 s6 O7 g7 m7
  go_wp2_with fail
  rw [e1.out]
  refine (constant_any p (n + 1) (w.heap.size + 1) (w.heap.size + 1) n n G1 F6 w7 M7 (by have := s7.size; omega) h0 h0 (by omega) (by omega) (by omega)).mono ?_; rintro e w8 ⟨ca, cc, F8, rfl, oc8, dc8, M8, s8⟩
  obtain ⟨ot8, dt8⟩ := ot.stp dt s8
  have s9 := s7.trans s8
  clear ot dt M7 s7 s8
  go_wp2_with fail
  have L3 := suG_len ((n : Int) + n) (q1 ++ [z1]) (coL (gW ((n : Int) + n) (gt G1 3 0 0)) p (n + 1)) (gt (gt G1 3 0 0) 2 (gW ((n : Int) + n) G1) 0) (n + 1)
  simp only [gt_len] at L3
  refine (subtract_any _ (n + 1) _ _ _ (n + 1) _ _ (w.heap.size + 1) (w.heap.size + 1) n n _ F8 w8 M8 (by have := s9.size; omega) h0 h0 (ot8.intD dt8) (oc8.intD dc8) (Nat.le_refl _) (by omega) (by simp only [gt_len]; omega)).mono ?_; rintro e w10 ⟨da, dc, F10, rfl, od, dd, M10, s10⟩
  obtain ⟨ot10, dt10⟩ := ot8.stp dt8 s10
  have s11 := s9.trans s10
  clear ot8 dt8 oc8 dc8 M8 s9 s10
  obtain ⟨⟨G3, q3, z3⟩, hr3⟩ : ∃ r, r = suG ((n : Int) + n) (q1 ++ [z1]) (coL (gW ((n : Int) + n) (gt G1 3 0 0)) p (n + 1)) (gt (gt G1 3 0 0) 2 (gW ((n : Int) + n) G1) 0) (n + 1) := ⟨_, rfl⟩
  rw [← hr3] at od M10 L3
  try rw [← hr3]
  have H3 : Hid (re3 n p (G1, q1, z1) = (G3, q3, z3)) := hr3.symm
  clear hr3
  simp only at L1 L3 od M10
  have HC := Lib.hid (chG_take ((n : Int) + n) z3 (q1 ++ [z1]) (q3) G3 n n (Nat.le_refl _))
  have R10 := R5.only s11.only (by simp)
  have V10 := V5.trans (s11.out (B := w.heap.size) (by omega) (by simp))
  have Z10 := s11.size
  have HB := Lib.hid (fun k hk => (M10.feet k hk).1)
  clear R5 V5 s11
  have iS := (ot10.intD dt10).pre n (by omega) (by omega)
  have iD := (od.intD dd).pre n (by omega) (by omega)
  obtain ⟨gs, os, hgs, _⟩ := ot10.ints.at 0 (by omega)
  obtain ⟨gd, o_d, hgd, _⟩ := od.ints.at 0 (by omega)
  subst hgs hgd
  have capS := ot10.cap
  have capD := od.cap
  clear ot10 dt10 od dd
  obtain ⟨⟨G4, q4⟩, hr4⟩ : ∃ r, r = chG ((n : Int) + n) z3 (q1 ++ [z1]) q3 G3 n := ⟨_, rfl⟩
  have H4 : Hid (re4 n (re1 n) (re3 n p (re1 n)) = (G4, q4)) := Lib.hid (by rw [H1.out, H3.out]; exact hr4.symm)
  clear H1 H3
  have HR := Lib.hid hr4
  clear hr4
  go_upto_region 6 with fail
  go_cut [] (fun wx => ∃ ga gn gc oa oc, Blk wx (w.heap.size + 1) 94 #[.int .i64 (n : Int), .int .i64 (n : Int), .slice ga gn gc, .slice oa n oc] ∧ Blk wx w.heap.size 49 #[.int .i64 0, .int .i64 0, .slice none 0 0, .slice none 0 0] ∧ Below w.heap.size w wx ∧ OwnF 3 eGate wx (w.heap.size + 1) ga gn gc G4 ∧ Own wx (w.heap.size + 2) oa n oc q4 ∧ Disj (foot ga gc) (foot oa oc))
  case first =>
    go_region_with (go_at_call 93; refine (choose_any z3 _ n _ _ _ n _ _ (w.heap.size + 1) (w.heap.size + 1) n n G3 F10 _ M10.drew (by simp; omega) h0 h0 (iS.below ((Below.refl _ _).drew)) (iD.below ((Below.refl _ _).drew)) (Nat.le_refl _) (by omega) (by omega)).mono ?_; rintro e w11 ⟨oa, oc, F11, rfl, oo, do_, M11, s12⟩; obtain ⟨ga, gn, gc, hB, ho, hg, hbg, hF⟩ := M11; have x3 := hB.cell 3; have y3 := hB.frozen 3)
    all_goals
      rw [HC.out] at oo ho
      rw [← HR.out] at oo ho
      have B11 := hB.set_ 3 (.slice oa n oc)
      have O11 : Only [w.heap.size + 1] w11 (w11.setCell ⟨w.heap.size + 1, 3, none⟩ (.slice oa n oc)) := (Only.refl _ _).setCell _ _ (by simp)
      have R11 := ((R10.drew).only s12.only (fun hm => by have := HB.out _ hm; omega)).only O11 (by simp)
      have V11 := (V10.drew.trans (s12.out (B := w.heap.size) (Nat.le_trans V10.size (Nat.le_refl _)) (fun k hk => by have := HB.out _ hk; omega))).trans (O11.below (Nat.le_trans V10.size s12.size) (by simp))
      have ho11 := OwnF.only ho O11 (fun k hk hk' => hg (by simp at hk'; subst hk'; exact hk))
      have oo11 := Own.only oo O11 (fun k hk hk' => do_ k hk (by rw [hF]; simp at hk'; subst hk'; simp))
      have hdd : Disj (foot ga gc) (foot oa oc) := fun k hk hk' => do_ k hk' (by rw [hF]; exact List.mem_cons_of_mem _ hk)
      have Z11 : w.heap.size + 1 < w10.drew.heap.size := (show w.heap.size + 1 < w10.heap.size by omega)
      try go_wp2_with fail
      go_meet
      exact ⟨ga, gn, gc, oa, oc, B11, R11, V11, ho11, oo11.lower (by omega), hdd⟩
  case rest =>
    clear R10 V10 M10 iS iD
    obtain ⟨ga, gn, gc, oa, oc, B11, R11, V11, ho11, oo11, hdd⟩ := hcut
    have Q1 := Lib.hid ho11.feet
    have Q2 := Lib.hid oo11.feet
    have x0 : wc.cell? ⟨w.heap.size + 1, 0, none⟩ = some (.int .i64 (n : Int)) := B11.cell 0
    have x1 : wc.cell? ⟨w.heap.size + 1, 1, none⟩ = some (.int .i64 (n : Int)) := B11.cell 1
    have x2 : wc.cell? ⟨w.heap.size + 1, 2, none⟩ = some (.slice ga gn gc) := B11.cell 2
    have x3 : wc.cell? ⟨w.heap.size + 1, 3, none⟩ = some (.slice oa n oc) := B11.cell 3
    have r0 : wc.cell? ⟨w.heap.size, 0, none⟩ = some (.int .i64 0) := R11.cell 0
    have q0 : wc.frozen? ⟨w.heap.size, 0, none⟩ = false := R11.frozen 0
    have r1 : wc.cell? ⟨w.heap.size, 1, none⟩ = some (.int .i64 0) := R11.cell 1
    have q1 : wc.frozen? ⟨w.heap.size, 1, none⟩ = false := R11.frozen 1
    have r2 : wc.cell? ⟨w.heap.size, 2, none⟩ = some (.slice none 0 0) := R11.cell 2
    have q2 : wc.frozen? ⟨w.heap.size, 2, none⟩ = false := R11.frozen 2
    have r3 : wc.cell? ⟨w.heap.size, 3, none⟩ = some (.slice none 0 0) := R11.cell 3
    have q3 : wc.frozen? ⟨w.heap.size, 3, none⟩ = false := R11.frozen 3
    go_wp2
    have GG := (((((Only.refl [w.heap.size] wc).setCell ⟨w.heap.size, 0, none⟩ (.int .i64 (n : Int)) (by simp)).setCell ⟨w.heap.size, 1, none⟩ (.int .i64 (n : Int)) (by simp)).setCell ⟨w.heap.size, 2, none⟩ (.slice ga gn gc) (by simp)).setCell ⟨w.heap.size, 3, none⟩ (.slice oa n oc) (by simp))
    exact bodyPost_ret (v := .agg #[.int .i64 (n : Int), .int .i64 (n : Int), .slice ga gn gc, .slice oa n oc]) (by simp [results, Tryz.results48, go_sem, r0, r1, r2, r3]) rfl ⟨_, _, _, _, _, _, rfl, by rw [H4.out]; exact (ho11.only GG (fun k hk hk' => by have := Q1.out k hk; simp at hk'; omega)).lower (by omega), by rw [H4.out]; exact (oo11.only GG (fun k hk hk' => by have := Q2.out k hk; simp at hk'; omega)).lower (by omega), hdd, V11.trans (GG.below V11.size (by simp))⟩
set_option maxHeartbeats 8000000 in
set_option maxRecDepth 100000 in
theorem cvReduce_any (p : Int) (w : World) (hp : 2 ≤ p) (hp2 : p ≤ 256) :
    Calls Tryz.prog 55 #[.int .i64 p] w fun e w' => ∃ ga gn gc oa on oc, e = .returned (.agg #[.int .i64 (wid p), .int .i64 (wid p), .slice ga gn gc, .slice oa on oc]) ∧ OwnF 3 eGate w' w.heap.size ga gn gc (reG p) ∧ Own w' w.heap.size oa on oc (reO p) ∧ Disj (foot ga gc) (foot oa oc) ∧ Below w.heap.size w w' := by
  obtain ⟨n, hn⟩ : ∃ n, n = wid p := ⟨_, rfl⟩
  have hn8 := wid_le p
  have hn1 := wid_cases p
  rw [← hn] at hn8 hn1
  replace hn1 : 1 ≤ n := by omega
  unfold reG reO
  rw [← hn]
  have e1 : Hid (((n : Int) + 1) = ((n + 1 : Nat) : Int)) := rfl
  go_enter Tryz.func55, Tryz.ntmps55
  go_wp2_with fail
  refine (cvWidth_any p _ (by omega) hp2).mono ?_; rintro e w' ⟨rfl, rfl⟩
  rw [← hn]
  clear hn
  go_wp2_with fail
  have R1 : Blk (w.alloc (.cells #[.int .i64 0, .int .i64 0, .slice none 0 0, .slice none 0 0] 49)) w.heap.size 49 #[.int .i64 0, .int .i64 0, .slice none 0 0, .slice none 0 0] := Blk.new w _ _
  have V1 : Below w.heap.size w (w.alloc (.cells #[.int .i64 0, .int .i64 0, .slice none 0 0, .slice none 0 0] 49)) := (Below.refl _ _).alloc (Nat.le_refl _) _
  have Z1 : w.heap.size + 1 = (w.alloc (.cells #[.int .i64 0, .int .i64 0, .slice none 0 0, .slice none 0 0] 49)).heap.size := by simp
  generalize (w.alloc (.cells #[.int .i64 0, .int .i64 0, .slice none 0 0, .slice none 0 0] 49)) = w1 at *
  refine (ciNew_any _ _ w1.heap.size w1 (Nat.le_refl _)).mono ?_; rintro e w3 ⟨rfl, M3, u3, Z3⟩
  have R3 := R1.below u3
  have V3 := V1.trans (u3.mono V1.size)
  rw [← Z1] at *
  clear R1 V1 u3 Z1
  go_wp2_with fail
  refine (gdRange_any 0 n _ (by omega) (by omega)).mono ?_; rintro e w4 ⟨xa, xc, rfl, oa4, u4⟩
  go_wp2_with fail
  refine (gdRange_any n n _ (by omega) (by omega)).mono ?_; rintro e w5 ⟨ya, yc, rfl, ob5, u5⟩
  have M4 := M3.below u4
  have M5 := M4.below u5
  have R5 := (R3.below u4).below u5
  have V5 := (V3.trans (u4.mono V3.size)).trans (u5.mono (V3.trans (u4.mono V3.size)).size)
  have Z5 : w.heap.size + 1 + 1 ≤ w5.heap.size := Nat.le_trans Z3 (Nat.le_trans u4.size u5.size)
  have dA := (oa4.below u5).intD (Disj.of_rng oa4.feet M3.feet (.inr (Nat.le_refl _)))
  have dB := ob5.intD (Disj.of_rng ob5.feet M4.feet (.inr (Nat.le_refl _)))
  clear oa4 ob5 u4 u5 M3 M4 R3 V3 Z3
  go_wp2_with fail
  have h0 : (0 : Int) ≤ (n : Int) ∧ (n : Int) ≤ 1000 := by omega
  have L1 := adG_len ((n : Int) + n) (spL 0 n) (spL n n) [] n
  refine (gdAdd_any _ n _ _ _ n _ _ (w.heap.size + 1) (w.heap.size + 1) n n [] _ w5 M5 (by omega) h0 h0 dA dB (Nat.le_refl _) (by omega) (by simp)).mono ?_; rintro e w6 ⟨sa, sc, F6, rfl, os6, ds6, M6, s6⟩
  clear dA dB M5
  obtain ⟨⟨G1, q1, z1⟩, hr1⟩ : ∃ r, r = adG ((n : Int) + n) (spL 0 n) (spL n n) [] n := ⟨_, rfl⟩
  rw [← hr1] at os6 M6 L1
  simp only [List.length_nil] at L1
  try rw [← hr1]
  have H1 : Hid (re1 n = (G1, q1, z1)) := hr1.symm
  clear hr1
  have ot := os6
  have dt := ds6
  have M7 := M6
  have s7 := s6
  clear os6 ds6 M6 s6
  go_wp2_with fail
  rw [e1.out]
  refine (gdConst_any p (n + 1) (w.heap.size + 1) (w.heap.size + 1) n n G1 F6 w6 M7 (by have := s7.size; omega) h0 h0 (by omega) (by omega) (by omega)).mono ?_; rintro e w8 ⟨ca, cc, F8, rfl, oc8, dc8, M8, s8⟩
  obtain ⟨ot8, dt8⟩ := ot.stp dt s8
  have s9 := s7.trans s8
  clear ot dt M7 s7 s8
  go_wp2_with fail
  have L3 := suG_len ((n : Int) + n) (q1 ++ [z1]) (coL (gW ((n : Int) + n) (gt G1 3 0 0)) p (n + 1)) (gt (gt G1 3 0 0) 2 (gW ((n : Int) + n) G1) 0) (n + 1)
  simp only [gt_len] at L3
  refine (gdSub_any _ (n + 1) _ _ _ (n + 1) _ _ (w.heap.size + 1) (w.heap.size + 1) n n _ F8 w8 M8 (by have := s9.size; omega) h0 h0 (ot8.intD dt8) (oc8.intD dc8) (Nat.le_refl _) (by omega) (by simp only [gt_len]; omega)).mono ?_; rintro e w10 ⟨da, dc, F10, rfl, od, dd, M10, s10⟩
  obtain ⟨ot10, dt10⟩ := ot8.stp dt8 s10
  have s11 := s9.trans s10
  clear ot8 dt8 oc8 dc8 M8 s9 s10
  obtain ⟨⟨G3, q3, z3⟩, hr3⟩ : ∃ r, r = suG ((n : Int) + n) (q1 ++ [z1]) (coL (gW ((n : Int) + n) (gt G1 3 0 0)) p (n + 1)) (gt (gt G1 3 0 0) 2 (gW ((n : Int) + n) G1) 0) (n + 1) := ⟨_, rfl⟩
  rw [← hr3] at od M10 L3
  try rw [← hr3]
  have H3 : Hid (re3 n p (G1, q1, z1) = (G3, q3, z3)) := hr3.symm
  clear hr3
  simp only at L1 L3 od M10
  have HC := Lib.hid (chG_take ((n : Int) + n) z3 (q1 ++ [z1]) (q3 ++ [z3]) G3 n n (Nat.le_refl _))
  have HC2 := Lib.hid (chG_app ((n : Int) + n) z3 (q1 ++ [z1]) q3 [z3] G3 n (by omega))
  have R10 := R5.only s11.only (by simp)
  have V10 := V5.trans (s11.out (B := w.heap.size) (by omega) (by simp))
  have Z10 := s11.size
  have HB := Lib.hid (fun k hk => (M10.feet k hk).1)
  clear R5 V5 s11
  have iS := (ot10.intD dt10).pre n (by omega) (by omega)
  have iD := (od.intD dd).pre n (by omega) (by omega)
  obtain ⟨gs, os, hgs, _⟩ := ot10.ints.at 0 (by omega)
  obtain ⟨gd, o_d, hgd, cB⟩ := od.ints.at (n + 1) (by omega)
  subst hgs hgd
  have capS := ot10.cap
  have capD := od.cap
  have eB : (q3 ++ [z3]).getD (n + 1) 0 = z3 := by simp [List.getD, L3.2]
  rw [eB] at cB
  clear eB
  have hidx : ((n : Int) + 1) < ((n + 1 + 1 : Nat) : Int) := by omega
  have hidx0 : (0 : Int) ≤ (n : Int) + 1 := by omega
  have hidt : ((n : Int) + 1).toNat = n + 1 := by omega
  have hidw : IntKind.i64.wrap ((n : Int) + 1) = (n : Int) + 1 := IntWalk.i64_in _ (by omega)
  clear ot10 dt10 od dd
  obtain ⟨⟨G4, q4⟩, hr4⟩ : ∃ r, r = chG ((n : Int) + n) z3 (q1 ++ [z1]) q3 G3 n := ⟨_, rfl⟩
  have H4 : Hid (re4 n (re1 n) (re3 n p (re1 n)) = (G4, q4)) := Lib.hid (by rw [H1.out, H3.out]; exact hr4.symm)
  clear H1 H3
  have HR := Lib.hid hr4
  clear hr4
  go_upto_region 5 with fail
  go_cut [] (fun wx => ∃ ga gn gc oa oc, Blk wx (w.heap.size + 1) 110 #[.int .i64 (n : Int), .int .i64 (n : Int), .slice ga gn gc, .slice oa n oc] ∧ Blk wx w.heap.size 49 #[.int .i64 0, .int .i64 0, .slice none 0 0, .slice none 0 0] ∧ Below w.heap.size w wx ∧ OwnF 3 eGate wx (w.heap.size + 1) ga gn gc G4 ∧ Own wx (w.heap.size + 2) oa n oc q4 ∧ Disj (foot ga gc) (foot oa oc))
  case first =>
    go_region_with (go_at_call 104; refine (gdPick_any z3 _ n _ _ _ n _ _ (w.heap.size + 1) (w.heap.size + 1) n n G3 F10 _ M10.drew (by simp; omega) h0 h0 (iS.below ((Below.refl _ _).drew)) (iD.below ((Below.refl _ _).drew)) (Nat.le_refl _) (by omega) (by omega)).mono ?_; rintro e w11 ⟨oa, oc, F11, rfl, oo, do_, M11, s12⟩; obtain ⟨ga, gn, gc, hB, ho, hg, hbg, hF⟩ := M11; have x3 := hB.cell 3; have y3 := hB.frozen 3)
    all_goals
      rw [HC.out] at oo ho
      rw [HC2.out] at oo ho
      rw [← HR.out] at oo ho
      have B11 := hB.set_ 3 (.slice oa n oc)
      have O11 : Only [w.heap.size + 1] w11 (w11.setCell ⟨w.heap.size + 1, 3, none⟩ (.slice oa n oc)) := (Only.refl _ _).setCell _ _ (by simp)
      have R11 := ((R10.drew).only s12.only (fun hm => by have := HB.out _ hm; omega)).only O11 (by simp)
      have V11 := (V10.drew.trans (s12.out (B := w.heap.size) (Nat.le_trans V10.size (Nat.le_refl _)) (fun k hk => by have := HB.out _ hk; omega))).trans (O11.below (Nat.le_trans V10.size s12.size) (by simp))
      have ho11 := OwnF.only ho O11 (fun k hk hk' => hg (by simp at hk'; subst hk'; exact hk))
      have oo11 := Own.only oo O11 (fun k hk hk' => do_ k hk (by rw [hF]; simp at hk'; subst hk'; simp))
      have hdd : Disj (foot ga gc) (foot oa oc) := fun k hk hk' => do_ k hk' (by rw [hF]; exact List.mem_cons_of_mem _ hk)
      have Z11 : w.heap.size + 1 < w10.drew.heap.size := (show w.heap.size + 1 < w10.heap.size by omega)
      try go_wp2_with fail
      go_meet
      exact ⟨ga, gn, gc, oa, oc, B11, R11, V11, ho11, oo11.lower (by omega), hdd⟩
  case rest =>
    clear R10 V10 M10 iS iD
    obtain ⟨ga, gn, gc, oa, oc, B11, R11, V11, ho11, oo11, hdd⟩ := hcut
    have Q1 := Lib.hid ho11.feet
    have Q2 := Lib.hid oo11.feet
    have x0 : wc.cell? ⟨w.heap.size + 1, 0, none⟩ = some (.int .i64 (n : Int)) := B11.cell 0
    have x1 : wc.cell? ⟨w.heap.size + 1, 1, none⟩ = some (.int .i64 (n : Int)) := B11.cell 1
    have x2 : wc.cell? ⟨w.heap.size + 1, 2, none⟩ = some (.slice ga gn gc) := B11.cell 2
    have x3 : wc.cell? ⟨w.heap.size + 1, 3, none⟩ = some (.slice oa n oc) := B11.cell 3
    have r0 : wc.cell? ⟨w.heap.size, 0, none⟩ = some (.int .i64 0) := R11.cell 0
    have q0 : wc.frozen? ⟨w.heap.size, 0, none⟩ = false := R11.frozen 0
    have r1 : wc.cell? ⟨w.heap.size, 1, none⟩ = some (.int .i64 0) := R11.cell 1
    have q1 : wc.frozen? ⟨w.heap.size, 1, none⟩ = false := R11.frozen 1
    have r2 : wc.cell? ⟨w.heap.size, 2, none⟩ = some (.slice none 0 0) := R11.cell 2
    have q2 : wc.frozen? ⟨w.heap.size, 2, none⟩ = false := R11.frozen 2
    have r3 : wc.cell? ⟨w.heap.size, 3, none⟩ = some (.slice none 0 0) := R11.cell 3
    have q3 : wc.frozen? ⟨w.heap.size, 3, none⟩ = false := R11.frozen 3
    go_wp2
    have GG := (((((Only.refl [w.heap.size] wc).setCell ⟨w.heap.size, 0, none⟩ (.int .i64 (n : Int)) (by simp)).setCell ⟨w.heap.size, 1, none⟩ (.int .i64 (n : Int)) (by simp)).setCell ⟨w.heap.size, 2, none⟩ (.slice ga gn gc) (by simp)).setCell ⟨w.heap.size, 3, none⟩ (.slice oa n oc) (by simp))
    exact bodyPost_ret (v := .agg #[.int .i64 (n : Int), .int .i64 (n : Int), .slice ga gn gc, .slice oa n oc]) (by simp [results, Tryz.results55, go_sem, r0, r1, r2, r3]) rfl ⟨_, _, _, _, _, _, rfl, by rw [H4.out]; exact (ho11.only GG (fun k hk hk' => by have := Q1.out k hk; simp at hk'; omega)).lower (by omega), by rw [H4.out]; exact (oo11.only GG (fun k hk hk' => by have := Q2.out k hk; simp at hk'; omega)).lower (by omega), hdd, V11.trans (GG.below V11.size (by simp))⟩
end Go.Proofs.YtchmakepglaijaaGreat
namespace Go.Proofs.YtchmakepglaijaaGreat
open Go.RowKit
theorem re_at {p : Int} (h : isPr p = true) : ciB (wid p) (wid p) ((reG p).length / 3) (reG p) (reO p) = true ∧ (reG p).length ≤ 900 ∧ (reO p).length ≤ 900 := by
  obtain ⟨h1, h2⟩ := isPr_range h
  have hn8 := wid_le p
  have hn1 := wid_cases p
  unfold reG reO
  obtain ⟨n, hn⟩ : ∃ n, n = wid p := ⟨_, rfl⟩
  rw [← hn] at hn1 hn8 ⊢
  replace hn1 : 1 ≤ n := by omega
  clear hn
  have hB : (0 : Int) ≤ (n : Int) + n := by omega
  have la := adG_len ((n : Int) + n) (spL 0 n) (spL n n) [] n
  obtain ⟨ga, ma, wa, ca⟩ := adG_good (Gd.nil hB) (spL_ws (B := (n : Int) + n) (G := []) n (Int.le_refl 0) (by omega)) (spL_ws (B := (n : Int) + n) (f := n) (G := []) n (by omega) (by omega)) n (by rw [spL_len]; exact Nat.le_refl _) (by rw [spL_len]; exact Nat.le_refl _)
  have e1 : re1 n = adG ((n : Int) + n) (spL 0 n) (spL n n) [] n := rfl
  rw [← e1] at la ga ma wa ca
  clear e1
  generalize re1 n = r at *
  replace ca := ca (by omega)
  have g2 := ga.one
  have n2 := Wr.new (G := r.1) hB 3 0 0
  have g3 := g2.not n2
  have m2 := Mo.gt ((n : Int) + n) r.1 3 0 0
  have m3 := Mo.gt ((n : Int) + n) (gt r.1 3 0 0) 2 (gW ((n : Int) + n) r.1) 0
  have n3 := Wr.new (G := gt r.1 3 0 0) hB 2 (gW ((n : Int) + n) r.1) 0
  have ws := ((m2.trans m3).ws wa).app (Ws.one ((m2.trans m3).wr ca))
  have wc : Ws ((n : Int) + n) (gt (gt r.1 3 0 0) 2 (gW ((n : Int) + n) r.1) 0) (coL (gW ((n : Int) + n) (gt r.1 3 0 0)) p (n + 1)) := coL_ws (n + 1) n3 (by rw [gW_gt, show gW ((n : Int) + n) r.1 + 1 - 1 = gW ((n : Int) + n) r.1 by omega]; exact m3.wr n2)
  have ls := suG_len ((n : Int) + n) (r.2.1 ++ [r.2.2]) (coL (gW ((n : Int) + n) (gt r.1 3 0 0)) p (n + 1)) (gt (gt r.1 3 0 0) 2 (gW ((n : Int) + n) r.1) 0) (n + 1)
  obtain ⟨gs, ms, wd, cd⟩ := suG_good g3 ws wc (n + 1) (by rw [List.length_append]; simp; omega) (by rw [coL_len]; exact Nat.le_refl _)
  have e3 : re3 n p r = suG ((n : Int) + n) (r.2.1 ++ [r.2.2]) (coL (gW ((n : Int) + n) (gt r.1 3 0 0)) p (n + 1)) (gt (gt r.1 3 0 0) 2 (gW ((n : Int) + n) r.1) 0) (n + 1) := rfl
  rw [← e3] at ls gs ms wd cd
  clear e3
  generalize re3 n p r = q at *
  replace cd := cd (by omega)
  have lc := chG_len ((n : Int) + n) q.2.2 (r.2.1 ++ [r.2.2]) q.2.1 q.1 n
  obtain ⟨gz, mz, wz⟩ := chG_good gs cd (ms.ws ws) wd n (by rw [List.length_append]; omega) (by omega)
  have e4 : re4 n r q = chG ((n : Int) + n) q.2.2 (r.2.1 ++ [r.2.2]) q.2.1 q.1 n := rfl
  rw [← e4] at lc gz mz wz
  simp only [gt_len, List.length_nil] at ls la
  exact ⟨ci_good (by omega) (by omega) gz wz rfl (by omega) (by omega), by omega, by omega⟩
theorem re_ok {p : Int} (h : isPr p = true) : ciB (wid p) (wid p) ((reG p).length / 3) (reG p) (reO p) = true := (re_at h).1
def rcS (p : Int) : Int := if isPr p then (wid p : Nat) else 0
def rcG (p : Int) : List Int := if isPr p then reG p else []
def rcO (p : Int) : List Int := if isPr p then reO p else []
set_option maxHeartbeats 8000000 in
set_option maxRecDepth 100000 in
theorem ReduceCircuit_any (p : Int) (w : World) :
    Calls Tryz.prog 26 #[.int .i64 p] w fun e w' => ∃ ga gn gc oa on oc, e = .returned (.tuple #[.agg #[.int .i64 (rcS p), .int .i64 (rcS p), .slice ga gn gc, .slice oa on oc], .bool (isPr p)]) ∧ OwnF 3 eGate w' w.heap.size ga gn gc (rcG p) ∧ Own w' w.heap.size oa on oc (rcO p) ∧ Disj (foot ga gc) (foot oa oc) ∧ Below w.heap.size w w' := by
  have V1 : Below w.heap.size w (w.alloc (.cells #[.int .i64 0, .int .i64 0, .slice none 0 0, .slice none 0 0] 49)) := (Below.refl _ _).alloc (Nat.le_refl _) _
  have R1 : Blk (w.alloc (.cells #[.int .i64 0, .int .i64 0, .slice none 0 0, .slice none 0 0] 49)) w.heap.size 49 #[.int .i64 0, .int .i64 0, .slice none 0 0, .slice none 0 0] := Blk.new w _ _
  have Z1 : w.heap.size + 1 ≤ (w.alloc (.cells #[.int .i64 0, .int .i64 0, .slice none 0 0, .slice none 0 0] 49)).heap.size := by simp
  unfold rcS rcG rcO
  cases h1 : isPr p
  · simp only [Bool.false_eq_true, if_false]
    go_enter Tryz.func26, Tryz.ntmps26
    go_wp2_with fail
    refine (IsPrime_any _ _).mono ?_; rintro e w2 ⟨rfl, q2⟩
    rw [h1]
    have u2 := below_of_quiet q2
    clear q2
    generalize (w.alloc (.cells #[.int .i64 0, .int .i64 0, .slice none 0 0, .slice none 0 0] 49)) = w1 at *
    have V2 := V1.trans (u2.mono V1.size)
    have R2 := R1.below u2
    have Z2 : w.heap.size + 1 ≤ w2.heap.size := Nat.le_trans Z1 u2.size
    clear V1 R1 Z1 u2
    have r0 : w2.cell? ⟨w.heap.size, 0, none⟩ = some (.int .i64 0) := R2.cell 0
    have r1 : w2.cell? ⟨w.heap.size, 1, none⟩ = some (.int .i64 0) := R2.cell 1
    have r2 : w2.cell? ⟨w.heap.size, 2, none⟩ = some (.slice none 0 0) := R2.cell 2
    have r3 : w2.cell? ⟨w.heap.size, 3, none⟩ = some (.slice none 0 0) := R2.cell 3
    have q0 : w2.frozen? ⟨w.heap.size, 0, none⟩ = false := R2.frozen 0
    have q1 : w2.frozen? ⟨w.heap.size, 1, none⟩ = false := R2.frozen 1
    have q2 : w2.frozen? ⟨w.heap.size, 2, none⟩ = false := R2.frozen 2
    have q3 : w2.frozen? ⟨w.heap.size, 3, none⟩ = false := R2.frozen 3
    go_wp2
    have GG := (((((Only.refl [w.heap.size] w2).setCell ⟨w.heap.size, 0, none⟩ (.int .i64 0) (by simp)).setCell ⟨w.heap.size, 1, none⟩ (.int .i64 0) (by simp)).setCell ⟨w.heap.size, 2, none⟩ (.slice none 0 0) (by simp)).setCell ⟨w.heap.size, 3, none⟩ (.slice none 0 0) (by simp))
    exact bodyPost_ret (v := .tuple #[.agg #[.int .i64 0, .int .i64 0, .slice none 0 0, .slice none 0 0], .bool false]) (by simp [results, Tryz.results26, go_sem, r0, r1, r2, r3]) rfl ⟨none, 0, 0, none, 0, 0, rfl, OwnC.nil0 _ _ _ _ _, Own.nil0 _ _ _, foot_nil _ _, V2.trans (GG.below V2.size (by simp))⟩
  · simp only [if_true]
    obtain ⟨p1, p2⟩ := isPr_range h1
    have HOK := Lib.hid (re_ok h1)
    go_enter Tryz.func26, Tryz.ntmps26
    go_wp2_with fail
    refine (IsPrime_any _ _).mono ?_; rintro e w2 ⟨rfl, q2⟩
    rw [h1]
    have u2 := below_of_quiet q2
    clear q2
    generalize (w.alloc (.cells #[.int .i64 0, .int .i64 0, .slice none 0 0, .slice none 0 0] 49)) = w1 at *
    have V2 := V1.trans (u2.mono V1.size)
    have R2 := R1.below u2
    have Z2 : w.heap.size + 1 ≤ w2.heap.size := Nat.le_trans Z1 u2.size
    clear V1 R1 Z1 u2
    go_wp2_with fail
    refine (reduceCircuit_any p _ p1 (by omega)).mono ?_; rintro e w3 ⟨ga, gn, gc, oa, on, oc, rfl, og, oo, dd, u3⟩
    have V3 := V2.trans (u3.mono V2.size)
    have R3 := R2.below u3
    have Q1 := Lib.hid og.feet
    have Q2 := Lib.hid oo.feet
    have Z3 := u3.size
    clear V2 R2 u3
    have HV : Hid (ciB (wid p : Nat) (wid p : Nat) gn (reG p) (reO p) = true) := Lib.hid (by rw [show gn = (reG p).length / 3 by have := og.len; omega]; exact HOK.out)
    go_wp2_with fail
    refine (valid_yes _ _ _ _ _ (reG p) _ _ _ (reO p) _ og.flat oo.ints HV.out).mono ?_; rintro e w4 ⟨rfl, u4⟩
    have V4 := V3.trans (u4.mono V3.size)
    have R4 := R3.below u4
    have og4 := og.below u4
    have oo4 := oo.below u4
    clear V3 R3 og oo u4
    have r0 : w4.cell? ⟨w.heap.size, 0, none⟩ = some (.int .i64 0) := R4.cell 0
    have r1 : w4.cell? ⟨w.heap.size, 1, none⟩ = some (.int .i64 0) := R4.cell 1
    have r2 : w4.cell? ⟨w.heap.size, 2, none⟩ = some (.slice none 0 0) := R4.cell 2
    have r3 : w4.cell? ⟨w.heap.size, 3, none⟩ = some (.slice none 0 0) := R4.cell 3
    have q0 : w4.frozen? ⟨w.heap.size, 0, none⟩ = false := R4.frozen 0
    have q1 : w4.frozen? ⟨w.heap.size, 1, none⟩ = false := R4.frozen 1
    have q2 : w4.frozen? ⟨w.heap.size, 2, none⟩ = false := R4.frozen 2
    have q3 : w4.frozen? ⟨w.heap.size, 3, none⟩ = false := R4.frozen 3
    go_wp2
    have GG := (((((Only.refl [w.heap.size] w4).setCell ⟨w.heap.size, 0, none⟩ (.int .i64 (wid p : Nat)) (by simp)).setCell ⟨w.heap.size, 1, none⟩ (.int .i64 (wid p : Nat)) (by simp)).setCell ⟨w.heap.size, 2, none⟩ (.slice ga gn gc) (by simp)).setCell ⟨w.heap.size, 3, none⟩ (.slice oa on oc) (by simp))
    exact bodyPost_ret (v := .tuple #[.agg #[.int .i64 (wid p : Nat), .int .i64 (wid p : Nat), .slice ga gn gc, .slice oa on oc], .bool true]) (by simp [results, Tryz.results26, go_sem, r0, r1, r2, r3]) rfl ⟨ga, gn, gc, oa, on, oc, rfl, (og4.only GG (fun k hk hk' => by have := Q1.out k hk; simp at hk'; omega)).lower (by omega), (oo4.only GG (fun k hk hk' => by have := Q2.out k hk; simp at hk'; omega)).lower (by omega), dd, V4.trans (GG.below V4.size (by simp))⟩
set_option maxHeartbeats 8000000 in
set_option maxRecDepth 100000 in
theorem spec_ReduceCircuit_any (p : Int) (w : World) :
    Calls Tryz.prog 27 #[.int .i64 p] w fun e w' => ∃ ga gn gc oa on oc, e = .returned (.tuple #[.agg #[.int .i64 (rcS p), .int .i64 (rcS p), .slice ga gn gc, .slice oa on oc], .bool (isPr p)]) ∧ OwnF 3 eGate w' w.heap.size ga gn gc (rcG p) ∧ Own w' w.heap.size oa on oc (rcO p) ∧ Disj (foot ga gc) (foot oa oc) ∧ Below w.heap.size w w' := by
  have V1 : Below w.heap.size w (w.alloc (.cells #[.int .i64 0, .int .i64 0, .slice none 0 0, .slice none 0 0] 49)) := (Below.refl _ _).alloc (Nat.le_refl _) _
  have R1 : Blk (w.alloc (.cells #[.int .i64 0, .int .i64 0, .slice none 0 0, .slice none 0 0] 49)) w.heap.size 49 #[.int .i64 0, .int .i64 0, .slice none 0 0, .slice none 0 0] := Blk.new w _ _
  have Z1 : w.heap.size + 1 ≤ (w.alloc (.cells #[.int .i64 0, .int .i64 0, .slice none 0 0, .slice none 0 0] 49)).heap.size := by simp
  unfold rcS rcG rcO
  cases h1 : isPr p
  · simp only [Bool.false_eq_true, if_false]
    go_enter Tryz.func27, Tryz.ntmps27
    go_wp2_with fail
    refine (fpGood_any _ _).mono ?_; rintro e w2 ⟨rfl, q2⟩
    rw [h1]
    have u2 := below_of_quiet q2
    clear q2
    generalize (w.alloc (.cells #[.int .i64 0, .int .i64 0, .slice none 0 0, .slice none 0 0] 49)) = w1 at *
    have V2 := V1.trans (u2.mono V1.size)
    have R2 := R1.below u2
    have Z2 : w.heap.size + 1 ≤ w2.heap.size := Nat.le_trans Z1 u2.size
    clear V1 R1 Z1 u2
    have r0 : w2.cell? ⟨w.heap.size, 0, none⟩ = some (.int .i64 0) := R2.cell 0
    have r1 : w2.cell? ⟨w.heap.size, 1, none⟩ = some (.int .i64 0) := R2.cell 1
    have r2 : w2.cell? ⟨w.heap.size, 2, none⟩ = some (.slice none 0 0) := R2.cell 2
    have r3 : w2.cell? ⟨w.heap.size, 3, none⟩ = some (.slice none 0 0) := R2.cell 3
    have q0 : w2.frozen? ⟨w.heap.size, 0, none⟩ = false := R2.frozen 0
    have q1 : w2.frozen? ⟨w.heap.size, 1, none⟩ = false := R2.frozen 1
    have q2 : w2.frozen? ⟨w.heap.size, 2, none⟩ = false := R2.frozen 2
    have q3 : w2.frozen? ⟨w.heap.size, 3, none⟩ = false := R2.frozen 3
    go_wp2
    have GG := (((((Only.refl [w.heap.size] w2).setCell ⟨w.heap.size, 0, none⟩ (.int .i64 0) (by simp)).setCell ⟨w.heap.size, 1, none⟩ (.int .i64 0) (by simp)).setCell ⟨w.heap.size, 2, none⟩ (.slice none 0 0) (by simp)).setCell ⟨w.heap.size, 3, none⟩ (.slice none 0 0) (by simp))
    exact bodyPost_ret (v := .tuple #[.agg #[.int .i64 0, .int .i64 0, .slice none 0 0, .slice none 0 0], .bool false]) (by simp [results, Tryz.results27, go_sem, r0, r1, r2, r3]) rfl ⟨none, 0, 0, none, 0, 0, rfl, OwnC.nil0 _ _ _ _ _, Own.nil0 _ _ _, foot_nil _ _, V2.trans (GG.below V2.size (by simp))⟩
  · simp only [if_true]
    obtain ⟨p1, p2⟩ := isPr_range h1
    have HOK := Lib.hid (re_ok h1)
    go_enter Tryz.func27, Tryz.ntmps27
    go_wp2_with fail
    refine (fpGood_any _ _).mono ?_; rintro e w2 ⟨rfl, q2⟩
    rw [h1]
    have u2 := below_of_quiet q2
    clear q2
    generalize (w.alloc (.cells #[.int .i64 0, .int .i64 0, .slice none 0 0, .slice none 0 0] 49)) = w1 at *
    have V2 := V1.trans (u2.mono V1.size)
    have R2 := R1.below u2
    have Z2 : w.heap.size + 1 ≤ w2.heap.size := Nat.le_trans Z1 u2.size
    clear V1 R1 Z1 u2
    go_wp2_with fail
    refine (cvReduce_any p _ p1 (by omega)).mono ?_; rintro e w3 ⟨ga, gn, gc, oa, on, oc, rfl, og, oo, dd, u3⟩
    have V3 := V2.trans (u3.mono V2.size)
    have R3 := R2.below u3
    have Q1 := Lib.hid og.feet
    have Q2 := Lib.hid oo.feet
    have Z3 := u3.size
    clear V2 R2 u3
    have r0 : w3.cell? ⟨w.heap.size, 0, none⟩ = some (.int .i64 0) := R3.cell 0
    have r1 : w3.cell? ⟨w.heap.size, 1, none⟩ = some (.int .i64 0) := R3.cell 1
    have r2 : w3.cell? ⟨w.heap.size, 2, none⟩ = some (.slice none 0 0) := R3.cell 2
    have r3 : w3.cell? ⟨w.heap.size, 3, none⟩ = some (.slice none 0 0) := R3.cell 3
    have q0 : w3.frozen? ⟨w.heap.size, 0, none⟩ = false := R3.frozen 0
    have q1 : w3.frozen? ⟨w.heap.size, 1, none⟩ = false := R3.frozen 1
    have q2 : w3.frozen? ⟨w.heap.size, 2, none⟩ = false := R3.frozen 2
    have q3 : w3.frozen? ⟨w.heap.size, 3, none⟩ = false := R3.frozen 3
    go_wp2
    have GG := (((((Only.refl [w.heap.size] w3).setCell ⟨w.heap.size, 0, none⟩ (.int .i64 (wid p : Nat)) (by simp)).setCell ⟨w.heap.size, 1, none⟩ (.int .i64 (wid p : Nat)) (by simp)).setCell ⟨w.heap.size, 2, none⟩ (.slice ga gn gc) (by simp)).setCell ⟨w.heap.size, 3, none⟩ (.slice oa on oc) (by simp))
    exact bodyPost_ret (v := .tuple #[.agg #[.int .i64 (wid p : Nat), .int .i64 (wid p : Nat), .slice ga gn gc, .slice oa on oc], .bool true]) (by simp [results, Tryz.results27, go_sem, r0, r1, r2, r3]) rfl ⟨ga, gn, gc, oa, on, oc, rfl, (og.only GG (fun k hk hk' => by have := Q1.out k hk; simp at hk'; omega)).lower (by omega), (oo.only GG (fun k hk hk' => by have := Q2.out k hk; simp at hk'; omega)).lower (by omega), dd, V3.trans (GG.below V3.size (by simp))⟩
end Go.Proofs.YtchmakepglaijaaGreat
namespace Go.Proofs.YtchmakepglaijaaGreat
open Go.RowKit
theorem reO_len (p : Int) : (reO p).length = wid p := by unfold reO re4; exact (chG_len _ _ _ _ _ _).2
theorem re_gates {p : Int} (h : isPr p = true) : (∀ j, j < (reG p).length / 3 → gbB ((reG p).getD (j * 3) 0) ((reG p).getD (j * 3 + 1) 0) ((reG p).getD (j * 3 + 2) 0) ((wid p + wid p + j : Nat) : Int) = true) ∧ (∀ x ∈ reO p, 0 ≤ x ∧ x ≤ ((wid p + wid p + (reG p).length / 3 : Nat) : Int) - 1) ∧ (reG p).length ≤ 900 := by
  have h1 := re_ok h
  unfold ciB at h1
  simp only [Bool.and_eq_true] at h1
  refine ⟨fun j hj => ?_, fun x hx => ?_, (re_at h).2.1⟩
  · have h2 := List.all_eq_true.1 h1.1.2 j (List.mem_range.2 hj)
    unfold gbAt at h2
    have e : ((wid p + wid p + j : Nat) : Int) = ((wid p : Nat) : Int) + ((wid p : Nat) : Int) + (j : Int) := by omega
    rw [e]
    exact h2
  · have h2 := (allB_iff _ _ _).1 h1.2 x hx
    omega
end Go.Proofs.YtchmakepglaijaaGreat
