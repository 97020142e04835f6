/- The reference's shares of all wires. -/
import Derived.Test.YthpcmbdkboajcaaWireI
namespace Go.Proofs.Ythpcmbdkboajcaa
open Go.RowKit

set_option maxHeartbeats 16000000 in
set_option maxRecDepth 100000 in
theorem smWires_any (P i0 i1 : Int) (ga : Option Addr) (gn gc : Nat) (G : List Int) (oa : Option Addr) (on oc : Nat) (O : List Int) (key : Int) (va : Option Addr) (vn vc : Nat) (V : List Int) (fault change : Int) (w : World) (hG : Flat 3 w ga gn gc G) (hV : Ints w va vn vc V)
    (hr : arB P i0 i1 gn G O = true) (k0 : 0 ≤ key) (k1 : key ≤ 1000000000) (e0 : (vn : Int) = i0 + i1) (hv : ∀ x ∈ V, 0 ≤ x ∧ x ≤ P - 1) (hch : 0 ≤ change) (hch2 : change ≤ P - 1) :
    Calls Try.prog 72 #[.agg #[.int .i64 P, .int .i64 i0, .int .i64 i1, .slice ga gn gc, .slice oa on oc], .int .i64 key, .slice va vn vc, .int .i64 fault, .int .i64 change] w fun e w' => ∃ a1 c1 a2 c2 a3 n3 c3 rs, e = .returned (.tuple #[.slice a1 (vn + gn) c1, .slice a2 (vn + gn) c2, .slice a3 n3 c3]) ∧
      WireM w' w.heap.size a1 (vn + gn) c1 (wsR P key fault change G (isF P key vn) (isS P key V vn) gn).1 a2 (vn + gn) c2 (wsR P key fault change G (isF P key vn) (isS P key V vn) gn).2.1 a3 n3 c3 rs ∧
      datas rs = (wsR P key fault change G (isF P key vn) (isS P key V vn) gn).2.2 ∧ Below w.heap.size w w' := by
  obtain ⟨⟨r0, r0'⟩, ⟨r1, r1'⟩, r2, r3, hpr, hga, _⟩ := arB_all hr
  obtain ⟨p1, p2⟩ := isPr_range hpr
  have HVV := Lib.hid hv
  have HGA := Lib.hid hga
  have HOK := Lib.hid (fun k (hk : k ≤ gn) => wsR_ok (P := P) (key := key) (fault := fault) (change := change) (G := G) (by omega) (isF_len P key vn) (isS_len P key V vn) (isF_rng P key _ (by omega)) (isS_rng P key _ _ (by omega)) hga k hk)
  have hgl := hG.le
  have V0 : Below w.heap.size w (w.alloc (.cells #[.int .i64 P, .int .i64 i0, .int .i64 i1, .slice ga gn gc, .slice oa on oc] 41)) := (Below.refl _ _).alloc (Nat.le_refl _) _
  have B0 : Blk (w.alloc (.cells #[.int .i64 P, .int .i64 i0, .int .i64 i1, .slice ga gn gc, .slice oa on oc] 41)) w.heap.size 41 #[.int .i64 P, .int .i64 i0, .int .i64 i1, .slice ga gn gc, .slice oa on oc] := Blk.new w _ _
  have S0 : w.heap.size < (w.alloc (.cells #[.int .i64 P, .int .i64 i0, .int .i64 i1, .slice ga gn gc, .slice oa on oc] 41)).heap.size := by simp
  have t7 : (P == 0) = false := by simp; omega
  have t8 : (P = 0) = False := by simp; omega
  clear hv hga hr hpr r3
  obtain ⟨F0, hF0⟩ : ∃ x, isF P key vn = x := ⟨_, rfl⟩
  obtain ⟨S0', hS0⟩ : ∃ x, isS P key V vn = x := ⟨_, rfl⟩
  rw [hF0, hS0] at HOK ⊢
  have HF0 := Lib.hid hF0
  have HS0 := Lib.hid hS0
  clear hF0 hS0
  go_enter Try.func72, Try.ntmps72
  go_wp2_with fail
  generalize (w.alloc (.cells #[.int .i64 P, .int .i64 i0, .int .i64 i1, .slice ga gn gc, .slice oa on oc] 41)) = w0 at *
  refine (smInputs_any _ _ _ _ _ _ _ _ _ _ _ _ _ V _ (hV.below V0) (by omega) (by omega) k0 k1 (by omega) HVV.out).mono ?_; rintro e w1 ⟨b1, d1, b2, d2, rfl, o1, o2, D, u⟩
  rw [HF0.out] at o1
  rw [HS0.out] at o2
  have M0 : WireM w1 w0.heap.size b1 vn d1 F0 b2 vn d2 S0' none 0 0 [] :=
    ⟨o1, o2, OwnSS.nil0 _ _ _, D, by rw [feetSS_nil]; exact Disj.nil_r _, by rw [feetSS_nil]; exact Disj.nil_r _⟩
  have V1 := u
  have x3 : w1.cell? ⟨w.heap.size, 3, none⟩ = some (.slice ga gn gc) := (B0.below u).cell 3
  clear o1 o2 D u
  go_wp2
  clear x3
  go_loopw [33, 13, 14, 15] (fun v f s o wr => ∃ k : Nat, k ≤ gn ∧ v = .int .i64 k ∧ Below w0.heap.size w0 wr ∧ ∃ a1 c1 a2 c2 a3 n3 c3 rs, f = .slice a1 (vn + k) c1 ∧ s = .slice a2 (vn + k) c2 ∧ o = .slice a3 n3 c3 ∧ n3 ≤ k ∧
    WireM wr w0.heap.size a1 (vn + k) c1 (wsR P key fault change G F0 S0' k).1 a2 (vn + k) c2 (wsR P key fault change G F0 S0' k).2.1 a3 n3 c3 rs ∧ datas rs = (wsR P key fault change G F0 S0' k).2.2) (fun v _ _ _ _ => gn - (intOf v).toNat)
  case atStart => exact ⟨0, Nat.zero_le _, rfl, V1, _, _, _, _, _, _, _, _, rfl, rfl, rfl, Nat.le_refl _, M0, rfl⟩
  case round =>
    obtain ⟨k, hkn, rfl, hbel, a1, c1, a2, c2, a3, n3, c3, rs, rfl, rfl, rfl, hn3, hM, hda⟩ := hrel
    clear V1 M0
    by_cases hlt : k < gn
    · have ok := HOK.out k hkn
      rcases hR : wsR P key fault change G F0 S0' k with ⟨F, S, OP⟩
      rw [hR] at hM hda ok
      have HR := Lib.hid hR
      have HDA := Lib.hid hda
      obtain ⟨lF, lS, rF, rS⟩ := ok
      simp only at lF lS rF rS hM
      have HRF := Lib.hid rF
      have HRS := Lib.hid rS
      have HLF := Lib.hid lF
      have HLS := Lib.hid lS
      have HG := Lib.hid (HGA.out k hlt)
      have HST : Hid (wsR P key fault change G F0 S0' (k + 1) = wsStep P key fault change G k (F, S, OP)) := Lib.hid (by rw [wsR, hR])
      clear hR hda rF rS lF lS
      obtain ⟨g, o, rfl, hc⟩ := (hG.below (V0.trans (hbel.mono V0.size))).at (by omega)
      have c0 : wr.cell? ⟨g, o + k * 3, none⟩ = some (.int .i64 (G.getD (k * 3) 0)) := hc (k * 3) (by omega)
      have c1' : wr.cell? ⟨g, o + k * 3 + 1, none⟩ = some (.int .i64 (G.getD (k * 3 + 1) 0)) := by have := hc (k * 3 + 1) (by omega); simpa only [Nat.add_assoc] using this
      have c2' : wr.cell? ⟨g, o + k * 3 + 2, none⟩ = some (.int .i64 (G.getD (k * 3 + 2) 0)) := by have := hc (k * 3 + 2) (by omega); simpa only [Nat.add_assoc] using this
      have HGB : Hid (gateB P (G.getD (k * 3) 0) (G.getD (k * 3 + 1) 0) (G.getD (k * 3 + 2) 0) (i0 + i1 + k) = true) := Lib.hid HG.out
      have HSTP : Hid (wsStep P key fault change G k (F, S, OP) = if G.getD (k * 3) 0 = 1 then wsMul P key fault change (G.getD (k * 3 + 1) 0) (G.getD (k * 3 + 2) 0) k (F, S, OP) else wsLoc P (G.getD (k * 3) 0) (G.getD (k * 3 + 1) 0) (G.getD (k * 3 + 2) 0) (F, S, OP)) := rfl
      obtain ⟨kd, hkd⟩ : ∃ x, G.getD (k * 3) 0 = x := ⟨_, rfl⟩
      obtain ⟨ka, hka⟩ : ∃ x, G.getD (k * 3 + 1) 0 = x := ⟨_, rfl⟩
      obtain ⟨kb, hkb⟩ : ∃ x, G.getD (k * 3 + 2) 0 = x := ⟨_, rfl⟩
      rw [hkd] at c0
      rw [hka] at c1'
      rw [hkb] at c2'
      rw [hkd, hka, hkb] at HGB HSTP
      have HK0 := Lib.hid hkd
      have HKA := Lib.hid hka
      have HKB := Lib.hid hkb
      clear hkd hka hkb
      have V3 := hbel.alloc hbel.size (.cells #[.int .i64 kd, .int .i64 ka, .int .i64 kb] 78)
      have M3 := hM.alloc (.cells #[.int .i64 kd, .int .i64 ka, .int .i64 kb] 78)
      have Bg : Blk (wr.alloc (.cells #[.int .i64 kd, .int .i64 ka, .int .i64 kb] 78)) wr.heap.size 78 #[.int .i64 kd, .int .i64 ka, .int .i64 kb] := Blk.new wr _ _
      clear hc hM
      by_cases hk1 : kd = 1
      · have f1 : ((kd != 1) : Bool) = false := by simp [hk1]
        have HS2 := Lib.hid (HSTP.out.trans (if_pos hk1))
        obtain ⟨⟨ka0, ka1⟩, kb0, kb1⟩ := gateB_mul HGB.out hk1
        obtain ⟨ja, rfl⟩ : ∃ n : Nat, ka = n := ⟨ka.toNat, by omega⟩
        obtain ⟨jb, rfl⟩ : ∃ n : Nat, kb = n := ⟨kb.toNat, by omega⟩
        have hja : ja < vn + k := by omega
        have hjb : jb < vn + k := by omega
        subst hk1
        have x0 := (B0.below V3).cell 0
        have x0' : (wr.alloc (.cells #[.int .i64 1, .int .i64 (ja : Int), .int .i64 (jb : Int)] 78)).cell? ⟨w.heap.size, 0, none⟩ = some (.int .i64 P) := x0
        have Z3 := Lib.hid M3.feet
        clear hbel x0
        go_wp2_with fail
        generalize (wr.alloc (.cells #[.int .i64 1, .int .i64 (ja : Int), .int .i64 (jb : Int)] 78)) = w3 at *
        refine (smTriple_any P key k _ (by omega) (by omega) k0 k1 (by omega) (by omega)).mono ?_; rintro e w4 ⟨ta, tc, rfl, ot, u4⟩
        have M4 := M3.below u4
        have V4 := V3.trans (u4.mono V3.size)
        have Bg4 := Bg.below u4
        have hsz4 : w3.heap.size ≤ w4.heap.size := u4.size
        have hbl : wr.heap.size < w3.heap.size := Bg.lt
        clear c0 c1' c2' x0' u4 M3 Bg
        have HGT : Hid (gtL P key k = [gtN P key k 0, gtN P key k 1, gtN P key k 2, gtN P key k 3, gtN P key k 4, gtZ P key k]) := rfl
        rw [HGT.out] at ot
        have q0 := gtN_range P key k 0 (by omega)
        have q1 := gtN_range P key k 1 (by omega)
        have q2 := gtN_range P key k 2 (by omega)
        have q3 := gtN_range P key k 3 (by omega)
        have q4 := gtN_range P key k 4 (by omega)
        have q5 : 0 ≤ gtZ P key k ∧ gtZ P key k ≤ P - 1 := mod_rng _ _ (by omega)
        go_upto_if 64 with fail
        go_cut [20] (fun s20 wx => s20 = .slice ta 6 tc ∧ Own wx w3.heap.size ta 6 tc [gtN P key k 0, gtN P key k 1, gtN P key k 2, gtN P key k 3, gtN P key k 4, wsT P key fault change k] ∧ WireM wx w0.heap.size a1 (vn + k) c1 F a2 (vn + k) c2 S a3 n3 c3 rs ∧ Below w0.heap.size w0 wx ∧ Blk wx wr.heap.size 78 #[.int .i64 1, .int .i64 (ja : Int), .int .i64 (jb : Int)] ∧ w3.heap.size ≤ wx.heap.size)
        case first =>
          by_cases hf : (k : Int) = fault
          · have HT : Hid (wsT P key fault change k = (gtZ P key k + change) % P) := Lib.hid (by unfold wsT; rw [if_pos hf])
            have ff : (((k : Int) == fault) : Bool) = true := by simpa using hf
            have t1 : IntKind.i64.wrap (gtZ P key k + change) = gtZ P key k + change := IntWalk.i64_in _ (by omega)
            have t2 : (gtZ P key k + change).tmod P = (gtZ P key k + change) % P := Int.tmod_eq_emod_of_nonneg (by omega)
            have t3 : IntKind.i64.wrap ((gtZ P key k + change) % P) = (gtZ P key k + change) % P := IntWalk.i64_in _ (by have := mod_rng (gtZ P key k + change) P (by omega); omega)
            clear hf
            obtain ⟨gt, rfl, gt0, gt1, tz, tfz, tst⟩ := ot.at 5 (by omega)
            have tz' : w4.cell? ⟨gt, 5, none⟩ = some (.int .i64 (gtZ P key k)) := tz
            have x0 : w4.cell? ⟨w.heap.size, 0, none⟩ = some (.int .i64 P) := (B0.below V4).cell 0
            clear tz tst
            go_wp2_with fail
            refine wp_region_still_tail 10 (by kernel_rfl) (by kernel_rfl) ?_
            simp only [List.take_succ_cons, List.take_zero, List.drop_succ_cons, List.drop_zero]
            repeat still_step
            refine wpStill_nil ?_
            change wpList _ _ _ _ _ w4.drew
            have ot5 := ot.drew
            have M5 := M4.drew
            have V5 := V4.drew
            have Bg5 := Bg4.drew
            have hsz5 : w3.heap.size ≤ w4.drew.heap.size := hsz4
            clear ot M4 V4 Bg4 tz' tfz x0
            generalize w4.drew = w5 at *
            obtain ⟨_, E, _, _, tz, tfz, tst⟩ := ot5.at 5 (by omega)
            cases E
            have ot6 := tst ((gtZ P key k + change) % P)
            have GT : Only [gt] w5 (w5.setCell ⟨gt, 5, none⟩ (.int .i64 ((gtZ P key k + change) % P))) := (Only.refl _ _).setCell ⟨gt, 5, none⟩ _ (by simp)
            have M6 := M5.only' GT Z3.out (fun q hq => by simp at hq; omega)
            have Bg6 := Bg5.only GT (by simp; omega)
            have V6 := V5.trans (GT.below V5.size (fun q hq => by have := V3.size; simp at hq; omega))
            have hsz6 : w3.heap.size ≤ (w5.setCell ⟨gt, 5, none⟩ (.int .i64 ((gtZ P key k + change) % P))).heap.size := Nat.le_trans hsz5 GT.size
            have ot7 : Own (w5.setCell ⟨gt, 5, none⟩ (.int .i64 ((gtZ P key k + change) % P))) w3.heap.size (some ⟨gt, 0, none⟩) 6 tc [gtN P key k 0, gtN P key k 1, gtN P key k 2, gtN P key k 3, gtN P key k 4, (gtZ P key k + change) % P] := ot6
            have tz' : w5.cell? ⟨gt, 5, none⟩ = some (.int .i64 (gtZ P key k)) := tz
            clear ot5 M5 V5 Bg5 tz tst ot6 GT hsz5 t1 t2 t3
            have OT := Lib.hid ot7
            have MM := Lib.hid M6
            have VV := Lib.hid V6
            have BB := Lib.hid Bg6
            clear ot7 M6 V6 Bg6
            go_wp2_with fail
            go_meet
            exact ⟨rfl, by rw [HT.out]; exact OT.out, MM.out, VV.out, BB.out, hsz6⟩
          · have HT : Hid (wsT P key fault change k = gtZ P key k) := Lib.hid (by unfold wsT; rw [if_neg hf])
            have ff : (((k : Int) == fault) : Bool) = false := by simpa using hf
            clear hf
            go_wp2_with fail
            go_meet
            exact ⟨rfl, by rw [HT.out]; exact ot, M4, V4, Bg4, hsz4⟩
        case rest =>
          clear ot M4 V4 Bg4 hsz4
          rename World => w6
          obtain ⟨rfl, ot7, M6, V6, Bg6, hsz6⟩ := hcut
          have q6 : 0 ≤ wsT P key fault change k ∧ wsT P key fault change k ≤ P - 1 := by
            unfold wsT
            split
            · exact mod_rng _ _ (by omega)
            · exact q5
          obtain ⟨nk, hnk⟩ : ∃ x, vn + k = x := ⟨_, rfl⟩
          have HNK := Lib.hid hnk
          rw [hnk] at M6 hja hjb HLF HLS ⊢
          have lnk : nk ≤ 116 := by omega
          clear hnk
          obtain ⟨gF, rfl, _, _, fa, _, _⟩ := M6.f.at ja hja
          obtain ⟨_, E, _, _, fb, _, _⟩ := M6.f.at jb hjb
          cases E
          obtain ⟨gS, rfl, _, _, sa, _, _⟩ := M6.s.at ja hja
          obtain ⟨_, E, _, _, sb, _, _⟩ := M6.s.at jb hjb
          cases E
          have rX0 := getD_rng HRF.out ja (by rw [HLF.out]; exact hja)
          have rY0 := getD_rng HRF.out jb (by rw [HLF.out]; exact hjb)
          have rX1 := getD_rng HRS.out ja (by rw [HLS.out]; exact hja)
          have rY1 := getD_rng HRS.out jb (by rw [HLS.out]; exact hjb)
          have HMU : Hid (wsMul P key fault change (ja : Int) (jb : Int) k (F, S, OP) = (F ++ [shareI P 0 (gtN P key k 0) (gtN P key k 1) (gtN P key k 2) ((F.getD ja 0 + S.getD ja 0 - gtN P key k 0 - gtN P key k 3) % P) ((F.getD jb 0 + S.getD jb 0 - gtN P key k 1 - gtN P key k 4) % P)],
            S ++ [shareI P 1 (gtN P key k 3) (gtN P key k 4) (wsT P key fault change k) ((F.getD ja 0 + S.getD ja 0 - gtN P key k 0 - gtN P key k 3) % P) ((F.getD jb 0 + S.getD jb 0 - gtN P key k 1 - gtN P key k 4) % P)],
            OP ++ [[(F.getD ja 0 + S.getD ja 0 - gtN P key k 0 - gtN P key k 3) % P, (F.getD jb 0 + S.getD jb 0 - gtN P key k 1 - gtN P key k 4) % P]])) := Lib.hid rfl
          generalize wsT P key fault change k = T5 at *
          generalize F.getD ja 0 = X0 at *
          generalize F.getD jb 0 = Y0 at *
          generalize S.getD ja 0 = X1 at *
          generalize S.getD jb 0 = Y1 at *
          generalize gtN P key k 0 = T0 at *
          generalize gtN P key k 1 = T1 at *
          generalize gtN P key k 2 = T2 at *
          generalize gtN P key k 3 = T3 at *
          generalize gtN P key k 4 = T4 at *
          go_upto_region 13 with fail
          have x0 : w6.cell? ⟨w.heap.size, 0, none⟩ = some (.int .i64 P) := (B0.below V6).cell 0
          have y1 : w6.cell? ⟨wr.heap.size, 1, none⟩ = some (.int .i64 ja) := Bg6.cell 1
          have y2 : w6.cell? ⟨wr.heap.size, 2, none⟩ = some (.int .i64 jb) := Bg6.cell 2
          have ia : (ja : Int) < (nk : Int) := by omega
          have ib : (jb : Int) < (nk : Int) := by omega
          have g0 : 0 ≤ T0 ∧ T0 ≤ 1000 := by omega
          have g1 : 0 ≤ T1 ∧ T1 ≤ 1000 := by omega
          have g2 : 0 ≤ T2 ∧ T2 ≤ 1000 := by omega
          have g3 : 0 ≤ T3 ∧ T3 ≤ 1000 := by omega
          have g4 : 0 ≤ T4 ∧ T4 ≤ 1000 := by omega
          have g5 : 0 ≤ T5 ∧ T5 ≤ 1000 := by omega
          have h0 : 0 ≤ X0 ∧ X0 ≤ 1000 := by omega
          have h1 : 0 ≤ X1 ∧ X1 ≤ 1000 := by omega
          have h2 : 0 ≤ Y0 ∧ Y0 ≤ 1000 := by omega
          have h3 : 0 ≤ Y1 ∧ Y1 ≤ 1000 := by omega
          have pl : 1 ≤ P := by omega
          have pu : P ≤ 1000 := by omega
          go_region_held3 (fun W => W.cell? ⟨w.heap.size, 0, none⟩ = some (.int .i64 P) ∧ W.cell? ⟨wr.heap.size, 1, none⟩ = some (.int .i64 ja) ∧ W.cell? ⟨wr.heap.size, 2, none⟩ = some (.int .i64 jb) ∧ W.cell? ⟨gF, ja, none⟩ = some (.int .i64 X0) ∧ W.cell? ⟨gF, jb, none⟩ = some (.int .i64 Y0) ∧ W.cell? ⟨gS, ja, none⟩ = some (.int .i64 X1) ∧ W.cell? ⟨gS, jb, none⟩ = some (.int .i64 Y1))
            (first | exact ⟨keepC uu x0, keepC uu y1, keepC uu y2, keepC uu fa, keepC uu fb, keepC uu sa, keepC uu sb⟩ | go_keep)
            (first | (go_at_call 49; refine (smTimes_any P _ tc T0 T1 T2 T3 T4 T5 X0 X1 Y0 Y1 _ (ot7.ints.drewN 1) pl pu g0 g1 g2 g3 g4 g5 h0 h1 h2 h3).mono ?_; rintro e w7 ⟨pb, pd, qb, qd, rfl, op, oq, ap, uu⟩))
          have u : Below w6.heap.size w6 w7 := (Below.refl _ _).drew.trans (uu.mono (Nat.le_refl _))
          replace op := op.lower (b' := w6.heap.size) (Nat.le_refl _)
          replace oq := oq.lower (b' := w6.heap.size) (Nat.le_refl _)
          clear uu ap x0 y1 y2 fa fb sa sb ot7
          generalize shareI P 0 T0 T1 T2 ((X0 + X1 - T0 - T3) % P) ((Y0 + Y1 - T1 - T4) % P) = Z0 at *
          generalize shareI P 1 T3 T4 T5 ((X0 + X1 - T0 - T3) % P) ((Y0 + Y1 - T1 - T4) % P) = Z1 at *
          generalize (X0 + X1 - T0 - T3) % P = D at *
          generalize (Y0 + Y1 - T1 - T4) % P = E at *
          have FQ := Lib.hid oq.feet
          have FM := Lib.hid M6.feet
          have M7 := M6.below u
          have V7 := V6.trans (u.mono V6.size)
          have S7 := u.size
          clear M6 V6 u Bg6
          obtain ⟨gp, rfl, p3, p4, z0, _, _⟩ := op.at 0 (by omega)
          obtain ⟨_, E', _, _, z1, _, _⟩ := op.at 1 (by omega)
          cases E'
          have z0' : w7.cell? ⟨gp, 0, none⟩ = some (.int .i64 Z0) := z0
          have z1' : w7.cell? ⟨gp, 1, none⟩ = some (.int .i64 Z1) := z1
          have HNP1 := Lib.hid (show gp ∉ foot (some (⟨gF, 0, none⟩ : Addr)) c1 from fun hm => by have := FM.out gp (List.mem_append_left _ hm); omega)
          have DQ1 := Lib.hid (show Disj (foot (some (⟨gF, 0, none⟩ : Addr)) c1) (foot qb qd) from fun q hq hq' => by have := FM.out q (List.mem_append_left _ hq); have := FQ.out q hq'; omega)
          have DQ2 := Lib.hid (show Disj (foot (some (⟨gS, 0, none⟩ : Addr)) c2) (foot qb qd) from fun q hq hq' => by have := FM.out q (List.mem_append_right _ (List.mem_append_left _ hq)); have := FQ.out q hq'; omega)
          have DQ3 := Lib.hid (show Disj (foot qb qd) (feetSS a3 c3 rs) from fun q hq hq' => by have := FM.out q (List.mem_append_right _ (List.mem_append_right _ hq')); have := FQ.out q hq; omega)
          have OQ := Lib.hid (oq.lower (b' := w0.heap.size) (by have := V3.size; omega))
          clear oq z0 z1 op
          go_wp2_with (at_builtin; refine wpList_appJ _ rfl _ _ rfl w0.heap.size (some ⟨gF, 0, none⟩) nk c1 F rfl (M7.f.alloc _) _ 1 1 [Z0] rfl (Ints.lit1 _ _ _) (by omega) (by have := V7.size; simp; omega) ?_)
          intro a8 c8 w8 o8 uu8 g8 m8
          have M8 := (M7.alloc _).appF o8 g8 m8
          have V8 := (V7.alloc V7.size _).trans uu8
          have Q8 := Lib.hid ((OQ.out.alloc _).only (Only.of_grown g8) DQ1.out.symm)
          have F81 := Lib.hid (m8.disj DQ1.out (fun q hq => by have := FQ.out q hq; simp; omega))
          have k81 := keepG g8 HNP1.out (keepA _ z1')
          have S8 : w7.heap.size ≤ w8.heap.size := by have := g8.size; simp at this; omega
          clear M7 V7 o8 uu8 g8 m8 z0' z1'
          have k81' := keepA (.cells #[.int .i64 Z1] 3) k81
          go_wp2_with (at_builtin; refine wpList_appJ _ rfl _ _ rfl w0.heap.size (some ⟨gS, 0, none⟩) nk c2 S rfl (M8.s.alloc _) _ 1 1 [Z1] rfl (Ints.lit1 _ _ _) (by omega) (by have := V8.size; simp; omega) ?_)
          intro a9 c9 w9 o9 uu9 g9 m9
          have M9 := (M8.alloc _).appS o9 g9 m9
          have V9 := (V8.alloc V8.size _).trans uu9
          have Q9 := Lib.hid ((Q8.out.alloc _).only (Only.of_grown g9) DQ2.out.symm)
          have F92 := Lib.hid (m9.disj DQ2.out (fun q hq => by have := FQ.out q hq; simp; omega))
          clear M8 V8 o9 uu9 g9 m9 k81 k81'
          go_wp2_with (at_builtin; refine wpList_appR _ rfl _ _ rfl w0.heap.size a3 n3 c3 (rs.map rowV) rfl (M9.alloc _).o.out _ 1 (qb, qd, [D, E]) rfl (RowC.lit1 _ _ _) (by omega) (by have := V9.size; simp; omega) ?_)
          intro a10 c10 w10 o10 uu10 g10 m10
          have HM := Lib.hid ((M9.alloc _).appO (r := (qb, qd, [D, E])) (Q9.out.alloc _) F81.out F92.out DQ3.out o10 g10 m10)
          have HV := Lib.hid ((V9.alloc V9.size _).trans uu10)
          have HE := Lib.hid (show wsR P key fault change G F0 S0' (k + 1) = (F ++ [Z0], S ++ [Z1], OP ++ [[D, E]]) by rw [HST.out, HS2.out, HMU.out])
          clear M9 V9 o10 uu10 g10 m10
          go_wp2
          go_roundw
          case rel => exact ⟨k + 1, by omega, by go_num, HV.out, _, _, _, _, _, _, _, rs ++ [(qb, qd, [D, E])], v_slice (by have := HNK.out; omega), v_slice (by have := HNK.out; omega), rfl, by omega, by rw [HE.out, show vn + (k + 1) = nk + 1 by have := HNK.out; omega]; exact HM.out, by rw [HE.out, datas_app, HDA.out]⟩
          case measure => simp [intOf]; omega
      · have f1 : ((kd != 1) : Bool) = true := by simp [hk1]
        have HS2 := Lib.hid (HSTP.out.trans (if_neg hk1))
        have HK1 := Lib.hid hk1
        have HKD : Hid (G.getD (k * 3) 0 ≠ 1) := Lib.hid (by rw [HK0.out]; exact hk1)
        clear hk1
        go_wp2
        generalize (wr.alloc (.cells #[.int .i64 kd, .int .i64 ka, .int .i64 kb] 78)) = w3 at *
        have x0 : w3.cell? ⟨w.heap.size, 0, none⟩ = some (.int .i64 P) := (B0.below V3).cell 0
        have x1 : w3.cell? ⟨w.heap.size, 1, none⟩ = some (.int .i64 i0) := (B0.below V3).cell 1
        have x2 : w3.cell? ⟨w.heap.size, 2, none⟩ = some (.int .i64 i1) := (B0.below V3).cell 2
        have x3 : w3.cell? ⟨w.heap.size, 3, none⟩ = some (.slice (some ⟨g, o, none⟩) gn gc) := (B0.below V3).cell 3
        have x4 : w3.cell? ⟨w.heap.size, 4, none⟩ = some (.slice oa on oc) := (B0.below V3).cell 4
        have hG3 := hG.below (V0.trans (V3.mono V0.size))
        clear c0 c1' c2' hbel Bg
        go_region_held3 (fun W => W.cell? ⟨w.heap.size, 0, none⟩ = some (.int .i64 P) ∧ W.cell? ⟨w.heap.size, 1, none⟩ = some (.int .i64 i0) ∧ W.cell? ⟨w.heap.size, 2, none⟩ = some (.int .i64 i1) ∧ W.cell? ⟨w.heap.size, 3, none⟩ = some (.slice (some ⟨g, o, none⟩) gn gc) ∧ W.cell? ⟨w.heap.size, 4, none⟩ = some (.slice oa on oc))
          (first | exact ⟨keepC u5 (keepC u4 x0), keepC u5 (keepC u4 x1), keepC u5 (keepC u4 x2), keepC u5 (keepC u4 x3), keepC u5 (keepC u4 x4)⟩ | exact ⟨keepC u4 x0, keepC u4 x1, keepC u4 x2, keepC u4 x3, keepC u4 x4⟩ | go_keep)
          (first | (go_at_call 69; have _ := u4; refine (smLocal_any P i0 i1 _ _ _ G _ _ _ 1 (i0 + i1 + k) k _ _ _ S _ (hG3.drew.below u4) (M3.s.ints.drew.below u4) (by omega) (by omega) HRS.out hlt HG.out HKD.out (by omega) (by omega) (by omega)).mono ?_; rintro e w5 ⟨he, u5⟩; rw [HK0.out, HKA.out, HKB.out] at he; subst he) | (go_at_call 69; refine (smLocal_any P i0 i1 _ _ _ G _ _ _ 0 (i0 + i1 + k) k _ _ _ F _ hG3.drew M3.f.ints.drew (by omega) (by omega) HRF.out hlt HG.out HKD.out (by omega) (by omega) (by omega)).mono ?_; rintro e w4 ⟨he, u4⟩; rw [HK0.out, HKA.out, HKB.out] at he; subst he))
        have u : Below w3.heap.size w3 w5 := (Below.refl _ _).drew.trans (u4.trans (u5.mono u4.size))
        have M5 := M3.below u
        have V5 := V3.trans (u.mono V3.size)
        clear x0 x1 x2 x3 x4 u4 u5 u M3 V3 hG3
        generalize hlf : localI P kd ka kb 0 F = lf at *
        generalize hls : localI P kd ka kb 1 S = ls at *
        have HLL := Lib.hid hlf
        have HSS := Lib.hid hls
        clear hlf hls
        go_wp2_with (at_builtin; refine wpList_appJ _ rfl _ _ rfl w0.heap.size a1 (vn + k) c1 F rfl (M5.f.alloc _) _ 1 1 [lf] rfl (Ints.lit1 _ _ _) (by omega) (by have := V5.size; simp; omega) ?_)
        intro a6 c6 w6 o6 u6 g6 m6
        have M6 := (M5.alloc (.cells #[.int .i64 lf] 3)).appF o6 g6 m6
        have V6 := (V5.alloc V5.size (.cells #[.int .i64 lf] 3)).trans u6
        clear M5 V5 o6 u6 g6 m6
        go_wp2_with (at_builtin; refine wpList_appJ _ rfl _ _ rfl w0.heap.size a2 (vn + k) c2 S rfl (M6.s.alloc _) _ 1 1 [ls] rfl (Ints.lit1 _ _ _) (by omega) (by have := V6.size; simp; omega) ?_)
        intro a7 c7 w7 o7 u7 g7 m7
        have M7 := (M6.alloc (.cells #[.int .i64 ls] 3)).appS o7 g7 m7
        have V7 := (V6.alloc V6.size (.cells #[.int .i64 ls] 3)).trans u7
        clear M6 V6 o7 u7 g7 m7
        have HE : Hid (wsR P key fault change G F0 S0' (k + 1) = (F ++ [lf], S ++ [ls], OP)) := Lib.hid (by rw [HST.out, HS2.out]; unfold wsLoc; rw [← HLL.out, ← HSS.out])
        go_wp2
        go_roundw
        case rel => exact ⟨k + 1, by omega, by go_num, V7, _, _, _, _, _, _, _, rs, rfl, rfl, rfl, by omega, by rw [HE.out]; exact M7, by rw [HE.out]; exact HDA.out⟩
        case measure => simp [intOf]; omega
    · obtain rfl : k = gn := by omega
      go_wp2
      go_ret3
      exact ⟨_, _, _, _, _, _, _, rs, rfl, ⟨hM.f.lower (Nat.le_of_lt S0), hM.s.lower (Nat.le_of_lt S0), hM.o.lower (Nat.le_of_lt S0), hM.fs, hM.fo, hM.so⟩, hda, V0.trans (hbel.mono V0.size)⟩
end Go.Proofs.Ythpcmbdkboajcaa
