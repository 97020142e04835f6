/- Lemmas and walks that the claim's proof rests on, part 7. -/
import Derived.Deep.DeepCutAuto
import Derived.Test.YtchmakepglaijaaGreatK5
import Derived.Test.YtchmakepglaijaaGreatK6
namespace Go.Proofs.YtchmakepglaijaaGreat
open Go.RowKit
set_option maxHeartbeats 16000000 in
set_option maxRecDepth 100000 in
theorem sharedWires_any (i0 i1 : Nat) (ga : Option Addr) (gn gc : Nat) (G : List Int) (oa : Option Addr) (on oc : Nat) (key : Int) (aa : Option Addr) (ac : Nat) (A : List Int) (ba : Option Addr) (bc : Nat) (B : List Int) (w : World) (hG : Flat 3 w ga gn gc G) (hA : Ints w aa i0 ac A) (hB : Ints w ba i1 bc B)
    (k0 : 0 ≤ key) (k1 : key ≤ 1000000000) (h0 : i0 ≤ 1000) (h1 : i1 ≤ 1000) (hgn : gn ≤ 1000) (bA : Bt A) (bB : Bt B) (hgk : ∀ j, j < gn → gbB (G.getD (j * 3) 0) (G.getD (j * 3 + 1) 0) (G.getD (j * 3 + 2) 0) ((i0 + i1 + j : Nat) : Int) = true) :
    Calls Tryz.prog 50 #[.agg #[.int .i64 i0, .int .i64 i1, .slice ga gn gc, .slice oa on oc], .int .i64 key, .slice aa i0 ac, .slice ba i1 bc] w fun e w' => ∃ a1 c1 a2 c2 a3 n3 c3, e = .returned (.tuple #[.slice a1 (i0 + i1 + gn) c1, .slice a2 (i0 + i1 + gn) c2, .slice a3 n3 c3]) ∧
      Own w' w.heap.size a1 (i0 + i1 + gn) c1 (sbR key G (siF key A i0 i1) (siS key B i0 i1) gn).1 ∧ Own w' w.heap.size a2 (i0 + i1 + gn) c2 (sbR key G (siF key A i0 i1) (siS key B i0 i1) gn).2.1 ∧ Disj (foot a1 c1) (foot a2 c2) ∧ Below w.heap.size w w' := by
  have HOK := Lib.hid (sbR_ok key G (F0 := siF key A i0 i1) (S0 := siS key B i0 i1) ⟨siF_len _ _ _ _, siS_len _ _ _ _, siF_bits bA _ _, siS_bits bB _ _⟩)
  have HGK := Lib.hid (fun j hj => gb_cases (hgk j hj))
  clear hgk bA bB
  have hgl := hG.le
  obtain ⟨F0, hF0⟩ : ∃ x, siF key A i0 i1 = x := ⟨_, rfl⟩
  obtain ⟨S0, hS0⟩ : ∃ x, siS key B i0 i1 = x := ⟨_, rfl⟩
  rw [hF0, hS0] at HOK ⊢
  have HF0 := Lib.hid hF0
  have HS0 := Lib.hid hS0
  clear hF0 hS0
  have V0 : Below w.heap.size w (w.alloc (.cells #[.int .i64 i0, .int .i64 i1, .slice ga gn gc, .slice oa on oc] 49)) := (Below.refl _ _).alloc (Nat.le_refl _) _
  have B0 : Blk (w.alloc (.cells #[.int .i64 i0, .int .i64 i1, .slice ga gn gc, .slice oa on oc] 49)) w.heap.size 49 #[.int .i64 i0, .int .i64 i1, .slice ga gn gc, .slice oa on oc] := Blk.new w _ _
  go_enter Tryz.func50, Tryz.ntmps50
  go_wp2_with fail
  generalize (w.alloc (.cells #[.int .i64 i0, .int .i64 i1, .slice ga gn gc, .slice oa on oc] 49)) = w0 at *
  refine (shareInputs_any i0 i1 _ _ _ _ _ _ key _ _ A _ _ B _ (hA.below V0) (hB.below V0) k0 k1 h0 h1).mono ?_; rintro e w1 ⟨a1, c1, a2, c2, rfl, o1, o2, d12, u1⟩
  rw [HF0.out] at o1
  rw [HS0.out] at o2
  have x2 : w1.cell? ⟨w.heap.size, 2, none⟩ = some (.slice ga gn gc) := (B0.below u1).cell 2
  have hz0 := B0.lt
  have x2' := keepA (.cells #[] 102) x2
  have V1 := u1.alloc u1.size (.cells #[] 102)
  have p1 := o1.alloc (.cells #[] 102)
  have p2 := o2.alloc (.cells #[] 102)
  clear o1 o2 u1
  go_wp2
  clear x2 x2'
  go_loopw [34, 11, 12, 13] (fun v f s o wr => ∃ k : Nat, k ≤ gn ∧ v = .int .i64 k ∧ Below w0.heap.size w0 wr ∧ ∃ a1 c1 a2 c2 a3 c3 xs, f = .slice a1 (i0 + i1 + k) c1 ∧ s = .slice a2 (i0 + i1 + k) c2 ∧ o = .slice a3 (sbR key G F0 S0 k).2.2 c3 ∧ Own wr w0.heap.size a1 (i0 + i1 + k) c1 (sbR key G F0 S0 k).1 ∧ Own wr w0.heap.size a2 (i0 + i1 + k) c2 (sbR key G F0 S0 k).2.1 ∧ OwnF 3 eOpened wr w0.heap.size a3 (sbR key G F0 S0 k).2.2 c3 xs ∧ Disj (foot a1 c1) (foot a2 c2) ∧ Disj (foot a1 c1) (foot a3 c3) ∧ Disj (foot a2 c2) (foot a3 c3)) (fun v _ _ _ _ => gn - (intOf v).toNat)
  case atStart => exact ⟨0, Nat.zero_le _, rfl, V1, _, _, _, _, _, _, [], rfl, rfl, rfl, p1, p2, OwnC.nil0 _ _ _ _ _, d12, (foot_nil _ _).symm, (foot_nil _ _).symm⟩
  case round =>
    obtain ⟨k, hkn, rfl, hbel, a1, c1, a2, c2, a3, c3, xs, rfl, rfl, rfl, o1, o2, o3, e12, e13, e23⟩ := hrel
    have D12 := Lib.hid e12
    have D13 := Lib.hid e13
    have D23 := Lib.hid e23
    clear V1 p1 p2 d12 e12 e13 e23
    by_cases hlt : k < gn
    · obtain ⟨ok, hn⟩ := HOK.out k
      rcases hR : sbR key G F0 S0 k with ⟨F, S, n⟩
      rw [hR] at o1 o2 o3 ok hn
      have HST : Hid (sbR key G F0 S0 (k + 1) = sbStep key (G.getD (k * 3) 0) (G.getD (k * 3 + 1) 0) (G.getD (k * 3 + 2) 0) (F, S, n)) := Lib.hid (by rw [sbR_succ, hR])
      clear hR
      obtain ⟨lf, ls, bf, bs⟩ := ok
      dsimp only at lf ls bf bs o1 o2 o3 hn ⊢
      have HLF := Lib.hid lf
      have HLS := Lib.hid ls
      have HBF := Lib.hid bf
      have HBS := Lib.hid bs
      clear lf ls bf bs
      obtain ⟨g, o, rfl, hc⟩ := (hG.below (V0.trans (hbel.mono V0.size))).at (by omega)
      have c0 : wr.cell? ⟨g, o + k * 3, none⟩ = some (.int .i64 (G.getD (k * 3) 0)) := hc (k * 3) (by omega)
      have c1' : wr.cell? ⟨g, o + k * 3 + 1, none⟩ = some (.int .i64 (G.getD (k * 3 + 1) 0)) := by have := hc (k * 3 + 1) (by omega); simpa only [Nat.add_assoc] using this
      have c2' : wr.cell? ⟨g, o + k * 3 + 2, none⟩ = some (.int .i64 (G.getD (k * 3 + 2) 0)) := by have := hc (k * 3 + 2) (by omega); simpa only [Nat.add_assoc] using this
      have HG := Lib.hid (HGK.out k hlt)
      generalize G.getD (k * 3) 0 = kd at *
      generalize G.getD (k * 3 + 1) 0 = ka at *
      generalize G.getD (k * 3 + 2) 0 = kb at *
      clear hc
      obtain ⟨N, hN⟩ : ∃ x, x = i0 + i1 + k := ⟨_, rfl⟩
      rw [← hN] at o1 o2 HLF HLS HG
      try rw [← hN]
      have HN := Lib.hid hN
      have hN3 : N ≤ 3000 := by omega
      clear hN
      by_cases hk1 : kd = 1
      · subst hk1
        have hab : (0 ≤ ka ∧ ka < N) ∧ (0 ≤ kb ∧ kb < N) := by have := HG.out; omega
        obtain ⟨⟨ka0, ka1⟩, kb0, kb1⟩ := hab
        obtain ⟨ja, rfl⟩ : ∃ x : Nat, ka = x := ⟨ka.toNat, by omega⟩
        obtain ⟨jb, rfl⟩ : ∃ x : Nat, kb = x := ⟨kb.toNat, by omega⟩
        have hja : ja < N := by omega
        have hjb : jb < N := by omega
        clear ka0 ka1 kb0 kb1
        have V3 := hbel.alloc hbel.size (.cells #[.int .i64 1, .int .i64 (ja : Int), .int .i64 (jb : Int)] 98)
        have p1 := o1.alloc (.cells #[.int .i64 1, .int .i64 (ja : Int), .int .i64 (jb : Int)] 98)
        have p2 := o2.alloc (.cells #[.int .i64 1, .int .i64 (ja : Int), .int .i64 (jb : Int)] 98)
        have p3 := o3.alloc (.cells #[.int .i64 1, .int .i64 (ja : Int), .int .i64 (jb : Int)] 98)
        have Bg : Blk (wr.alloc (.cells #[.int .i64 1, .int .i64 (ja : Int), .int .i64 (jb : Int)] 98)) wr.heap.size 98 #[.int .i64 1, .int .i64 (ja : Int), .int .i64 (jb : Int)] := Blk.new wr _ _
        have Q1 := Lib.hid p1.feet
        have Q2 := Lib.hid p2.feet
        have Q3 := Lib.hid p3.feet
        clear hbel o1 o2 o3
        go_wp2_with fail
        generalize (wr.alloc (.cells #[.int .i64 1, .int .i64 (ja : Int), .int .i64 (jb : Int)] 98)) = w3 at *
        clear c0 c1' c2'
        refine (bitTriple_any key n _ k0 k1 (by omega) (by omega)).mono ?_; rintro e w4 ⟨ta, tc, ua, uc, rfl, it, iu, u4⟩
        have q1 := p1.below u4
        have q2 := p2.below u4
        have q3 := p3.below u4
        have V4 := V3.trans (u4.mono V3.size)
        have Bg4 := Bg.below u4
        clear p1 p2 p3 V3 Bg u4
        obtain ⟨gF, rfl, _, _, fa, _, _⟩ := q1.at ja hja
        obtain ⟨_, E, _, _, fb, _, _⟩ := q1.at jb hjb
        cases E
        obtain ⟨gS, rfl, _, _, sa, _, _⟩ := q2.at ja hja
        obtain ⟨_, E, _, _, sb, _, _⟩ := q2.at jb hjb
        cases E
        obtain ⟨gt, ot, rfl, t0⟩ := it.1.at 0 (by omega)
        obtain ⟨_, _, E, t1⟩ := it.1.at 1 (by omega)
        cases E
        obtain ⟨gu, ou, rfl, s0⟩ := iu.1.at 0 (by omega)
        obtain ⟨_, _, E, s1⟩ := iu.1.at 1 (by omega)
        cases E
        rw [Nat.add_zero] at t0 s0
        have hd := sbDd_bit key n HBF.out HBS.out (ja : Int) 0
        have he := sbDd_bit key n HBF.out HBS.out (jb : Int) 1
        have HD : Hid (sbDd key n F S (ja : Int) 0 = xorI (xorI (xorI (F.getD ja 0) (S.getD ja 0)) ((tr1 key n).getD 0 0)) ((tr2 key n).getD 0 0)) := rfl
        have HE : Hid (sbDd key n F S (jb : Int) 1 = xorI (xorI (xorI (F.getD jb 0) (S.getD jb 0)) ((tr1 key n).getD 1 0)) ((tr2 key n).getD 1 0)) := rfl
        have HSX := Lib.hid (show sbStep key 1 (ja : Int) (jb : Int) (F, S, n) = (F ++ [anI 0 (tr1 key n) (sbDd key n F S (ja : Int) 0) (sbDd key n F S (jb : Int) 1)], S ++ [anI 1 (tr2 key n) (sbDd key n F S (ja : Int) 0) (sbDd key n F S (jb : Int) 1)], n + 1) from rfl)
        rw [HSX.out] at HST
        clear HSX
        have HTB := Lib.hid (tr1_bits key n)
        have HUB := Lib.hid (tr2_bits key n)
        generalize sbDd key n F S (ja : Int) 0 = d at *
        generalize sbDd key n F S (jb : Int) 1 = e0 at *
        generalize tr1 key n = T at *
        generalize tr2 key n = U at *
        generalize F.getD ja 0 = X0 at *
        generalize F.getD jb 0 = Y0 at *
        generalize S.getD ja 0 = X1 at *
        generalize S.getD jb 0 = Y1 at *
        generalize T.getD 0 0 = T0 at *
        generalize T.getD 1 0 = T1 at *
        generalize U.getD 0 0 = U0 at *
        generalize U.getD 1 0 = U1 at *
        have y00 : bits BinOp.xor IntKind.i64 X0 X1 = xorI X0 X1 := rfl
        have y01 : bits BinOp.xor IntKind.i64 (xorI X0 X1) T0 = xorI (xorI X0 X1) T0 := rfl
        have y02 : bits BinOp.xor IntKind.i64 (xorI (xorI X0 X1) T0) U0 = d := HD.out.symm
        have y10 : bits BinOp.xor IntKind.i64 Y0 Y1 = xorI Y0 Y1 := rfl
        have y11 : bits BinOp.xor IntKind.i64 (xorI Y0 Y1) T1 = xorI (xorI Y0 Y1) T1 := rfl
        have y12 : bits BinOp.xor IntKind.i64 (xorI (xorI Y0 Y1) T1) U1 = e0 := HE.out.symm
        have ia0 : (ja : Int) < (N : Int) := by omega
        have ib0 : (jb : Int) < (N : Int) := by omega
        have gc1 : w4.cell? ⟨wr.heap.size, 1, none⟩ = some (.int .i64 ja) := Bg4.cell 1
        have gc2 : w4.cell? ⟨wr.heap.size, 2, none⟩ = some (.int .i64 jb) := Bg4.cell 2
        clear Bg4
        go_wp2_with fail
        go_quiet (fail)
        replace q1 := q1.drewN nq
        replace q2 := q2.drewN nq
        replace q3 := q3.drewN nq
        replace V4 := V4.trans ((below_of_drewN (w := w4) nq).mono V4.size)
        replace it := it.below (below_of_drewN nq)
        replace iu := iu.below (below_of_drewN nq)
        clear fa fb sa sb t0 t1 s0 s1 gc1 gc2 y00 y01 y02 y10 y11 y12 ia0 ib0
        generalize w4.drewN nq = w5 at *
        go_wp2_with (at_builtin; refine wpList_appO _ rfl _ _ rfl w0.heap.size a3 n c3 xs rfl (q3.alloc _) _ 1 (k : Int) d e0 rfl (RowC.opened _ _ _ _ _) (by omega) (by have := V4.size; simp; omega) ?_)
        intro a5 c5 w7 o7 g7 m7
        have X7 := Only.of_grown g7
        have r1 := (q1.alloc (.cells #[.int .i64 (k : Int), .int .i64 d, .int .i64 e0] 102)).only X7 D13.out
        have r2 := (q2.alloc (.cells #[.int .i64 (k : Int), .int .i64 d, .int .i64 e0] 102)).only X7 D23.out
        have E13 := Lib.hid ((m7.disj D13.out.symm (fun q hq => by have := (q1.feet q hq).2; simp; omega)).symm)
        have E23 := Lib.hid ((m7.disj D23.out.symm (fun q hq => by have := (q2.feet q hq).2; simp; omega)).symm)
        have it7 := (it.below ((Below.refl _ _).alloc (Nat.le_refl _) (.cells #[.int .i64 (k : Int), .int .i64 d, .int .i64 e0] 102))).only X7 (fun q hq => (Q3.out q hq).2)
        have iu7 := (iu.below ((Below.refl _ _).alloc (Nat.le_refl _) (.cells #[.int .i64 (k : Int), .int .i64 d, .int .i64 e0] 102))).only X7 (fun q hq => (Q3.out q hq).2)
        have V7 := (V4.alloc V4.size (.cells #[.int .i64 (k : Int), .int .i64 d, .int .i64 e0] 102)).trans (X7.below (by have := V4.size; simp; omega) (fun q hq => (q3.feet q hq).1))
        have S7 := V7.size
        clear q1 q2 q3 it iu V4 g7 m7 X7
        go_wp2_with fail
        refine (andShare_any 0 d e0 _ _ T _ it7.1 HTB.out hd he (by omega)).mono ?_; rintro e w8 ⟨rfl, hq0⟩
        have u8 := below_of_quiet hq0
        clear hq0
        have s1 := r1.below u8
        have s2 := r2.below u8
        have s3 := o7.below u8
        have iu8 := iu7.below u8
        have V8 := V7.trans (u8.mono V7.size)
        clear r1 r2 o7 it7 iu7 V7 u8
        generalize anI 0 T d e0 = va at *
        go_wp2_with (at_builtin; refine wpList_appJ _ rfl _ _ rfl w0.heap.size _ N c1 F rfl (s1.alloc _) _ 1 1 [va] rfl (Ints.lit1 _ _ _) (by omega) (by have := V8.size; simp; omega) ?_)
        intro a6 c6 w9 o9 v9 g9 m9
        have X9 := Only.of_grown g9
        have s2' := s2
        have s3' := s3
        replace s2 := (s2.alloc (.cells #[.int .i64 va] 3)).only X9 D12.out.symm
        replace s3 := (s3.alloc (.cells #[.int .i64 va] 3)).only X9 E13.out.symm
        have iu9 := (iu8.below ((Below.refl _ _).alloc (Nat.le_refl _) (.cells #[.int .i64 va] 3))).only X9 (fun q hq => (Q1.out q hq).2)
        have F12 := Lib.hid (m9.disj D12.out (fun q hq => by have := (s2'.feet q hq).2; simp; omega))
        have F13 := Lib.hid (m9.disj E13.out (fun q hq => by have := (s3'.feet q hq).2; simp; omega))
        have V9 := (V8.alloc V8.size (.cells #[.int .i64 va] 3)).trans v9
        clear s1 s2' s3' iu8 V8 g9 m9 v9 X9
        go_wp2_with fail
        refine (andShare_any 1 d e0 _ _ U _ iu9.1 HUB.out hd he (by omega)).mono ?_; rintro e w10 ⟨rfl, hq1⟩
        have u9 := below_of_quiet hq1
        clear hq1
        have t1 := o9.below u9
        have t2 := s2.below u9
        have t3 := s3.below u9
        have V10 := V9.trans (u9.mono V9.size)
        clear o9 s2 s3 iu9 V9 u9
        generalize anI 1 U d e0 = vb at *
        go_wp2_with (at_builtin; refine wpList_appJ _ rfl _ _ rfl w0.heap.size _ N c2 S rfl (t2.alloc _) _ 1 1 [vb] rfl (Ints.lit1 _ _ _) (by omega) (by have := V10.size; simp; omega) ?_)
        intro a7 c7 w11 o11 v11 g11 m11
        have X11 := Only.of_grown g11
        have z1 := (t1.alloc (.cells #[.int .i64 vb] 3)).only X11 F12.out
        have z3 := (t3.alloc (.cells #[.int .i64 vb] 3)).only X11 E23.out.symm
        have G12 := (m11.disj F12.out.symm (fun q hq => by have := (t1.feet q hq).2; simp; omega)).symm
        have G23 := m11.disj E23.out (fun q hq => by have := (t3.feet q hq).2; simp; omega)
        have V11 := (V10.alloc V10.size (.cells #[.int .i64 vb] 3)).trans v11
        have HZ := Lib.hid (And.intro G12 (And.intro F13.out G23))
        clear t1 t2 t3 V10 g11 m11 v11 X11 G12 G23 F12 F13 E13 E23
        go_wp2
        go_roundw
        case rel => exact ⟨k + 1, by omega, by go_num, V11, _, _, _, _, _, _, _, by rw [show i0 + i1 + (k + 1) = N + 1 by have := HN.out; omega], by rw [show i0 + i1 + (k + 1) = N + 1 by have := HN.out; omega], by rw [HST.out], by rw [HST.out, show i0 + i1 + (k + 1) = N + 1 by have := HN.out; omega]; exact z1, by rw [HST.out, show i0 + i1 + (k + 1) = N + 1 by have := HN.out; omega]; exact o11, by rw [HST.out]; exact z3, HZ.out.1, HZ.out.2.1, HZ.out.2.2⟩
        case measure => simp [intOf]; omega
      · have HK1 := Lib.hid hk1
        have f1 : ((kd != 1) : Bool) = true := by simp [hk1]
        have hgo : goB kd ka kb N := by have := HG.out; unfold goB; rcases this with h | h | h | h <;> omega
        have HGO := Lib.hid hgo
        have HSX := Lib.hid (show sbStep key kd ka kb (F, S, n) = (F ++ [soI kd ka kb 0 F], S ++ [soI kd ka kb 1 S], n) from by unfold sbStep; rw [if_neg hk1]; rfl)
        rw [HSX.out] at HST
        clear HSX hgo hk1
        have V3 := hbel.alloc hbel.size (.cells #[.int .i64 kd, .int .i64 ka, .int .i64 kb] 98)
        have p1 := o1.alloc (.cells #[.int .i64 kd, .int .i64 ka, .int .i64 kb] 98)
        have p2 := o2.alloc (.cells #[.int .i64 kd, .int .i64 ka, .int .i64 kb] 98)
        have p3 := o3.alloc (.cells #[.int .i64 kd, .int .i64 ka, .int .i64 kb] 98)
        have Bg : Blk (wr.alloc (.cells #[.int .i64 kd, .int .i64 ka, .int .i64 kb] 98)) wr.heap.size 98 #[.int .i64 kd, .int .i64 ka, .int .i64 kb] := Blk.new wr _ _
        clear hbel o1 o2 o3
        go_wp2_with fail
        generalize (wr.alloc (.cells #[.int .i64 kd, .int .i64 ka, .int .i64 kb] 98)) = w3 at *
        clear c0 c1' c2'
        have y0 : w3.cell? ⟨wr.heap.size, 0, none⟩ = some (.int .i64 kd) := Bg.cell 0
        have y1 : w3.cell? ⟨wr.heap.size, 1, none⟩ = some (.int .i64 ka) := Bg.cell 1
        have y2 : w3.cell? ⟨wr.heap.size, 2, none⟩ = some (.int .i64 kb) := Bg.cell 2
        go_region_held3 (fun W => W.cell? ⟨wr.heap.size, 0, none⟩ = some (.int .i64 kd) ∧ W.cell? ⟨wr.heap.size, 1, none⟩ = some (.int .i64 ka) ∧ W.cell? ⟨wr.heap.size, 2, none⟩ = some (.int .i64 kb))
          (first | exact ⟨keepC u5 (keepC u4 y0), keepC u5 (keepC u4 y1), keepC u5 (keepC u4 y2)⟩ | exact ⟨keepC u4 y0, keepC u4 y1, keepC u4 y2⟩ | go_keep)
          (first | (go_at_call 95; have _ := u4; refine (shareOf_any kd ka kb 1 _ N c2 S _ (p2.ints.drew.below u4) HGO.out (by omega)).mono ?_; rintro e w5 ⟨rfl, u5⟩) | (go_at_call 95; refine (shareOf_any kd ka kb 0 _ N c1 F _ p1.ints.drew HGO.out (by omega)).mono ?_; rintro e w4 ⟨rfl, u4⟩))
        all_goals have u : Below w3.heap.size w3 w5 := (Below.refl _ _).drew.trans (u4.trans (u5.mono u4.size))
        all_goals replace p1 := p1.below u
        all_goals replace p2 := p2.below u
        all_goals replace p3 := p3.below u
        all_goals have V5 := V3.trans (u.mono V3.size)
        all_goals clear y0 y1 y2 u4 u5 u V3 Bg f1
        all_goals generalize soI kd ka kb 0 F = va at *
        all_goals generalize soI kd ka kb 1 S = vb at *
        go_wp2_with (at_builtin; refine wpList_appJ _ rfl _ _ rfl w0.heap.size _ N c1 F rfl (p1.alloc _) _ 1 1 [va] rfl (Ints.lit1 _ _ _) (by omega) (by have := V5.size; simp; omega) ?_)
        intro a6 c6 w6 o6 v6 g6 m6
        have X6 := Only.of_grown g6
        have F12 := Lib.hid (m6.disj D12.out (fun q hq => by have := (p2.feet q hq).2; simp; omega))
        have F13 := Lib.hid (m6.disj D13.out (fun q hq => by have := (p3.feet q hq).2; simp; omega))
        have q2 := (p2.alloc (.cells #[.int .i64 va] 3)).only X6 D12.out.symm
        have q3 := (p3.alloc (.cells #[.int .i64 va] 3)).only X6 D13.out.symm
        have V6 := (V5.alloc V5.size (.cells #[.int .i64 va] 3)).trans v6
        clear p1 p2 p3 V5 g6 m6 v6 X6
        go_wp2_with (at_builtin; refine wpList_appJ _ rfl _ _ rfl w0.heap.size _ N c2 S rfl (q2.alloc _) _ 1 1 [vb] rfl (Ints.lit1 _ _ _) (by omega) (by have := V6.size; simp; omega) ?_)
        intro a7 c7 w11 o11 v11 g11 m11
        have X11 := Only.of_grown g11
        have z1 := (o6.alloc (.cells #[.int .i64 vb] 3)).only X11 F12.out
        have z3 := (q3.alloc (.cells #[.int .i64 vb] 3)).only X11 D23.out.symm
        have G12 := (m11.disj F12.out.symm (fun q hq => by have := (o6.feet q hq).2; simp; omega)).symm
        have G23 := m11.disj D23.out (fun q hq => by have := (q3.feet q hq).2; simp; omega)
        have V11 := (V6.alloc V6.size (.cells #[.int .i64 vb] 3)).trans v11
        have HZ := Lib.hid (And.intro G12 (And.intro F13.out G23))
        clear o6 q2 q3 V6 g11 m11 v11 X11 G12 G23 F12 F13
        go_wp2
        go_roundw
        case rel => exact ⟨k + 1, by omega, by go_num, V11, _, _, _, _, _, _, _, by rw [show i0 + i1 + (k + 1) = N + 1 by have := HN.out; omega], by rw [show i0 + i1 + (k + 1) = N + 1 by have := HN.out; omega], by rw [HST.out], by rw [HST.out, show i0 + i1 + (k + 1) = N + 1 by have := HN.out; omega]; exact z1, by rw [HST.out, show i0 + i1 + (k + 1) = N + 1 by have := HN.out; omega]; exact o11, by rw [HST.out]; exact z3, HZ.out.1, HZ.out.2.1, HZ.out.2.2⟩
        case measure => simp [intOf]; omega
    · obtain rfl : k = gn := by omega
      go_wp2
      go_ret3
      exact ⟨_, _, _, _, _, _, _, rfl, o1.lower (Nat.le_of_lt hz0), o2.lower (Nat.le_of_lt hz0), D12.out, V0.trans (hbel.mono V0.size)⟩
end Go.Proofs.YtchmakepglaijaaGreat
namespace Go.Proofs.YtchmakepglaijaaGreat
open Go.RowKit
set_option maxHeartbeats 16000000 in
set_option maxRecDepth 100000 in
theorem sbRun_any (i0 i1 : Nat) (ga : Option Addr) (gn gc : Nat) (G : List Int) (oa : Option Addr) (on oc : Nat) (key : Int) (aa : Option Addr) (ac : Nat) (A : List Int) (ba : Option Addr) (bc : Nat) (B : List Int) (w : World) (hG : Flat 3 w ga gn gc G) (hA : Ints w aa i0 ac A) (hB : Ints w ba i1 bc B)
    (k0 : 0 ≤ key) (k1 : key ≤ 1000000000) (h0 : i0 ≤ 1000) (h1 : i1 ≤ 1000) (hgn : gn ≤ 1000) (bA : Bt A) (bB : Bt B) (hgk : ∀ j, j < gn → gbB (G.getD (j * 3) 0) (G.getD (j * 3 + 1) 0) (G.getD (j * 3 + 2) 0) ((i0 + i1 + j : Nat) : Int) = true) :
    Calls Tryz.prog 56 #[.agg #[.int .i64 i0, .int .i64 i1, .slice ga gn gc, .slice oa on oc], .int .i64 key, .slice aa i0 ac, .slice ba i1 bc] w fun e w' => ∃ a1 c1 a2 c2 a3 n3 c3, e = .returned (.tuple #[.slice a1 (i0 + i1 + gn) c1, .slice a2 (i0 + i1 + gn) c2, .slice a3 n3 c3]) ∧
      Own w' w.heap.size a1 (i0 + i1 + gn) c1 (sbR key G (siF key A i0 i1) (siS key B i0 i1) gn).1 ∧ Own w' w.heap.size a2 (i0 + i1 + gn) c2 (sbR key G (siF key A i0 i1) (siS key B i0 i1) gn).2.1 ∧ Disj (foot a1 c1) (foot a2 c2) ∧ Below w.heap.size w w' := by
  have HOK := Lib.hid (sbR_ok key G (F0 := siF key A i0 i1) (S0 := siS key B i0 i1) ⟨siF_len _ _ _ _, siS_len _ _ _ _, siF_bits bA _ _, siS_bits bB _ _⟩)
  have HGK := Lib.hid (fun j hj => gb_cases (hgk j hj))
  clear hgk bA bB
  have hgl := hG.le
  obtain ⟨F0, hF0⟩ : ∃ x, siF key A i0 i1 = x := ⟨_, rfl⟩
  obtain ⟨S0, hS0⟩ : ∃ x, siS key B i0 i1 = x := ⟨_, rfl⟩
  rw [hF0, hS0] at HOK ⊢
  have HF0 := Lib.hid hF0
  have HS0 := Lib.hid hS0
  clear hF0 hS0
  have V0 : Below w.heap.size w (w.alloc (.cells #[.int .i64 i0, .int .i64 i1, .slice ga gn gc, .slice oa on oc] 49)) := (Below.refl _ _).alloc (Nat.le_refl _) _
  have B0 : Blk (w.alloc (.cells #[.int .i64 i0, .int .i64 i1, .slice ga gn gc, .slice oa on oc] 49)) w.heap.size 49 #[.int .i64 i0, .int .i64 i1, .slice ga gn gc, .slice oa on oc] := Blk.new w _ _
  go_enter Tryz.func56, Tryz.ntmps56
  go_wp2_with fail
  generalize (w.alloc (.cells #[.int .i64 i0, .int .i64 i1, .slice ga gn gc, .slice oa on oc] 49)) = w0 at *
  refine (sbInputs_any i0 i1 _ _ _ _ _ _ key _ _ A _ _ B _ (hA.below V0) (hB.below V0) k0 k1 h0 h1).mono ?_; rintro e w1 ⟨a1, c1, a2, c2, rfl, o1, o2, d12, u1⟩
  rw [HF0.out] at o1
  rw [HS0.out] at o2
  have x2 : w1.cell? ⟨w.heap.size, 2, none⟩ = some (.slice ga gn gc) := (B0.below u1).cell 2
  have hz0 := B0.lt
  have V1 := u1
  have p1 := o1
  have p2 := o2
  clear o1 o2 u1
  go_wp2
  clear x2
  go_loopw [31, 11, 12, 13] (fun v f s o wr => ∃ k : Nat, k ≤ gn ∧ v = .int .i64 k ∧ Below w0.heap.size w0 wr ∧ ∃ a1 c1 a2 c2 a3 c3 xs, f = .slice a1 (i0 + i1 + k) c1 ∧ s = .slice a2 (i0 + i1 + k) c2 ∧ o = .slice a3 (sbR key G F0 S0 k).2.2 c3 ∧ Own wr w0.heap.size a1 (i0 + i1 + k) c1 (sbR key G F0 S0 k).1 ∧ Own wr w0.heap.size a2 (i0 + i1 + k) c2 (sbR key G F0 S0 k).2.1 ∧ OwnF 3 eOpened wr w0.heap.size a3 (sbR key G F0 S0 k).2.2 c3 xs ∧ Disj (foot a1 c1) (foot a2 c2) ∧ Disj (foot a1 c1) (foot a3 c3) ∧ Disj (foot a2 c2) (foot a3 c3)) (fun v _ _ _ _ => gn - (intOf v).toNat)
  case atStart => exact ⟨0, Nat.zero_le _, rfl, V1, _, _, _, _, none, 0, [], rfl, rfl, rfl, p1, p2, OwnC.nil0 _ _ _ _ _, d12, (foot_nil _ _).symm, (foot_nil _ _).symm⟩
  case round =>
    obtain ⟨k, hkn, rfl, hbel, a1, c1, a2, c2, a3, c3, xs, rfl, rfl, rfl, o1, o2, o3, e12, e13, e23⟩ := hrel
    have D12 := Lib.hid e12
    have D13 := Lib.hid e13
    have D23 := Lib.hid e23
    clear V1 p1 p2 d12 e12 e13 e23
    by_cases hlt : k < gn
    · obtain ⟨ok, hn⟩ := HOK.out k
      rcases hR : sbR key G F0 S0 k with ⟨F, S, n⟩
      rw [hR] at o1 o2 o3 ok hn
      have HST : Hid (sbR key G F0 S0 (k + 1) = sbStep key (G.getD (k * 3) 0) (G.getD (k * 3 + 1) 0) (G.getD (k * 3 + 2) 0) (F, S, n)) := Lib.hid (by rw [sbR_succ, hR])
      clear hR
      obtain ⟨lf, ls, bf, bs⟩ := ok
      dsimp only at lf ls bf bs o1 o2 o3 hn ⊢
      have HLF := Lib.hid lf
      have HLS := Lib.hid ls
      have HBF := Lib.hid bf
      have HBS := Lib.hid bs
      clear lf ls bf bs
      obtain ⟨g, o, rfl, hc⟩ := (hG.below (V0.trans (hbel.mono V0.size))).at (by omega)
      have c0 : wr.cell? ⟨g, o + k * 3, none⟩ = some (.int .i64 (G.getD (k * 3) 0)) := hc (k * 3) (by omega)
      have c1' : wr.cell? ⟨g, o + k * 3 + 1, none⟩ = some (.int .i64 (G.getD (k * 3 + 1) 0)) := by have := hc (k * 3 + 1) (by omega); simpa only [Nat.add_assoc] using this
      have c2' : wr.cell? ⟨g, o + k * 3 + 2, none⟩ = some (.int .i64 (G.getD (k * 3 + 2) 0)) := by have := hc (k * 3 + 2) (by omega); simpa only [Nat.add_assoc] using this
      have HG := Lib.hid (HGK.out k hlt)
      generalize G.getD (k * 3) 0 = kd at *
      generalize G.getD (k * 3 + 1) 0 = ka at *
      generalize G.getD (k * 3 + 2) 0 = kb at *
      clear hc
      obtain ⟨N, hN⟩ : ∃ x, x = i0 + i1 + k := ⟨_, rfl⟩
      rw [← hN] at o1 o2 HLF HLS HG
      try rw [← hN]
      have HN := Lib.hid hN
      have hN3 : N ≤ 3000 := by omega
      clear hN
      by_cases hk1 : kd = 1
      · subst hk1
        have hab : (0 ≤ ka ∧ ka < N) ∧ (0 ≤ kb ∧ kb < N) := by have := HG.out; omega
        obtain ⟨⟨ka0, ka1⟩, kb0, kb1⟩ := hab
        obtain ⟨ja, rfl⟩ : ∃ x : Nat, ka = x := ⟨ka.toNat, by omega⟩
        obtain ⟨jb, rfl⟩ : ∃ x : Nat, kb = x := ⟨kb.toNat, by omega⟩
        have hja : ja < N := by omega
        have hjb : jb < N := by omega
        clear ka0 ka1 kb0 kb1
        have V3 := hbel.alloc hbel.size (.cells #[.int .i64 1, .int .i64 (ja : Int), .int .i64 (jb : Int)] 98)
        have p1 := o1.alloc (.cells #[.int .i64 1, .int .i64 (ja : Int), .int .i64 (jb : Int)] 98)
        have p2 := o2.alloc (.cells #[.int .i64 1, .int .i64 (ja : Int), .int .i64 (jb : Int)] 98)
        have p3 := o3.alloc (.cells #[.int .i64 1, .int .i64 (ja : Int), .int .i64 (jb : Int)] 98)
        have Bg : Blk (wr.alloc (.cells #[.int .i64 1, .int .i64 (ja : Int), .int .i64 (jb : Int)] 98)) wr.heap.size 98 #[.int .i64 1, .int .i64 (ja : Int), .int .i64 (jb : Int)] := Blk.new wr _ _
        have Q1 := Lib.hid p1.feet
        have Q2 := Lib.hid p2.feet
        have Q3 := Lib.hid p3.feet
        clear hbel o1 o2 o3
        go_wp2_with fail
        generalize (wr.alloc (.cells #[.int .i64 1, .int .i64 (ja : Int), .int .i64 (jb : Int)] 98)) = w3 at *
        clear c0 c1' c2'
        refine (sbTriple_any key n _ k0 k1 (by omega) (by omega)).mono ?_; rintro e w4 ⟨ta, tc, ua, uc, rfl, it, iu, u4⟩
        have q1 := p1.below u4
        have q2 := p2.below u4
        have q3 := p3.below u4
        have V4 := V3.trans (u4.mono V3.size)
        have Bg4 := Bg.below u4
        clear p1 p2 p3 V3 Bg u4
        obtain ⟨gF, rfl, _, _, fa, _, _⟩ := q1.at ja hja
        obtain ⟨_, E, _, _, fb, _, _⟩ := q1.at jb hjb
        cases E
        obtain ⟨gS, rfl, _, _, sa, _, _⟩ := q2.at ja hja
        obtain ⟨_, E, _, _, sb, _, _⟩ := q2.at jb hjb
        cases E
        obtain ⟨gt, ot, rfl, t0⟩ := it.1.at 0 (by omega)
        obtain ⟨_, _, E, t1⟩ := it.1.at 1 (by omega)
        cases E
        obtain ⟨gu, ou, rfl, s0⟩ := iu.1.at 0 (by omega)
        obtain ⟨_, _, E, s1⟩ := iu.1.at 1 (by omega)
        cases E
        rw [Nat.add_zero] at t0 s0
        have hd := sbDd_bit key n HBF.out HBS.out (ja : Int) 0
        have he := sbDd_bit key n HBF.out HBS.out (jb : Int) 1
        have HD : Hid (sbDd key n F S (ja : Int) 0 = xorI (xorI (xorI (F.getD ja 0) (S.getD ja 0)) ((tr1 key n).getD 0 0)) ((tr2 key n).getD 0 0)) := rfl
        have HE : Hid (sbDd key n F S (jb : Int) 1 = xorI (xorI (xorI (F.getD jb 0) (S.getD jb 0)) ((tr1 key n).getD 1 0)) ((tr2 key n).getD 1 0)) := rfl
        have HSX := Lib.hid (show sbStep key 1 (ja : Int) (jb : Int) (F, S, n) = (F ++ [anI 0 (tr1 key n) (sbDd key n F S (ja : Int) 0) (sbDd key n F S (jb : Int) 1)], S ++ [anI 1 (tr2 key n) (sbDd key n F S (ja : Int) 0) (sbDd key n F S (jb : Int) 1)], n + 1) from rfl)
        rw [HSX.out] at HST
        clear HSX
        have HTB := Lib.hid (tr1_bits key n)
        have HUB := Lib.hid (tr2_bits key n)
        generalize sbDd key n F S (ja : Int) 0 = d at *
        generalize sbDd key n F S (jb : Int) 1 = e0 at *
        generalize tr1 key n = T at *
        generalize tr2 key n = U at *
        generalize F.getD ja 0 = X0 at *
        generalize F.getD jb 0 = Y0 at *
        generalize S.getD ja 0 = X1 at *
        generalize S.getD jb 0 = Y1 at *
        generalize T.getD 0 0 = T0 at *
        generalize T.getD 1 0 = T1 at *
        generalize U.getD 0 0 = U0 at *
        generalize U.getD 1 0 = U1 at *
        have y00 : bits BinOp.xor IntKind.i64 X0 X1 = xorI X0 X1 := rfl
        have y01 : bits BinOp.xor IntKind.i64 (xorI X0 X1) T0 = xorI (xorI X0 X1) T0 := rfl
        have y02 : bits BinOp.xor IntKind.i64 (xorI (xorI X0 X1) T0) U0 = d := HD.out.symm
        have y10 : bits BinOp.xor IntKind.i64 Y0 Y1 = xorI Y0 Y1 := rfl
        have y11 : bits BinOp.xor IntKind.i64 (xorI Y0 Y1) T1 = xorI (xorI Y0 Y1) T1 := rfl
        have y12 : bits BinOp.xor IntKind.i64 (xorI (xorI Y0 Y1) T1) U1 = e0 := HE.out.symm
        have ia0 : (ja : Int) < (N : Int) := by omega
        have ib0 : (jb : Int) < (N : Int) := by omega
        have gc1 : w4.cell? ⟨wr.heap.size, 1, none⟩ = some (.int .i64 ja) := Bg4.cell 1
        have gc2 : w4.cell? ⟨wr.heap.size, 2, none⟩ = some (.int .i64 jb) := Bg4.cell 2
        clear Bg4
        go_wp2_with fail
        go_quiet (fail)
        go_wp2_with fail
        replace q1 := q1.drewN nq
        replace q2 := q2.drewN nq
        replace q3 := q3.drewN nq
        replace V4 := V4.trans ((below_of_drewN (w := w4) nq).mono V4.size)
        replace it := it.below (below_of_drewN nq)
        replace iu := iu.below (below_of_drewN nq)
        replace fb := keepC (below_of_drewN nq) fb
        replace sb := keepC (below_of_drewN nq) sb
        replace t1 := keepC (below_of_drewN nq) t1
        replace s1 := keepC (below_of_drewN nq) s1
        replace gc2 := keepC (below_of_drewN nq) gc2
        clear fa sa t0 s0 gc1 y00 y01 y02 ia0
        generalize w4.drewN nq = w5 at *
        go_quiet (fail)
        obtain ⟨w6, hw6⟩ : ∃ x, x = w5.drewN nq := ⟨_, rfl⟩
        have u6 : Below w5.heap.size w5 w6 := by rw [hw6]; exact below_of_drewN nq
        rw [← hw6]
        clear hw6
        replace q1 := q1.below u6
        replace q2 := q2.below u6
        replace q3 := q3.below u6
        replace V4 := V4.trans (u6.mono V4.size)
        replace it := it.below u6
        replace iu := iu.below u6
        clear fb sb t1 s1 gc2 y10 y11 y12 ib0 u6
        go_wp2_with (at_builtin; refine wpList_appO _ rfl _ _ rfl w0.heap.size a3 n c3 xs rfl (q3.alloc _) _ 1 (k : Int) d e0 rfl (RowC.opened _ _ _ _ _) (by omega) (by have := V4.size; simp; omega) ?_)
        intro a5 c5 w7 o7 g7 m7
        have X7 := Only.of_grown g7
        have r1 := (q1.alloc (.cells #[.int .i64 (k : Int), .int .i64 d, .int .i64 e0] 102)).only X7 D13.out
        have r2 := (q2.alloc (.cells #[.int .i64 (k : Int), .int .i64 d, .int .i64 e0] 102)).only X7 D23.out
        have E13 := Lib.hid ((m7.disj D13.out.symm (fun q hq => by have := (q1.feet q hq).2; simp; omega)).symm)
        have E23 := Lib.hid ((m7.disj D23.out.symm (fun q hq => by have := (q2.feet q hq).2; simp; omega)).symm)
        have it7 := (it.below ((Below.refl _ _).alloc (Nat.le_refl _) (.cells #[.int .i64 (k : Int), .int .i64 d, .int .i64 e0] 102))).only X7 (fun q hq => (Q3.out q hq).2)
        have iu7 := (iu.below ((Below.refl _ _).alloc (Nat.le_refl _) (.cells #[.int .i64 (k : Int), .int .i64 d, .int .i64 e0] 102))).only X7 (fun q hq => (Q3.out q hq).2)
        have V7 := (V4.alloc V4.size (.cells #[.int .i64 (k : Int), .int .i64 d, .int .i64 e0] 102)).trans (X7.below (by have := V4.size; simp; omega) (fun q hq => (q3.feet q hq).1))
        have S7 := V7.size
        clear q1 q2 q3 it iu V4 g7 m7 X7
        go_wp2_with fail
        refine (sbAnd_any 0 d e0 _ _ T _ it7.1 (by omega)).mono ?_; rintro e w8 ⟨rfl, hq0⟩
        have u8 := below_of_quiet hq0
        clear hq0
        have s1 := r1.below u8
        have s2 := r2.below u8
        have s3 := o7.below u8
        have iu8 := iu7.below u8
        have V8 := V7.trans (u8.mono V7.size)
        clear r1 r2 o7 it7 iu7 V7 u8
        generalize anI 0 T d e0 = va at *
        go_wp2_with (at_builtin; refine wpList_appJ _ rfl _ _ rfl w0.heap.size _ N c1 F rfl (s1.alloc _) _ 1 1 [va] rfl (Ints.lit1 _ _ _) (by omega) (by have := V8.size; simp; omega) ?_)
        intro a6 c6 w9 o9 v9 g9 m9
        have X9 := Only.of_grown g9
        have s2' := s2
        have s3' := s3
        replace s2 := (s2.alloc (.cells #[.int .i64 va] 3)).only X9 D12.out.symm
        replace s3 := (s3.alloc (.cells #[.int .i64 va] 3)).only X9 E13.out.symm
        have iu9 := (iu8.below ((Below.refl _ _).alloc (Nat.le_refl _) (.cells #[.int .i64 va] 3))).only X9 (fun q hq => (Q1.out q hq).2)
        have F12 := Lib.hid (m9.disj D12.out (fun q hq => by have := (s2'.feet q hq).2; simp; omega))
        have F13 := Lib.hid (m9.disj E13.out (fun q hq => by have := (s3'.feet q hq).2; simp; omega))
        have V9 := (V8.alloc V8.size (.cells #[.int .i64 va] 3)).trans v9
        clear s1 s2' s3' iu8 V8 g9 m9 v9 X9
        go_wp2_with fail
        refine (sbAnd_any 1 d e0 _ _ U _ iu9.1 (by omega)).mono ?_; rintro e w10 ⟨rfl, hq1⟩
        have u9 := below_of_quiet hq1
        clear hq1
        have t1 := o9.below u9
        have t2 := s2.below u9
        have t3 := s3.below u9
        have V10 := V9.trans (u9.mono V9.size)
        clear o9 s2 s3 iu9 V9 u9
        generalize anI 1 U d e0 = vb at *
        go_wp2_with (at_builtin; refine wpList_appJ _ rfl _ _ rfl w0.heap.size _ N c2 S rfl (t2.alloc _) _ 1 1 [vb] rfl (Ints.lit1 _ _ _) (by omega) (by have := V10.size; simp; omega) ?_)
        intro a7 c7 w11 o11 v11 g11 m11
        have X11 := Only.of_grown g11
        have z1 := (t1.alloc (.cells #[.int .i64 vb] 3)).only X11 F12.out
        have z3 := (t3.alloc (.cells #[.int .i64 vb] 3)).only X11 E23.out.symm
        have G12 := (m11.disj F12.out.symm (fun q hq => by have := (t1.feet q hq).2; simp; omega)).symm
        have G23 := m11.disj E23.out (fun q hq => by have := (t3.feet q hq).2; simp; omega)
        have V11 := (V10.alloc V10.size (.cells #[.int .i64 vb] 3)).trans v11
        have HZ := Lib.hid (And.intro G12 (And.intro F13.out G23))
        clear t1 t2 t3 V10 g11 m11 v11 X11 G12 G23 F12 F13 E13 E23
        go_wp2
        go_roundw
        case rel => exact ⟨k + 1, by omega, by go_num, V11, _, _, _, _, _, _, _, by rw [show i0 + i1 + (k + 1) = N + 1 by have := HN.out; omega], by rw [show i0 + i1 + (k + 1) = N + 1 by have := HN.out; omega], by rw [HST.out], by rw [HST.out, show i0 + i1 + (k + 1) = N + 1 by have := HN.out; omega]; exact z1, by rw [HST.out, show i0 + i1 + (k + 1) = N + 1 by have := HN.out; omega]; exact o11, by rw [HST.out]; exact z3, HZ.out.1, HZ.out.2.1, HZ.out.2.2⟩
        case measure => simp [intOf]; omega
      · have HK1 := Lib.hid hk1
        have QR1 := Lib.hid o1.feet
        have f1 : ((kd != 1) : Bool) = true := by simp [hk1]
        have hgo : goB kd ka kb N := by have := HG.out; unfold goB; rcases this with h | h | h | h <;> omega
        have HGO := Lib.hid hgo
        have HSX := Lib.hid (show sbStep key kd ka kb (F, S, n) = (F ++ [soI kd ka kb 0 F], S ++ [soI kd ka kb 1 S], n) from by unfold sbStep; rw [if_neg hk1]; rfl)
        rw [HSX.out] at HST
        clear HSX hgo hk1
        have V3 := hbel.alloc hbel.size (.cells #[.int .i64 kd, .int .i64 ka, .int .i64 kb] 98)
        have p1 := o1.alloc (.cells #[.int .i64 kd, .int .i64 ka, .int .i64 kb] 98)
        have p2 := o2.alloc (.cells #[.int .i64 kd, .int .i64 ka, .int .i64 kb] 98)
        have p3 := o3.alloc (.cells #[.int .i64 kd, .int .i64 ka, .int .i64 kb] 98)
        have Bg : Blk (wr.alloc (.cells #[.int .i64 kd, .int .i64 ka, .int .i64 kb] 98)) wr.heap.size 98 #[.int .i64 kd, .int .i64 ka, .int .i64 kb] := Blk.new wr _ _
        clear hbel o1 o2 o3
        go_wp2_with fail
        generalize (wr.alloc (.cells #[.int .i64 kd, .int .i64 ka, .int .i64 kb] 98)) = w3 at *
        clear c0 c1' c2'
        have y0 : w3.cell? ⟨wr.heap.size, 0, none⟩ = some (.int .i64 kd) := Bg.cell 0
        have y1 : w3.cell? ⟨wr.heap.size, 1, none⟩ = some (.int .i64 ka) := Bg.cell 1
        have y2 : w3.cell? ⟨wr.heap.size, 2, none⟩ = some (.int .i64 kb) := Bg.cell 2
        refine (sbLocal_any kd ka kb 0 _ N c1 F _ p1.ints HGO.out (by omega)).mono ?_; rintro e w4 ⟨rfl, u4⟩
        replace p1 := p1.below u4
        replace p2 := p2.below u4
        replace p3 := p3.below u4
        have V5 := V3.trans (u4.mono V3.size)
        replace Bg := Bg.below u4
        clear y0 y1 y2 u4 V3 f1
        generalize soI kd ka kb 0 F = va at *
        go_wp2_with (at_builtin; refine wpList_appJ _ rfl _ _ rfl w0.heap.size _ N c1 F rfl (p1.alloc _) _ 1 1 [va] rfl (Ints.lit1 _ _ _) (by omega) (by have := V5.size; simp; omega) ?_)
        intro a6 c6 w6 o6 v6 g6 m6
        have X6 := Only.of_grown g6
        have hgn1 : wr.heap.size ∉ foot a1 c1 := fun hq => by have := (QR1.out _ hq).2; omega
        have F12 := Lib.hid (m6.disj D12.out (fun q hq => by have := (p2.feet q hq).2; simp; omega))
        have F13 := Lib.hid (m6.disj D13.out (fun q hq => by have := (p3.feet q hq).2; simp; omega))
        have q2 := (p2.alloc (.cells #[.int .i64 va] 3)).only X6 D12.out.symm
        have q3 := (p3.alloc (.cells #[.int .i64 va] 3)).only X6 D13.out.symm
        have Bg6 := (Bg.alloc (.cells #[.int .i64 va] 3)).only X6 hgn1
        have V6 := (V5.alloc V5.size (.cells #[.int .i64 va] 3)).trans v6
        clear p1 p2 p3 V5 g6 m6 v6 X6 Bg hgn1
        have y0 : w6.cell? ⟨wr.heap.size, 0, none⟩ = some (.int .i64 kd) := Bg6.cell 0
        have y1 : w6.cell? ⟨wr.heap.size, 1, none⟩ = some (.int .i64 ka) := Bg6.cell 1
        have y2 : w6.cell? ⟨wr.heap.size, 2, none⟩ = some (.int .i64 kb) := Bg6.cell 2
        go_wp2_with fail
        refine (sbLocal_any kd ka kb 1 _ N c2 S _ q2.ints HGO.out (by omega)).mono ?_; rintro e w8 ⟨rfl, u8⟩
        replace o6 := o6.below u8
        replace q2 := q2.below u8
        replace q3 := q3.below u8
        replace V6 := V6.trans (u8.mono V6.size)
        clear y0 y1 y2 u8 Bg6
        generalize soI kd ka kb 1 S = vb at *
        go_wp2_with (at_builtin; refine wpList_appJ _ rfl _ _ rfl w0.heap.size _ N c2 S rfl (q2.alloc _) _ 1 1 [vb] rfl (Ints.lit1 _ _ _) (by omega) (by have := V6.size; simp; omega) ?_)
        intro a7 c7 w11 o11 v11 g11 m11
        have X11 := Only.of_grown g11
        have z1 := (o6.alloc (.cells #[.int .i64 vb] 3)).only X11 F12.out
        have z3 := (q3.alloc (.cells #[.int .i64 vb] 3)).only X11 D23.out.symm
        have G12 := (m11.disj F12.out.symm (fun q hq => by have := (o6.feet q hq).2; simp; omega)).symm
        have G23 := m11.disj D23.out (fun q hq => by have := (q3.feet q hq).2; simp; omega)
        have V11 := (V6.alloc V6.size (.cells #[.int .i64 vb] 3)).trans v11
        have HZ := Lib.hid (And.intro G12 (And.intro F13.out G23))
        clear o6 q2 q3 V6 g11 m11 v11 X11 G12 G23 F12 F13
        go_wp2
        go_roundw
        case rel => exact ⟨k + 1, by omega, by go_num, V11, _, _, _, _, _, _, _, by rw [show i0 + i1 + (k + 1) = N + 1 by have := HN.out; omega], by rw [show i0 + i1 + (k + 1) = N + 1 by have := HN.out; omega], by rw [HST.out], by rw [HST.out, show i0 + i1 + (k + 1) = N + 1 by have := HN.out; omega]; exact z1, by rw [HST.out, show i0 + i1 + (k + 1) = N + 1 by have := HN.out; omega]; exact o11, by rw [HST.out]; exact z3, HZ.out.1, HZ.out.2.1, HZ.out.2.2⟩
        case measure => simp [intOf]; omega
    · obtain rfl : k = gn := by omega
      go_wp2
      go_ret3
      exact ⟨_, _, _, _, _, _, _, rfl, o1.lower (Nat.le_of_lt hz0), o2.lower (Nat.le_of_lt hz0), D12.out, V0.trans (hbel.mono V0.size)⟩
end Go.Proofs.YtchmakepglaijaaGreat
namespace Go.Proofs.YtchmakepglaijaaGreat
open Go.RowKit
set_option maxHeartbeats 8000000 in
set_option maxRecDepth 100000 in
theorem choose_any (s : Int) (xa : Option Addr) (n xc : Nat) (X : List Int) (ya : Option Addr) (m yc : Nat) (Y : List Int) {oa : Option Addr} {on oc : Nat} (b g : Nat) (i0 i1 : Int) (G : List Int) (F : List Nat) (w : World) (h : Mk 94 w b g i0 i1 G F oa on oc) (hb : b ≤ w.heap.size) (h0 : 0 ≤ i0 ∧ i0 ≤ 1000) (h1 : 0 ≤ i1 ∧ i1 ≤ 1000) (dx : IntD w xa n xc X F) (dy : IntD w ya m yc Y F) (hnm : n ≤ m) (hn : n ≤ 1000) (hl : G.length ≤ 20000) :
    Calls Tryz.prog 93 #[.pointer (some ⟨g, 0, none⟩), .int .i64 s, .slice xa n xc, .slice ya m yc] w fun e w' => ∃ a1 c1 F', e = .returned (.slice a1 n c1) ∧ Own w' w.heap.size a1 n c1 (chG (i0 + i1) s X Y G n).2 ∧ Disj (foot a1 c1) F' ∧ Mk 94 w' b g i0 i1 (chG (i0 + i1) s X Y G n).1 F' oa on oc ∧ Stp F w F' w' := by
  have hle := dx.ints.le
  go_enter Tryz.func93, Tryz.ntmps93
  go_wp2
  go_loopw [9, 15] (fun u v wr => ∃ k F1, k ≤ n ∧ v = .int .i64 (k : Nat) ∧ (∃ a1 c1, u = .slice a1 k c1 ∧ Own wr w.heap.size a1 k c1 (chG (i0 + i1) s X Y G k).2 ∧ Disj (foot a1 c1) F1) ∧ Mk 94 wr b g i0 i1 (chG (i0 + i1) s X Y G k).1 F1 oa on oc ∧ Stp F w F1 wr) (fun _ v _ => n - (intOf v).toNat)
  case atStart => exact ⟨0, F, Nat.zero_le _, rfl, ⟨_, _, rfl, Own.nil0 _ _ _, foot_nil _ _⟩, h.alloc _, (Stp.refl _ _).alloc _⟩
  case round =>
    obtain ⟨k, F1, hk, rfl, ⟨a1, c1, rfl, own, dd⟩, M1, S1⟩ := hrel
    by_cases hlt : k < n
    · have hx : k < n := hlt
      have hy : k < m := by omega
      have hG := (chG_len (i0 + i1) s X Y G k).1
      have HS := Lib.hid (chG_succ (i0 + i1) s X Y G k)
      obtain ⟨gx, ox, hgx, _⟩ := dx.ints.at k hx
      obtain ⟨gy, oy, hgy, _⟩ := dy.ints.at k hy
      subst hgx hgy
      obtain ⟨x, ex⟩ : ∃ x, x = X.getD k 0 := ⟨_, rfl⟩
      obtain ⟨y, ey⟩ : ∃ y, y = Y.getD k 0 := ⟨_, rfl⟩
      rw [← ex, ← ey] at HS
      have Ex := Lib.hid ex
      have Ey := Lib.hid ey
      clear ex ey
      obtain ⟨⟨G1, o1⟩, hr⟩ : ∃ r, r = chG (i0 + i1) s X Y G k := ⟨_, rfl⟩
      rw [← hr] at HS hG M1 own
      clear hr
      have cx := (dx.stp S1).ints.cellsAt k hx
      rw [← Ex.out] at cx
      have cy := (dy.stp S1).ints.cellsAt k hy
      rw [← Ey.out] at cy
      go_wp2
      have Md0 := M1.drew
      go_region_held3 (fun W => W.cell? ⟨gx, ox + k, none⟩ = some (.int .i64 x) ∧ W.cell? ⟨gy, oy + k, none⟩ = some (.int .i64 y))
        (first | go_keep | exact (by have fx := ((dx.stp (S1.drew.trans (sm1.trans sm2))).ints.cellsAt k hx); have fy := ((dy.stp (S1.drew.trans (sm1.trans sm2))).ints.cellsAt k hy); rw [← Ex.out] at fx; rw [← Ey.out] at fy; exact ⟨fx, fy⟩) | exact (by have fx := ((dx.stp (S1.drew.trans sm1)).ints.cellsAt k hx); have fy := ((dy.stp (S1.drew.trans sm1)).ints.cellsAt k hy); rw [← Ex.out] at fx; rw [← Ey.out] at fy; exact ⟨fx, fy⟩))
        (first | (go_at_call 127; refine (xor_any _ _ b g i0 i1 _ F1 _ Md0 (Nat.le_trans hb S1.size) h0 h1 (by (try simp only [gt_len]); omega)).mono ?_; rintro e wm1 ⟨rfl, Fm1, Mm1, sm1⟩) | (go_at_call 128; refine (and_any _ _ b g i0 i1 _ Fm1 _ Mm1 (Nat.le_trans hb (S1.drew.trans sm1).size) h0 h1 (by (try simp only [gt_len]); omega)).mono ?_; rintro e wm2 ⟨rfl, Fm2, Mm2, sm2⟩))
      all_goals have st2 : Stp F1 wr.drew Fm2 wm2 := (sm1.trans sm2)
      all_goals have Sm2 := S1.drew.trans st2
      all_goals obtain ⟨om2, dm2⟩ := (own.below ((Below.refl _ _).drew)).stp dd st2
      all_goals clear own dd
      all_goals clear st2 M1 S1 Md0
      clear cx cy
      have cy := (dy.stp Sm2).ints.cellsAt k hy
      rw [← Ey.out] at cy
      go_wp2_with fail
      refine (xor_any _ _ b g i0 i1 _ Fm2 _ Mm2 (Nat.le_trans hb Sm2.size) h0 h1 (by (try simp only [gt_len]); omega)).mono ?_; rintro e wm3 ⟨rfl, Fm3, Mm3, sm3⟩
      have Sm3 := Sm2.trans sm3
      obtain ⟨om3, dm3⟩ := om2.stp dm2 sm3
      clear Mm2 Sm2 sm3 om2 dm2
      go_wp2_with (at_builtin; refine wpList_appJ _ rfl _ _ rfl w.heap.size a1 k c1 o1 rfl (om3.alloc _) _ 1 1 [_] rfl (Ints.lit1 _ _ _) (by omega) (by have := Sm3.size; simp; omega) ?_)
      intro am4 cm4 wm4 om4 _ gm4 mm4
      have Om4 := Only.of_grown gm4
      have Mm4 := Mk.only (Mk.alloc Mm3 _) Om4 dm3
      have Sm4 := Stp.onto (Stp.alloc Sm3 _) Om4 (fun k hk => (om3.feet k hk).1)
      have dm4 : Disj (foot am4 cm4) Fm3 := mm4.disj dm3 (fun k hk => by have := (Mm3.feet k hk).2; simp; omega)
      clear Mm3 Sm3 om3 dm3 Om4 gm4 mm4
      go_wp2
      go_roundw
      case rel => exact ⟨k + 1, Fm3, by omega, by go_num, ⟨_, _, rfl, by rw [HS.out]; exact om4, dm4⟩, by rw [HS.out]; exact Mm4, Sm4⟩
      case measure => simp [intOf]; omega
    · obtain rfl : k = n := by omega
      go_wp2
      go_ret
      exact ⟨_, _, F1, rfl, own, dd, M1, S1⟩
set_option maxHeartbeats 8000000 in
set_option maxRecDepth 100000 in
theorem gdPick_any (s : Int) (xa : Option Addr) (n xc : Nat) (X : List Int) (ya : Option Addr) (m yc : Nat) (Y : List Int) {oa : Option Addr} {on oc : Nat} (b g : Nat) (i0 i1 : Int) (G : List Int) (F : List Nat) (w : World) (h : Mk 110 w b g i0 i1 G F oa on oc) (hb : b ≤ w.heap.size) (h0 : 0 ≤ i0 ∧ i0 ≤ 1000) (h1 : 0 ≤ i1 ∧ i1 ≤ 1000) (dx : IntD w xa n xc X F) (dy : IntD w ya m yc Y F) (hnm : n ≤ m) (hn : n ≤ 1000) (hl : G.length ≤ 20000) :
    Calls Tryz.prog 104 #[.pointer (some ⟨g, 0, none⟩), .int .i64 s, .slice xa n xc, .slice ya m yc] w fun e w' => ∃ a1 c1 F', e = .returned (.slice a1 n c1) ∧ Own w' w.heap.size a1 n c1 (chG (i0 + i1) s X Y G n).2 ∧ Disj (foot a1 c1) F' ∧ Mk 110 w' b g i0 i1 (chG (i0 + i1) s X Y G n).1 F' oa on oc ∧ Stp F w F' w' := by
  have hle := dx.ints.le
  go_enter Tryz.func104, Tryz.ntmps104
  go_wp2
  go_loopw [9, 16] (fun u v wr => ∃ k F1, k ≤ n ∧ v = .int .i64 (k : Nat) ∧ (∃ a1 c1, u = .slice a1 k c1 ∧ Own wr w.heap.size a1 k c1 (chG (i0 + i1) s X Y G k).2 ∧ Disj (foot a1 c1) F1) ∧ Mk 110 wr b g i0 i1 (chG (i0 + i1) s X Y G k).1 F1 oa on oc ∧ Stp F w F1 wr) (fun _ v _ => n - (intOf v).toNat)
  case atStart => exact ⟨0, F, Nat.zero_le _, rfl, ⟨_, _, rfl, Own.nil0 _ _ _, foot_nil _ _⟩, h, Stp.refl _ _⟩
  case round =>
    obtain ⟨k, F1, hk, rfl, ⟨a1, c1, rfl, own, dd⟩, M1, S1⟩ := hrel
    by_cases hlt : k < n
    · have hx : k < n := hlt
      have hy : k < m := by omega
      have hG := (chG_len (i0 + i1) s X Y G k).1
      have HS := Lib.hid (chG_succ (i0 + i1) s X Y G k)
      obtain ⟨gx, ox, hgx, _⟩ := dx.ints.at k hx
      obtain ⟨gy, oy, hgy, _⟩ := dy.ints.at k hy
      subst hgx hgy
      obtain ⟨x, ex⟩ : ∃ x, x = X.getD k 0 := ⟨_, rfl⟩
      obtain ⟨y, ey⟩ : ∃ y, y = Y.getD k 0 := ⟨_, rfl⟩
      rw [← ex, ← ey] at HS
      have Ex := Lib.hid ex
      have Ey := Lib.hid ey
      clear ex ey
      obtain ⟨⟨G1, o1⟩, hr⟩ : ∃ r, r = chG (i0 + i1) s X Y G k := ⟨_, rfl⟩
      rw [← hr] at HS hG M1 own
      clear hr
      have cx := (dx.stp S1).ints.cellsAt k hx
      rw [← Ex.out] at cx
      have cy := (dy.stp S1).ints.cellsAt k hy
      rw [← Ey.out] at cy
      go_wp2_with fail
      refine (sxor_any _ _ b g i0 i1 _ F1 _ M1 (Nat.le_trans hb S1.size) h0 h1 (by (try simp only [gt_len]); omega)).mono ?_; rintro e wm1 ⟨rfl, Fm1, Mm1, sm1⟩
      have Sm1 := S1.trans sm1
      obtain ⟨om1, dm1⟩ := own.stp dd sm1
      clear M1 S1 sm1 own dd
      clear cx cy
      go_wp2_with fail
      refine (sand_any _ _ b g i0 i1 _ Fm1 _ Mm1 (Nat.le_trans hb Sm1.size) h0 h1 (by (try simp only [gt_len]); omega)).mono ?_; rintro e wm2 ⟨rfl, Fm2, Mm2, sm2⟩
      have Sm2 := Sm1.trans sm2
      obtain ⟨om2, dm2⟩ := om1.stp dm1 sm2
      clear Mm1 Sm1 sm2 om1 dm1
      have cy := (dy.stp Sm2).ints.cellsAt k hy
      rw [← Ey.out] at cy
      go_wp2_with fail
      refine (sxor_any _ _ b g i0 i1 _ Fm2 _ Mm2 (Nat.le_trans hb Sm2.size) h0 h1 (by (try simp only [gt_len]); omega)).mono ?_; rintro e wm3 ⟨rfl, Fm3, Mm3, sm3⟩
      have Sm3 := Sm2.trans sm3
      obtain ⟨om3, dm3⟩ := om2.stp dm2 sm3
      clear Mm2 Sm2 sm3 om2 dm2
      go_wp2_with (at_builtin; refine wpList_appJ _ rfl _ _ rfl w.heap.size a1 k c1 o1 rfl (om3.alloc _) _ 1 1 [_] rfl (Ints.lit1 _ _ _) (by omega) (by have := Sm3.size; simp; omega) ?_)
      intro am4 cm4 wm4 om4 _ gm4 mm4
      have Om4 := Only.of_grown gm4
      have Mm4 := Mk.only (Mk.alloc Mm3 _) Om4 dm3
      have Sm4 := Stp.onto (Stp.alloc Sm3 _) Om4 (fun k hk => (om3.feet k hk).1)
      have dm4 : Disj (foot am4 cm4) Fm3 := mm4.disj dm3 (fun k hk => by have := (Mm3.feet k hk).2; simp; omega)
      clear Mm3 Sm3 om3 dm3 Om4 gm4 mm4
      go_wp2
      go_roundw
      case rel => exact ⟨k + 1, Fm3, by omega, by go_num, ⟨_, _, rfl, by rw [HS.out]; exact om4, dm4⟩, by rw [HS.out]; exact Mm4, Sm4⟩
      case measure => simp [intOf]; omega
    · obtain rfl : k = n := by omega
      go_wp2
      go_ret
      exact ⟨_, _, F1, rfl, own, dd, M1, S1⟩
end Go.Proofs.YtchmakepglaijaaGreat
