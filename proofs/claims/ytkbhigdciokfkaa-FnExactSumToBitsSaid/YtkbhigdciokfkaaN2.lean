/- Further lemmas and walks that the claim's proof rests on, part 2. -/
import Derived.Deep.DeepCutAuto
import Derived.Test.YtkbhigdciokfkaaK1
import Derived.Test.YtkbhigdciokfkaaK2
import Derived.Test.YtkbhigdciokfkaaK3
import Derived.Test.YtkbhigdciokfkaaK4
import Derived.Test.YtkbhigdciokfkaaK5
import Derived.Test.YtkbhigdciokfkaaN1
namespace Go.Proofs.Ytkbhigdciokfkaa
open Go.RowKit
set_option maxHeartbeats 16000000 in
set_option maxRecDepth 100000 in
theorem sbRun_any (i0 i1 : Nat) (ga : Option Addr) (gn gc : Nat) (G : List Int) (oa : Option Addr) (on oc : Nat) (key : Int) (aa : Option Addr) (ac : Nat) (A : List Int) (ba : Option Addr) (bc : Nat) (B : List Int) (w : World) (hG : Flat 3 w ga gn gc G) (hA : Ints w aa i0 ac A) (hB : Ints w ba i1 bc B)
    (k0 : 0 ≤ key) (k1 : key ≤ 1000000000) (h0 : i0 ≤ 1000) (h1 : i1 ≤ 1000) (hgn : gn ≤ 1000) (bA : Bt A) (bB : Bt B) (hgk : ∀ j, j < gn → gbB (G.getD (j * 3) 0) (G.getD (j * 3 + 1) 0) (G.getD (j * 3 + 2) 0) ((i0 + i1 + j : Nat) : Int) = true) :
    Calls Try.prog 66 #[.agg #[.int .i64 i0, .int .i64 i1, .slice ga gn gc, .slice oa on oc], .int .i64 key, .slice aa i0 ac, .slice ba i1 bc] w fun e w' => ∃ a1 c1 a2 c2 a3 n3 c3, e = .returned (.tuple #[.slice a1 (i0 + i1 + gn) c1, .slice a2 (i0 + i1 + gn) c2, .slice a3 n3 c3]) ∧
      Own w' w.heap.size a1 (i0 + i1 + gn) c1 (sbR key G (siF key A i0 i1) (siS key B i0 i1) gn).1 ∧ Own w' w.heap.size a2 (i0 + i1 + gn) c2 (sbR key G (siF key A i0 i1) (siS key B i0 i1) gn).2.1 ∧ Disj (foot a1 c1) (foot a2 c2) ∧ Below w.heap.size w w' := by
  have HOK := Lib.hid (sbR_ok key G (F0 := siF key A i0 i1) (S0 := siS key B i0 i1) ⟨siF_len _ _ _ _, siS_len _ _ _ _, siF_bits bA _ _, siS_bits bB _ _⟩)
  have HGK := Lib.hid (fun j hj => gb_cases (hgk j hj))
  clear hgk bA bB
  have hgl := hG.le
  obtain ⟨F0, hF0⟩ : ∃ x, siF key A i0 i1 = x := ⟨_, rfl⟩
  obtain ⟨S0, hS0⟩ : ∃ x, siS key B i0 i1 = x := ⟨_, rfl⟩
  rw [hF0, hS0] at HOK ⊢
  have HF0 := Lib.hid hF0
  have HS0 := Lib.hid hS0
  clear hF0 hS0
  have V0 : Below w.heap.size w (w.alloc (.cells #[.int .i64 i0, .int .i64 i1, .slice ga gn gc, .slice oa on oc] 25)) := (Below.refl _ _).alloc (Nat.le_refl _) _
  have B0 : Blk (w.alloc (.cells #[.int .i64 i0, .int .i64 i1, .slice ga gn gc, .slice oa on oc] 25)) w.heap.size 25 #[.int .i64 i0, .int .i64 i1, .slice ga gn gc, .slice oa on oc] := Blk.new w _ _
  go_enter Try.func66, Try.ntmps66
  go_wp2_with fail
  generalize (w.alloc (.cells #[.int .i64 i0, .int .i64 i1, .slice ga gn gc, .slice oa on oc] 25)) = w0 at *
  refine (sbInputs_any i0 i1 _ _ _ _ _ _ key _ _ A _ _ B _ (hA.below V0) (hB.below V0) k0 k1 h0 h1).mono ?_; rintro e w1 ⟨a1, c1, a2, c2, rfl, o1, o2, d12, u1⟩
  rw [HF0.out] at o1
  rw [HS0.out] at o2
  have x2 : w1.cell? ⟨w.heap.size, 2, none⟩ = some (.slice ga gn gc) := (B0.below u1).cell 2
  have hz0 := B0.lt
  have V1 := u1
  have p1 := o1
  have p2 := o2
  clear o1 o2 u1
  go_wp2
  clear x2
  go_loopw [31, 11, 12, 13] (fun v f s o wr => ∃ k : Nat, k ≤ gn ∧ v = .int .i64 k ∧ Below w0.heap.size w0 wr ∧ ∃ a1 c1 a2 c2 a3 c3 xs, f = .slice a1 (i0 + i1 + k) c1 ∧ s = .slice a2 (i0 + i1 + k) c2 ∧ o = .slice a3 (sbR key G F0 S0 k).2.2 c3 ∧ Own wr w0.heap.size a1 (i0 + i1 + k) c1 (sbR key G F0 S0 k).1 ∧ Own wr w0.heap.size a2 (i0 + i1 + k) c2 (sbR key G F0 S0 k).2.1 ∧ OwnF 3 eOpened wr w0.heap.size a3 (sbR key G F0 S0 k).2.2 c3 xs ∧ Disj (foot a1 c1) (foot a2 c2) ∧ Disj (foot a1 c1) (foot a3 c3) ∧ Disj (foot a2 c2) (foot a3 c3)) (fun v _ _ _ _ => gn - (intOf v).toNat)
  case atStart => exact ⟨0, Nat.zero_le _, rfl, V1, _, _, _, _, none, 0, [], rfl, rfl, rfl, p1, p2, OwnC.nil0 _ _ _ _ _, d12, (foot_nil _ _).symm, (foot_nil _ _).symm⟩
  case round =>
    obtain ⟨k, hkn, rfl, hbel, a1, c1, a2, c2, a3, c3, xs, rfl, rfl, rfl, o1, o2, o3, e12, e13, e23⟩ := hrel
    have D12 := Lib.hid e12
    have D13 := Lib.hid e13
    have D23 := Lib.hid e23
    clear V1 p1 p2 d12 e12 e13 e23
    by_cases hlt : k < gn
    · obtain ⟨ok, hn⟩ := HOK.out k
      rcases hR : sbR key G F0 S0 k with ⟨F, S, n⟩
      rw [hR] at o1 o2 o3 ok hn
      have HST : Hid (sbR key G F0 S0 (k + 1) = sbStep key (G.getD (k * 3) 0) (G.getD (k * 3 + 1) 0) (G.getD (k * 3 + 2) 0) (F, S, n)) := Lib.hid (by rw [sbR_succ, hR])
      clear hR
      obtain ⟨lf, ls, bf, bs⟩ := ok
      dsimp only at lf ls bf bs o1 o2 o3 hn ⊢
      have HLF := Lib.hid lf
      have HLS := Lib.hid ls
      have HBF := Lib.hid bf
      have HBS := Lib.hid bs
      clear lf ls bf bs
      obtain ⟨g, o, rfl, hc⟩ := (hG.below (V0.trans (hbel.mono V0.size))).at (by omega)
      have c0 : wr.cell? ⟨g, o + k * 3, none⟩ = some (.int .i64 (G.getD (k * 3) 0)) := hc (k * 3) (by omega)
      have c1' : wr.cell? ⟨g, o + k * 3 + 1, none⟩ = some (.int .i64 (G.getD (k * 3 + 1) 0)) := by have := hc (k * 3 + 1) (by omega); simpa only [Nat.add_assoc] using this
      have c2' : wr.cell? ⟨g, o + k * 3 + 2, none⟩ = some (.int .i64 (G.getD (k * 3 + 2) 0)) := by have := hc (k * 3 + 2) (by omega); simpa only [Nat.add_assoc] using this
      have HG := Lib.hid (HGK.out k hlt)
      generalize G.getD (k * 3) 0 = kd at *
      generalize G.getD (k * 3 + 1) 0 = ka at *
      generalize G.getD (k * 3 + 2) 0 = kb at *
      clear hc
      obtain ⟨N, hN⟩ : ∃ x, x = i0 + i1 + k := ⟨_, rfl⟩
      rw [← hN] at o1 o2 HLF HLS HG
      try rw [← hN]
      have HN := Lib.hid hN
      have hN3 : N ≤ 3000 := by omega
      clear hN
      by_cases hk1 : kd = 1
      · subst hk1
        have hab : (0 ≤ ka ∧ ka < N) ∧ (0 ≤ kb ∧ kb < N) := by have := HG.out; omega
        obtain ⟨⟨ka0, ka1⟩, kb0, kb1⟩ := hab
        obtain ⟨ja, rfl⟩ : ∃ x : Nat, ka = x := ⟨ka.toNat, by omega⟩
        obtain ⟨jb, rfl⟩ : ∃ x : Nat, kb = x := ⟨kb.toNat, by omega⟩
        have hja : ja < N := by omega
        have hjb : jb < N := by omega
        clear ka0 ka1 kb0 kb1
        have V3 := hbel.alloc hbel.size (.cells #[.int .i64 1, .int .i64 (ja : Int), .int .i64 (jb : Int)] 87)
        have p1 := o1.alloc (.cells #[.int .i64 1, .int .i64 (ja : Int), .int .i64 (jb : Int)] 87)
        have p2 := o2.alloc (.cells #[.int .i64 1, .int .i64 (ja : Int), .int .i64 (jb : Int)] 87)
        have p3 := o3.alloc (.cells #[.int .i64 1, .int .i64 (ja : Int), .int .i64 (jb : Int)] 87)
        have Bg : Blk (wr.alloc (.cells #[.int .i64 1, .int .i64 (ja : Int), .int .i64 (jb : Int)] 87)) wr.heap.size 87 #[.int .i64 1, .int .i64 (ja : Int), .int .i64 (jb : Int)] := Blk.new wr _ _
        have Q1 := Lib.hid p1.feet
        have Q2 := Lib.hid p2.feet
        have Q3 := Lib.hid p3.feet
        clear hbel o1 o2 o3
        go_wp2_with fail
        generalize (wr.alloc (.cells #[.int .i64 1, .int .i64 (ja : Int), .int .i64 (jb : Int)] 87)) = w3 at *
        clear c0 c1' c2'
        refine (sbTriple_any key n _ k0 k1 (by omega) (by omega)).mono ?_; rintro e w4 ⟨ta, tc, ua, uc, rfl, it, iu, u4⟩
        have q1 := p1.below u4
        have q2 := p2.below u4
        have q3 := p3.below u4
        have V4 := V3.trans (u4.mono V3.size)
        have Bg4 := Bg.below u4
        clear p1 p2 p3 V3 Bg u4
        obtain ⟨gF, rfl, _, _, fa, _, _⟩ := q1.at ja hja
        obtain ⟨_, E, _, _, fb, _, _⟩ := q1.at jb hjb
        cases E
        obtain ⟨gS, rfl, _, _, sa, _, _⟩ := q2.at ja hja
        obtain ⟨_, E, _, _, sb, _, _⟩ := q2.at jb hjb
        cases E
        obtain ⟨gt, ot, rfl, t0⟩ := it.1.at 0 (by omega)
        obtain ⟨_, _, E, t1⟩ := it.1.at 1 (by omega)
        cases E
        obtain ⟨gu, ou, rfl, s0⟩ := iu.1.at 0 (by omega)
        obtain ⟨_, _, E, s1⟩ := iu.1.at 1 (by omega)
        cases E
        rw [Nat.add_zero] at t0 s0
        have hd := sbDd_bit key n HBF.out HBS.out (ja : Int) 0
        have he := sbDd_bit key n HBF.out HBS.out (jb : Int) 1
        have HD : Hid (sbDd key n F S (ja : Int) 0 = xorI (xorI (xorI (F.getD ja 0) (S.getD ja 0)) ((tr1 key n).getD 0 0)) ((tr2 key n).getD 0 0)) := rfl
        have HE : Hid (sbDd key n F S (jb : Int) 1 = xorI (xorI (xorI (F.getD jb 0) (S.getD jb 0)) ((tr1 key n).getD 1 0)) ((tr2 key n).getD 1 0)) := rfl
        have HSX := Lib.hid (show sbStep key 1 (ja : Int) (jb : Int) (F, S, n) = (F ++ [anI 0 (tr1 key n) (sbDd key n F S (ja : Int) 0) (sbDd key n F S (jb : Int) 1)], S ++ [anI 1 (tr2 key n) (sbDd key n F S (ja : Int) 0) (sbDd key n F S (jb : Int) 1)], n + 1) from rfl)
        rw [HSX.out] at HST
        clear HSX
        have HTB := Lib.hid (tr1_bits key n)
        have HUB := Lib.hid (tr2_bits key n)
        generalize sbDd key n F S (ja : Int) 0 = d at *
        generalize sbDd key n F S (jb : Int) 1 = e0 at *
        generalize tr1 key n = T at *
        generalize tr2 key n = U at *
        generalize F.getD ja 0 = X0 at *
        generalize F.getD jb 0 = Y0 at *
        generalize S.getD ja 0 = X1 at *
        generalize S.getD jb 0 = Y1 at *
        generalize T.getD 0 0 = T0 at *
        generalize T.getD 1 0 = T1 at *
        generalize U.getD 0 0 = U0 at *
        generalize U.getD 1 0 = U1 at *
        have y00 : bits BinOp.xor IntKind.i64 X0 X1 = xorI X0 X1 := rfl
        have y01 : bits BinOp.xor IntKind.i64 (xorI X0 X1) T0 = xorI (xorI X0 X1) T0 := rfl
        have y02 : bits BinOp.xor IntKind.i64 (xorI (xorI X0 X1) T0) U0 = d := HD.out.symm
        have y10 : bits BinOp.xor IntKind.i64 Y0 Y1 = xorI Y0 Y1 := rfl
        have y11 : bits BinOp.xor IntKind.i64 (xorI Y0 Y1) T1 = xorI (xorI Y0 Y1) T1 := rfl
        have y12 : bits BinOp.xor IntKind.i64 (xorI (xorI Y0 Y1) T1) U1 = e0 := HE.out.symm
        have ia0 : (ja : Int) < (N : Int) := by omega
        have ib0 : (jb : Int) < (N : Int) := by omega
        have gc1 : w4.cell? ⟨wr.heap.size, 1, none⟩ = some (.int .i64 ja) := Bg4.cell 1
        have gc2 : w4.cell? ⟨wr.heap.size, 2, none⟩ = some (.int .i64 jb) := Bg4.cell 2
        clear Bg4
        go_wp2_with fail
        go_quiet (fail)
        go_wp2_with fail
        replace q1 := q1.drewN nq
        replace q2 := q2.drewN nq
        replace q3 := q3.drewN nq
        replace V4 := V4.trans ((below_of_drewN (w := w4) nq).mono V4.size)
        replace it := it.below (below_of_drewN nq)
        replace iu := iu.below (below_of_drewN nq)
        replace fb := keepC (below_of_drewN nq) fb
        replace sb := keepC (below_of_drewN nq) sb
        replace t1 := keepC (below_of_drewN nq) t1
        replace s1 := keepC (below_of_drewN nq) s1
        replace gc2 := keepC (below_of_drewN nq) gc2
        clear fa sa t0 s0 gc1 y00 y01 y02 ia0
        generalize w4.drewN nq = w5 at *
        go_quiet (fail)
        obtain ⟨w6, hw6⟩ : ∃ x, x = w5.drewN nq := ⟨_, rfl⟩
        have u6 : Below w5.heap.size w5 w6 := by rw [hw6]; exact below_of_drewN nq
        rw [← hw6]
        clear hw6
        replace q1 := q1.below u6
        replace q2 := q2.below u6
        replace q3 := q3.below u6
        replace V4 := V4.trans (u6.mono V4.size)
        replace it := it.below u6
        replace iu := iu.below u6
        clear fb sb t1 s1 gc2 y10 y11 y12 ib0 u6
        go_wp2_with (at_builtin; refine wpList_appO _ rfl _ _ rfl w0.heap.size a3 n c3 xs rfl (q3.alloc _) _ 1 (k : Int) d e0 rfl (RowC.opened _ _ _ _ _) (by omega) (by have := V4.size; simp; omega) ?_)
        intro a5 c5 w7 o7 g7 m7
        have X7 := Only.of_grown g7
        have r1 := (q1.alloc (.cells #[.int .i64 (k : Int), .int .i64 d, .int .i64 e0] 97)).only X7 D13.out
        have r2 := (q2.alloc (.cells #[.int .i64 (k : Int), .int .i64 d, .int .i64 e0] 97)).only X7 D23.out
        have E13 := Lib.hid ((m7.disj D13.out.symm (fun q hq => by have := (q1.feet q hq).2; simp; omega)).symm)
        have E23 := Lib.hid ((m7.disj D23.out.symm (fun q hq => by have := (q2.feet q hq).2; simp; omega)).symm)
        have it7 := (it.below ((Below.refl _ _).alloc (Nat.le_refl _) (.cells #[.int .i64 (k : Int), .int .i64 d, .int .i64 e0] 97))).only X7 (fun q hq => (Q3.out q hq).2)
        have iu7 := (iu.below ((Below.refl _ _).alloc (Nat.le_refl _) (.cells #[.int .i64 (k : Int), .int .i64 d, .int .i64 e0] 97))).only X7 (fun q hq => (Q3.out q hq).2)
        have V7 := (V4.alloc V4.size (.cells #[.int .i64 (k : Int), .int .i64 d, .int .i64 e0] 97)).trans (X7.below (by have := V4.size; simp; omega) (fun q hq => (q3.feet q hq).1))
        have S7 := V7.size
        clear q1 q2 q3 it iu V4 g7 m7 X7
        go_wp2_with fail
        refine (sbAnd_any 0 d e0 _ _ T _ it7.1 (by omega)).mono ?_; rintro e w8 ⟨rfl, hq0⟩
        have u8 := below_of_quiet hq0
        clear hq0
        have s1 := r1.below u8
        have s2 := r2.below u8
        have s3 := o7.below u8
        have iu8 := iu7.below u8
        have V8 := V7.trans (u8.mono V7.size)
        clear r1 r2 o7 it7 iu7 V7 u8
        generalize anI 0 T d e0 = va at *
        go_wp2_with (at_builtin; refine wpList_appJ _ rfl _ _ rfl w0.heap.size _ N c1 F rfl (s1.alloc _) _ 1 1 [va] rfl (Ints.lit1 _ _ _) (by omega) (by have := V8.size; simp; omega) ?_)
        intro a6 c6 w9 o9 v9 g9 m9
        have X9 := Only.of_grown g9
        have s2' := s2
        have s3' := s3
        replace s2 := (s2.alloc (.cells #[.int .i64 va] 3)).only X9 D12.out.symm
        replace s3 := (s3.alloc (.cells #[.int .i64 va] 3)).only X9 E13.out.symm
        have iu9 := (iu8.below ((Below.refl _ _).alloc (Nat.le_refl _) (.cells #[.int .i64 va] 3))).only X9 (fun q hq => (Q1.out q hq).2)
        have F12 := Lib.hid (m9.disj D12.out (fun q hq => by have := (s2'.feet q hq).2; simp; omega))
        have F13 := Lib.hid (m9.disj E13.out (fun q hq => by have := (s3'.feet q hq).2; simp; omega))
        have V9 := (V8.alloc V8.size (.cells #[.int .i64 va] 3)).trans v9
        clear s1 s2' s3' iu8 V8 g9 m9 v9 X9
        go_wp2_with fail
        refine (sbAnd_any 1 d e0 _ _ U _ iu9.1 (by omega)).mono ?_; rintro e w10 ⟨rfl, hq1⟩
        have u9 := below_of_quiet hq1
        clear hq1
        have t1 := o9.below u9
        have t2 := s2.below u9
        have t3 := s3.below u9
        have V10 := V9.trans (u9.mono V9.size)
        clear o9 s2 s3 iu9 V9 u9
        generalize anI 1 U d e0 = vb at *
        go_wp2_with (at_builtin; refine wpList_appJ _ rfl _ _ rfl w0.heap.size _ N c2 S rfl (t2.alloc _) _ 1 1 [vb] rfl (Ints.lit1 _ _ _) (by omega) (by have := V10.size; simp; omega) ?_)
        intro a7 c7 w11 o11 v11 g11 m11
        have X11 := Only.of_grown g11
        have z1 := (t1.alloc (.cells #[.int .i64 vb] 3)).only X11 F12.out
        have z3 := (t3.alloc (.cells #[.int .i64 vb] 3)).only X11 E23.out.symm
        have G12 := (m11.disj F12.out.symm (fun q hq => by have := (t1.feet q hq).2; simp; omega)).symm
        have G23 := m11.disj E23.out (fun q hq => by have := (t3.feet q hq).2; simp; omega)
        have V11 := (V10.alloc V10.size (.cells #[.int .i64 vb] 3)).trans v11
        have HZ := Lib.hid (And.intro G12 (And.intro F13.out G23))
        clear t1 t2 t3 V10 g11 m11 v11 X11 G12 G23 F12 F13 E13 E23
        go_wp2
        go_roundw
        case rel => exact ⟨k + 1, by omega, by go_num, V11, _, _, _, _, _, _, _, by rw [show i0 + i1 + (k + 1) = N + 1 by have := HN.out; omega], by rw [show i0 + i1 + (k + 1) = N + 1 by have := HN.out; omega], by rw [HST.out], by rw [HST.out, show i0 + i1 + (k + 1) = N + 1 by have := HN.out; omega]; exact z1, by rw [HST.out, show i0 + i1 + (k + 1) = N + 1 by have := HN.out; omega]; exact o11, by rw [HST.out]; exact z3, HZ.out.1, HZ.out.2.1, HZ.out.2.2⟩
        case measure => simp [intOf]; omega
      · have HK1 := Lib.hid hk1
        have QR1 := Lib.hid o1.feet
        have f1 : ((kd != 1) : Bool) = true := by simp [hk1]
        have hgo : goB kd ka kb N := by have := HG.out; unfold goB; rcases this with h | h | h | h <;> omega
        have HGO := Lib.hid hgo
        have HSX := Lib.hid (show sbStep key kd ka kb (F, S, n) = (F ++ [soI kd ka kb 0 F], S ++ [soI kd ka kb 1 S], n) from by unfold sbStep; rw [if_neg hk1]; rfl)
        rw [HSX.out] at HST
        clear HSX hgo hk1
        have V3 := hbel.alloc hbel.size (.cells #[.int .i64 kd, .int .i64 ka, .int .i64 kb] 87)
        have p1 := o1.alloc (.cells #[.int .i64 kd, .int .i64 ka, .int .i64 kb] 87)
        have p2 := o2.alloc (.cells #[.int .i64 kd, .int .i64 ka, .int .i64 kb] 87)
        have p3 := o3.alloc (.cells #[.int .i64 kd, .int .i64 ka, .int .i64 kb] 87)
        have Bg : Blk (wr.alloc (.cells #[.int .i64 kd, .int .i64 ka, .int .i64 kb] 87)) wr.heap.size 87 #[.int .i64 kd, .int .i64 ka, .int .i64 kb] := Blk.new wr _ _
        clear hbel o1 o2 o3
        go_wp2_with fail
        generalize (wr.alloc (.cells #[.int .i64 kd, .int .i64 ka, .int .i64 kb] 87)) = w3 at *
        clear c0 c1' c2'
        have y0 : w3.cell? ⟨wr.heap.size, 0, none⟩ = some (.int .i64 kd) := Bg.cell 0
        have y1 : w3.cell? ⟨wr.heap.size, 1, none⟩ = some (.int .i64 ka) := Bg.cell 1
        have y2 : w3.cell? ⟨wr.heap.size, 2, none⟩ = some (.int .i64 kb) := Bg.cell 2
        refine (sbLocal_any kd ka kb 0 _ N c1 F _ p1.ints HGO.out (by omega)).mono ?_; rintro e w4 ⟨rfl, u4⟩
        replace p1 := p1.below u4
        replace p2 := p2.below u4
        replace p3 := p3.below u4
        have V5 := V3.trans (u4.mono V3.size)
        replace Bg := Bg.below u4
        clear y0 y1 y2 u4 V3 f1
        generalize soI kd ka kb 0 F = va at *
        go_wp2_with (at_builtin; refine wpList_appJ _ rfl _ _ rfl w0.heap.size _ N c1 F rfl (p1.alloc _) _ 1 1 [va] rfl (Ints.lit1 _ _ _) (by omega) (by have := V5.size; simp; omega) ?_)
        intro a6 c6 w6 o6 v6 g6 m6
        have X6 := Only.of_grown g6
        have hgn1 : wr.heap.size ∉ foot a1 c1 := fun hq => by have := (QR1.out _ hq).2; omega
        have F12 := Lib.hid (m6.disj D12.out (fun q hq => by have := (p2.feet q hq).2; simp; omega))
        have F13 := Lib.hid (m6.disj D13.out (fun q hq => by have := (p3.feet q hq).2; simp; omega))
        have q2 := (p2.alloc (.cells #[.int .i64 va] 3)).only X6 D12.out.symm
        have q3 := (p3.alloc (.cells #[.int .i64 va] 3)).only X6 D13.out.symm
        have Bg6 := (Bg.alloc (.cells #[.int .i64 va] 3)).only X6 hgn1
        have V6 := (V5.alloc V5.size (.cells #[.int .i64 va] 3)).trans v6
        clear p1 p2 p3 V5 g6 m6 v6 X6 Bg hgn1
        have y0 : w6.cell? ⟨wr.heap.size, 0, none⟩ = some (.int .i64 kd) := Bg6.cell 0
        have y1 : w6.cell? ⟨wr.heap.size, 1, none⟩ = some (.int .i64 ka) := Bg6.cell 1
        have y2 : w6.cell? ⟨wr.heap.size, 2, none⟩ = some (.int .i64 kb) := Bg6.cell 2
        go_wp2_with fail
        refine (sbLocal_any kd ka kb 1 _ N c2 S _ q2.ints HGO.out (by omega)).mono ?_; rintro e w8 ⟨rfl, u8⟩
        replace o6 := o6.below u8
        replace q2 := q2.below u8
        replace q3 := q3.below u8
        replace V6 := V6.trans (u8.mono V6.size)
        clear y0 y1 y2 u8 Bg6
        generalize soI kd ka kb 1 S = vb at *
        go_wp2_with (at_builtin; refine wpList_appJ _ rfl _ _ rfl w0.heap.size _ N c2 S rfl (q2.alloc _) _ 1 1 [vb] rfl (Ints.lit1 _ _ _) (by omega) (by have := V6.size; simp; omega) ?_)
        intro a7 c7 w11 o11 v11 g11 m11
        have X11 := Only.of_grown g11
        have z1 := (o6.alloc (.cells #[.int .i64 vb] 3)).only X11 F12.out
        have z3 := (q3.alloc (.cells #[.int .i64 vb] 3)).only X11 D23.out.symm
        have G12 := (m11.disj F12.out.symm (fun q hq => by have := (o6.feet q hq).2; simp; omega)).symm
        have G23 := m11.disj D23.out (fun q hq => by have := (q3.feet q hq).2; simp; omega)
        have V11 := (V6.alloc V6.size (.cells #[.int .i64 vb] 3)).trans v11
        have HZ := Lib.hid (And.intro G12 (And.intro F13.out G23))
        clear o6 q2 q3 V6 g11 m11 v11 X11 G12 G23 F12 F13
        go_wp2
        go_roundw
        case rel => exact ⟨k + 1, by omega, by go_num, V11, _, _, _, _, _, _, _, by rw [show i0 + i1 + (k + 1) = N + 1 by have := HN.out; omega], by rw [show i0 + i1 + (k + 1) = N + 1 by have := HN.out; omega], by rw [HST.out], by rw [HST.out, show i0 + i1 + (k + 1) = N + 1 by have := HN.out; omega]; exact z1, by rw [HST.out, show i0 + i1 + (k + 1) = N + 1 by have := HN.out; omega]; exact o11, by rw [HST.out]; exact z3, HZ.out.1, HZ.out.2.1, HZ.out.2.2⟩
        case measure => simp [intOf]; omega
    · obtain rfl : k = gn := by omega
      go_wp2
      go_ret3
      exact ⟨_, _, _, _, _, _, _, rfl, o1.lower (Nat.le_of_lt hz0), o2.lower (Nat.le_of_lt hz0), D12.out, V0.trans (hbel.mono V0.size)⟩
end Go.Proofs.Ytkbhigdciokfkaa
namespace Go.Proofs.Ytkbhigdciokfkaa
open Go.RowKit
set_option maxHeartbeats 8000000 in
set_option maxRecDepth 100000 in
theorem add_any (xa : Option Addr) (n xc : Nat) (X : List Int) (ya : Option Addr) (m yc : Nat) (Y : List Int) {oa : Option Addr} {on oc : Nat} (b g : Nat) (i0 i1 : Int) (G : List Int) (F : List Nat) (w : World) (h : Mk 81 w b g i0 i1 G F oa on oc) (hb : b ≤ w.heap.size) (h0 : 0 ≤ i0 ∧ i0 ≤ 1000) (h1 : 0 ≤ i1 ∧ i1 ≤ 1000) (dx : IntD w xa n xc X F) (dy : IntD w ya m yc Y F) (hnm : n ≤ m) (hn : n ≤ 500) (hl : G.length ≤ 20000) :
    Calls Try.prog 88 #[.pointer (some ⟨g, 0, none⟩), .slice xa n xc, .slice ya m yc] w fun e w' => ∃ a1 c1 F', e = .returned (.tuple #[.slice a1 n c1, .int .i64 (adG (i0 + i1) X Y G n).2.2]) ∧ Own w' w.heap.size a1 n c1 (adG (i0 + i1) X Y G n).2.1 ∧ Disj (foot a1 c1) F' ∧ Mk 81 w' b g i0 i1 (adG (i0 + i1) X Y G n).1 F' oa on oc ∧ Stp F w F' w' := by
  have hle := dx.ints.le
  go_enter Try.func88, Try.ntmps88
  go_wp2
  go_loopw [8, 9, 16] (fun u z v wr => ∃ k F1, k ≤ n ∧ v = .int .i64 (k : Nat) ∧ (∃ a1 c1, u = .slice a1 k c1 ∧ Own wr w.heap.size a1 k c1 (adG (i0 + i1) X Y G k).2.1 ∧ Disj (foot a1 c1) F1) ∧ Mk 81 wr b g i0 i1 (adG (i0 + i1) X Y G k).1 F1 oa on oc ∧ Stp F w F1 wr ∧ z = .int .i64 (adG (i0 + i1) X Y G k).2.2) (fun _ _ v _ => n - (intOf v).toNat)
  case atStart => exact ⟨0, F, Nat.zero_le _, rfl, ⟨_, _, rfl, Own.nil0 _ _ _, foot_nil _ _⟩, h.alloc _, (Stp.refl _ _).alloc _, rfl⟩
  case round =>
    obtain ⟨k, F1, hk, rfl, ⟨a1, c1, rfl, own, dd⟩, M1, S1, rfl⟩ := hrel
    by_cases hlt : k < n
    · have hx : k < n := hlt
      have hy : k < m := by omega
      have hG := (adG_len (i0 + i1) X Y G k).1
      have HS0 := adG_succ (i0 + i1) X Y G k
      obtain ⟨gx, ox, hgx, _⟩ := dx.ints.at k hx
      obtain ⟨gy, oy, hgy, _⟩ := dy.ints.at k hy
      subst hgx hgy
      obtain ⟨x, ex⟩ : ∃ x, x = X.getD k 0 := ⟨_, rfl⟩
      obtain ⟨y, ey⟩ : ∃ y, y = Y.getD k 0 := ⟨_, rfl⟩
      rw [← ex, ← ey] at HS0
      have Ex := Lib.hid ex
      have Ey := Lib.hid ey
      clear ex ey
      have hnn := adG_nn (show 0 ≤ i0 + i1 by omega) X Y G k
      have hz0 : k = 0 → (adG (i0 + i1) X Y G k).2.2 = -1 := fun e => by rw [e]; rfl
      obtain ⟨⟨G1, o1, cr⟩, hr⟩ : ∃ r, r = (adG (i0 + i1) X Y G k) := ⟨_, rfl⟩
      rw [← hr] at HS0 hG M1 own hnn hz0
      rw [← hr]
      clear hr
      simp only at hG hnn hz0
      by_cases hk0 : k = 0
      · have hb0 : (((k : Nat) : Int) == 0) = true := by simp [hk0]
        rw [show (k == 0) = true by simp [hk0]] at HS0
        simp only [adS, if_true] at HS0
        have HS := Lib.hid HS0
        clear HS0 hnn hz0 hk0
        have cx := (dx.stp S1).ints.cellsAt k hx
        rw [← Ex.out] at cx
        have cy := (dy.stp S1).ints.cellsAt k hy
        rw [← Ey.out] at cy
        go_wp2
        have Md0 := M1.drew
        go_region_held3 (fun W => W.cell? ⟨gx, ox + k, none⟩ = some (.int .i64 x) ∧ W.cell? ⟨gy, oy + k, none⟩ = some (.int .i64 y))
          (first | go_keep | exact (by have fx := ((dx.stp (Stp.onto (Stp.alloc (S1.drew.trans sm1) _) (Only.of_grown gm2) (fun k hk => (om1.feet k hk).1))).ints.cellsAt k hx); have fy := ((dy.stp (Stp.onto (Stp.alloc (S1.drew.trans sm1) _) (Only.of_grown gm2) (fun k hk => (om1.feet k hk).1))).ints.cellsAt k hy); rw [← Ex.out] at fx; rw [← Ey.out] at fy; exact ⟨fx, fy⟩) | exact (by have fx := ((dx.stp (S1.drew.trans sm1)).ints.cellsAt k hx); have fy := ((dy.stp (S1.drew.trans sm1)).ints.cellsAt k hy); rw [← Ex.out] at fx; rw [← Ey.out] at fy; exact ⟨fx, fy⟩))
          (first | (go_at_call 58; refine (xor_any _ _ b g i0 i1 _ F1 _ Md0 (Nat.le_trans hb S1.size) h0 h1 (by (try simp only [gt_len]); omega)).mono ?_; rintro e wm1 ⟨rfl, Fm1, Mm1, sm1⟩; obtain ⟨om1, dm1⟩ := (own.below ((Below.refl _ _).drew)).stp dd sm1) | (refine step_appJ _ (by rfl) _ _ (by rfl) w.heap.size a1 k c1 o1 (by rfl) (om1.alloc _) _ 1 1 [_] (by rfl) (Ints.lit1 _ _ _) (by omega) (by have := (S1.drew.trans sm1).size; simp; omega) ?_; intro am2 cm2 wm2 om2 _ gm2 _ mm2))
        all_goals have Om2 := Only.of_grown gm2
        all_goals have Mm2 := Mk.only (Mk.alloc Mm1 _) Om2 dm1
        all_goals have Sm2 := (Stp.onto (Stp.alloc (S1.drew.trans sm1) _) (Only.of_grown gm2) (fun k hk => (om1.feet k hk).1))
        all_goals have dm2 : Disj (foot am2 cm2) Fm1 := mm2.disj dm1 (fun k hk => by have := (Mm1.feet k hk).2; simp; omega)
        all_goals clear M1 S1 own dd Md0 Mm1 om1 dm1 sm1 Om2 gm2 mm2
        all_goals clear cx cy
        go_wp2
        have cx := (dx.stp Sm2).ints.cellsAt k hx
        rw [← Ex.out] at cx
        have cy := (dy.stp Sm2).ints.cellsAt k hy
        rw [← Ey.out] at cy
        have Md0 := Mm2.drew
        go_region_held3 (fun W => W.cell? ⟨gx, ox + k, none⟩ = some (.int .i64 x) ∧ W.cell? ⟨gy, oy + k, none⟩ = some (.int .i64 y))
          (first | go_keep | exact (by have fx := ((dx.stp (Sm2.drew.trans sm3)).ints.cellsAt k hx); have fy := ((dy.stp (Sm2.drew.trans sm3)).ints.cellsAt k hy); rw [← Ex.out] at fx; rw [← Ey.out] at fy; exact ⟨fx, fy⟩))
          (first | (go_at_call 57; refine (and_any _ _ b g i0 i1 _ Fm1 _ Md0 (Nat.le_trans hb Sm2.size) h0 h1 (by (try simp only [gt_len]); omega)).mono ?_; rintro e wm3 ⟨rfl, Fm3, Mm3, sm3⟩))
        all_goals have st3 : Stp Fm1 wm2.drew Fm3 wm3 := sm3
        all_goals have Sm3 := Sm2.drew.trans st3
        all_goals obtain ⟨om3, dm3⟩ := (om2.below ((Below.refl _ _).drew)).stp dm2 st3
        all_goals clear om2 dm2
        all_goals clear st3 Mm2 Sm2 Md0
        all_goals clear cx cy
        go_wp2
        go_roundw
        case rel => exact ⟨k + 1, Fm3, by omega, by go_num, ⟨_, _, rfl, by rw [HS.out]; exact om3, dm3⟩, by rw [HS.out]; exact Mm3, Sm3, by rw [HS.out]⟩
        case measure => simp [intOf]; omega
      · have hb0 : (((k : Nat) : Int) == 0) = false := by simp [hk0]
        rw [show (k == 0) = false by simp [hk0]] at HS0
        simp only [adS, Bool.false_eq_true, if_false] at HS0
        have HS := Lib.hid HS0
        clear HS0 hnn hz0 hk0
        have cx := (dx.stp S1).ints.cellsAt k hx
        rw [← Ex.out] at cx
        go_wp2_with fail
        clear cx
        refine (xor_any _ _ b g i0 i1 _ F1 _ M1 (Nat.le_trans hb S1.size) h0 h1 (by (try simp only [gt_len]); omega)).mono ?_; rintro e wm1 ⟨rfl, Fm1, Mm1, sm1⟩
        have Sm1 := S1.trans sm1
        obtain ⟨om1, dm1⟩ := own.stp dd sm1
        clear M1 S1 sm1 own dd
        have cy := (dy.stp Sm1).ints.cellsAt k hy
        rw [← Ey.out] at cy
        go_wp2_with fail
        clear cy
        refine (xor_any _ _ b g i0 i1 _ Fm1 _ Mm1 (Nat.le_trans hb Sm1.size) h0 h1 (by (try simp only [gt_len]); omega)).mono ?_; rintro e wm2 ⟨rfl, Fm2, Mm2, sm2⟩
        have Sm2 := Sm1.trans sm2
        obtain ⟨om2, dm2⟩ := om1.stp dm1 sm2
        clear Mm1 Sm1 sm2 om1 dm1
        have cy := (dy.stp Sm2).ints.cellsAt k hy
        rw [← Ey.out] at cy
        go_wp2_with fail
        clear cy
        refine (xor_any _ _ b g i0 i1 _ Fm2 _ Mm2 (Nat.le_trans hb Sm2.size) h0 h1 (by (try simp only [gt_len]); omega)).mono ?_; rintro e wm3 ⟨rfl, Fm3, Mm3, sm3⟩
        have Sm3 := Sm2.trans sm3
        obtain ⟨om3, dm3⟩ := om2.stp dm2 sm3
        clear Mm2 Sm2 sm3 om2 dm2
        go_wp2_with (at_builtin; refine wpList_appJ _ rfl _ _ rfl w.heap.size a1 k c1 o1 rfl (om3.alloc _) _ 1 1 [_] rfl (Ints.lit1 _ _ _) (by omega) (by have := Sm3.size; simp; omega) ?_)
        intro am4 cm4 wm4 om4 _ gm4 mm4
        have Om4 := Only.of_grown gm4
        have Mm4 := Mk.only (Mk.alloc Mm3 _) Om4 dm3
        have Sm4 := Stp.onto (Stp.alloc Sm3 _) Om4 (fun k hk => (om3.feet k hk).1)
        have dm4 : Disj (foot am4 cm4) Fm3 := mm4.disj dm3 (fun k hk => by have := (Mm3.feet k hk).2; simp; omega)
        clear Mm3 Sm3 om3 dm3 Om4 gm4 mm4
        go_wp2_with fail
        refine (and_any _ _ b g i0 i1 _ Fm3 _ Mm4 (Nat.le_trans hb Sm4.size) h0 h1 (by (try simp only [gt_len]); omega)).mono ?_; rintro e wm5 ⟨rfl, Fm5, Mm5, sm5⟩
        have Sm5 := Sm4.trans sm5
        obtain ⟨om5, dm5⟩ := om4.stp dm4 sm5
        clear Mm4 Sm4 sm5 om4 dm4
        go_wp2_with fail
        refine (xor_any _ _ b g i0 i1 _ Fm5 _ Mm5 (Nat.le_trans hb Sm5.size) h0 h1 (by (try simp only [gt_len]); omega)).mono ?_; rintro e wm6 ⟨rfl, Fm6, Mm6, sm6⟩
        have Sm6 := Sm5.trans sm6
        obtain ⟨om6, dm6⟩ := om5.stp dm5 sm6
        clear Mm5 Sm5 sm6 om5 dm5
        go_wp2
        go_roundw
        case rel => exact ⟨k + 1, Fm6, by omega, by go_num, ⟨_, _, rfl, by rw [HS.out]; exact om6, dm6⟩, by rw [HS.out]; exact Mm6, Sm6, by rw [HS.out]⟩
        case measure => simp [intOf]; omega
    · obtain rfl : k = n := by omega
      go_wp2
      go_ret2
      exact ⟨_, _, F1, rfl, own, dd, M1, S1⟩
set_option maxHeartbeats 8000000 in
set_option maxRecDepth 100000 in
theorem gdAdd_any (xa : Option Addr) (n xc : Nat) (X : List Int) (ya : Option Addr) (m yc : Nat) (Y : List Int) {oa : Option Addr} {on oc : Nat} (b g : Nat) (i0 i1 : Int) (G : List Int) (F : List Nat) (w : World) (h : Mk 79 w b g i0 i1 G F oa on oc) (hb : b ≤ w.heap.size) (h0 : 0 ≤ i0 ∧ i0 ≤ 1000) (h1 : 0 ≤ i1 ∧ i1 ≤ 1000) (dx : IntD w xa n xc X F) (dy : IntD w ya m yc Y F) (hnm : n ≤ m) (hn : n ≤ 500) (hl : G.length ≤ 20000) :
    Calls Try.prog 83 #[.pointer (some ⟨g, 0, none⟩), .slice xa n xc, .slice ya m yc] w fun e w' => ∃ a1 c1 F', e = .returned (.slice a1 (n + 1) c1) ∧ Own w' w.heap.size a1 (n + 1) c1 ((adG (i0 + i1) X Y G n).2.1 ++ [(adG (i0 + i1) X Y G n).2.2]) ∧ Disj (foot a1 c1) F' ∧ Mk 79 w' b g i0 i1 (adG (i0 + i1) X Y G n).1 F' oa on oc ∧ Stp F w F' w' := by
  have hle := dx.ints.le
  go_enter Try.func83, Try.ntmps83
  go_wp2
  go_loopw [7, 8, 17] (fun u z v wr => ∃ k F1, k ≤ n ∧ v = .int .i64 (k : Nat) ∧ (∃ a1 c1, u = .slice a1 k c1 ∧ Own wr w.heap.size a1 k c1 (adG (i0 + i1) X Y G k).2.1 ∧ Disj (foot a1 c1) F1) ∧ Mk 79 wr b g i0 i1 (adG (i0 + i1) X Y G k).1 F1 oa on oc ∧ Stp F w F1 wr ∧ z = .int .i64 (adG (i0 + i1) X Y G k).2.2) (fun _ _ v _ => n - (intOf v).toNat)
  case atStart => exact ⟨0, F, Nat.zero_le _, rfl, ⟨_, _, rfl, Own.nil0 _ _ _, foot_nil _ _⟩, h, Stp.refl _ _, rfl⟩
  case round =>
    obtain ⟨k, F1, hk, rfl, ⟨a1, c1, rfl, own, dd⟩, M1, S1, rfl⟩ := hrel
    by_cases hlt : k < n
    · have hx : k < n := hlt
      have hy : k < m := by omega
      have hG := (adG_len (i0 + i1) X Y G k).1
      have HS0 := adG_succ (i0 + i1) X Y G k
      obtain ⟨gx, ox, hgx, _⟩ := dx.ints.at k hx
      obtain ⟨gy, oy, hgy, _⟩ := dy.ints.at k hy
      subst hgx hgy
      obtain ⟨x, ex⟩ : ∃ x, x = X.getD k 0 := ⟨_, rfl⟩
      obtain ⟨y, ey⟩ : ∃ y, y = Y.getD k 0 := ⟨_, rfl⟩
      rw [← ex, ← ey] at HS0
      have Ex := Lib.hid ex
      have Ey := Lib.hid ey
      clear ex ey
      have hnn := adG_nn (show 0 ≤ i0 + i1 by omega) X Y G k
      have hz0 : k = 0 → (adG (i0 + i1) X Y G k).2.2 = -1 := fun e => by rw [e]; rfl
      obtain ⟨⟨G1, o1, cr⟩, hr⟩ : ∃ r, r = (adG (i0 + i1) X Y G k) := ⟨_, rfl⟩
      rw [← hr] at HS0 hG M1 own hnn hz0
      rw [← hr]
      clear hr
      simp only at hG hnn hz0
      by_cases hk0 : k = 0
      · have hneg : cr < 0 := by have := hz0 hk0; omega
        rw [show (k == 0) = true by simp [hk0]] at HS0
        simp only [adS, if_true] at HS0
        have HS := Lib.hid HS0
        clear HS0 hnn hz0 hk0
        have cx := (dx.stp S1).ints.cellsAt k hx
        rw [← Ex.out] at cx
        have cy := (dy.stp S1).ints.cellsAt k hy
        rw [← Ey.out] at cy
        go_wp2_with fail
        refine (sxor_any _ _ b g i0 i1 _ F1 _ M1 (Nat.le_trans hb S1.size) h0 h1 (by (try simp only [gt_len]); omega)).mono ?_; rintro e wm1 ⟨rfl, Fm1, Mm1, sm1⟩
        have Sm1 := S1.trans sm1
        obtain ⟨om1, dm1⟩ := own.stp dd sm1
        clear M1 S1 sm1 own dd
        clear cx cy
        go_wp2_with (at_builtin; refine wpList_appJ _ rfl _ _ rfl w.heap.size a1 k c1 o1 rfl (om1.alloc _) _ 1 1 [_] rfl (Ints.lit1 _ _ _) (by omega) (by have := Sm1.size; simp; omega) ?_)
        intro am2 cm2 wm2 om2 _ gm2 mm2
        have Om2 := Only.of_grown gm2
        have Mm2 := Mk.only (Mk.alloc Mm1 _) Om2 dm1
        have Sm2 := Stp.onto (Stp.alloc Sm1 _) Om2 (fun k hk => (om1.feet k hk).1)
        have dm2 : Disj (foot am2 cm2) Fm1 := mm2.disj dm1 (fun k hk => by have := (Mm1.feet k hk).2; simp; omega)
        clear Mm1 Sm1 om1 dm1 Om2 gm2 mm2
        go_wp2_with fail
        refine (sand_any _ _ b g i0 i1 _ Fm1 _ Mm2 (Nat.le_trans hb Sm2.size) h0 h1 (by (try simp only [gt_len]); omega)).mono ?_; rintro e wm3 ⟨rfl, Fm3, Mm3, sm3⟩
        have Sm3 := Sm2.trans sm3
        obtain ⟨om3, dm3⟩ := om2.stp dm2 sm3
        clear Mm2 Sm2 sm3 om2 dm2
        go_wp2
        go_roundw
        case rel => exact ⟨k + 1, Fm3, by omega, by go_num, ⟨_, _, rfl, by rw [HS.out]; exact om3, dm3⟩, by rw [HS.out]; exact Mm3, Sm3, by rw [HS.out]⟩
        case measure => simp [intOf]; omega
      · have hpos : ¬ cr < 0 := by have := hnn (by omega); omega
        rw [show (k == 0) = false by simp [hk0]] at HS0
        simp only [adS, Bool.false_eq_true, if_false] at HS0
        have HS := Lib.hid HS0
        clear HS0 hnn hz0 hk0
        have cx := (dx.stp S1).ints.cellsAt k hx
        rw [← Ex.out] at cx
        have cy := (dy.stp S1).ints.cellsAt k hy
        rw [← Ey.out] at cy
        go_wp2_with fail
        refine (sxor_any _ _ b g i0 i1 _ F1 _ M1 (Nat.le_trans hb S1.size) h0 h1 (by (try simp only [gt_len]); omega)).mono ?_; rintro e wm1 ⟨rfl, Fm1, Mm1, sm1⟩
        have Sm1 := S1.trans sm1
        obtain ⟨om1, dm1⟩ := own.stp dd sm1
        clear M1 S1 sm1 own dd
        clear cx cy
        go_wp2_with fail
        refine (sxor_any _ _ b g i0 i1 _ Fm1 _ Mm1 (Nat.le_trans hb Sm1.size) h0 h1 (by (try simp only [gt_len]); omega)).mono ?_; rintro e wm2 ⟨rfl, Fm2, Mm2, sm2⟩
        have Sm2 := Sm1.trans sm2
        obtain ⟨om2, dm2⟩ := om1.stp dm1 sm2
        clear Mm1 Sm1 sm2 om1 dm1
        go_wp2_with fail
        refine (sxor_any _ _ b g i0 i1 _ Fm2 _ Mm2 (Nat.le_trans hb Sm2.size) h0 h1 (by (try simp only [gt_len]); omega)).mono ?_; rintro e wm3 ⟨rfl, Fm3, Mm3, sm3⟩
        have Sm3 := Sm2.trans sm3
        obtain ⟨om3, dm3⟩ := om2.stp dm2 sm3
        clear Mm2 Sm2 sm3 om2 dm2
        go_wp2_with (at_builtin; refine wpList_appJ _ rfl _ _ rfl w.heap.size a1 k c1 o1 rfl (om3.alloc _) _ 1 1 [_] rfl (Ints.lit1 _ _ _) (by omega) (by have := Sm3.size; simp; omega) ?_)
        intro am4 cm4 wm4 om4 _ gm4 mm4
        have Om4 := Only.of_grown gm4
        have Mm4 := Mk.only (Mk.alloc Mm3 _) Om4 dm3
        have Sm4 := Stp.onto (Stp.alloc Sm3 _) Om4 (fun k hk => (om3.feet k hk).1)
        have dm4 : Disj (foot am4 cm4) Fm3 := mm4.disj dm3 (fun k hk => by have := (Mm3.feet k hk).2; simp; omega)
        clear Mm3 Sm3 om3 dm3 Om4 gm4 mm4
        go_wp2_with fail
        refine (sand_any _ _ b g i0 i1 _ Fm3 _ Mm4 (Nat.le_trans hb Sm4.size) h0 h1 (by (try simp only [gt_len]); omega)).mono ?_; rintro e wm5 ⟨rfl, Fm5, Mm5, sm5⟩
        have Sm5 := Sm4.trans sm5
        obtain ⟨om5, dm5⟩ := om4.stp dm4 sm5
        clear Mm4 Sm4 sm5 om4 dm4
        go_wp2_with fail
        refine (sxor_any _ _ b g i0 i1 _ Fm5 _ Mm5 (Nat.le_trans hb Sm5.size) h0 h1 (by (try simp only [gt_len]); omega)).mono ?_; rintro e wm6 ⟨rfl, Fm6, Mm6, sm6⟩
        have Sm6 := Sm5.trans sm6
        obtain ⟨om6, dm6⟩ := om5.stp dm5 sm6
        clear Mm5 Sm5 sm6 om5 dm5
        go_wp2
        go_roundw
        case rel => exact ⟨k + 1, Fm6, by omega, by go_num, ⟨_, _, rfl, by rw [HS.out]; exact om6, dm6⟩, by rw [HS.out]; exact Mm6, Sm6, by rw [HS.out]⟩
        case measure => simp [intOf]; omega
    · obtain rfl : k = n := by omega
      go_wp2_with (at_builtin; refine wpList_appJ _ rfl _ _ rfl w.heap.size a1 k c1 ((adG (i0 + i1) X Y G k)).2.1 rfl (own.alloc _) _ 1 1 [_] rfl (Ints.lit1 _ _ _) (by omega) (by have := S1.size; simp; omega) ?_)
      intro am1 cm1 wm1 om1 _ gm1 mm1
      have Om1 := Only.of_grown gm1
      have Mm1 := Mk.only (Mk.alloc M1 _) Om1 dd
      have Sm1 := Stp.onto (Stp.alloc S1 _) Om1 (fun k hk => (own.feet k hk).1)
      have dm1 : Disj (foot am1 cm1) F1 := mm1.disj dd (fun k hk => by have := (M1.feet k hk).2; simp; omega)
      clear M1 S1 own dd Om1 gm1 mm1
      go_wp2
      go_ret
      exact ⟨_, _, F1, rfl, om1, dm1, Mm1, Sm1⟩
set_option maxHeartbeats 8000000 in
set_option maxRecDepth 100000 in
theorem subtract_any (xa : Option Addr) (n xc : Nat) (X : List Int) (ya : Option Addr) (m yc : Nat) (Y : List Int) {oa : Option Addr} {on oc : Nat} (b g : Nat) (i0 i1 : Int) (G : List Int) (F : List Nat) (w : World) (h : Mk 81 w b g i0 i1 G F oa on oc) (hb : b ≤ w.heap.size) (h0 : 0 ≤ i0 ∧ i0 ≤ 1000) (h1 : 0 ≤ i1 ∧ i1 ≤ 1000) (dx : IntD w xa n xc X F) (dy : IntD w ya m yc Y F) (hnm : n ≤ m) (hn : n ≤ 500) (hl : G.length ≤ 20000) :
    Calls Try.prog 89 #[.pointer (some ⟨g, 0, none⟩), .slice xa n xc, .slice ya m yc] w fun e w' => ∃ a1 c1 F', e = .returned (.tuple #[.slice a1 n c1, .int .i64 (suG (i0 + i1) X Y G n).2.2]) ∧ Own w' w.heap.size a1 n c1 (suG (i0 + i1) X Y G n).2.1 ∧ Disj (foot a1 c1) F' ∧ Mk 81 w' b g i0 i1 (suG (i0 + i1) X Y G n).1 F' oa on oc ∧ Stp F w F' w' := by
  have hle := dx.ints.le
  go_enter Try.func89, Try.ntmps89
  go_wp2
  go_loopw [8, 9, 17] (fun u z v wr => ∃ k F1, k ≤ n ∧ v = .int .i64 (k : Nat) ∧ (∃ a1 c1, u = .slice a1 k c1 ∧ Own wr w.heap.size a1 k c1 (suG (i0 + i1) X Y G k).2.1 ∧ Disj (foot a1 c1) F1) ∧ Mk 81 wr b g i0 i1 (suG (i0 + i1) X Y G k).1 F1 oa on oc ∧ Stp F w F1 wr ∧ z = .int .i64 (suG (i0 + i1) X Y G k).2.2) (fun _ _ v _ => n - (intOf v).toNat)
  case atStart => exact ⟨0, F, Nat.zero_le _, rfl, ⟨_, _, rfl, Own.nil0 _ _ _, foot_nil _ _⟩, h.alloc _, (Stp.refl _ _).alloc _, rfl⟩
  case round =>
    obtain ⟨k, F1, hk, rfl, ⟨a1, c1, rfl, own, dd⟩, M1, S1, rfl⟩ := hrel
    by_cases hlt : k < n
    · have hx : k < n := hlt
      have hy : k < m := by omega
      have hG := (suG_len (i0 + i1) X Y G k).1
      have HS0 := suG_succ (i0 + i1) X Y G k
      obtain ⟨gx, ox, hgx, _⟩ := dx.ints.at k hx
      obtain ⟨gy, oy, hgy, _⟩ := dy.ints.at k hy
      subst hgx hgy
      obtain ⟨x, ex⟩ : ∃ x, x = X.getD k 0 := ⟨_, rfl⟩
      obtain ⟨y, ey⟩ : ∃ y, y = Y.getD k 0 := ⟨_, rfl⟩
      rw [← ex, ← ey] at HS0
      have Ex := Lib.hid ex
      have Ey := Lib.hid ey
      clear ex ey
      have hnn := suG_nn (show 0 ≤ i0 + i1 by omega) X Y G k
      have hz0 : k = 0 → (suG (i0 + i1) X Y G k).2.2 = -1 := fun e => by rw [e]; rfl
      obtain ⟨⟨G1, o1, cr⟩, hr⟩ : ∃ r, r = (suG (i0 + i1) X Y G k) := ⟨_, rfl⟩
      rw [← hr] at HS0 hG M1 own hnn hz0
      rw [← hr]
      clear hr
      simp only at hG hnn hz0
      by_cases hk0 : k = 0
      · have hb0 : (((k : Nat) : Int) == 0) = true := by simp [hk0]
        rw [show (k == 0) = true by simp [hk0]] at HS0
        simp only [suS, if_true] at HS0
        have HS := Lib.hid HS0
        clear HS0 hnn hz0 hk0
        have cx := (dx.stp S1).ints.cellsAt k hx
        rw [← Ex.out] at cx
        have cy := (dy.stp S1).ints.cellsAt k hy
        rw [← Ey.out] at cy
        go_wp2
        have Md0 := M1.drew
        go_region_held3 (fun W => W.cell? ⟨gx, ox + k, none⟩ = some (.int .i64 x) ∧ W.cell? ⟨gy, oy + k, none⟩ = some (.int .i64 y))
          (first | go_keep | exact (by have fx := ((dx.stp (Stp.onto (Stp.alloc (S1.drew.trans sm1) _) (Only.of_grown gm2) (fun k hk => (om1.feet k hk).1))).ints.cellsAt k hx); have fy := ((dy.stp (Stp.onto (Stp.alloc (S1.drew.trans sm1) _) (Only.of_grown gm2) (fun k hk => (om1.feet k hk).1))).ints.cellsAt k hy); rw [← Ex.out] at fx; rw [← Ey.out] at fy; exact ⟨fx, fy⟩) | exact (by have fx := ((dx.stp (S1.drew.trans sm1)).ints.cellsAt k hx); have fy := ((dy.stp (S1.drew.trans sm1)).ints.cellsAt k hy); rw [← Ex.out] at fx; rw [← Ey.out] at fy; exact ⟨fx, fy⟩))
          (first | (go_at_call 58; refine (xor_any _ _ b g i0 i1 _ F1 _ Md0 (Nat.le_trans hb S1.size) h0 h1 (by (try simp only [gt_len]); omega)).mono ?_; rintro e wm1 ⟨rfl, Fm1, Mm1, sm1⟩; obtain ⟨om1, dm1⟩ := (own.below ((Below.refl _ _).drew)).stp dd sm1) | (refine step_appJ _ (by rfl) _ _ (by rfl) w.heap.size a1 k c1 o1 (by rfl) (om1.alloc _) _ 1 1 [_] (by rfl) (Ints.lit1 _ _ _) (by omega) (by have := (S1.drew.trans sm1).size; simp; omega) ?_; intro am2 cm2 wm2 om2 _ gm2 _ mm2))
        all_goals have Om2 := Only.of_grown gm2
        all_goals have Mm2 := Mk.only (Mk.alloc Mm1 _) Om2 dm1
        all_goals have Sm2 := (Stp.onto (Stp.alloc (S1.drew.trans sm1) _) (Only.of_grown gm2) (fun k hk => (om1.feet k hk).1))
        all_goals have dm2 : Disj (foot am2 cm2) Fm1 := mm2.disj dm1 (fun k hk => by have := (Mm1.feet k hk).2; simp; omega)
        all_goals clear M1 S1 own dd Md0 Mm1 om1 dm1 sm1 Om2 gm2 mm2
        all_goals clear cx cy
        go_wp2
        have cx := (dx.stp Sm2).ints.cellsAt k hx
        rw [← Ex.out] at cx
        have cy := (dy.stp Sm2).ints.cellsAt k hy
        rw [← Ey.out] at cy
        have Md0 := Mm2.drew
        go_region_held3 (fun W => W.cell? ⟨gx, ox + k, none⟩ = some (.int .i64 x) ∧ W.cell? ⟨gy, oy + k, none⟩ = some (.int .i64 y))
          (first | go_keep | exact (by have fx := ((dx.stp (Sm2.drew.trans (sm3.trans sm4))).ints.cellsAt k hx); have fy := ((dy.stp (Sm2.drew.trans (sm3.trans sm4))).ints.cellsAt k hy); rw [← Ex.out] at fx; rw [← Ey.out] at fy; exact ⟨fx, fy⟩) | exact (by have fx := ((dx.stp (Sm2.drew.trans sm3)).ints.cellsAt k hx); have fy := ((dy.stp (Sm2.drew.trans sm3)).ints.cellsAt k hy); rw [← Ex.out] at fx; rw [← Ey.out] at fy; exact ⟨fx, fy⟩))
          (first | (go_at_call 100; refine (not_any _ b g i0 i1 _ Fm1 _ Md0 (Nat.le_trans hb Sm2.size) h0 h1 (by (try simp only [gt_len]); omega)).mono ?_; rintro e wm3 ⟨rfl, Fm3, Mm3, sm3⟩) | (go_at_call 57; refine (and_any _ _ b g i0 i1 _ Fm3 _ Mm3 (Nat.le_trans hb (Sm2.drew.trans sm3).size) h0 h1 (by (try simp only [gt_len]); omega)).mono ?_; rintro e wm4 ⟨rfl, Fm4, Mm4, sm4⟩))
        all_goals have st4 : Stp Fm1 wm2.drew Fm4 wm4 := (sm3.trans sm4)
        all_goals have Sm4 := Sm2.drew.trans st4
        all_goals obtain ⟨om4, dm4⟩ := (om2.below ((Below.refl _ _).drew)).stp dm2 st4
        all_goals clear om2 dm2
        all_goals clear st4 Mm2 Sm2 Md0
        all_goals clear cx cy
        go_wp2
        go_roundw
        case rel => exact ⟨k + 1, Fm4, by omega, by go_num, ⟨_, _, rfl, by rw [HS.out]; exact om4, dm4⟩, by rw [HS.out]; exact Mm4, Sm4, by rw [HS.out]⟩
        case measure => simp [intOf]; omega
      · have hb0 : (((k : Nat) : Int) == 0) = false := by simp [hk0]
        rw [show (k == 0) = false by simp [hk0]] at HS0
        simp only [suS, Bool.false_eq_true, if_false] at HS0
        have HS := Lib.hid HS0
        clear HS0 hnn hz0 hk0
        have cx := (dx.stp S1).ints.cellsAt k hx
        rw [← Ex.out] at cx
        go_wp2_with fail
        clear cx
        refine (xor_any _ _ b g i0 i1 _ F1 _ M1 (Nat.le_trans hb S1.size) h0 h1 (by (try simp only [gt_len]); omega)).mono ?_; rintro e wm1 ⟨rfl, Fm1, Mm1, sm1⟩
        have Sm1 := S1.trans sm1
        obtain ⟨om1, dm1⟩ := own.stp dd sm1
        clear M1 S1 sm1 own dd
        have cy := (dy.stp Sm1).ints.cellsAt k hy
        rw [← Ey.out] at cy
        go_wp2_with fail
        clear cy
        refine (xor_any _ _ b g i0 i1 _ Fm1 _ Mm1 (Nat.le_trans hb Sm1.size) h0 h1 (by (try simp only [gt_len]); omega)).mono ?_; rintro e wm2 ⟨rfl, Fm2, Mm2, sm2⟩
        have Sm2 := Sm1.trans sm2
        obtain ⟨om2, dm2⟩ := om1.stp dm1 sm2
        clear Mm1 Sm1 sm2 om1 dm1
        have cy := (dy.stp Sm2).ints.cellsAt k hy
        rw [← Ey.out] at cy
        go_wp2_with fail
        clear cy
        refine (xor_any _ _ b g i0 i1 _ Fm2 _ Mm2 (Nat.le_trans hb Sm2.size) h0 h1 (by (try simp only [gt_len]); omega)).mono ?_; rintro e wm3 ⟨rfl, Fm3, Mm3, sm3⟩
        have Sm3 := Sm2.trans sm3
        obtain ⟨om3, dm3⟩ := om2.stp dm2 sm3
        clear Mm2 Sm2 sm3 om2 dm2
        go_wp2_with (at_builtin; refine wpList_appJ _ rfl _ _ rfl w.heap.size a1 k c1 o1 rfl (om3.alloc _) _ 1 1 [_] rfl (Ints.lit1 _ _ _) (by omega) (by have := Sm3.size; simp; omega) ?_)
        intro am4 cm4 wm4 om4 _ gm4 mm4
        have Om4 := Only.of_grown gm4
        have Mm4 := Mk.only (Mk.alloc Mm3 _) Om4 dm3
        have Sm4 := Stp.onto (Stp.alloc Sm3 _) Om4 (fun k hk => (om3.feet k hk).1)
        have dm4 : Disj (foot am4 cm4) Fm3 := mm4.disj dm3 (fun k hk => by have := (Mm3.feet k hk).2; simp; omega)
        clear Mm3 Sm3 om3 dm3 Om4 gm4 mm4
        go_wp2_with fail
        refine (not_any _ b g i0 i1 _ Fm3 _ Mm4 (Nat.le_trans hb Sm4.size) h0 h1 (by (try simp only [gt_len]); omega)).mono ?_; rintro e wm5 ⟨rfl, Fm5, Mm5, sm5⟩
        have Sm5 := Sm4.trans sm5
        obtain ⟨om5, dm5⟩ := om4.stp dm4 sm5
        clear Mm4 Sm4 sm5 om4 dm4
        go_wp2_with fail
        refine (and_any _ _ b g i0 i1 _ Fm5 _ Mm5 (Nat.le_trans hb Sm5.size) h0 h1 (by (try simp only [gt_len]); omega)).mono ?_; rintro e wm6 ⟨rfl, Fm6, Mm6, sm6⟩
        have Sm6 := Sm5.trans sm6
        obtain ⟨om6, dm6⟩ := om5.stp dm5 sm6
        clear Mm5 Sm5 sm6 om5 dm5
        go_wp2_with fail
        refine (xor_any _ _ b g i0 i1 _ Fm6 _ Mm6 (Nat.le_trans hb Sm6.size) h0 h1 (by (try simp only [gt_len]); omega)).mono ?_; rintro e wm7 ⟨rfl, Fm7, Mm7, sm7⟩
        have Sm7 := Sm6.trans sm7
        obtain ⟨om7, dm7⟩ := om6.stp dm6 sm7
        clear Mm6 Sm6 sm7 om6 dm6
        go_wp2
        go_roundw
        case rel => exact ⟨k + 1, Fm7, by omega, by go_num, ⟨_, _, rfl, by rw [HS.out]; exact om7, dm7⟩, by rw [HS.out]; exact Mm7, Sm7, by rw [HS.out]⟩
        case measure => simp [intOf]; omega
    · obtain rfl : k = n := by omega
      go_wp2
      go_ret2
      exact ⟨_, _, F1, rfl, own, dd, M1, S1⟩
set_option maxHeartbeats 8000000 in
set_option maxRecDepth 100000 in
theorem gdSub_any (xa : Option Addr) (n xc : Nat) (X : List Int) (ya : Option Addr) (m yc : Nat) (Y : List Int) {oa : Option Addr} {on oc : Nat} (b g : Nat) (i0 i1 : Int) (G : List Int) (F : List Nat) (w : World) (h : Mk 79 w b g i0 i1 G F oa on oc) (hb : b ≤ w.heap.size) (h0 : 0 ≤ i0 ∧ i0 ≤ 1000) (h1 : 0 ≤ i1 ∧ i1 ≤ 1000) (dx : IntD w xa n xc X F) (dy : IntD w ya m yc Y F) (hnm : n ≤ m) (hn : n ≤ 500) (hl : G.length ≤ 20000) :
    Calls Try.prog 85 #[.pointer (some ⟨g, 0, none⟩), .slice xa n xc, .slice ya m yc] w fun e w' => ∃ a1 c1 F', e = .returned (.slice a1 (n + 1) c1) ∧ Own w' w.heap.size a1 (n + 1) c1 ((suG (i0 + i1) X Y G n).2.1 ++ [(suG (i0 + i1) X Y G n).2.2]) ∧ Disj (foot a1 c1) F' ∧ Mk 79 w' b g i0 i1 (suG (i0 + i1) X Y G n).1 F' oa on oc ∧ Stp F w F' w' := by
  have hle := dx.ints.le
  go_enter Try.func85, Try.ntmps85
  go_wp2
  go_loopw [7, 8, 19] (fun u z v wr => ∃ k F1, k ≤ n ∧ v = .int .i64 (k : Nat) ∧ (∃ a1 c1, u = .slice a1 k c1 ∧ Own wr w.heap.size a1 k c1 (suG (i0 + i1) X Y G k).2.1 ∧ Disj (foot a1 c1) F1) ∧ Mk 79 wr b g i0 i1 (suG (i0 + i1) X Y G k).1 F1 oa on oc ∧ Stp F w F1 wr ∧ z = .int .i64 (suG (i0 + i1) X Y G k).2.2) (fun _ _ v _ => n - (intOf v).toNat)
  case atStart => exact ⟨0, F, Nat.zero_le _, rfl, ⟨_, _, rfl, Own.nil0 _ _ _, foot_nil _ _⟩, h, Stp.refl _ _, rfl⟩
  case round =>
    obtain ⟨k, F1, hk, rfl, ⟨a1, c1, rfl, own, dd⟩, M1, S1, rfl⟩ := hrel
    by_cases hlt : k < n
    · have hx : k < n := hlt
      have hy : k < m := by omega
      have hG := (suG_len (i0 + i1) X Y G k).1
      have HS0 := suG_succ (i0 + i1) X Y G k
      obtain ⟨gx, ox, hgx, _⟩ := dx.ints.at k hx
      obtain ⟨gy, oy, hgy, _⟩ := dy.ints.at k hy
      subst hgx hgy
      obtain ⟨x, ex⟩ : ∃ x, x = X.getD k 0 := ⟨_, rfl⟩
      obtain ⟨y, ey⟩ : ∃ y, y = Y.getD k 0 := ⟨_, rfl⟩
      rw [← ex, ← ey] at HS0
      have Ex := Lib.hid ex
      have Ey := Lib.hid ey
      clear ex ey
      have hnn := suG_nn (show 0 ≤ i0 + i1 by omega) X Y G k
      have hz0 : k = 0 → (suG (i0 + i1) X Y G k).2.2 = -1 := fun e => by rw [e]; rfl
      obtain ⟨⟨G1, o1, cr⟩, hr⟩ : ∃ r, r = (suG (i0 + i1) X Y G k) := ⟨_, rfl⟩
      rw [← hr] at HS0 hG M1 own hnn hz0
      rw [← hr]
      clear hr
      simp only at hG hnn hz0
      by_cases hk0 : k = 0
      · have hneg : cr < 0 := by have := hz0 hk0; omega
        rw [show (k == 0) = true by simp [hk0]] at HS0
        simp only [suS, if_true] at HS0
        have HS := Lib.hid HS0
        clear HS0 hnn hz0 hk0
        have cx := (dx.stp S1).ints.cellsAt k hx
        rw [← Ex.out] at cx
        have cy := (dy.stp S1).ints.cellsAt k hy
        rw [← Ey.out] at cy
        go_wp2_with fail
        refine (sxor_any _ _ b g i0 i1 _ F1 _ M1 (Nat.le_trans hb S1.size) h0 h1 (by (try simp only [gt_len]); omega)).mono ?_; rintro e wm1 ⟨rfl, Fm1, Mm1, sm1⟩
        have Sm1 := S1.trans sm1
        obtain ⟨om1, dm1⟩ := own.stp dd sm1
        clear M1 S1 sm1 own dd
        clear cx cy
        go_wp2_with (at_builtin; refine wpList_appJ _ rfl _ _ rfl w.heap.size a1 k c1 o1 rfl (om1.alloc _) _ 1 1 [_] rfl (Ints.lit1 _ _ _) (by omega) (by have := Sm1.size; simp; omega) ?_)
        intro am2 cm2 wm2 om2 _ gm2 mm2
        have Om2 := Only.of_grown gm2
        have Mm2 := Mk.only (Mk.alloc Mm1 _) Om2 dm1
        have Sm2 := Stp.onto (Stp.alloc Sm1 _) Om2 (fun k hk => (om1.feet k hk).1)
        have dm2 : Disj (foot am2 cm2) Fm1 := mm2.disj dm1 (fun k hk => by have := (Mm1.feet k hk).2; simp; omega)
        clear Mm1 Sm1 om1 dm1 Om2 gm2 mm2
        go_wp2_with fail
        refine (snot_any _ b g i0 i1 _ Fm1 _ Mm2 (Nat.le_trans hb Sm2.size) h0 h1 (by (try simp only [gt_len]); omega)).mono ?_; rintro e wm3 ⟨rfl, Fm3, Mm3, sm3⟩
        have Sm3 := Sm2.trans sm3
        obtain ⟨om3, dm3⟩ := om2.stp dm2 sm3
        clear Mm2 Sm2 sm3 om2 dm2
        go_wp2_with fail
        refine (sand_any _ _ b g i0 i1 _ Fm3 _ Mm3 (Nat.le_trans hb Sm3.size) h0 h1 (by (try simp only [gt_len]); omega)).mono ?_; rintro e wm4 ⟨rfl, Fm4, Mm4, sm4⟩
        have Sm4 := Sm3.trans sm4
        obtain ⟨om4, dm4⟩ := om3.stp dm3 sm4
        clear Mm3 Sm3 sm4 om3 dm3
        go_wp2
        go_roundw
        case rel => exact ⟨k + 1, Fm4, by omega, by go_num, ⟨_, _, rfl, by rw [HS.out]; exact om4, dm4⟩, by rw [HS.out]; exact Mm4, Sm4, by rw [HS.out]⟩
        case measure => simp [intOf]; omega
      · have hpos : ¬ cr < 0 := by have := hnn (by omega); omega
        rw [show (k == 0) = false by simp [hk0]] at HS0
        simp only [suS, Bool.false_eq_true, if_false] at HS0
        have HS := Lib.hid HS0
        clear HS0 hnn hz0 hk0
        have cx := (dx.stp S1).ints.cellsAt k hx
        rw [← Ex.out] at cx
        have cy := (dy.stp S1).ints.cellsAt k hy
        rw [← Ey.out] at cy
        go_wp2_with fail
        refine (sxor_any _ _ b g i0 i1 _ F1 _ M1 (Nat.le_trans hb S1.size) h0 h1 (by (try simp only [gt_len]); omega)).mono ?_; rintro e wm1 ⟨rfl, Fm1, Mm1, sm1⟩
        have Sm1 := S1.trans sm1
        obtain ⟨om1, dm1⟩ := own.stp dd sm1
        clear M1 S1 sm1 own dd
        clear cx cy
        go_wp2_with fail
        refine (sxor_any _ _ b g i0 i1 _ Fm1 _ Mm1 (Nat.le_trans hb Sm1.size) h0 h1 (by (try simp only [gt_len]); omega)).mono ?_; rintro e wm2 ⟨rfl, Fm2, Mm2, sm2⟩
        have Sm2 := Sm1.trans sm2
        obtain ⟨om2, dm2⟩ := om1.stp dm1 sm2
        clear Mm1 Sm1 sm2 om1 dm1
        go_wp2_with fail
        refine (sxor_any _ _ b g i0 i1 _ Fm2 _ Mm2 (Nat.le_trans hb Sm2.size) h0 h1 (by (try simp only [gt_len]); omega)).mono ?_; rintro e wm3 ⟨rfl, Fm3, Mm3, sm3⟩
        have Sm3 := Sm2.trans sm3
        obtain ⟨om3, dm3⟩ := om2.stp dm2 sm3
        clear Mm2 Sm2 sm3 om2 dm2
        go_wp2_with (at_builtin; refine wpList_appJ _ rfl _ _ rfl w.heap.size a1 k c1 o1 rfl (om3.alloc _) _ 1 1 [_] rfl (Ints.lit1 _ _ _) (by omega) (by have := Sm3.size; simp; omega) ?_)
        intro am4 cm4 wm4 om4 _ gm4 mm4
        have Om4 := Only.of_grown gm4
        have Mm4 := Mk.only (Mk.alloc Mm3 _) Om4 dm3
        have Sm4 := Stp.onto (Stp.alloc Sm3 _) Om4 (fun k hk => (om3.feet k hk).1)
        have dm4 : Disj (foot am4 cm4) Fm3 := mm4.disj dm3 (fun k hk => by have := (Mm3.feet k hk).2; simp; omega)
        clear Mm3 Sm3 om3 dm3 Om4 gm4 mm4
        go_wp2_with fail
        refine (snot_any _ b g i0 i1 _ Fm3 _ Mm4 (Nat.le_trans hb Sm4.size) h0 h1 (by (try simp only [gt_len]); omega)).mono ?_; rintro e wm5 ⟨rfl, Fm5, Mm5, sm5⟩
        have Sm5 := Sm4.trans sm5
        obtain ⟨om5, dm5⟩ := om4.stp dm4 sm5
        clear Mm4 Sm4 sm5 om4 dm4
        go_wp2_with fail
        refine (sand_any _ _ b g i0 i1 _ Fm5 _ Mm5 (Nat.le_trans hb Sm5.size) h0 h1 (by (try simp only [gt_len]); omega)).mono ?_; rintro e wm6 ⟨rfl, Fm6, Mm6, sm6⟩
        have Sm6 := Sm5.trans sm6
        obtain ⟨om6, dm6⟩ := om5.stp dm5 sm6
        clear Mm5 Sm5 sm6 om5 dm5
        go_wp2_with fail
        refine (sxor_any _ _ b g i0 i1 _ Fm6 _ Mm6 (Nat.le_trans hb Sm6.size) h0 h1 (by (try simp only [gt_len]); omega)).mono ?_; rintro e wm7 ⟨rfl, Fm7, Mm7, sm7⟩
        have Sm7 := Sm6.trans sm7
        obtain ⟨om7, dm7⟩ := om6.stp dm6 sm7
        clear Mm6 Sm6 sm7 om6 dm6
        go_wp2
        go_roundw
        case rel => exact ⟨k + 1, Fm7, by omega, by go_num, ⟨_, _, rfl, by rw [HS.out]; exact om7, dm7⟩, by rw [HS.out]; exact Mm7, Sm7, by rw [HS.out]⟩
        case measure => simp [intOf]; omega
    · obtain rfl : k = n := by omega
      go_wp2_with (at_builtin; refine wpList_appJ _ rfl _ _ rfl w.heap.size a1 k c1 ((suG (i0 + i1) X Y G k)).2.1 rfl (own.alloc _) _ 1 1 [_] rfl (Ints.lit1 _ _ _) (by omega) (by have := S1.size; simp; omega) ?_)
      intro am1 cm1 wm1 om1 _ gm1 mm1
      have Om1 := Only.of_grown gm1
      have Mm1 := Mk.only (Mk.alloc M1 _) Om1 dd
      have Sm1 := Stp.onto (Stp.alloc S1 _) Om1 (fun k hk => (own.feet k hk).1)
      have dm1 : Disj (foot am1 cm1) F1 := mm1.disj dd (fun k hk => by have := (M1.feet k hk).2; simp; omega)
      clear M1 S1 own dd Om1 gm1 mm1
      go_wp2
      go_ret
      exact ⟨_, _, F1, rfl, om1, dm1, Mm1, Sm1⟩
end Go.Proofs.Ytkbhigdciokfkaa
namespace Go.Proofs.Ytkbhigdciokfkaa
open Go.RowKit
set_option maxHeartbeats 8000000 in
set_option maxRecDepth 100000 in
theorem constant_any (x : Int) (n : Nat) {oa : Option Addr} {on oc : Nat} (b g : Nat) (i0 i1 : Int) (G : List Int) (F : List Nat) (w : World) (h : Mk 81 w b g i0 i1 G F oa on oc) (hb : b ≤ w.heap.size) (h0 : 0 ≤ i0 ∧ i0 ≤ 1000) (h1 : 0 ≤ i1 ∧ i1 ≤ 1000) (hx : 0 ≤ x ∧ x ≤ 1000000000) (hn : n ≤ 60) (hl : G.length ≤ 20000) :
    Calls Try.prog 90 #[.pointer (some ⟨g, 0, none⟩), .int .i64 x, .int .i64 n] w fun e w' => ∃ a1 c1 F', e = .returned (.slice a1 n c1) ∧ Own w' w.heap.size a1 n c1 (coL (gW (i0 + i1) (gt G 3 0 0)) x n) ∧ Disj (foot a1 c1) F' ∧ Mk 81 w' b g i0 i1 (gt (gt G 3 0 0) 2 (gW (i0 + i1) G) 0) F' oa on oc ∧ Stp F w F' w' := by
  have S0 := Stp.refl F w
  go_enter Try.func90, Try.ntmps90
  go_wp2_with fail
  refine (zero_any b g i0 i1 _ F _ h (Nat.le_trans hb S0.size) h0 h1 (by (try simp only [gt_len]); omega)).mono ?_; rintro e wm1 ⟨rfl, Fm1, Mm1, sm1⟩
  have Sm1 := S0.trans sm1
  clear h S0 sm1
  go_wp2_with fail
  refine (bitsOf_any x n _ hx hn).mono ?_; rintro e w2 ⟨ba, bc, rfl, ob, u2⟩
  have M2 := (Mm1.alloc (.cells #[] 3)).below u2
  have S2 := (Sm1.alloc (.cells #[] 3)).below u2
  have hz := gW_le (i0 + i1) G
  have hz' := gW_nn (G := G) (show 0 ≤ i0 + i1 by omega)
  have HZ := Lib.hid (gW_gt (i0 + i1) G 3 0 0)
  clear u2 Mm1 Sm1
  have HZ0 : ∃ z, gW (i0 + i1) G = z := ⟨_, rfl⟩
  obtain ⟨z, hz0⟩ := HZ0
  rw [hz0] at HZ hz hz' M2
  rw [HZ.out]
  try rw [hz0]
  have HZ0 := Lib.hid hz0
  clear hz0
  go_wp2
  have own0 : Own w2 w2.heap.size (some ⟨wm1.heap.size, 0, none⟩) 0 0 (coL (z + 1) x 0) := Own.nil0 _ _ _
  go_loopw [8, 18] (fun u v wr => ∃ k : Nat, k ≤ n ∧ v = .int .i64 k ∧ Below w2.heap.size w2 wr ∧ ∃ a1 c1, u = .slice a1 k c1 ∧ Own wr w2.heap.size a1 k c1 (coL (z + 1) x k)) (fun _ v _ => n - (intOf v).toNat)
  case atStart => exact ⟨0, Nat.zero_le _, rfl, Below.refl _ _, _, _, rfl, own0⟩
  case round =>
    obtain ⟨k, hk, rfl, hbel, a1, c1, rfl, own⟩ := hrel
    by_cases hlt : k < n
    · have HS := Lib.hid (coL_succ (z + 1) x k)
      obtain ⟨gb, oo, rfl, hc⟩ := (ob.ints.below hbel).at k hlt
      have hq : (btL x n).getD k 0 = x / 2 ^ k % 2 := by simp [btL, List.getD, hlt]
      have hr : 0 ≤ x / 2 ^ k % 2 ∧ x / 2 ^ k % 2 ≤ 1 := by omega
      rw [hq] at hc
      clear hq
      generalize x / 2 ^ k % 2 = y at *
      go_wp2_with (at_builtin; refine wpList_appI _ rfl _ _ rfl w2.heap.size a1 k c1 (coL (z + 1) x k) rfl (own.alloc _) _ 1 1 [z + 1 - y] rfl (Ints.lit1 _ _ _) (by omega) (by have := hbel.size; simp; omega) ?_)
      intro a5 c5 w3 o5 u5 _
      have b3 := (hbel.alloc hbel.size (.cells #[.int .i64 (z + 1 - y)] 3)).trans u5
      clear u5 hbel own hc
      go_wp2
      go_roundw
      case rel => exact ⟨k + 1, by omega, by go_num, b3, a5, c5, rfl, by rw [HS.out]; exact o5⟩
      case measure => simp [intOf]; omega
    · obtain rfl : k = n := by omega
      go_wp2
      go_ret
      exact ⟨_, _, Fm1, rfl, by rw [HZ.out]; exact own.lower S2.size, Disj.of_rng own.feet M2.feet (.inr (Nat.le_refl _)), by rw [HZ0.out]; exact M2.below hbel, S2.below hbel⟩
set_option maxHeartbeats 8000000 in
set_option maxRecDepth 100000 in
theorem gdConst_any (x : Int) (n : Nat) {oa : Option Addr} {on oc : Nat} (b g : Nat) (i0 i1 : Int) (G : List Int) (F : List Nat) (w : World) (h : Mk 79 w b g i0 i1 G F oa on oc) (hb : b ≤ w.heap.size) (h0 : 0 ≤ i0 ∧ i0 ≤ 1000) (h1 : 0 ≤ i1 ∧ i1 ≤ 1000) (hx : 0 ≤ x ∧ x ≤ 1000000000) (hn : n ≤ 60) (hl : G.length ≤ 20000) :
    Calls Try.prog 86 #[.pointer (some ⟨g, 0, none⟩), .int .i64 x, .int .i64 n] w fun e w' => ∃ a1 c1 F', e = .returned (.slice a1 n c1) ∧ Own w' w.heap.size a1 n c1 (coL (gW (i0 + i1) (gt G 3 0 0)) x n) ∧ Disj (foot a1 c1) F' ∧ Mk 79 w' b g i0 i1 (gt (gt G 3 0 0) 2 (gW (i0 + i1) G) 0) F' oa on oc ∧ Stp F w F' w' := by
  have S0 := Stp.refl F w
  go_enter Try.func86, Try.ntmps86
  go_wp2_with fail
  refine (sone_any b g i0 i1 _ F _ h (Nat.le_trans hb S0.size) h0 h1 (by (try simp only [gt_len]); omega)).mono ?_; rintro e wm1 ⟨rfl, Fm1, Mm1, sm1⟩
  have Sm1 := S0.trans sm1
  clear h S0 sm1
  go_wp2_with fail
  refine (snot_any _ b g i0 i1 _ Fm1 _ Mm1 (Nat.le_trans hb Sm1.size) h0 h1 (by (try simp only [gt_len]); omega)).mono ?_; rintro e wm2 ⟨rfl, Fm2, Mm2, sm2⟩
  have Sm2 := Sm1.trans sm2
  clear Mm1 Sm1 sm2
  go_wp2_with fail
  refine (btOf_any x n _ hx hn).mono ?_; rintro e w2 ⟨ba, bc, rfl, ob, u2⟩
  have M2 := Mm2.below u2
  have S2 := Sm2.below u2
  have hz := gW_le (i0 + i1) G
  have hz' := gW_nn (G := G) (show 0 ≤ i0 + i1 by omega)
  have HZ := Lib.hid (gW_gt (i0 + i1) G 3 0 0)
  clear u2 Mm2 Sm2
  have HZ0 : ∃ z, gW (i0 + i1) G = z := ⟨_, rfl⟩
  obtain ⟨z, hz0⟩ := HZ0
  rw [hz0] at HZ hz hz' M2
  rw [HZ.out]
  try rw [hz0]
  have HZ0 := Lib.hid hz0
  clear hz0
  go_wp2
  have own0 : Own w2 w2.heap.size none 0 0 (coL (z + 1) x 0) := Own.nil0 _ _ _
  go_loopw [9, 21] (fun u v wr => ∃ k : Nat, k ≤ n ∧ v = .int .i64 k ∧ Below w2.heap.size w2 wr ∧ ∃ a1 c1, u = .slice a1 k c1 ∧ Own wr w2.heap.size a1 k c1 (coL (z + 1) x k)) (fun _ v _ => n - (intOf v).toNat)
  case atStart => exact ⟨0, Nat.zero_le _, rfl, Below.refl _ _, _, _, rfl, own0⟩
  case round =>
    obtain ⟨k, hk, rfl, hbel, a1, c1, rfl, own⟩ := hrel
    by_cases hlt : k < n
    · have HS := Lib.hid (coL_succ (z + 1) x k)
      obtain ⟨gb, oo, rfl, hc⟩ := (ob.ints.below hbel).at k hlt
      have hq : (btL x n).getD k 0 = x / 2 ^ k % 2 := by simp [btL, List.getD, hlt]
      have hr : 0 ≤ x / 2 ^ k % 2 ∧ x / 2 ^ k % 2 ≤ 1 := by omega
      rw [hq] at hc
      clear hq
      generalize x / 2 ^ k % 2 = y at *
      by_cases h1 : y = 1
      · subst h1
        go_wp2_with (at_builtin; refine wpList_appI _ rfl _ _ rfl w2.heap.size a1 k c1 (coL (z + 1) x k) rfl (own.alloc _) _ 1 1 [z] rfl (Ints.lit1 _ _ _) (by omega) (by have := hbel.size; simp; omega) ?_)
        intro a5 c5 w3 o5 u5 _
        have b3 := (hbel.alloc hbel.size (.cells #[.int .i64 (z)] 3)).trans u5
        clear u5 hbel own hc
        go_wp2
        go_roundw
        case rel => exact ⟨k + 1, by omega, by go_num, b3, a5, c5, rfl, by
          rw [HS.out]
          have e : z + 1 - 1 = z := by omega
          rw [e]; exact o5⟩
        case measure => simp [intOf]; omega
      · have h1' : (y == 1) = false := by simp [h1]
        go_wp2_with (at_builtin; refine wpList_appI _ rfl _ _ rfl w2.heap.size a1 k c1 (coL (z + 1) x k) rfl (own.alloc _) _ 1 1 [z + 1] rfl (Ints.lit1 _ _ _) (by omega) (by have := hbel.size; simp; omega) ?_)
        intro a5 c5 w3 o5 u5 _
        have b3 := (hbel.alloc hbel.size (.cells #[.int .i64 (z + 1)] 3)).trans u5
        clear u5 hbel own hc
        go_wp2
        go_roundw
        case rel => exact ⟨k + 1, by omega, by go_num, b3, a5, c5, rfl, by
          rw [HS.out]
          have e : y = 0 := by omega
          rw [e, Int.sub_zero]; exact o5⟩
        case measure => simp [intOf]; omega
    · obtain rfl : k = n := by omega
      go_wp2
      go_ret
      exact ⟨_, _, Fm2, rfl, by rw [HZ.out]; exact own.lower S2.size, Disj.of_rng own.feet M2.feet (.inr (Nat.le_refl _)), by rw [HZ0.out]; exact M2.below hbel, S2.below hbel⟩
end Go.Proofs.Ytkbhigdciokfkaa
namespace Go.Proofs.Ytkbhigdciokfkaa
open Go.RowKit
set_option maxHeartbeats 8000000 in
set_option maxRecDepth 100000 in
theorem reduceCircuit_any (p : Int) (w : World) (hp : 2 ≤ p) (hp2 : p ≤ 256) :
    Calls Try.prog 43 #[.int .i64 p] w fun e w' => ∃ ga gn gc oa on oc, e = .returned (.agg #[.int .i64 (wid p), .int .i64 (wid p), .slice ga gn gc, .slice oa on oc]) ∧ OwnF 3 eGate w' w.heap.size ga gn gc (reG p) ∧ Own w' w.heap.size oa on oc (reO p) ∧ Disj (foot ga gc) (foot oa oc) ∧ Below w.heap.size w w' := by
  obtain ⟨n, hn⟩ : ∃ n, n = wid p := ⟨_, rfl⟩
  have hn8 := wid_le p
  have hn1 := wid_cases p
  rw [← hn] at hn8 hn1
  replace hn1 : 1 ≤ n := by omega
  unfold reG reO
  rw [← hn]
  have e1 : Hid (((n : Int) + 1) = ((n + 1 : Nat) : Int)) := rfl
  go_enter Try.func43, Try.ntmps43
  go_wp2_with fail
  refine (widthFor_any p _ (by omega) hp2).mono ?_; rintro e w' ⟨rfl, rfl⟩
  rw [← hn]
  clear hn
  go_wp2_with fail
  have R3 : Blk ((w.alloc (.cells #[.int .i64 0, .int .i64 0, .slice none 0 0, .slice none 0 0] 25)).alloc (.cells #[.int .i64 (n : Int), .int .i64 (n : Int), .slice none 0 0, .slice none 0 0] 81)) w.heap.size 25 #[.int .i64 0, .int .i64 0, .slice none 0 0, .slice none 0 0] := (Blk.new w _ _).alloc _
  have M3 : Mk 81 ((w.alloc (.cells #[.int .i64 0, .int .i64 0, .slice none 0 0, .slice none 0 0] 25)).alloc (.cells #[.int .i64 (n : Int), .int .i64 (n : Int), .slice none 0 0, .slice none 0 0] 81)) (w.heap.size + 1) (w.heap.size + 1) n n [] [w.heap.size + 1] := by simpa using Mk.new 81 (w.alloc (.cells #[.int .i64 0, .int .i64 0, .slice none 0 0, .slice none 0 0] 25)) (w.heap.size + 1) (n : Int) (n : Int) (by simp)
  have V3 : Below w.heap.size w ((w.alloc (.cells #[.int .i64 0, .int .i64 0, .slice none 0 0, .slice none 0 0] 25)).alloc (.cells #[.int .i64 (n : Int), .int .i64 (n : Int), .slice none 0 0, .slice none 0 0] 81)) := ((Below.refl _ _).alloc (Nat.le_refl _) _).alloc (by simp) _
  have Z3 : w.heap.size + 1 + 1 ≤ ((w.alloc (.cells #[.int .i64 0, .int .i64 0, .slice none 0 0, .slice none 0 0] 25)).alloc (.cells #[.int .i64 (n : Int), .int .i64 (n : Int), .slice none 0 0, .slice none 0 0] 81)).heap.size := by simp
  generalize ((w.alloc (.cells #[.int .i64 0, .int .i64 0, .slice none 0 0, .slice none 0 0] 25)).alloc (.cells #[.int .i64 (n : Int), .int .i64 (n : Int), .slice none 0 0, .slice none 0 0] 81)) = w3 at *
  refine (span_any 0 n _ (by omega) (by omega)).mono ?_; rintro e w4 ⟨xa, xc, rfl, oa4, u4⟩
  go_wp2_with fail
  refine (span_any n n _ (by omega) (by omega)).mono ?_; rintro e w5 ⟨ya, yc, rfl, ob5, u5⟩
  have M4 := M3.below u4
  have M5 := M4.below u5
  have R5 := (R3.below u4).below u5
  have V5 := (V3.trans (u4.mono V3.size)).trans (u5.mono (V3.trans (u4.mono V3.size)).size)
  have Z5 : w.heap.size + 1 + 1 ≤ w5.heap.size := Nat.le_trans Z3 (Nat.le_trans u4.size u5.size)
  have dA := (oa4.below u5).intD (Disj.of_rng oa4.feet M3.feet (.inr (Nat.le_refl _)))
  have dB := ob5.intD (Disj.of_rng ob5.feet M4.feet (.inr (Nat.le_refl _)))
  clear oa4 ob5 u4 u5 M3 M4 R3 V3 Z3
  go_wp2_with fail
  have h0 : (0 : Int) ≤ (n : Int) ∧ (n : Int) ≤ 1000 := by omega
  have L1 := adG_len ((n : Int) + n) (spL 0 n) (spL n n) [] n
  refine (add_any _ n _ _ _ n _ _ (w.heap.size + 1) (w.heap.size + 1) n n [] _ w5 M5 (by omega) h0 h0 dA dB (Nat.le_refl _) (by omega) (by simp)).mono ?_; rintro e w6 ⟨sa, sc, F6, rfl, os6, ds6, M6, s6⟩
  clear dA dB M5
  obtain ⟨⟨G1, q1, z1⟩, hr1⟩ : ∃ r, r = adG ((n : Int) + n) (spL 0 n) (spL n n) [] n := ⟨_, rfl⟩
  rw [← hr1] at os6 M6 L1
  simp only [List.length_nil] at L1
  try rw [← hr1]
  have H1 : Hid (re1 n = (G1, q1, z1)) := hr1.symm
  clear hr1
  go_wp2_with (at_builtin; refine wpList_appJ _ rfl _ _ rfl w5.heap.size sa n sc q1 rfl (os6.alloc _) _ 1 1 [z1] rfl (Ints.lit1 _ _ _) (by omega) (by have := s6.size; simp; omega) ?_)
  intro ta tc w7 ot _ g7 m7
  have O7 := Only.of_grown g7
  have M7 := Mk.only (Mk.alloc M6 _) O7 ds6
  have s7 := Stp.onto (Stp.alloc s6 _) O7 (fun k hk => (os6.feet k hk).1)
  have dt : Disj (foot ta tc) F6 := m7.disj ds6 (fun k hk => by have := (M6.feet k hk).2; simp; omega)
  clear os6 ds6 M6 s6 O7 g7 m7
  go_wp2_with fail
  rw [e1.out]
  refine (constant_any p (n + 1) (w.heap.size + 1) (w.heap.size + 1) n n G1 F6 w7 M7 (by have := s7.size; omega) h0 h0 (by omega) (by omega) (by omega)).mono ?_; rintro e w8 ⟨ca, cc, F8, rfl, oc8, dc8, M8, s8⟩
  obtain ⟨ot8, dt8⟩ := ot.stp dt s8
  have s9 := s7.trans s8
  clear ot dt M7 s7 s8
  go_wp2_with fail
  have L3 := suG_len ((n : Int) + n) (q1 ++ [z1]) (coL (gW ((n : Int) + n) (gt G1 3 0 0)) p (n + 1)) (gt (gt G1 3 0 0) 2 (gW ((n : Int) + n) G1) 0) (n + 1)
  simp only [gt_len] at L3
  refine (subtract_any _ (n + 1) _ _ _ (n + 1) _ _ (w.heap.size + 1) (w.heap.size + 1) n n _ F8 w8 M8 (by have := s9.size; omega) h0 h0 (ot8.intD dt8) (oc8.intD dc8) (Nat.le_refl _) (by omega) (by simp only [gt_len]; omega)).mono ?_; rintro e w10 ⟨da, dc, F10, rfl, od, dd, M10, s10⟩
  obtain ⟨ot10, dt10⟩ := ot8.stp dt8 s10
  have s11 := s9.trans s10
  clear ot8 dt8 oc8 dc8 M8 s9 s10
  obtain ⟨⟨G3, q3, z3⟩, hr3⟩ : ∃ r, r = suG ((n : Int) + n) (q1 ++ [z1]) (coL (gW ((n : Int) + n) (gt G1 3 0 0)) p (n + 1)) (gt (gt G1 3 0 0) 2 (gW ((n : Int) + n) G1) 0) (n + 1) := ⟨_, rfl⟩
  rw [← hr3] at od M10 L3
  try rw [← hr3]
  have H3 : Hid (re3 n p (G1, q1, z1) = (G3, q3, z3)) := hr3.symm
  clear hr3
  simp only at L1 L3 od M10
  have HC := Lib.hid (chG_take ((n : Int) + n) z3 (q1 ++ [z1]) (q3) G3 n n (Nat.le_refl _))
  have R10 := R5.only s11.only (by simp)
  have V10 := V5.trans (s11.out (B := w.heap.size) (by omega) (by simp))
  have Z10 := s11.size
  have HB := Lib.hid (fun k hk => (M10.feet k hk).1)
  clear R5 V5 s11
  have iS := (ot10.intD dt10).pre n (by omega) (by omega)
  have iD := (od.intD dd).pre n (by omega) (by omega)
  obtain ⟨gs, os, hgs, _⟩ := ot10.ints.at 0 (by omega)
  obtain ⟨gd, o_d, hgd, _⟩ := od.ints.at 0 (by omega)
  subst hgs hgd
  have capS := ot10.cap
  have capD := od.cap
  clear ot10 dt10 od dd
  obtain ⟨⟨G4, q4⟩, hr4⟩ : ∃ r, r = chG ((n : Int) + n) z3 (q1 ++ [z1]) q3 G3 n := ⟨_, rfl⟩
  have H4 : Hid (re4 n (re1 n) (re3 n p (re1 n)) = (G4, q4)) := Lib.hid (by rw [H1.out, H3.out]; exact hr4.symm)
  clear H1 H3
  have HR := Lib.hid hr4
  clear hr4
  go_upto_region 6 with fail
  go_cut [] (fun wx => ∃ ga gn gc oa oc, Blk wx (w.heap.size + 1) 81 #[.int .i64 (n : Int), .int .i64 (n : Int), .slice ga gn gc, .slice oa n oc] ∧ Blk wx w.heap.size 25 #[.int .i64 0, .int .i64 0, .slice none 0 0, .slice none 0 0] ∧ Below w.heap.size w wx ∧ OwnF 3 eGate wx (w.heap.size + 1) ga gn gc G4 ∧ Own wx (w.heap.size + 2) oa n oc q4 ∧ Disj (foot ga gc) (foot oa oc))
  case first =>
    go_region_with (go_at_call 51; refine (choose_any z3 _ n _ _ _ n _ _ (w.heap.size + 1) (w.heap.size + 1) n n G3 F10 _ M10.drew (by simp; omega) h0 h0 (iS.below ((Below.refl _ _).drew)) (iD.below ((Below.refl _ _).drew)) (Nat.le_refl _) (by omega) (by omega)).mono ?_; rintro e w11 ⟨oa, oc, F11, rfl, oo, do_, M11, s12⟩; obtain ⟨ga, gn, gc, hB, ho, hg, hbg, hF⟩ := M11; have x3 := hB.cell 3; have y3 := hB.frozen 3)
    all_goals
      rw [HC.out] at oo ho
      rw [← HR.out] at oo ho
      have B11 := hB.set_ 3 (.slice oa n oc)
      have O11 : Only [w.heap.size + 1] w11 (w11.setCell ⟨w.heap.size + 1, 3, none⟩ (.slice oa n oc)) := (Only.refl _ _).setCell _ _ (by simp)
      have R11 := ((R10.drew).only s12.only (fun hm => by have := HB.out _ hm; omega)).only O11 (by simp)
      have V11 := (V10.drew.trans (s12.out (B := w.heap.size) (Nat.le_trans V10.size (Nat.le_refl _)) (fun k hk => by have := HB.out _ hk; omega))).trans (O11.below (Nat.le_trans V10.size s12.size) (by simp))
      have ho11 := OwnF.only ho O11 (fun k hk hk' => hg (by simp at hk'; subst hk'; exact hk))
      have oo11 := Own.only oo O11 (fun k hk hk' => do_ k hk (by rw [hF]; simp at hk'; subst hk'; simp))
      have hdd : Disj (foot ga gc) (foot oa oc) := fun k hk hk' => do_ k hk' (by rw [hF]; exact List.mem_cons_of_mem _ hk)
      have Z11 : w.heap.size + 1 < w10.drew.heap.size := (show w.heap.size + 1 < w10.heap.size by omega)
      try go_wp2_with fail
      go_meet
      exact ⟨ga, gn, gc, oa, oc, B11, R11, V11, ho11, oo11.lower (by omega), hdd⟩
  case rest =>
    clear R10 V10 M10 iS iD
    obtain ⟨ga, gn, gc, oa, oc, B11, R11, V11, ho11, oo11, hdd⟩ := hcut
    have Q1 := Lib.hid ho11.feet
    have Q2 := Lib.hid oo11.feet
    have x0 : wc.cell? ⟨w.heap.size + 1, 0, none⟩ = some (.int .i64 (n : Int)) := B11.cell 0
    have x1 : wc.cell? ⟨w.heap.size + 1, 1, none⟩ = some (.int .i64 (n : Int)) := B11.cell 1
    have x2 : wc.cell? ⟨w.heap.size + 1, 2, none⟩ = some (.slice ga gn gc) := B11.cell 2
    have x3 : wc.cell? ⟨w.heap.size + 1, 3, none⟩ = some (.slice oa n oc) := B11.cell 3
    have r0 : wc.cell? ⟨w.heap.size, 0, none⟩ = some (.int .i64 0) := R11.cell 0
    have q0 : wc.frozen? ⟨w.heap.size, 0, none⟩ = false := R11.frozen 0
    have r1 : wc.cell? ⟨w.heap.size, 1, none⟩ = some (.int .i64 0) := R11.cell 1
    have q1 : wc.frozen? ⟨w.heap.size, 1, none⟩ = false := R11.frozen 1
    have r2 : wc.cell? ⟨w.heap.size, 2, none⟩ = some (.slice none 0 0) := R11.cell 2
    have q2 : wc.frozen? ⟨w.heap.size, 2, none⟩ = false := R11.frozen 2
    have r3 : wc.cell? ⟨w.heap.size, 3, none⟩ = some (.slice none 0 0) := R11.cell 3
    have q3 : wc.frozen? ⟨w.heap.size, 3, none⟩ = false := R11.frozen 3
    go_wp2
    have GG := (((((Only.refl [w.heap.size] wc).setCell ⟨w.heap.size, 0, none⟩ (.int .i64 (n : Int)) (by simp)).setCell ⟨w.heap.size, 1, none⟩ (.int .i64 (n : Int)) (by simp)).setCell ⟨w.heap.size, 2, none⟩ (.slice ga gn gc) (by simp)).setCell ⟨w.heap.size, 3, none⟩ (.slice oa n oc) (by simp))
    exact bodyPost_ret (v := .agg #[.int .i64 (n : Int), .int .i64 (n : Int), .slice ga gn gc, .slice oa n oc]) (by simp [results, Try.results43, go_sem, r0, r1, r2, r3]) rfl ⟨_, _, _, _, _, _, rfl, by rw [H4.out]; exact (ho11.only GG (fun k hk hk' => by have := Q1.out k hk; simp at hk'; omega)).lower (by omega), by rw [H4.out]; exact (oo11.only GG (fun k hk hk' => by have := Q2.out k hk; simp at hk'; omega)).lower (by omega), hdd, V11.trans (GG.below V11.size (by simp))⟩
set_option maxHeartbeats 8000000 in
set_option maxRecDepth 100000 in
theorem cvReduce_any (p : Int) (w : World) (hp : 2 ≤ p) (hp2 : p ≤ 256) :
    Calls Try.prog 41 #[.int .i64 p] w fun e w' => ∃ ga gn gc oa on oc, e = .returned (.agg #[.int .i64 (wid p), .int .i64 (wid p), .slice ga gn gc, .slice oa on oc]) ∧ OwnF 3 eGate w' w.heap.size ga gn gc (reG p) ∧ Own w' w.heap.size oa on oc (reO p) ∧ Disj (foot ga gc) (foot oa oc) ∧ Below w.heap.size w w' := by
  obtain ⟨n, hn⟩ : ∃ n, n = wid p := ⟨_, rfl⟩
  have hn8 := wid_le p
  have hn1 := wid_cases p
  rw [← hn] at hn8 hn1
  replace hn1 : 1 ≤ n := by omega
  unfold reG reO
  rw [← hn]
  have e1 : Hid (((n : Int) + 1) = ((n + 1 : Nat) : Int)) := rfl
  go_enter Try.func41, Try.ntmps41
  go_wp2_with fail
  refine (cvWidth_any p _ (by omega) hp2).mono ?_; rintro e w' ⟨rfl, rfl⟩
  rw [← hn]
  clear hn
  go_wp2_with fail
  have R1 : Blk (w.alloc (.cells #[.int .i64 0, .int .i64 0, .slice none 0 0, .slice none 0 0] 25)) w.heap.size 25 #[.int .i64 0, .int .i64 0, .slice none 0 0, .slice none 0 0] := Blk.new w _ _
  have V1 : Below w.heap.size w (w.alloc (.cells #[.int .i64 0, .int .i64 0, .slice none 0 0, .slice none 0 0] 25)) := (Below.refl _ _).alloc (Nat.le_refl _) _
  have Z1 : w.heap.size + 1 = (w.alloc (.cells #[.int .i64 0, .int .i64 0, .slice none 0 0, .slice none 0 0] 25)).heap.size := by simp
  generalize (w.alloc (.cells #[.int .i64 0, .int .i64 0, .slice none 0 0, .slice none 0 0] 25)) = w1 at *
  refine (ciNew_any _ _ w1.heap.size w1 (Nat.le_refl _)).mono ?_; rintro e w3 ⟨rfl, M3, u3, Z3⟩
  have R3 := R1.below u3
  have V3 := V1.trans (u3.mono V1.size)
  rw [← Z1] at *
  clear R1 V1 u3 Z1
  go_wp2_with fail
  refine (gdRange_any 0 n _ (by omega) (by omega)).mono ?_; rintro e w4 ⟨xa, xc, rfl, oa4, u4⟩
  go_wp2_with fail
  refine (gdRange_any n n _ (by omega) (by omega)).mono ?_; rintro e w5 ⟨ya, yc, rfl, ob5, u5⟩
  have M4 := M3.below u4
  have M5 := M4.below u5
  have R5 := (R3.below u4).below u5
  have V5 := (V3.trans (u4.mono V3.size)).trans (u5.mono (V3.trans (u4.mono V3.size)).size)
  have Z5 : w.heap.size + 1 + 1 ≤ w5.heap.size := Nat.le_trans Z3 (Nat.le_trans u4.size u5.size)
  have dA := (oa4.below u5).intD (Disj.of_rng oa4.feet M3.feet (.inr (Nat.le_refl _)))
  have dB := ob5.intD (Disj.of_rng ob5.feet M4.feet (.inr (Nat.le_refl _)))
  clear oa4 ob5 u4 u5 M3 M4 R3 V3 Z3
  go_wp2_with fail
  have h0 : (0 : Int) ≤ (n : Int) ∧ (n : Int) ≤ 1000 := by omega
  have L1 := adG_len ((n : Int) + n) (spL 0 n) (spL n n) [] n
  refine (gdAdd_any _ n _ _ _ n _ _ (w.heap.size + 1) (w.heap.size + 1) n n [] _ w5 M5 (by omega) h0 h0 dA dB (Nat.le_refl _) (by omega) (by simp)).mono ?_; rintro e w6 ⟨sa, sc, F6, rfl, os6, ds6, M6, s6⟩
  clear dA dB M5
  obtain ⟨⟨G1, q1, z1⟩, hr1⟩ : ∃ r, r = adG ((n : Int) + n) (spL 0 n) (spL n n) [] n := ⟨_, rfl⟩
  rw [← hr1] at os6 M6 L1
  simp only [List.length_nil] at L1
  try rw [← hr1]
  have H1 : Hid (re1 n = (G1, q1, z1)) := hr1.symm
  clear hr1
  have ot := os6
  have dt := ds6
  have M7 := M6
  have s7 := s6
  clear os6 ds6 M6 s6
  go_wp2_with fail
  rw [e1.out]
  refine (gdConst_any p (n + 1) (w.heap.size + 1) (w.heap.size + 1) n n G1 F6 w6 M7 (by have := s7.size; omega) h0 h0 (by omega) (by omega) (by omega)).mono ?_; rintro e w8 ⟨ca, cc, F8, rfl, oc8, dc8, M8, s8⟩
  obtain ⟨ot8, dt8⟩ := ot.stp dt s8
  have s9 := s7.trans s8
  clear ot dt M7 s7 s8
  go_wp2_with fail
  have L3 := suG_len ((n : Int) + n) (q1 ++ [z1]) (coL (gW ((n : Int) + n) (gt G1 3 0 0)) p (n + 1)) (gt (gt G1 3 0 0) 2 (gW ((n : Int) + n) G1) 0) (n + 1)
  simp only [gt_len] at L3
  refine (gdSub_any _ (n + 1) _ _ _ (n + 1) _ _ (w.heap.size + 1) (w.heap.size + 1) n n _ F8 w8 M8 (by have := s9.size; omega) h0 h0 (ot8.intD dt8) (oc8.intD dc8) (Nat.le_refl _) (by omega) (by simp only [gt_len]; omega)).mono ?_; rintro e w10 ⟨da, dc, F10, rfl, od, dd, M10, s10⟩
  obtain ⟨ot10, dt10⟩ := ot8.stp dt8 s10
  have s11 := s9.trans s10
  clear ot8 dt8 oc8 dc8 M8 s9 s10
  obtain ⟨⟨G3, q3, z3⟩, hr3⟩ : ∃ r, r = suG ((n : Int) + n) (q1 ++ [z1]) (coL (gW ((n : Int) + n) (gt G1 3 0 0)) p (n + 1)) (gt (gt G1 3 0 0) 2 (gW ((n : Int) + n) G1) 0) (n + 1) := ⟨_, rfl⟩
  rw [← hr3] at od M10 L3
  try rw [← hr3]
  have H3 : Hid (re3 n p (G1, q1, z1) = (G3, q3, z3)) := hr3.symm
  clear hr3
  simp only at L1 L3 od M10
  have HC := Lib.hid (chG_take ((n : Int) + n) z3 (q1 ++ [z1]) (q3 ++ [z3]) G3 n n (Nat.le_refl _))
  have HC2 := Lib.hid (chG_app ((n : Int) + n) z3 (q1 ++ [z1]) q3 [z3] G3 n (by omega))
  have R10 := R5.only s11.only (by simp)
  have V10 := V5.trans (s11.out (B := w.heap.size) (by omega) (by simp))
  have Z10 := s11.size
  have HB := Lib.hid (fun k hk => (M10.feet k hk).1)
  clear R5 V5 s11
  have iS := (ot10.intD dt10).pre n (by omega) (by omega)
  have iD := (od.intD dd).pre n (by omega) (by omega)
  obtain ⟨gs, os, hgs, _⟩ := ot10.ints.at 0 (by omega)
  obtain ⟨gd, o_d, hgd, cB⟩ := od.ints.at (n + 1) (by omega)
  subst hgs hgd
  have capS := ot10.cap
  have capD := od.cap
  have eB : (q3 ++ [z3]).getD (n + 1) 0 = z3 := by simp [List.getD, L3.2]
  rw [eB] at cB
  clear eB
  have hidx : ((n : Int) + 1) < ((n + 1 + 1 : Nat) : Int) := by omega
  have hidx0 : (0 : Int) ≤ (n : Int) + 1 := by omega
  have hidt : ((n : Int) + 1).toNat = n + 1 := by omega
  have hidw : IntKind.i64.wrap ((n : Int) + 1) = (n : Int) + 1 := IntWalk.i64_in _ (by omega)
  clear ot10 dt10 od dd
  obtain ⟨⟨G4, q4⟩, hr4⟩ : ∃ r, r = chG ((n : Int) + n) z3 (q1 ++ [z1]) q3 G3 n := ⟨_, rfl⟩
  have H4 : Hid (re4 n (re1 n) (re3 n p (re1 n)) = (G4, q4)) := Lib.hid (by rw [H1.out, H3.out]; exact hr4.symm)
  clear H1 H3
  have HR := Lib.hid hr4
  clear hr4
  go_upto_region 5 with fail
  go_cut [] (fun wx => ∃ ga gn gc oa oc, Blk wx (w.heap.size + 1) 79 #[.int .i64 (n : Int), .int .i64 (n : Int), .slice ga gn gc, .slice oa n oc] ∧ Blk wx w.heap.size 25 #[.int .i64 0, .int .i64 0, .slice none 0 0, .slice none 0 0] ∧ Below w.heap.size w wx ∧ OwnF 3 eGate wx (w.heap.size + 1) ga gn gc G4 ∧ Own wx (w.heap.size + 2) oa n oc q4 ∧ Disj (foot ga gc) (foot oa oc))
  case first =>
    go_region_with (go_at_call 87; refine (gdPick_any z3 _ n _ _ _ n _ _ (w.heap.size + 1) (w.heap.size + 1) n n G3 F10 _ M10.drew (by simp; omega) h0 h0 (iS.below ((Below.refl _ _).drew)) (iD.below ((Below.refl _ _).drew)) (Nat.le_refl _) (by omega) (by omega)).mono ?_; rintro e w11 ⟨oa, oc, F11, rfl, oo, do_, M11, s12⟩; obtain ⟨ga, gn, gc, hB, ho, hg, hbg, hF⟩ := M11; have x3 := hB.cell 3; have y3 := hB.frozen 3)
    all_goals
      rw [HC.out] at oo ho
      rw [HC2.out] at oo ho
      rw [← HR.out] at oo ho
      have B11 := hB.set_ 3 (.slice oa n oc)
      have O11 : Only [w.heap.size + 1] w11 (w11.setCell ⟨w.heap.size + 1, 3, none⟩ (.slice oa n oc)) := (Only.refl _ _).setCell _ _ (by simp)
      have R11 := ((R10.drew).only s12.only (fun hm => by have := HB.out _ hm; omega)).only O11 (by simp)
      have V11 := (V10.drew.trans (s12.out (B := w.heap.size) (Nat.le_trans V10.size (Nat.le_refl _)) (fun k hk => by have := HB.out _ hk; omega))).trans (O11.below (Nat.le_trans V10.size s12.size) (by simp))
      have ho11 := OwnF.only ho O11 (fun k hk hk' => hg (by simp at hk'; subst hk'; exact hk))
      have oo11 := Own.only oo O11 (fun k hk hk' => do_ k hk (by rw [hF]; simp at hk'; subst hk'; simp))
      have hdd : Disj (foot ga gc) (foot oa oc) := fun k hk hk' => do_ k hk' (by rw [hF]; exact List.mem_cons_of_mem _ hk)
      have Z11 : w.heap.size + 1 < w10.drew.heap.size := (show w.heap.size + 1 < w10.heap.size by omega)
      try go_wp2_with fail
      go_meet
      exact ⟨ga, gn, gc, oa, oc, B11, R11, V11, ho11, oo11.lower (by omega), hdd⟩
  case rest =>
    clear R10 V10 M10 iS iD
    obtain ⟨ga, gn, gc, oa, oc, B11, R11, V11, ho11, oo11, hdd⟩ := hcut
    have Q1 := Lib.hid ho11.feet
    have Q2 := Lib.hid oo11.feet
    have x0 : wc.cell? ⟨w.heap.size + 1, 0, none⟩ = some (.int .i64 (n : Int)) := B11.cell 0
    have x1 : wc.cell? ⟨w.heap.size + 1, 1, none⟩ = some (.int .i64 (n : Int)) := B11.cell 1
    have x2 : wc.cell? ⟨w.heap.size + 1, 2, none⟩ = some (.slice ga gn gc) := B11.cell 2
    have x3 : wc.cell? ⟨w.heap.size + 1, 3, none⟩ = some (.slice oa n oc) := B11.cell 3
    have r0 : wc.cell? ⟨w.heap.size, 0, none⟩ = some (.int .i64 0) := R11.cell 0
    have q0 : wc.frozen? ⟨w.heap.size, 0, none⟩ = false := R11.frozen 0
    have r1 : wc.cell? ⟨w.heap.size, 1, none⟩ = some (.int .i64 0) := R11.cell 1
    have q1 : wc.frozen? ⟨w.heap.size, 1, none⟩ = false := R11.frozen 1
    have r2 : wc.cell? ⟨w.heap.size, 2, none⟩ = some (.slice none 0 0) := R11.cell 2
    have q2 : wc.frozen? ⟨w.heap.size, 2, none⟩ = false := R11.frozen 2
    have r3 : wc.cell? ⟨w.heap.size, 3, none⟩ = some (.slice none 0 0) := R11.cell 3
    have q3 : wc.frozen? ⟨w.heap.size, 3, none⟩ = false := R11.frozen 3
    go_wp2
    have GG := (((((Only.refl [w.heap.size] wc).setCell ⟨w.heap.size, 0, none⟩ (.int .i64 (n : Int)) (by simp)).setCell ⟨w.heap.size, 1, none⟩ (.int .i64 (n : Int)) (by simp)).setCell ⟨w.heap.size, 2, none⟩ (.slice ga gn gc) (by simp)).setCell ⟨w.heap.size, 3, none⟩ (.slice oa n oc) (by simp))
    exact bodyPost_ret (v := .agg #[.int .i64 (n : Int), .int .i64 (n : Int), .slice ga gn gc, .slice oa n oc]) (by simp [results, Try.results41, go_sem, r0, r1, r2, r3]) rfl ⟨_, _, _, _, _, _, rfl, by rw [H4.out]; exact (ho11.only GG (fun k hk hk' => by have := Q1.out k hk; simp at hk'; omega)).lower (by omega), by rw [H4.out]; exact (oo11.only GG (fun k hk hk' => by have := Q2.out k hk; simp at hk'; omega)).lower (by omega), hdd, V11.trans (GG.below V11.size (by simp))⟩
end Go.Proofs.Ytkbhigdciokfkaa
namespace Go.Proofs.Ytkbhigdciokfkaa
open Go.RowKit
theorem re_at {p : Int} (h : isPr p = true) : ciB (wid p) (wid p) ((reG p).length / 3) (reG p) (reO p) = true ∧ (reG p).length ≤ 900 ∧ (reO p).length ≤ 900 := by
  obtain ⟨h1, h2⟩ := isPr_range h
  have hn8 := wid_le p
  have hn1 := wid_cases p
  unfold reG reO
  obtain ⟨n, hn⟩ : ∃ n, n = wid p := ⟨_, rfl⟩
  rw [← hn] at hn1 hn8 ⊢
  replace hn1 : 1 ≤ n := by omega
  clear hn
  have hB : (0 : Int) ≤ (n : Int) + n := by omega
  have la := adG_len ((n : Int) + n) (spL 0 n) (spL n n) [] n
  obtain ⟨ga, ma, wa, ca⟩ := adG_good (Gd.nil hB) (spL_ws (B := (n : Int) + n) (G := []) n (Int.le_refl 0) (by omega)) (spL_ws (B := (n : Int) + n) (f := n) (G := []) n (by omega) (by omega)) n (by rw [spL_len]; exact Nat.le_refl _) (by rw [spL_len]; exact Nat.le_refl _)
  have e1 : re1 n = adG ((n : Int) + n) (spL 0 n) (spL n n) [] n := rfl
  rw [← e1] at la ga ma wa ca
  clear e1
  generalize re1 n = r at *
  replace ca := ca (by omega)
  have g2 := ga.one
  have n2 := Wr.new (G := r.1) hB 3 0 0
  have g3 := g2.not n2
  have m2 := Mo.gt ((n : Int) + n) r.1 3 0 0
  have m3 := Mo.gt ((n : Int) + n) (gt r.1 3 0 0) 2 (gW ((n : Int) + n) r.1) 0
  have n3 := Wr.new (G := gt r.1 3 0 0) hB 2 (gW ((n : Int) + n) r.1) 0
  have ws := ((m2.trans m3).ws wa).app (Ws.one ((m2.trans m3).wr ca))
  have wc : Ws ((n : Int) + n) (gt (gt r.1 3 0 0) 2 (gW ((n : Int) + n) r.1) 0) (coL (gW ((n : Int) + n) (gt r.1 3 0 0)) p (n + 1)) := coL_ws (n + 1) n3 (by rw [gW_gt, show gW ((n : Int) + n) r.1 + 1 - 1 = gW ((n : Int) + n) r.1 by omega]; exact m3.wr n2)
  have ls := suG_len ((n : Int) + n) (r.2.1 ++ [r.2.2]) (coL (gW ((n : Int) + n) (gt r.1 3 0 0)) p (n + 1)) (gt (gt r.1 3 0 0) 2 (gW ((n : Int) + n) r.1) 0) (n + 1)
  obtain ⟨gs, ms, wd, cd⟩ := suG_good g3 ws wc (n + 1) (by rw [List.length_append]; simp; omega) (by rw [coL_len]; exact Nat.le_refl _)
  have e3 : re3 n p r = suG ((n : Int) + n) (r.2.1 ++ [r.2.2]) (coL (gW ((n : Int) + n) (gt r.1 3 0 0)) p (n + 1)) (gt (gt r.1 3 0 0) 2 (gW ((n : Int) + n) r.1) 0) (n + 1) := rfl
  rw [← e3] at ls gs ms wd cd
  clear e3
  generalize re3 n p r = q at *
  replace cd := cd (by omega)
  have lc := chG_len ((n : Int) + n) q.2.2 (r.2.1 ++ [r.2.2]) q.2.1 q.1 n
  obtain ⟨gz, mz, wz⟩ := chG_good gs cd (ms.ws ws) wd n (by rw [List.length_append]; omega) (by omega)
  have e4 : re4 n r q = chG ((n : Int) + n) q.2.2 (r.2.1 ++ [r.2.2]) q.2.1 q.1 n := rfl
  rw [← e4] at lc gz mz wz
  simp only [gt_len, List.length_nil] at ls la
  exact ⟨ci_good (by omega) (by omega) gz wz rfl (by omega) (by omega), by omega, by omega⟩
theorem re_ok {p : Int} (h : isPr p = true) : ciB (wid p) (wid p) ((reG p).length / 3) (reG p) (reO p) = true := (re_at h).1
end Go.Proofs.Ytkbhigdciokfkaa
namespace Go.Proofs.Ytkbhigdciokfkaa
open Go.RowKit
theorem pairB_true {p : Int} {l : List Int} (h : pairB p l = true) : ∃ y0 y1, l = [y0, y1] ∧ (0 ≤ y0 ∧ y0 ≤ p - 1) ∧ (0 ≤ y1 ∧ y1 ≤ p - 1) ∧ isPr p = true := by
  simp only [pairB, Bool.and_eq_true, decide_eq_true_eq] at h
  obtain ⟨h1, h2⟩ := h
  obtain ⟨h3, _, _, h4⟩ := elsB_true h1
  rw [allB_iff] at h4
  match l, h2, h4 with
  | [x, y], _, h4 => exact ⟨x, y, rfl, h4 x (by simp), h4 y (by simp), h3⟩
end Go.Proofs.Ytkbhigdciokfkaa
namespace Go.Proofs.Ytkbhigdciokfkaa
open Go.RowKit
def stB (p key : Int) (l : List Int) : Bool := pairB p l && inB key 0 1000000000
def stT (p key : Int) (l : List Int) : SbT := sbR key (reG p) (siF key (btL (l.getD 0 0) (wid p)) (wid p) (wid p)) (siS key (btL (l.getD 1 0) (wid p)) (wid p) (wid p)) ((reG p).length / 3)
def stL1 (p key : Int) (l : List Int) : List Int := if stB p key l then pkL (stT p key l).1 (reO p) (wid p) else []
def stL2 (p key : Int) (l : List Int) : List Int := if stB p key l then pkL (stT p key l).2.1 (reO p) (wid p) else []
theorem stL1_len (p key : Int) (l : List Int) : (stL1 p key l).length ≤ 1000000 := by
  unfold stL1; have := wid_le p; split
  · rw [pkL_len]; omega
  · simp
theorem stL2_len (p key : Int) (l : List Int) : (stL2 p key l).length ≤ 1000000 := by
  unfold stL2; have := wid_le p; split
  · rw [pkL_len]; omega
  · simp
theorem reO_len (p : Int) : (reO p).length = wid p := by unfold reO re4; exact (chG_len _ _ _ _ _ _).2
theorem re_gates {p : Int} (h : isPr p = true) : (∀ j, j < (reG p).length / 3 → gbB ((reG p).getD (j * 3) 0) ((reG p).getD (j * 3 + 1) 0) ((reG p).getD (j * 3 + 2) 0) ((wid p + wid p + j : Nat) : Int) = true) ∧ (∀ x ∈ reO p, 0 ≤ x ∧ x ≤ ((wid p + wid p + (reG p).length / 3 : Nat) : Int) - 1) ∧ (reG p).length ≤ 900 := by
  have h1 := re_ok h
  unfold ciB at h1
  simp only [Bool.and_eq_true] at h1
  refine ⟨fun j hj => ?_, fun x hx => ?_, (re_at h).2.1⟩
  · have h2 := List.all_eq_true.1 h1.1.2 j (List.mem_range.2 hj)
    unfold gbAt at h2
    have e : ((wid p + wid p + j : Nat) : Int) = ((wid p : Nat) : Int) + ((wid p : Nat) : Int) + (j : Int) := by omega
    rw [e]
    exact h2
  · have h2 := (allB_iff _ _ _).1 h1.2 x hx
    omega
set_option maxHeartbeats 8000000 in
set_option maxRecDepth 100000 in
theorem SumToBits_any (p key : Int) (a : Option Addr) (n c : Nat) (l : List Int) (w : World) (h : Ints w a n c l) :
    Calls Try.prog 30 #[.int .i64 p, .int .i64 key, .slice a n c] w fun e w' => ∃ a1 n1 c1 a2 n2 c2, e = .returned (.tuple #[.slice a1 n1 c1, .slice a2 n2 c2, .bool (stB p key l)]) ∧ Own w' w.heap.size a1 n1 c1 (stL1 p key l) ∧ Own w' w.heap.size a2 n2 c2 (stL2 p key l) ∧ Apart a1 c1 a2 c2 ∧ Below w.heap.size w w' := by
  unfold stL1 stL2 stB
  cases h1 : pairB p l
  · simp only [Bool.false_and, Bool.false_eq_true, if_false]
    go_enter Try.func30, Try.ntmps30
    go_wp2_with fail
    refine (isPair_any _ _ _ _ l _ h).mono ?_; rintro e w2 ⟨rfl, u2⟩
    rw [h1]
    go_wp2
    go_ret3
    exact ⟨none, 0, 0, none, 0, 0, rfl, Own.nil0 _ _ _, Own.nil0 _ _ _, (fun x y hx => absurd hx (by omega)), u2⟩
  cases h3 : inB key 0 1000000000
  · simp only [Bool.and_false, Bool.false_eq_true, if_false]
    go_enter Try.func30, Try.ntmps30
    go_wp2_with fail
    refine (isPair_any _ _ _ _ l _ h).mono ?_; rintro e w2 ⟨rfl, u2⟩
    rw [h1]
    go_wp2_with (go_at_call 70; refine (isKey_any _ _).mono ?_; rintro e w' ⟨rfl, rfl⟩)
    go_ret3
    exact ⟨none, 0, 0, none, 0, 0, rfl, Own.nil0 _ _ _, Own.nil0 _ _ _, (fun x y hx => absurd hx (by omega)), u2⟩
  simp only [Bool.and_self, if_true]
  obtain ⟨x0, x1, rfl, ⟨r0, r0'⟩, ⟨r1, r1'⟩, hp⟩ := pairB_true h1
  obtain ⟨p1, p2⟩ := isPr_range hp
  have k0 := (of_decide_eq_true h3).1
  have k1 := (of_decide_eq_true h3).2
  obtain ⟨hga, hou, hgl⟩ := re_gates hp
  have hol := reO_len p
  have hwl := wid_le p
  obtain rfl : n = 2 := h.len
  have HT := Lib.hid (show stT p key [x0, x1] = sbR key (reG p) (siF key (btL x0 (wid p)) (wid p) (wid p)) (siS key (btL x1 (wid p)) (wid p) (wid p)) ((reG p).length / 3) from rfl)
  obtain ⟨T, hTT⟩ : ∃ T, T = stT p key [x0, x1] := ⟨_, rfl⟩
  rw [← hTT] at HT ⊢
  clear hTT
  obtain ⟨O0, hO0⟩ : ∃ O, O = reO p := ⟨_, rfl⟩
  rw [← hO0] at hou hol ⊢
  have HO0 := Lib.hid hO0
  clear hO0
  obtain ⟨V, hV⟩ : ∃ V, V = wid p := ⟨_, rfl⟩
  rw [← hV] at hga hou hol hwl HT ⊢
  have HV := Lib.hid hV
  clear hV
  have HGA := Lib.hid hga
  have HOU := Lib.hid hou
  have HOL := Lib.hid hol
  have H1 := Lib.hid h1
  have H3 := Lib.hid h3
  clear hga hou hol h1 h3 hp
  have HX0 := Lib.hid (show 0 ≤ x0 ∧ x0 ≤ 1000000000 by omega)
  have HX1 := Lib.hid (show 0 ≤ x1 ∧ x1 ≤ 1000000000 by omega)
  go_enter Try.func30, Try.ntmps30
  go_wp2_with fail
  refine (isPair_any _ _ _ _ [x0, x1] _ h).mono ?_; rintro e w2 ⟨rfl, u2⟩
  rw [H1.out]
  go_wp2_with (go_at_call 70; refine (isKey_any _ _).mono ?_; rintro e w' ⟨rfl, rfl⟩; rw [H3.out])
  refine (reduceCircuit_any p _ p1 (by omega)).mono ?_; rintro e w3 ⟨ga, gn, gc, oa, on, oc, rfl, og, oo, dd, u3⟩
  rw [← HV.out]
  clear dd
  have V3 := u2.trans (u3.mono u2.size)
  have h3' := h.below V3
  go_wp2_with fail
  refine (widthFor_any p _ (by omega) (by omega)).mono ?_; rintro e w' ⟨rfl, rfl⟩; rw [← HV.out]
  rw [← HO0.out] at oo
  generalize reG p = G at *
  have hon : on = V := by have := oo.len; have := HOL.out; omega
  subst hon
  have HGN : Hid (gn = G.length / 3) := Lib.hid (by have := og.len; omega)
  have HTG := Lib.hid (show sbR key G (siF key (btL x0 on) on on) (siS key (btL x1 on) on on) gn = T by rw [HGN.out]; exact HT.out.symm)
  have HOG := Lib.hid (show ∀ x ∈ O0, 0 ≤ x ∧ x ≤ ((on + on + gn : Nat) : Int) - 1 by rw [HGN.out]; exact HOU.out)
  have V4 := V3.alloc V3.size (.cells #[.int .i64 (on : Int), .int .i64 (on : Int), .slice ga gn gc, .slice oa on oc] 25)
  have R4 : Blk (w3.alloc (.cells #[.int .i64 (on : Int), .int .i64 (on : Int), .slice ga gn gc, .slice oa on oc] 25)) w3.heap.size 25 #[.int .i64 (on : Int), .int .i64 (on : Int), .slice ga gn gc, .slice oa on oc] := Blk.new w3 _ _
  have og4 := og.flat.below ((Below.refl w3.heap.size w3).alloc (Nat.le_refl _) (.cells #[.int .i64 (on : Int), .int .i64 (on : Int), .slice ga gn gc, .slice oa on oc] 25))
  have oo4 := oo.ints.alloc (.cells #[.int .i64 (on : Int), .int .i64 (on : Int), .slice ga gn gc, .slice oa on oc] 25)
  have h4 := h3'.alloc (.cells #[.int .i64 (on : Int), .int .i64 (on : Int), .slice ga gn gc, .slice oa on oc] 25)
  have hz4 := V4.size
  clear og oo u2 u3 V3 h3' h
  go_upto_region 4 with fail
  generalize (w3.alloc (.cells #[.int .i64 (on : Int), .int .i64 (on : Int), .slice ga gn gc, .slice oa on oc] 25)) = w4 at *
  have x0' : w4.cell? ⟨w3.heap.size, 0, none⟩ = some (.int .i64 (on : Int)) := R4.cell 0
  have x1' : w4.cell? ⟨w3.heap.size, 1, none⟩ = some (.int .i64 (on : Int)) := R4.cell 1
  have x2' : w4.cell? ⟨w3.heap.size, 2, none⟩ = some (.slice ga gn gc) := R4.cell 2
  have x3' : w4.cell? ⟨w3.heap.size, 3, none⟩ = some (.slice oa on oc) := R4.cell 3
  obtain ⟨gx, ox, rfl, z0⟩ := h4.at 0 (by omega)
  obtain ⟨_, _, EE, z1⟩ := h4.at 1 (by omega)
  cases EE
  rw [Nat.add_zero] at z0
  change w4.cell? ⟨gx, ox, none⟩ = some (.int .i64 x0) at z0
  change w4.cell? ⟨gx, ox + 1, none⟩ = some (.int .i64 x1) at z1
  go_region_held3 (fun W => W.cell? ⟨w3.heap.size, 0, none⟩ = some (.int .i64 (on : Int)) ∧ W.cell? ⟨w3.heap.size, 1, none⟩ = some (.int .i64 (on : Int)) ∧ W.cell? ⟨w3.heap.size, 2, none⟩ = some (.slice ga gn gc) ∧ W.cell? ⟨w3.heap.size, 3, none⟩ = some (.slice oa on oc) ∧ W.cell? ⟨gx, ox, none⟩ = some (.int .i64 x0) ∧ W.cell? ⟨gx, ox + 1, none⟩ = some (.int .i64 x1))
    (first | exact ⟨keepC u7 (keepC u6 (keepC u5 x0')), keepC u7 (keepC u6 (keepC u5 x1')), keepC u7 (keepC u6 (keepC u5 x2')), keepC u7 (keepC u6 (keepC u5 x3')), keepC u7 (keepC u6 (keepC u5 z0)), keepC u7 (keepC u6 (keepC u5 z1))⟩ | exact ⟨keepC u6 (keepC u5 x0'), keepC u6 (keepC u5 x1'), keepC u6 (keepC u5 x2'), keepC u6 (keepC u5 x3'), keepC u6 (keepC u5 z0), keepC u6 (keepC u5 z1)⟩ | exact ⟨keepC u5 x0', keepC u5 x1', keepC u5 x2', keepC u5 x3', keepC u5 z0, keepC u5 z1⟩ | go_keep)
    (first | (go_at_call 73; have _ := u5; refine (bitsOf_any x1 on _ HX1.out (by omega)).mono ?_; rintro e w6 ⟨a6, c6, rfl, o6, u6⟩) | (go_at_call 73; refine (bitsOf_any x0 on _ HX0.out (by omega)).mono ?_; rintro e w5 ⟨a5, c5, rfl, o5, u5⟩) | (go_at_call 72; refine (sharedWires_any on on ga gn gc G oa on oc key a5 c5 (btL x0 on) a6 c6 (btL x1 on) _ (og4.drew.below (u5.trans (u6.mono u5.size))) (o5.ints.below u6) o6.ints k0 k1 (by omega) (by omega) (by have := HGN.out; omega) (btL_bits _ _) (btL_bits _ _) (by rw [HGN.out]; exact HGA.out)).mono ?_; rintro e w7 ⟨a1, c1, a2, c2, a3, n3, c3, rfl, o1, o2, dd, u7⟩))
  all_goals have U : Below w4.heap.size w4 w7 := (Below.refl _ _).drew.trans (u5.trans ((u6.trans (u7.mono u6.size)).mono u5.size))
  all_goals have V7 := V4.trans (U.mono V4.size)
  all_goals have R7 := R4.below U
  all_goals have oo7 := oo4.below U
  all_goals rw [HTG.out] at o1 o2
  all_goals have x3 : w7.cell? ⟨w3.heap.size, 3, none⟩ = some (.slice oa on oc) := R7.cell 3
  all_goals clear u5 u6 u7 U o5 o6 x0' x1' x2' x3' z0 z1 R7 V4 R4 og4 oo4 h4 dd
  all_goals go_wp2_with fail
  all_goals go_region_held3 (fun W => W.cell? ⟨w3.heap.size, 3, none⟩ = some (.slice oa on oc)) (first | exact keepC u9 (keepC u8 x3) | exact keepC u8 x3 | go_keep) (first | (go_at_call 74; have _ := u8; refine (pk_at a2 _ c2 T.2.1 oa on oc O0 _ (o2.ints.drew.below u8) (oo7.drew.below u8) (by have := HGN.out; omega) (by omega) HOG.out).mono ?_; rintro e w9 ⟨b2, d2, rfl, q2, u9⟩) | (go_at_call 74; refine (pk_at a1 _ c1 T.1 oa on oc O0 _ o1.ints.drew oo7.drew (by have := HGN.out; omega) (by omega) HOG.out).mono ?_; rintro e w8 ⟨b1, d1, rfl, q1, u8⟩))
  all_goals have AP := q1.apart q2 (Nat.le_refl _)
  all_goals have s1 := (q1.below u9).lower (b' := w.heap.size) V7.size
  all_goals have s2 := q2.lower (b' := w.heap.size) (Nat.le_trans V7.size u8.size)
  all_goals have VF := V7.trans (((Below.refl w7.heap.size w7).drew.trans (u8.trans (u9.mono u8.size))).mono V7.size)
  all_goals clear u8 u9 q1 q2 x3 oo7 o1 o2 V7
  all_goals have HAP := Lib.hid AP
  all_goals clear AP
  all_goals go_wp2
  all_goals go_ret3
  all_goals exact ⟨_, _, _, _, _, _, rfl, s1, s2, HAP.out, VF⟩
set_option maxHeartbeats 8000000 in
set_option maxRecDepth 100000 in
theorem spec_SumToBits_any (p key : Int) (a : Option Addr) (n c : Nat) (l : List Int) (w : World) (h : Ints w a n c l) :
    Calls Try.prog 28 #[.int .i64 p, .int .i64 key, .slice a n c] w fun e w' => ∃ a1 n1 c1 a2 n2 c2, e = .returned (.tuple #[.slice a1 n1 c1, .slice a2 n2 c2, .bool (stB p key l)]) ∧ Own w' w.heap.size a1 n1 c1 (stL1 p key l) ∧ Own w' w.heap.size a2 n2 c2 (stL2 p key l) ∧ Apart a1 c1 a2 c2 ∧ Below w.heap.size w w' := by
  unfold stL1 stL2 stB
  cases h1 : pairB p l
  · simp only [Bool.false_and, Bool.false_eq_true, if_false]
    go_enter Try.func28, Try.ntmps28
    go_wp2_with fail
    refine (trPair_any _ _ _ _ l _ h).mono ?_; rintro e w2 ⟨rfl, u2⟩
    rw [h1]
    go_wp2
    go_ret3
    exact ⟨none, 0, 0, none, 0, 0, rfl, Own.nil0 _ _ _, Own.nil0 _ _ _, (fun x y hx => absurd hx (by omega)), u2⟩
  cases h3 : inB key 0 1000000000
  · simp only [Bool.and_false, Bool.false_eq_true, if_false]
    go_enter Try.func28, Try.ntmps28
    go_wp2_with fail
    refine (trPair_any _ _ _ _ l _ h).mono ?_; rintro e w2 ⟨rfl, u2⟩
    rw [h1]
    go_wp2_with (go_at_call 64; refine (otKey_any _ _).mono ?_; rintro e w' ⟨rfl, rfl⟩)
    go_ret3
    exact ⟨none, 0, 0, none, 0, 0, rfl, Own.nil0 _ _ _, Own.nil0 _ _ _, (fun x y hx => absurd hx (by omega)), u2⟩
  simp only [Bool.and_self, if_true]
  obtain ⟨x0, x1, rfl, ⟨r0, r0'⟩, ⟨r1, r1'⟩, hp⟩ := pairB_true h1
  obtain ⟨p1, p2⟩ := isPr_range hp
  have k0 := (of_decide_eq_true h3).1
  have k1 := (of_decide_eq_true h3).2
  obtain ⟨hga, hou, hgl⟩ := re_gates hp
  have hol := reO_len p
  have hwl := wid_le p
  obtain rfl : n = 2 := h.len
  have HT := Lib.hid (show stT p key [x0, x1] = sbR key (reG p) (siF key (btL x0 (wid p)) (wid p) (wid p)) (siS key (btL x1 (wid p)) (wid p) (wid p)) ((reG p).length / 3) from rfl)
  obtain ⟨T, hTT⟩ : ∃ T, T = stT p key [x0, x1] := ⟨_, rfl⟩
  rw [← hTT] at HT ⊢
  clear hTT
  obtain ⟨O0, hO0⟩ : ∃ O, O = reO p := ⟨_, rfl⟩
  rw [← hO0] at hou hol ⊢
  have HO0 := Lib.hid hO0
  clear hO0
  obtain ⟨V, hV⟩ : ∃ V, V = wid p := ⟨_, rfl⟩
  rw [← hV] at hga hou hol hwl HT ⊢
  have HV := Lib.hid hV
  clear hV
  have HGA := Lib.hid hga
  have HOU := Lib.hid hou
  have HOL := Lib.hid hol
  have H1 := Lib.hid h1
  have H3 := Lib.hid h3
  clear hga hou hol h1 h3 hp
  have HX0 := Lib.hid (show 0 ≤ x0 ∧ x0 ≤ 1000000000 by omega)
  have HX1 := Lib.hid (show 0 ≤ x1 ∧ x1 ≤ 1000000000 by omega)
  go_enter Try.func28, Try.ntmps28
  go_wp2_with fail
  refine (trPair_any _ _ _ _ [x0, x1] _ h).mono ?_; rintro e w2 ⟨rfl, u2⟩
  rw [H1.out]
  go_wp2_with (go_at_call 64; refine (otKey_any _ _).mono ?_; rintro e w' ⟨rfl, rfl⟩; rw [H3.out])
  refine (cvWidth_any p _ (by omega) (by omega)).mono ?_; rintro e w' ⟨rfl, rfl⟩; rw [← HV.out]
  go_wp2_with fail
  refine (cvReduce_any p _ p1 (by omega)).mono ?_; rintro e w3 ⟨ga, gn, gc, oa, on, oc, rfl, og, oo, dd, u3⟩
  rw [← HV.out]
  clear dd
  have V3 := u2.trans (u3.mono u2.size)
  have h3' := h.below V3
  rw [← HO0.out] at oo
  generalize reG p = G at *
  have hon : on = V := by have := oo.len; have := HOL.out; omega
  subst hon
  have HGN : Hid (gn = G.length / 3) := Lib.hid (by have := og.len; omega)
  have HTG := Lib.hid (show sbR key G (siF key (btL x0 on) on on) (siS key (btL x1 on) on on) gn = T by rw [HGN.out]; exact HT.out.symm)
  have HOG := Lib.hid (show ∀ x ∈ O0, 0 ≤ x ∧ x ≤ ((on + on + gn : Nat) : Int) - 1 by rw [HGN.out]; exact HOU.out)
  have V4 := V3.alloc V3.size (.cells #[.int .i64 (on : Int), .int .i64 (on : Int), .slice ga gn gc, .slice oa on oc] 25)
  have R4 : Blk (w3.alloc (.cells #[.int .i64 (on : Int), .int .i64 (on : Int), .slice ga gn gc, .slice oa on oc] 25)) w3.heap.size 25 #[.int .i64 (on : Int), .int .i64 (on : Int), .slice ga gn gc, .slice oa on oc] := Blk.new w3 _ _
  have og4 := og.flat.below ((Below.refl w3.heap.size w3).alloc (Nat.le_refl _) (.cells #[.int .i64 (on : Int), .int .i64 (on : Int), .slice ga gn gc, .slice oa on oc] 25))
  have oo4 := oo.ints.alloc (.cells #[.int .i64 (on : Int), .int .i64 (on : Int), .slice ga gn gc, .slice oa on oc] 25)
  have h4 := h3'.alloc (.cells #[.int .i64 (on : Int), .int .i64 (on : Int), .slice ga gn gc, .slice oa on oc] 25)
  have hz4 := V4.size
  clear og oo u2 u3 V3 h3' h
  go_upto_region 5 with fail
  generalize (w3.alloc (.cells #[.int .i64 (on : Int), .int .i64 (on : Int), .slice ga gn gc, .slice oa on oc] 25)) = w4 at *
  have x0' : w4.cell? ⟨w3.heap.size, 0, none⟩ = some (.int .i64 (on : Int)) := R4.cell 0
  have x1' : w4.cell? ⟨w3.heap.size, 1, none⟩ = some (.int .i64 (on : Int)) := R4.cell 1
  have x2' : w4.cell? ⟨w3.heap.size, 2, none⟩ = some (.slice ga gn gc) := R4.cell 2
  have x3' : w4.cell? ⟨w3.heap.size, 3, none⟩ = some (.slice oa on oc) := R4.cell 3
  obtain ⟨gx, ox, rfl, z0⟩ := h4.at 0 (by omega)
  obtain ⟨_, _, EE, z1⟩ := h4.at 1 (by omega)
  cases EE
  rw [Nat.add_zero] at z0
  change w4.cell? ⟨gx, ox, none⟩ = some (.int .i64 x0) at z0
  change w4.cell? ⟨gx, ox + 1, none⟩ = some (.int .i64 x1) at z1
  go_region_held3 (fun W => W.cell? ⟨w3.heap.size, 0, none⟩ = some (.int .i64 (on : Int)) ∧ W.cell? ⟨w3.heap.size, 1, none⟩ = some (.int .i64 (on : Int)) ∧ W.cell? ⟨w3.heap.size, 2, none⟩ = some (.slice ga gn gc) ∧ W.cell? ⟨w3.heap.size, 3, none⟩ = some (.slice oa on oc) ∧ W.cell? ⟨gx, ox, none⟩ = some (.int .i64 x0) ∧ W.cell? ⟨gx, ox + 1, none⟩ = some (.int .i64 x1))
    (first | exact ⟨keepC u7 (keepC u6 (keepC u5 x0')), keepC u7 (keepC u6 (keepC u5 x1')), keepC u7 (keepC u6 (keepC u5 x2')), keepC u7 (keepC u6 (keepC u5 x3')), keepC u7 (keepC u6 (keepC u5 z0)), keepC u7 (keepC u6 (keepC u5 z1))⟩ | exact ⟨keepC u6 (keepC u5 x0'), keepC u6 (keepC u5 x1'), keepC u6 (keepC u5 x2'), keepC u6 (keepC u5 x3'), keepC u6 (keepC u5 z0), keepC u6 (keepC u5 z1)⟩ | exact ⟨keepC u5 x0', keepC u5 x1', keepC u5 x2', keepC u5 x3', keepC u5 z0, keepC u5 z1⟩ | go_keep)
    (first | (go_at_call 67; have _ := u5; refine (btOf_any x1 on _ HX1.out (by omega)).mono ?_; rintro e w6 ⟨a6, c6, rfl, o6, u6⟩) | (go_at_call 67; refine (btOf_any x0 on _ HX0.out (by omega)).mono ?_; rintro e w5 ⟨a5, c5, rfl, o5, u5⟩) | (go_at_call 66; refine (sbRun_any on on ga gn gc G oa on oc key a5 c5 (btL x0 on) a6 c6 (btL x1 on) _ (og4.drew.below (u5.trans (u6.mono u5.size))) (o5.ints.below u6) o6.ints k0 k1 (by omega) (by omega) (by have := HGN.out; omega) (btL_bits _ _) (btL_bits _ _) (by rw [HGN.out]; exact HGA.out)).mono ?_; rintro e w7 ⟨a1, c1, a2, c2, a3, n3, c3, rfl, o1, o2, dd, u7⟩))
  all_goals have U : Below w4.heap.size w4 w7 := (Below.refl _ _).drew.trans (u5.trans ((u6.trans (u7.mono u6.size)).mono u5.size))
  all_goals have V7 := V4.trans (U.mono V4.size)
  all_goals have R7 := R4.below U
  all_goals have oo7 := oo4.below U
  all_goals rw [HTG.out] at o1 o2
  all_goals have x3 : w7.cell? ⟨w3.heap.size, 3, none⟩ = some (.slice oa on oc) := R7.cell 3
  all_goals clear u5 u6 u7 U o5 o6 x0' x1' x2' x3' z0 z1 R7 V4 R4 og4 oo4 h4 dd
  all_goals go_wp2_with fail
  all_goals go_region_held3 (fun W => W.cell? ⟨w3.heap.size, 3, none⟩ = some (.slice oa on oc)) (first | exact keepC u9 (keepC u8 x3) | exact keepC u8 x3 | go_keep) (first | (go_at_call 68; have _ := u8; refine (pk_ciPick a2 _ c2 T.2.1 oa on oc O0 _ (o2.ints.drew.below u8) (oo7.drew.below u8) (by have := HGN.out; omega) (by omega) HOG.out).mono ?_; rintro e w9 ⟨b2, d2, rfl, q2, u9⟩) | (go_at_call 68; refine (pk_ciPick a1 _ c1 T.1 oa on oc O0 _ o1.ints.drew oo7.drew (by have := HGN.out; omega) (by omega) HOG.out).mono ?_; rintro e w8 ⟨b1, d1, rfl, q1, u8⟩))
  all_goals have AP := q1.apart q2 (Nat.le_refl _)
  all_goals have s1 := (q1.below u9).lower (b' := w.heap.size) V7.size
  all_goals have s2 := q2.lower (b' := w.heap.size) (Nat.le_trans V7.size u8.size)
  all_goals have VF := V7.trans (((Below.refl w7.heap.size w7).drew.trans (u8.trans (u9.mono u8.size))).mono V7.size)
  all_goals clear u8 u9 q1 q2 x3 oo7 o1 o2 V7
  all_goals have HAP := Lib.hid AP
  all_goals clear AP
  all_goals go_wp2
  all_goals go_ret3
  all_goals exact ⟨_, _, _, _, _, _, rfl, s1, s2, HAP.out, VF⟩
set_option maxHeartbeats 2000000 in
set_option maxRecDepth 100000 in
theorem FnExactSumToBits_walk (a0 : Int) (a1 : Int) (a2 : Option Addr) (n2 c2 : Nat) (l2 : List Int) (w : World) (_w0 : -9223372036854775808 ≤ a0 ∧ a0 ≤ 9223372036854775807) (_w1 : -9223372036854775808 ≤ a1 ∧ a1 ≤ 9223372036854775807) (z2 : Ints w a2 n2 c2 l2) (_wf2 : Wf l2) :
    Calls Try.prog 9 #[.int .i64 a0, .int .i64 a1, .slice a2 n2 c2] w fun e w' => e = .returned (.bool true) ∧ Below w.heap.size w w' := by
  by_cases hs2 : n2 ≤ 1048576
  · skip
    go_enter Try.func9, Try.ntmps9
    go_wp2_with fail
    refine (toIntS_any _ _ _ l2 _ z2 hs2).mono ?_
    rintro e w1' ⟨y_a2, y_c2, rfl, y2, u1⟩
    replace z2 := z2.below u1
    have V1 := u1
    clear u1
    go_wp2_with fail
    refine (spec_SumToBits_any _ _ _ _ _ l2 _ y2.ints).mono ?_
    rintro e w2' ⟨r_a0, r_n0, r_c0, r_a1, r_n1, r_c1, rfl, r0, r1, ap_r01, u2⟩
    replace z2 := z2.below u2
    replace y2 := y2.below u2
    have V2 : Below w.heap.size w w2' := V1.trans (u2.mono V1.size)
    clear V1
    clear u2
    clear ap_r01
    clear y2
    have VB_x2 := V2.size
    go_wp2_with fail
    refine (toIntS_any _ _ _ l2 _ z2 hs2).mono ?_
    rintro e w3' ⟨x_a2, x_c2, rfl, x2, u3⟩
    have Dz2_x2 := z2.apart x2 (Nat.le_refl _)
    have Dr0_x2 := r0.apart x2 (Nat.le_refl _)
    have Dr1_x2 := r1.apart x2 (Nat.le_refl _)
    replace z2 := z2.below u3
    replace r0 := r0.below u3
    replace r1 := r1.below u3
    have V3 : Below w.heap.size w w3' := V2.trans (u3.mono V2.size)
    clear V2
    clear u3
    have VB_g0 := V3.size
    have VB_g1 := V3.size
    go_wp2_with fail
    refine (SumToBits_any _ _ _ _ _ l2 _ x2.ints).mono ?_
    rintro e w4' ⟨g_a0, g_n0, g_c0, g_a1, g_n1, g_c1, rfl, g0, g1, ap_g01, u4⟩
    have Dz2_g0 := z2.apart g0 (Nat.le_refl _)
    have Dr0_g0 := r0.apart g0 (Nat.le_refl _)
    have Dr1_g0 := r1.apart g0 (Nat.le_refl _)
    have Dx2_g0 := x2.apart g0 (Nat.le_refl _)
    have Dz2_g1 := z2.apart g1 (Nat.le_refl _)
    have Dr0_g1 := r0.apart g1 (Nat.le_refl _)
    have Dr1_g1 := r1.apart g1 (Nat.le_refl _)
    have Dx2_g1 := x2.apart g1 (Nat.le_refl _)
    replace z2 := z2.below u4
    replace r0 := r0.below u4
    replace r1 := r1.below u4
    replace x2 := x2.below u4
    have V4 : Below w.heap.size w w4' := V3.trans (u4.mono V3.size)
    clear V3
    clear u4
    go_wp2_with fail
    refine (eqIntS_same _ _ _ _ _ _ _ _ g0.ints r0.ints).mono ?_
    rintro e w5' ⟨rfl, q5⟩
    have u5 := below_of_quiet q5
    clear q5
    replace z2 := z2.below u5
    replace r0 := r0.below u5
    replace r1 := r1.below u5
    replace x2 := x2.below u5
    replace g0 := g0.below u5
    replace g1 := g1.below u5
    have V5 : Below w.heap.size w w5' := V4.trans (u5.mono V4.size)
    clear V4
    clear u5
    go_wp2_with fail
    refine (eqIntS_same _ _ _ _ _ _ _ _ g1.ints r1.ints).mono ?_
    rintro e w6' ⟨rfl, q6⟩
    have u6 := below_of_quiet q6
    clear q6
    replace z2 := z2.below u6
    replace r0 := r0.below u6
    replace r1 := r1.below u6
    replace x2 := x2.below u6
    replace g0 := g0.below u6
    replace g1 := g1.below u6
    have V6 : Below w.heap.size w w6' := V5.trans (u6.mono V5.size)
    clear V5
    clear u6
    go_wp2_with fail
    refine (toIntS_any _ _ _ l2 _ z2 hs2).mono ?_
    rintro e w7' ⟨t_a2, t_c2, rfl, t2, u7⟩
    have Dx2_t2 := x2.apart t2 (Nat.le_refl _)
    have Dg0_t2 := g0.apart t2 (Nat.le_refl _)
    have Dg1_t2 := g1.apart t2 (Nat.le_refl _)
    replace z2 := z2.below u7
    replace r0 := r0.below u7
    replace r1 := r1.below u7
    replace x2 := x2.below u7
    replace g0 := g0.below u7
    replace g1 := g1.below u7
    have V7 : Below w.heap.size w w7' := V6.trans (u7.mono V6.size)
    clear V6
    clear u7
    go_wp2_with fail
    refine (eqIntS_same _ _ _ _ _ _ l2 _ x2.ints t2.ints).mono ?_
    rintro e w8' ⟨rfl, q8⟩
    have u8 := below_of_quiet q8
    clear q8
    replace z2 := z2.below u8
    replace r0 := r0.below u8
    replace r1 := r1.below u8
    replace x2 := x2.below u8
    replace g0 := g0.below u8
    replace g1 := g1.below u8
    replace t2 := t2.below u8
    have V8 : Below w.heap.size w w8' := V7.trans (u8.mono V7.size)
    clear V7
    clear u8
    clear t2
    go_wp2_with fail
    refine (markIntS_any _ _ _ _ _ _ _ x2 (by omega) (by have := hs2; omega)).mono ?_
    rintro e w9' ⟨rfl, ⟨Lx2, mx2, Ux2⟩, G9⟩
    have HUx2 := Lib.hid Ux2
    clear Ux2
    replace z2 := z2.grown G9 Dz2_x2
    replace r0 := r0.grown G9 Dr0_x2
    replace r1 := r1.grown G9 Dr1_x2
    replace g0 := g0.grown G9 Dx2_g0.symm
    replace g1 := g1.grown G9 Dx2_g1.symm
    have u9 : Below w.heap.size w8' w9' := below_grownBy G9 V8.size (fun x hc hx => Nat.le_trans VB_x2 (mx2.range x hc hx).1)
    have V9 : Below w.heap.size w w9' := V8.trans u9
    clear V8 u9 G9 x2
    have x2 := mx2
    clear mx2
    go_wp2_with fail
    refine (eqIntS_same _ _ _ _ _ _ _ _ g0.ints r0.ints).mono ?_
    rintro e w10' ⟨rfl, q10⟩
    have u10 := below_of_quiet q10
    clear q10
    replace z2 := z2.below u10
    replace r0 := r0.below u10
    replace r1 := r1.below u10
    replace x2 := x2.below u10
    replace g0 := g0.below u10
    replace g1 := g1.below u10
    have V10 : Below w.heap.size w w10' := V9.trans (u10.mono V9.size)
    clear V9
    clear u10
    go_wp2_with fail
    refine (eqIntS_same _ _ _ _ _ _ _ _ g1.ints r1.ints).mono ?_
    rintro e w11' ⟨rfl, q11⟩
    have u11 := below_of_quiet q11
    clear q11
    replace z2 := z2.below u11
    replace r0 := r0.below u11
    replace r1 := r1.below u11
    replace x2 := x2.below u11
    replace g0 := g0.below u11
    replace g1 := g1.below u11
    have V11 : Below w.heap.size w w11' := V10.trans (u11.mono V10.size)
    clear V10
    clear u11
    clear x2
    have hlg0 : g_n0 ≤ 1000000 := by rw [g0.len]; exact stL1_len a0 a1 l2
    have hlg1 : g_n1 ≤ 1000000 := by rw [g1.len]; exact stL2_len a0 a1 l2
    go_wp2_with fail
    refine (markIntS_any _ _ _ _ _ _ _ g0 (by omega) (by have := hlg0; omega)).mono ?_
    rintro e w12' ⟨rfl, ⟨Lg0, mg0, Ug0⟩, G12⟩
    have HUg0 := Lib.hid Ug0
    clear Ug0
    replace z2 := z2.grown G12 Dz2_g0
    replace r0 := r0.grown G12 Dr0_g0
    replace r1 := r1.grown G12 Dr1_g0
    replace g1 := g1.grown G12 ap_g01.symm
    have u12 : Below w.heap.size w11' w12' := below_grownBy G12 V11.size (fun x hc hx => Nat.le_trans VB_g0 (mg0.range x hc hx).1)
    have V12 : Below w.heap.size w w12' := V11.trans u12
    clear V11 u12 G12 g0
    have g0 := mg0
    clear mg0
    go_wp2_with fail
    refine (markIntS_any _ _ _ _ _ _ _ g1 (by omega) (by have := hlg1; omega)).mono ?_
    rintro e w13' ⟨rfl, ⟨Lg1, mg1, Ug1⟩, G13⟩
    have HUg1 := Lib.hid Ug1
    clear Ug1
    replace z2 := z2.grown G13 Dz2_g1
    replace r0 := r0.grown G13 Dr0_g1
    replace r1 := r1.grown G13 Dr1_g1
    replace g0 := g0.grown G13 ap_g01
    have u13 : Below w.heap.size w12' w13' := below_grownBy G13 V12.size (fun x hc hx => Nat.le_trans VB_g1 (mg1.range x hc hx).1)
    have V13 : Below w.heap.size w w13' := V12.trans u13
    clear V12 u13 G13 g1
    have g1 := mg1
    clear mg1
    go_wp2_with fail
    refine (heldIntS_any _ _ _ _ _ _ g0.ints HUg0.out (by omega) (by have := hlg0; omega)).mono ?_
    rintro e w14' ⟨rfl, q14⟩
    have u14 := below_of_quiet q14
    clear q14
    replace z2 := z2.below u14
    replace r0 := r0.below u14
    replace r1 := r1.below u14
    replace g0 := g0.below u14
    replace g1 := g1.below u14
    have V14 : Below w.heap.size w w14' := V13.trans (u14.mono V13.size)
    clear V13
    clear u14
    go_wp2_with fail
    refine (heldIntS_any _ _ _ _ _ _ g1.ints HUg1.out (by omega) (by have := hlg1; omega)).mono ?_
    rintro e w15' ⟨rfl, q15⟩
    have u15 := below_of_quiet q15
    clear q15
    replace z2 := z2.below u15
    replace r0 := r0.below u15
    replace r1 := r1.below u15
    replace g0 := g0.below u15
    replace g1 := g1.below u15
    have V15 : Below w.heap.size w w15' := V14.trans (u15.mono V14.size)
    clear V14
    clear u15
    go_wp2_with fail
    refine (toIntS_any _ _ _ l2 _ z2 hs2).mono ?_
    rintro e w16' ⟨x_a2, x_c2, rfl, x2, u16⟩
    have Dz2_x2 := z2.apart x2 (Nat.le_refl _)
    have Dr0_x2 := r0.apart x2 (Nat.le_refl _)
    have Dr1_x2 := r1.apart x2 (Nat.le_refl _)
    have Dg0_x2 := g0.apart x2 (Nat.le_refl _)
    have Dg1_x2 := g1.apart x2 (Nat.le_refl _)
    replace z2 := z2.below u16
    replace r0 := r0.below u16
    replace r1 := r1.below u16
    replace g0 := g0.below u16
    replace g1 := g1.below u16
    have V16 : Below w.heap.size w w16' := V15.trans (u16.mono V15.size)
    clear V15
    clear u16
    go_wp2_with fail
    refine (SumToBits_any _ _ _ _ _ l2 _ x2.ints).mono ?_
    rintro e w17' ⟨h_a0, h_n0, h_c0, h_a1, h_n1, h_c1, rfl, h0, h1, ap_h01, u17⟩
    replace z2 := z2.below u17
    replace r0 := r0.below u17
    replace r1 := r1.below u17
    replace g0 := g0.below u17
    replace g1 := g1.below u17
    replace x2 := x2.below u17
    have V17 : Below w.heap.size w w17' := V16.trans (u17.mono V16.size)
    clear V16
    clear u17
    clear ap_h01
    clear x2
    go_wp2_with fail
    refine (eqIntS_same _ _ _ _ _ _ _ _ h0.ints r0.ints).mono ?_
    rintro e w18' ⟨rfl, q18⟩
    have u18 := below_of_quiet q18
    clear q18
    replace z2 := z2.below u18
    replace r0 := r0.below u18
    replace r1 := r1.below u18
    replace g0 := g0.below u18
    replace g1 := g1.below u18
    replace h0 := h0.below u18
    replace h1 := h1.below u18
    have V18 : Below w.heap.size w w18' := V17.trans (u18.mono V17.size)
    clear V17
    clear u18
    go_wp2_with fail
    refine (eqIntS_same _ _ _ _ _ _ _ _ h1.ints r1.ints).mono ?_
    rintro e w19' ⟨rfl, q19⟩
    have u19 := below_of_quiet q19
    clear q19
    replace z2 := z2.below u19
    replace r0 := r0.below u19
    replace r1 := r1.below u19
    replace g0 := g0.below u19
    replace g1 := g1.below u19
    replace h0 := h0.below u19
    replace h1 := h1.below u19
    have V19 : Below w.heap.size w w19' := V18.trans (u19.mono V18.size)
    clear V18
    clear u19
    go_wp2_with fail
    refine (heldIntS_any _ _ _ _ _ _ g0.ints HUg0.out (by omega) (by have := hlg0; omega)).mono ?_
    rintro e w20' ⟨rfl, q20⟩
    have u20 := below_of_quiet q20
    clear q20
    replace z2 := z2.below u20
    replace r0 := r0.below u20
    replace r1 := r1.below u20
    replace g0 := g0.below u20
    replace g1 := g1.below u20
    replace h0 := h0.below u20
    replace h1 := h1.below u20
    have V20 : Below w.heap.size w w20' := V19.trans (u20.mono V19.size)
    clear V19
    clear u20
    go_wp2_with fail
    refine (heldIntS_any _ _ _ _ _ _ g1.ints HUg1.out (by omega) (by have := hlg1; omega)).mono ?_
    rintro e w21' ⟨rfl, q21⟩
    have u21 := below_of_quiet q21
    clear q21
    replace z2 := z2.below u21
    replace r0 := r0.below u21
    replace r1 := r1.below u21
    replace g0 := g0.below u21
    replace g1 := g1.below u21
    replace h0 := h0.below u21
    replace h1 := h1.below u21
    have V21 : Below w.heap.size w w21' := V20.trans (u21.mono V20.size)
    clear V20
    clear u21
    go_wp2
    go_ret
    exact ⟨rfl, V21⟩
  · go_enter Try.func9, Try.ntmps9
    go_wp2
    go_ret
    exact ⟨rfl, Below.refl _ _⟩
end Go.Proofs.Ytkbhigdciokfkaa
