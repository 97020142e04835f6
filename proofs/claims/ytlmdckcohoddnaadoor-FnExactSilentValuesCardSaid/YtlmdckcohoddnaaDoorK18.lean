/- Lemmas and walks that the claim's proof rests on, part 18. -/
import Derived.Deep.DeepCutAuto
import Derived.Deep.QuietTactic
import Derived.Test.YtlmdckcohoddnaaDoorK5
import Derived.Test.YtlmdckcohoddnaaDoorK17
namespace Go.Proofs.YtlmdckcohoddnaaDoor
open Go.RowKit
theorem chgP_len (P at0 k j : Int) (i : Nat) (m : MsD) : (chgP P at0 i k j m).2.2.length = m.2.2.length := by
  unfold chgP; split
  · exact List.length_set ..
  · rfl
set_option maxHeartbeats 8000000 in
set_option maxRecDepth 100000 in
theorem nwTaken_1 (p at0 i k : Int) (pl : Option Addr) (cl : Nat) (sp : Option Addr) (sn sc : Nat) (D : List MsD) (j : Nat) (w : World) (hM : Flat 4 w pl 1 cl [1, at0, i, k]) (hS : MsR w sp sn sc D) (hj : j < sn) (hp : 1 ≤ p) (hp2 : p ≤ 251)
    (hl : ∀ v ∈ (mdAt D j).2.2, 0 ≤ v ∧ v ≤ p - 1) (hs : (mdAt D j).2.2.length ≤ 1000) (hi : (j : Int) = at0 → 0 ≤ i ∧ i < (mdAt D j).2.2.length) (hk : 0 ≤ k) (hk2 : k ≤ p - 1) :
    Calls Tryd.prog 126 #[.int .i64 p, .slice pl 1 cl, .slice sp sn sc, .int .i64 j] w fun e w' => ∃ b d, e = .returned (.agg #[.int .i64 (chgP p at0 i.toNat k j (mdAt D j)).1, .int .i64 (chgP p at0 i.toNat k j (mdAt D j)).2.1, .slice b (chgP p at0 i.toNat k j (mdAt D j)).2.2.length d]) ∧ Own w' w.heap.size b (chgP p at0 i.toNat k j (mdAt D j)).2.2.length d (chgP p at0 i.toNat k j (mdAt D j)).2.2 ∧ Below w.heap.size w w' := by
  rw [chgP_len]
  obtain ⟨rs, hS, rfl⟩ := hS
  have hlen := hS.len
  rw [mdAt_map (by omega)] at *
  obtain ⟨gs, os, hsp, c0, c1, c2, inn⟩ := hS.at j hj
  subst hsp
  have hsn := hS.le
  generalize msAt rs j = r at *
  obtain ⟨s0, s1, a, c, l⟩ := r
  unfold msD at hl hs hi ⊢
  dsimp only at hl hs hi c0 c1 c2 inn ⊢
  generalize hn : l.length = n at hs hi c2 inn ⊢
  have CB := Lib.hid (fun (h0 : (j : Int) = at0) (W : World) (h2 : Ints W a n c l) => ptBend_any p s0 s1 a n c l i.toNat k W h2 (by omega) hp (by omega) hl (by have := hi h0; omega) hk hk2)
  have hi0 : (j : Int) = at0 → ((i.toNat : Nat) : Int) = i := fun h0 => by have := hi h0; omega
  replace hi0 := Lib.hid hi0
  have LM := Lib.hid hM
  have IN := Lib.hid inn
  have hjs : (j : Int) < (sn : Int) := by omega
  clear hl hi hk hk2 hp hp2 hM hS inn hlen
  obtain ⟨L, hL⟩ : ∃ q, chgP p at0 i.toNat k j (s0, s1, l) = q := ⟨_, rfl⟩
  obtain ⟨L0, L1, L2⟩ := L
  have e0 : L0 = s0 ∧ L1 = s1 ∧ L2 = if (j : Int) = at0 then bendI p l i.toNat k else l := by
    unfold chgP at hL
    split at hL <;> cases hL <;> simp_all
  obtain ⟨rfl, rfl, hL2⟩ := e0
  rw [hL]
  dsimp only
  clear hL
  replace hL2 := Lib.hid hL2
  go_enter Tryd.func126, Tryd.ntmps126
  go_upto_region 1 with fail
  have c0' : (w.alloc (.cells #[.int .i64 0, .int .i64 0, .slice none 0 0] 44)).cell? ⟨gs, os + j * 3, none⟩ = some (.int .i64 L0) := keepA _ c0
  have c1' : (w.alloc (.cells #[.int .i64 0, .int .i64 0, .slice none 0 0] 44)).cell? ⟨gs, os + j * 3 + 1, none⟩ = some (.int .i64 L1) := keepA _ c1
  have c2' : (w.alloc (.cells #[.int .i64 0, .int .i64 0, .slice none 0 0] 44)).cell? ⟨gs, os + j * 3 + 2, none⟩ = some (.slice a n c) := keepA _ c2
  go_upto_region 2 with fail
  clear c0 c1 c2 c0' c1' c2'
  refine Exists.elim (Blk.new_ w (b := w.heap.size) rfl 44 #[.int .i64 0, .int .i64 0, .slice none 0 0]) (fun w1_a0' q => ?_)
  rw [q.1]; have B_r := q.2.1; have s_w1_a0' := q.2.2.1; have u_w1_a0' := q.2.2.2; clear q
  refine Exists.elim (Blk.new_ w1_a0' (b := w.heap.size + 1) s_w1_a0' 44 #[.int .i64 L0, .int .i64 L1, .slice a n c]) (fun w1' q => ?_)
  rw [q.1]; have B_m := q.2.1; have s_w1' := q.2.2.1; have u_w1' := q.2.2.2; clear q
  replace B_r := (B_r.below u_w1')
  have U := (u_w1_a0'.trans (u_w1'.mono u_w1_a0'.size))
  have S_w1' : w.heap.size + 2 ≤ w1'.heap.size := Nat.le_of_eq s_w1'.symm
  have V_w1' := (Below.refl w.heap.size w).trans (U.mono ((Below.refl w.heap.size w)).size)
  clear u_w1_a0' u_w1' s_w1_a0' s_w1' U
  have V0 : Below w.heap.size w w1' := V_w1'
  obtain ⟨w0, rfl⟩ : ∃ q, q = w1' := ⟨_, rfl⟩
  have x0 : w0.cell? ⟨w.heap.size + 1, 0, none⟩ = some (.int .i64 L0) := B_m.cell 0
  have x1 : w0.cell? ⟨w.heap.size + 1, 1, none⟩ = some (.int .i64 L1) := B_m.cell 1
  have x2 : w0.cell? ⟨w.heap.size + 1, 2, none⟩ = some (.slice a n c) := B_m.cell 2
  have hb : w.heap.size + 1 ≠ w0.heap.size := by omega
  have S0 : w.heap.size + 2 ≤ w0.heap.size := by omega
  have h0 := IN.out.below V0
  go_region_held3 (fun W => W.cell? ⟨w.heap.size + 1, 0, none⟩ = some (.int .i64 L0) ∧ W.cell? ⟨w.heap.size + 1, 1, none⟩ = some (.int .i64 L1) ∧ W.cell? ⟨w.heap.size + 1, 2, none⟩ = some (.slice a n c))
    (first | go_keep | exact ⟨keepA _ x0, keepA _ x1, keepA _ x2⟩ | exact ⟨keepC u (keepA _ x0), keepC u (keepA _ x1), keepC u (keepA _ x2)⟩ | exact ⟨keepA _ (keepC u x0), keepA _ (keepC u x1), keepA _ (keepC u x2)⟩ | exact ⟨keepC u x0, keepC u x1, keepC u x2⟩ | exact ⟨cellFar (cellFar (cellFar (keepC u (keepA _ x0)) hb) hb) hb, cellFar (cellFar (cellFar (keepC u (keepA _ x1)) hb) hb) hb, cellFar (cellFar (cellFar (keepC u (keepA _ x2)) hb) hb) hb⟩)
    (first | (go_at_call 120; refine (l1Own_any _ _ _ l _ (h0.alloc _).drew (by omega)).mono ?_; rintro e w1 ⟨b, d, rfl, o1, u⟩; have BO : Blk w1 w0.heap.size 44 #[.int .i64 0, .int .i64 0, .slice none 0 0] := Blk.below (Blk.new w0 44 #[.int .i64 0, .int .i64 0, .slice none 0 0]).drew u; have e0 : w1.cell? ⟨w0.heap.size, 0, none⟩ = some (.int .i64 0) := BO.cell 0; have e1 : w1.cell? ⟨w0.heap.size, 1, none⟩ = some (.int .i64 0) := BO.cell 1; have e2 : w1.cell? ⟨w0.heap.size, 2, none⟩ = some (.slice none 0 0) := BO.cell 2; have f0 : w1.frozen? ⟨w0.heap.size, 0, none⟩ = false := BO.frozen 0; have f1 : w1.frozen? ⟨w0.heap.size, 1, none⟩ = false := BO.frozen 1; have f2 : w1.frozen? ⟨w0.heap.size, 2, none⟩ = false := BO.frozen 2) | (go_at_call 120; refine (l1Own_any _ _ _ l _ h0.drew (by omega)).mono ?_; rintro e w1 ⟨b, d, rfl, o1, u⟩))
  all_goals first
    | (have u1 : Below w0.heap.size w0 w1 := ((Below.refl _ w0).alloc (Nat.le_refl _) (.cells #[.int .i64 0, .int .i64 0, .slice none 0 0] 44)).drew.trans (u.mono (by simp))
       have G : Only [w0.heap.size] w1 (((w1.setCell ⟨w0.heap.size, 0, none⟩ (.int .i64 L0)).setCell ⟨w0.heap.size, 1, none⟩ (.int .i64 L1)).setCell ⟨w0.heap.size, 2, none⟩ (.slice b n d)) := (((Only.refl [w0.heap.size] w1).setCell ⟨w0.heap.size, 0, none⟩ (.int .i64 L0) (by simp)).setCell ⟨w0.heap.size, 1, none⟩ (.int .i64 L1) (by simp)).setCell ⟨w0.heap.size, 2, none⟩ (.slice b n d) (by simp)
       have hO0 : ∀ q ∈ foot b d, w0.heap.size + 1 ≤ q := fun q hq => by have := (o1.feet q hq).1; simpa using this
       have hV1 := V0.trans (u1.mono V0.size)
       have hV := hV1.trans (G.below hV1.size (fun q hq => by simp at hq; omega))
       have hR := (B_r.below u1).only G (by simp; omega)
       have hB := (B_m.below u1).only G (by simp; omega)
       have hO := (o1.only G (fun q hq hq' => by have := hO0 q hq; simp at hq'; omega)).lower (b' := w.heap.size + 2) (by simp; omega)
       have hQ : Hid (∀ q ∈ foot b d, q ≠ w0.heap.size) := Lib.hid (fun q hq => by have := hO0 q hq; omega)
       have hBO : Blk (((w1.setCell ⟨w0.heap.size, 0, none⟩ (.int .i64 L0)).setCell ⟨w0.heap.size, 1, none⟩ (.int .i64 L1)).setCell ⟨w0.heap.size, 2, none⟩ (.slice b n d)) w0.heap.size 44 #[.int .i64 L0, .int .i64 L1, .slice b n d] := ((BO.set_ 0 (.int .i64 L0)).set_ 1 (.int .i64 L1)).set_ 2 (.slice b n d)
       have hob : w.heap.size + 2 ≤ w0.heap.size := S0
       have hol := hBO.lt
       clear u1 G hO0 hV1 u BO e0 e1 e2 f0 f1 f2 o1 V0 B_r B_m S0 x0 x1 x2
       generalize (((w1.setCell ⟨w0.heap.size, 0, none⟩ (.int .i64 L0)).setCell ⟨w0.heap.size, 1, none⟩ (.int .i64 L1)).setCell ⟨w0.heap.size, 2, none⟩ (.slice b n d)) = W at *
       generalize w0.heap.size = ob at *)
    | (have u1 : Below w0.heap.size w0 w1 := (Below.refl _ w0).drew.trans u
       have hV1 := V0.trans (u1.mono V0.size)
       have hV := hV1.alloc hV1.size (.cells #[.int .i64 L0, .int .i64 L1, .slice b n d] 44)
       have hR := (B_r.below u1).alloc (.cells #[.int .i64 L0, .int .i64 L1, .slice b n d] 44)
       have hB := (B_m.below u1).alloc (.cells #[.int .i64 L0, .int .i64 L1, .slice b n d] 44)
       have hQ : Hid (∀ q ∈ foot b d, q ≠ w1.heap.size) := Lib.hid (fun q hq => by have := (o1.feet q hq).2; omega)
       have hO := (o1.alloc (.cells #[.int .i64 L0, .int .i64 L1, .slice b n d] 44)).lower (b' := w.heap.size + 2) S0
       have hBO : Blk (w1.alloc (.cells #[.int .i64 L0, .int .i64 L1, .slice b n d] 44)) w1.heap.size 44 #[.int .i64 L0, .int .i64 L1, .slice b n d] := Blk.new w1 44 #[.int .i64 L0, .int .i64 L1, .slice b n d]
       have hob : w.heap.size + 2 ≤ w1.heap.size := Nat.le_trans S0 u1.size
       have hol := hBO.lt
       clear u1 hV1 u o1 V0 B_r B_m S0 x0 x1 x2
       generalize (w1.alloc (.cells #[.int .i64 L0, .int .i64 L1, .slice b n d] 44)) = W at *
       generalize w1.heap.size = ob at *)
  all_goals
    go_wp2
    go_loopw [27] (fun v wr => ∃ q : Nat, q ≤ 1 ∧ v = .int .i64 q ∧ Below w.heap.size w wr ∧ Blk wr w.heap.size 44 #[.int .i64 0, .int .i64 0, .slice none 0 0] ∧ Blk wr (w.heap.size + 1) 44 #[.int .i64 L0, .int .i64 L1, .slice a n c] ∧ w.heap.size + 2 ≤ ob ∧ ob < wr.heap.size ∧ ∃ b d LL, Blk wr ob 44 #[.int .i64 L0, .int .i64 L1, .slice b n d] ∧ Own wr (w.heap.size + 2) b n d LL ∧ (∀ q ∈ foot b d, q ≠ ob) ∧ LL = if q = 0 then l else L2) (fun v _ => 1 - (intOf v).toNat)
    case atStart => exact ⟨0, Nat.zero_le _, rfl, hV, hR, hB, hob, hol, b, d, l, hBO, hO, hQ.out, rfl⟩
    case round =>
      obtain ⟨q, hq, rfl, hbel, B_r, B_m, hob, hol, b, d, LL, B_o, oo, hne, hLL⟩ := hrel
      replace hne := Lib.hid hne
      have Q_oo := Lib.hid oo.feet
      by_cases hlt : q < 1
      · obtain rfl : q = 0 := by omega
        obtain rfl : LL = l := by simpa using hLL
        obtain ⟨g, o, hx, hc⟩ := (Flat.below LM.out hbel).at (by omega)
        subst hx
        have m0 : wr.cell? ⟨g, o, none⟩ = some (.int .i64 1) := hc 0 (by omega)
        have m1 : wr.cell? ⟨g, o + 1, none⟩ = some (.int .i64 at0) := hc 1 (by omega)
        have m2 : wr.cell? ⟨g, o + 2, none⟩ = some (.int .i64 i) := hc 2 (by omega)
        have m3 : wr.cell? ⟨g, o + 3, none⟩ = some (.int .i64 k) := hc 3 (by omega)
        clear hc hLL hQ hBO hO hV hR hB
        go_upto_region 6 with fail
        clear m0 m1 m2 m3
        refine Exists.elim (Blk.new_ wr (b := wr.heap.size) rfl 109 #[.int .i64 1, .int .i64 at0, .int .i64 i, .int .i64 k]) (fun w2' q => ?_)
        rw [q.1]; have B_x := q.2.1; have s_w2' := q.2.2.1; have u_w2' := q.2.2.2; clear q
        replace B_r := B_r.below u_w2'
        replace B_m := B_m.below u_w2'
        replace B_o := B_o.below u_w2'
        replace oo := oo.below u_w2'
        have S_w2' : wr.heap.size + 1 ≤ w2'.heap.size := Nat.le_of_eq s_w2'.symm
        have V_w2' := hbel.trans (u_w2'.mono (hbel).size)
        clear u_w2' s_w2' hbel
        by_cases h0 : (j : Int) = at0
        · have d0 : ((at0 != (j : Int)) : Bool) = false := by simp [h0]
          have hin := hi0.out h0
          have CB2 := CB.out h0
          simp only [hin] at CB2
          replace CB2 := Lib.hid CB2
          replace hin := Lib.hid hin
          have hL3 : Hid (bendI p LL i.toNat k = if (1 : Nat) = 0 then LL else L2) := Lib.hid (by rw [hL2.out, if_pos h0]; rfl)
          clear h0 hne
          clear oo
          have e_x := B_x.all4
          have e_m := B_m.all3
          go_wp2_with fail
          clear e_x e_m
          refine (CB2.out _ (IN.out.below V_w2')).mono ?_
          rintro e w3' ⟨b2, d2, rfl, o2, u_w3'⟩
          replace B_r := B_r.below u_w3'
          replace B_m := B_m.below u_w3'
          replace B_o := B_o.below u_w3'
          replace B_x := B_x.below u_w3'
          have S_w3' := u_w3'.size
          have V_w3' : Below w.heap.size w w3' := V_w2'.trans (u_w3'.mono V_w2'.size)
          clear V_w2'
          clear u_w3'
          have Q_o2 := Lib.hid o2.feet
          have e_o := B_o.all3
          have f_o := B_o.frz3
          go_upto_region 16 with fail
          clear e_o f_o
          refine Exists.elim (B_o.row3 (.int .i64 L0) (.int .i64 L1) (.slice b2 n d2)) (fun w4' q => ?_)
          rw [q.1]; replace B_o := q.2.1; have G := q.2.2; clear q
          have V_w4' := (V_w3').trans (G.below (V_w3').size (fun q hq => by have := (V_w3').size; simp at hq; omega))
          replace B_r := B_r.only G (by first | (simp; done) | (simp; omega))
          replace B_m := B_m.only G (by first | (simp; done) | (simp; omega))
          replace B_x := B_x.only G (by first | (simp; done) | (simp; omega))
          replace o2 := o2.only G (fun q hq hq' => by have := Q_o2.out q hq; simp at hq'; omega)
          have sG0 := G.size
          clear G
          clear V_w3'
          have S_w4' : w3'.heap.size + 0 ≤ w4'.heap.size := by omega
          clear sG0
          go_wp2
          go_roundw
          case rel => exact ⟨1, by omega, by go_num, V_w4', B_r, B_m, hob, by omega, b2, d2, _, B_o, o2.lower (by omega), fun q hq => by have := Q_o2.out q hq; omega, hL3.out⟩
          case measure => simp [intOf]
        · have d0 : ((at0 != (j : Int)) : Bool) = true := by simpa using fun e : at0 = (j : Int) => h0 e.symm
          have hL3 : Hid (LL = if (1 : Nat) = 0 then LL else L2) := Lib.hid (by rw [hL2.out, if_neg h0]; rfl)
          clear h0
          have e_x := B_x.all4
          go_wp2
          clear e_x
          go_roundw
          case rel => exact ⟨1, by omega, by go_num, V_w2', B_r, B_m, hob, by omega, b, d, _, B_o, oo, hne.out, hL3.out⟩
          case measure => simp [intOf]
      · obtain rfl : q = 1 := by omega
        obtain rfl : LL = L2 := by simpa using hLL
        clear hLL hQ hBO hO hV hR hB
        have e_o := B_o.all3
        have e_r := B_r.all3
        have f_r := B_r.frz3
        go_wp2
        clear e_o e_r f_r
        clear B_m
        clear B_o
        refine Exists.elim (B_r.row3 (.int .i64 L0) (.int .i64 L1) (.slice b n d)) (fun w5' q => ?_)
        rw [q.1]; replace B_r := q.2.1; have G := q.2.2; clear q
        have V_w5' := (hbel).trans (G.below (hbel).size (fun q hq => by have := (hbel).size; simp at hq; omega))
        replace oo := oo.only G (fun q hq hq' => by have := Q_oo.out q hq; simp at hq'; omega)
        have sG0 := G.size
        clear G
        clear hbel
        have S_w5' : wr.heap.size + 0 ≤ w5'.heap.size := by omega
        clear sG0
        have e_r := B_r.all3
        exact bodyPost_ret (v := .agg #[.int .i64 L0, .int .i64 L1, .slice b n d]) (by simp [results, Tryd.results126, go_sem, e_r]) rfl ⟨b, d, rfl, oo.lower (by omega), V_w5'⟩
end Go.Proofs.YtlmdckcohoddnaaDoor
namespace Go.Proofs.YtlmdckcohoddnaaDoor
open Go.RowKit
set_option maxHeartbeats 4000000 in
set_option maxRecDepth 100000 in
theorem nwOne_1 (p at_ ix vl : Int) (w : World) (hp : 1 ≤ p) (hp2 : p ≤ 1000) :
    Calls Tryd.prog 146 #[.int .i64 p, .agg #[.int .i64 1, .int .i64 at_, .int .i64 ix, .int .i64 vl]] w fun e w' => e = .returned (.bool (inB at_ 0 5 && (inB ix 0 ((blen (at_ / 2).toNat : Int) - 1) && inB vl 0 (p - 1)))) ∧ Below w.heap.size w w' := by
  have C1 := Lib.hid (fun W : World => l1In_any at_ 0 5 W)
  cases h1 : inB at_ 0 5
  · rw [h1] at C1
    simp only [Bool.false_and]
    go_enter Tryd.func146, Tryd.ntmps146
    go_upto_region 1 with fail
    refine Exists.elim (Blk.new_ w (b := w.heap.size) rfl 109 #[.int .i64 1, .int .i64 at_, .int .i64 ix, .int .i64 vl]) (fun w1' q => ?_)
    rw [q.1]; have B_m := q.2.1; have s_w1' := q.2.2.1; have u_w1' := q.2.2.2; clear q
    have S_w1' : w.heap.size + 1 ≤ w1'.heap.size := Nat.le_of_eq s_w1'.symm
    have V_w1' := (Below.refl w.heap.size w).trans (u_w1'.mono ((Below.refl w.heap.size w)).size)
    clear u_w1' s_w1'
    have e_m := B_m.all4
    go_wp2_with fail
    refine (C1.out _).mono ?_
    rintro e w_q ⟨rfl, rfl⟩
    go_wp2
    go_ret
    exact ⟨rfl, V_w1'⟩
  · have A0 := inB_true h1
    rw [h1] at C1
    simp only [Bool.true_and]
    obtain ⟨q, hq⟩ : ∃ q : Nat, (q : Int) = at_ / 2 := ⟨(at_ / 2).toNat, by omega⟩
    have hq3 : q < 3 := by omega
    have td : at_.tdiv 2 = (q : Int) := by rw [hq]; exact Int.tdiv_eq_ediv_of_nonneg A0.1
    have hqq : (at_ / 2).toNat = q := by omega
    rw [hqq]
    have bb := blen_bd q
    have td2 : IntKind.i64.wrap (q : Int) = (q : Int) := IntWalk.i64_in _ (by omega)
    have tw : IntKind.i64.wrap ((blen q : Int) - 1) = (blen q : Int) - 1 := IntWalk.i64_in _ (by omega)
    have tp : IntKind.i64.wrap (p - 1) = p - 1 := IntWalk.i64_in _ (by omega)
    have CX := Lib.hid (fun W : World => l1In_any ix 0 ((blen q : Int) - 1) W)
    have CV := Lib.hid (fun W : World => l1In_any vl 0 (p - 1) W)
    have CL := Lib.hid (fun W : World => ptLength_any q W hq3)
    clear hq hqq h1
    generalize inB vl 0 (p - 1) = bv at *
    generalize inB ix 0 ((blen q : Int) - 1) = bx at *
    cases bx
    · simp only [Bool.false_and]
      go_enter Tryd.func146, Tryd.ntmps146
      go_upto_region 1 with fail
      refine Exists.elim (Blk.new_ w (b := w.heap.size) rfl 109 #[.int .i64 1, .int .i64 at_, .int .i64 ix, .int .i64 vl]) (fun w1' q => ?_)
      rw [q.1]; have B_m := q.2.1; have s_w1' := q.2.2.1; have u_w1' := q.2.2.2; clear q
      have S_w1' : w.heap.size + 1 ≤ w1'.heap.size := Nat.le_of_eq s_w1'.symm
      have V_w1' := (Below.refl w.heap.size w).trans (u_w1'.mono ((Below.refl w.heap.size w)).size)
      clear u_w1' s_w1'
      have e_m := B_m.all4
      go_wp2_with fail
      refine (C1.out _).mono ?_
      rintro e w_q ⟨rfl, rfl⟩
      go_upto_region 4 with fail
      clear e_m
      refine wp_region_noPanic ?_
      refine wp_region_held_drew (S := (fun W => Blk W (w.heap.size) 109 #[.int .i64 1, .int .i64 at_, .int .i64 ix, .int .i64 vl])) (by kernel_rfl) ?hS1 (fun hHeld => ?go1)
      case hS1 => exact B_m.drew
      refine tk (i := 0) (oi := ⟨some 12, _, _, _, _, _⟩) (v := ?v0_2) hHeld rfl ?y0_2 ?r0_2
      case y0_2 => (intro w _; first | (go_simp; first | done | with_reducible rfl) | with_reducible rfl)
      (try simp only [pt_])
      refine tk (i := 1) (oi := ⟨some 13, _, _, _, _, _⟩) (v := ?v1_3) hHeld rfl ?y1_3 ?r1_3
      case y1_3 => (intro w qS0; have cS0 := qS0.all4; first | (go_simp; first | done | with_reducible rfl) | with_reducible rfl)
      (try simp only [pt_])
      refine tk (i := 2) (oi := ⟨some 14, _, _, _, _, _⟩) (v := ?v2_4) hHeld rfl ?y2_4 ?r2_4
      case y2_4 => (intro w _; first | (go_simp; first | done | with_reducible rfl) | with_reducible rfl)
      (try simp only [pt_])
      refine tk (i := 3) (oi := ⟨some 15, _, _, _, _, _⟩) (v := ?v3_5) hHeld rfl ?y3_5 ?r3_5
      case y3_5 => (intro w qS0; have cS0 := qS0.all4; first | (go_simp; first | done | with_reducible rfl) | with_reducible rfl)
      (try simp only [pt_])
      refine tk (i := 4) (oi := ⟨some 16, _, _, _, _, _⟩) (v := ?v4_6) hHeld rfl ?y4_6 ?r4_6
      case y4_6 => (intro w _; first | (go_simp; first | done | with_reducible rfl) | with_reducible rfl)
      (try simp only [pt_])
      refine wpAnyH_ready (rs := [5]) (by kernel_rfl) (by simp) ?_
      refine AllReadyH.cons (o := ⟨some 17, _, _, _, _, _⟩) rfl (fun K hK => ?_) ?_
      go_simp
      refine (CL.out _).mono ?_
      rintro e wj ⟨rfl, uj⟩
      have K_m := Blk.below B_m.drew uj
      refine hK.out _ _ ?_ (fun hHeld => ?_)
      · exact K_m
      clear hK K
      (try simp only [pt_])
      refine tk (i := 6) (oi := ⟨some 18, _, _, _, _, _⟩) (v := ?v6_7) hHeld rfl ?y6_7 ?r6_7
      case y6_7 => (intro w _; first | (go_simp; first | done | with_reducible rfl) | with_reducible rfl)
      (try simp only [pt_])
      refine wpAnyH_ready (rs := [7]) (by kernel_rfl) (by simp) ?_
      refine AllReadyH.cons (o := ⟨some 19, _, _, _, _, _⟩) rfl (fun K hK => ?_) ?_
      go_simp
      refine (CX.out _).mono ?_
      rintro e wk ⟨rfl, rfl⟩
      refine hK.out _ _ ?_ (fun hHeld => ?_)
      · exact K_m
      clear hK K
      (try simp only [pt_])
      refine tk (i := 8) (oi := ⟨some 20, _, _, _, _, _⟩) (v := ?v8_8) hHeld rfl ?y8_8 ?r8_8
      case y8_8 => (intro w _; first | (go_simp; first | done | with_reducible rfl) | with_reducible rfl)
      (try simp only [pt_])
      refine tko (i := 9) (oi := ⟨some 21, _, _, _, _, _⟩) hHeld rfl ?r9_9
      (try simp only [pt_])
      refine tko (i := 10) (oi := ⟨some 22, _, _, _, _, _⟩) hHeld rfl ?r10_10
      (try simp only [pt_])
      refine tko (i := 11) (oi := ⟨some 23, _, _, _, _, _⟩) hHeld rfl ?r11_11
      (try simp only [pt_])
      refine tko (i := 12) (oi := ⟨some 24, _, _, _, _, _⟩) hHeld rfl ?r12_12
      (try simp only [pt_])
      refine tko (i := 13) (oi := ⟨some 25, _, _, _, _, _⟩) hHeld rfl ?r13_13
      (try simp only [pt_])
      refine tk (i := 14) (oi := ⟨some 26, _, _, _, _, _⟩) (v := ?v14_14) hHeld rfl ?y14_14 ?r14_14
      case y14_14 => (intro w _; first | (go_simp; first | done | with_reducible rfl) | with_reducible rfl)
      (try simp only [pt_])
      refine tk (i := 15) (oi := ⟨some 4, _, _, _, _, _⟩) (v := ?v15_15) hHeld rfl ?y15_15 ?r15_15
      case y15_15 => (intro w _; first | (go_simp; first | done | with_reducible rfl) | with_reducible rfl)
      (try simp only [pt_])
      refine wpAnyH_done (by kernel_rfl) ?_ _
      refine NoPanic.normal ?_
      rotate_left 1
      exact AllReadyH.nil
      exact AllReadyH.nil
      have VE := (V_w1').drew.trans (uj.mono (V_w1').size)
      go_wp2
      go_ret
      exact ⟨rfl, VE⟩
    · simp only [Bool.true_and]
      go_enter Tryd.func146, Tryd.ntmps146
      go_upto_region 1 with fail
      refine Exists.elim (Blk.new_ w (b := w.heap.size) rfl 109 #[.int .i64 1, .int .i64 at_, .int .i64 ix, .int .i64 vl]) (fun w1' q => ?_)
      rw [q.1]; have B_m := q.2.1; have s_w1' := q.2.2.1; have u_w1' := q.2.2.2; clear q
      have S_w1' : w.heap.size + 1 ≤ w1'.heap.size := Nat.le_of_eq s_w1'.symm
      have V_w1' := (Below.refl w.heap.size w).trans (u_w1'.mono ((Below.refl w.heap.size w)).size)
      clear u_w1' s_w1'
      have e_m := B_m.all4
      go_wp2_with fail
      refine (C1.out _).mono ?_
      rintro e w_q ⟨rfl, rfl⟩
      go_upto_region 4 with fail
      clear e_m
      refine wp_region_noPanic ?_
      refine wp_region_held_drew (S := (fun W => Blk W (w.heap.size) 109 #[.int .i64 1, .int .i64 at_, .int .i64 ix, .int .i64 vl])) (by kernel_rfl) ?hS16 (fun hHeld => ?go16)
      case hS16 => exact B_m.drew
      refine tk (i := 0) (oi := ⟨some 12, _, _, _, _, _⟩) (v := ?v0_17) hHeld rfl ?y0_17 ?r0_17
      case y0_17 => (intro w _; first | (go_simp; first | done | with_reducible rfl) | with_reducible rfl)
      (try simp only [pt_])
      refine tk (i := 1) (oi := ⟨some 13, _, _, _, _, _⟩) (v := ?v1_18) hHeld rfl ?y1_18 ?r1_18
      case y1_18 => (intro w qS0; have cS0 := qS0.all4; first | (go_simp; first | done | with_reducible rfl) | with_reducible rfl)
      (try simp only [pt_])
      refine tk (i := 2) (oi := ⟨some 14, _, _, _, _, _⟩) (v := ?v2_19) hHeld rfl ?y2_19 ?r2_19
      case y2_19 => (intro w _; first | (go_simp; first | done | with_reducible rfl) | with_reducible rfl)
      (try simp only [pt_])
      refine tk (i := 3) (oi := ⟨some 15, _, _, _, _, _⟩) (v := ?v3_20) hHeld rfl ?y3_20 ?r3_20
      case y3_20 => (intro w qS0; have cS0 := qS0.all4; first | (go_simp; first | done | with_reducible rfl) | with_reducible rfl)
      (try simp only [pt_])
      refine tk (i := 4) (oi := ⟨some 16, _, _, _, _, _⟩) (v := ?v4_21) hHeld rfl ?y4_21 ?r4_21
      case y4_21 => (intro w _; first | (go_simp; first | done | with_reducible rfl) | with_reducible rfl)
      (try simp only [pt_])
      refine wpAnyH_ready (rs := [5]) (by kernel_rfl) (by simp) ?_
      refine AllReadyH.cons (o := ⟨some 17, _, _, _, _, _⟩) rfl (fun K hK => ?_) ?_
      go_simp
      refine (CL.out _).mono ?_
      rintro e wj ⟨rfl, uj⟩
      have K_m := Blk.below B_m.drew uj
      refine hK.out _ _ ?_ (fun hHeld => ?_)
      · exact K_m
      clear hK K
      (try simp only [pt_])
      refine tk (i := 6) (oi := ⟨some 18, _, _, _, _, _⟩) (v := ?v6_22) hHeld rfl ?y6_22 ?r6_22
      case y6_22 => (intro w _; first | (go_simp; first | done | with_reducible rfl) | with_reducible rfl)
      (try simp only [pt_])
      refine wpAnyH_ready (rs := [7]) (by kernel_rfl) (by simp) ?_
      refine AllReadyH.cons (o := ⟨some 19, _, _, _, _, _⟩) rfl (fun K hK => ?_) ?_
      go_simp
      refine (CX.out _).mono ?_
      rintro e wk ⟨rfl, rfl⟩
      refine hK.out _ _ ?_ (fun hHeld => ?_)
      · exact K_m
      clear hK K
      (try simp only [pt_])
      refine tk (i := 8) (oi := ⟨some 20, _, _, _, _, _⟩) (v := ?v8_23) hHeld rfl ?y8_23 ?r8_23
      case y8_23 => (intro w _; first | (go_simp; first | done | with_reducible rfl) | with_reducible rfl)
      (try simp only [pt_])
      refine tk (i := 9) (oi := ⟨some 21, _, _, _, _, _⟩) (v := ?v9_24) hHeld rfl ?y9_24 ?r9_24
      case y9_24 => (intro w _; first | (go_simp; first | done | with_reducible rfl) | with_reducible rfl)
      (try simp only [pt_])
      refine tk (i := 10) (oi := ⟨some 22, _, _, _, _, _⟩) (v := ?v10_25) hHeld rfl ?y10_25 ?r10_25
      case y10_25 => (intro w qS0; have cS0 := qS0.all4; first | (go_simp; first | done | with_reducible rfl) | with_reducible rfl)
      (try simp only [pt_])
      refine tk (i := 11) (oi := ⟨some 23, _, _, _, _, _⟩) (v := ?v11_26) hHeld rfl ?y11_26 ?r11_26
      case y11_26 => (intro w _; first | (go_simp; first | done | with_reducible rfl) | with_reducible rfl)
      (try simp only [pt_])
      refine tk (i := 12) (oi := ⟨some 24, _, _, _, _, _⟩) (v := ?v12_27) hHeld rfl ?y12_27 ?r12_27
      case y12_27 => (intro w _; first | (go_simp; first | done | with_reducible rfl) | with_reducible rfl)
      (try simp only [pt_])
      refine wpAnyH_ready (rs := [13]) (by kernel_rfl) (by simp) ?_
      refine AllReadyH.cons (o := ⟨some 25, _, _, _, _, _⟩) rfl (fun K hK => ?_) ?_
      go_simp
      refine (CV.out _).mono ?_
      rintro e wk ⟨rfl, rfl⟩
      refine hK.out _ _ ?_ (fun hHeld => ?_)
      · exact K_m
      clear hK K
      (try simp only [pt_])
      refine tk (i := 14) (oi := ⟨some 26, _, _, _, _, _⟩) (v := ?v14_28) hHeld rfl ?y14_28 ?r14_28
      case y14_28 => (intro w _; first | (go_simp; first | done | with_reducible rfl) | with_reducible rfl)
      (try simp only [pt_])
      refine tk (i := 15) (oi := ⟨some 4, _, _, _, _, _⟩) (v := ?v15_29) hHeld rfl ?y15_29 ?r15_29
      case y15_29 => (intro w _; first | (go_simp; first | done | with_reducible rfl) | with_reducible rfl)
      (try simp only [pt_])
      refine wpAnyH_done (by kernel_rfl) ?_ _
      refine NoPanic.normal ?_
      rotate_left 1
      exact AllReadyH.nil
      exact AllReadyH.nil
      exact AllReadyH.nil
      have VE := (V_w1').drew.trans (uj.mono (V_w1').size)
      go_wp2
      go_ret
      exact ⟨rfl, VE⟩
set_option maxHeartbeats 4000000 in
set_option maxRecDepth 100000 in
theorem nwGood_1 (p at_ ix vl : Int) (a : Option Addr) (c : Nat) (w : World) (h : Flat 4 w a 1 c [1, at_, ix, vl]) (hp : 1 ≤ p) (hp2 : p ≤ 1000) :
    Calls Tryd.prog 125 #[.int .i64 p, .slice a 1 c] w fun e w' => e = .returned (.bool ((inB at_ 0 5 && (inB ix 0 ((blen (at_ / 2).toNat : Int) - 1) && inB vl 0 (p - 1))) && isPr p)) ∧ Below w.heap.size w w' := by
  have C1 := Lib.hid (fun W : World => nwOne_1 p at_ ix vl W hp hp2)
  generalize (inB at_ 0 5 && (inB ix 0 ((blen (at_ / 2).toNat : Int) - 1) && inB vl 0 (p - 1))) = bo at *
  have LH := Lib.hid h
  clear h
  go_enter Tryd.func125, Tryd.ntmps125
  go_wp2
  go_loopw [9] (fun v wr => ∃ k : Nat, k ≤ 1 ∧ v = .int .i64 k ∧ (k = 1 → bo = true) ∧ Below w.heap.size w wr) (fun v _ => 1 - (intOf v).toNat)
  case atStart => exact ⟨0, Nat.zero_le _, rfl, fun e => absurd e (by omega), Below.refl _ _⟩
  case round =>
    obtain ⟨k, hk, rfl, hj, hbel⟩ := hrel
    by_cases hlt : k < 1
    · obtain rfl : k = 0 := by omega
      obtain ⟨g, o, rfl, hc⟩ := (LH.out.below hbel).at (by omega)
      have c0 : wr.cell? ⟨g, o, none⟩ = some (.int .i64 1) := hc 0 (by omega)
      have c1 : wr.cell? ⟨g, o + 1, none⟩ = some (.int .i64 at_) := hc 1 (by omega)
      have c2 : wr.cell? ⟨g, o + 2, none⟩ = some (.int .i64 ix) := hc 2 (by omega)
      have c3 : wr.cell? ⟨g, o + 3, none⟩ = some (.int .i64 vl) := hc 3 (by omega)
      clear hc hj
      go_upto_region 4 with fail
      clear c0 c1 c2 c3
      refine Exists.elim (Blk.new_ wr (b := wr.heap.size) rfl 109 #[.int .i64 1, .int .i64 at_, .int .i64 ix, .int .i64 vl]) (fun w1' q => ?_)
      rw [q.1]; have B_m := q.2.1; have s_w1' := q.2.2.1; have u_w1' := q.2.2.2; clear q
      have S_w1' : wr.heap.size + 1 ≤ w1'.heap.size := Nat.le_of_eq s_w1'.symm
      have V_w1' := hbel.trans (u_w1'.mono (hbel).size)
      clear u_w1' s_w1' hbel
      cases bo
      · skip
        refine wp_region_noPanic ?_
        refine wp_region_held_drew (S := (fun W => Blk W (wr.heap.size) 109 #[.int .i64 1, .int .i64 at_, .int .i64 ix, .int .i64 vl])) (by kernel_rfl) ?hS30 (fun hHeld => ?go30)
        case hS30 => exact B_m.drew
        refine tk (i := 0) (oi := ⟨some 14, _, _, _, _, _⟩) (v := ?v0_31) hHeld rfl ?y0_31 ?r0_31
        case y0_31 => (intro w _; first | (go_simp; first | done | with_reducible rfl) | with_reducible rfl)
        (try simp only [pt_])
        refine tk (i := 1) (oi := ⟨some 15, _, _, _, _, _⟩) (v := ?v1_32) hHeld rfl ?y1_32 ?r1_32
        case y1_32 => (intro w qS0; have cS0 := qS0.all4; first | (go_simp; first | done | with_reducible rfl) | with_reducible rfl)
        (try simp only [pt_])
        refine wpAnyH_ready (rs := [2]) (by kernel_rfl) (by simp) ?_
        refine AllReadyH.cons (o := ⟨some 16, _, _, _, _, _⟩) rfl (fun K hK => ?_) ?_
        go_simp
        refine (C1.out _).mono ?_
        rintro e wj ⟨rfl, uj⟩
        have K_m := Blk.below B_m.drew uj
        refine hK.out _ _ ?_ (fun hHeld => ?_)
        · exact K_m
        clear hK K
        (try simp only [pt_])
        refine tk (i := 3) (oi := ⟨some 17, _, _, _, _, _⟩) (v := ?v3_33) hHeld rfl ?y3_33 ?r3_33
        case y3_33 => (intro w _; first | (go_simp; first | done | with_reducible rfl) | with_reducible rfl)
        (try simp only [pt_])
        refine tk (i := 4) (oi := ⟨some 18, _, _, _, _, _⟩) (v := ?v4_34) hHeld rfl ?y4_34 ?r4_34
        case y4_34 => (intro w _; first | (go_simp; first | done | with_reducible rfl) | with_reducible rfl)
        (try simp only [pt_])
        refine tko (i := 5) (oi := ⟨some 19, _, _, _, _, _⟩) hHeld rfl ?r5_35
        (try simp only [pt_])
        refine tko (i := 6) (oi := ⟨some 20, _, _, _, _, _⟩) hHeld rfl ?r6_36
        (try simp only [pt_])
        refine tko (i := 7) (oi := ⟨some 21, _, _, _, _, _⟩) hHeld rfl ?r7_37
        (try simp only [pt_])
        refine tko (i := 8) (oi := ⟨some 22, _, _, _, _, _⟩) hHeld rfl ?r8_38
        (try simp only [pt_])
        refine tko (i := 9) (oi := ⟨some 23, _, _, _, _, _⟩) hHeld rfl ?r9_39
        (try simp only [pt_])
        refine tko (i := 10) (oi := ⟨some 24, _, _, _, _, _⟩) hHeld rfl ?r10_40
        (try simp only [pt_])
        refine tko (i := 11) (oi := ⟨some 25, _, _, _, _, _⟩) hHeld rfl ?r11_41
        (try simp only [pt_])
        refine tko (i := 12) (oi := ⟨some 26, _, _, _, _, _⟩) hHeld rfl ?r12_42
        (try simp only [pt_])
        refine tko (i := 13) (oi := ⟨some 27, _, _, _, _, _⟩) hHeld rfl ?r13_43
        (try simp only [pt_])
        refine tko (i := 14) (oi := ⟨some 28, _, _, _, _, _⟩) hHeld rfl ?r14_44
        (try simp only [pt_])
        refine tko (i := 15) (oi := ⟨some 29, _, _, _, _, _⟩) hHeld rfl ?r15_45
        (try simp only [pt_])
        refine tko (i := 16) (oi := ⟨some 30, _, _, _, _, _⟩) hHeld rfl ?r16_46
        (try simp only [pt_])
        refine tko (i := 17) (oi := ⟨some 31, _, _, _, _, _⟩) hHeld rfl ?r17_47
        (try simp only [pt_])
        refine tk (i := 18) (oi := ⟨some 32, _, _, _, _, _⟩) (v := ?v18_48) hHeld rfl ?y18_48 ?r18_48
        case y18_48 => (intro w _; first | (go_simp; first | done | with_reducible rfl) | with_reducible rfl)
        (try simp only [pt_])
        refine wpAnyH_done (by kernel_rfl) ?_ _
        refine NoPanic.normal ?_
        rotate_left 1
        exact AllReadyH.nil
        have VE := (V_w1').drew.trans (uj.mono (V_w1').size)
        go_wp2
        go_ret
        exact ⟨rfl, VE⟩
      · skip
        refine wp_region_noPanic ?_
        refine wp_region_held_drew (S := (fun W => Blk W (wr.heap.size) 109 #[.int .i64 1, .int .i64 at_, .int .i64 ix, .int .i64 vl])) (by kernel_rfl) ?hS49 (fun hHeld => ?go49)
        case hS49 => exact B_m.drew
        refine tk (i := 0) (oi := ⟨some 14, _, _, _, _, _⟩) (v := ?v0_50) hHeld rfl ?y0_50 ?r0_50
        case y0_50 => (intro w _; first | (go_simp; first | done | with_reducible rfl) | with_reducible rfl)
        (try simp only [pt_])
        refine tk (i := 1) (oi := ⟨some 15, _, _, _, _, _⟩) (v := ?v1_51) hHeld rfl ?y1_51 ?r1_51
        case y1_51 => (intro w qS0; have cS0 := qS0.all4; first | (go_simp; first | done | with_reducible rfl) | with_reducible rfl)
        (try simp only [pt_])
        refine wpAnyH_ready (rs := [2]) (by kernel_rfl) (by simp) ?_
        refine AllReadyH.cons (o := ⟨some 16, _, _, _, _, _⟩) rfl (fun K hK => ?_) ?_
        go_simp
        refine (C1.out _).mono ?_
        rintro e wj ⟨rfl, uj⟩
        have K_m := Blk.below B_m.drew uj
        refine hK.out _ _ ?_ (fun hHeld => ?_)
        · exact K_m
        clear hK K
        (try simp only [pt_])
        refine tk (i := 3) (oi := ⟨some 17, _, _, _, _, _⟩) (v := ?v3_52) hHeld rfl ?y3_52 ?r3_52
        case y3_52 => (intro w _; first | (go_simp; first | done | with_reducible rfl) | with_reducible rfl)
        (try simp only [pt_])
        refine tk (i := 4) (oi := ⟨some 18, _, _, _, _, _⟩) (v := ?v4_53) hHeld rfl ?y4_53 ?r4_53
        case y4_53 => (intro w _; first | (go_simp; first | done | with_reducible rfl) | with_reducible rfl)
        (try simp only [pt_])
        refine tk (i := 5) (oi := ⟨some 19, _, _, _, _, _⟩) (v := ?v5_54) hHeld rfl ?y5_54 ?r5_54
        case y5_54 => (intro w _; first | (go_simp; first | done | with_reducible rfl) | with_reducible rfl)
        (try simp only [pt_])
        refine tk (i := 6) (oi := ⟨some 20, _, _, _, _, _⟩) (v := ?v6_55) hHeld rfl ?y6_55 ?r6_55
        case y6_55 => (intro w _; first | (go_simp; first | done | with_reducible rfl) | with_reducible rfl)
        (try simp only [pt_])
        refine tk (i := 7) (oi := ⟨some 21, _, _, _, _, _⟩) (v := ?v7_56) hHeld rfl ?y7_56 ?r7_56
        case y7_56 => (intro w _; first | (go_simp; first | done | with_reducible rfl) | with_reducible rfl)
        (try simp only [pt_])
        refine tko (i := 8) (oi := ⟨some 22, _, _, _, _, _⟩) hHeld rfl ?r8_57
        (try simp only [pt_])
        refine tko (i := 9) (oi := ⟨some 23, _, _, _, _, _⟩) hHeld rfl ?r9_58
        (try simp only [pt_])
        refine tko (i := 10) (oi := ⟨some 24, _, _, _, _, _⟩) hHeld rfl ?r10_59
        (try simp only [pt_])
        refine tko (i := 11) (oi := ⟨some 25, _, _, _, _, _⟩) hHeld rfl ?r11_60
        (try simp only [pt_])
        refine tko (i := 12) (oi := ⟨some 26, _, _, _, _, _⟩) hHeld rfl ?r12_61
        (try simp only [pt_])
        refine tko (i := 13) (oi := ⟨some 27, _, _, _, _, _⟩) hHeld rfl ?r13_62
        (try simp only [pt_])
        refine tko (i := 14) (oi := ⟨some 28, _, _, _, _, _⟩) hHeld rfl ?r14_63
        (try simp only [pt_])
        refine tko (i := 15) (oi := ⟨some 29, _, _, _, _, _⟩) hHeld rfl ?r15_64
        (try simp only [pt_])
        refine tko (i := 16) (oi := ⟨some 30, _, _, _, _, _⟩) hHeld rfl ?r16_65
        (try simp only [pt_])
        refine tk (i := 17) (oi := ⟨some 31, _, _, _, _, _⟩) (v := ?v17_66) hHeld rfl ?y17_66 ?r17_66
        case y17_66 => (intro w _; first | (go_simp; first | done | with_reducible rfl) | with_reducible rfl)
        (try simp only [pt_])
        refine tk (i := 18) (oi := ⟨some 32, _, _, _, _, _⟩) (v := ?v18_67) hHeld rfl ?y18_67 ?r18_67
        case y18_67 => (intro w _; first | (go_simp; first | done | with_reducible rfl) | with_reducible rfl)
        (try simp only [pt_])
        refine wpAnyH_done (by kernel_rfl) ?_ _
        refine NoPanic.normal ?_
        rotate_left 1
        exact AllReadyH.nil
        have VE := (V_w1').drew.trans (uj.mono (V_w1').size)
        go_wp2
        go_roundw
        case rel => exact ⟨1, by omega, by go_num, by simp, VE⟩
        case measure => simp [intOf]
    · obtain rfl : k = 1 := by omega
      have hq0 := hj rfl
      subst hq0
      clear hj
      go_wp2_with fail
      refine (fpGood_any p _).mono ?_
      rintro e w2 ⟨rfl, m2, rfl⟩
      go_wp2
      go_ret
      exact ⟨by simp, below_drewN hbel _⟩
def svB (a b : Pl) (at_ i : Int) : Bool := twoB a b && (inB at_ 0 5 && inB i 0 ((blen (at_ / 2).toNat : Int) - 1))
set_option maxHeartbeats 4000000 in
set_option maxRecDepth 100000 in
theorem nwAsked_1 (a b : Pl) (x z : PlX) (at_ i : Int) (pl : Option Addr) (cl : Nat) (w : World) (h : PlR w x a.shares a.keys a.heard) (h' : PlR w z b.shares b.keys b.heard) (hT : Tbl w) (hM : Flat 4 w pl 1 cl [1, at_, i, 0]) :
    Calls Tryd.prog 96 #[.agg #[.int .i64 a.P, .int .i64 a.party, .int .i64 a.input, .int .i64 a.mask, .int .i64 a.delta, .slice x.sa x.sn x.sc, .slice x.ka x.kn x.kc, .int .i64 a.step, .slice x.ha x.hn x.hc, .int .i64 a.status, .int .i64 a.out], .agg #[.int .i64 b.P, .int .i64 b.party, .int .i64 b.input, .int .i64 b.mask, .int .i64 b.delta, .slice z.sa z.sn z.sc, .slice z.ka z.kn z.kc, .int .i64 b.step, .slice z.ha z.hn z.hc, .int .i64 b.status, .int .i64 b.out], .slice pl 1 cl] w fun e w' => e = .returned (.bool (svB a b at_ i)) ∧ Below w.heap.size w w' := by
  have CT := Lib.hid (fun (W : World) (h2 : PlR W x a.shares a.keys a.heard) (k2 : PlR W z b.shares b.keys b.heard) (hT2 : Tbl W) => ptBoth_any a x b z W h2 k2 hT2)
  have CG := Lib.hid (fun (hb : twoB a b = true) (W : World) (hf : Flat 4 W pl 1 cl [1, at_, i, 0]) => (by
    have hN := PlN.of (twoB_parts hb).1
    have q := nwGood_1 a.P at_ i 0 pl cl W hf (by have := hN.p1; omega) (by have := hN.p2; omega)
    have e1 : inB 0 0 (a.P - 1) = true := by unfold inB; simp; have := hN.p1; omega
    rw [e1, hN.pr, Bool.and_true, Bool.and_true] at q
    exact q : Calls Tryd.prog 125 #[.int .i64 a.P, .slice pl 1 cl] W fun e w' => e = .returned (.bool (inB at_ 0 5 && inB i 0 ((blen (at_ / 2).toNat : Int) - 1))) ∧ Below W.heap.size W w'))
  unfold svB
  generalize (inB at_ 0 5 && inB i 0 ((blen (at_ / 2).toNat : Int) - 1)) = bo at *
  generalize twoB a b = tb at CT CG ⊢
  have LH := Lib.hid h
  have LH' := Lib.hid h'
  have LX := Lib.hid hT
  have LM := Lib.hid hM
  clear h h' hT hM
  go_enter Tryd.func96, Tryd.ntmps96
  go_upto_region 1 with fail
  refine Exists.elim (Blk.new_ w (b := w.heap.size) rfl 31 #[.int .i64 a.P, .int .i64 a.party, .int .i64 a.input, .int .i64 a.mask, .int .i64 a.delta, .slice x.sa x.sn x.sc, .slice x.ka x.kn x.kc, .int .i64 a.step, .slice x.ha x.hn x.hc, .int .i64 a.status, .int .i64 a.out]) (fun w1_a0' q => ?_)
  rw [q.1]; have B_a := q.2.1; have s_w1_a0' := q.2.2.1; have u_w1_a0' := q.2.2.2; clear q
  refine Exists.elim (Blk.new_ w1_a0' (b := w.heap.size + 1) s_w1_a0' 31 #[.int .i64 b.P, .int .i64 b.party, .int .i64 b.input, .int .i64 b.mask, .int .i64 b.delta, .slice z.sa z.sn z.sc, .slice z.ka z.kn z.kc, .int .i64 b.step, .slice z.ha z.hn z.hc, .int .i64 b.status, .int .i64 b.out]) (fun w1' q => ?_)
  rw [q.1]; have B_b := q.2.1; have s_w1' := q.2.2.1; have u_w1' := q.2.2.2; clear q
  replace B_a := (B_a.below u_w1')
  have U := (u_w1_a0'.trans (u_w1'.mono u_w1_a0'.size))
  have S_w1' : w.heap.size + 2 ≤ w1'.heap.size := Nat.le_of_eq s_w1'.symm
  have V_w1' := (Below.refl w.heap.size w).trans (U.mono ((Below.refl w.heap.size w)).size)
  clear u_w1_a0' u_w1' s_w1_a0' s_w1' U
  have e_a := B_a.all11
  have e_b := B_b.all11
  go_wp2_with fail
  clear e_a e_b
  refine (CT.out _ (LH.out.below V_w1') (LH'.out.below V_w1') (LX.out.below V_w1')).mono ?_
  rintro e w2' ⟨rfl, u_w2'⟩
  replace B_a := B_a.below u_w2'
  replace B_b := B_b.below u_w2'
  have S_w2' := u_w2'.size
  have V_w2' : Below w.heap.size w w2' := V_w1'.trans (u_w2'.mono V_w1'.size)
  clear V_w1'
  clear u_w2'
  cases tb
  · go_wp2
    go_ret
    exact ⟨rfl, V_w2'⟩
  · replace CG := Lib.hid (CG.out rfl)
    have e_a := B_a.all11
    go_wp2_with fail
    clear e_a
    refine (CG.out _ (Flat.below LM.out V_w2')).mono ?_
    rintro e w3' ⟨rfl, u_w3'⟩
    replace B_a := B_a.below u_w3'
    replace B_b := B_b.below u_w3'
    have S_w3' := u_w3'.size
    have V_w3' : Below w.heap.size w w3' := V_w2'.trans (u_w3'.mono V_w2'.size)
    clear V_w2'
    clear u_w3'
    go_wp2
    go_ret
    exact ⟨rfl, V_w3'⟩
end Go.Proofs.YtlmdckcohoddnaaDoor
