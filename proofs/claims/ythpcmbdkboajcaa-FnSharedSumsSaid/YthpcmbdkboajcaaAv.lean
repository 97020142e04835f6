/- The values of a circuit over a field: the program's own evaluation (values, ArithValues, EvalArith). -/
import Derived.Test.YthpcmbdkboajcaaShP
import Derived.Test.YthpcmbdkboajcaaIsAr
import Derived.Test.YthpcmbdkboajcaaAsked
import Derived.Deep.DeepCutAuto
namespace Go.Proofs.Ythpcmbdkboajcaa
open Go.RowKit
theorem avR_rng {P : Int} {G V : List Int} (hp : 1 ≤ P) (hV : ∀ x ∈ V, 0 ≤ x ∧ x ≤ P - 1) : ∀ k, ∀ x ∈ avR P G V k, 0 ≤ x ∧ x ≤ P - 1
  | 0, x, hx => hV x hx
  | k + 1, x, hx => by
    rw [avR, List.mem_append, List.mem_singleton] at hx
    rcases hx with hx | rfl
    · exact avR_rng hp hV k x hx
    · exact mod_rng _ _ hp
def evB (P i0 i1 : Int) (gn : Nat) (G O A B : List Int) : Bool := arB P i0 i1 gn G O && elsB P A && elsB P B && decide ((A.length : Int) = i0) && decide ((B.length : Int) = i1)
theorem evB_of {P i0 i1 : Int} {gn : Nat} {G O : List Int} {key : Int} {A B : List Int} (h : asB P i0 i1 gn G O key A B = true) : evB P i0 i1 gn G O A B = true := by
  simp only [asB, Bool.and_eq_true] at h
  simp only [evB, Bool.and_eq_true]
  obtain ⟨⟨⟨⟨⟨h1, h2⟩, h3⟩, h4⟩, h5⟩, h6⟩ := h
  exact ⟨⟨⟨⟨h1, h3⟩, h4⟩, h5⟩, h6⟩
set_option maxHeartbeats 8000000 in
set_option maxRecDepth 100000 in
theorem avals_any (P i0 i1 : Int) (ga : Option Addr) (gn gc : Nat) (G : List Int) (oa : Option Addr) (on oc : Nat) (a : Option Addr) (n c : Nat) (V : List Int) (w : World) (hG : Flat 3 w ga gn gc G) (hV : Ints w a n c V)
    (hp : 2 ≤ P) (hp2 : P ≤ 251) (hn : n ≤ 16) (hgn : gn ≤ 100) (rV : ∀ x ∈ V, 0 ≤ x ∧ x ≤ P - 1) (hg : ∀ k, k < gn → gateAt P (n : Int) G k = true) :
    Calls Try.prog 76 #[.agg #[.int .i64 P, .int .i64 i0, .int .i64 i1, .slice ga gn gc, .slice oa on oc], .slice a n c] w fun e w' => ∃ a' c', e = .returned (.slice a' (n + gn) c') ∧ Own w' w.heap.size a' (n + gn) c' (avR P G V gn) ∧ Below w.heap.size w w' := by

  have RV := Lib.hid (fun k => avR_rng (P := P) (G := G) (V := V) (by omega) rV k)
  have HGA := Lib.hid hg
  have LV := Lib.hid hV
  have LG := Lib.hid hG
  have hgl := hG.le
  clear rV hg hV hG
  go_enter Try.func76, Try.ntmps76
  go_wp2_with fail
  refine Exists.elim (Blk.new_ w (b := w.heap.size) rfl 41 #[.int .i64 P, .int .i64 i0, .int .i64 i1, .slice ga gn gc, .slice oa on oc]) (fun w1' q => ?_)
  rw [q.1]; have B_x := q.2.1; have s_w1' := q.2.2.1; have u_w1' := q.2.2.2; clear q
  have S_w1' : w.heap.size + 1 ≤ w1'.heap.size := Nat.le_of_eq s_w1'.symm
  have V_w1' := (Below.refl w.heap.size w).trans (u_w1'.mono ((Below.refl w.heap.size w)).size)
  clear u_w1' s_w1'
  refine (Clone_any _ _ _ V _ (LV.out.below V_w1') (by omega)).mono ?_
  rintro e w2' ⟨a1, c1, rfl, o1, u_w2'⟩
  replace B_x := B_x.below u_w2'
  have S_w2' := u_w2'.size
  have V_w2' : Below w.heap.size w w2' := V_w1'.trans (u_w2'.mono V_w1'.size)
  clear V_w1'
  clear u_w2'
  replace o1 := o1.lower (show w.heap.size + 1 ≤ _ by omega)
  have e_x_0 : w2'.cell? ⟨w.heap.size, 0, none⟩ = some (.int .i64 P) := B_x.cell 0
  have e_x_1 : w2'.cell? ⟨w.heap.size, 1, none⟩ = some (.int .i64 i0) := B_x.cell 1
  have e_x_2 : w2'.cell? ⟨w.heap.size, 2, none⟩ = some (.int .i64 i1) := B_x.cell 2
  have e_x_3 : w2'.cell? ⟨w.heap.size, 3, none⟩ = some (.slice ga gn gc) := B_x.cell 3
  have e_x_4 : w2'.cell? ⟨w.heap.size, 4, none⟩ = some (.slice oa on oc) := B_x.cell 4
  go_wp2
  clear e_x_0 e_x_1 e_x_2 e_x_3 e_x_4
  go_loopw [5, 14] (fun u v wr => ∃ k : Nat, k ≤ gn ∧ v = .int .i64 k ∧ Below w.heap.size w wr ∧ Blk wr w.heap.size 41 #[.int .i64 P, .int .i64 i0, .int .i64 i1, .slice ga gn gc, .slice oa on oc] ∧ ∃ a2 c2, u = .slice a2 (n + k) c2 ∧ Own wr (w.heap.size + 1) a2 (n + k) c2 (avR P G V k)) (fun _ v _ => gn - (intOf v).toNat)
  case atStart => exact ⟨0, by omega, rfl, V_w2', B_x, a1, c1, rfl, o1⟩
  case round =>
    clear B_x o1 V_w2'
    obtain ⟨k, hk, rfl, hV2, B_x, a2, c2, rfl, own⟩ := hrel

    by_cases hlt : k < gn

    · have HL := Lib.hid own.len
      have HR := Lib.hid (RV.out k)
      have HS : Hid (avR P G V (k + 1) = avR P G V k ++ [avG P (G.getD (k * 3) 0) (G.getD (k * 3 + 1) 0) (G.getD (k * 3 + 2) 0) (avR P G V k)]) := rfl
      have HQ := Lib.hid (HGA.out k hlt)
      unfold gateAt at HQ
      generalize avR P G V k = L at *
      obtain ⟨g, o, rfl, hc⟩ := (LG.out.below hV2).at (by omega)
      have q0 : wr.cell? ⟨g, o + k * 3, none⟩ = some (.int .i64 (G.getD (k * 3) 0)) := hc (k * 3) (by omega)
      have q1 : wr.cell? ⟨g, o + k * 3 + 1, none⟩ = some (.int .i64 (G.getD (k * 3 + 1) 0)) := by have := hc (k * 3 + 1) (by omega); simpa only [Nat.add_assoc] using this
      have q2 : wr.cell? ⟨g, o + k * 3 + 2, none⟩ = some (.int .i64 (G.getD (k * 3 + 2) 0)) := by have := hc (k * 3 + 2) (by omega); simpa only [Nat.add_assoc] using this
      clear hc
      generalize G.getD (k * 3) 0 = kd at *
      generalize G.getD (k * 3 + 1) 0 = ka at *
      generalize G.getD (k * 3 + 2) 0 = kb at *


      go_upto_region 5 with fail
      clear q0 q1 q2
      refine Exists.elim (Blk.new_ wr (b := wr.heap.size) rfl 78 #[.int .i64 kd, .int .i64 ka, .int .i64 kb]) (fun w3' q => ?_)
      rw [q.1]; have B_q := q.2.1; have s_w3' := q.2.2.1; have u_w3' := q.2.2.2; clear q
      replace B_x := B_x.below u_w3'
      replace own := own.below u_w3'
      have S_w3' : wr.heap.size + 1 ≤ w3'.heap.size := Nat.le_of_eq s_w3'.symm
      have V_w3' := hV2.trans (u_w3'.mono (hV2).size)
      clear u_w3' s_w3' hV2
      have p0 : ((P == 0) : Bool) = false := by simp; omega
      have p0' : ¬ P = 0 := by omega


















      by_cases k0 : kd = 0

      · subst k0
        obtain ⟨⟨ra0, ra1⟩, rb0, rb1⟩ := gateB_add HQ.out rfl
        obtain ⟨an, rfl⟩ : ∃ q : Nat, ka = q := ⟨ka.toNat, by omega⟩
        obtain ⟨bn, rfl⟩ : ∃ q : Nat, kb = q := ⟨kb.toNat, by omega⟩
        have hla := HL.out
        have ma := HR.out _ (getD_mem L an (by omega))
        have mb := HR.out _ (getD_mem L bn (by omega))
        obtain ⟨g2, rfl, _, _, ca, _, _⟩ := own.at an (by omega)
        obtain ⟨g2', e2, _, _, cb, _, _⟩ := own.at bn (by omega)
        cases e2
        have la : (an : Int) < ((n + k : Nat) : Int) := by omega
        have lb : (bn : Int) < ((n + k : Nat) : Int) := by omega
        have HV : Hid (avG P 0 (an : Int) (bn : Int) L = (L.getD an 0 + L.getD bn 0) % P) := Lib.hid (by unfold avG; rw [if_pos rfl, Int.toNat_natCast, Int.toNat_natCast])
        generalize L.getD an 0 = xa at *
        generalize L.getD bn 0 = xb at *
        obtain ⟨vv, hvv⟩ : ∃ v, v = xa + xb := ⟨_, rfl⟩
        rw [← hvv] at HV
        have v0 : 0 ≤ vv := by omega
        have wv : IntKind.i64.wrap (xa + xb) = vv := by rw [← hvv]; exact IntWalk.i64_in _ (by omega)
        clear hvv ma mb hla
        have e_q := B_q.all3
        go_wp2
        go_quiet (fail)
        clear e_q
        clear wv ca cb la lb
        generalize hwq : w3'.drewN nq = wq at *
        have u9 : Below w3'.heap.size w3' wq := hwq ▸ below_of_drewN nq
        clear hwq
        replace B_x := B_x.below u9
        replace B_q := B_q.below u9
        replace own := own.below u9
        have S_wq := u9.size
        have V_wq : Below w.heap.size w wq := V_w3'.trans (u9.mono V_w3'.size)
        clear V_w3'
        clear u9
        have tm : vv.tmod P = vv % P := Int.tmod_eq_emod_of_nonneg v0
        have bm : 0 ≤ vv % P ∧ vv % P ≤ P - 1 := mod_rng _ _ (by omega)
        have wm : IntKind.i64.wrap (vv % P) = vv % P := IntWalk.i64_in _ (by omega)
        have e_x_0 : wq.cell? ⟨w.heap.size, 0, none⟩ = some (.int .i64 P) := B_x.cell 0
        have e_x_1 : wq.cell? ⟨w.heap.size, 1, none⟩ = some (.int .i64 i0) := B_x.cell 1
        have e_x_2 : wq.cell? ⟨w.heap.size, 2, none⟩ = some (.int .i64 i1) := B_x.cell 2
        have e_x_3 : wq.cell? ⟨w.heap.size, 3, none⟩ = some (.slice (some ⟨g, o, none⟩) gn gc) := B_x.cell 3
        have e_x_4 : wq.cell? ⟨w.heap.size, 4, none⟩ = some (.slice oa on oc) := B_x.cell 4
        go_wp2_with (at_builtin; refine wpList_appI _ rfl _ _ rfl (w.heap.size + 1) (some ⟨g2, 0, none⟩) (n + k) c2 L rfl (own.alloc _) _ 1 1 [vv % P] rfl (Ints.lit1 _ _ _) (by omega) (by simp; omega) ?_)
        clear e_x_0 e_x_1 e_x_2 e_x_3 e_x_4
        intro a5 c5 w5 o5 u5 g5
        have L5 := (Below.refl wq.heap.size wq).alloc (Nat.le_refl _) (.cells #[.int .i64 (vv % P)] 3)
        have G5 : Only (foot (some ⟨g2, 0, none⟩) c2) (wq.alloc (.cells #[.int .i64 (vv % P)] 3)) w5 := Only.of_grown g5
        have B5 := (B_x.below L5).only G5 (by intro hm; have := (own.feet _ hm).1; omega)
        have V5 := (V_wq.trans (L5.mono V_wq.size)).trans (u5.mono (by omega))
        clear L5 G5 g5 u5
        go_wp2
        go_roundw
        case rel => exact ⟨k + 1, by omega, by go_num, V5, B5, a5, c5, rfl, by rw [HS.out, HV.out]; exact o5⟩
        case measure => simp [intOf]; omega

      · by_cases k1 : kd = 1

        · subst k1
          obtain ⟨⟨ra0, ra1⟩, rb0, rb1⟩ := gateB_mul HQ.out rfl
          obtain ⟨an, rfl⟩ : ∃ q : Nat, ka = q := ⟨ka.toNat, by omega⟩
          obtain ⟨bn, rfl⟩ : ∃ q : Nat, kb = q := ⟨kb.toNat, by omega⟩
          have hla := HL.out
          have ma := HR.out _ (getD_mem L an (by omega))
          have mb := HR.out _ (getD_mem L bn (by omega))
          obtain ⟨g2, rfl, _, _, ca, _, _⟩ := own.at an (by omega)
          obtain ⟨g2', e2, _, _, cb, _, _⟩ := own.at bn (by omega)
          cases e2
          have la : (an : Int) < ((n + k : Nat) : Int) := by omega
          have lb : (bn : Int) < ((n + k : Nat) : Int) := by omega
          have HV : Hid (avG P 1 (an : Int) (bn : Int) L = (L.getD an 0 * L.getD bn 0) % P) := Lib.hid (by unfold avG; rw [if_neg (by decide), if_pos rfl, Int.toNat_natCast, Int.toNat_natCast])
          generalize L.getD an 0 = xa at *
          generalize L.getD bn 0 = xb at *
          have mm := mul_rng (a := xa) (b := xb) (by omega) (by omega) (by omega) (by omega)
          obtain ⟨vv, hvv⟩ : ∃ v, v = xa * xb := ⟨_, rfl⟩
          rw [← hvv] at HV mm
          have v0 : 0 ≤ vv := mm.1
          have wv : IntKind.i64.wrap (xa * xb) = vv := by rw [← hvv]; exact IntWalk.i64_in _ (by omega)
          have wv' : wrap64 (xa * xb) = vv := by rw [← hvv]; exact IntWalk.wrap64_in _ (by omega)
          clear hvv ma mb hla k0
          have e_q := B_q.all3
          go_wp2
          go_quiet (fail)
          clear e_q
          clear wv wv' ca cb la lb
          generalize hwq : w3'.drewN nq = wq at *
          have u9 : Below w3'.heap.size w3' wq := hwq ▸ below_of_drewN nq
          clear hwq
          replace B_x := B_x.below u9
          replace B_q := B_q.below u9
          replace own := own.below u9
          have S_wq := u9.size
          have V_wq : Below w.heap.size w wq := V_w3'.trans (u9.mono V_w3'.size)
          clear V_w3'
          clear u9
          have tm : vv.tmod P = vv % P := Int.tmod_eq_emod_of_nonneg v0
          have bm : 0 ≤ vv % P ∧ vv % P ≤ P - 1 := mod_rng _ _ (by omega)
          have wm : IntKind.i64.wrap (vv % P) = vv % P := IntWalk.i64_in _ (by omega)
          have e_x_0 : wq.cell? ⟨w.heap.size, 0, none⟩ = some (.int .i64 P) := B_x.cell 0
          have e_x_1 : wq.cell? ⟨w.heap.size, 1, none⟩ = some (.int .i64 i0) := B_x.cell 1
          have e_x_2 : wq.cell? ⟨w.heap.size, 2, none⟩ = some (.int .i64 i1) := B_x.cell 2
          have e_x_3 : wq.cell? ⟨w.heap.size, 3, none⟩ = some (.slice (some ⟨g, o, none⟩) gn gc) := B_x.cell 3
          have e_x_4 : wq.cell? ⟨w.heap.size, 4, none⟩ = some (.slice oa on oc) := B_x.cell 4
          go_wp2_with (at_builtin; refine wpList_appI _ rfl _ _ rfl (w.heap.size + 1) (some ⟨g2, 0, none⟩) (n + k) c2 L rfl (own.alloc _) _ 1 1 [vv % P] rfl (Ints.lit1 _ _ _) (by omega) (by simp; omega) ?_)
          clear e_x_0 e_x_1 e_x_2 e_x_3 e_x_4
          intro a5 c5 w5 o5 u5 g5
          have L5 := (Below.refl wq.heap.size wq).alloc (Nat.le_refl _) (.cells #[.int .i64 (vv % P)] 3)
          have G5 : Only (foot (some ⟨g2, 0, none⟩) c2) (wq.alloc (.cells #[.int .i64 (vv % P)] 3)) w5 := Only.of_grown g5
          have B5 := (B_x.below L5).only G5 (by intro hm; have := (own.feet _ hm).1; omega)
          have V5 := (V_wq.trans (L5.mono V_wq.size)).trans (u5.mono (by omega))
          clear L5 G5 g5 u5
          go_wp2
          go_roundw
          case rel => exact ⟨k + 1, by omega, by go_num, V5, B5, a5, c5, rfl, by rw [HS.out, HV.out]; exact o5⟩
          case measure => simp [intOf]; omega

        · by_cases k2 : kd = 2

          · subst k2
            obtain ⟨⟨ra0, ra1⟩, rb0, rb1⟩ := gateB_scale HQ.out rfl
            obtain ⟨an, rfl⟩ : ∃ q : Nat, ka = q := ⟨ka.toNat, by omega⟩
            have hla := HL.out
            have ma := HR.out _ (getD_mem L an (by omega))
            obtain ⟨g2, rfl, _, _, ca, _, _⟩ := own.at an (by omega)
            have la : (an : Int) < ((n + k : Nat) : Int) := by omega
            have HV : Hid (avG P 2 (an : Int) kb L = (L.getD an 0 * kb) % P) := Lib.hid (by unfold avG; rw [if_neg (by decide), if_neg (by decide), if_pos rfl, Int.toNat_natCast])
            generalize L.getD an 0 = xa at *
            have mm := mul_rng (a := xa) (b := kb) (by omega) (by omega) (by omega) (by omega)
            obtain ⟨vv, hvv⟩ : ∃ v, v = xa * kb := ⟨_, rfl⟩
            rw [← hvv] at HV mm
            have v0 : 0 ≤ vv := mm.1
            have wv : IntKind.i64.wrap (xa * kb) = vv := by rw [← hvv]; exact IntWalk.i64_in _ (by omega)
            have wv' : wrap64 (xa * kb) = vv := by rw [← hvv]; exact IntWalk.wrap64_in _ (by omega)
            clear hvv ma hla k0 k1
            have e_q := B_q.all3
            go_wp2
            go_quiet (fail)
            clear e_q
            clear wv wv' ca la
            generalize hwq : w3'.drewN nq = wq at *
            have u9 : Below w3'.heap.size w3' wq := hwq ▸ below_of_drewN nq
            clear hwq
            replace B_x := B_x.below u9
            replace B_q := B_q.below u9
            replace own := own.below u9
            have S_wq := u9.size
            have V_wq : Below w.heap.size w wq := V_w3'.trans (u9.mono V_w3'.size)
            clear V_w3'
            clear u9
            have tm : vv.tmod P = vv % P := Int.tmod_eq_emod_of_nonneg v0
            have bm : 0 ≤ vv % P ∧ vv % P ≤ P - 1 := mod_rng _ _ (by omega)
            have wm : IntKind.i64.wrap (vv % P) = vv % P := IntWalk.i64_in _ (by omega)
            have e_x_0 : wq.cell? ⟨w.heap.size, 0, none⟩ = some (.int .i64 P) := B_x.cell 0
            have e_x_1 : wq.cell? ⟨w.heap.size, 1, none⟩ = some (.int .i64 i0) := B_x.cell 1
            have e_x_2 : wq.cell? ⟨w.heap.size, 2, none⟩ = some (.int .i64 i1) := B_x.cell 2
            have e_x_3 : wq.cell? ⟨w.heap.size, 3, none⟩ = some (.slice (some ⟨g, o, none⟩) gn gc) := B_x.cell 3
            have e_x_4 : wq.cell? ⟨w.heap.size, 4, none⟩ = some (.slice oa on oc) := B_x.cell 4
            go_wp2_with (at_builtin; refine wpList_appI _ rfl _ _ rfl (w.heap.size + 1) (some ⟨g2, 0, none⟩) (n + k) c2 L rfl (own.alloc _) _ 1 1 [vv % P] rfl (Ints.lit1 _ _ _) (by omega) (by simp; omega) ?_)
            clear e_x_0 e_x_1 e_x_2 e_x_3 e_x_4
            intro a5 c5 w5 o5 u5 g5
            have L5 := (Below.refl wq.heap.size wq).alloc (Nat.le_refl _) (.cells #[.int .i64 (vv % P)] 3)
            have G5 : Only (foot (some ⟨g2, 0, none⟩) c2) (wq.alloc (.cells #[.int .i64 (vv % P)] 3)) w5 := Only.of_grown g5
            have B5 := (B_x.below L5).only G5 (by intro hm; have := (own.feet _ hm).1; omega)
            have V5 := (V_wq.trans (L5.mono V_wq.size)).trans (u5.mono (by omega))
            clear L5 G5 g5 u5
            go_wp2
            go_roundw
            case rel => exact ⟨k + 1, by omega, by go_num, V5, B5, a5, c5, rfl, by rw [HS.out, HV.out]; exact o5⟩
            case measure => simp [intOf]; omega

          · obtain ⟨rfl, ⟨v0, v1⟩, rfl⟩ := gateB_const HQ.out k0 k1 k2
            have HV : Hid (avG P 3 ka 0 L = ka % P) := Lib.hid (by unfold avG; rw [if_neg (by decide), if_neg (by decide), if_neg (by decide)])
            clear k0 k1 k2
            generalize ka = vv at *
            clear v1
            have e_q := B_q.all3
            go_upto_region 13 with fail
            clear e_q
            have sV := (V_w3').size
            have tm : vv.tmod P = vv % P := Int.tmod_eq_emod_of_nonneg v0
            have bm : 0 ≤ vv % P ∧ vv % P ≤ P - 1 := mod_rng _ _ (by omega)
            have wm : IntKind.i64.wrap (vv % P) = vv % P := IntWalk.i64_in _ (by omega)
            have e_x_0 : w3'.cell? ⟨w.heap.size, 0, none⟩ = some (.int .i64 P) := B_x.cell 0
            have e_x_1 : w3'.cell? ⟨w.heap.size, 1, none⟩ = some (.int .i64 i0) := B_x.cell 1
            have e_x_2 : w3'.cell? ⟨w.heap.size, 2, none⟩ = some (.int .i64 i1) := B_x.cell 2
            have e_x_3 : w3'.cell? ⟨w.heap.size, 3, none⟩ = some (.slice (some ⟨g, o, none⟩) gn gc) := B_x.cell 3
            have e_x_4 : w3'.cell? ⟨w.heap.size, 4, none⟩ = some (.slice oa on oc) := B_x.cell 4
            go_wp2_with (at_builtin; refine wpList_appI _ rfl _ _ rfl (w.heap.size + 1) a2 (n + k) c2 L rfl (own.alloc _) _ 1 1 [vv % P] rfl (Ints.lit1 _ _ _) (by omega) (by simp; omega) ?_)
            clear e_x_0 e_x_1 e_x_2 e_x_3 e_x_4
            intro a5 c5 w5 o5 u5 g5
            have L5 := (Below.refl w3'.heap.size w3').alloc (Nat.le_refl _) (.cells #[.int .i64 (vv % P)] 3)
            have G5 : Only (foot a2 c2) (w3'.alloc (.cells #[.int .i64 (vv % P)] 3)) w5 := Only.of_grown g5
            have B5 := (B_x.below L5).only G5 (by intro hm; have := (own.feet _ hm).1; omega)
            have V5 := (V_w3'.trans (L5.mono V_w3'.size)).trans (u5.mono (by omega))
            clear L5 G5 g5 u5
            go_wp2
            go_roundw
            case rel => exact ⟨k + 1, by omega, by go_num, V5, B5, a5, c5, rfl, by rw [HS.out, HV.out]; exact o5⟩
            case measure => simp [intOf]; omega

    · obtain rfl : k = gn := by omega
      go_wp2
      go_ret
      exact ⟨_, _, rfl, own.lower (by omega), hV2⟩
set_option maxHeartbeats 8000000 in
set_option maxRecDepth 100000 in
theorem ArithValues_ok (P i0 i1 : Int) (ga : Option Addr) (gn gc : Nat) (G : List Int) (oa : Option Addr) (on oc : Nat) (O : List Int) (key : Int) (aa : Option Addr) (an ac : Nat) (A : List Int) (ba : Option Addr) (bn bc : Nat) (B : List Int) (w : World) (hG : Flat 3 w ga gn gc G) (hO : Ints w oa on oc O) (hA : Ints w aa an ac A) (hB : Ints w ba bn bc B) (h1 : asB P i0 i1 gn G O key A B = true) :
    Calls Try.prog 24 #[.agg #[.int .i64 P, .int .i64 i0, .int .i64 i1, .slice ga gn gc, .slice oa on oc], .slice aa an ac, .slice ba bn bc] w fun e w' => ∃ a' c', e = .returned (.tuple #[.slice a' (an + bn + gn) c', .bool true]) ∧ Own w' w.heap.size a' (an + bn + gn) c' (avR P G (A ++ B) gn) ∧ Below w.heap.size w w' := by

  obtain ⟨har, _, ha, hb, e0, e1, hpr⟩ := asB_true h1
  obtain ⟨⟨r0, r0'⟩, ⟨r1, r1'⟩, hgn, hon, _, hgat, _⟩ := arB_all har
  obtain ⟨p1, p2⟩ := isPr_range hpr
  have hEA : elsB P A = true := by simp only [asB, Bool.and_eq_true] at h1; exact h1.1.1.1.2
  have hEB : elsB P B = true := by simp only [asB, Bool.and_eq_true] at h1; exact h1.1.1.2
  have hla := hA.len
  have hlb := hB.len
  have HV := Lib.hid (show ∀ x ∈ A ++ B, 0 ≤ x ∧ x ≤ P - 1 from fun x hx => by
    rcases List.mem_append.1 hx with h | h
    · exact ha x h
    · exact hb x h)
  have HGA : Hid (∀ k, k < gn → gateAt P ((an + bn : Nat) : Int) G k = true) := Lib.hid (fun k hk => by
    have := hgat k hk
    rwa [show i0 + i1 = ((an + bn : Nat) : Int) by omega] at this)
  have d0 : (((an : Int) != i0) : Bool) = false := by simp; omega
  have d1 : (((bn : Int) != i1) : Bool) = false := by simp; omega
  have hs1 : an ≤ 8 ∧ bn ≤ 8 := by omega
  clear ha hb hgat h1 e0 e1 hla hlb r0 r0' r1 r1'
  go_enter Try.func24, Try.ntmps24
  go_wp2_with fail
  refine Exists.elim (Blk.new_ w (b := w.heap.size) rfl 41 #[.int .i64 P, .int .i64 i0, .int .i64 i1, .slice ga gn gc, .slice oa on oc]) (fun w1' q => ?_)
  rw [q.1]; have B_x := q.2.1; have s_w1' := q.2.2.1; have u_w1' := q.2.2.2; clear q
  have S_w1' : w.heap.size + 1 ≤ w1'.heap.size := Nat.le_of_eq s_w1'.symm
  have V_w1' := (Below.refl w.heap.size w).trans (u_w1'.mono ((Below.refl w.heap.size w)).size)
  clear u_w1' s_w1'
  refine (IsArith_any _ _ _ _ _ _ G _ _ _ O _ (hG.below V_w1') (hO.below V_w1')).mono ?_
  rintro e w2' ⟨rfl, u_w2'⟩
  replace B_x := B_x.below u_w2'
  have S_w2' := u_w2'.size
  have V_w2' : Below w.heap.size w w2' := V_w1'.trans (u_w2'.mono V_w1'.size)
  clear V_w1'
  clear u_w2'
  rw [har]
  have e_x_0 : w2'.cell? ⟨w.heap.size, 0, none⟩ = some (.int .i64 P) := B_x.cell 0
  have e_x_1 : w2'.cell? ⟨w.heap.size, 1, none⟩ = some (.int .i64 i0) := B_x.cell 1
  have e_x_2 : w2'.cell? ⟨w.heap.size, 2, none⟩ = some (.int .i64 i1) := B_x.cell 2
  have e_x_3 : w2'.cell? ⟨w.heap.size, 3, none⟩ = some (.slice ga gn gc) := B_x.cell 3
  have e_x_4 : w2'.cell? ⟨w.heap.size, 4, none⟩ = some (.slice oa on oc) := B_x.cell 4
  go_wp2_with fail
  clear e_x_0 e_x_1 e_x_2 e_x_3 e_x_4
  refine (areElements_any P _ _ _ A _ (hA.below V_w2')).mono ?_
  rintro e w3' ⟨rfl, u_w3'⟩
  replace B_x := B_x.below u_w3'
  have S_w3' := u_w3'.size
  have V_w3' : Below w.heap.size w w3' := V_w2'.trans (u_w3'.mono V_w2'.size)
  clear V_w2'
  clear u_w3'
  rw [hEA]
  have e_x_0 : w3'.cell? ⟨w.heap.size, 0, none⟩ = some (.int .i64 P) := B_x.cell 0
  have e_x_1 : w3'.cell? ⟨w.heap.size, 1, none⟩ = some (.int .i64 i0) := B_x.cell 1
  have e_x_2 : w3'.cell? ⟨w.heap.size, 2, none⟩ = some (.int .i64 i1) := B_x.cell 2
  have e_x_3 : w3'.cell? ⟨w.heap.size, 3, none⟩ = some (.slice ga gn gc) := B_x.cell 3
  have e_x_4 : w3'.cell? ⟨w.heap.size, 4, none⟩ = some (.slice oa on oc) := B_x.cell 4
  go_wp2_with fail
  clear e_x_0 e_x_1 e_x_2 e_x_3 e_x_4
  refine (areElements_any P _ _ _ B _ (hB.below V_w3')).mono ?_
  rintro e w4' ⟨rfl, u_w4'⟩
  replace B_x := B_x.below u_w4'
  have S_w4' := u_w4'.size
  have V_w4' : Below w.heap.size w w4' := V_w3'.trans (u_w4'.mono V_w3'.size)
  clear V_w3'
  clear u_w4'
  rw [hEB]
  clear har hEA hEB
  have hAd := (hA.below V_w4').drew
  have hBd := (hB.below V_w4').drew
  have hGd := (hG.below V_w4').drew
  have e_x_0 : w4'.cell? ⟨w.heap.size, 0, none⟩ = some (.int .i64 P) := B_x.cell 0
  have e_x_1 : w4'.cell? ⟨w.heap.size, 1, none⟩ = some (.int .i64 i0) := B_x.cell 1
  have e_x_2 : w4'.cell? ⟨w.heap.size, 2, none⟩ = some (.int .i64 i1) := B_x.cell 2
  have e_x_3 : w4'.cell? ⟨w.heap.size, 3, none⟩ = some (.slice ga gn gc) := B_x.cell 3
  have e_x_4 : w4'.cell? ⟨w.heap.size, 4, none⟩ = some (.slice oa on oc) := B_x.cell 4
  go_wp2
  go_region_held3 (fun W => W.cell? ⟨w.heap.size, 0, none⟩ = some (.int .i64 P) ∧ W.cell? ⟨w.heap.size, 1, none⟩ = some (.int .i64 i0) ∧ W.cell? ⟨w.heap.size, 2, none⟩ = some (.int .i64 i1) ∧ W.cell? ⟨w.heap.size, 3, none⟩ = some (.slice ga gn gc) ∧ W.cell? ⟨w.heap.size, 4, none⟩ = some (.slice oa on oc))
    (first | go_keep | exact ⟨e_x_0, e_x_1, e_x_2, e_x_3, e_x_4⟩ | exact ⟨keepA _ e_x_0, keepA _ e_x_1, keepA _ e_x_2, keepA _ e_x_3, keepA _ e_x_4⟩ | exact ⟨keepA _ (keepA _ e_x_0), keepA _ (keepA _ e_x_1), keepA _ (keepA _ e_x_2), keepA _ (keepA _ e_x_3), keepA _ (keepA _ e_x_4)⟩ | exact ⟨keepA _ (keepA _ (keepA _ e_x_0)), keepA _ (keepA _ (keepA _ e_x_1)), keepA _ (keepA _ (keepA _ e_x_2)), keepA _ (keepA _ (keepA _ e_x_3)), keepA _ (keepA _ (keepA _ e_x_4))⟩ | exact ⟨keepC u8 (e_x_0), keepC u8 (e_x_1), keepC u8 (e_x_2), keepC u8 (e_x_3), keepC u8 (e_x_4)⟩ | exact ⟨keepA _ (keepC u8 (e_x_0)), keepA _ (keepC u8 (e_x_1)), keepA _ (keepC u8 (e_x_2)), keepA _ (keepC u8 (e_x_3)), keepA _ (keepC u8 (e_x_4))⟩ | exact ⟨keepC u8 (keepA _ e_x_0), keepC u8 (keepA _ e_x_1), keepC u8 (keepA _ e_x_2), keepC u8 (keepA _ e_x_3), keepC u8 (keepA _ e_x_4)⟩ | exact ⟨keepA _ (keepC u8 (keepA _ e_x_0)), keepA _ (keepC u8 (keepA _ e_x_1)), keepA _ (keepC u8 (keepA _ e_x_2)), keepA _ (keepC u8 (keepA _ e_x_3)), keepA _ (keepC u8 (keepA _ e_x_4))⟩ | exact ⟨keepC u8 (keepA _ (keepA _ e_x_0)), keepC u8 (keepA _ (keepA _ e_x_1)), keepC u8 (keepA _ (keepA _ e_x_2)), keepC u8 (keepA _ (keepA _ e_x_3)), keepC u8 (keepA _ (keepA _ e_x_4))⟩ | exact ⟨keepA _ (keepC u8 (keepA _ (keepA _ e_x_0))), keepA _ (keepC u8 (keepA _ (keepA _ e_x_1))), keepA _ (keepC u8 (keepA _ (keepA _ e_x_2))), keepA _ (keepC u8 (keepA _ (keepA _ e_x_3))), keepA _ (keepC u8 (keepA _ (keepA _ e_x_4)))⟩ | exact ⟨keepC u8 (keepA _ (keepA _ (keepA _ e_x_0))), keepC u8 (keepA _ (keepA _ (keepA _ e_x_1))), keepC u8 (keepA _ (keepA _ (keepA _ e_x_2))), keepC u8 (keepA _ (keepA _ (keepA _ e_x_3))), keepC u8 (keepA _ (keepA _ (keepA _ e_x_4)))⟩ | exact ⟨keepA _ (keepC u8 (keepA _ (keepA _ (keepA _ e_x_0)))), keepA _ (keepC u8 (keepA _ (keepA _ (keepA _ e_x_1)))), keepA _ (keepC u8 (keepA _ (keepA _ (keepA _ e_x_2)))), keepA _ (keepC u8 (keepA _ (keepA _ (keepA _ e_x_3)))), keepA _ (keepC u8 (keepA _ (keepA _ (keepA _ e_x_4))))⟩ | exact ⟨keepC u9 (e_x_0), keepC u9 (e_x_1), keepC u9 (e_x_2), keepC u9 (e_x_3), keepC u9 (e_x_4)⟩ | exact ⟨keepA _ (keepC u9 (e_x_0)), keepA _ (keepC u9 (e_x_1)), keepA _ (keepC u9 (e_x_2)), keepA _ (keepC u9 (e_x_3)), keepA _ (keepC u9 (e_x_4))⟩ | exact ⟨keepC u9 (keepA _ e_x_0), keepC u9 (keepA _ e_x_1), keepC u9 (keepA _ e_x_2), keepC u9 (keepA _ e_x_3), keepC u9 (keepA _ e_x_4)⟩ | exact ⟨keepA _ (keepC u9 (keepA _ e_x_0)), keepA _ (keepC u9 (keepA _ e_x_1)), keepA _ (keepC u9 (keepA _ e_x_2)), keepA _ (keepC u9 (keepA _ e_x_3)), keepA _ (keepC u9 (keepA _ e_x_4))⟩ | exact ⟨keepC u9 (keepA _ (keepA _ e_x_0)), keepC u9 (keepA _ (keepA _ e_x_1)), keepC u9 (keepA _ (keepA _ e_x_2)), keepC u9 (keepA _ (keepA _ e_x_3)), keepC u9 (keepA _ (keepA _ e_x_4))⟩ | exact ⟨keepA _ (keepC u9 (keepA _ (keepA _ e_x_0))), keepA _ (keepC u9 (keepA _ (keepA _ e_x_1))), keepA _ (keepC u9 (keepA _ (keepA _ e_x_2))), keepA _ (keepC u9 (keepA _ (keepA _ e_x_3))), keepA _ (keepC u9 (keepA _ (keepA _ e_x_4)))⟩ | exact ⟨keepC u9 (keepA _ (keepA _ (keepA _ e_x_0))), keepC u9 (keepA _ (keepA _ (keepA _ e_x_1))), keepC u9 (keepA _ (keepA _ (keepA _ e_x_2))), keepC u9 (keepA _ (keepA _ (keepA _ e_x_3))), keepC u9 (keepA _ (keepA _ (keepA _ e_x_4)))⟩ | exact ⟨keepA _ (keepC u9 (keepA _ (keepA _ (keepA _ e_x_0)))), keepA _ (keepC u9 (keepA _ (keepA _ (keepA _ e_x_1)))), keepA _ (keepC u9 (keepA _ (keepA _ (keepA _ e_x_2)))), keepA _ (keepC u9 (keepA _ (keepA _ (keepA _ e_x_3)))), keepA _ (keepC u9 (keepA _ (keepA _ (keepA _ e_x_4))))⟩ | exact ⟨keepC u8 (keepC u9 (e_x_0)), keepC u8 (keepC u9 (e_x_1)), keepC u8 (keepC u9 (e_x_2)), keepC u8 (keepC u9 (e_x_3)), keepC u8 (keepC u9 (e_x_4))⟩ | exact ⟨keepA _ (keepC u8 (keepC u9 (e_x_0))), keepA _ (keepC u8 (keepC u9 (e_x_1))), keepA _ (keepC u8 (keepC u9 (e_x_2))), keepA _ (keepC u8 (keepC u9 (e_x_3))), keepA _ (keepC u8 (keepC u9 (e_x_4)))⟩ | exact ⟨keepC u8 (keepA _ (keepC u9 (e_x_0))), keepC u8 (keepA _ (keepC u9 (e_x_1))), keepC u8 (keepA _ (keepC u9 (e_x_2))), keepC u8 (keepA _ (keepC u9 (e_x_3))), keepC u8 (keepA _ (keepC u9 (e_x_4)))⟩ | exact ⟨keepA _ (keepC u8 (keepA _ (keepC u9 (e_x_0)))), keepA _ (keepC u8 (keepA _ (keepC u9 (e_x_1)))), keepA _ (keepC u8 (keepA _ (keepC u9 (e_x_2)))), keepA _ (keepC u8 (keepA _ (keepC u9 (e_x_3)))), keepA _ (keepC u8 (keepA _ (keepC u9 (e_x_4))))⟩ | exact ⟨keepC u8 (keepC u9 (keepA _ e_x_0)), keepC u8 (keepC u9 (keepA _ e_x_1)), keepC u8 (keepC u9 (keepA _ e_x_2)), keepC u8 (keepC u9 (keepA _ e_x_3)), keepC u8 (keepC u9 (keepA _ e_x_4))⟩ | exact ⟨keepA _ (keepC u8 (keepC u9 (keepA _ e_x_0))), keepA _ (keepC u8 (keepC u9 (keepA _ e_x_1))), keepA _ (keepC u8 (keepC u9 (keepA _ e_x_2))), keepA _ (keepC u8 (keepC u9 (keepA _ e_x_3))), keepA _ (keepC u8 (keepC u9 (keepA _ e_x_4)))⟩ | exact ⟨keepC u8 (keepA _ (keepC u9 (keepA _ e_x_0))), keepC u8 (keepA _ (keepC u9 (keepA _ e_x_1))), keepC u8 (keepA _ (keepC u9 (keepA _ e_x_2))), keepC u8 (keepA _ (keepC u9 (keepA _ e_x_3))), keepC u8 (keepA _ (keepC u9 (keepA _ e_x_4)))⟩ | exact ⟨keepA _ (keepC u8 (keepA _ (keepC u9 (keepA _ e_x_0)))), keepA _ (keepC u8 (keepA _ (keepC u9 (keepA _ e_x_1)))), keepA _ (keepC u8 (keepA _ (keepC u9 (keepA _ e_x_2)))), keepA _ (keepC u8 (keepA _ (keepC u9 (keepA _ e_x_3)))), keepA _ (keepC u8 (keepA _ (keepC u9 (keepA _ e_x_4))))⟩ | exact ⟨keepC u8 (keepC u9 (keepA _ (keepA _ e_x_0))), keepC u8 (keepC u9 (keepA _ (keepA _ e_x_1))), keepC u8 (keepC u9 (keepA _ (keepA _ e_x_2))), keepC u8 (keepC u9 (keepA _ (keepA _ e_x_3))), keepC u8 (keepC u9 (keepA _ (keepA _ e_x_4)))⟩ | exact ⟨keepA _ (keepC u8 (keepC u9 (keepA _ (keepA _ e_x_0)))), keepA _ (keepC u8 (keepC u9 (keepA _ (keepA _ e_x_1)))), keepA _ (keepC u8 (keepC u9 (keepA _ (keepA _ e_x_2)))), keepA _ (keepC u8 (keepC u9 (keepA _ (keepA _ e_x_3)))), keepA _ (keepC u8 (keepC u9 (keepA _ (keepA _ e_x_4))))⟩ | exact ⟨keepC u8 (keepA _ (keepC u9 (keepA _ (keepA _ e_x_0)))), keepC u8 (keepA _ (keepC u9 (keepA _ (keepA _ e_x_1)))), keepC u8 (keepA _ (keepC u9 (keepA _ (keepA _ e_x_2)))), keepC u8 (keepA _ (keepC u9 (keepA _ (keepA _ e_x_3)))), keepC u8 (keepA _ (keepC u9 (keepA _ (keepA _ e_x_4))))⟩ | exact ⟨keepA _ (keepC u8 (keepA _ (keepC u9 (keepA _ (keepA _ e_x_0))))), keepA _ (keepC u8 (keepA _ (keepC u9 (keepA _ (keepA _ e_x_1))))), keepA _ (keepC u8 (keepA _ (keepC u9 (keepA _ (keepA _ e_x_2))))), keepA _ (keepC u8 (keepA _ (keepC u9 (keepA _ (keepA _ e_x_3))))), keepA _ (keepC u8 (keepA _ (keepC u9 (keepA _ (keepA _ e_x_4)))))⟩ | exact ⟨keepC u8 (keepC u9 (keepA _ (keepA _ (keepA _ e_x_0)))), keepC u8 (keepC u9 (keepA _ (keepA _ (keepA _ e_x_1)))), keepC u8 (keepC u9 (keepA _ (keepA _ (keepA _ e_x_2)))), keepC u8 (keepC u9 (keepA _ (keepA _ (keepA _ e_x_3)))), keepC u8 (keepC u9 (keepA _ (keepA _ (keepA _ e_x_4))))⟩ | exact ⟨keepA _ (keepC u8 (keepC u9 (keepA _ (keepA _ (keepA _ e_x_0))))), keepA _ (keepC u8 (keepC u9 (keepA _ (keepA _ (keepA _ e_x_1))))), keepA _ (keepC u8 (keepC u9 (keepA _ (keepA _ (keepA _ e_x_2))))), keepA _ (keepC u8 (keepC u9 (keepA _ (keepA _ (keepA _ e_x_3))))), keepA _ (keepC u8 (keepC u9 (keepA _ (keepA _ (keepA _ e_x_4)))))⟩ | exact ⟨keepC u8 (keepA _ (keepC u9 (keepA _ (keepA _ (keepA _ e_x_0))))), keepC u8 (keepA _ (keepC u9 (keepA _ (keepA _ (keepA _ e_x_1))))), keepC u8 (keepA _ (keepC u9 (keepA _ (keepA _ (keepA _ e_x_2))))), keepC u8 (keepA _ (keepC u9 (keepA _ (keepA _ (keepA _ e_x_3))))), keepC u8 (keepA _ (keepC u9 (keepA _ (keepA _ (keepA _ e_x_4)))))⟩ | exact ⟨keepA _ (keepC u8 (keepA _ (keepC u9 (keepA _ (keepA _ (keepA _ e_x_0)))))), keepA _ (keepC u8 (keepA _ (keepC u9 (keepA _ (keepA _ (keepA _ e_x_1)))))), keepA _ (keepC u8 (keepA _ (keepC u9 (keepA _ (keepA _ (keepA _ e_x_2)))))), keepA _ (keepC u8 (keepA _ (keepC u9 (keepA _ (keepA _ (keepA _ e_x_3)))))), keepA _ (keepC u8 (keepA _ (keepC u9 (keepA _ (keepA _ (keepA _ e_x_4))))))⟩ | exact ⟨keepC u9 (keepC u8 (e_x_0)), keepC u9 (keepC u8 (e_x_1)), keepC u9 (keepC u8 (e_x_2)), keepC u9 (keepC u8 (e_x_3)), keepC u9 (keepC u8 (e_x_4))⟩ | exact ⟨keepA _ (keepC u9 (keepC u8 (e_x_0))), keepA _ (keepC u9 (keepC u8 (e_x_1))), keepA _ (keepC u9 (keepC u8 (e_x_2))), keepA _ (keepC u9 (keepC u8 (e_x_3))), keepA _ (keepC u9 (keepC u8 (e_x_4)))⟩ | exact ⟨keepC u9 (keepA _ (keepC u8 (e_x_0))), keepC u9 (keepA _ (keepC u8 (e_x_1))), keepC u9 (keepA _ (keepC u8 (e_x_2))), keepC u9 (keepA _ (keepC u8 (e_x_3))), keepC u9 (keepA _ (keepC u8 (e_x_4)))⟩ | exact ⟨keepA _ (keepC u9 (keepA _ (keepC u8 (e_x_0)))), keepA _ (keepC u9 (keepA _ (keepC u8 (e_x_1)))), keepA _ (keepC u9 (keepA _ (keepC u8 (e_x_2)))), keepA _ (keepC u9 (keepA _ (keepC u8 (e_x_3)))), keepA _ (keepC u9 (keepA _ (keepC u8 (e_x_4))))⟩ | exact ⟨keepC u9 (keepC u8 (keepA _ e_x_0)), keepC u9 (keepC u8 (keepA _ e_x_1)), keepC u9 (keepC u8 (keepA _ e_x_2)), keepC u9 (keepC u8 (keepA _ e_x_3)), keepC u9 (keepC u8 (keepA _ e_x_4))⟩ | exact ⟨keepA _ (keepC u9 (keepC u8 (keepA _ e_x_0))), keepA _ (keepC u9 (keepC u8 (keepA _ e_x_1))), keepA _ (keepC u9 (keepC u8 (keepA _ e_x_2))), keepA _ (keepC u9 (keepC u8 (keepA _ e_x_3))), keepA _ (keepC u9 (keepC u8 (keepA _ e_x_4)))⟩ | exact ⟨keepC u9 (keepA _ (keepC u8 (keepA _ e_x_0))), keepC u9 (keepA _ (keepC u8 (keepA _ e_x_1))), keepC u9 (keepA _ (keepC u8 (keepA _ e_x_2))), keepC u9 (keepA _ (keepC u8 (keepA _ e_x_3))), keepC u9 (keepA _ (keepC u8 (keepA _ e_x_4)))⟩ | exact ⟨keepA _ (keepC u9 (keepA _ (keepC u8 (keepA _ e_x_0)))), keepA _ (keepC u9 (keepA _ (keepC u8 (keepA _ e_x_1)))), keepA _ (keepC u9 (keepA _ (keepC u8 (keepA _ e_x_2)))), keepA _ (keepC u9 (keepA _ (keepC u8 (keepA _ e_x_3)))), keepA _ (keepC u9 (keepA _ (keepC u8 (keepA _ e_x_4))))⟩ | exact ⟨keepC u9 (keepC u8 (keepA _ (keepA _ e_x_0))), keepC u9 (keepC u8 (keepA _ (keepA _ e_x_1))), keepC u9 (keepC u8 (keepA _ (keepA _ e_x_2))), keepC u9 (keepC u8 (keepA _ (keepA _ e_x_3))), keepC u9 (keepC u8 (keepA _ (keepA _ e_x_4)))⟩ | exact ⟨keepA _ (keepC u9 (keepC u8 (keepA _ (keepA _ e_x_0)))), keepA _ (keepC u9 (keepC u8 (keepA _ (keepA _ e_x_1)))), keepA _ (keepC u9 (keepC u8 (keepA _ (keepA _ e_x_2)))), keepA _ (keepC u9 (keepC u8 (keepA _ (keepA _ e_x_3)))), keepA _ (keepC u9 (keepC u8 (keepA _ (keepA _ e_x_4))))⟩ | exact ⟨keepC u9 (keepA _ (keepC u8 (keepA _ (keepA _ e_x_0)))), keepC u9 (keepA _ (keepC u8 (keepA _ (keepA _ e_x_1)))), keepC u9 (keepA _ (keepC u8 (keepA _ (keepA _ e_x_2)))), keepC u9 (keepA _ (keepC u8 (keepA _ (keepA _ e_x_3)))), keepC u9 (keepA _ (keepC u8 (keepA _ (keepA _ e_x_4))))⟩ | exact ⟨keepA _ (keepC u9 (keepA _ (keepC u8 (keepA _ (keepA _ e_x_0))))), keepA _ (keepC u9 (keepA _ (keepC u8 (keepA _ (keepA _ e_x_1))))), keepA _ (keepC u9 (keepA _ (keepC u8 (keepA _ (keepA _ e_x_2))))), keepA _ (keepC u9 (keepA _ (keepC u8 (keepA _ (keepA _ e_x_3))))), keepA _ (keepC u9 (keepA _ (keepC u8 (keepA _ (keepA _ e_x_4)))))⟩ | exact ⟨keepC u9 (keepC u8 (keepA _ (keepA _ (keepA _ e_x_0)))), keepC u9 (keepC u8 (keepA _ (keepA _ (keepA _ e_x_1)))), keepC u9 (keepC u8 (keepA _ (keepA _ (keepA _ e_x_2)))), keepC u9 (keepC u8 (keepA _ (keepA _ (keepA _ e_x_3)))), keepC u9 (keepC u8 (keepA _ (keepA _ (keepA _ e_x_4))))⟩ | exact ⟨keepA _ (keepC u9 (keepC u8 (keepA _ (keepA _ (keepA _ e_x_0))))), keepA _ (keepC u9 (keepC u8 (keepA _ (keepA _ (keepA _ e_x_1))))), keepA _ (keepC u9 (keepC u8 (keepA _ (keepA _ (keepA _ e_x_2))))), keepA _ (keepC u9 (keepC u8 (keepA _ (keepA _ (keepA _ e_x_3))))), keepA _ (keepC u9 (keepC u8 (keepA _ (keepA _ (keepA _ e_x_4)))))⟩ | exact ⟨keepC u9 (keepA _ (keepC u8 (keepA _ (keepA _ (keepA _ e_x_0))))), keepC u9 (keepA _ (keepC u8 (keepA _ (keepA _ (keepA _ e_x_1))))), keepC u9 (keepA _ (keepC u8 (keepA _ (keepA _ (keepA _ e_x_2))))), keepC u9 (keepA _ (keepC u8 (keepA _ (keepA _ (keepA _ e_x_3))))), keepC u9 (keepA _ (keepC u8 (keepA _ (keepA _ (keepA _ e_x_4)))))⟩ | exact ⟨keepA _ (keepC u9 (keepA _ (keepC u8 (keepA _ (keepA _ (keepA _ e_x_0)))))), keepA _ (keepC u9 (keepA _ (keepC u8 (keepA _ (keepA _ (keepA _ e_x_1)))))), keepA _ (keepC u9 (keepA _ (keepC u8 (keepA _ (keepA _ (keepA _ e_x_2)))))), keepA _ (keepC u9 (keepA _ (keepC u8 (keepA _ (keepA _ (keepA _ e_x_3)))))), keepA _ (keepC u9 (keepA _ (keepC u8 (keepA _ (keepA _ (keepA _ e_x_4))))))⟩)
    (first | (go_at_call 77; refine (with_any _ _ _ A _ _ _ B _ hAd hBd (by omega) (by omega)).mono ?_; rintro e w8 ⟨a8, c8, rfl, o8, u8⟩) | (go_at_call 76; refine (avals_any P i0 i1 _ _ _ G _ _ _ _ _ _ (A ++ B) _ (hGd.below u8) o8.ints (by omega) (by omega) (by omega) (by omega) HV.out HGA.out).mono ?_; rintro e w9 ⟨a9, c9, rfl, o9, u9⟩))
  have u10 : Below w4'.heap.size w4' w9 := (Below.refl _ _).drew.trans (u8.trans (u9.mono u8.size))
  have s8 : w4'.heap.size ≤ w8.heap.size := Nat.le_trans (by simp) u8.size
  have sV := (V_w4').size
  clear e_x_0 e_x_1 e_x_2 e_x_3 e_x_4
  replace B_x := B_x.below u10
  have S_w9 := u10.size
  have V_w9 : Below w.heap.size w w9 := V_w4'.trans (u10.mono V_w4'.size)
  clear V_w4'
  clear u10
  go_wp2
  go_ret2
  exact ⟨_, _, rfl, o9.lower (by omega), V_w9⟩
end Go.Proofs.Ythpcmbdkboajcaa
