/- Lemmas and walks that the claim's proof rests on, part 5. -/
import Derived.Test.YtlmdckcohoddnaaDoorK2
import Derived.Test.YtlmdckcohoddnaaDoorK4
namespace Go.Proofs.YtlmdckcohoddnaaDoor
open Go.RowKit
theorem Tbl.drewN {w : World} (h : Tbl w) (m : Nat) : Tbl (w.drewN m) := h
def hAt (h : List (List Int)) (i : Nat) : List Int := h.getD i []
def bodyB (p : Int) (i : Nat) (b : List Int) : Bool := decide (b.length = blen i) && allB b 0 (p - 1)
def heardAt (p : Int) (h : List (List Int)) (i : Nat) : Bool := bodyB p i (hAt h i)
def heardB (p : Int) (h : List (List Int)) (n : Nat) : Bool := (List.range n).all (heardAt p h)
def endB (st ss ou : Int) : Bool := if st = 3 then decide (ss = 1) else (decide (ss = 0) || decide (ss = 2)) && decide (ou = 0)
def plB (a : Pl) : Bool :=
  elsB a.P [a.input, a.mask, a.delta, a.out] && (bitB a.party && (!decide (a.delta = 0) && (decide (a.shares.length = 10) && (decide (a.keys.length = 5) && (allB a.keys 0 (a.P - 1) && (tagsB a.P a.shares 5 && (inB a.step 0 3 && (decide ((a.heard.length : Int) = a.step) && (heardB a.P a.heard a.heard.length && endB a.step a.status a.out)))))))))
theorem elsB_pr {p : Int} {l : List Int} (h : elsB p l = true) : isPr p = true ∧ ∀ x ∈ l, 0 ≤ x ∧ x ≤ p - 1 := by
  unfold elsB at h
  rw [Bool.and_eq_true] at h
  exact ⟨h.1, (allB_iff _ _ _).1 h.2⟩
theorem elsB_of {p : Int} (l : List Int) (h : isPr p = true) : elsB p l = allB l 0 (p - 1) := by unfold elsB; rw [h, Bool.true_and]
theorem hAt_rs {rs : List RowD} {h : List (List Int)} (e : datas' rs = h) (i : Nat) (hi : i < rs.length) : hAt h i = (rowAt rs i).2.2 := by
  rw [← e]; unfold hAt datas' rowAt; simp [List.getD, hi]
set_option maxHeartbeats 4000000 in
set_option maxRecDepth 100000 in
theorem IsPlayer_1_any (p v t : Int) (q : Addr) (w : World) (hp : w.cell? q = some (.int .i64 p)) :
    Calls Tryd.prog 62 #[.agg #[.int .i64 v, .int .i64 t], .pointer (some q)] w fun e w' => e = .returned (.bool (!tagB p v t)) ∧ Below w.heap.size w w' := by
  have hp' : (w.alloc (.cells #[.int .i64 v, .int .i64 t] 81)).cell? q = some (.int .i64 p) := keepA _ hp
  have V0 : Below w.heap.size w (w.alloc (.cells #[.int .i64 v, .int .i64 t] 81)) := (Below.refl _ _).alloc (Nat.le_refl _) _
  go_enter Tryd.func62, Tryd.ntmps62
  go_wp2_with fail
  refine (isTagged_any _ _ _ _).mono ?_; rintro e w' ⟨rfl, u⟩
  have V1 := V0.trans (u.mono V0.size)
  go_wp2
  go_ret
  exact ⟨rfl, V1⟩
theorem IsPlayer_1_enters (args : Array Value) (W : World) : (callFunc 62 args).run Tryd.prog W = .ok (.enter 62 args) W :=
  enters Tryd.func62 (by kernel_rfl) (by kernel_rfl) args W
set_option maxHeartbeats 16000000 in
set_option maxRecDepth 100000 in
theorem IsPlayer_any (a : Pl) (x : PlX) (w : World) (h : PlR w x a.shares a.keys a.heard) (hT : Tbl w) :
    Calls Tryd.prog 16 #[.agg #[.int .i64 a.P, .int .i64 a.party, .int .i64 a.input, .int .i64 a.mask, .int .i64 a.delta, .slice x.sa x.sn x.sc, .slice x.ka x.kn x.kc, .int .i64 a.step, .slice x.ha x.hn x.hc, .int .i64 a.status, .int .i64 a.out]] w fun e w' => e = .returned (.bool (plB a)) ∧ Below w.heap.size w w' := by
  obtain ⟨P, pa, ip, mk, de, S, K, st, H, ss, ou⟩ := a
  obtain ⟨sa, sn, sc, ka, kn, kc, ha, hn, hc⟩ := x
  obtain ⟨hS, hK, rs, hH, hD⟩ := h
  unfold plB
  dsimp only at *
  have hSl := hS.len
  have hKl := hK.len
  have hHl := hH.len
  have hHd : rs.length = H.length := by rw [← hD, datas_len]
  have hsn := hS.le
  have hkn := hK.le
  have hhn := hH.le
  have hKL := Lib.hid hKl
  have hHL := Lib.hid hHl
  have HD := Lib.hid hD
  have e10 : Hid (decide (S.length = 10) = decide (sn = 5)) := Lib.hid (by rw [hSl, decide_eq_decide]; omega)
  have eK : Hid (decide (K.length = 5) = decide (kn = 5)) := Lib.hid (by rw [hKl])
  have eH : Hid ((decide ((H.length : Int) = st)) = decide ((hn : Int) = st)) := Lib.hid (by rw [← hHd, hHl])
  have eHB : Hid (H.length = hn) := Lib.hid (by rw [← hHd, hHl])
  rw [e10.out, eK.out, eH.out, eHB.out]
  have C0 := fun (W : World) (b : Option Addr) (hh : Ints W b 4 4 [ip, mk, de, ou]) => areElements_any P b 4 4 [ip, mk, de, ou] W hh
  have F0 : elsB P [ip, mk, de, ou] = true → isPr P = true := fun h => (elsB_pr h).1
  have C1 := fun (W : World) => isBit_any pa W
  have C5 := fun (W : World) (hh : Ints W ka kn kc K) (hp : isPr P = true) => (show Calls Tryd.prog 59 #[.int .i64 P, .slice ka kn kc] W fun e w' => e = .returned (.bool (allB K 0 (P - 1))) ∧ Below W.heap.size W w' by have := areElements_any P ka kn kc K W hh; rw [elsB_of _ hp] at this; exact this)
  have C6 := fun (W : World) (q : Addr) (hh : Flat 2 W sa sn sc S) (hq : W.cell? q = some (.int .i64 P)) (h5 : sn = 5) => (show Calls Tryd.prog 61 #[.slice sa sn sc, .func (.func 62) #[] #[.pointer (some q)]] W fun e w' => e = .returned (.bool (!tagsB P S 5)) ∧ Below W.heap.size W w' by
    subst h5; exact ContainsFuncT sa 5 sc S _ _ (tagAt P S) W hh IsPlayer_1_enters (fun W2 i hb _ => IsPlayer_1_any P _ _ q W2 (keepC hb hq)))
  have C7 := fun (W : World) => within_any st 0 3 W
  have F7 : inB st 0 3 = true → 0 ≤ st ∧ st ≤ 3 := fun h => inB_true h
  clear hSl hKl hHl hHd hD
  generalize elsB P [ip, mk, de, ou] = b0 at *
  generalize bitB pa = b1 at *
  generalize allB K 0 (P - 1) = b5 at *
  generalize tagsB P S 5 = b6 at *
  generalize inB st 0 3 = b7 at *
  generalize hb2 : (!decide (de = 0)) = b2
  generalize hb3 : decide (sn = 5) = b3
  generalize hb4 : decide (kn = 5) = b4
  generalize hb8 : decide ((hn : Int) = st) = b8
  have HB2 := Lib.hid hb2
  have HB3 := Lib.hid hb3
  have HB4 := Lib.hid hb4
  have HB8 := Lib.hid hb8
  clear hb2 hb3 hb4 hb8 e10 eK eH eHB
  replace C0 := Lib.hid C0
  replace F0 := Lib.hid F0
  replace C1 := Lib.hid C1
  replace C5 := Lib.hid C5
  replace C6 := Lib.hid C6
  replace C7 := Lib.hid C7
  replace F7 := Lib.hid F7
  have LX := Lib.hid hT
  clear hT
  have hI : Ints ((((w.alloc (.cells #[.int .i64 P, .int .i64 pa, .int .i64 ip, .int .i64 mk, .int .i64 de, .slice sa sn sc, .slice ka kn kc, .int .i64 st, .slice ha hn hc, .int .i64 ss, .int .i64 ou] 31)).alloc (.cells #[.int .i64 P] 3))).alloc (.cells #[.int .i64 ip, .int .i64 mk, .int .i64 de, .int .i64 ou] 3)) (some ⟨w.heap.size + 2, 0, none⟩) 4 4 [ip, mk, de, ou] := by simpa using Ints.lit ((w.alloc (.cells #[.int .i64 P, .int .i64 pa, .int .i64 ip, .int .i64 mk, .int .i64 de, .slice sa sn sc, .slice ka kn kc, .int .i64 st, .slice ha hn hc, .int .i64 ss, .int .i64 ou] 31)).alloc (.cells #[.int .i64 P] 3)) [ip, mk, de, ou] 3 (by simp [maxLen])
  go_enter Tryd.func16, Tryd.ntmps16
  go_wp2_with fail
  refine Exists.elim (Blk.new_ w (b := w.heap.size) rfl 31 #[.int .i64 P, .int .i64 pa, .int .i64 ip, .int .i64 mk, .int .i64 de, .slice sa sn sc, .slice ka kn kc, .int .i64 st, .slice ha hn hc, .int .i64 ss, .int .i64 ou]) (fun w1_a0' q => ?_)
  (try rw [q.1] at hI); (try rw [q.1]); have B_a := q.2.1; have s_w1_a0' := q.2.2.1; have u_w1_a0' := q.2.2.2; clear q
  refine Exists.elim (Blk.new_ w1_a0' (b := w.heap.size + 1) s_w1_a0' 3 #[.int .i64 P]) (fun w1_a1' q => ?_)
  (try rw [q.1] at hI); (try rw [q.1]); have B_p := q.2.1; have s_w1_a1' := q.2.2.1; have u_w1_a1' := q.2.2.2; clear q
  refine Exists.elim (Blk.new_ w1_a1' (b := w.heap.size + 2) s_w1_a1' 3 #[.int .i64 ip, .int .i64 mk, .int .i64 de, .int .i64 ou]) (fun w1' q => ?_)
  (try rw [q.1] at hI); (try rw [q.1]); have B_l := q.2.1; have s_w1' := q.2.2.1; have u_w1' := q.2.2.2; clear q
  replace B_a := ((B_a.below u_w1_a1').below u_w1')
  replace B_p := (B_p.below u_w1')
  have U := (u_w1_a0'.trans ((u_w1_a1'.trans (u_w1'.mono u_w1_a1'.size)).mono u_w1_a0'.size))
  replace hS := hS.below U
  replace hK := hK.below U
  replace hH := hH.below U
  have S_w1' : w.heap.size + 3 ≤ w1'.heap.size := Nat.le_of_eq s_w1'.symm
  have V_w1' := (Below.refl w.heap.size w).trans (U.mono ((Below.refl w.heap.size w)).size)
  clear u_w1_a0' u_w1_a1' u_w1' s_w1_a0' s_w1_a1' s_w1' U
  refine (C0.out _ _ hI).mono ?_
  rintro e w2' ⟨rfl, u_w2'⟩
  replace B_a := B_a.below u_w2'
  replace B_p := B_p.below u_w2'
  replace B_l := B_l.below u_w2'
  replace hS := hS.below u_w2'
  replace hK := hK.below u_w2'
  replace hH := hH.below u_w2'
  have S_w2' := u_w2'.size
  have V_w2' : Below w.heap.size w w2' := V_w1'.trans (u_w2'.mono V_w1'.size)
  clear V_w1'
  clear u_w2'
  clear hI C0
  cases b0
  · go_wp2
    go_ret
    exact ⟨rfl, V_w2'⟩
  have hpr := F0.out rfl
  obtain ⟨p1, p2⟩ := isPr_range hpr
  have e_a := B_a.all11
  have e_p_0 := B_p.a1_0
  go_wp2_with fail
  refine (C1.out _).mono ?_; rintro e wm ⟨rfl, qm⟩
  have um := below_of_quiet qm
  clear qm
  clear e_a e_p_0
  replace B_a := B_a.below um
  replace B_p := B_p.below um
  replace B_l := B_l.below um
  replace hS := hS.below um
  replace hK := hK.below um
  replace hH := hH.below um
  have S_wm := um.size
  have V_wm : Below w.heap.size w wm := V_w2'.trans (um.mono V_w2'.size)
  clear V_w2'
  clear um
  cases b1
  · go_wp2
    go_ret
    exact ⟨rfl, V_wm⟩
  cases b2
  · have d1 : ((de == 0) : Bool) = true := by simpa using HB2.out
    have e_a := B_a.all11
    go_wp2
    go_ret
    exact ⟨rfl, V_wm⟩
  have d1 : ((de == 0) : Bool) = false := by simpa using HB2.out
  cases b3
  · have d5 : (((sn : Int) != 5) : Bool) = true := by have := HB3.out; simp at this; simp; omega
    have e_a := B_a.all11
    go_wp2
    go_ret
    exact ⟨rfl, V_wm⟩
  have hs5 : sn = 5 := by simpa using HB3.out
  have d6 : (((sn : Int) != 5) : Bool) = false := by simp; omega
  replace hs5 := Lib.hid hs5
  cases b4
  · have d5 : (((kn : Int) != 5) : Bool) = true := by have := HB4.out; simp at this; simp; omega
    have e_a := B_a.all11
    go_wp2
    go_ret
    exact ⟨rfl, V_wm⟩
  have d7 : (((kn : Int) != 5) : Bool) = false := by have := HB4.out; simp at this; simp; omega
  have e_a := B_a.all11
  have e_p_0 := B_p.a1_0
  go_wp2_with fail
  clear e_a e_p_0
  refine (C5.out _ hK hpr).mono ?_
  rintro e w3' ⟨rfl, u_w3'⟩
  replace B_a := B_a.below u_w3'
  replace B_p := B_p.below u_w3'
  replace B_l := B_l.below u_w3'
  replace hS := hS.below u_w3'
  replace hK := hK.below u_w3'
  replace hH := hH.below u_w3'
  have S_w3' := u_w3'.size
  have V_w3' : Below w.heap.size w w3' := V_wm.trans (u_w3'.mono V_wm.size)
  clear V_wm
  clear u_w3'
  cases b5
  · go_wp2
    go_ret
    exact ⟨rfl, V_w3'⟩
  have hpc : w3'.cell? ⟨w.heap.size + 1, 0, none⟩ = some (.int .i64 P) := B_p.cell 0
  have e_a := B_a.all11
  go_wp2_with fail
  clear e_a
  refine (C6.out _ _ hS hpc hs5.out).mono ?_
  rintro e w4' ⟨rfl, u_w4'⟩
  replace B_a := B_a.below u_w4'
  replace B_p := B_p.below u_w4'
  replace B_l := B_l.below u_w4'
  replace hS := hS.below u_w4'
  replace hK := hK.below u_w4'
  replace hH := hH.below u_w4'
  have S_w4' := u_w4'.size
  have V_w4' : Below w.heap.size w w4' := V_w3'.trans (u_w4'.mono V_w3'.size)
  clear V_w3'
  clear u_w4'
  clear hpc
  cases b6
  · go_wp2
    go_ret
    exact ⟨rfl, V_w4'⟩
  have e_a := B_a.all11
  go_wp2_with fail
  refine (C7.out _).mono ?_; rintro e w' ⟨rfl, rfl⟩
  cases b7
  · go_wp2
    go_ret
    exact ⟨rfl, V_w4'⟩
  have hst := F7.out rfl
  cases b8
  · have d5 : (((hn : Int) != st) : Bool) = true := by have := HB8.out; simp at this; simp; omega
    go_wp2
    go_ret
    exact ⟨rfl, V_w4'⟩
  have d3 : (hn : Int) = st := by simpa using HB8.out
  have d4 : (((hn : Int) != st) : Bool) = false := by simp; omega
  have hn3 : hn ≤ 3 := by omega
  have D3 := Lib.hid d3
  clear d3
  go_wp2
  clear e_a
  go_loopw [71] (fun v wr => ∃ i : Nat, i ≤ hn ∧ v = .int .i64 i ∧ (∀ j, j < i → heardAt P H j = true) ∧ Below w4'.heap.size w4' wr) (fun v _ => hn - (intOf v).toNat)
  case atStart => exact ⟨0, Nat.zero_le _, rfl, fun j hj => absurd hj (by omega), Below.refl _ _⟩
  case round =>
    obtain ⟨i, hi, rfl, hj, hbel⟩ := hrel
    have HJ := Lib.hid hj
    clear hj
    have B_a := B_a.below hbel
    have B_p := B_p.below hbel
    have B_l := B_l.below hbel
    have hS := hS.below hbel
    have hK := hK.below hbel
    have hH := hH.below hbel
    have V_wr := V_w4'.trans (hbel.mono V_w4'.size)
    have S_wr := hbel.size
    have hTw := LX.out.below V_wr
    by_cases hlt : i < hn
    · obtain ⟨g, o, rfl, c0, inn⟩ := hH.at i hlt
      have hat : hAt H i = (rowAt rs i).2.2 := hAt_rs HD.out i (by rw [hHL.out]; exact hlt)
      have tb := hTw.at i (by omega)
      have bb := blen_bd i
      have Hat : Hid (heardAt P H i = (decide ((rowAt rs i).2.2.length = blen i) && allB (rowAt rs i).2.2 0 (P - 1))) := Lib.hid (by unfold heardAt bodyB; rw [hat])
      have CB := fun (W : World) (hh : Ints W (rowAt rs i).1 (rowAt rs i).2.2.length (rowAt rs i).2.1 (rowAt rs i).2.2) => areElements_any P _ _ _ _ W hh
      rw [elsB_of _ hpr] at CB
      have hnr := inn.le
      generalize rowAt rs i = r at *
      obtain ⟨ra, rc, rl⟩ := r
      dsimp only at *
      generalize allB rl 0 (P - 1) = bb5 at *
      replace CB := Lib.hid CB
      clear hat hTw
      have hlt' : (i : Int) < (hn : Int) := by omega
      have hi3 : (i : Int) < 3 := by omega
      have hRL : Hid (rl.length = rl.length) := Lib.hid rfl
      generalize rl.length = rn at *
      by_cases d6 : rn = blen i
      · have d7 : (((rn : Int) != (blen i : Int)) : Bool) = false := by simp; omega
        have d9 : decide (rn = blen i) = true := decide_eq_true d6
        rw [d9, Bool.true_and] at Hat
        clear d9 d6
        have e_p_0 := B_p.a1_0
        go_wp2_with fail
        clear e_p_0
        refine (CB.out _ inn).mono ?_; rintro e w9 ⟨rfl, u9⟩
        have hbel9 := hbel.trans (u9.mono hbel.size)
        clear inn c0 tb CB
        replace B_a := B_a.below u9
        replace B_p := B_p.below u9
        replace B_l := B_l.below u9
        replace hS := hS.below u9
        replace hK := hK.below u9
        replace hH := hH.below u9
        have S_w9 := u9.size
        have V_w9 : Below w.heap.size w w9 := V_wr.trans (u9.mono V_wr.size)
        clear V_wr
        clear u9
        cases bb5
        · have HB := Lib.hid (rangeAll_no (q := heardAt P H) hlt Hat.out)
          go_wp2
          go_ret
          exact ⟨by unfold heardB; rw [HB.out]; rfl, V_w9⟩
        · go_wp2
          go_roundw
          case rel => exact ⟨i + 1, by omega, by go_num, fun j hj => by
            by_cases e : j = i
            · subst e; exact Hat.out
            · exact HJ.out j (by omega), hbel9⟩
          case measure => simp [intOf]; omega
      · have d7 : (((rn : Int) != (blen i : Int)) : Bool) = true := by simp; omega
        have d9 : decide (rn = blen i) = false := decide_eq_false d6
        rw [d9, Bool.false_and] at Hat
        have HB := Lib.hid (rangeAll_no (q := heardAt P H) hlt Hat.out)
        clear d9 d6
        have e_p_0 := B_p.a1_0
        go_wp2
        go_ret
        exact ⟨by unfold heardB; rw [HB.out]; rfl, V_wr⟩
    · obtain rfl : hn = i := by omega
      have HB := Lib.hid (rangeAll_yes (q := heardAt P H) (n := hn) (fun j hj => HJ.out j hj))
      have HR : Hid ((heardB P H hn && endB st ss ou) = endB st ss ou) := Lib.hid (by unfold heardB; rw [HB.out]; rfl)
      clear HB hlt
      have e_a := B_a.all11
      by_cases k3 : st = 3
      · have HE : Hid (endB st ss ou = decide (ss = 1)) := Lib.hid (by unfold endB; rw [if_pos k3])
        have k4 : ((st == 3) : Bool) = true := by simpa using k3
        clear k3
        go_wp2
        go_ret
        exact ⟨ret_bool (by show _ = (heardB P H hn && endB st ss ou); rw [HR.out, HE.out, Bool.eq_iff_iff]; simp), V_wr⟩
      · have HE : Hid (endB st ss ou = ((decide (ss = 0) || decide (ss = 2)) && decide (ou = 0))) := Lib.hid (by unfold endB; rw [if_neg k3])
        have k4 : ((st == 3) : Bool) = false := by simpa using k3
        clear k3
        by_cases s0 : ss = 0
        · subst s0
          go_wp2
          go_ret
          exact ⟨ret_bool (by show _ = (heardB P H hn && endB st 0 ou); rw [HR.out, HE.out, Bool.eq_iff_iff]; simp), V_wr⟩
        · have s1 : ((ss == 0) : Bool) = false := by simpa using s0
          have s3 : decide (ss = 0) = false := by simpa using s0
          rw [s3, Bool.false_or] at HE
          clear s3 s0
          by_cases s0 : ss = 2
          · subst s0
            go_wp2
            go_ret
            exact ⟨ret_bool (by show _ = (heardB P H hn && endB st 2 ou); rw [HR.out, HE.out, Bool.eq_iff_iff]; simp), V_wr⟩
          · have s2 : ((ss == 2) : Bool) = false := by simpa using s0
            have s3 : decide (ss = 2) = false := by simpa using s0
            rw [s3, Bool.false_and] at HE
            clear s3 s0
            go_wp2
            go_ret
            exact ⟨ret_bool (by show _ = (heardB P H hn && endB st ss ou); rw [HR.out, HE.out]), V_wr⟩
end Go.Proofs.YtlmdckcohoddnaaDoor
namespace Go.Proofs.YtlmdckcohoddnaaDoor
open Go.RowKit
set_option maxHeartbeats 4000000 in
theorem ptLength_any (i : Nat) (w : World) (hi : i < 3) :
    Calls Tryd.prog 88 #[.int .i64 i] w fun e w' => e = .returned (.int .i64 (blen i)) ∧ Below w.heap.size w w' := by
  have : i = 0 ∨ i = 1 ∨ i = 2 := by omega
  rcases this with rfl | rfl | rfl
  all_goals
    go_enter Tryd.func88, Tryd.ntmps88
    go_wp2
    go_ret
    exact ⟨rfl, (Below.refl _ _).alloc (Nat.le_refl _) _⟩
theorem bitB_in (x : Int) : bitB x = inB x 0 1 := rfl
set_option maxHeartbeats 16000000 in
set_option maxRecDepth 100000 in
theorem ptGood_any (a : Pl) (x : PlX) (w : World) (h : PlR w x a.shares a.keys a.heard) :
    Calls Tryd.prog 55 #[.agg #[.int .i64 a.P, .int .i64 a.party, .int .i64 a.input, .int .i64 a.mask, .int .i64 a.delta, .slice x.sa x.sn x.sc, .slice x.ka x.kn x.kc, .int .i64 a.step, .slice x.ha x.hn x.hc, .int .i64 a.status, .int .i64 a.out]] w fun e w' => e = .returned (.bool (plB a)) ∧ Below w.heap.size w w' := by
  obtain ⟨P, pa, ip, mk, de, S, K, st, H, ss, ou⟩ := a
  obtain ⟨sa, sn, sc, ka, kn, kc, ha, hn, hc⟩ := x
  obtain ⟨hS, hK, rs, hH, hD⟩ := h
  unfold plB
  dsimp only at *
  have hSl := hS.len
  have hKl := hK.len
  have hHl := hH.len
  have hHd : rs.length = H.length := by rw [← hD, datas_len]
  have hsn := hS.le
  have hkn := hK.le
  have hhn := hH.le
  have hKL := Lib.hid hKl
  have hHL := Lib.hid hHl
  have HD := Lib.hid hD
  have e10 : Hid (decide (S.length = 10) = decide (sn = 5)) := Lib.hid (by rw [hSl, decide_eq_decide]; omega)
  have eK : Hid (decide (K.length = 5) = decide (kn = 5)) := Lib.hid (by rw [hKl])
  have eH : Hid ((decide ((H.length : Int) = st)) = decide ((hn : Int) = st)) := Lib.hid (by rw [← hHd, hHl])
  have eHB : Hid (H.length = hn) := Lib.hid (by rw [← hHd, hHl])
  rw [e10.out, eK.out, eH.out, eHB.out]
  have C0 := fun (W : World) (b : Option Addr) (hh : Ints W b 4 4 [ip, mk, de, ou]) => fpIn_any P b 4 4 [ip, mk, de, ou] W hh
  have F0 : elsB P [ip, mk, de, ou] = true → isPr P = true := fun h => (elsB_pr h).1
  have C1 := fun (W : World) => l1In_any pa 0 1 W
  rw [← bitB_in] at C1
  have C5 := fun (W : World) (hh : Ints W ka kn kc K) => l1All_any ka kn kc K 0 (P - 1) W hh
  have C7 := fun (W : World) => l1In_any st 0 3 W
  have F7 : inB st 0 3 = true → 0 ≤ st ∧ st ≤ 3 := fun h => inB_true h
  clear hSl hKl hHl hHd hD
  generalize elsB P [ip, mk, de, ou] = b0 at *
  generalize bitB pa = b1 at *
  generalize allB K 0 (P - 1) = b5 at *
  generalize hb6 : tagsB P S 5 = b6
  generalize inB st 0 3 = b7 at *
  generalize hb2 : (!decide (de = 0)) = b2
  generalize hb3 : decide (sn = 5) = b3
  generalize hb4 : decide (kn = 5) = b4
  generalize hb8 : decide ((hn : Int) = st) = b8
  have HB2 := Lib.hid hb2
  have HB3 := Lib.hid hb3
  have HB4 := Lib.hid hb4
  have HB6 := Lib.hid hb6
  have HB8 := Lib.hid hb8
  clear hb2 hb3 hb4 hb6 hb8 e10 eK eH eHB
  replace C0 := Lib.hid C0
  replace F0 := Lib.hid F0
  replace C1 := Lib.hid C1
  replace C5 := Lib.hid C5
  replace C7 := Lib.hid C7
  replace F7 := Lib.hid F7
  have hI : Ints ((w.alloc (.cells #[.int .i64 P, .int .i64 pa, .int .i64 ip, .int .i64 mk, .int .i64 de, .slice sa sn sc, .slice ka kn kc, .int .i64 st, .slice ha hn hc, .int .i64 ss, .int .i64 ou] 31)).alloc (.cells #[.int .i64 ip, .int .i64 mk, .int .i64 de, .int .i64 ou] 3)) (some ⟨w.heap.size + 1, 0, none⟩) 4 4 [ip, mk, de, ou] := by simpa using Ints.lit (w.alloc (.cells #[.int .i64 P, .int .i64 pa, .int .i64 ip, .int .i64 mk, .int .i64 de, .slice sa sn sc, .slice ka kn kc, .int .i64 st, .slice ha hn hc, .int .i64 ss, .int .i64 ou] 31)) [ip, mk, de, ou] 3 (by simp [maxLen])
  go_enter Tryd.func55, Tryd.ntmps55
  go_wp2_with fail
  refine Exists.elim (Blk.new_ w (b := w.heap.size) rfl 31 #[.int .i64 P, .int .i64 pa, .int .i64 ip, .int .i64 mk, .int .i64 de, .slice sa sn sc, .slice ka kn kc, .int .i64 st, .slice ha hn hc, .int .i64 ss, .int .i64 ou]) (fun w1_a0' q => ?_)
  (try rw [q.1] at hI); (try rw [q.1]); have B_a := q.2.1; have s_w1_a0' := q.2.2.1; have u_w1_a0' := q.2.2.2; clear q
  refine Exists.elim (Blk.new_ w1_a0' (b := w.heap.size + 1) s_w1_a0' 3 #[.int .i64 ip, .int .i64 mk, .int .i64 de, .int .i64 ou]) (fun w1' q => ?_)
  (try rw [q.1] at hI); (try rw [q.1]); have B_l := q.2.1; have s_w1' := q.2.2.1; have u_w1' := q.2.2.2; clear q
  replace B_a := (B_a.below u_w1')
  have U := (u_w1_a0'.trans (u_w1'.mono u_w1_a0'.size))
  replace hS := hS.below U
  replace hK := hK.below U
  replace hH := hH.below U
  have S_w1' : w.heap.size + 2 ≤ w1'.heap.size := Nat.le_of_eq s_w1'.symm
  have V_w1' := (Below.refl w.heap.size w).trans (U.mono ((Below.refl w.heap.size w)).size)
  clear u_w1_a0' u_w1' s_w1_a0' s_w1' U
  refine (C0.out _ _ hI).mono ?_; rintro e wk ⟨rfl, qm⟩
  have um := below_of_quiet qm
  clear qm hI C0
  replace B_a := B_a.below um
  replace B_l := B_l.below um
  replace hS := hS.below um
  replace hK := hK.below um
  replace hH := hH.below um
  have S_wk := um.size
  have V_wk : Below w.heap.size w wk := V_w1'.trans (um.mono V_w1'.size)
  clear V_w1'
  clear um
  cases b0
  · go_wp2
    go_ret
    exact ⟨rfl, V_wk⟩
  have hpr := F0.out rfl
  obtain ⟨p1, p2⟩ := isPr_range hpr
  cases b2
  · have d1 : ((de == 0) : Bool) = true := by simpa using HB2.out
    have e_a_0 := B_a.a11_0
    have e_a_1 := B_a.a11_1
    have e_a_2 := B_a.a11_2
    have e_a_3 := B_a.a11_3
    have e_a_4 := B_a.a11_4
    have e_a_5 := B_a.a11_5
    have e_a_6 := B_a.a11_6
    have e_a_7 := B_a.a11_7
    have e_a_8 := B_a.a11_8
    have e_a_9 := B_a.a11_9
    have e_a_10 := B_a.a11_10
    go_wp2
    go_ret
    exact ⟨ret_bool (by cases b1 <;> rfl), V_wk⟩
  have d1 : ((de == 0) : Bool) = false := by simpa using HB2.out
  have e_a_0 := B_a.a11_0
  have e_a_1 := B_a.a11_1
  have e_a_2 := B_a.a11_2
  have e_a_3 := B_a.a11_3
  have e_a_4 := B_a.a11_4
  have e_a_5 := B_a.a11_5
  have e_a_6 := B_a.a11_6
  have e_a_7 := B_a.a11_7
  have e_a_8 := B_a.a11_8
  have e_a_9 := B_a.a11_9
  have e_a_10 := B_a.a11_10
  go_wp2_with fail
  refine (C1.out _).mono ?_; rintro e w' ⟨rfl, rfl⟩
  cases b1
  · go_wp2
    go_ret
    exact ⟨rfl, V_wk⟩
  clear e_a_0 e_a_1 e_a_2 e_a_3 e_a_4 e_a_5 e_a_6 e_a_7 e_a_8 e_a_9 e_a_10
  cases b3
  · have d5 : (((sn : Int) != 5) : Bool) = true := by have := HB3.out; simp at this; simp; omega
    have e_a_0 := B_a.a11_0
    have e_a_1 := B_a.a11_1
    have e_a_2 := B_a.a11_2
    have e_a_3 := B_a.a11_3
    have e_a_4 := B_a.a11_4
    have e_a_5 := B_a.a11_5
    have e_a_6 := B_a.a11_6
    have e_a_7 := B_a.a11_7
    have e_a_8 := B_a.a11_8
    have e_a_9 := B_a.a11_9
    have e_a_10 := B_a.a11_10
    go_wp2
    go_ret
    exact ⟨rfl, V_wk⟩
  have hs5 : sn = 5 := by simpa using HB3.out
  have d6 : (((sn : Int) != 5) : Bool) = false := by simp; omega
  replace hs5 := Lib.hid hs5
  cases b4
  · have d5 : (((kn : Int) != 5) : Bool) = true := by have := HB4.out; simp at this; simp; omega
    have e_a_0 := B_a.a11_0
    have e_a_1 := B_a.a11_1
    have e_a_2 := B_a.a11_2
    have e_a_3 := B_a.a11_3
    have e_a_4 := B_a.a11_4
    have e_a_5 := B_a.a11_5
    have e_a_6 := B_a.a11_6
    have e_a_7 := B_a.a11_7
    have e_a_8 := B_a.a11_8
    have e_a_9 := B_a.a11_9
    have e_a_10 := B_a.a11_10
    go_wp2
    go_ret
    exact ⟨rfl, V_wk⟩
  have d7 : (((kn : Int) != 5) : Bool) = false := by have := HB4.out; simp at this; simp; omega
  have e_a_0 := B_a.a11_0
  have e_a_1 := B_a.a11_1
  have e_a_2 := B_a.a11_2
  have e_a_3 := B_a.a11_3
  have e_a_4 := B_a.a11_4
  have e_a_5 := B_a.a11_5
  have e_a_6 := B_a.a11_6
  have e_a_7 := B_a.a11_7
  have e_a_8 := B_a.a11_8
  have e_a_9 := B_a.a11_9
  have e_a_10 := B_a.a11_10
  go_wp2_with fail
  clear e_a_0 e_a_1 e_a_2 e_a_3 e_a_4 e_a_5 e_a_6 e_a_7 e_a_8 e_a_9 e_a_10
  refine (C5.out _ hK).mono ?_; rintro e wm ⟨rfl, qm⟩
  have um := below_of_quiet qm
  clear qm
  replace B_a := B_a.below um
  replace B_l := B_l.below um
  replace hS := hS.below um
  replace hK := hK.below um
  replace hH := hH.below um
  have S_wm := um.size
  have V_wm : Below w.heap.size w wm := V_wk.trans (um.mono V_wk.size)
  clear V_wk
  clear um
  cases b5
  · go_wp2
    go_ret
    exact ⟨rfl, V_wm⟩
  have e_a_0 := B_a.a11_0
  have e_a_1 := B_a.a11_1
  have e_a_2 := B_a.a11_2
  have e_a_3 := B_a.a11_3
  have e_a_4 := B_a.a11_4
  have e_a_5 := B_a.a11_5
  have e_a_6 := B_a.a11_6
  have e_a_7 := B_a.a11_7
  have e_a_8 := B_a.a11_8
  have e_a_9 := B_a.a11_9
  have e_a_10 := B_a.a11_10
  go_wp2_with fail
  refine (C7.out _).mono ?_; rintro e w' ⟨rfl, rfl⟩
  cases b7
  · go_wp2
    go_ret
    exact ⟨ret_bool (by cases b6 <;> rfl), V_wm⟩
  have hst := F7.out rfl
  cases b8
  · have d5 : (((hn : Int) != st) : Bool) = true := by have := HB8.out; simp at this; simp; omega
    go_wp2
    go_ret
    exact ⟨ret_bool (by cases b6 <;> rfl), V_wm⟩
  have d3 : (hn : Int) = st := by simpa using HB8.out
  have d4 : (((hn : Int) != st) : Bool) = false := by simp; omega
  have hn3 : hn ≤ 3 := by omega
  have D3 := Lib.hid d3
  clear d3
  go_wp2
  clear e_a_0 e_a_1 e_a_2 e_a_3 e_a_4 e_a_5 e_a_6 e_a_7 e_a_8 e_a_9 e_a_10
  have hs5' : sn ≤ 5 := by rw [hs5.out]; exact Nat.le_refl _
  go_loopw [69] (fun v wr => ∃ i : Nat, i ≤ sn ∧ v = .int .i64 i ∧ (∀ j, j < i → tagAt P S j = true) ∧ Below wm.heap.size wm wr) (fun v _ => sn - (intOf v).toNat)
  case atStart => exact ⟨0, Nat.zero_le _, rfl, fun j hj => absurd hj (by omega), Below.refl _ _⟩
  case round =>
    obtain ⟨i, hi, rfl, hj, hbel⟩ := hrel
    have HJ := Lib.hid hj
    clear hj
    obtain ⟨wo, hwo⟩ : ∃ wo, wo = wr := ⟨_, rfl⟩
    subst hwo
    have B_a := B_a.below hbel
    have B_l := B_l.below hbel
    have hS := hS.below hbel
    have hK := hK.below hbel
    have hH := hH.below hbel
    have V_wo := V_wm.trans (hbel.mono V_wm.size)
    have S_wo := hbel.size
    by_cases hlt : i < sn
    · skip
      have hlt' : (i : Int) < (sn : Int) := by omega
      obtain ⟨g, o, rfl, hc⟩ := hS.at (by omega)
      have c0 : wo.cell? ⟨g, o + i * 2, none⟩ = some (.int .i64 (S.getD (i * 2) 0)) := hc _ (by omega)
      have c1 : wo.cell? ⟨g, o + i * 2 + 1, none⟩ = some (.int .i64 (S.getD (i * 2 + 1) 0)) := by have := hc (i * 2 + 1) (by omega); simpa only [Nat.add_assoc] using this
      have Hat : Hid (tagAt P S i = tagB P (S.getD (i * 2) 0) (S.getD (i * 2 + 1) 0)) := Lib.hid rfl
      have CB := fun (W : World) => tgGood_any P (S.getD (i * 2) 0) (S.getD (i * 2 + 1) 0) W
      generalize S.getD (i * 2) 0 = x0 at *
      generalize S.getD (i * 2 + 1) 0 = x1 at *
      generalize tagB P x0 x1 = tb at *
      replace CB := Lib.hid CB
      clear hc
      have e_a_0 := B_a.a11_0
      have e_a_0' : (wo.alloc (.cells #[.int .i64 x0, .int .i64 x1] 81)).cell? ⟨w.heap.size, 0, none⟩ = some (.int .i64 P) := keepA _ e_a_0
      have V9 : Below wo.heap.size wo (wo.alloc (.cells #[.int .i64 x0, .int .i64 x1] 81)) := (Below.refl _ _).alloc (Nat.le_refl _) _
      go_wp2_with fail
      refine (CB.out _).mono ?_; rintro e w9 ⟨rfl, u9⟩
      replace u9 := V9.trans (u9.mono V9.size)
      have hbel9 := hbel.trans (u9.mono hbel.size)
      clear e_a_0
      clear e_a_0' V9 c0 c1 CB
      replace B_a := B_a.below u9
      replace B_l := B_l.below u9
      replace hS := hS.below u9
      replace hK := hK.below u9
      replace hH := hH.below u9
      have S_w9 := u9.size
      have V_w9 : Below w.heap.size w w9 := V_wo.trans (u9.mono V_wo.size)
      clear V_wo
      clear u9
      cases tb
      · have HB : b6 = false := by rw [← HB6.out, ← hs5.out]; exact rangeAll_no (q := tagAt P S) hlt Hat.out
        subst HB
        go_wp2
        go_ret
        exact ⟨rfl, V_w9⟩
      · go_wp2
        go_roundw
        case rel => exact ⟨i + 1, by omega, by go_num, fun j hj => by
          by_cases e : j = i
          · subst e; exact Hat.out
          · exact HJ.out j (by omega), hbel9⟩
        case measure => simp [intOf]; omega
    · obtain rfl : sn = i := by omega
      have HB : b6 = true := by rw [← HB6.out, ← hs5.out]; exact rangeAll_yes (q := tagAt P S) (fun j hj => HJ.out j hj)
      subst HB
      clear HJ hlt
      have e_a_0 := B_a.a11_0
      have e_a_1 := B_a.a11_1
      have e_a_2 := B_a.a11_2
      have e_a_3 := B_a.a11_3
      have e_a_4 := B_a.a11_4
      have e_a_5 := B_a.a11_5
      have e_a_6 := B_a.a11_6
      have e_a_7 := B_a.a11_7
      have e_a_8 := B_a.a11_8
      have e_a_9 := B_a.a11_9
      have e_a_10 := B_a.a11_10
      go_wp2
      clear e_a_0 e_a_1 e_a_2 e_a_3 e_a_4 e_a_5 e_a_6 e_a_7 e_a_8 e_a_9 e_a_10
      go_loopw [82] (fun v ws => ∃ i : Nat, i ≤ hn ∧ v = .int .i64 i ∧ (∀ j, j < i → heardAt P H j = true) ∧ Below wo.heap.size wo ws) (fun v _ => hn - (intOf v).toNat)
      case atStart => exact ⟨0, Nat.zero_le _, rfl, fun j hj => absurd hj (by omega), Below.refl _ _⟩
      case round =>
        obtain ⟨i, hi, rfl, hj, hbel2⟩ := hrel
        have HJ := Lib.hid hj
        clear hj
        have B_a := B_a.below hbel2
        have B_l := B_l.below hbel2
        have hS := hS.below hbel2
        have hK := hK.below hbel2
        have hH := hH.below hbel2
        have V_wr := V_wo.trans (hbel2.mono V_wo.size)
        have S_wr := hbel2.size
        by_cases hlt : i < hn
        · obtain ⟨g, o, rfl, c0, inn⟩ := hH.at i hlt
          have hat : hAt H i = (rowAt rs i).2.2 := hAt_rs HD.out i (by rw [hHL.out]; exact hlt)
          have bb := blen_bd i
          have Hat : Hid (heardAt P H i = (decide ((rowAt rs i).2.2.length = blen i) && allB (rowAt rs i).2.2 0 (P - 1))) := Lib.hid (by unfold heardAt bodyB; rw [hat])
          have CB := fun (W : World) (hh : Ints W (rowAt rs i).1 (rowAt rs i).2.2.length (rowAt rs i).2.1 (rowAt rs i).2.2) => l1All_any _ _ _ _ 0 (P - 1) W hh
          have hnr := inn.le
          generalize rowAt rs i = r at *
          obtain ⟨ra, rc, rl⟩ := r
          dsimp only at *
          generalize allB rl 0 (P - 1) = bb5 at *
          replace CB := Lib.hid CB
          clear hat
          have hlt' : (i : Int) < (hn : Int) := by omega
          have hi3 : (i : Int) < 3 := by omega
          have hRL : Hid (rl.length = rl.length) := Lib.hid rfl
          generalize rl.length = rn at *
          go_wp2_with fail
          refine (ptLength_any i _ (by omega)).mono ?_; rintro e w8 ⟨rfl, u8⟩
          have hbel8 := hbel2.trans (u8.mono hbel2.size)
          replace inn := inn.below u8
          clear c0
          replace B_a := B_a.below u8
          replace B_l := B_l.below u8
          replace hS := hS.below u8
          replace hK := hK.below u8
          replace hH := hH.below u8
          have S_w8 := u8.size
          have V_w8 : Below w.heap.size w w8 := V_wr.trans (u8.mono V_wr.size)
          clear V_wr
          clear u8
          by_cases d6 : rn = blen i
          · have d7 : (((rn : Int) != (blen i : Int)) : Bool) = false := by simp; omega
            have d9 : decide (rn = blen i) = true := decide_eq_true d6
            rw [d9, Bool.true_and] at Hat
            clear d9 d6
            have e_a_0 := B_a.a11_0
            go_wp2_with fail
            clear e_a_0
            refine (CB.out _ inn).mono ?_; rintro e w9 ⟨rfl, qm⟩
            have u9 := below_of_quiet qm
            clear qm inn CB
            have hbel9 := hbel8.trans (u9.mono hbel8.size)
            replace B_a := B_a.below u9
            replace B_l := B_l.below u9
            replace hS := hS.below u9
            replace hK := hK.below u9
            replace hH := hH.below u9
            have S_w9 := u9.size
            have V_w9 : Below w.heap.size w w9 := V_w8.trans (u9.mono V_w8.size)
            clear V_w8
            clear u9
            cases bb5
            · have HB := Lib.hid (rangeAll_no (q := heardAt P H) hlt Hat.out)
              go_wp2
              go_ret
              exact ⟨by unfold heardB; rw [HB.out]; rfl, V_w9⟩
            · go_wp2
              go_roundw
              case rel => exact ⟨i + 1, by omega, by go_num, fun j hj => by
                by_cases e : j = i
                · subst e; exact Hat.out
                · exact HJ.out j (by omega), hbel9⟩
              case measure => simp [intOf]; omega
          · have d7 : (((rn : Int) != (blen i : Int)) : Bool) = true := by simp; omega
            have d9 : decide (rn = blen i) = false := decide_eq_false d6
            rw [d9, Bool.false_and] at Hat
            have HB := Lib.hid (rangeAll_no (q := heardAt P H) hlt Hat.out)
            clear d9 d6
            go_wp2
            go_ret
            exact ⟨by unfold heardB; rw [HB.out]; rfl, V_w8⟩
        · obtain rfl : hn = i := by omega
          have HB := Lib.hid (rangeAll_yes (q := heardAt P H) (n := hn) (fun j hj => HJ.out j hj))
          have HR : Hid ((heardB P H hn && endB st ss ou) = endB st ss ou) := Lib.hid (by unfold heardB; rw [HB.out]; rfl)
          clear HB hlt
          have e_a_0 := B_a.a11_0
          have e_a_1 := B_a.a11_1
          have e_a_2 := B_a.a11_2
          have e_a_3 := B_a.a11_3
          have e_a_4 := B_a.a11_4
          have e_a_5 := B_a.a11_5
          have e_a_6 := B_a.a11_6
          have e_a_7 := B_a.a11_7
          have e_a_8 := B_a.a11_8
          have e_a_9 := B_a.a11_9
          have e_a_10 := B_a.a11_10
          by_cases k3 : st = 3
          · have HE : Hid (endB st ss ou = decide (ss = 1)) := Lib.hid (by unfold endB; rw [if_pos k3])
            have k4 : ((st == 3) : Bool) = true := by simpa using k3
            clear k3
            go_wp2
            go_ret
            exact ⟨ret_bool (by show _ = (heardB P H hn && endB st ss ou); rw [HR.out, HE.out, Bool.eq_iff_iff]; simp), V_wr⟩
          · have HE : Hid (endB st ss ou = ((decide (ss = 0) || decide (ss = 2)) && decide (ou = 0))) := Lib.hid (by unfold endB; rw [if_neg k3])
            have k4 : ((st == 3) : Bool) = false := by simpa using k3
            clear k3
            by_cases s0 : ss = 0
            · subst s0
              go_wp2
              go_ret
              exact ⟨ret_bool (by show _ = (heardB P H hn && endB st 0 ou); rw [HR.out, HE.out, Bool.eq_iff_iff]; simp), V_wr⟩
            · have s1 : ((ss == 0) : Bool) = false := by simpa using s0
              have s3 : decide (ss = 0) = false := by simpa using s0
              rw [s3, Bool.false_or] at HE
              clear s3 s0
              by_cases s0 : ss = 2
              · subst s0
                go_wp2
                go_ret
                exact ⟨ret_bool (by show _ = (heardB P H hn && endB st 2 ou); rw [HR.out, HE.out, Bool.eq_iff_iff]; simp), V_wr⟩
              · have s2 : ((ss == 2) : Bool) = false := by simpa using s0
                have s3 : decide (ss = 2) = false := by simpa using s0
                rw [s3, Bool.false_and] at HE
                clear s3 s0
                go_wp2
                go_ret
                exact ⟨ret_bool (by show _ = (heardB P H hn && endB st ss ou); rw [HR.out, HE.out]), V_wr⟩
end Go.Proofs.YtlmdckcohoddnaaDoor
namespace Go.Proofs.YtlmdckcohoddnaaDoor
open Go.RowKit
theorem plB_parts {a : Pl} (h : plB a = true) : isPr a.P = true ∧ (0 ≤ a.input ∧ a.input ≤ a.P - 1) ∧ (0 ≤ a.mask ∧ a.mask ≤ a.P - 1) ∧ (0 ≤ a.delta ∧ a.delta ≤ a.P - 1) ∧ (0 ≤ a.out ∧ a.out ≤ a.P - 1) ∧ (0 ≤ a.party ∧ a.party ≤ 1) ∧ a.delta ≠ 0 ∧ a.shares.length = 10 ∧ a.keys.length = 5 ∧ (∀ x ∈ a.keys, 0 ≤ x ∧ x ≤ a.P - 1) ∧ (∀ i, i < 5 → tagAt a.P a.shares i = true) ∧ (0 ≤ a.step ∧ a.step ≤ 3) ∧ (a.heard.length : Int) = a.step ∧ (∀ i, i < a.heard.length → heardAt a.P a.heard i = true) ∧ (0 ≤ a.status ∧ a.status ≤ 2) := by
  unfold plB at h
  simp only [Bool.and_eq_true] at h
  obtain ⟨h0, h1, h2, h3, h4, h5, h6, h7, h8, h9, h10⟩ := h
  obtain ⟨g0, g1⟩ := elsB_pr h0
  refine ⟨g0, g1 _ (by simp), g1 _ (by simp), g1 _ (by simp), g1 _ (by simp), of_decide_eq_true h1, by simpa using h2, of_decide_eq_true h3, of_decide_eq_true h4, (allB_iff _ _ _).1 h5, fun i hi => rangeAll_at h6 i hi, inB_true h7, of_decide_eq_true h8, fun i hi => rangeAll_at h9 i hi, ?_⟩
  unfold endB at h10
  split at h10
  · have := of_decide_eq_true h10; omega
  · simp only [Bool.and_eq_true, Bool.or_eq_true, decide_eq_true_eq] at h10
    omega
def twoB (a b : Pl) : Bool := plB a && (plB b && (decide (a.P = b.P) && (decide (a.party = 0) && (decide (b.party = 1) && (decide (a.step = 0) && (decide (b.step = 0) && (decide (a.status = 0) && (decide (b.status = 0)))))))))
set_option maxHeartbeats 8000000 in
set_option maxRecDepth 100000 in
theorem areTwo_any (a : Pl) (x : PlX) (b : Pl) (y : PlX) (w : World) (h : PlR w x a.shares a.keys a.heard) (k : PlR w y b.shares b.keys b.heard) (hT : Tbl w) :
    Calls Tryd.prog 68 #[.agg #[.int .i64 a.P, .int .i64 a.party, .int .i64 a.input, .int .i64 a.mask, .int .i64 a.delta, .slice x.sa x.sn x.sc, .slice x.ka x.kn x.kc, .int .i64 a.step, .slice x.ha x.hn x.hc, .int .i64 a.status, .int .i64 a.out], .agg #[.int .i64 b.P, .int .i64 b.party, .int .i64 b.input, .int .i64 b.mask, .int .i64 b.delta, .slice y.sa y.sn y.sc, .slice y.ka y.kn y.kc, .int .i64 b.step, .slice y.ha y.hn y.hc, .int .i64 b.status, .int .i64 b.out]] w fun e w' => e = .returned (.bool (twoB a b)) ∧ Below w.heap.size w w' := by
  have CA := fun (W : World) (h2 : PlR W x a.shares a.keys a.heard) (hT2 : Tbl W) => IsPlayer_any a x W h2 hT2
  have CB := fun (W : World) (k2 : PlR W y b.shares b.keys b.heard) (hT2 : Tbl W) => IsPlayer_any b y W k2 hT2
  unfold twoB
  generalize plB a = b0 at *
  generalize plB b = b1 at *
  generalize hb2 : decide (a.P = b.P) = b2
  replace hb2 := Lib.hid hb2
  generalize hb3 : decide (a.party = 0) = b3
  replace hb3 := Lib.hid hb3
  generalize hb4 : decide (b.party = 1) = b4
  replace hb4 := Lib.hid hb4
  generalize hb5 : decide (a.step = 0) = b5
  replace hb5 := Lib.hid hb5
  generalize hb6 : decide (b.step = 0) = b6
  replace hb6 := Lib.hid hb6
  generalize hb7 : decide (a.status = 0) = b7
  replace hb7 := Lib.hid hb7
  generalize hb8 : decide (b.status = 0) = b8
  replace hb8 := Lib.hid hb8
  have LX := Lib.hid hT
  clear hT
  replace CA := Lib.hid CA
  replace CB := Lib.hid CB
  go_enter Tryd.func68, Tryd.ntmps68
  go_wp2_with fail
  refine Exists.elim (Blk.new_ w (b := w.heap.size) rfl 31 #[.int .i64 a.P, .int .i64 a.party, .int .i64 a.input, .int .i64 a.mask, .int .i64 a.delta, .slice x.sa x.sn x.sc, .slice x.ka x.kn x.kc, .int .i64 a.step, .slice x.ha x.hn x.hc, .int .i64 a.status, .int .i64 a.out]) (fun w1_a0' q => ?_)
  rw [q.1]; have B_a := q.2.1; have s_w1_a0' := q.2.2.1; have u_w1_a0' := q.2.2.2; clear q
  refine Exists.elim (Blk.new_ w1_a0' (b := w.heap.size + 1) s_w1_a0' 31 #[.int .i64 b.P, .int .i64 b.party, .int .i64 b.input, .int .i64 b.mask, .int .i64 b.delta, .slice y.sa y.sn y.sc, .slice y.ka y.kn y.kc, .int .i64 b.step, .slice y.ha y.hn y.hc, .int .i64 b.status, .int .i64 b.out]) (fun w1' q => ?_)
  rw [q.1]; have B_b := q.2.1; have s_w1' := q.2.2.1; have u_w1' := q.2.2.2; clear q
  replace B_a := (B_a.below u_w1')
  have U := (u_w1_a0'.trans (u_w1'.mono u_w1_a0'.size))
  replace h := h.below U
  replace k := k.below U
  have S_w1' : w.heap.size + 2 ≤ w1'.heap.size := Nat.le_of_eq s_w1'.symm
  have V_w1' := (Below.refl w.heap.size w).trans (U.mono ((Below.refl w.heap.size w)).size)
  clear u_w1_a0' u_w1' s_w1_a0' s_w1' U
  refine (CA.out _ h (LX.out.below V_w1')).mono ?_
  rintro e w2' ⟨rfl, u_w2'⟩
  replace B_a := B_a.below u_w2'
  replace B_b := B_b.below u_w2'
  replace h := h.below u_w2'
  replace k := k.below u_w2'
  have S_w2' := u_w2'.size
  have V_w2' : Below w.heap.size w w2' := V_w1'.trans (u_w2'.mono V_w1'.size)
  clear V_w1'
  clear u_w2'
  cases b0
  · go_wp2
    go_ret
    exact ⟨rfl, V_w2'⟩
  have e_a := B_a.all11
  have e_b := B_b.all11
  go_wp2_with fail
  clear e_a e_b
  refine (CB.out _ k (LX.out.below V_w2')).mono ?_
  rintro e w3' ⟨rfl, u_w3'⟩
  replace B_a := B_a.below u_w3'
  replace B_b := B_b.below u_w3'
  replace h := h.below u_w3'
  replace k := k.below u_w3'
  have S_w3' := u_w3'.size
  have V_w3' : Below w.heap.size w w3' := V_w2'.trans (u_w3'.mono V_w2'.size)
  clear V_w2'
  clear u_w3'
  cases b1
  · go_wp2
    go_ret
    exact ⟨rfl, V_w3'⟩
  have e_a := B_a.all11
  have e_b := B_b.all11
  cases b2
  · have d2 : ((a.P == b.P) : Bool) = false := by simpa using hb2.out
    go_wp2
    go_ret
    exact ⟨rfl, V_w3'⟩
  have d2 : ((a.P == b.P) : Bool) = true := by simpa using hb2.out
  cases b3
  · have d3 : ((a.party == 0) : Bool) = false := by simpa using hb3.out
    go_wp2
    go_ret
    exact ⟨rfl, V_w3'⟩
  have d3 : ((a.party == 0) : Bool) = true := by simpa using hb3.out
  cases b4
  · have d4 : ((b.party == 1) : Bool) = false := by simpa using hb4.out
    go_wp2
    go_ret
    exact ⟨rfl, V_w3'⟩
  have d4 : ((b.party == 1) : Bool) = true := by simpa using hb4.out
  cases b5
  · have d5 : ((a.step == 0) : Bool) = false := by simpa using hb5.out
    go_wp2
    go_ret
    exact ⟨rfl, V_w3'⟩
  have d5 : ((a.step == 0) : Bool) = true := by simpa using hb5.out
  cases b6
  · have d6 : ((b.step == 0) : Bool) = false := by simpa using hb6.out
    go_wp2
    go_ret
    exact ⟨rfl, V_w3'⟩
  have d6 : ((b.step == 0) : Bool) = true := by simpa using hb6.out
  cases b7
  · have d7 : ((a.status == 0) : Bool) = false := by simpa using hb7.out
    go_wp2
    go_ret
    exact ⟨rfl, V_w3'⟩
  have d7 : ((a.status == 0) : Bool) = true := by simpa using hb7.out
  cases b8
  · have d8 : ((b.status == 0) : Bool) = false := by simpa using hb8.out
    go_wp2
    go_ret
    exact ⟨rfl, V_w3'⟩
  have d8 : ((b.status == 0) : Bool) = true := by simpa using hb8.out
  go_wp2
  go_ret
  exact ⟨rfl, V_w3'⟩
set_option maxHeartbeats 8000000 in
set_option maxRecDepth 100000 in
theorem ptBoth_any (a : Pl) (x : PlX) (b : Pl) (y : PlX) (w : World) (h : PlR w x a.shares a.keys a.heard) (k : PlR w y b.shares b.keys b.heard) (_hT : Tbl w) :
    Calls Tryd.prog 67 #[.agg #[.int .i64 a.P, .int .i64 a.party, .int .i64 a.input, .int .i64 a.mask, .int .i64 a.delta, .slice x.sa x.sn x.sc, .slice x.ka x.kn x.kc, .int .i64 a.step, .slice x.ha x.hn x.hc, .int .i64 a.status, .int .i64 a.out], .agg #[.int .i64 b.P, .int .i64 b.party, .int .i64 b.input, .int .i64 b.mask, .int .i64 b.delta, .slice y.sa y.sn y.sc, .slice y.ka y.kn y.kc, .int .i64 b.step, .slice y.ha y.hn y.hc, .int .i64 b.status, .int .i64 b.out]] w fun e w' => e = .returned (.bool (twoB a b)) ∧ Below w.heap.size w w' := by
  have CA := fun (W : World) (h2 : PlR W x a.shares a.keys a.heard) => ptGood_any a x W h2
  have CB := fun (W : World) (k2 : PlR W y b.shares b.keys b.heard) => ptGood_any b y W k2
  have FA := fun (H : plB a = true) => (plB_parts H).2.2.2.2.2.2.2.2.2.2.2
  have FB := fun (H : plB b = true) => (plB_parts H).2.2.2.2.2.2.2.2.2.2.2
  unfold twoB
  generalize plB a = b0 at *
  generalize plB b = b1 at *
  generalize hb2 : decide (a.P = b.P) = b2
  replace hb2 := Lib.hid hb2
  generalize hb3 : decide (a.party = 0) = b3
  replace hb3 := Lib.hid hb3
  generalize hb4 : decide (b.party = 1) = b4
  replace hb4 := Lib.hid hb4
  generalize hb5 : decide (a.step = 0) = b5
  replace hb5 := Lib.hid hb5
  generalize hb6 : decide (b.step = 0) = b6
  replace hb6 := Lib.hid hb6
  generalize hb7 : decide (a.status = 0) = b7
  replace hb7 := Lib.hid hb7
  generalize hb8 : decide (b.status = 0) = b8
  replace hb8 := Lib.hid hb8
  replace FA := Lib.hid FA
  replace FB := Lib.hid FB
  replace CA := Lib.hid CA
  replace CB := Lib.hid CB
  go_enter Tryd.func67, Tryd.ntmps67
  go_wp2_with fail
  refine Exists.elim (Blk.new_ w (b := w.heap.size) rfl 31 #[.int .i64 a.P, .int .i64 a.party, .int .i64 a.input, .int .i64 a.mask, .int .i64 a.delta, .slice x.sa x.sn x.sc, .slice x.ka x.kn x.kc, .int .i64 a.step, .slice x.ha x.hn x.hc, .int .i64 a.status, .int .i64 a.out]) (fun w4_a0' q => ?_)
  rw [q.1]; have B_a := q.2.1; have s_w4_a0' := q.2.2.1; have u_w4_a0' := q.2.2.2; clear q
  refine Exists.elim (Blk.new_ w4_a0' (b := w.heap.size + 1) s_w4_a0' 31 #[.int .i64 b.P, .int .i64 b.party, .int .i64 b.input, .int .i64 b.mask, .int .i64 b.delta, .slice y.sa y.sn y.sc, .slice y.ka y.kn y.kc, .int .i64 b.step, .slice y.ha y.hn y.hc, .int .i64 b.status, .int .i64 b.out]) (fun w4' q => ?_)
  rw [q.1]; have B_b := q.2.1; have s_w4' := q.2.2.1; have u_w4' := q.2.2.2; clear q
  replace B_a := (B_a.below u_w4')
  have U := (u_w4_a0'.trans (u_w4'.mono u_w4_a0'.size))
  replace h := h.below U
  replace k := k.below U
  have S_w4' : w.heap.size + 2 ≤ w4'.heap.size := Nat.le_of_eq s_w4'.symm
  have V_w4' := (Below.refl w.heap.size w).trans (U.mono ((Below.refl w.heap.size w)).size)
  clear u_w4_a0' u_w4' s_w4_a0' s_w4' U
  refine (CA.out _ h).mono ?_
  rintro e w5' ⟨rfl, u_w5'⟩
  replace B_a := B_a.below u_w5'
  replace B_b := B_b.below u_w5'
  replace h := h.below u_w5'
  replace k := k.below u_w5'
  have S_w5' := u_w5'.size
  have V_w5' : Below w.heap.size w w5' := V_w4'.trans (u_w5'.mono V_w4'.size)
  clear V_w4'
  clear u_w5'
  cases b0
  · go_wp2
    go_ret
    exact ⟨rfl, V_w5'⟩
  have e_a := B_a.all11
  have e_b := B_b.all11
  go_wp2_with fail
  clear e_a e_b
  refine (CB.out _ k).mono ?_
  rintro e w6' ⟨rfl, u_w6'⟩
  replace B_a := B_a.below u_w6'
  replace B_b := B_b.below u_w6'
  replace h := h.below u_w6'
  replace k := k.below u_w6'
  have S_w6' := u_w6'.size
  have V_w6' : Below w.heap.size w w6' := V_w5'.trans (u_w6'.mono V_w5'.size)
  clear V_w5'
  clear u_w6'
  cases b1
  · go_wp2
    go_ret
    exact ⟨rfl, V_w6'⟩
  have e_a := B_a.all11
  have e_b := B_b.all11
  cases b2
  · have d2 : ((a.P == b.P) : Bool) = false := by simpa using hb2.out
    go_wp2
    go_ret
    exact ⟨rfl, V_w6'⟩
  have d2 : ((a.P == b.P) : Bool) = true := by simpa using hb2.out
  cases b3
  · have d3 : ((a.party == 0) : Bool) = false := by simpa using hb3.out
    go_wp2
    go_ret
    exact ⟨rfl, V_w6'⟩
  have d3 : ((a.party == 0) : Bool) = true := by simpa using hb3.out
  cases b4
  · have d4 : ((b.party == 1) : Bool) = false := by simpa using hb4.out
    go_wp2
    go_ret
    exact ⟨rfl, V_w6'⟩
  have d4 : ((b.party == 1) : Bool) = true := by simpa using hb4.out
  obtain ⟨s1, _, _, s2⟩ := FA.out (by first | rfl | trivial)
  obtain ⟨s3, _, _, s4⟩ := FB.out (by first | rfl | trivial)
  have q5 := hb5.out
  have q6 := hb6.out
  have q7 := hb7.out
  have q8 := hb8.out
  by_cases z : a.step + b.step + a.status + b.status = 0
  · have z0 : ((a.step + b.step + a.status + b.status == 0) : Bool) = true := by simpa using z
    have HR : Hid ((b5 && (b6 && (b7 && b8))) = true) := Lib.hid (by
      rw [← q5, ← q6, ← q7, ← q8]
      rw [decide_eq_true (by omega : a.step = 0), decide_eq_true (by omega : b.step = 0), decide_eq_true (by omega : a.status = 0), decide_eq_true (by omega : b.status = 0)]; rfl)
    clear q5 q6 q7 q8 z hb5 hb6 hb7 hb8 FA FB
    go_wp2
    go_ret
    exact ⟨ret_bool HR.out.symm, V_w6'⟩
  · have z0 : ((a.step + b.step + a.status + b.status == 0) : Bool) = false := by simpa using z
    have HR : Hid ((b5 && (b6 && (b7 && b8))) = false) := Lib.hid (by
      rw [← q5, ← q6, ← q7, ← q8]
      by_cases z1 : a.step = 0
      · by_cases z2 : b.step = 0
        · by_cases z3 : a.status = 0
          · rw [decide_eq_false (by omega : ¬ b.status = 0)]; simp
          · rw [decide_eq_false z3]; simp
        · rw [decide_eq_false z2]; simp
      · rw [decide_eq_false z1]; simp)
    clear q5 q6 q7 q8 z hb5 hb6 hb7 hb8 FA FB
    go_wp2
    go_ret
    exact ⟨ret_bool HR.out.symm, V_w6'⟩
end Go.Proofs.YtlmdckcohoddnaaDoor
namespace Go.Proofs.YtlmdckcohoddnaaDoor
open Go.RowKit
theorem keepGr {w w' : World} {a : Option Addr} {c : Nat} {p : Addr} {v : Value} (g : w.grownBy w' (rowOf a c)) (hn : p.block ∉ foot a c) (h : w.cell? p = some v) : w'.cell? p = some v :=
  (World.cell?_of_block ((Only.of_grown g).block _ (World.block_lt_of_cell? w _ h) hn)).trans h
theorem twoB_parts {a b : Pl} (h : twoB a b = true) : plB a = true ∧ plB b = true ∧ a.P = b.P ∧ a.party = 0 ∧ b.party = 1 ∧ a.step = 0 ∧ b.step = 0 ∧ a.status = 0 ∧ b.status = 0 := by
  unfold twoB at h
  simpa only [Bool.and_eq_true, decide_eq_true_eq] using h
theorem tagAt_parts {p : Int} {L : List Int} {i : Nat} (h : tagAt p L i = true) : (0 ≤ L.getD (i * 2) 0 ∧ L.getD (i * 2) 0 ≤ p - 1) ∧ (0 ≤ L.getD (i * 2 + 1) 0 ∧ L.getD (i * 2 + 1) 0 ≤ p - 1) := by
  unfold tagAt at h
  rw [tagB_els] at h
  have := (elsB_pr h).2
  exact ⟨this _ (by simp), this _ (by simp)⟩
end Go.Proofs.YtlmdckcohoddnaaDoor
namespace Go.Proofs.YtlmdckcohoddnaaDoor
open Go.RowKit
def shV (a : Pl) (i : Nat) : Int := a.shares.getD (i * 2) 0
def shT (a : Pl) (i : Nat) : Int := a.shares.getD (i * 2 + 1) 0
def kyI (a : Pl) (i : Nat) : Int := a.keys.getD i 0
def hdI (a : Pl) (i j : Nat) : Int := (hAt a.heard i).getD j 0
def mkI (a : Pl) : Int := (a.input - a.mask) % a.P
def f0 (a : Pl) : Int := if a.party = 0 then mkI a else hdI a 0 0
def f1 (a : Pl) : Int := if a.party = 0 then hdI a 0 0 else mkI a
def cmb (p : Int) (L : Nat → Int) (w0 w1 w2 w3 w4 more : Int) : Int := (more + w0 * L 0 + w1 * L 1 + w2 * L 2 + w3 * L 3 + w4 * L 4) % p
def mor (a : Pl) (m : Int) : Int := if a.party = 1 then 0 else m
def seV0 (a : Pl) : Int := cmb a.P (shV a) 1 0 (-1) 0 0 (mor a (f0 a))
def seT0 (a : Pl) : Int := cmb a.P (shT a) 1 0 (-1) 0 0 0
def seV1 (a : Pl) : Int := cmb a.P (shV a) 0 1 0 (-1) 0 (mor a (f1 a))
def seT1 (a : Pl) : Int := cmb a.P (shT a) 0 1 0 (-1) 0 0
def dI (a : Pl) : Int := (seV0 a + hdI a 1 0) % a.P
def eI (a : Pl) : Int := (seV1 a + hdI a 1 2) % a.P
def thV (a : Pl) : Int := cmb a.P (shV a) 0 0 (eI a) (dI a) 1 (mor a (dI a * eI a))
def thT (a : Pl) : Int := cmb a.P (shT a) 0 0 (eI a) (dI a) 1 0
def bodyL (a : Pl) : List Int := if a.step = 0 then [mkI a] else if a.step = 1 then [seV0 a, seT0 a, seV1 a, seT1 a] else [thV a, thT a]
def keyT (a : Pl) (w0 w1 w2 w3 w4 m : Int) : Int := cmb a.P (kyI a) w0 w1 w2 w3 w4 (if a.party = 1 then -((m % a.P) * a.delta) else 0)
def accT (a : Pl) (b : List Int) : Bool :=
  if a.step = 0 then true
  else if a.step = 1 then holdB a.P a.delta (keyT a 1 0 (-1) 0 0 (f0 a)) (b.getD 0 0) (b.getD 1 0) && holdB a.P a.delta (keyT a 0 1 0 (-1) 0 (f1 a)) (b.getD 2 0) (b.getD 3 0)
  else holdB a.P a.delta (keyT a 0 0 (eI a) (dI a) 1 (dI a * eI a)) (b.getD 0 0) (b.getD 1 0)
def accB (a : Pl) (fr st : Int) (b : List Int) : Bool :=
  decide (fr = 1 - a.party) && (decide (st = a.step) && (bodyB a.P a.step.toNat b && accT a b))
def takeP (a : Pl) (fr st : Int) (b : List Int) : Pl :=
  if accB a fr st b then
    { a with heard := a.heard ++ [b], step := a.step + 1, status := if a.step = 2 then 1 else a.status, out := if a.step = 2 then (thV a + b.getD 0 0) % a.P else a.out }
  else { a with status := 2 }
theorem emod_rng (x p : Int) (hp : 1 ≤ p) : 0 ≤ x % p ∧ x % p ≤ p - 1 := ⟨Int.emod_nonneg _ (by omega), by have := Int.emod_lt_of_pos x (by omega : 0 < p); omega⟩
theorem cmb_rng (p : Int) (L : Nat → Int) (w0 w1 w2 w3 w4 m : Int) (hp : 1 ≤ p) : 0 ≤ cmb p L w0 w1 w2 w3 w4 m ∧ cmb p L w0 w1 w2 w3 w4 m ≤ p - 1 := emod_rng _ _ hp
structure PlN (a : Pl) : Prop where
  p1 : 2 ≤ a.P
  p2 : a.P ≤ 251
  ip : 0 ≤ a.input ∧ a.input ≤ a.P - 1
  mks : 0 ≤ a.mask ∧ a.mask ≤ a.P - 1
  de : 0 ≤ a.delta ∧ a.delta ≤ a.P - 1
  ou : 0 ≤ a.out ∧ a.out ≤ a.P - 1
  pa : 0 ≤ a.party ∧ a.party ≤ 1
  sl : a.shares.length = 10
  kl : a.keys.length = 5
  sv : ∀ i, i < 5 → 0 ≤ shV a i ∧ shV a i ≤ a.P - 1
  st : ∀ i, i < 5 → 0 ≤ shT a i ∧ shT a i ≤ a.P - 1
  ky : ∀ i, i < 5 → 0 ≤ kyI a i ∧ kyI a i ≤ a.P - 1
  stp : 0 ≤ a.step ∧ a.step ≤ 3
  hl : (a.heard.length : Int) = a.step
  hb : ∀ i, i < a.heard.length → (hAt a.heard i).length = blen i ∧ ∀ j, j < blen i → 0 ≤ hdI a i j ∧ hdI a i j ≤ a.P - 1
  pr : isPr a.P = true
theorem PlN.of {a : Pl} (h : plB a = true) : PlN a := by
  obtain ⟨g0, g1, g2, g3, g4, g5, g6, g7, g8, g9, g10, g11, g12, g13, g14⟩ := plB_parts h
  obtain ⟨p1, p2⟩ := isPr_range g0
  refine ⟨p1, p2, g1, g2, g3, g4, g5, g7, g8, fun i hi => (tagAt_parts (g10 i hi)).1, fun i hi => (tagAt_parts (g10 i hi)).2, fun i hi => g9 _ (getD_mem _ _ (by omega)), g11, g12, fun i hi => ?_, g0⟩
  have h1 := g13 i hi
  unfold heardAt bodyB at h1
  rw [Bool.and_eq_true] at h1
  have h2 : (hAt a.heard i).length = blen i := of_decide_eq_true h1.1
  exact ⟨h2, fun j hj => (allB_iff _ _ _).1 h1.2 _ (getD_mem _ _ (by omega))⟩
theorem mkI_rng {a : Pl} (h : PlN a) : 0 ≤ mkI a ∧ mkI a ≤ a.P - 1 := emod_rng _ _ (by have := h.p1; omega)
theorem f0_rng {a : Pl} (h : PlN a) (hs : 1 ≤ a.step) : 0 ≤ f0 a ∧ f0 a ≤ a.P - 1 := by
  unfold f0; split
  · exact mkI_rng h
  · exact (h.hb 0 (by have := h.hl; omega)).2 0 (by decide)
theorem f1_rng {a : Pl} (h : PlN a) (hs : 1 ≤ a.step) : 0 ≤ f1 a ∧ f1 a ≤ a.P - 1 := by
  unfold f1; split
  · exact (h.hb 0 (by have := h.hl; omega)).2 0 (by decide)
  · exact mkI_rng h
theorem dI_rng {a : Pl} (h : PlN a) : 0 ≤ dI a ∧ dI a ≤ a.P - 1 := emod_rng _ _ (by have := h.p1; omega)
theorem eI_rng {a : Pl} (h : PlN a) : 0 ≤ eI a ∧ eI a ≤ a.P - 1 := emod_rng _ _ (by have := h.p1; omega)
theorem PlR.hd {w : World} {x : PlX} {a : Pl} (h : PlR w x a.shares a.keys a.heard) (i : Nat) (hi : i < a.heard.length) :
    x.hn = a.heard.length ∧ ∃ (g o : Nat) (r : RowD), x.ha = some ⟨g, o, none⟩ ∧ w.cell? ⟨g, o + i, none⟩ = some (.slice r.1 r.2.2.length r.2.1) ∧ Ints w r.1 r.2.2.length r.2.1 r.2.2 ∧ r.2.2 = hAt a.heard i := by
  obtain ⟨_, _, rs, hH, hD⟩ := h
  have h1 := hH.len
  have h2 : rs.length = a.heard.length := by rw [← hD, datas_len]
  obtain ⟨g, o, e1, e2, e3⟩ := hH.at i (by omega)
  exact ⟨by omega, g, o, _, e1, e2, e3, (hAt_rs hD i (by omega)).symm⟩
end Go.Proofs.YtlmdckcohoddnaaDoor
namespace Go.Proofs.YtlmdckcohoddnaaDoor
open Go.RowKit
theorem em {p x y : Int} (k : Int) (h : x = y + p * k) : x % p = y % p := by rw [h]; exact Int.add_mul_emod_self_left y p k
theorem PlN.party01 {a : Pl} (h : PlN a) : a.party = 0 ∨ a.party = 1 := by have := h.pa; omega
def shfV (a : Pl) (v k : Int) : Int := if a.party = 0 then (v + k) % a.P else v
def mvd (a : Pl) (key k : Int) : Int := (if a.party = 1 then key - k * a.delta else key) % a.P
theorem shfV_rng {a : Pl} (h : PlN a) (v k : Int) (hv : 0 ≤ v ∧ v ≤ a.P - 1) : 0 ≤ shfV a v k ∧ shfV a v k ≤ a.P - 1 := by
  unfold shfV; split
  · exact emod_rng _ _ (by have := h.p1; omega)
  · exact hv
theorem mvd_rng {a : Pl} (h : PlN a) (key k : Int) : 0 ≤ mvd a key k ∧ mvd a key k ≤ a.P - 1 := emod_rng _ _ (by have := h.p1; omega)
theorem seV0_eq {a : Pl} (h : PlN a) : (shfV a (shV a 0) (f0 a) + (a.P - 1) * shV a 2) % a.P = seV0 a := by
  unfold seV0 shfV cmb mor
  rcases h.party01 with e | e
  · rw [if_pos e, if_neg (by omega), Int.emod_def (shV a 0 + f0 a) a.P]
    generalize (shV a 0 + f0 a) / a.P = q
    exact em (shV a 2 - q) (by grind)
  · rw [if_neg (by omega), if_pos e]
    exact em (shV a 2) (by grind)
theorem seT0_eq {a : Pl} : (shT a 0 + (a.P - 1) * shT a 2) % a.P = seT0 a := em (shT a 2) (by grind)
theorem seV1_eq {a : Pl} (h : PlN a) : (shfV a (shV a 1) (f1 a) + (a.P - 1) * shV a 3) % a.P = seV1 a := by
  unfold seV1 shfV cmb mor
  rcases h.party01 with e | e
  · rw [if_pos e, if_neg (by omega), Int.emod_def (shV a 1 + f1 a) a.P]
    generalize (shV a 1 + f1 a) / a.P = q
    exact em (shV a 3 - q) (by grind)
  · rw [if_neg (by omega), if_pos e]
    exact em (shV a 3) (by grind)
theorem seT1_eq {a : Pl} : (shT a 1 + (a.P - 1) * shT a 3) % a.P = seT1 a := em (shT a 3) (by grind)
theorem thT_eq {a : Pl} : ((shT a 4 + dI a * shT a 3) % a.P + eI a * shT a 2) % a.P = thT a := by
  unfold thT cmb
  rw [Int.emod_def (shT a 4 + dI a * shT a 3) a.P]
  generalize (shT a 4 + dI a * shT a 3) / a.P = q
  exact em (-q) (by grind)
theorem thV_eq {a : Pl} (h : PlN a) : shfV a (((shV a 4 + dI a * shV a 3) % a.P + eI a * shV a 2) % a.P) (dI a * eI a % a.P) = thV a := by
  unfold thV shfV cmb mor
  rw [Int.emod_def (shV a 4 + dI a * shV a 3) a.P]
  generalize (shV a 4 + dI a * shV a 3) / a.P = q
  rcases h.party01 with e | e
  · rw [if_pos e, if_neg (by omega), Int.emod_def (shV a 4 + dI a * shV a 3 - a.P * q + eI a * shV a 2) a.P, Int.emod_def (dI a * eI a) a.P]
    generalize (shV a 4 + dI a * shV a 3 - a.P * q + eI a * shV a 2) / a.P = q2
    generalize (dI a * eI a) / a.P = q3
    exact em (-q - q2 - q3) (by grind)
  · rw [if_neg (by omega), if_pos e]
    exact em (-q) (by grind)
theorem key0_eq {a : Pl} (h : PlN a) (hs : 1 ≤ a.step) : (mvd a (kyI a 0) (f0 a) - kyI a 2) % a.P = keyT a 1 0 (-1) 0 0 (f0 a) := by
  have hf := f0_rng h hs
  unfold mvd keyT cmb
  rw [Int.emod_eq_of_lt hf.1 (by omega)]
  rcases h.party01 with e | e
  · rw [if_neg (by omega), if_neg (by omega), Int.emod_def (kyI a 0) a.P]
    generalize kyI a 0 / a.P = q
    exact em (-q) (by grind)
  · rw [if_pos e, if_pos e, Int.emod_def (kyI a 0 - f0 a * a.delta) a.P]
    generalize (kyI a 0 - f0 a * a.delta) / a.P = q
    exact em (-q) (by grind)
theorem key1_eq {a : Pl} (h : PlN a) (hs : 1 ≤ a.step) : (mvd a (kyI a 1) (f1 a) - kyI a 3) % a.P = keyT a 0 1 0 (-1) 0 (f1 a) := by
  have hf := f1_rng h hs
  unfold mvd keyT cmb
  rw [Int.emod_eq_of_lt hf.1 (by omega)]
  rcases h.party01 with e | e
  · rw [if_neg (by omega), if_neg (by omega), Int.emod_def (kyI a 1) a.P]
    generalize kyI a 1 / a.P = q
    exact em (-q) (by grind)
  · rw [if_pos e, if_pos e, Int.emod_def (kyI a 1 - f1 a * a.delta) a.P]
    generalize (kyI a 1 - f1 a * a.delta) / a.P = q
    exact em (-q) (by grind)
theorem key2_eq {a : Pl} (h : PlN a) : mvd a (kyI a 4 + dI a * kyI a 3 + eI a * kyI a 2) (dI a * eI a % a.P) = keyT a 0 0 (eI a) (dI a) 1 (dI a * eI a) := by
  unfold mvd keyT cmb
  rcases h.party01 with e | e
  · rw [if_neg (by omega), if_neg (by omega)]
    exact em 0 (by grind)
  · rw [if_pos e, if_pos e]
    exact em 0 (by grind)
end Go.Proofs.YtlmdckcohoddnaaDoor
