/- Players: which are valid, by the reference. -/
import Derived.Test.YtlmdckcohoddnaaDoorIsPl
namespace Go.Proofs.YtlmdckcohoddnaaDoor
open Go.RowKit
set_option maxHeartbeats 4000000 in
theorem ptLength_any (i : Nat) (w : World) (hi : i < 3) :
    Calls Tryd.prog 88 #[.int .i64 i] w fun e w' => e = .returned (.int .i64 (blen i)) ∧ Below w.heap.size w w' := by
  have : i = 0 ∨ i = 1 ∨ i = 2 := by omega
  rcases this with rfl | rfl | rfl
  all_goals
    go_enter Tryd.func88, Tryd.ntmps88
    go_wp2
    go_ret
    exact ⟨rfl, (Below.refl _ _).alloc (Nat.le_refl _) _⟩
theorem bitB_in (x : Int) : bitB x = inB x 0 1 := rfl
set_option maxHeartbeats 16000000 in
set_option maxRecDepth 100000 in
theorem ptGood_any (a : Pl) (x : PlX) (w : World) (h : PlR w x a.shares a.keys a.heard) :
    Calls Tryd.prog 55 #[.agg #[.int .i64 a.P, .int .i64 a.party, .int .i64 a.input, .int .i64 a.mask, .int .i64 a.delta, .slice x.sa x.sn x.sc, .slice x.ka x.kn x.kc, .int .i64 a.step, .slice x.ha x.hn x.hc, .int .i64 a.status, .int .i64 a.out]] w fun e w' => e = .returned (.bool (plB a)) ∧ Below w.heap.size w w' := by
  obtain ⟨P, pa, ip, mk, de, S, K, st, H, ss, ou⟩ := a
  obtain ⟨sa, sn, sc, ka, kn, kc, ha, hn, hc⟩ := x
  obtain ⟨hS, hK, rs, hH, hD⟩ := h
  unfold plB
  dsimp only at *
  have hSl := hS.len
  have hKl := hK.len
  have hHl := hH.len
  have hHd : rs.length = H.length := by rw [← hD, datas_len]
  have hsn := hS.le
  have hkn := hK.le
  have hhn := hH.le
  have hKL := Lib.hid hKl
  have hHL := Lib.hid hHl
  have HD := Lib.hid hD
  have e10 : Hid (decide (S.length = 10) = decide (sn = 5)) := Lib.hid (by rw [hSl, decide_eq_decide]; omega)
  have eK : Hid (decide (K.length = 5) = decide (kn = 5)) := Lib.hid (by rw [hKl])
  have eH : Hid ((decide ((H.length : Int) = st)) = decide ((hn : Int) = st)) := Lib.hid (by rw [← hHd, hHl])
  have eHB : Hid (H.length = hn) := Lib.hid (by rw [← hHd, hHl])
  rw [e10.out, eK.out, eH.out, eHB.out]
  have C0 := fun (W : World) (b : Option Addr) (hh : Ints W b 4 4 [ip, mk, de, ou]) => fpIn_any P b 4 4 [ip, mk, de, ou] W hh
  have F0 : elsB P [ip, mk, de, ou] = true → isPr P = true := fun h => (elsB_pr h).1
  have C1 := fun (W : World) => l1In_any pa 0 1 W
  rw [← bitB_in] at C1
  have C5 := fun (W : World) (hh : Ints W ka kn kc K) => l1All_any ka kn kc K 0 (P - 1) W hh
  have C7 := fun (W : World) => l1In_any st 0 3 W
  have F7 : inB st 0 3 = true → 0 ≤ st ∧ st ≤ 3 := fun h => inB_true h
  clear hSl hKl hHl hHd hD
  generalize elsB P [ip, mk, de, ou] = b0 at *
  generalize bitB pa = b1 at *
  generalize allB K 0 (P - 1) = b5 at *
  generalize hb6 : tagsB P S 5 = b6
  generalize inB st 0 3 = b7 at *
  generalize hb2 : (!decide (de = 0)) = b2
  generalize hb3 : decide (sn = 5) = b3
  generalize hb4 : decide (kn = 5) = b4
  generalize hb8 : decide ((hn : Int) = st) = b8
  have HB2 := Lib.hid hb2
  have HB3 := Lib.hid hb3
  have HB4 := Lib.hid hb4
  have HB6 := Lib.hid hb6
  have HB8 := Lib.hid hb8
  clear hb2 hb3 hb4 hb6 hb8 e10 eK eH eHB
  replace C0 := Lib.hid C0
  replace F0 := Lib.hid F0
  replace C1 := Lib.hid C1
  replace C5 := Lib.hid C5
  replace C7 := Lib.hid C7
  replace F7 := Lib.hid F7


  have hI : Ints ((w.alloc (.cells #[.int .i64 P, .int .i64 pa, .int .i64 ip, .int .i64 mk, .int .i64 de, .slice sa sn sc, .slice ka kn kc, .int .i64 st, .slice ha hn hc, .int .i64 ss, .int .i64 ou] 31)).alloc (.cells #[.int .i64 ip, .int .i64 mk, .int .i64 de, .int .i64 ou] 3)) (some ⟨w.heap.size + 1, 0, none⟩) 4 4 [ip, mk, de, ou] := by simpa using Ints.lit (w.alloc (.cells #[.int .i64 P, .int .i64 pa, .int .i64 ip, .int .i64 mk, .int .i64 de, .slice sa sn sc, .slice ka kn kc, .int .i64 st, .slice ha hn hc, .int .i64 ss, .int .i64 ou] 31)) [ip, mk, de, ou] 3 (by simp [maxLen])
  go_enter Tryd.func55, Tryd.ntmps55
  go_wp2_with fail
  have V_w1'_1 : Below w.heap.size w (w.alloc (.cells #[.int .i64 P, .int .i64 pa, .int .i64 ip, .int .i64 mk, .int .i64 de, .slice sa sn sc, .slice ka kn kc, .int .i64 st, .slice ha hn hc, .int .i64 ss, .int .i64 ou] 31)) := ((Below.refl w.heap.size w)).alloc (by have := ((Below.refl w.heap.size w)).size; first | exact this | (simp at *; omega)) _
  replace hS := hS.alloc (.cells #[.int .i64 P, .int .i64 pa, .int .i64 ip, .int .i64 mk, .int .i64 de, .slice sa sn sc, .slice ka kn kc, .int .i64 st, .slice ha hn hc, .int .i64 ss, .int .i64 ou] 31)
  replace hK := hK.alloc (.cells #[.int .i64 P, .int .i64 pa, .int .i64 ip, .int .i64 mk, .int .i64 de, .slice sa sn sc, .slice ka kn kc, .int .i64 st, .slice ha hn hc, .int .i64 ss, .int .i64 ou] 31)
  replace hH := hH.alloc (.cells #[.int .i64 P, .int .i64 pa, .int .i64 ip, .int .i64 mk, .int .i64 de, .slice sa sn sc, .slice ka kn kc, .int .i64 st, .slice ha hn hc, .int .i64 ss, .int .i64 ou] 31)
  have B_a : Blk (w.alloc (.cells #[.int .i64 P, .int .i64 pa, .int .i64 ip, .int .i64 mk, .int .i64 de, .slice sa sn sc, .slice ka kn kc, .int .i64 st, .slice ha hn hc, .int .i64 ss, .int .i64 ou] 31)) (w.heap.size) 31 #[.int .i64 P, .int .i64 pa, .int .i64 ip, .int .i64 mk, .int .i64 de, .slice sa sn sc, .slice ka kn kc, .int .i64 st, .slice ha hn hc, .int .i64 ss, .int .i64 ou] := by exact Blk.new w 31 #[.int .i64 P, .int .i64 pa, .int .i64 ip, .int .i64 mk, .int .i64 de, .slice sa sn sc, .slice ka kn kc, .int .i64 st, .slice ha hn hc, .int .i64 ss, .int .i64 ou]
  have V_w1'_2 : Below w.heap.size w ((w.alloc (.cells #[.int .i64 P, .int .i64 pa, .int .i64 ip, .int .i64 mk, .int .i64 de, .slice sa sn sc, .slice ka kn kc, .int .i64 st, .slice ha hn hc, .int .i64 ss, .int .i64 ou] 31)).alloc (.cells #[.int .i64 ip, .int .i64 mk, .int .i64 de, .int .i64 ou] 3)) := (V_w1'_1).alloc (by have := (V_w1'_1).size; first | exact this | (simp at *; omega)) _
  replace B_a := B_a.alloc (.cells #[.int .i64 ip, .int .i64 mk, .int .i64 de, .int .i64 ou] 3)
  replace hS := hS.alloc (.cells #[.int .i64 ip, .int .i64 mk, .int .i64 de, .int .i64 ou] 3)
  replace hK := hK.alloc (.cells #[.int .i64 ip, .int .i64 mk, .int .i64 de, .int .i64 ou] 3)
  replace hH := hH.alloc (.cells #[.int .i64 ip, .int .i64 mk, .int .i64 de, .int .i64 ou] 3)
  have B_l : Blk ((w.alloc (.cells #[.int .i64 P, .int .i64 pa, .int .i64 ip, .int .i64 mk, .int .i64 de, .slice sa sn sc, .slice ka kn kc, .int .i64 st, .slice ha hn hc, .int .i64 ss, .int .i64 ou] 31)).alloc (.cells #[.int .i64 ip, .int .i64 mk, .int .i64 de, .int .i64 ou] 3)) (w.heap.size + 1) 3 #[.int .i64 ip, .int .i64 mk, .int .i64 de, .int .i64 ou] := by simpa [World.setCell] using (Blk.new (w.alloc (.cells #[.int .i64 P, .int .i64 pa, .int .i64 ip, .int .i64 mk, .int .i64 de, .slice sa sn sc, .slice ka kn kc, .int .i64 st, .slice ha hn hc, .int .i64 ss, .int .i64 ou] 31)) 3 #[.int .i64 ip, .int .i64 mk, .int .i64 de, .int .i64 ou])
  have S_w1' : w.heap.size + 2 ≤ ((w.alloc (.cells #[.int .i64 P, .int .i64 pa, .int .i64 ip, .int .i64 mk, .int .i64 de, .slice sa sn sc, .slice ka kn kc, .int .i64 st, .slice ha hn hc, .int .i64 ss, .int .i64 ou] 31)).alloc (.cells #[.int .i64 ip, .int .i64 mk, .int .i64 de, .int .i64 ou] 3)).heap.size := by first | (simp; done) | (simp; omega) | (simp [World.setCell]; done) | (simp [World.setCell]; omega)
  generalize ((w.alloc (.cells #[.int .i64 P, .int .i64 pa, .int .i64 ip, .int .i64 mk, .int .i64 de, .slice sa sn sc, .slice ka kn kc, .int .i64 st, .slice ha hn hc, .int .i64 ss, .int .i64 ou] 31)).alloc (.cells #[.int .i64 ip, .int .i64 mk, .int .i64 de, .int .i64 ou] 3)) = w1' at *
  clear V_w1'_1
  have V_w1' : Below w.heap.size w w1' := V_w1'_2
  clear V_w1'_2
  refine (C0.out _ _ hI).mono ?_; rintro e wk ⟨rfl, qm⟩
  have um := below_of_quiet qm
  clear qm hI C0
  replace B_a := B_a.below um
  replace B_l := B_l.below um
  replace hS := hS.below um
  replace hK := hK.below um
  replace hH := hH.below um
  have S_wk := um.size
  have V_wk : Below w.heap.size w wk := V_w1'.trans (um.mono V_w1'.size)
  clear V_w1'
  clear um
  cases b0
  · go_wp2
    go_ret
    exact ⟨rfl, V_wk⟩
  have hpr := F0.out rfl
  obtain ⟨p1, p2⟩ := isPr_range hpr
  cases b2
  · have d1 : ((de == 0) : Bool) = true := by simpa using HB2.out

    have e_a_0 : wk.cell? ⟨w.heap.size, 0, none⟩ = some (.int .i64 P) := B_a.cell 0
    have e_a_1 : wk.cell? ⟨w.heap.size, 1, none⟩ = some (.int .i64 pa) := B_a.cell 1
    have e_a_2 : wk.cell? ⟨w.heap.size, 2, none⟩ = some (.int .i64 ip) := B_a.cell 2
    have e_a_3 : wk.cell? ⟨w.heap.size, 3, none⟩ = some (.int .i64 mk) := B_a.cell 3
    have e_a_4 : wk.cell? ⟨w.heap.size, 4, none⟩ = some (.int .i64 de) := B_a.cell 4
    have e_a_5 : wk.cell? ⟨w.heap.size, 5, none⟩ = some (.slice sa sn sc) := B_a.cell 5
    have e_a_6 : wk.cell? ⟨w.heap.size, 6, none⟩ = some (.slice ka kn kc) := B_a.cell 6
    have e_a_7 : wk.cell? ⟨w.heap.size, 7, none⟩ = some (.int .i64 st) := B_a.cell 7
    have e_a_8 : wk.cell? ⟨w.heap.size, 8, none⟩ = some (.slice ha hn hc) := B_a.cell 8
    have e_a_9 : wk.cell? ⟨w.heap.size, 9, none⟩ = some (.int .i64 ss) := B_a.cell 9
    have e_a_10 : wk.cell? ⟨w.heap.size, 10, none⟩ = some (.int .i64 ou) := B_a.cell 10
    go_wp2
    go_ret
    exact ⟨ret_bool (by cases b1 <;> rfl), V_wk⟩

  have d1 : ((de == 0) : Bool) = false := by simpa using HB2.out
  have e_a_0 : wk.cell? ⟨w.heap.size, 0, none⟩ = some (.int .i64 P) := B_a.cell 0
  have e_a_1 : wk.cell? ⟨w.heap.size, 1, none⟩ = some (.int .i64 pa) := B_a.cell 1
  have e_a_2 : wk.cell? ⟨w.heap.size, 2, none⟩ = some (.int .i64 ip) := B_a.cell 2
  have e_a_3 : wk.cell? ⟨w.heap.size, 3, none⟩ = some (.int .i64 mk) := B_a.cell 3
  have e_a_4 : wk.cell? ⟨w.heap.size, 4, none⟩ = some (.int .i64 de) := B_a.cell 4
  have e_a_5 : wk.cell? ⟨w.heap.size, 5, none⟩ = some (.slice sa sn sc) := B_a.cell 5
  have e_a_6 : wk.cell? ⟨w.heap.size, 6, none⟩ = some (.slice ka kn kc) := B_a.cell 6
  have e_a_7 : wk.cell? ⟨w.heap.size, 7, none⟩ = some (.int .i64 st) := B_a.cell 7
  have e_a_8 : wk.cell? ⟨w.heap.size, 8, none⟩ = some (.slice ha hn hc) := B_a.cell 8
  have e_a_9 : wk.cell? ⟨w.heap.size, 9, none⟩ = some (.int .i64 ss) := B_a.cell 9
  have e_a_10 : wk.cell? ⟨w.heap.size, 10, none⟩ = some (.int .i64 ou) := B_a.cell 10
  go_wp2_with fail
  refine (C1.out _).mono ?_; rintro e w' ⟨rfl, rfl⟩
  cases b1
  · go_wp2
    go_ret
    exact ⟨rfl, V_wk⟩
  clear e_a_0 e_a_1 e_a_2 e_a_3 e_a_4 e_a_5 e_a_6 e_a_7 e_a_8 e_a_9 e_a_10
  cases b3
  · have d5 : (((sn : Int) != 5) : Bool) = true := by have := HB3.out; simp at this; simp; omega

    have e_a_0 : wk.cell? ⟨w.heap.size, 0, none⟩ = some (.int .i64 P) := B_a.cell 0
    have e_a_1 : wk.cell? ⟨w.heap.size, 1, none⟩ = some (.int .i64 pa) := B_a.cell 1
    have e_a_2 : wk.cell? ⟨w.heap.size, 2, none⟩ = some (.int .i64 ip) := B_a.cell 2
    have e_a_3 : wk.cell? ⟨w.heap.size, 3, none⟩ = some (.int .i64 mk) := B_a.cell 3
    have e_a_4 : wk.cell? ⟨w.heap.size, 4, none⟩ = some (.int .i64 de) := B_a.cell 4
    have e_a_5 : wk.cell? ⟨w.heap.size, 5, none⟩ = some (.slice sa sn sc) := B_a.cell 5
    have e_a_6 : wk.cell? ⟨w.heap.size, 6, none⟩ = some (.slice ka kn kc) := B_a.cell 6
    have e_a_7 : wk.cell? ⟨w.heap.size, 7, none⟩ = some (.int .i64 st) := B_a.cell 7
    have e_a_8 : wk.cell? ⟨w.heap.size, 8, none⟩ = some (.slice ha hn hc) := B_a.cell 8
    have e_a_9 : wk.cell? ⟨w.heap.size, 9, none⟩ = some (.int .i64 ss) := B_a.cell 9
    have e_a_10 : wk.cell? ⟨w.heap.size, 10, none⟩ = some (.int .i64 ou) := B_a.cell 10
    go_wp2
    go_ret
    exact ⟨rfl, V_wk⟩

  have hs5 : sn = 5 := by simpa using HB3.out
  have d6 : (((sn : Int) != 5) : Bool) = false := by simp; omega
  replace hs5 := Lib.hid hs5
  cases b4
  · have d5 : (((kn : Int) != 5) : Bool) = true := by have := HB4.out; simp at this; simp; omega

    have e_a_0 : wk.cell? ⟨w.heap.size, 0, none⟩ = some (.int .i64 P) := B_a.cell 0
    have e_a_1 : wk.cell? ⟨w.heap.size, 1, none⟩ = some (.int .i64 pa) := B_a.cell 1
    have e_a_2 : wk.cell? ⟨w.heap.size, 2, none⟩ = some (.int .i64 ip) := B_a.cell 2
    have e_a_3 : wk.cell? ⟨w.heap.size, 3, none⟩ = some (.int .i64 mk) := B_a.cell 3
    have e_a_4 : wk.cell? ⟨w.heap.size, 4, none⟩ = some (.int .i64 de) := B_a.cell 4
    have e_a_5 : wk.cell? ⟨w.heap.size, 5, none⟩ = some (.slice sa sn sc) := B_a.cell 5
    have e_a_6 : wk.cell? ⟨w.heap.size, 6, none⟩ = some (.slice ka kn kc) := B_a.cell 6
    have e_a_7 : wk.cell? ⟨w.heap.size, 7, none⟩ = some (.int .i64 st) := B_a.cell 7
    have e_a_8 : wk.cell? ⟨w.heap.size, 8, none⟩ = some (.slice ha hn hc) := B_a.cell 8
    have e_a_9 : wk.cell? ⟨w.heap.size, 9, none⟩ = some (.int .i64 ss) := B_a.cell 9
    have e_a_10 : wk.cell? ⟨w.heap.size, 10, none⟩ = some (.int .i64 ou) := B_a.cell 10
    go_wp2
    go_ret
    exact ⟨rfl, V_wk⟩

  have d7 : (((kn : Int) != 5) : Bool) = false := by have := HB4.out; simp at this; simp; omega
  have e_a_0 : wk.cell? ⟨w.heap.size, 0, none⟩ = some (.int .i64 P) := B_a.cell 0
  have e_a_1 : wk.cell? ⟨w.heap.size, 1, none⟩ = some (.int .i64 pa) := B_a.cell 1
  have e_a_2 : wk.cell? ⟨w.heap.size, 2, none⟩ = some (.int .i64 ip) := B_a.cell 2
  have e_a_3 : wk.cell? ⟨w.heap.size, 3, none⟩ = some (.int .i64 mk) := B_a.cell 3
  have e_a_4 : wk.cell? ⟨w.heap.size, 4, none⟩ = some (.int .i64 de) := B_a.cell 4
  have e_a_5 : wk.cell? ⟨w.heap.size, 5, none⟩ = some (.slice sa sn sc) := B_a.cell 5
  have e_a_6 : wk.cell? ⟨w.heap.size, 6, none⟩ = some (.slice ka kn kc) := B_a.cell 6
  have e_a_7 : wk.cell? ⟨w.heap.size, 7, none⟩ = some (.int .i64 st) := B_a.cell 7
  have e_a_8 : wk.cell? ⟨w.heap.size, 8, none⟩ = some (.slice ha hn hc) := B_a.cell 8
  have e_a_9 : wk.cell? ⟨w.heap.size, 9, none⟩ = some (.int .i64 ss) := B_a.cell 9
  have e_a_10 : wk.cell? ⟨w.heap.size, 10, none⟩ = some (.int .i64 ou) := B_a.cell 10
  go_wp2_with fail
  clear e_a_0 e_a_1 e_a_2 e_a_3 e_a_4 e_a_5 e_a_6 e_a_7 e_a_8 e_a_9 e_a_10
  refine (C5.out _ hK).mono ?_; rintro e wm ⟨rfl, qm⟩
  have um := below_of_quiet qm
  clear qm
  replace B_a := B_a.below um
  replace B_l := B_l.below um
  replace hS := hS.below um
  replace hK := hK.below um
  replace hH := hH.below um
  have S_wm := um.size
  have V_wm : Below w.heap.size w wm := V_wk.trans (um.mono V_wk.size)
  clear V_wk
  clear um
  cases b5
  · go_wp2
    go_ret
    exact ⟨rfl, V_wm⟩
  have e_a_0 : wm.cell? ⟨w.heap.size, 0, none⟩ = some (.int .i64 P) := B_a.cell 0
  have e_a_1 : wm.cell? ⟨w.heap.size, 1, none⟩ = some (.int .i64 pa) := B_a.cell 1
  have e_a_2 : wm.cell? ⟨w.heap.size, 2, none⟩ = some (.int .i64 ip) := B_a.cell 2
  have e_a_3 : wm.cell? ⟨w.heap.size, 3, none⟩ = some (.int .i64 mk) := B_a.cell 3
  have e_a_4 : wm.cell? ⟨w.heap.size, 4, none⟩ = some (.int .i64 de) := B_a.cell 4
  have e_a_5 : wm.cell? ⟨w.heap.size, 5, none⟩ = some (.slice sa sn sc) := B_a.cell 5
  have e_a_6 : wm.cell? ⟨w.heap.size, 6, none⟩ = some (.slice ka kn kc) := B_a.cell 6
  have e_a_7 : wm.cell? ⟨w.heap.size, 7, none⟩ = some (.int .i64 st) := B_a.cell 7
  have e_a_8 : wm.cell? ⟨w.heap.size, 8, none⟩ = some (.slice ha hn hc) := B_a.cell 8
  have e_a_9 : wm.cell? ⟨w.heap.size, 9, none⟩ = some (.int .i64 ss) := B_a.cell 9
  have e_a_10 : wm.cell? ⟨w.heap.size, 10, none⟩ = some (.int .i64 ou) := B_a.cell 10
  go_wp2_with fail
  refine (C7.out _).mono ?_; rintro e w' ⟨rfl, rfl⟩
  cases b7
  · go_wp2
    go_ret
    exact ⟨ret_bool (by cases b6 <;> rfl), V_wm⟩
  have hst := F7.out rfl
  cases b8
  · have d5 : (((hn : Int) != st) : Bool) = true := by have := HB8.out; simp at this; simp; omega

    go_wp2
    go_ret
    exact ⟨ret_bool (by cases b6 <;> rfl), V_wm⟩

  have d3 : (hn : Int) = st := by simpa using HB8.out
  have d4 : (((hn : Int) != st) : Bool) = false := by simp; omega
  have hn3 : hn ≤ 3 := by omega
  have D3 := Lib.hid d3
  clear d3
  go_wp2
  clear e_a_0 e_a_1 e_a_2 e_a_3 e_a_4 e_a_5 e_a_6 e_a_7 e_a_8 e_a_9 e_a_10
  have hs5' : sn ≤ 5 := by rw [hs5.out]; exact Nat.le_refl _
  go_loopw [69] (fun v wr => ∃ i : Nat, i ≤ sn ∧ v = .int .i64 i ∧ (∀ j, j < i → tagAt P S j = true) ∧ Below wm.heap.size wm wr) (fun v _ => sn - (intOf v).toNat)
  case atStart => exact ⟨0, Nat.zero_le _, rfl, fun j hj => absurd hj (by omega), Below.refl _ _⟩
  case round =>
    obtain ⟨i, hi, rfl, hj, hbel⟩ := hrel
    have HJ := Lib.hid hj
    clear hj
    obtain ⟨wo, hwo⟩ : ∃ wo, wo = wr := ⟨_, rfl⟩
    subst hwo
    have B_a := B_a.below hbel
    have B_l := B_l.below hbel
    have hS := hS.below hbel
    have hK := hK.below hbel
    have hH := hH.below hbel
    have V_wo := V_wm.trans (hbel.mono V_wm.size)
    have S_wo := hbel.size
    by_cases hlt : i < sn
    · skip

      have hlt' : (i : Int) < (sn : Int) := by omega
      obtain ⟨g, o, rfl, hc⟩ := hS.at (by omega)
      have c0 : wo.cell? ⟨g, o + i * 2, none⟩ = some (.int .i64 (S.getD (i * 2) 0)) := hc _ (by omega)
      have c1 : wo.cell? ⟨g, o + i * 2 + 1, none⟩ = some (.int .i64 (S.getD (i * 2 + 1) 0)) := by have := hc (i * 2 + 1) (by omega); simpa only [Nat.add_assoc] using this
      have Hat : Hid (tagAt P S i = tagB P (S.getD (i * 2) 0) (S.getD (i * 2 + 1) 0)) := Lib.hid rfl
      have CB := fun (W : World) => tgGood_any P (S.getD (i * 2) 0) (S.getD (i * 2 + 1) 0) W
      generalize S.getD (i * 2) 0 = x0 at *
      generalize S.getD (i * 2 + 1) 0 = x1 at *
      generalize tagB P x0 x1 = tb at *
      replace CB := Lib.hid CB
      clear hc
      have e_a_0 : wo.cell? ⟨w.heap.size, 0, none⟩ = some (.int .i64 P) := B_a.cell 0
      have e_a_0' : (wo.alloc (.cells #[.int .i64 x0, .int .i64 x1] 81)).cell? ⟨w.heap.size, 0, none⟩ = some (.int .i64 P) := keepA _ e_a_0
      have V9 : Below wo.heap.size wo (wo.alloc (.cells #[.int .i64 x0, .int .i64 x1] 81)) := (Below.refl _ _).alloc (Nat.le_refl _) _
      go_wp2_with fail
      refine (CB.out _).mono ?_; rintro e w9 ⟨rfl, u9⟩
      replace u9 := V9.trans (u9.mono V9.size)
      have hbel9 := hbel.trans (u9.mono hbel.size)
      clear e_a_0
      clear e_a_0' V9 c0 c1 CB
      replace B_a := B_a.below u9
      replace B_l := B_l.below u9
      replace hS := hS.below u9
      replace hK := hK.below u9
      replace hH := hH.below u9
      have S_w9 := u9.size
      have V_w9 : Below w.heap.size w w9 := V_wo.trans (u9.mono V_wo.size)
      clear V_wo
      clear u9
      cases tb
      · have HB : b6 = false := by rw [← HB6.out, ← hs5.out]; exact rangeAll_no (q := tagAt P S) hlt Hat.out
        subst HB
        go_wp2
        go_ret
        exact ⟨rfl, V_w9⟩
      · go_wp2
        go_roundw
        case rel => exact ⟨i + 1, by omega, by go_num, fun j hj => by
          by_cases e : j = i
          · subst e; exact Hat.out
          · exact HJ.out j (by omega), hbel9⟩
        case measure => simp [intOf]; omega

    · obtain rfl : sn = i := by omega
      have HB : b6 = true := by rw [← HB6.out, ← hs5.out]; exact rangeAll_yes (q := tagAt P S) (fun j hj => HJ.out j hj)
      subst HB
      clear HJ hlt
      have e_a_0 : wo.cell? ⟨w.heap.size, 0, none⟩ = some (.int .i64 P) := B_a.cell 0
      have e_a_1 : wo.cell? ⟨w.heap.size, 1, none⟩ = some (.int .i64 pa) := B_a.cell 1
      have e_a_2 : wo.cell? ⟨w.heap.size, 2, none⟩ = some (.int .i64 ip) := B_a.cell 2
      have e_a_3 : wo.cell? ⟨w.heap.size, 3, none⟩ = some (.int .i64 mk) := B_a.cell 3
      have e_a_4 : wo.cell? ⟨w.heap.size, 4, none⟩ = some (.int .i64 de) := B_a.cell 4
      have e_a_5 : wo.cell? ⟨w.heap.size, 5, none⟩ = some (.slice sa sn sc) := B_a.cell 5
      have e_a_6 : wo.cell? ⟨w.heap.size, 6, none⟩ = some (.slice ka kn kc) := B_a.cell 6
      have e_a_7 : wo.cell? ⟨w.heap.size, 7, none⟩ = some (.int .i64 st) := B_a.cell 7
      have e_a_8 : wo.cell? ⟨w.heap.size, 8, none⟩ = some (.slice ha hn hc) := B_a.cell 8
      have e_a_9 : wo.cell? ⟨w.heap.size, 9, none⟩ = some (.int .i64 ss) := B_a.cell 9
      have e_a_10 : wo.cell? ⟨w.heap.size, 10, none⟩ = some (.int .i64 ou) := B_a.cell 10
      go_wp2
      clear e_a_0 e_a_1 e_a_2 e_a_3 e_a_4 e_a_5 e_a_6 e_a_7 e_a_8 e_a_9 e_a_10
      go_loopw [82] (fun v ws => ∃ i : Nat, i ≤ hn ∧ v = .int .i64 i ∧ (∀ j, j < i → heardAt P H j = true) ∧ Below wo.heap.size wo ws) (fun v _ => hn - (intOf v).toNat)
      case atStart => exact ⟨0, Nat.zero_le _, rfl, fun j hj => absurd hj (by omega), Below.refl _ _⟩
      case round =>
        obtain ⟨i, hi, rfl, hj, hbel2⟩ := hrel
        have HJ := Lib.hid hj
        clear hj
        have B_a := B_a.below hbel2
        have B_l := B_l.below hbel2
        have hS := hS.below hbel2
        have hK := hK.below hbel2
        have hH := hH.below hbel2
        have V_wr := V_wo.trans (hbel2.mono V_wo.size)
        have S_wr := hbel2.size
        by_cases hlt : i < hn
        · obtain ⟨g, o, rfl, c0, inn⟩ := hH.at i hlt
          have hat : hAt H i = (rowAt rs i).2.2 := hAt_rs HD.out i (by rw [hHL.out]; exact hlt)
          have bb := blen_bd i
          have Hat : Hid (heardAt P H i = (decide ((rowAt rs i).2.2.length = blen i) && allB (rowAt rs i).2.2 0 (P - 1))) := Lib.hid (by unfold heardAt bodyB; rw [hat])
          have CB := fun (W : World) (hh : Ints W (rowAt rs i).1 (rowAt rs i).2.2.length (rowAt rs i).2.1 (rowAt rs i).2.2) => l1All_any _ _ _ _ 0 (P - 1) W hh
          have hnr := inn.le
          generalize rowAt rs i = r at *
          obtain ⟨ra, rc, rl⟩ := r
          dsimp only at *
          generalize allB rl 0 (P - 1) = bb5 at *
          replace CB := Lib.hid CB
          clear hat
          have hlt' : (i : Int) < (hn : Int) := by omega
          have hi3 : (i : Int) < 3 := by omega
          have hRL : Hid (rl.length = rl.length) := Lib.hid rfl
          generalize rl.length = rn at *
          go_wp2_with fail
          refine (ptLength_any i _ (by omega)).mono ?_; rintro e w8 ⟨rfl, u8⟩
          have hbel8 := hbel2.trans (u8.mono hbel2.size)
          replace inn := inn.below u8

          clear c0
          replace B_a := B_a.below u8
          replace B_l := B_l.below u8
          replace hS := hS.below u8
          replace hK := hK.below u8
          replace hH := hH.below u8
          have S_w8 := u8.size
          have V_w8 : Below w.heap.size w w8 := V_wr.trans (u8.mono V_wr.size)
          clear V_wr
          clear u8
          by_cases d6 : rn = blen i
          · have d7 : (((rn : Int) != (blen i : Int)) : Bool) = false := by simp; omega
            have d9 : decide (rn = blen i) = true := decide_eq_true d6
            rw [d9, Bool.true_and] at Hat
            clear d9 d6
            have e_a_0 : w8.cell? ⟨w.heap.size, 0, none⟩ = some (.int .i64 P) := B_a.cell 0
            go_wp2_with fail
            clear e_a_0
            refine (CB.out _ inn).mono ?_; rintro e w9 ⟨rfl, qm⟩
            have u9 := below_of_quiet qm
            clear qm inn CB
            have hbel9 := hbel8.trans (u9.mono hbel8.size)

            replace B_a := B_a.below u9
            replace B_l := B_l.below u9
            replace hS := hS.below u9
            replace hK := hK.below u9
            replace hH := hH.below u9
            have S_w9 := u9.size
            have V_w9 : Below w.heap.size w w9 := V_w8.trans (u9.mono V_w8.size)
            clear V_w8
            clear u9
            cases bb5
            · have HB := Lib.hid (rangeAll_no (q := heardAt P H) hlt Hat.out)
              go_wp2
              go_ret
              exact ⟨by unfold heardB; rw [HB.out]; rfl, V_w9⟩
            · go_wp2
              go_roundw
              case rel => exact ⟨i + 1, by omega, by go_num, fun j hj => by
                by_cases e : j = i
                · subst e; exact Hat.out
                · exact HJ.out j (by omega), hbel9⟩
              case measure => simp [intOf]; omega

          · have d7 : (((rn : Int) != (blen i : Int)) : Bool) = true := by simp; omega
            have d9 : decide (rn = blen i) = false := decide_eq_false d6
            rw [d9, Bool.false_and] at Hat
            have HB := Lib.hid (rangeAll_no (q := heardAt P H) hlt Hat.out)
            clear d9 d6
            go_wp2
            go_ret
            exact ⟨by unfold heardB; rw [HB.out]; rfl, V_w8⟩

        · obtain rfl : hn = i := by omega
          have HB := Lib.hid (rangeAll_yes (q := heardAt P H) (n := hn) (fun j hj => HJ.out j hj))
          have HR : Hid ((heardB P H hn && endB st ss ou) = endB st ss ou) := Lib.hid (by unfold heardB; rw [HB.out]; rfl)
          clear HB hlt
          have e_a_0 : wr.cell? ⟨w.heap.size, 0, none⟩ = some (.int .i64 P) := B_a.cell 0
          have e_a_1 : wr.cell? ⟨w.heap.size, 1, none⟩ = some (.int .i64 pa) := B_a.cell 1
          have e_a_2 : wr.cell? ⟨w.heap.size, 2, none⟩ = some (.int .i64 ip) := B_a.cell 2
          have e_a_3 : wr.cell? ⟨w.heap.size, 3, none⟩ = some (.int .i64 mk) := B_a.cell 3
          have e_a_4 : wr.cell? ⟨w.heap.size, 4, none⟩ = some (.int .i64 de) := B_a.cell 4
          have e_a_5 : wr.cell? ⟨w.heap.size, 5, none⟩ = some (.slice sa sn sc) := B_a.cell 5
          have e_a_6 : wr.cell? ⟨w.heap.size, 6, none⟩ = some (.slice ka kn kc) := B_a.cell 6
          have e_a_7 : wr.cell? ⟨w.heap.size, 7, none⟩ = some (.int .i64 st) := B_a.cell 7
          have e_a_8 : wr.cell? ⟨w.heap.size, 8, none⟩ = some (.slice ha hn hc) := B_a.cell 8
          have e_a_9 : wr.cell? ⟨w.heap.size, 9, none⟩ = some (.int .i64 ss) := B_a.cell 9
          have e_a_10 : wr.cell? ⟨w.heap.size, 10, none⟩ = some (.int .i64 ou) := B_a.cell 10
          by_cases k3 : st = 3
          · have HE : Hid (endB st ss ou = decide (ss = 1)) := Lib.hid (by unfold endB; rw [if_pos k3])
            have k4 : ((st == 3) : Bool) = true := by simpa using k3
            clear k3
            go_wp2
            go_ret
            exact ⟨ret_bool (by show _ = (heardB P H hn && endB st ss ou); rw [HR.out, HE.out, Bool.eq_iff_iff]; simp), V_wr⟩
          · have HE : Hid (endB st ss ou = ((decide (ss = 0) || decide (ss = 2)) && decide (ou = 0))) := Lib.hid (by unfold endB; rw [if_neg k3])
            have k4 : ((st == 3) : Bool) = false := by simpa using k3
            clear k3
            by_cases s0 : ss = 0
            · subst s0

              go_wp2
              go_ret
              exact ⟨ret_bool (by show _ = (heardB P H hn && endB st 0 ou); rw [HR.out, HE.out, Bool.eq_iff_iff]; simp), V_wr⟩

            · have s1 : ((ss == 0) : Bool) = false := by simpa using s0
              have s3 : decide (ss = 0) = false := by simpa using s0
              rw [s3, Bool.false_or] at HE
              clear s3 s0
              by_cases s0 : ss = 2
              · subst s0

                go_wp2
                go_ret
                exact ⟨ret_bool (by show _ = (heardB P H hn && endB st 2 ou); rw [HR.out, HE.out, Bool.eq_iff_iff]; simp), V_wr⟩

              · have s2 : ((ss == 2) : Bool) = false := by simpa using s0
                have s3 : decide (ss = 2) = false := by simpa using s0
                rw [s3, Bool.false_and] at HE
                clear s3 s0

                go_wp2
                go_ret
                exact ⟨ret_bool (by show _ = (heardB P H hn && endB st ss ou); rw [HR.out, HE.out]), V_wr⟩

end Go.Proofs.YtlmdckcohoddnaaDoor
