/- Lemmas and walks that the claim's proof rests on, part 20. -/
import Derived.Test.YtlmdckcohoddnaaDoorK19
namespace Go.Proofs.YtlmdckcohoddnaaDoor
open Go.RowKit
def zPl : Pl := ⟨0, 0, 0, 0, 0, [], [], 0, [], 0, 0⟩
def zX : PlX := ⟨none, 0, 0, none, 0, 0, none, 0, 0⟩
theorem PlO.nilz (w : World) (b : Nat) : PlO w b zX [] [] [] [] := by
  refine ⟨OwnC.nil0 _ _ _ _ _, Own.nil0 _ _ _, [], OwnSS.nil0 _ _ _, rfl, ?_, ?_, ?_, ?_⟩
  · show Disj (foot none 0) _; rw [foot_zero]; exact Disj.nil_l _
  · show Disj (foot none 0) _; rw [foot_zero]; exact Disj.nil_l _
  · show Disj (foot none 0) _; rw [foot_zero]; exact Disj.nil_l _
  · simp [zX, foot_zero, feetSS_nil]
def dpB (p key x y : Int) : Bool := elB p x && (elB p y && inB key 0 1000000000)
def dpR (p key x y : Int) : Pl × Pl := if dpB p key x y then (dlP p key 0 x, dlP p key 1 y) else (zPl, zPl)
theorem elB_p {p x : Int} (h : elB p x = true) : 2 ≤ p ∧ p ≤ 251 := by
  unfold elB at h
  rw [Bool.and_eq_true] at h
  exact isPr_range h.1
theorem feet_apart {F F' : List Nat} {a b c d : Nat} (h : ∀ q ∈ F, a ≤ q ∧ q < b) (h' : ∀ q ∈ F', c ≤ q ∧ q < d) (hb : b ≤ c) : Disj F F' := fun q hq hq' => by
  have := (h q hq).2; have := (h' q hq').1; omega
set_option maxHeartbeats 16000000 in
set_option maxRecDepth 100000 in
theorem spec_DealPlayers_any (p key x z : Int) (w : World) :
    Calls Tryd.prog 32 #[.int .i64 p, .int .i64 key, .int .i64 x, .int .i64 z] w fun e w' => ∃ y F y' F', e = .returned (.tuple #[.agg #[.int .i64 (dpR p key x z).1.P, .int .i64 (dpR p key x z).1.party, .int .i64 (dpR p key x z).1.input, .int .i64 (dpR p key x z).1.mask, .int .i64 (dpR p key x z).1.delta, .slice y.sa y.sn y.sc, .slice y.ka y.kn y.kc, .int .i64 (dpR p key x z).1.step, .slice y.ha y.hn y.hc, .int .i64 (dpR p key x z).1.status, .int .i64 (dpR p key x z).1.out], .agg #[.int .i64 (dpR p key x z).2.P, .int .i64 (dpR p key x z).2.party, .int .i64 (dpR p key x z).2.input, .int .i64 (dpR p key x z).2.mask, .int .i64 (dpR p key x z).2.delta, .slice y'.sa y'.sn y'.sc, .slice y'.ka y'.kn y'.kc, .int .i64 (dpR p key x z).2.step, .slice y'.ha y'.hn y'.hc, .int .i64 (dpR p key x z).2.status, .int .i64 (dpR p key x z).2.out], .bool (dpB p key x z)]) ∧ PlO w' w.heap.size y (dpR p key x z).1.shares (dpR p key x z).1.keys (dpR p key x z).1.heard F ∧ PlO w' w.heap.size y' (dpR p key x z).2.shares (dpR p key x z).2.keys (dpR p key x z).2.heard F' ∧ Disj F F' ∧ Below w.heap.size w w' := by
  have CK := Lib.hid (fun (W : World) => shKey_any key W)
  have CF := fun (W : World) (a : Option Addr) (n c : Nat) (h : Ints W a n c [x, z]) => fpIn_any p a n c [x, z] W h
  rw [elsB_two] at CF
  have HP := Lib.hid (fun (h : elB p x = true) => elB_p h)
  have HK := Lib.hid (fun (h : inB key 0 1000000000 = true) => inB_true h)
  unfold dpR
  unfold dpB
  generalize elB p x = b1 at *
  generalize elB p z = b2 at *
  generalize inB key 0 1000000000 = b3 at *
  replace CF := Lib.hid CF
  go_enter Tryd.func32, Tryd.ntmps32
  go_upto_region 1 with fail
  refine Exists.elim (Blk.new_ w (b := w.heap.size) rfl 31 #[.int .i64 0, .int .i64 0, .int .i64 0, .int .i64 0, .int .i64 0, .slice none 0 0, .slice none 0 0, .int .i64 0, .slice none 0 0, .int .i64 0, .int .i64 0]) (fun w1_a0' q => ?_)
  rw [q.1]; have B_r := q.2.1; have s_w1_a0' := q.2.2.1; have u_w1_a0' := q.2.2.2; clear q
  refine Exists.elim (Blk.new_ w1_a0' (b := w.heap.size + 1) s_w1_a0' 31 #[.int .i64 0, .int .i64 0, .int .i64 0, .int .i64 0, .int .i64 0, .slice none 0 0, .slice none 0 0, .int .i64 0, .slice none 0 0, .int .i64 0, .int .i64 0]) (fun w1' q => ?_)
  rw [q.1]; have B_q := q.2.1; have s_w1' := q.2.2.1; have u_w1' := q.2.2.2; clear q
  replace B_r := (B_r.below u_w1')
  have U := (u_w1_a0'.trans (u_w1'.mono u_w1_a0'.size))
  have S_w1' : w.heap.size + 2 ≤ w1'.heap.size := Nat.le_of_eq s_w1'.symm
  have V_w1' := (Below.refl w.heap.size w).trans (U.mono ((Below.refl w.heap.size w)).size)
  clear u_w1_a0' u_w1' s_w1_a0' s_w1' U
  go_wp2_with fail
  refine (CK.out _).mono ?_
  rintro e w_q ⟨rfl, rfl⟩
  cases b3
  · skip
    cases b1
    · skip
      cases b2
      · skip
        have e_r := B_r.all11
        have f_r := B_r.frz11
        have e_q := B_q.all11
        have f_q := B_q.frz11
        go_wp2_with fail
        clear e_r f_r e_q f_q
        refine Exists.elim (B_r.row11 (.int .i64 0) (.int .i64 0) (.int .i64 0) (.int .i64 0) (.int .i64 0) (.slice none 0 0) (.slice none 0 0) (.int .i64 0) (.slice none 0 0) (.int .i64 0) (.int .i64 0)) (fun w2_11' q => ?_)
        rw [q.1]; replace B_r := q.2.1; have G := q.2.2; clear q
        have V_w2'_0 := (V_w1').trans (G.below (V_w1').size (fun q hq => by have := (V_w1').size; simp at hq; omega))
        replace B_q := B_q.only G (by first | (simp; done) | (simp; omega))
        have sG0 := G.size
        clear G
        clear V_w1'
        refine Exists.elim (B_q.row11 (.int .i64 0) (.int .i64 0) (.int .i64 0) (.int .i64 0) (.int .i64 0) (.slice none 0 0) (.slice none 0 0) (.int .i64 0) (.slice none 0 0) (.int .i64 0) (.int .i64 0)) (fun w2' q => ?_)
        rw [q.1]; replace B_q := q.2.1; have G := q.2.2; clear q
        have V_w2' := (V_w2'_0).trans (G.below (V_w2'_0).size (fun q hq => by have := (V_w2'_0).size; simp at hq; omega))
        replace B_r := B_r.only G (by first | (simp; done) | (simp; omega))
        have sG1 := G.size
        clear G
        clear V_w2'_0
        have S_w2' : w1'.heap.size + 0 ≤ w2'.heap.size := by omega
        clear sG0 sG1
        have e_r := B_r.all11
        have e_q := B_q.all11
        exact bodyPost_ret (v := .tuple #[.agg #[.int .i64 0, .int .i64 0, .int .i64 0, .int .i64 0, .int .i64 0, .slice none 0 0, .slice none 0 0, .int .i64 0, .slice none 0 0, .int .i64 0, .int .i64 0], .agg #[.int .i64 0, .int .i64 0, .int .i64 0, .int .i64 0, .int .i64 0, .slice none 0 0, .slice none 0 0, .int .i64 0, .slice none 0 0, .int .i64 0, .int .i64 0], .bool false]) (by simp [results, Tryd.results32, go_sem, e_r, e_q]) rfl (by first | exact ⟨zX, [], zX, [], rfl, PlO.nilz _ _, PlO.nilz _ _, Disj.nil_l _, V_w2'⟩ | exact ⟨zX, zX, rfl, ⟨[], PlO.nilz _ _⟩, [], PlO.nilz _ _, Disj.nil_l _, V_w2'⟩ | exact ⟨zX, [], zX, rfl, PlO.nilz _ _, [], PlO.nilz _ _, Disj.nil_l _, V_w2'⟩)
      · skip
        have e_r := B_r.all11
        have f_r := B_r.frz11
        have e_q := B_q.all11
        have f_q := B_q.frz11
        go_wp2_with fail
        clear e_r f_r e_q f_q
        refine Exists.elim (B_r.row11 (.int .i64 0) (.int .i64 0) (.int .i64 0) (.int .i64 0) (.int .i64 0) (.slice none 0 0) (.slice none 0 0) (.int .i64 0) (.slice none 0 0) (.int .i64 0) (.int .i64 0)) (fun w3_11' q => ?_)
        rw [q.1]; replace B_r := q.2.1; have G := q.2.2; clear q
        have V_w3'_0 := (V_w1').trans (G.below (V_w1').size (fun q hq => by have := (V_w1').size; simp at hq; omega))
        replace B_q := B_q.only G (by first | (simp; done) | (simp; omega))
        have sG0 := G.size
        clear G
        clear V_w1'
        refine Exists.elim (B_q.row11 (.int .i64 0) (.int .i64 0) (.int .i64 0) (.int .i64 0) (.int .i64 0) (.slice none 0 0) (.slice none 0 0) (.int .i64 0) (.slice none 0 0) (.int .i64 0) (.int .i64 0)) (fun w3' q => ?_)
        rw [q.1]; replace B_q := q.2.1; have G := q.2.2; clear q
        have V_w3' := (V_w3'_0).trans (G.below (V_w3'_0).size (fun q hq => by have := (V_w3'_0).size; simp at hq; omega))
        replace B_r := B_r.only G (by first | (simp; done) | (simp; omega))
        have sG1 := G.size
        clear G
        clear V_w3'_0
        have S_w3' : w1'.heap.size + 0 ≤ w3'.heap.size := by omega
        clear sG0 sG1
        have e_r := B_r.all11
        have e_q := B_q.all11
        exact bodyPost_ret (v := .tuple #[.agg #[.int .i64 0, .int .i64 0, .int .i64 0, .int .i64 0, .int .i64 0, .slice none 0 0, .slice none 0 0, .int .i64 0, .slice none 0 0, .int .i64 0, .int .i64 0], .agg #[.int .i64 0, .int .i64 0, .int .i64 0, .int .i64 0, .int .i64 0, .slice none 0 0, .slice none 0 0, .int .i64 0, .slice none 0 0, .int .i64 0, .int .i64 0], .bool false]) (by simp [results, Tryd.results32, go_sem, e_r, e_q]) rfl (by first | exact ⟨zX, [], zX, [], rfl, PlO.nilz _ _, PlO.nilz _ _, Disj.nil_l _, V_w3'⟩ | exact ⟨zX, zX, rfl, ⟨[], PlO.nilz _ _⟩, [], PlO.nilz _ _, Disj.nil_l _, V_w3'⟩ | exact ⟨zX, [], zX, rfl, PlO.nilz _ _, [], PlO.nilz _ _, Disj.nil_l _, V_w3'⟩)
    · skip
      cases b2
      · skip
        have e_r := B_r.all11
        have f_r := B_r.frz11
        have e_q := B_q.all11
        have f_q := B_q.frz11
        go_wp2_with fail
        clear e_r f_r e_q f_q
        refine Exists.elim (B_r.row11 (.int .i64 0) (.int .i64 0) (.int .i64 0) (.int .i64 0) (.int .i64 0) (.slice none 0 0) (.slice none 0 0) (.int .i64 0) (.slice none 0 0) (.int .i64 0) (.int .i64 0)) (fun w4_11' q => ?_)
        rw [q.1]; replace B_r := q.2.1; have G := q.2.2; clear q
        have V_w4'_0 := (V_w1').trans (G.below (V_w1').size (fun q hq => by have := (V_w1').size; simp at hq; omega))
        replace B_q := B_q.only G (by first | (simp; done) | (simp; omega))
        have sG0 := G.size
        clear G
        clear V_w1'
        refine Exists.elim (B_q.row11 (.int .i64 0) (.int .i64 0) (.int .i64 0) (.int .i64 0) (.int .i64 0) (.slice none 0 0) (.slice none 0 0) (.int .i64 0) (.slice none 0 0) (.int .i64 0) (.int .i64 0)) (fun w4' q => ?_)
        rw [q.1]; replace B_q := q.2.1; have G := q.2.2; clear q
        have V_w4' := (V_w4'_0).trans (G.below (V_w4'_0).size (fun q hq => by have := (V_w4'_0).size; simp at hq; omega))
        replace B_r := B_r.only G (by first | (simp; done) | (simp; omega))
        have sG1 := G.size
        clear G
        clear V_w4'_0
        have S_w4' : w1'.heap.size + 0 ≤ w4'.heap.size := by omega
        clear sG0 sG1
        have e_r := B_r.all11
        have e_q := B_q.all11
        exact bodyPost_ret (v := .tuple #[.agg #[.int .i64 0, .int .i64 0, .int .i64 0, .int .i64 0, .int .i64 0, .slice none 0 0, .slice none 0 0, .int .i64 0, .slice none 0 0, .int .i64 0, .int .i64 0], .agg #[.int .i64 0, .int .i64 0, .int .i64 0, .int .i64 0, .int .i64 0, .slice none 0 0, .slice none 0 0, .int .i64 0, .slice none 0 0, .int .i64 0, .int .i64 0], .bool false]) (by simp [results, Tryd.results32, go_sem, e_r, e_q]) rfl (by first | exact ⟨zX, [], zX, [], rfl, PlO.nilz _ _, PlO.nilz _ _, Disj.nil_l _, V_w4'⟩ | exact ⟨zX, zX, rfl, ⟨[], PlO.nilz _ _⟩, [], PlO.nilz _ _, Disj.nil_l _, V_w4'⟩ | exact ⟨zX, [], zX, rfl, PlO.nilz _ _, [], PlO.nilz _ _, Disj.nil_l _, V_w4'⟩)
      · skip
        have e_r := B_r.all11
        have f_r := B_r.frz11
        have e_q := B_q.all11
        have f_q := B_q.frz11
        go_wp2_with fail
        clear e_r f_r e_q f_q
        refine Exists.elim (B_r.row11 (.int .i64 0) (.int .i64 0) (.int .i64 0) (.int .i64 0) (.int .i64 0) (.slice none 0 0) (.slice none 0 0) (.int .i64 0) (.slice none 0 0) (.int .i64 0) (.int .i64 0)) (fun w5_11' q => ?_)
        rw [q.1]; replace B_r := q.2.1; have G := q.2.2; clear q
        have V_w5'_0 := (V_w1').trans (G.below (V_w1').size (fun q hq => by have := (V_w1').size; simp at hq; omega))
        replace B_q := B_q.only G (by first | (simp; done) | (simp; omega))
        have sG0 := G.size
        clear G
        clear V_w1'
        refine Exists.elim (B_q.row11 (.int .i64 0) (.int .i64 0) (.int .i64 0) (.int .i64 0) (.int .i64 0) (.slice none 0 0) (.slice none 0 0) (.int .i64 0) (.slice none 0 0) (.int .i64 0) (.int .i64 0)) (fun w5' q => ?_)
        rw [q.1]; replace B_q := q.2.1; have G := q.2.2; clear q
        have V_w5' := (V_w5'_0).trans (G.below (V_w5'_0).size (fun q hq => by have := (V_w5'_0).size; simp at hq; omega))
        replace B_r := B_r.only G (by first | (simp; done) | (simp; omega))
        have sG1 := G.size
        clear G
        clear V_w5'_0
        have S_w5' : w1'.heap.size + 0 ≤ w5'.heap.size := by omega
        clear sG0 sG1
        have e_r := B_r.all11
        have e_q := B_q.all11
        exact bodyPost_ret (v := .tuple #[.agg #[.int .i64 0, .int .i64 0, .int .i64 0, .int .i64 0, .int .i64 0, .slice none 0 0, .slice none 0 0, .int .i64 0, .slice none 0 0, .int .i64 0, .int .i64 0], .agg #[.int .i64 0, .int .i64 0, .int .i64 0, .int .i64 0, .int .i64 0, .slice none 0 0, .slice none 0 0, .int .i64 0, .slice none 0 0, .int .i64 0, .int .i64 0], .bool false]) (by simp [results, Tryd.results32, go_sem, e_r, e_q]) rfl (by first | exact ⟨zX, [], zX, [], rfl, PlO.nilz _ _, PlO.nilz _ _, Disj.nil_l _, V_w5'⟩ | exact ⟨zX, zX, rfl, ⟨[], PlO.nilz _ _⟩, [], PlO.nilz _ _, Disj.nil_l _, V_w5'⟩ | exact ⟨zX, [], zX, rfl, PlO.nilz _ _, [], PlO.nilz _ _, Disj.nil_l _, V_w5'⟩)
  go_wp2_with fail
  have ol : Own (w1'.alloc (.cells #[.int .i64 x, .int .i64 z] 3)) w1'.heap.size (some ⟨w1'.heap.size, 0, none⟩) 2 2 [x, z] := Own.lit w1' w1'.heap.size [x, z] (Nat.le_refl _) (by simp [maxLen])
  replace B_r := Blk.alloc B_r (.cells #[.int .i64 x, .int .i64 z] 3)
  replace B_q := Blk.alloc B_q (.cells #[.int .i64 x, .int .i64 z] 3)
  have V_w6' : Below w.heap.size w (w1'.alloc (.cells #[.int .i64 x, .int .i64 z] 3)) := V_w1'.alloc V_w1'.size _
  have S_w6' : w1'.heap.size < (w1'.alloc (.cells #[.int .i64 x, .int .i64 z] 3)).heap.size := by simp
  generalize (w1'.alloc (.cells #[.int .i64 x, .int .i64 z] 3)) = w6' at *
  clear V_w1'
  have Q_ol := Lib.hid ol.feet
  refine (CF.out _ _ _ _ ol.ints).mono ?_
  rintro e w7' ⟨rfl, q_w7'⟩
  have u_w7' := below_of_quiet q_w7'
  clear q_w7'
  replace B_r := B_r.below u_w7'
  replace B_q := B_q.below u_w7'
  replace ol := ol.below u_w7'
  have S_w7' := u_w7'.size
  have V_w7' : Below w.heap.size w w7' := V_w6'.trans (u_w7'.mono V_w6'.size)
  clear V_w6'
  clear u_w7'
  clear CF
  clear ol
  cases b1
  · skip
    cases b2
    · skip
      have e_r := B_r.all11
      have f_r := B_r.frz11
      have e_q := B_q.all11
      have f_q := B_q.frz11
      go_wp2_with fail
      clear e_r f_r e_q f_q
      refine Exists.elim (B_r.row11 (.int .i64 0) (.int .i64 0) (.int .i64 0) (.int .i64 0) (.int .i64 0) (.slice none 0 0) (.slice none 0 0) (.int .i64 0) (.slice none 0 0) (.int .i64 0) (.int .i64 0)) (fun w8_11' q => ?_)
      rw [q.1]; replace B_r := q.2.1; have G := q.2.2; clear q
      have V_w8'_0 := (V_w7').trans (G.below (V_w7').size (fun q hq => by have := (V_w7').size; simp at hq; omega))
      replace B_q := B_q.only G (by first | (simp; done) | (simp; omega))
      have sG0 := G.size
      clear G
      clear V_w7'
      refine Exists.elim (B_q.row11 (.int .i64 0) (.int .i64 0) (.int .i64 0) (.int .i64 0) (.int .i64 0) (.slice none 0 0) (.slice none 0 0) (.int .i64 0) (.slice none 0 0) (.int .i64 0) (.int .i64 0)) (fun w8' q => ?_)
      rw [q.1]; replace B_q := q.2.1; have G := q.2.2; clear q
      have V_w8' := (V_w8'_0).trans (G.below (V_w8'_0).size (fun q hq => by have := (V_w8'_0).size; simp at hq; omega))
      replace B_r := B_r.only G (by first | (simp; done) | (simp; omega))
      have sG1 := G.size
      clear G
      clear V_w8'_0
      have S_w8' : w7'.heap.size + 0 ≤ w8'.heap.size := by omega
      clear sG0 sG1
      have e_r := B_r.all11
      have e_q := B_q.all11
      exact bodyPost_ret (v := .tuple #[.agg #[.int .i64 0, .int .i64 0, .int .i64 0, .int .i64 0, .int .i64 0, .slice none 0 0, .slice none 0 0, .int .i64 0, .slice none 0 0, .int .i64 0, .int .i64 0], .agg #[.int .i64 0, .int .i64 0, .int .i64 0, .int .i64 0, .int .i64 0, .slice none 0 0, .slice none 0 0, .int .i64 0, .slice none 0 0, .int .i64 0, .int .i64 0], .bool false]) (by simp [results, Tryd.results32, go_sem, e_r, e_q]) rfl (by first | exact ⟨zX, [], zX, [], rfl, PlO.nilz _ _, PlO.nilz _ _, Disj.nil_l _, V_w8'⟩ | exact ⟨zX, zX, rfl, ⟨[], PlO.nilz _ _⟩, [], PlO.nilz _ _, Disj.nil_l _, V_w8'⟩ | exact ⟨zX, [], zX, rfl, PlO.nilz _ _, [], PlO.nilz _ _, Disj.nil_l _, V_w8'⟩)
    · skip
      have e_r := B_r.all11
      have f_r := B_r.frz11
      have e_q := B_q.all11
      have f_q := B_q.frz11
      go_wp2_with fail
      clear e_r f_r e_q f_q
      refine Exists.elim (B_r.row11 (.int .i64 0) (.int .i64 0) (.int .i64 0) (.int .i64 0) (.int .i64 0) (.slice none 0 0) (.slice none 0 0) (.int .i64 0) (.slice none 0 0) (.int .i64 0) (.int .i64 0)) (fun w9_11' q => ?_)
      rw [q.1]; replace B_r := q.2.1; have G := q.2.2; clear q
      have V_w9'_0 := (V_w7').trans (G.below (V_w7').size (fun q hq => by have := (V_w7').size; simp at hq; omega))
      replace B_q := B_q.only G (by first | (simp; done) | (simp; omega))
      have sG0 := G.size
      clear G
      clear V_w7'
      refine Exists.elim (B_q.row11 (.int .i64 0) (.int .i64 0) (.int .i64 0) (.int .i64 0) (.int .i64 0) (.slice none 0 0) (.slice none 0 0) (.int .i64 0) (.slice none 0 0) (.int .i64 0) (.int .i64 0)) (fun w9' q => ?_)
      rw [q.1]; replace B_q := q.2.1; have G := q.2.2; clear q
      have V_w9' := (V_w9'_0).trans (G.below (V_w9'_0).size (fun q hq => by have := (V_w9'_0).size; simp at hq; omega))
      replace B_r := B_r.only G (by first | (simp; done) | (simp; omega))
      have sG1 := G.size
      clear G
      clear V_w9'_0
      have S_w9' : w7'.heap.size + 0 ≤ w9'.heap.size := by omega
      clear sG0 sG1
      have e_r := B_r.all11
      have e_q := B_q.all11
      exact bodyPost_ret (v := .tuple #[.agg #[.int .i64 0, .int .i64 0, .int .i64 0, .int .i64 0, .int .i64 0, .slice none 0 0, .slice none 0 0, .int .i64 0, .slice none 0 0, .int .i64 0, .int .i64 0], .agg #[.int .i64 0, .int .i64 0, .int .i64 0, .int .i64 0, .int .i64 0, .slice none 0 0, .slice none 0 0, .int .i64 0, .slice none 0 0, .int .i64 0, .int .i64 0], .bool false]) (by simp [results, Tryd.results32, go_sem, e_r, e_q]) rfl (by first | exact ⟨zX, [], zX, [], rfl, PlO.nilz _ _, PlO.nilz _ _, Disj.nil_l _, V_w9'⟩ | exact ⟨zX, zX, rfl, ⟨[], PlO.nilz _ _⟩, [], PlO.nilz _ _, Disj.nil_l _, V_w9'⟩ | exact ⟨zX, [], zX, rfl, PlO.nilz _ _, [], PlO.nilz _ _, Disj.nil_l _, V_w9'⟩)
  cases b2
  · skip
    have e_r := B_r.all11
    have f_r := B_r.frz11
    have e_q := B_q.all11
    have f_q := B_q.frz11
    go_wp2_with fail
    clear e_r f_r e_q f_q
    refine Exists.elim (B_r.row11 (.int .i64 0) (.int .i64 0) (.int .i64 0) (.int .i64 0) (.int .i64 0) (.slice none 0 0) (.slice none 0 0) (.int .i64 0) (.slice none 0 0) (.int .i64 0) (.int .i64 0)) (fun w10_11' q => ?_)
    rw [q.1]; replace B_r := q.2.1; have G := q.2.2; clear q
    have V_w10'_0 := (V_w7').trans (G.below (V_w7').size (fun q hq => by have := (V_w7').size; simp at hq; omega))
    replace B_q := B_q.only G (by first | (simp; done) | (simp; omega))
    have sG0 := G.size
    clear G
    clear V_w7'
    refine Exists.elim (B_q.row11 (.int .i64 0) (.int .i64 0) (.int .i64 0) (.int .i64 0) (.int .i64 0) (.slice none 0 0) (.slice none 0 0) (.int .i64 0) (.slice none 0 0) (.int .i64 0) (.int .i64 0)) (fun w10' q => ?_)
    rw [q.1]; replace B_q := q.2.1; have G := q.2.2; clear q
    have V_w10' := (V_w10'_0).trans (G.below (V_w10'_0).size (fun q hq => by have := (V_w10'_0).size; simp at hq; omega))
    replace B_r := B_r.only G (by first | (simp; done) | (simp; omega))
    have sG1 := G.size
    clear G
    clear V_w10'_0
    have S_w10' : w7'.heap.size + 0 ≤ w10'.heap.size := by omega
    clear sG0 sG1
    have e_r := B_r.all11
    have e_q := B_q.all11
    exact bodyPost_ret (v := .tuple #[.agg #[.int .i64 0, .int .i64 0, .int .i64 0, .int .i64 0, .int .i64 0, .slice none 0 0, .slice none 0 0, .int .i64 0, .slice none 0 0, .int .i64 0, .int .i64 0], .agg #[.int .i64 0, .int .i64 0, .int .i64 0, .int .i64 0, .int .i64 0, .slice none 0 0, .slice none 0 0, .int .i64 0, .slice none 0 0, .int .i64 0, .int .i64 0], .bool false]) (by simp [results, Tryd.results32, go_sem, e_r, e_q]) rfl (by first | exact ⟨zX, [], zX, [], rfl, PlO.nilz _ _, PlO.nilz _ _, Disj.nil_l _, V_w10'⟩ | exact ⟨zX, zX, rfl, ⟨[], PlO.nilz _ _⟩, [], PlO.nilz _ _, Disj.nil_l _, V_w10'⟩ | exact ⟨zX, [], zX, rfl, PlO.nilz _ _, [], PlO.nilz _ _, Disj.nil_l _, V_w10'⟩)
  obtain ⟨hp, hp2⟩ := HP.out (by first | rfl | trivial)
  have hk := HK.out (by first | rfl | trivial)
  have C0 := Lib.hid (fun (W : World) => ptDeal_0 p key x W hp hp2 hk)
  have C1 := Lib.hid (fun (W : World) => ptDeal_1 p key z W hp hp2 hk)
  clear hp hp2 hk
  go_wp2_with fail
  refine (C0.out _).mono ?_
  rintro e w11' ⟨y1, F1, rfl, o1, u_w11'⟩
  replace B_r := B_r.below u_w11'
  replace B_q := B_q.below u_w11'
  have S_w11' := u_w11'.size
  have V_w11' : Below w.heap.size w w11' := V_w7'.trans (u_w11'.mono V_w7'.size)
  clear V_w7'
  clear u_w11'
  have R1 := Lib.hid o1.feet
  go_wp2_with fail
  refine (C1.out _).mono ?_
  rintro e w12' ⟨y2, F2, rfl, o2, u_w12'⟩
  replace B_r := B_r.below u_w12'
  replace B_q := B_q.below u_w12'
  replace o1 := o1.below u_w12'
  have S_w12' := u_w12'.size
  have V_w12' : Below w.heap.size w w12' := V_w11'.trans (u_w12'.mono V_w11'.size)
  clear V_w11'
  clear u_w12'
  have D12 := feet_apart R1.out o2.feet (Nat.le_refl _)
  replace o1 := o1.lower (b' := w.heap.size + 2) (by omega)
  replace o2 := o2.lower (b' := w.heap.size + 2) (by omega)
  have Q_o1 := Lib.hid o1.feet
  have Q_o2 := Lib.hid o2.feet
  have e_r := B_r.all11
  have f_r := B_r.frz11
  have e_q := B_q.all11
  have f_q := B_q.frz11
  go_wp2_with fail
  clear e_r f_r e_q f_q
  refine Exists.elim (B_r.row11 (.int .i64 (dlP p key 0 x).P) (.int .i64 (dlP p key 0 x).party) (.int .i64 (dlP p key 0 x).input) (.int .i64 (dlP p key 0 x).mask) (.int .i64 (dlP p key 0 x).delta) (.slice y1.sa y1.sn y1.sc) (.slice y1.ka y1.kn y1.kc) (.int .i64 (dlP p key 0 x).step) (.slice y1.ha y1.hn y1.hc) (.int .i64 (dlP p key 0 x).status) (.int .i64 (dlP p key 0 x).out)) (fun w13_11' q => ?_)
  rw [q.1]; replace B_r := q.2.1; have G := q.2.2; clear q
  have V_w13'_0 := (V_w12').trans (G.below (V_w12').size (fun q hq => by have := (V_w12').size; simp at hq; omega))
  replace B_q := B_q.only G (by first | (simp; done) | (simp; omega))
  replace o1 := o1.only G (fun q hq hq' => by have := Q_o1.out q hq; simp at hq'; omega)
  replace o2 := o2.only G (fun q hq hq' => by have := Q_o2.out q hq; simp at hq'; omega)
  have sG0 := G.size
  clear G
  clear V_w12'
  refine Exists.elim (B_q.row11 (.int .i64 (dlP p key 1 z).P) (.int .i64 (dlP p key 1 z).party) (.int .i64 (dlP p key 1 z).input) (.int .i64 (dlP p key 1 z).mask) (.int .i64 (dlP p key 1 z).delta) (.slice y2.sa y2.sn y2.sc) (.slice y2.ka y2.kn y2.kc) (.int .i64 (dlP p key 1 z).step) (.slice y2.ha y2.hn y2.hc) (.int .i64 (dlP p key 1 z).status) (.int .i64 (dlP p key 1 z).out)) (fun w13' q => ?_)
  rw [q.1]; replace B_q := q.2.1; have G := q.2.2; clear q
  have V_w13' := (V_w13'_0).trans (G.below (V_w13'_0).size (fun q hq => by have := (V_w13'_0).size; simp at hq; omega))
  replace B_r := B_r.only G (by first | (simp; done) | (simp; omega))
  replace o1 := o1.only G (fun q hq hq' => by have := Q_o1.out q hq; simp at hq'; omega)
  replace o2 := o2.only G (fun q hq hq' => by have := Q_o2.out q hq; simp at hq'; omega)
  have sG1 := G.size
  clear G
  clear V_w13'_0
  have S_w13' : w12'.heap.size + 0 ≤ w13'.heap.size := by omega
  clear sG0 sG1
  have e_r := B_r.all11
  have e_q := B_q.all11
  exact bodyPost_ret (v := .tuple #[.agg #[.int .i64 (dlP p key 0 x).P, .int .i64 (dlP p key 0 x).party, .int .i64 (dlP p key 0 x).input, .int .i64 (dlP p key 0 x).mask, .int .i64 (dlP p key 0 x).delta, .slice y1.sa y1.sn y1.sc, .slice y1.ka y1.kn y1.kc, .int .i64 (dlP p key 0 x).step, .slice y1.ha y1.hn y1.hc, .int .i64 (dlP p key 0 x).status, .int .i64 (dlP p key 0 x).out], .agg #[.int .i64 (dlP p key 1 z).P, .int .i64 (dlP p key 1 z).party, .int .i64 (dlP p key 1 z).input, .int .i64 (dlP p key 1 z).mask, .int .i64 (dlP p key 1 z).delta, .slice y2.sa y2.sn y2.sc, .slice y2.ka y2.kn y2.kc, .int .i64 (dlP p key 1 z).step, .slice y2.ha y2.hn y2.hc, .int .i64 (dlP p key 1 z).status, .int .i64 (dlP p key 1 z).out], .bool true]) (by simp [results, Tryd.results32, go_sem, e_r, e_q]) rfl (by first | exact ⟨y1, F1, y2, rfl, o1.lower (by omega), F2, o2.lower (by omega), D12, V_w13'⟩ | exact ⟨y1, F1, y2, F2, rfl, o1.lower (by omega), o2.lower (by omega), D12, V_w13'⟩ | exact ⟨y1, y2, rfl, ⟨F1, o1.lower (by omega), F2, o2.lower (by omega), D12⟩, V_w13'⟩)
set_option maxHeartbeats 16000000 in
set_option maxRecDepth 100000 in
theorem DealPlayers_any (p key x z : Int) (w : World) :
    Calls Tryd.prog 31 #[.int .i64 p, .int .i64 key, .int .i64 x, .int .i64 z] w fun e w' => ∃ y F y' F', e = .returned (.tuple #[.agg #[.int .i64 (dpR p key x z).1.P, .int .i64 (dpR p key x z).1.party, .int .i64 (dpR p key x z).1.input, .int .i64 (dpR p key x z).1.mask, .int .i64 (dpR p key x z).1.delta, .slice y.sa y.sn y.sc, .slice y.ka y.kn y.kc, .int .i64 (dpR p key x z).1.step, .slice y.ha y.hn y.hc, .int .i64 (dpR p key x z).1.status, .int .i64 (dpR p key x z).1.out], .agg #[.int .i64 (dpR p key x z).2.P, .int .i64 (dpR p key x z).2.party, .int .i64 (dpR p key x z).2.input, .int .i64 (dpR p key x z).2.mask, .int .i64 (dpR p key x z).2.delta, .slice y'.sa y'.sn y'.sc, .slice y'.ka y'.kn y'.kc, .int .i64 (dpR p key x z).2.step, .slice y'.ha y'.hn y'.hc, .int .i64 (dpR p key x z).2.status, .int .i64 (dpR p key x z).2.out], .bool (dpB p key x z)]) ∧ PlO w' w.heap.size y (dpR p key x z).1.shares (dpR p key x z).1.keys (dpR p key x z).1.heard F ∧ PlO w' w.heap.size y' (dpR p key x z).2.shares (dpR p key x z).2.keys (dpR p key x z).2.heard F' ∧ Disj F F' ∧ Below w.heap.size w w' := by
  have C1 := Lib.hid (fun (W : World) => isElement_any p x W)
  have C2 := Lib.hid (fun (W : World) => isElement_any p z W)
  have CK := Lib.hid (fun (W : World) => isKey_any key W)
  have HP := Lib.hid (fun (h : elB p x = true) => elB_p h)
  have HK := Lib.hid (fun (h : inB key 0 1000000000 = true) => inB_true h)
  unfold dpR
  unfold dpB
  generalize elB p x = b1 at *
  generalize elB p z = b2 at *
  generalize inB key 0 1000000000 = b3 at *
  go_enter Tryd.func31, Tryd.ntmps31
  go_upto_region 1 with fail
  refine Exists.elim (Blk.new_ w (b := w.heap.size) rfl 31 #[.int .i64 0, .int .i64 0, .int .i64 0, .int .i64 0, .int .i64 0, .slice none 0 0, .slice none 0 0, .int .i64 0, .slice none 0 0, .int .i64 0, .int .i64 0]) (fun w1_a0' q => ?_)
  rw [q.1]; have B_r := q.2.1; have s_w1_a0' := q.2.2.1; have u_w1_a0' := q.2.2.2; clear q
  refine Exists.elim (Blk.new_ w1_a0' (b := w.heap.size + 1) s_w1_a0' 31 #[.int .i64 0, .int .i64 0, .int .i64 0, .int .i64 0, .int .i64 0, .slice none 0 0, .slice none 0 0, .int .i64 0, .slice none 0 0, .int .i64 0, .int .i64 0]) (fun w1' q => ?_)
  rw [q.1]; have B_q := q.2.1; have s_w1' := q.2.2.1; have u_w1' := q.2.2.2; clear q
  replace B_r := (B_r.below u_w1')
  have U := (u_w1_a0'.trans (u_w1'.mono u_w1_a0'.size))
  have S_w1' : w.heap.size + 2 ≤ w1'.heap.size := Nat.le_of_eq s_w1'.symm
  have V_w1' := (Below.refl w.heap.size w).trans (U.mono ((Below.refl w.heap.size w)).size)
  clear u_w1_a0' u_w1' s_w1_a0' s_w1' U
  go_wp2_with fail
  refine (C1.out _).mono ?_
  rintro e w2' ⟨rfl, q_w2'⟩
  have u_w2' := below_of_quiet q_w2'
  clear q_w2'
  replace B_r := B_r.below u_w2'
  replace B_q := B_q.below u_w2'
  have S_w2' := u_w2'.size
  have V_w2' : Below w.heap.size w w2' := V_w1'.trans (u_w2'.mono V_w1'.size)
  clear V_w1'
  clear u_w2'
  cases b1
  · skip
    have e_r := B_r.all11
    have f_r := B_r.frz11
    have e_q := B_q.all11
    have f_q := B_q.frz11
    go_wp2_with fail
    clear e_r f_r e_q f_q
    refine Exists.elim (B_r.row11 (.int .i64 0) (.int .i64 0) (.int .i64 0) (.int .i64 0) (.int .i64 0) (.slice none 0 0) (.slice none 0 0) (.int .i64 0) (.slice none 0 0) (.int .i64 0) (.int .i64 0)) (fun w3_11' q => ?_)
    rw [q.1]; replace B_r := q.2.1; have G := q.2.2; clear q
    have V_w3'_0 := (V_w2').trans (G.below (V_w2').size (fun q hq => by have := (V_w2').size; simp at hq; omega))
    replace B_q := B_q.only G (by first | (simp; done) | (simp; omega))
    have sG0 := G.size
    clear G
    clear V_w2'
    refine Exists.elim (B_q.row11 (.int .i64 0) (.int .i64 0) (.int .i64 0) (.int .i64 0) (.int .i64 0) (.slice none 0 0) (.slice none 0 0) (.int .i64 0) (.slice none 0 0) (.int .i64 0) (.int .i64 0)) (fun w3' q => ?_)
    rw [q.1]; replace B_q := q.2.1; have G := q.2.2; clear q
    have V_w3' := (V_w3'_0).trans (G.below (V_w3'_0).size (fun q hq => by have := (V_w3'_0).size; simp at hq; omega))
    replace B_r := B_r.only G (by first | (simp; done) | (simp; omega))
    have sG1 := G.size
    clear G
    clear V_w3'_0
    have S_w3' : w2'.heap.size + 0 ≤ w3'.heap.size := by omega
    clear sG0 sG1
    have e_r := B_r.all11
    have e_q := B_q.all11
    exact bodyPost_ret (v := .tuple #[.agg #[.int .i64 0, .int .i64 0, .int .i64 0, .int .i64 0, .int .i64 0, .slice none 0 0, .slice none 0 0, .int .i64 0, .slice none 0 0, .int .i64 0, .int .i64 0], .agg #[.int .i64 0, .int .i64 0, .int .i64 0, .int .i64 0, .int .i64 0, .slice none 0 0, .slice none 0 0, .int .i64 0, .slice none 0 0, .int .i64 0, .int .i64 0], .bool false]) (by simp [results, Tryd.results31, go_sem, e_r, e_q]) rfl (by first | exact ⟨zX, [], zX, [], rfl, PlO.nilz _ _, PlO.nilz _ _, Disj.nil_l _, V_w3'⟩ | exact ⟨zX, zX, rfl, ⟨[], PlO.nilz _ _⟩, [], PlO.nilz _ _, Disj.nil_l _, V_w3'⟩ | exact ⟨zX, [], zX, rfl, PlO.nilz _ _, [], PlO.nilz _ _, Disj.nil_l _, V_w3'⟩)
  go_wp2_with fail
  refine (C2.out _).mono ?_
  rintro e w4' ⟨rfl, q_w4'⟩
  have u_w4' := below_of_quiet q_w4'
  clear q_w4'
  replace B_r := B_r.below u_w4'
  replace B_q := B_q.below u_w4'
  have S_w4' := u_w4'.size
  have V_w4' : Below w.heap.size w w4' := V_w2'.trans (u_w4'.mono V_w2'.size)
  clear V_w2'
  clear u_w4'
  cases b2
  · skip
    have e_r := B_r.all11
    have f_r := B_r.frz11
    have e_q := B_q.all11
    have f_q := B_q.frz11
    go_wp2_with fail
    clear e_r f_r e_q f_q
    refine Exists.elim (B_r.row11 (.int .i64 0) (.int .i64 0) (.int .i64 0) (.int .i64 0) (.int .i64 0) (.slice none 0 0) (.slice none 0 0) (.int .i64 0) (.slice none 0 0) (.int .i64 0) (.int .i64 0)) (fun w5_11' q => ?_)
    rw [q.1]; replace B_r := q.2.1; have G := q.2.2; clear q
    have V_w5'_0 := (V_w4').trans (G.below (V_w4').size (fun q hq => by have := (V_w4').size; simp at hq; omega))
    replace B_q := B_q.only G (by first | (simp; done) | (simp; omega))
    have sG0 := G.size
    clear G
    clear V_w4'
    refine Exists.elim (B_q.row11 (.int .i64 0) (.int .i64 0) (.int .i64 0) (.int .i64 0) (.int .i64 0) (.slice none 0 0) (.slice none 0 0) (.int .i64 0) (.slice none 0 0) (.int .i64 0) (.int .i64 0)) (fun w5' q => ?_)
    rw [q.1]; replace B_q := q.2.1; have G := q.2.2; clear q
    have V_w5' := (V_w5'_0).trans (G.below (V_w5'_0).size (fun q hq => by have := (V_w5'_0).size; simp at hq; omega))
    replace B_r := B_r.only G (by first | (simp; done) | (simp; omega))
    have sG1 := G.size
    clear G
    clear V_w5'_0
    have S_w5' : w4'.heap.size + 0 ≤ w5'.heap.size := by omega
    clear sG0 sG1
    have e_r := B_r.all11
    have e_q := B_q.all11
    exact bodyPost_ret (v := .tuple #[.agg #[.int .i64 0, .int .i64 0, .int .i64 0, .int .i64 0, .int .i64 0, .slice none 0 0, .slice none 0 0, .int .i64 0, .slice none 0 0, .int .i64 0, .int .i64 0], .agg #[.int .i64 0, .int .i64 0, .int .i64 0, .int .i64 0, .int .i64 0, .slice none 0 0, .slice none 0 0, .int .i64 0, .slice none 0 0, .int .i64 0, .int .i64 0], .bool false]) (by simp [results, Tryd.results31, go_sem, e_r, e_q]) rfl (by first | exact ⟨zX, [], zX, [], rfl, PlO.nilz _ _, PlO.nilz _ _, Disj.nil_l _, V_w5'⟩ | exact ⟨zX, zX, rfl, ⟨[], PlO.nilz _ _⟩, [], PlO.nilz _ _, Disj.nil_l _, V_w5'⟩ | exact ⟨zX, [], zX, rfl, PlO.nilz _ _, [], PlO.nilz _ _, Disj.nil_l _, V_w5'⟩)
  go_wp2_with fail
  refine (CK.out _).mono ?_
  rintro e w_q ⟨rfl, rfl⟩
  cases b3
  · skip
    have e_r := B_r.all11
    have f_r := B_r.frz11
    have e_q := B_q.all11
    have f_q := B_q.frz11
    go_wp2_with fail
    clear e_r f_r e_q f_q
    refine Exists.elim (B_r.row11 (.int .i64 0) (.int .i64 0) (.int .i64 0) (.int .i64 0) (.int .i64 0) (.slice none 0 0) (.slice none 0 0) (.int .i64 0) (.slice none 0 0) (.int .i64 0) (.int .i64 0)) (fun w6_11' q => ?_)
    rw [q.1]; replace B_r := q.2.1; have G := q.2.2; clear q
    have V_w6'_0 := (V_w4').trans (G.below (V_w4').size (fun q hq => by have := (V_w4').size; simp at hq; omega))
    replace B_q := B_q.only G (by first | (simp; done) | (simp; omega))
    have sG0 := G.size
    clear G
    clear V_w4'
    refine Exists.elim (B_q.row11 (.int .i64 0) (.int .i64 0) (.int .i64 0) (.int .i64 0) (.int .i64 0) (.slice none 0 0) (.slice none 0 0) (.int .i64 0) (.slice none 0 0) (.int .i64 0) (.int .i64 0)) (fun w6' q => ?_)
    rw [q.1]; replace B_q := q.2.1; have G := q.2.2; clear q
    have V_w6' := (V_w6'_0).trans (G.below (V_w6'_0).size (fun q hq => by have := (V_w6'_0).size; simp at hq; omega))
    replace B_r := B_r.only G (by first | (simp; done) | (simp; omega))
    have sG1 := G.size
    clear G
    clear V_w6'_0
    have S_w6' : w4'.heap.size + 0 ≤ w6'.heap.size := by omega
    clear sG0 sG1
    have e_r := B_r.all11
    have e_q := B_q.all11
    exact bodyPost_ret (v := .tuple #[.agg #[.int .i64 0, .int .i64 0, .int .i64 0, .int .i64 0, .int .i64 0, .slice none 0 0, .slice none 0 0, .int .i64 0, .slice none 0 0, .int .i64 0, .int .i64 0], .agg #[.int .i64 0, .int .i64 0, .int .i64 0, .int .i64 0, .int .i64 0, .slice none 0 0, .slice none 0 0, .int .i64 0, .slice none 0 0, .int .i64 0, .int .i64 0], .bool false]) (by simp [results, Tryd.results31, go_sem, e_r, e_q]) rfl (by first | exact ⟨zX, [], zX, [], rfl, PlO.nilz _ _, PlO.nilz _ _, Disj.nil_l _, V_w6'⟩ | exact ⟨zX, zX, rfl, ⟨[], PlO.nilz _ _⟩, [], PlO.nilz _ _, Disj.nil_l _, V_w6'⟩ | exact ⟨zX, [], zX, rfl, PlO.nilz _ _, [], PlO.nilz _ _, Disj.nil_l _, V_w6'⟩)
  obtain ⟨hp, hp2⟩ := HP.out (by first | rfl | trivial)
  have hk := HK.out (by first | rfl | trivial)
  replace hk := Lib.hid hk
  clear HP HK C1 C2 CK
  go_wp2_with fail
  refine (dealt_any p key _ hp hp2 hk.out).mono ?_
  rintro e w7' ⟨av, cv, rfl, ov, u_w7'⟩
  replace B_r := B_r.below u_w7'
  replace B_q := B_q.below u_w7'
  have S_w7' := u_w7'.size
  have V_w7' : Below w.heap.size w w7' := V_w4'.trans (u_w7'.mono V_w4'.size)
  clear V_w4'
  clear u_w7'
  obtain ⟨gv, rfl, g0, g1, v0, _, _⟩ := ov.at 0 (by omega)
  clear g0 g1
  have v1 := ov.cellG 1 (by omega)
  obtain ⟨M0, hM0⟩ : ∃ M, M = (dlL p key).getD 0 0 := ⟨_, rfl⟩
  obtain ⟨M1, hM1⟩ : ∃ M, M = (dlL p key).getD 1 0 := ⟨_, rfl⟩
  rw [← hM0] at v0
  rw [← hM1] at v1
  have HM0 := Lib.hid hM0
  have HM1 := Lib.hid hM1
  clear hM0 hM1
  go_upto_region 4 with fail
  replace ov := ov.lower (b' := w.heap.size + 2) (by omega)
  have y0 : w7'.drew.cell? ⟨gv, 0, none⟩ = some (.int .i64 M0) := v0
  have y1 : w7'.drew.cell? ⟨gv, 1, none⟩ = some (.int .i64 M1) := v1
  clear v0 v1
  replace ov := ov.drew
  replace B_r := Blk.drew B_r
  replace B_q := Blk.drew B_q
  have Vd := (V_w7').drew
  have SZ : w.heap.size + 2 ≤ w7'.drew.heap.size := (show w.heap.size + 2 ≤ w7'.heap.size by omega)
  refine wp_region_noPanic ?_
  refine wp_region_held_drew (S := (fun W => W.cell? ⟨gv, 0, none⟩ = some (.int .i64 M0) ∧ W.cell? ⟨gv, 1, none⟩ = some (.int .i64 M1))) (by kernel_rfl) ?hS1 (fun hHeld => ?go1)
  case hS1 => exact ⟨y0, y1⟩
  refine tk (i := 0) (oi := ⟨some 39, _, _, _, _, _⟩) (v := ?v0_2) hHeld rfl ?y0_2 ?r0_2
  case y0_2 => (intro w _; first | (go_simp; first | done | with_reducible rfl) | with_reducible rfl)
  (try simp only [pt_])
  refine tk (i := 1) (oi := ⟨some 40, _, _, _, _, _⟩) (v := ?v1_3) hHeld rfl ?y1_3 ?r1_3
  case y1_3 => (intro w _; first | (go_simp; first | done | with_reducible rfl) | with_reducible rfl)
  (try simp only [pt_])
  refine tk (i := 2) (oi := ⟨some 41, _, _, _, _, _⟩) (v := ?v2_4) hHeld rfl ?y2_4 ?r2_4
  case y2_4 => (intro w _; first | (go_simp; first | done | with_reducible rfl) | with_reducible rfl)
  (try simp only [pt_])
  refine tk (i := 3) (oi := ⟨some 42, _, _, _, _, _⟩) (v := ?v3_5) hHeld rfl ?y3_5 ?r3_5
  case y3_5 => (intro w _; first | (go_simp; first | done | with_reducible rfl) | with_reducible rfl)
  (try simp only [pt_])
  refine tk (i := 4) (oi := ⟨some 43, _, _, _, _, _⟩) (v := ?v4_6) hHeld rfl ?y4_6 ?r4_6
  case y4_6 => (intro w hSw; obtain ⟨qS0, qS1⟩ := hSw; first | (go_simp; first | done | with_reducible rfl) | with_reducible rfl)
  (try simp only [pt_])
  refine tk (i := 5) (oi := ⟨some 44, _, _, _, _, _⟩) (v := ?v5_7) hHeld rfl ?y5_7 ?r5_7
  case y5_7 => (intro w _; first | (go_simp; first | done | with_reducible rfl) | with_reducible rfl)
  (try simp only [pt_])
  refine tk (i := 6) (oi := ⟨some 45, _, _, _, _, _⟩) (v := ?v6_8) hHeld rfl ?y6_8 ?r6_8
  case y6_8 => (intro w _; first | (go_simp; first | done | with_reducible rfl) | with_reducible rfl)
  (try simp only [pt_])
  refine tk (i := 7) (oi := ⟨some 46, _, _, _, _, _⟩) (v := ?v7_9) hHeld rfl ?y7_9 ?r7_9
  case y7_9 => (intro w _; first | (go_simp; first | done | with_reducible rfl) | with_reducible rfl)
  (try simp only [pt_])
  refine tk (i := 8) (oi := ⟨some 47, _, _, _, _, _⟩) (v := ?v8_10) hHeld rfl ?y8_10 ?r8_10
  case y8_10 => (intro w _; first | (go_simp; first | done | with_reducible rfl) | with_reducible rfl)
  (try simp only [pt_])
  refine tk (i := 9) (oi := ⟨some 48, _, _, _, _, _⟩) (v := ?v9_11) hHeld rfl ?y9_11 ?r9_11
  case y9_11 => (intro w _; first | (go_simp; first | done | with_reducible rfl) | with_reducible rfl)
  (try simp only [pt_])
  refine tk (i := 10) (oi := ⟨some 49, _, _, _, _, _⟩) (v := ?v10_12) hHeld rfl ?y10_12 ?r10_12
  case y10_12 => (intro w hSw; obtain ⟨qS0, qS1⟩ := hSw; first | (go_simp; first | done | with_reducible rfl) | with_reducible rfl)
  (try simp only [pt_])
  refine tk (i := 11) (oi := ⟨some 50, _, _, _, _, _⟩) (v := ?v11_13) hHeld rfl ?y11_13 ?r11_13
  case y11_13 => (intro w _; first | (go_simp; first | done | with_reducible rfl) | with_reducible rfl)
  (try simp only [pt_])
  refine tk (i := 12) (oi := ⟨some 51, _, _, _, _, _⟩) (v := ?v12_14) hHeld rfl ?y12_14 ?r12_14
  case y12_14 => (intro w _; first | (go_simp; first | done | with_reducible rfl) | with_reducible rfl)
  (try simp only [pt_])
  generalize w7'.drew = wd at *
  refine wpAnyH_ready (rs := [13]) (by kernel_rfl) (by simp) ?_
  refine AllReadyH.cons (o := ⟨some 12, _, _, _, _, _⟩) rfl (fun K hK => ?_) ?_
  go_simp
  refine Exists.elim (Blk.new_ wd rfl 94 #[.int .i64 0, .int .i64 0, .int .i64 0, .int .i64 0, .int .i64 0, .slice none 0 0, .slice none 0 0, .int .i64 0, .slice none 0 0, .int .i64 0, .int .i64 0, .int .i64 0, .int .i64 0, .int .i64 0, .int .i64 0, .int .i64 0, .slice none 0 0, .slice none 0 0, .int .i64 0, .slice none 0 0, .int .i64 0, .int .i64 0]) (fun wA q => ?_)
  rw [q.1]
  have B_o := q.2.1; have uA := q.2.2.2; clear q
  refine hK.out _ _ ?_ (fun hHeld => ?_)
  · exact ⟨keepC uA y0, keepC uA y1⟩
  clear hK K
  (try simp only [pt_])
  refine wpAnyH_ready (rs := [14]) (by kernel_rfl) (by simp) ?_
  refine AllReadyH.cons (o := ⟨none, _, _, _, _, _⟩) rfl (fun K hK => ?_) ?_
  refine step_st B_o (by simp [Region.wanted]) _ _ _ (by rfl) (by rfl) (by rfl) (by kernel_rfl) (by rfl) (by simp [Value.oneCell']) ?_
  intro wB B_o' G
  replace B_o := B_o'; clear B_o'
  have ovB := (ov.below uA).only G (fun q hq hq' => by have := ov.feet q hq; simp at hq'; omega)
  have z0 := ovB.cellG 0 (by omega)
  have z1 := ovB.cellG 1 (by omega)
  rw [← HM0.out] at z0
  rw [← HM1.out] at z1
  refine hK.out _ _ ?_ (fun hHeld => ?_)
  · exact ⟨z0, z1⟩
  clear hK K
  (try simp only [pt_])
  refine wpAnyH_done (by kernel_rfl) ?_ _
  refine NoPanic.normal ?_
  rotate_left 1
  exact AllReadyH.nil
  exact AllReadyH.nil
  have VB := Vd.trans ((uA.trans (G.below uA.size (by intro q hq; simp at hq; omega))).mono Vd.size)
  replace B_r := (B_r.below uA).only G (by simp; omega)
  replace B_q := (B_q.below uA).only G (by simp; omega)
  have QV := Lib.hid ov.feet
  replace ov := ovB
  have SB : wd.heap.size < wB.heap.size := Nat.lt_of_lt_of_le (B_o.lt) (Nat.le_refl _)
  clear ovB z0 z1 y0 y1 uA G Vd hHeld
  obtain ⟨bo, hbo⟩ : ∃ bo, bo = wd.heap.size := ⟨_, rfl⟩
  rw [← hbo] at B_o QV SZ SB ⊢
  clear hbo
  have HD0 : Hid (dlD p key 0 = dlD p key 0) := Lib.hid rfl
  obtain ⟨D0, hD0⟩ : ∃ D, D = dlD p key 0 := ⟨_, rfl⟩
  obtain ⟨D1, hD1⟩ : ∃ D, D = dlD p key 1 := ⟨_, rfl⟩
  have dr0 := dlD_rng p key 0 hp
  have dr1 := dlD_rng p key 1 hp
  have CD0 := fun (W : World) => deltaOf_any p key 0 W hp hp2 hk.out (by omega)
  have CD1 := fun (W : World) => deltaOf_any p key 1 W hp hp2 hk.out (by omega)
  rw [← hD0] at dr0 CD0
  rw [← hD1] at dr1 CD1
  replace hD0 := Lib.hid hD0
  replace hD1 := Lib.hid hD1
  replace CD0 := Lib.hid CD0
  replace CD1 := Lib.hid CD1
  clear HD0
  go_wp2
  go_loopw [52] (fun v wr => ∃ q : Nat, q ≤ 2 ∧ v = .int .i64 q ∧ Below w.heap.size w wr ∧ bo < wr.heap.size ∧ Blk wr w.heap.size 31 #[.int .i64 0, .int .i64 0, .int .i64 0, .int .i64 0, .int .i64 0, .slice none 0 0, .slice none 0 0, .int .i64 0, .slice none 0 0, .int .i64 0, .int .i64 0] ∧ Blk wr (w.heap.size + 1) 31 #[.int .i64 0, .int .i64 0, .int .i64 0, .int .i64 0, .int .i64 0, .slice none 0 0, .slice none 0 0, .int .i64 0, .slice none 0 0, .int .i64 0, .int .i64 0] ∧ Own wr (w.heap.size + 2) (some ⟨gv, 0, none⟩) 5 cv (dlL p key) ∧ ((q = 0 ∧ Blk wr bo 94 #[.int .i64 p, .int .i64 0, .int .i64 x, .int .i64 M0, .int .i64 0, .slice none 0 0, .slice none 0 0, .int .i64 0, .slice none 0 0, .int .i64 0, .int .i64 0, .int .i64 p, .int .i64 1, .int .i64 z, .int .i64 M1, .int .i64 0, .slice none 0 0, .slice none 0 0, .int .i64 0, .slice none 0 0, .int .i64 0, .int .i64 0]) ∨ (∃ sa sc ka kc, q = 1 ∧ Blk wr bo 94 #[.int .i64 p, .int .i64 0, .int .i64 x, .int .i64 M0, .int .i64 D0, .slice sa 5 sc, .slice ka 5 kc, .int .i64 0, .slice none 0 0, .int .i64 0, .int .i64 0, .int .i64 p, .int .i64 1, .int .i64 z, .int .i64 M1, .int .i64 0, .slice none 0 0, .slice none 0 0, .int .i64 0, .slice none 0 0, .int .i64 0, .int .i64 0] ∧ OwnF 2 eTagged wr (bo + 1) sa 5 sc (dlSh p key 0 5) ∧ Own wr (bo + 1) ka 5 kc (dlK p key 0 5) ∧ Disj (foot sa sc) (foot ka kc)) ∨ (∃ sa sc ka kc sb sd kb kd, q = 2 ∧ Blk wr bo 94 #[.int .i64 p, .int .i64 0, .int .i64 x, .int .i64 M0, .int .i64 D0, .slice sa 5 sc, .slice ka 5 kc, .int .i64 0, .slice none 0 0, .int .i64 0, .int .i64 0, .int .i64 p, .int .i64 1, .int .i64 z, .int .i64 M1, .int .i64 D1, .slice sb 5 sd, .slice kb 5 kd, .int .i64 0, .slice none 0 0, .int .i64 0, .int .i64 0] ∧ OwnF 2 eTagged wr (bo + 1) sa 5 sc (dlSh p key 0 5) ∧ Own wr (bo + 1) ka 5 kc (dlK p key 0 5) ∧ Disj (foot sa sc) (foot ka kc) ∧ OwnF 2 eTagged wr (bo + 1) sb 5 sd (dlSh p key 1 5) ∧ Own wr (bo + 1) kb 5 kd (dlK p key 1 5) ∧ Disj (foot sb sd) (foot kb kd) ∧ Disj (foot sa sc ++ foot ka kc) (foot sb sd ++ foot kb kd)))) (fun v _ => 2 - (intOf v).toNat)
  case atStart => exact ⟨0, by omega, rfl, VB, SB, B_r, B_q, ov, Or.inl ⟨rfl, B_o⟩⟩
  case round =>
    obtain ⟨q9, hq9, rfl, V_wr, SR, B_r, B_q, ov, hst⟩ := hrel
    rcases hst with ⟨rfl, B_o⟩ | ⟨sa0, sc0, ka0, kc0, rfl, B_o, sh0, ke0, dj0⟩ | ⟨sa, sc, ka, kc, sb, sd, kb, kd, rfl, B_o, sh0, ke0, dj0, sh1, ke1, dj1, djx⟩
    · rw [show ((0 : Nat) : Int) = 0 from rfl]
      go_wp2_with fail
      refine (CD0.out _).mono ?_
      rintro e w8' ⟨rfl, u_w8'⟩
      replace B_r := B_r.below u_w8'
      replace B_q := B_q.below u_w8'
      replace B_o := B_o.below u_w8'
      replace ov := ov.below u_w8'
      have S_w8' := u_w8'.size
      have V_w8' : Below w.heap.size w w8' := V_wr.trans (u_w8'.mono V_wr.size)
      clear V_wr
      clear u_w8'
      have e_o_4 : w8'.cell? ⟨bo, 4, none⟩ = some (.int .i64 0) := B_o.cell 4
      have f_o_4 := B_o.frozen 4
      go_upto_region 10 with fail
      clear e_o_4 f_o_4
      have QVV := Lib.hid ov.feet
      have Q_ov := Lib.hid (fun q (hq : q ∈ foot (some (⟨gv, 0, none⟩ : Addr)) cv) => (show w.heap.size + 2 ≤ q ∧ q < bo from QV.out q hq))
      have g_1 : Only [bo] w8' (w8'.setCell ⟨bo, 4, none⟩ (.int .i64 D0)) := (Only.refl _ _).setCell _ _ (by simp)
      replace B_o := B_o.set_ 4 (.int .i64 D0)
      generalize w8'.setCell ⟨bo, 4, none⟩ (.int .i64 D0) = w9' at *
      have G := g_1
      clear g_1
      simp only [List.setIfInBounds_toArray, List.set_cons_zero, List.set_cons_succ] at B_o
      have V_w9' := (V_w8').trans (G.below (V_w8').size (fun q hq => by have := (V_w8').size; simp at hq; omega))
      replace B_r := B_r.only G (by first | (simp; done) | (simp; omega))
      replace B_q := B_q.only G (by first | (simp; done) | (simp; omega))
      replace ov := ov.only G (fun q hq hq' => by have := Q_ov.out q hq; simp at hq'; omega)
      have sG0 := G.size
      clear G
      clear V_w8'
      have S_w9' : w8'.heap.size + 0 ≤ w9'.heap.size := by omega
      clear sG0
      obtain ⟨N0, HN0⟩ : ∃ N0, N0 = w9'.heap.size := ⟨_, rfl⟩
      have NW : N0 ≤ w9'.heap.size := by rw [HN0]; exact Nat.le_refl _
      have bN : bo < N0 := by rw [HN0]; exact B_o.lt
      clear HN0
      obtain ⟨wo, rfl⟩ : ∃ wo : World, wo = wr := ⟨_, rfl⟩
      go_wp2
      go_loopw [66] (fun v wr => ∃ k sa sc ka kc, k ≤ 5 ∧ v = .int .i64 (k : Nat) ∧ N0 ≤ wr.heap.size ∧ Below w.heap.size w wr ∧ Blk wr w.heap.size 31 #[.int .i64 0, .int .i64 0, .int .i64 0, .int .i64 0, .int .i64 0, .slice none 0 0, .slice none 0 0, .int .i64 0, .slice none 0 0, .int .i64 0, .int .i64 0] ∧ Blk wr (w.heap.size + 1) 31 #[.int .i64 0, .int .i64 0, .int .i64 0, .int .i64 0, .int .i64 0, .slice none 0 0, .slice none 0 0, .int .i64 0, .slice none 0 0, .int .i64 0, .int .i64 0] ∧ Own wr (w.heap.size + 2) (some ⟨gv, 0, none⟩) 5 cv (dlL p key) ∧ Blk wr bo 94 #[.int .i64 p, .int .i64 0, .int .i64 x, .int .i64 M0, .int .i64 D0, .slice sa k sc, .slice ka k kc, .int .i64 0, .slice none 0 0, .int .i64 0, .int .i64 0, .int .i64 p, .int .i64 1, .int .i64 z, .int .i64 M1, .int .i64 0, .slice none 0 0, .slice none 0 0, .int .i64 0, .slice none 0 0, .int .i64 0, .int .i64 0] ∧ OwnF 2 eTagged wr N0 sa k sc (dlSh p key 0 k) ∧ Own wr N0 ka k kc (dlK p key 0 k) ∧ Disj (foot sa sc) (foot ka kc)) (fun v _ => 5 - (intOf v).toNat)
      case atStart => exact ⟨0, none, 0, none, 0, by omega, rfl, NW, V_w9', B_r, B_q, ov, B_o, OwnC.nil0 _ _ _ _ _, Own.nil0 _ _ _, fun q hq _ => by simp [foot, rowOf] at hq⟩
      case round =>
        obtain ⟨k, sa, sc, ka, kc, hk5, rfl, NR, V_wr, B_r, B_q, ov, B_o, own, ok, dj⟩ := hrel
        by_cases hlt : k < 5
        · have hlt' : (k : Int) < 5 := by omega
          have HS : Hid (dlSh p key 0 (k + 1) = dlSh p key 0 k ++ [dlS p key 0 k, dlT p key 0 k]) := Lib.hid rfl
          have HKS := Lib.hid (dlK_succ p key 0 k)
          have HW1 := Lib.hid (WB.key (a := 1) (b := (k : Int)) hk.out (by omega) (by omega))
          have HW2 := Lib.hid (WB.key (a := 4) (b := (k : Int)) hk.out (by omega) (by omega))
          have HW3 := Lib.hid (WB.key (a := 3) (b := (k : Int)) hk.out (by omega) (by omega))
          have CN1 := fun (W : World) (a : Option Addr) (n c : Nat) (h : Ints W a n c [key, 1, (k : Int), 61]) (hn : n ≤ 900000) => numberFrom_any a n c [key, 1, (k : Int), 61] p W h hn HW1.out (by omega) (by omega)
          have CN2 := fun (W : World) (a : Option Addr) (n c : Nat) (h : Ints W a n c [key, 4, (k : Int), 61]) (hn : n ≤ 900000) => numberFrom_any a n c [key, 4, (k : Int), 61] p W h hn HW2.out (by omega) (by omega)
          have CN3 := fun (W : World) (a : Option Addr) (n c : Nat) (h : Ints W a n c [key, 3, (k : Int), 61]) (hn : n ≤ 900000) => numberFrom_any a n c [key, 3, (k : Int), 61] p W h hn HW3.out (by omega) (by omega)
          have xv := ov.cellG k hlt
          have rX := dlL_at p key hp k hlt
          have rR := numI_range [key, 1, (k : Int), 61] p (by omega)
          have rS := dlS_rng p key 0 k hp
          have rY := numI_range [key, 4, (k : Int), 61] p (by omega)
          have HSS : Hid (dlS p key 0 k = numI [key, 1, (k : Int), 61] p) := Lib.hid rfl
          have HTT : Hid (dlT p key 0 k = (dlS p key 0 k * D1 + numI [key, 4, (k : Int), 61] p) % p) := Lib.hid (by rw [hD1.out]; rfl)
          have HKK : Hid (numI [key, 3 + 0, (k : Int), 61] p = numI [key, 3, (k : Int), 61] p) := Lib.hid rfl
          rw [HKK.out] at HKS
          clear HKK
          generalize (dlL p key).getD k 0 = X at *
          generalize numI [key, 1, (k : Int), 61] p = R at *
          generalize numI [key, 4, (k : Int), 61] p = Y at *
          generalize numI [key, 3, (k : Int), 61] p = K9 at *
          generalize dlS p key 0 k = s at *
          generalize dlT p key 0 k = T9 at *
          replace CN1 := Lib.hid CN1
          replace CN2 := Lib.hid CN2
          replace CN3 := Lib.hid CN3
          have m0 : 0 ≤ s * D1 := Int.mul_nonneg rS.1 (by omega)
          have m1 : s * D1 ≤ 250 * 250 := Int.mul_le_mul (by omega) (by omega) (by omega) (by omega)
          have t1 := Lib.hid (show IntKind.i64.wrap (s * D1) = s * D1 from IntWalk.i64_in _ (by omega))
          have t2 := Lib.hid (show IntKind.i64.wrap (s * D1 + Y) = s * D1 + Y from IntWalk.i64_in _ (by omega))
          clear m0 m1
          have tS : IntKind.i64.wrap (X - R) = X - R := IntWalk.i64_in _ (by omega)
          go_wp2_with fail
          clear xv
          have l1 : Own (wr.alloc (.cells #[.int .i64 key, .int .i64 1, .int .i64 ((k : Int)), .int .i64 61] 3)) wr.heap.size (some ⟨wr.heap.size, 0, none⟩) 4 4 [key, 1, (k : Int), 61] := Own.lit wr wr.heap.size [key, 1, (k : Int), 61] (Nat.le_refl _) (by simp [maxLen])
          replace B_r := Blk.alloc B_r (.cells #[.int .i64 key, .int .i64 1, .int .i64 ((k : Int)), .int .i64 61] 3)
          replace B_q := Blk.alloc B_q (.cells #[.int .i64 key, .int .i64 1, .int .i64 ((k : Int)), .int .i64 61] 3)
          replace B_o := Blk.alloc B_o (.cells #[.int .i64 key, .int .i64 1, .int .i64 ((k : Int)), .int .i64 61] 3)
          replace ov := ov.alloc (.cells #[.int .i64 key, .int .i64 1, .int .i64 ((k : Int)), .int .i64 61] 3)
          replace own := own.alloc (.cells #[.int .i64 key, .int .i64 1, .int .i64 ((k : Int)), .int .i64 61] 3)
          replace ok := ok.alloc (.cells #[.int .i64 key, .int .i64 1, .int .i64 ((k : Int)), .int .i64 61] 3)
          have V_w10' : Below w.heap.size w (wr.alloc (.cells #[.int .i64 key, .int .i64 1, .int .i64 ((k : Int)), .int .i64 61] 3)) := V_wr.alloc V_wr.size _
          have S_w10' : wr.heap.size < (wr.alloc (.cells #[.int .i64 key, .int .i64 1, .int .i64 ((k : Int)), .int .i64 61] 3)).heap.size := by simp
          generalize (wr.alloc (.cells #[.int .i64 key, .int .i64 1, .int .i64 ((k : Int)), .int .i64 61] 3)) = w10' at *
          clear V_wr
          refine (CN1.out _ _ _ _ l1.ints (by omega)).mono ?_
          rintro e w11' ⟨rfl, u_w11'⟩
          replace B_r := B_r.below u_w11'
          replace B_q := B_q.below u_w11'
          replace B_o := B_o.below u_w11'
          replace ov := ov.below u_w11'
          replace own := own.below u_w11'
          replace ok := ok.below u_w11'
          replace l1 := l1.below u_w11'
          have S_w11' := u_w11'.size
          have V_w11' : Below w.heap.size w w11' := V_w10'.trans (u_w11'.mono V_w10'.size)
          clear V_w10'
          clear u_w11'
          clear l1
          clear CN1
          have HS9 := HSS.out
          subst HS9
          go_wp2_with fail
          have l2 : Own (w11'.alloc (.cells #[.int .i64 key, .int .i64 4, .int .i64 ((k : Int)), .int .i64 61] 3)) w11'.heap.size (some ⟨w11'.heap.size, 0, none⟩) 4 4 [key, 4, (k : Int), 61] := Own.lit w11' w11'.heap.size [key, 4, (k : Int), 61] (Nat.le_refl _) (by simp [maxLen])
          replace B_r := Blk.alloc B_r (.cells #[.int .i64 key, .int .i64 4, .int .i64 ((k : Int)), .int .i64 61] 3)
          replace B_q := Blk.alloc B_q (.cells #[.int .i64 key, .int .i64 4, .int .i64 ((k : Int)), .int .i64 61] 3)
          replace B_o := Blk.alloc B_o (.cells #[.int .i64 key, .int .i64 4, .int .i64 ((k : Int)), .int .i64 61] 3)
          replace ov := ov.alloc (.cells #[.int .i64 key, .int .i64 4, .int .i64 ((k : Int)), .int .i64 61] 3)
          replace own := own.alloc (.cells #[.int .i64 key, .int .i64 4, .int .i64 ((k : Int)), .int .i64 61] 3)
          replace ok := ok.alloc (.cells #[.int .i64 key, .int .i64 4, .int .i64 ((k : Int)), .int .i64 61] 3)
          have V_w12' : Below w.heap.size w (w11'.alloc (.cells #[.int .i64 key, .int .i64 4, .int .i64 ((k : Int)), .int .i64 61] 3)) := V_w11'.alloc V_w11'.size _
          have S_w12' : w11'.heap.size < (w11'.alloc (.cells #[.int .i64 key, .int .i64 4, .int .i64 ((k : Int)), .int .i64 61] 3)).heap.size := by simp
          generalize (w11'.alloc (.cells #[.int .i64 key, .int .i64 4, .int .i64 ((k : Int)), .int .i64 61] 3)) = w12' at *
          clear V_w11'
          refine (CN2.out _ _ _ _ l2.ints (by omega)).mono ?_
          rintro e w13' ⟨rfl, u_w13'⟩
          replace B_r := B_r.below u_w13'
          replace B_q := B_q.below u_w13'
          replace B_o := B_o.below u_w13'
          replace ov := ov.below u_w13'
          replace own := own.below u_w13'
          replace ok := ok.below u_w13'
          replace l2 := l2.below u_w13'
          have S_w13' := u_w13'.size
          have V_w13' : Below w.heap.size w w13' := V_w12'.trans (u_w13'.mono V_w12'.size)
          clear V_w12'
          clear u_w13'
          clear l2
          clear CN2 tS
          go_upto_region 17 with fail
          have NS : N0 ≤ w13'.heap.size := by omega
          have QS := Lib.hid own.feet
          have Qk := Lib.hid ok.feet
          go_cut [] (fun wx => ∃ a7 c7, Blk wx bo 94 #[.int .i64 p, .int .i64 0, .int .i64 x, .int .i64 M0, .int .i64 D0, .slice a7 (k + 1) c7, .slice ka k kc, .int .i64 0, .slice none 0 0, .int .i64 0, .int .i64 0, .int .i64 p, .int .i64 1, .int .i64 z, .int .i64 M1, .int .i64 0, .slice none 0 0, .slice none 0 0, .int .i64 0, .slice none 0 0, .int .i64 0, .int .i64 0] ∧ OwnF 2 eTagged wx N0 a7 (k + 1) c7 (dlSh p key 0 (k + 1)) ∧ Own wx N0 ka k kc (dlK p key 0 k) ∧ Disj (foot a7 c7) (foot ka kc) ∧ Blk wx w.heap.size 31 #[.int .i64 0, .int .i64 0, .int .i64 0, .int .i64 0, .int .i64 0, .slice none 0 0, .slice none 0 0, .int .i64 0, .slice none 0 0, .int .i64 0, .int .i64 0] ∧ Blk wx (w.heap.size + 1) 31 #[.int .i64 0, .int .i64 0, .int .i64 0, .int .i64 0, .int .i64 0, .slice none 0 0, .slice none 0 0, .int .i64 0, .slice none 0 0, .int .i64 0, .int .i64 0] ∧ Own wx (w.heap.size + 2) (some ⟨gv, 0, none⟩) 5 cv (dlL p key) ∧ Below w.heap.size w wx ∧ N0 ≤ wx.heap.size)
          case first =>
            have t1 := t1.out
            have t2 := t2.out
            have c0 := B_o.cell 5
            have c0' := B_o.drew.cell 5
            refine wp_region_noPanic ?_
            refine wp_region_held_drew (S := (fun _ => True)) (by kernel_rfl) ?hS15 (fun hHeld => ?go15)
            case hS15 => trivial
            refine tk (i := 0) (oi := ⟨some 90, _, _, _, _, _⟩) (v := ?v0_16) hHeld rfl ?y0_16 ?r0_16
            case y0_16 => (intro w _; first | (go_simp; first | done | with_reducible rfl) | with_reducible rfl)
            (try simp only [pt_])
            refine tk (i := 1) (oi := ⟨some 91, _, _, _, _, _⟩) (v := ?v1_17) hHeld rfl ?y1_17 ?r1_17
            case y1_17 => (intro w _; first | (go_simp; first | done | with_reducible rfl) | with_reducible rfl)
            (try simp only [pt_])
            refine tk (i := 2) (oi := ⟨some 92, _, _, _, _, _⟩) (v := ?v2_18) hHeld rfl ?y2_18 ?r2_18
            case y2_18 => (intro w _; first | (go_simp; first | done | with_reducible rfl) | with_reducible rfl)
            (try simp only [pt_])
            refine tk (i := 3) (oi := ⟨some 93, _, _, _, _, _⟩) (v := ?v3_19) hHeld rfl ?y3_19 ?r3_19
            case y3_19 => (intro w _; first | (go_simp; first | done | with_reducible rfl) | with_reducible rfl)
            (try simp only [pt_])
            refine tk (i := 5) (oi := ⟨some 95, _, _, _, _, _⟩) (v := ?v5_20) hHeld rfl ?y5_20 ?r5_20
            case y5_20 => (intro w _; first | (go_simp; first | done | with_reducible rfl) | with_reducible rfl)
            (try simp only [pt_])
            refine tk (i := 6) (oi := ⟨some 96, _, _, _, _, _⟩) (v := ?v6_21) hHeld rfl ?y6_21 ?r6_21
            case y6_21 => (intro w _; first | (go_simp; first | done | with_reducible rfl) | with_reducible rfl)
            (try simp only [pt_])
            refine tk (i := 7) (oi := ⟨some 97, _, _, _, _, _⟩) (v := ?v7_22) hHeld rfl ?y7_22 ?r7_22
            case y7_22 => (intro w _; first | (go_simp; first | done | with_reducible rfl) | with_reducible rfl)
            (try simp only [pt_])
            refine tk (i := 8) (oi := ⟨some 98, _, _, _, _, _⟩) (v := ?v8_23) hHeld rfl ?y8_23 ?r8_23
            case y8_23 => (intro w _; first | (go_simp; first | done | with_reducible rfl) | with_reducible rfl)
            (try simp only [pt_])
            refine tk (i := 9) (oi := ⟨some 99, _, _, _, _, _⟩) (v := ?v9_24) hHeld rfl ?y9_24 ?r9_24
            case y9_24 => (intro w _; first | (go_simp; first | done | with_reducible rfl) | with_reducible rfl)
            (try simp only [pt_])
            refine tk (i := 10) (oi := ⟨some 100, _, _, _, _, _⟩) (v := ?v10_25) hHeld rfl ?y10_25 ?r10_25
            case y10_25 => (intro w _; first | (go_simp; first | done | with_reducible rfl) | with_reducible rfl)
            (try simp only [pt_])
            refine tk (i := 11) (oi := ⟨some 101, _, _, _, _, _⟩) (v := ?v11_26) hHeld rfl ?y11_26 ?r11_26
            case y11_26 => (intro w _; first | (go_simp; first | done | with_reducible rfl) | with_reducible rfl)
            (try simp only [pt_])
            refine tk (i := 14) (oi := ⟨some 104, _, _, _, _, _⟩) (v := ?v14_27) hHeld rfl ?y14_27 ?r14_27
            case y14_27 => (intro w _; first | (go_simp; first | done | with_reducible rfl) | with_reducible rfl)
            (try simp only [pt_])
            refine wpAnyH_ready (rs := [4, 12]) (by kernel_rfl) (by simp) ?_
            refine AllReadyH.cons (o := ⟨some 94, _, _, _, _, _⟩) rfl (fun K hK => ?_) ?_
            go_simp
            refine hK.out _ _ trivial (fun hHeld => ?_)
            clear hK K
            (try simp only [pt_])
            refine wpAnyH_ready (rs := [12]) (by kernel_rfl) (by simp) ?_
            refine AllReadyH.cons (o := ⟨some 102, _, _, _, _, _⟩) rfl (fun K hK => ?_) ?_
            go_simp
            refine (CD1.out _).mono ?_
            rintro e wk ⟨rfl, uk⟩
            have uK : Below w13'.heap.size w13' wk := (Below.refl _ _).drew.trans uk
            have B_k := B_o.below uK
            have ck := B_k.cell 5
            have ckA := (B_k.alloc (.cells #[.int .i64 s, .int .i64 ((s * D1 + Y) % p)] 81)).cell 5
            refine hK.out _ _ trivial (fun hHeld => ?_)
            clear hK K
            (try simp only [pt_])
            refine tk (i := 13) (oi := ⟨some 103, _, _, _, _, _⟩) (v := ?v13_28) hHeld rfl ?y13_28 ?r13_28
            case y13_28 => (intro w _; first | (go_simp; first | done | with_reducible rfl) | with_reducible rfl)
            (try simp only [pt_])
            refine tk (i := 15) (oi := ⟨some 105, _, _, _, _, _⟩) (v := ?v15_29) hHeld rfl ?y15_29 ?r15_29
            case y15_29 => (intro w _; first | (go_simp; first | done | with_reducible rfl) | with_reducible rfl)
            (try simp only [pt_])
            refine wpAnyH_ready (rs := [16]) (by kernel_rfl) (by simp) ?_
            refine AllReadyH.cons (o := ⟨some 106, _, _, _, _, _⟩) rfl (fun K hK => ?_) ?_
            go_simp
            refine (mod_same _ _ _ (by omega) (by omega)).mono ?_
            rintro e w_q ⟨rfl, hwq⟩
            replace hwq := hwq.symm
            subst hwq
            refine hK.out _ _ trivial (fun hHeld => ?_)
            clear hK K
            (try simp only [pt_])
            refine tk (i := 17) (oi := ⟨some 107, _, _, _, _, _⟩) (v := ?v17_30) hHeld rfl ?y17_30 ?r17_30
            case y17_30 => (intro w _; first | (go_simp; first | done | with_reducible rfl) | with_reducible rfl)
            (try simp only [pt_])
            refine wpAnyH_ready (rs := [18]) (by kernel_rfl) (by simp) ?_
            refine AllReadyH.cons (o := ⟨some 108, _, _, _, _, _⟩) rfl (fun K hK => ?_) ?_
            go_simp
            refine hK.out _ _ trivial (fun hHeld => ?_)
            clear hK K
            (try simp only [pt_])
            refine wpAnyH_ready (rs := [19]) (by kernel_rfl) (by simp) ?_
            refine AllReadyH.cons (o := ⟨some 109, _, _, _, _, _⟩) rfl (fun K hK => ?_) ?_
            have uA : Below w13'.heap.size w13' (wk.alloc (.cells #[.int .i64 s, .int .i64 ((s * D1 + Y) % p)] 81)) := uK.alloc uK.size _
            have LIT := (OwnC.lit wk wk.heap.size 1 81 2 [.int .i64 s, .int .i64 ((s * D1 + Y) % p)] (Nat.le_refl _) rfl (by simp [maxLen])).row
            refine step_appT rfl _ _ rfl N0 sa k sc _ rfl (own.below uA) _ 1 1 [.int .i64 s, .int .i64 ((s * D1 + Y) % p)] rfl LIT (by simp [Value.oneCell']) (by omega) (Nat.le_trans NS uA.size) ?_
            intro a7 c7 w7 oc u7 g7 m7
            have G7 := Only.of_grown g7
            have B_o7 := (B_o.below uA).only G7 (fun hq => by have := (QS.out _ hq).1; omega)
            have j5 := B_o7.cell 5
            have f5 := B_o7.frozen 5
            refine hK.out _ _ trivial (fun hHeld => ?_)
            clear hK K
            (try simp only [pt_])
            refine tk (i := 20) (oi := ⟨some 110, _, _, _, _, _⟩) (v := ?v20_31) hHeld rfl ?y20_31 ?r20_31
            case y20_31 => (intro w _; first | (go_simp; first | done | with_reducible rfl) | with_reducible rfl)
            (try simp only [pt_])
            refine tk (i := 21) (oi := ⟨some 111, _, _, _, _, _⟩) (v := ?v21_32) hHeld rfl ?y21_32 ?r21_32
            case y21_32 => (intro w _; first | (go_simp; first | done | with_reducible rfl) | with_reducible rfl)
            (try simp only [pt_])
            refine wpAnyH_ready (rs := [22]) (by kernel_rfl) (by simp) ?_
            refine AllReadyH.cons (o := ⟨none, _, _, _, _, _⟩) rfl (fun K hK => ?_) ?_
            have GS : Only [bo] w7 (w7.setCell ⟨bo, 5, none⟩ (.slice a7 (k + 1) c7)) := (Only.refl _ _).setCell _ _ (by simp)
            have B_oS := B_o7.set_ 5 (.slice a7 (k + 1) c7)
            go_simp
            generalize w7.setCell ⟨bo, 5, none⟩ (.slice a7 (k + 1) c7) = wS at *
            refine hK.out _ _ trivial (fun hHeld => ?_)
            clear hK K
            (try simp only [pt_])
            refine wpAnyH_done (by kernel_rfl) ?_ _
            refine NoPanic.normal ?_
            rotate_left 1
            exact AllReadyH.nil
            exact AllReadyH.nil
            exact AllReadyH.nil
            exact AllReadyH.nil
            exact AllReadyH.nil
            refine AllReadyH.cons (o := ⟨some 102, _, _, _, _, _⟩) rfl (fun K hK => ?_) ?_
            go_simp
            refine (CD1.out _).mono ?_
            rintro e wk ⟨rfl, uk⟩
            have uK : Below w13'.heap.size w13' wk := (Below.refl _ _).drew.trans uk
            have B_k := B_o.below uK
            have ck := B_k.cell 5
            have ckA := (B_k.alloc (.cells #[.int .i64 s, .int .i64 ((s * D1 + Y) % p)] 81)).cell 5
            refine hK.out _ _ trivial (fun hHeld => ?_)
            clear hK K
            (try simp only [pt_])
            refine tk (i := 13) (oi := ⟨some 103, _, _, _, _, _⟩) (v := ?v13_33) hHeld rfl ?y13_33 ?r13_33
            case y13_33 => (intro w _; first | (go_simp; first | done | with_reducible rfl) | with_reducible rfl)
            (try simp only [pt_])
            refine tk (i := 15) (oi := ⟨some 105, _, _, _, _, _⟩) (v := ?v15_34) hHeld rfl ?y15_34 ?r15_34
            case y15_34 => (intro w _; first | (go_simp; first | done | with_reducible rfl) | with_reducible rfl)
            (try simp only [pt_])
            refine wpAnyH_ready (rs := [4, 16]) (by kernel_rfl) (by simp) ?_
            refine AllReadyH.cons (o := ⟨some 94, _, _, _, _, _⟩) rfl (fun K hK => ?_) ?_
            go_simp
            refine hK.out _ _ trivial (fun hHeld => ?_)
            clear hK K
            (try simp only [pt_])
            refine wpAnyH_ready (rs := [16]) (by kernel_rfl) (by simp) ?_
            refine AllReadyH.cons (o := ⟨some 106, _, _, _, _, _⟩) rfl (fun K hK => ?_) ?_
            go_simp
            refine (mod_same _ _ _ (by omega) (by omega)).mono ?_
            rintro e w_q ⟨rfl, hwq⟩
            replace hwq := hwq.symm
            subst hwq
            refine hK.out _ _ trivial (fun hHeld => ?_)
            clear hK K
            (try simp only [pt_])
            refine tk (i := 17) (oi := ⟨some 107, _, _, _, _, _⟩) (v := ?v17_35) hHeld rfl ?y17_35 ?r17_35
            case y17_35 => (intro w _; first | (go_simp; first | done | with_reducible rfl) | with_reducible rfl)
            (try simp only [pt_])
            refine wpAnyH_ready (rs := [18]) (by kernel_rfl) (by simp) ?_
            refine AllReadyH.cons (o := ⟨some 108, _, _, _, _, _⟩) rfl (fun K hK => ?_) ?_
            go_simp
            refine hK.out _ _ trivial (fun hHeld => ?_)
            clear hK K
            (try simp only [pt_])
            refine wpAnyH_ready (rs := [19]) (by kernel_rfl) (by simp) ?_
            refine AllReadyH.cons (o := ⟨some 109, _, _, _, _, _⟩) rfl (fun K hK => ?_) ?_
            have uA : Below w13'.heap.size w13' (wk.alloc (.cells #[.int .i64 s, .int .i64 ((s * D1 + Y) % p)] 81)) := uK.alloc uK.size _
            have LIT := (OwnC.lit wk wk.heap.size 1 81 2 [.int .i64 s, .int .i64 ((s * D1 + Y) % p)] (Nat.le_refl _) rfl (by simp [maxLen])).row
            refine step_appT rfl _ _ rfl N0 sa k sc _ rfl (own.below uA) _ 1 1 [.int .i64 s, .int .i64 ((s * D1 + Y) % p)] rfl LIT (by simp [Value.oneCell']) (by omega) (Nat.le_trans NS uA.size) ?_
            intro a7 c7 w7 oc u7 g7 m7
            have G7 := Only.of_grown g7
            have B_o7 := (B_o.below uA).only G7 (fun hq => by have := (QS.out _ hq).1; omega)
            have j5 := B_o7.cell 5
            have f5 := B_o7.frozen 5
            refine hK.out _ _ trivial (fun hHeld => ?_)
            clear hK K
            (try simp only [pt_])
            refine tk (i := 20) (oi := ⟨some 110, _, _, _, _, _⟩) (v := ?v20_36) hHeld rfl ?y20_36 ?r20_36
            case y20_36 => (intro w _; first | (go_simp; first | done | with_reducible rfl) | with_reducible rfl)
            (try simp only [pt_])
            refine tk (i := 21) (oi := ⟨some 111, _, _, _, _, _⟩) (v := ?v21_37) hHeld rfl ?y21_37 ?r21_37
            case y21_37 => (intro w _; first | (go_simp; first | done | with_reducible rfl) | with_reducible rfl)
            (try simp only [pt_])
            refine wpAnyH_ready (rs := [22]) (by kernel_rfl) (by simp) ?_
            refine AllReadyH.cons (o := ⟨none, _, _, _, _, _⟩) rfl (fun K hK => ?_) ?_
            have GS : Only [bo] w7 (w7.setCell ⟨bo, 5, none⟩ (.slice a7 (k + 1) c7)) := (Only.refl _ _).setCell _ _ (by simp)
            have B_oS := B_o7.set_ 5 (.slice a7 (k + 1) c7)
            go_simp
            generalize w7.setCell ⟨bo, 5, none⟩ (.slice a7 (k + 1) c7) = wS at *
            refine hK.out _ _ trivial (fun hHeld => ?_)
            clear hK K
            (try simp only [pt_])
            refine wpAnyH_done (by kernel_rfl) ?_ _
            refine NoPanic.normal ?_
            rotate_left 1
            exact AllReadyH.nil
            exact AllReadyH.nil
            exact AllReadyH.nil
            exact AllReadyH.nil
            refine AllReadyH.cons (o := ⟨some 106, _, _, _, _, _⟩) rfl (fun K hK => ?_) ?_
            go_simp
            refine (mod_same _ _ _ (by omega) (by omega)).mono ?_
            rintro e w_q ⟨rfl, hwq⟩
            replace hwq := hwq.symm
            subst hwq
            refine hK.out _ _ trivial (fun hHeld => ?_)
            clear hK K
            (try simp only [pt_])
            refine tk (i := 17) (oi := ⟨some 107, _, _, _, _, _⟩) (v := ?v17_38) hHeld rfl ?y17_38 ?r17_38
            case y17_38 => (intro w _; first | (go_simp; first | done | with_reducible rfl) | with_reducible rfl)
            (try simp only [pt_])
            refine wpAnyH_ready (rs := [4, 18]) (by kernel_rfl) (by simp) ?_
            refine AllReadyH.cons (o := ⟨some 94, _, _, _, _, _⟩) rfl (fun K hK => ?_) ?_
            go_simp
            refine hK.out _ _ trivial (fun hHeld => ?_)
            clear hK K
            (try simp only [pt_])
            refine wpAnyH_ready (rs := [18]) (by kernel_rfl) (by simp) ?_
            refine AllReadyH.cons (o := ⟨some 108, _, _, _, _, _⟩) rfl (fun K hK => ?_) ?_
            go_simp
            refine hK.out _ _ trivial (fun hHeld => ?_)
            clear hK K
            (try simp only [pt_])
            refine wpAnyH_ready (rs := [19]) (by kernel_rfl) (by simp) ?_
            refine AllReadyH.cons (o := ⟨some 109, _, _, _, _, _⟩) rfl (fun K hK => ?_) ?_
            have uA : Below w13'.heap.size w13' (wk.alloc (.cells #[.int .i64 s, .int .i64 ((s * D1 + Y) % p)] 81)) := uK.alloc uK.size _
            have LIT := (OwnC.lit wk wk.heap.size 1 81 2 [.int .i64 s, .int .i64 ((s * D1 + Y) % p)] (Nat.le_refl _) rfl (by simp [maxLen])).row
            refine step_appT rfl _ _ rfl N0 sa k sc _ rfl (own.below uA) _ 1 1 [.int .i64 s, .int .i64 ((s * D1 + Y) % p)] rfl LIT (by simp [Value.oneCell']) (by omega) (Nat.le_trans NS uA.size) ?_
            intro a7 c7 w7 oc u7 g7 m7
            have G7 := Only.of_grown g7
            have B_o7 := (B_o.below uA).only G7 (fun hq => by have := (QS.out _ hq).1; omega)
            have j5 := B_o7.cell 5
            have f5 := B_o7.frozen 5
            refine hK.out _ _ trivial (fun hHeld => ?_)
            clear hK K
            (try simp only [pt_])
            refine tk (i := 20) (oi := ⟨some 110, _, _, _, _, _⟩) (v := ?v20_39) hHeld rfl ?y20_39 ?r20_39
            case y20_39 => (intro w _; first | (go_simp; first | done | with_reducible rfl) | with_reducible rfl)
            (try simp only [pt_])
            refine tk (i := 21) (oi := ⟨some 111, _, _, _, _, _⟩) (v := ?v21_40) hHeld rfl ?y21_40 ?r21_40
            case y21_40 => (intro w _; first | (go_simp; first | done | with_reducible rfl) | with_reducible rfl)
            (try simp only [pt_])
            refine wpAnyH_ready (rs := [22]) (by kernel_rfl) (by simp) ?_
            refine AllReadyH.cons (o := ⟨none, _, _, _, _, _⟩) rfl (fun K hK => ?_) ?_
            have GS : Only [bo] w7 (w7.setCell ⟨bo, 5, none⟩ (.slice a7 (k + 1) c7)) := (Only.refl _ _).setCell _ _ (by simp)
            have B_oS := B_o7.set_ 5 (.slice a7 (k + 1) c7)
            go_simp
            generalize w7.setCell ⟨bo, 5, none⟩ (.slice a7 (k + 1) c7) = wS at *
            refine hK.out _ _ trivial (fun hHeld => ?_)
            clear hK K
            (try simp only [pt_])
            refine wpAnyH_done (by kernel_rfl) ?_ _
            refine NoPanic.normal ?_
            rotate_left 1
            exact AllReadyH.nil
            exact AllReadyH.nil
            exact AllReadyH.nil
            refine AllReadyH.cons (o := ⟨some 108, _, _, _, _, _⟩) rfl (fun K hK => ?_) ?_
            go_simp
            refine hK.out _ _ trivial (fun hHeld => ?_)
            clear hK K
            (try simp only [pt_])
            refine wpAnyH_ready (rs := [4]) (by kernel_rfl) (by simp) ?_
            refine AllReadyH.cons (o := ⟨some 94, _, _, _, _, _⟩) rfl (fun K hK => ?_) ?_
            go_simp
            refine hK.out _ _ trivial (fun hHeld => ?_)
            clear hK K
            (try simp only [pt_])
            refine wpAnyH_ready (rs := [19]) (by kernel_rfl) (by simp) ?_
            refine AllReadyH.cons (o := ⟨some 109, _, _, _, _, _⟩) rfl (fun K hK => ?_) ?_
            have uA : Below w13'.heap.size w13' (wk.alloc (.cells #[.int .i64 s, .int .i64 ((s * D1 + Y) % p)] 81)) := uK.alloc uK.size _
            have LIT := (OwnC.lit wk wk.heap.size 1 81 2 [.int .i64 s, .int .i64 ((s * D1 + Y) % p)] (Nat.le_refl _) rfl (by simp [maxLen])).row
            refine step_appT rfl _ _ rfl N0 sa k sc _ rfl (own.below uA) _ 1 1 [.int .i64 s, .int .i64 ((s * D1 + Y) % p)] rfl LIT (by simp [Value.oneCell']) (by omega) (Nat.le_trans NS uA.size) ?_
            intro a7 c7 w7 oc u7 g7 m7
            have G7 := Only.of_grown g7
            have B_o7 := (B_o.below uA).only G7 (fun hq => by have := (QS.out _ hq).1; omega)
            have j5 := B_o7.cell 5
            have f5 := B_o7.frozen 5
            refine hK.out _ _ trivial (fun hHeld => ?_)
            clear hK K
            (try simp only [pt_])
            refine tk (i := 20) (oi := ⟨some 110, _, _, _, _, _⟩) (v := ?v20_41) hHeld rfl ?y20_41 ?r20_41
            case y20_41 => (intro w _; first | (go_simp; first | done | with_reducible rfl) | with_reducible rfl)
            (try simp only [pt_])
            refine tk (i := 21) (oi := ⟨some 111, _, _, _, _, _⟩) (v := ?v21_42) hHeld rfl ?y21_42 ?r21_42
            case y21_42 => (intro w _; first | (go_simp; first | done | with_reducible rfl) | with_reducible rfl)
            (try simp only [pt_])
            refine wpAnyH_ready (rs := [22]) (by kernel_rfl) (by simp) ?_
            refine AllReadyH.cons (o := ⟨none, _, _, _, _, _⟩) rfl (fun K hK => ?_) ?_
            have GS : Only [bo] w7 (w7.setCell ⟨bo, 5, none⟩ (.slice a7 (k + 1) c7)) := (Only.refl _ _).setCell _ _ (by simp)
            have B_oS := B_o7.set_ 5 (.slice a7 (k + 1) c7)
            go_simp
            generalize w7.setCell ⟨bo, 5, none⟩ (.slice a7 (k + 1) c7) = wS at *
            refine hK.out _ _ trivial (fun hHeld => ?_)
            clear hK K
            (try simp only [pt_])
            refine wpAnyH_done (by kernel_rfl) ?_ _
            refine NoPanic.normal ?_
            rotate_left 1
            exact AllReadyH.nil
            exact AllReadyH.nil
            exact AllReadyH.nil
            exact AllReadyH.nil
            exact AllReadyH.nil
            exact AllReadyH.nil
            all_goals
              have GT : Only (bo :: foot sa sc) w13' wS := (Only.of_below uA).trans ((G7.more (fun q hq => List.mem_cons_of_mem _ hq)).trans (GS.more (fun q hq => by simp at hq; rw [hq]; exact List.mem_cons_self)))
              have hF : ∀ q ∈ bo :: foot sa sc, q = bo ∨ N0 ≤ q := fun q hq => by
                rcases List.mem_cons.1 hq with h | h
                · exact Or.inl h
                · exact Or.inr (QS.out _ h).1
              replace B_r := B_r.only GT (fun hq => by have := hF _ hq; omega)
              replace B_q := B_q.only GT (fun hq => by have := hF _ hq; omega)
              replace ov := ov.only GT (fun q hq hq' => by have := Q_ov.out _ hq; have := hF _ hq'; omega)
              replace ok := ok.only GT (fun q hq hq' => by
                rcases List.mem_cons.1 hq' with h | h
                · have := (Qk.out _ hq).1; omega
                · exact dj q h hq)
              have own2 : OwnF 2 eTagged w7 N0 a7 (k + 1) c7 (dlSh p key 0 (k + 1)) := by
                rw [HS.out, HTT.out]; unfold OwnF; rw [List.map_append]; exact oc
              replace own2 := OwnF.only own2 GS (fun q hq hq' => by have := (OwnF.feet own2 _ hq).1; simp at hq'; omega)
              have dj2 : Disj (foot a7 c7) (foot ka kc) := Moved.disj m7 dj (fun q hq => Nat.lt_of_lt_of_le (Qk.out _ hq).2 uA.size)
              simp only [List.setIfInBounds_toArray, List.set_cons_zero, List.set_cons_succ] at B_oS
              have VS : Below w.heap.size w wS := (V_w13').trans (GT.below ((V_w13').size) (fun q hq => by have := hF _ hq; omega))
              have NS2 := Nat.le_trans NS GT.size
              try go_wp2_with fail
              go_meet
              exact ⟨a7, c7, B_oS, own2, ok, dj2, B_r, B_q, ov, VS, NS2⟩
          clear t1 t2 QS Qk own ok dj ov B_r B_q B_o
          obtain ⟨a7, c7, B_o, own, ok, dj, B_r, B_q, ov, V_wc, NS⟩ := hcut
          have QS := Lib.hid own.feet
          have Qk := Lib.hid ok.feet
          go_upto_region 18 with fail
          have c0 := B_o.cell 6
          have c0' := B_o.drew.cell 6
          have t7 : IntKind.i64.wrap (3 : Int) = 3 := IntWalk.i64_in _ (by omega)
          have u0 : Below wc.heap.size wc (wc.alloc (.cells #[.int .i64 key, .int .i64 3, .int .i64 (k : Int), .int .i64 61] 3)).drew := ((Below.refl _ _).alloc (Nat.le_refl _) _).drew
          have cl := (B_o.below u0).cell 6
          have cl' := (B_o.alloc (.cells #[.int .i64 key, .int .i64 3, .int .i64 (k : Int), .int .i64 61] 3)).cell 6
          have IL := ((Own.lit wc wc.heap.size [key, 3, (k : Int), 61] (Nat.le_refl _) (by simp [maxLen])).drew).ints
          refine wp_region_noPanic ?_
          refine wp_region_held_drew (S := (fun _ => True)) (by kernel_rfl) ?hS43 (fun hHeld => ?go43)
          case hS43 => trivial
          refine tk (i := 0) (oi := ⟨some 112, _, _, _, _, _⟩) (v := ?v0_44) hHeld rfl ?y0_44 ?r0_44
          case y0_44 => (intro w _; first | (go_simp; first | done | with_reducible rfl) | with_reducible rfl)
          (try simp only [pt_])
          refine tk (i := 1) (oi := ⟨some 113, _, _, _, _, _⟩) (v := ?v1_45) hHeld rfl ?y1_45 ?r1_45
          case y1_45 => (intro w _; first | (go_simp; first | done | with_reducible rfl) | with_reducible rfl)
          (try simp only [pt_])
          refine tk (i := 2) (oi := ⟨some 114, _, _, _, _, _⟩) (v := ?v2_46) hHeld rfl ?y2_46 ?r2_46
          case y2_46 => (intro w _; first | (go_simp; first | done | with_reducible rfl) | with_reducible rfl)
          (try simp only [pt_])
          refine tk (i := 3) (oi := ⟨some 115, _, _, _, _, _⟩) (v := ?v3_47) hHeld rfl ?y3_47 ?r3_47
          case y3_47 => (intro w _; first | (go_simp; first | done | with_reducible rfl) | with_reducible rfl)
          (try simp only [pt_])
          refine tk (i := 5) (oi := ⟨some 117, _, _, _, _, _⟩) (v := ?v5_48) hHeld rfl ?y5_48 ?r5_48
          case y5_48 => (intro w _; first | (go_simp; first | done | with_reducible rfl) | with_reducible rfl)
          (try simp only [pt_])
          refine tk (i := 6) (oi := ⟨some 118, _, _, _, _, _⟩) (v := ?v6_49) hHeld rfl ?y6_49 ?r6_49
          case y6_49 => (intro w _; first | (go_simp; first | done | with_reducible rfl) | with_reducible rfl)
          (try simp only [pt_])
          refine tk (i := 7) (oi := ⟨some 119, _, _, _, _, _⟩) (v := ?v7_50) hHeld rfl ?y7_50 ?r7_50
          case y7_50 => (intro w _; first | (go_simp; first | done | with_reducible rfl) | with_reducible rfl)
          (try simp only [pt_])
          refine tk (i := 8) (oi := ⟨some 120, _, _, _, _, _⟩) (v := ?v8_51) hHeld rfl ?y8_51 ?r8_51
          case y8_51 => (intro w _; first | (go_simp; first | done | with_reducible rfl) | with_reducible rfl)
          (try simp only [pt_])
          refine tk (i := 10) (oi := ⟨some 122, _, _, _, _, _⟩) (v := ?v10_52) hHeld rfl ?y10_52 ?r10_52
          case y10_52 => (intro w _; first | (go_simp; first | done | with_reducible rfl) | with_reducible rfl)
          (try simp only [pt_])
          refine wpAnyH_ready (rs := [4, 9]) (by kernel_rfl) (by simp) ?_
          refine AllReadyH.cons (o := ⟨some 116, _, _, _, _, _⟩) rfl (fun K hK => ?_) ?_
          go_simp
          refine hK.out _ _ trivial (fun hHeld => ?_)
          clear hK K
          (try simp only [pt_])
          refine wpAnyH_ready (rs := [9]) (by kernel_rfl) (by simp) ?_
          refine AllReadyH.cons (o := ⟨some 121, _, _, _, _, _⟩) rfl (fun K hK => ?_) ?_
          go_simp
          refine hK.out _ _ trivial (fun hHeld => ?_)
          clear hK K
          (try simp only [pt_])
          refine wpAnyH_ready (rs := [11]) (by kernel_rfl) (by simp) ?_
          refine AllReadyH.cons (o := ⟨some 123, _, _, _, _, _⟩) rfl (fun K hK => ?_) ?_
          go_simp
          refine (CN3.out _ _ _ _ IL (by simp)).mono ?_
          rintro e wn ⟨rfl, un⟩
          have uN : Below wc.heap.size wc wn := u0.trans (un.mono u0.size)
          have B_k := B_o.below uN
          have ck := B_k.cell 6
          have ckA := (B_k.alloc (.cells #[.int .i64 K9] 3)).cell 6
          refine hK.out _ _ trivial (fun hHeld => ?_)
          clear hK K
          (try simp only [pt_])
          refine wpAnyH_ready (rs := [12]) (by kernel_rfl) (by simp) ?_
          refine AllReadyH.cons (o := ⟨some 124, _, _, _, _, _⟩) rfl (fun K hK => ?_) ?_
          go_simp
          refine hK.out _ _ trivial (fun hHeld => ?_)
          clear hK K
          (try simp only [pt_])
          refine wpAnyH_ready (rs := [13]) (by kernel_rfl) (by simp) ?_
          refine AllReadyH.cons (o := ⟨some 125, _, _, _, _, _⟩) rfl (fun K hK => ?_) ?_
          have uA : Below wc.heap.size wc (wn.alloc (.cells #[.int .i64 K9] 3)) := uN.alloc uN.size _
          refine step_appJ _ rfl _ _ rfl N0 ka k kc (dlK p key 0 k) rfl (ok.below uA) _ 1 1 [K9] rfl (Ints.lit1 _ _ _) (by omega) (Nat.le_trans NS uA.size) ?_
          intro a8 c8 w7 oc u7 g7 i7 m7
          have G7 := Only.of_grown g7
          have B_o7 := (B_o.below uA).only G7 (fun hq => by have := (Qk.out _ hq).1; omega)
          have j5 := B_o7.cell 6
          have f5 := B_o7.frozen 6
          refine hK.out _ _ trivial (fun hHeld => ?_)
          clear hK K
          (try simp only [pt_])
          refine tk (i := 14) (oi := ⟨some 126, _, _, _, _, _⟩) (v := ?v14_53) hHeld rfl ?y14_53 ?r14_53
          case y14_53 => (intro w _; first | (go_simp; first | done | with_reducible rfl) | with_reducible rfl)
          (try simp only [pt_])
          refine tk (i := 15) (oi := ⟨some 127, _, _, _, _, _⟩) (v := ?v15_54) hHeld rfl ?y15_54 ?r15_54
          case y15_54 => (intro w _; first | (go_simp; first | done | with_reducible rfl) | with_reducible rfl)
          (try simp only [pt_])
          refine wpAnyH_ready (rs := [16]) (by kernel_rfl) (by simp) ?_
          refine AllReadyH.cons (o := ⟨none, _, _, _, _, _⟩) rfl (fun K hK => ?_) ?_
          have GS : Only [bo] w7 (w7.setCell ⟨bo, 6, none⟩ (.slice a8 (k + 1) c8)) := (Only.refl _ _).setCell _ _ (by simp)
          have B_oS := B_o7.set_ 6 (.slice a8 (k + 1) c8)
          go_simp
          generalize w7.setCell ⟨bo, 6, none⟩ (.slice a8 (k + 1) c8) = wS at *
          refine hK.out _ _ trivial (fun hHeld => ?_)
          clear hK K
          (try simp only [pt_])
          refine wpAnyH_done (by kernel_rfl) ?_ _
          refine NoPanic.normal ?_
          rotate_left 1
          exact AllReadyH.nil
          exact AllReadyH.nil
          exact AllReadyH.nil
          exact AllReadyH.nil
          exact AllReadyH.nil
          refine AllReadyH.cons (o := ⟨some 121, _, _, _, _, _⟩) rfl (fun K hK => ?_) ?_
          go_simp
          refine hK.out _ _ trivial (fun hHeld => ?_)
          clear hK K
          (try simp only [pt_])
          refine wpAnyH_ready (rs := [4, 11]) (by kernel_rfl) (by simp) ?_
          refine AllReadyH.cons (o := ⟨some 116, _, _, _, _, _⟩) rfl (fun K hK => ?_) ?_
          go_simp
          refine hK.out _ _ trivial (fun hHeld => ?_)
          clear hK K
          (try simp only [pt_])
          refine wpAnyH_ready (rs := [11]) (by kernel_rfl) (by simp) ?_
          refine AllReadyH.cons (o := ⟨some 123, _, _, _, _, _⟩) rfl (fun K hK => ?_) ?_
          go_simp
          refine (CN3.out _ _ _ _ IL (by simp)).mono ?_
          rintro e wn ⟨rfl, un⟩
          have uN : Below wc.heap.size wc wn := u0.trans (un.mono u0.size)
          have B_k := B_o.below uN
          have ck := B_k.cell 6
          have ckA := (B_k.alloc (.cells #[.int .i64 K9] 3)).cell 6
          refine hK.out _ _ trivial (fun hHeld => ?_)
          clear hK K
          (try simp only [pt_])
          refine wpAnyH_ready (rs := [12]) (by kernel_rfl) (by simp) ?_
          refine AllReadyH.cons (o := ⟨some 124, _, _, _, _, _⟩) rfl (fun K hK => ?_) ?_
          go_simp
          refine hK.out _ _ trivial (fun hHeld => ?_)
          clear hK K
          (try simp only [pt_])
          refine wpAnyH_ready (rs := [13]) (by kernel_rfl) (by simp) ?_
          refine AllReadyH.cons (o := ⟨some 125, _, _, _, _, _⟩) rfl (fun K hK => ?_) ?_
          have uA : Below wc.heap.size wc (wn.alloc (.cells #[.int .i64 K9] 3)) := uN.alloc uN.size _
          refine step_appJ _ rfl _ _ rfl N0 ka k kc (dlK p key 0 k) rfl (ok.below uA) _ 1 1 [K9] rfl (Ints.lit1 _ _ _) (by omega) (Nat.le_trans NS uA.size) ?_
          intro a8 c8 w7 oc u7 g7 i7 m7
          have G7 := Only.of_grown g7
          have B_o7 := (B_o.below uA).only G7 (fun hq => by have := (Qk.out _ hq).1; omega)
          have j5 := B_o7.cell 6
          have f5 := B_o7.frozen 6
          refine hK.out _ _ trivial (fun hHeld => ?_)
          clear hK K
          (try simp only [pt_])
          refine tk (i := 14) (oi := ⟨some 126, _, _, _, _, _⟩) (v := ?v14_55) hHeld rfl ?y14_55 ?r14_55
          case y14_55 => (intro w _; first | (go_simp; first | done | with_reducible rfl) | with_reducible rfl)
          (try simp only [pt_])
          refine tk (i := 15) (oi := ⟨some 127, _, _, _, _, _⟩) (v := ?v15_56) hHeld rfl ?y15_56 ?r15_56
          case y15_56 => (intro w _; first | (go_simp; first | done | with_reducible rfl) | with_reducible rfl)
          (try simp only [pt_])
          refine wpAnyH_ready (rs := [16]) (by kernel_rfl) (by simp) ?_
          refine AllReadyH.cons (o := ⟨none, _, _, _, _, _⟩) rfl (fun K hK => ?_) ?_
          have GS : Only [bo] w7 (w7.setCell ⟨bo, 6, none⟩ (.slice a8 (k + 1) c8)) := (Only.refl _ _).setCell _ _ (by simp)
          have B_oS := B_o7.set_ 6 (.slice a8 (k + 1) c8)
          go_simp
          generalize w7.setCell ⟨bo, 6, none⟩ (.slice a8 (k + 1) c8) = wS at *
          refine hK.out _ _ trivial (fun hHeld => ?_)
          clear hK K
          (try simp only [pt_])
          refine wpAnyH_done (by kernel_rfl) ?_ _
          refine NoPanic.normal ?_
          rotate_left 1
          exact AllReadyH.nil
          exact AllReadyH.nil
          exact AllReadyH.nil
          exact AllReadyH.nil
          refine AllReadyH.cons (o := ⟨some 123, _, _, _, _, _⟩) rfl (fun K hK => ?_) ?_
          go_simp
          refine (CN3.out _ _ _ _ IL (by simp)).mono ?_
          rintro e wn ⟨rfl, un⟩
          have uN : Below wc.heap.size wc wn := u0.trans (un.mono u0.size)
          have B_k := B_o.below uN
          have ck := B_k.cell 6
          have ckA := (B_k.alloc (.cells #[.int .i64 K9] 3)).cell 6
          refine hK.out _ _ trivial (fun hHeld => ?_)
          clear hK K
          (try simp only [pt_])
          refine wpAnyH_ready (rs := [4, 12]) (by kernel_rfl) (by simp) ?_
          refine AllReadyH.cons (o := ⟨some 116, _, _, _, _, _⟩) rfl (fun K hK => ?_) ?_
          go_simp
          refine hK.out _ _ trivial (fun hHeld => ?_)
          clear hK K
          (try simp only [pt_])
          refine wpAnyH_ready (rs := [12]) (by kernel_rfl) (by simp) ?_
          refine AllReadyH.cons (o := ⟨some 124, _, _, _, _, _⟩) rfl (fun K hK => ?_) ?_
          go_simp
          refine hK.out _ _ trivial (fun hHeld => ?_)
          clear hK K
          (try simp only [pt_])
          refine wpAnyH_ready (rs := [13]) (by kernel_rfl) (by simp) ?_
          refine AllReadyH.cons (o := ⟨some 125, _, _, _, _, _⟩) rfl (fun K hK => ?_) ?_
          have uA : Below wc.heap.size wc (wn.alloc (.cells #[.int .i64 K9] 3)) := uN.alloc uN.size _
          refine step_appJ _ rfl _ _ rfl N0 ka k kc (dlK p key 0 k) rfl (ok.below uA) _ 1 1 [K9] rfl (Ints.lit1 _ _ _) (by omega) (Nat.le_trans NS uA.size) ?_
          intro a8 c8 w7 oc u7 g7 i7 m7
          have G7 := Only.of_grown g7
          have B_o7 := (B_o.below uA).only G7 (fun hq => by have := (Qk.out _ hq).1; omega)
          have j5 := B_o7.cell 6
          have f5 := B_o7.frozen 6
          refine hK.out _ _ trivial (fun hHeld => ?_)
          clear hK K
          (try simp only [pt_])
          refine tk (i := 14) (oi := ⟨some 126, _, _, _, _, _⟩) (v := ?v14_57) hHeld rfl ?y14_57 ?r14_57
          case y14_57 => (intro w _; first | (go_simp; first | done | with_reducible rfl) | with_reducible rfl)
          (try simp only [pt_])
          refine tk (i := 15) (oi := ⟨some 127, _, _, _, _, _⟩) (v := ?v15_58) hHeld rfl ?y15_58 ?r15_58
          case y15_58 => (intro w _; first | (go_simp; first | done | with_reducible rfl) | with_reducible rfl)
          (try simp only [pt_])
          refine wpAnyH_ready (rs := [16]) (by kernel_rfl) (by simp) ?_
          refine AllReadyH.cons (o := ⟨none, _, _, _, _, _⟩) rfl (fun K hK => ?_) ?_
          have GS : Only [bo] w7 (w7.setCell ⟨bo, 6, none⟩ (.slice a8 (k + 1) c8)) := (Only.refl _ _).setCell _ _ (by simp)
          have B_oS := B_o7.set_ 6 (.slice a8 (k + 1) c8)
          go_simp
          generalize w7.setCell ⟨bo, 6, none⟩ (.slice a8 (k + 1) c8) = wS at *
          refine hK.out _ _ trivial (fun hHeld => ?_)
          clear hK K
          (try simp only [pt_])
          refine wpAnyH_done (by kernel_rfl) ?_ _
          refine NoPanic.normal ?_
          rotate_left 1
          exact AllReadyH.nil
          exact AllReadyH.nil
          exact AllReadyH.nil
          refine AllReadyH.cons (o := ⟨some 124, _, _, _, _, _⟩) rfl (fun K hK => ?_) ?_
          go_simp
          refine hK.out _ _ trivial (fun hHeld => ?_)
          clear hK K
          (try simp only [pt_])
          refine wpAnyH_ready (rs := [4]) (by kernel_rfl) (by simp) ?_
          refine AllReadyH.cons (o := ⟨some 116, _, _, _, _, _⟩) rfl (fun K hK => ?_) ?_
          go_simp
          refine hK.out _ _ trivial (fun hHeld => ?_)
          clear hK K
          (try simp only [pt_])
          refine wpAnyH_ready (rs := [13]) (by kernel_rfl) (by simp) ?_
          refine AllReadyH.cons (o := ⟨some 125, _, _, _, _, _⟩) rfl (fun K hK => ?_) ?_
          have uA : Below wc.heap.size wc (wn.alloc (.cells #[.int .i64 K9] 3)) := uN.alloc uN.size _
          refine step_appJ _ rfl _ _ rfl N0 ka k kc (dlK p key 0 k) rfl (ok.below uA) _ 1 1 [K9] rfl (Ints.lit1 _ _ _) (by omega) (Nat.le_trans NS uA.size) ?_
          intro a8 c8 w7 oc u7 g7 i7 m7
          have G7 := Only.of_grown g7
          have B_o7 := (B_o.below uA).only G7 (fun hq => by have := (Qk.out _ hq).1; omega)
          have j5 := B_o7.cell 6
          have f5 := B_o7.frozen 6
          refine hK.out _ _ trivial (fun hHeld => ?_)
          clear hK K
          (try simp only [pt_])
          refine tk (i := 14) (oi := ⟨some 126, _, _, _, _, _⟩) (v := ?v14_59) hHeld rfl ?y14_59 ?r14_59
          case y14_59 => (intro w _; first | (go_simp; first | done | with_reducible rfl) | with_reducible rfl)
          (try simp only [pt_])
          refine tk (i := 15) (oi := ⟨some 127, _, _, _, _, _⟩) (v := ?v15_60) hHeld rfl ?y15_60 ?r15_60
          case y15_60 => (intro w _; first | (go_simp; first | done | with_reducible rfl) | with_reducible rfl)
          (try simp only [pt_])
          refine wpAnyH_ready (rs := [16]) (by kernel_rfl) (by simp) ?_
          refine AllReadyH.cons (o := ⟨none, _, _, _, _, _⟩) rfl (fun K hK => ?_) ?_
          have GS : Only [bo] w7 (w7.setCell ⟨bo, 6, none⟩ (.slice a8 (k + 1) c8)) := (Only.refl _ _).setCell _ _ (by simp)
          have B_oS := B_o7.set_ 6 (.slice a8 (k + 1) c8)
          go_simp
          generalize w7.setCell ⟨bo, 6, none⟩ (.slice a8 (k + 1) c8) = wS at *
          refine hK.out _ _ trivial (fun hHeld => ?_)
          clear hK K
          (try simp only [pt_])
          refine wpAnyH_done (by kernel_rfl) ?_ _
          refine NoPanic.normal ?_
          rotate_left 1
          exact AllReadyH.nil
          exact AllReadyH.nil
          exact AllReadyH.nil
          exact AllReadyH.nil
          exact AllReadyH.nil
          exact AllReadyH.nil
          all_goals
            have GT : Only (bo :: foot ka kc) wc wS := (Only.of_below uA).trans ((G7.more (fun q hq => List.mem_cons_of_mem _ hq)).trans (GS.more (fun q hq => by simp at hq; rw [hq]; exact List.mem_cons_self)))
            have hF : ∀ q ∈ bo :: foot ka kc, q = bo ∨ N0 ≤ q := fun q hq => by
              rcases List.mem_cons.1 hq with h | h
              · exact Or.inl h
              · exact Or.inr (Qk.out _ h).1
            replace B_r := B_r.only GT (fun hq => by have := hF _ hq; omega)
            replace B_q := B_q.only GT (fun hq => by have := hF _ hq; omega)
            replace ov := ov.only GT (fun q hq hq' => by have := Q_ov.out _ hq; have := hF _ hq'; omega)
            replace own := OwnF.only own GT (fun q hq hq' => by
              rcases List.mem_cons.1 hq' with h | h
              · have := (QS.out _ hq).1; omega
              · exact dj q hq h)
            have ok2 : Own w7 N0 a8 (k + 1) c8 (dlK p key 0 (k + 1)) := by
              rw [HKS.out]; exact oc
            replace ok2 := ok2.only GS (fun q hq hq' => by have := (ok2.feet _ hq).1; simp at hq'; omega)
            have dj2 : Disj (foot a7 c7) (foot a8 c8) := fun q hq hq' => Moved.disj m7 (fun q hq hq' => dj q hq' hq) (fun q hq => Nat.lt_of_lt_of_le (QS.out _ hq).2 uA.size) q hq' hq
            simp only [List.setIfInBounds_toArray, List.set_cons_zero, List.set_cons_succ] at B_oS
            have VS : Below w.heap.size w wS := (V_wc).trans (GT.below ((V_wc).size) (fun q hq => by have := hF _ hq; omega))
            have NS2 := Nat.le_trans NS GT.size
            clear GT hF G7 GS B_o7 j5 f5 u7 g7 m7 oc c0 c0' cl cl' u0 IL t7
            go_wp2
            go_roundw
            case rel => exact ⟨k + 1, a7, c7, a8, c8, by omega, by go_num, NS2, VS, B_r, B_q, ov, B_oS, own, ok2, dj2⟩
            case measure => simp [intOf]; omega
        · obtain rfl : k = 5 := by omega
          have QS := Lib.hid own.feet
          have Qk := Lib.hid ok.feet
          go_wp2
          go_roundw
          case rel => exact ⟨1, by omega, by go_num, V_wr, by omega, B_r, B_q, ov, Or.inr (Or.inl ⟨sa, sc, ka, kc, rfl, B_o, OwnF.lower own (by omega), ok.lower (by omega), dj⟩)⟩
          case measure => simp [intOf]
    · rw [show ((1 : Nat) : Int) = 1 from rfl]
      go_wp2_with fail
      refine (CD1.out _).mono ?_
      rintro e w14' ⟨rfl, u_w14'⟩
      replace B_r := B_r.below u_w14'
      replace B_q := B_q.below u_w14'
      replace B_o := B_o.below u_w14'
      replace ov := ov.below u_w14'
      replace sh0 := sh0.below u_w14'
      replace ke0 := ke0.below u_w14'
      have S_w14' := u_w14'.size
      have V_w14' : Below w.heap.size w w14' := V_wr.trans (u_w14'.mono V_wr.size)
      clear V_wr
      clear u_w14'
      have e_o_15 : w14'.cell? ⟨bo, 15, none⟩ = some (.int .i64 0) := B_o.cell 15
      have f_o_15 := B_o.frozen 15
      go_upto_region 10 with fail
      clear e_o_15 f_o_15
      have QVV := Lib.hid ov.feet
      have Q_ov := Lib.hid (fun q (hq : q ∈ foot (some (⟨gv, 0, none⟩ : Addr)) cv) => (show w.heap.size + 2 ≤ q ∧ q < bo from QV.out q hq))
      have Q_sh0 := Lib.hid sh0.feet
      have Q_ke0 := Lib.hid ke0.feet
      have g_1 : Only [bo] w14' (w14'.setCell ⟨bo, 15, none⟩ (.int .i64 D1)) := (Only.refl _ _).setCell _ _ (by simp)
      replace B_o := B_o.set_ 15 (.int .i64 D1)
      generalize w14'.setCell ⟨bo, 15, none⟩ (.int .i64 D1) = w15' at *
      have G := g_1
      clear g_1
      simp only [List.setIfInBounds_toArray, List.set_cons_zero, List.set_cons_succ] at B_o
      have V_w15' := (V_w14').trans (G.below (V_w14').size (fun q hq => by have := (V_w14').size; simp at hq; omega))
      replace B_r := B_r.only G (by first | (simp; done) | (simp; omega))
      replace B_q := B_q.only G (by first | (simp; done) | (simp; omega))
      replace ov := ov.only G (fun q hq hq' => by have := Q_ov.out q hq; simp at hq'; omega)
      replace sh0 := sh0.only G (fun q hq hq' => by have := Q_sh0.out q hq; simp at hq'; omega)
      replace ke0 := ke0.only G (fun q hq hq' => by have := Q_ke0.out q hq; simp at hq'; omega)
      have sG0 := G.size
      clear G
      clear V_w14'
      have S_w15' : w14'.heap.size + 0 ≤ w15'.heap.size := by omega
      clear sG0
      obtain ⟨N0, HN0⟩ : ∃ N0, N0 = w15'.heap.size := ⟨_, rfl⟩
      have NW : N0 ≤ w15'.heap.size := by rw [HN0]; exact Nat.le_refl _
      have bN : bo < N0 := by rw [HN0]; exact B_o.lt
      have Qs0 := Lib.hid (show ∀ q ∈ foot sa0 sc0, bo + 1 ≤ q ∧ q < N0 from by rw [HN0]; exact sh0.feet)
      have Qk0 := Lib.hid (show ∀ q ∈ foot ka0 kc0, bo + 1 ≤ q ∧ q < N0 from by rw [HN0]; exact ke0.feet)
      clear HN0
      obtain ⟨wo, rfl⟩ : ∃ wo : World, wo = wr := ⟨_, rfl⟩
      go_wp2
      go_loopw [66] (fun v wr => ∃ k sa sc ka kc, k ≤ 5 ∧ v = .int .i64 (k : Nat) ∧ N0 ≤ wr.heap.size ∧ Below w.heap.size w wr ∧ Blk wr w.heap.size 31 #[.int .i64 0, .int .i64 0, .int .i64 0, .int .i64 0, .int .i64 0, .slice none 0 0, .slice none 0 0, .int .i64 0, .slice none 0 0, .int .i64 0, .int .i64 0] ∧ Blk wr (w.heap.size + 1) 31 #[.int .i64 0, .int .i64 0, .int .i64 0, .int .i64 0, .int .i64 0, .slice none 0 0, .slice none 0 0, .int .i64 0, .slice none 0 0, .int .i64 0, .int .i64 0] ∧ Own wr (w.heap.size + 2) (some ⟨gv, 0, none⟩) 5 cv (dlL p key) ∧ Blk wr bo 94 #[.int .i64 p, .int .i64 0, .int .i64 x, .int .i64 M0, .int .i64 D0, .slice sa0 5 sc0, .slice ka0 5 kc0, .int .i64 0, .slice none 0 0, .int .i64 0, .int .i64 0, .int .i64 p, .int .i64 1, .int .i64 z, .int .i64 M1, .int .i64 D1, .slice sa k sc, .slice ka k kc, .int .i64 0, .slice none 0 0, .int .i64 0, .int .i64 0] ∧ OwnF 2 eTagged wr N0 sa k sc (dlSh p key 1 k) ∧ Own wr N0 ka k kc (dlK p key 1 k) ∧ Disj (foot sa sc) (foot ka kc) ∧ OwnF 2 eTagged wr (bo + 1) sa0 5 sc0 (dlSh p key 0 5) ∧ Own wr (bo + 1) ka0 5 kc0 (dlK p key 0 5)) (fun v _ => 5 - (intOf v).toNat)
      case atStart => exact ⟨0, none, 0, none, 0, by omega, rfl, NW, V_w15', B_r, B_q, ov, B_o, OwnC.nil0 _ _ _ _ _, Own.nil0 _ _ _, fun q hq _ => by simp [foot, rowOf] at hq, sh0, ke0⟩
      case round =>
        obtain ⟨k, sa, sc, ka, kc, hk5, rfl, NR, V_wr, B_r, B_q, ov, B_o, own, ok, dj, sh0, ke0⟩ := hrel
        by_cases hlt : k < 5
        · have hlt' : (k : Int) < 5 := by omega
          have HS : Hid (dlSh p key 1 (k + 1) = dlSh p key 1 k ++ [dlS p key 1 k, dlT p key 1 k]) := Lib.hid rfl
          have HKS := Lib.hid (dlK_succ p key 1 k)
          have HW1 := Lib.hid (WB.key (a := 1) (b := (k : Int)) hk.out (by omega) (by omega))
          have HW2 := Lib.hid (WB.key (a := 3) (b := (k : Int)) hk.out (by omega) (by omega))
          have HW3 := Lib.hid (WB.key (a := 4) (b := (k : Int)) hk.out (by omega) (by omega))
          have CN1 := fun (W : World) (a : Option Addr) (n c : Nat) (h : Ints W a n c [key, 1, (k : Int), 61]) (hn : n ≤ 900000) => numberFrom_any a n c [key, 1, (k : Int), 61] p W h hn HW1.out (by omega) (by omega)
          have CN2 := fun (W : World) (a : Option Addr) (n c : Nat) (h : Ints W a n c [key, 3, (k : Int), 61]) (hn : n ≤ 900000) => numberFrom_any a n c [key, 3, (k : Int), 61] p W h hn HW2.out (by omega) (by omega)
          have CN3 := fun (W : World) (a : Option Addr) (n c : Nat) (h : Ints W a n c [key, 4, (k : Int), 61]) (hn : n ≤ 900000) => numberFrom_any a n c [key, 4, (k : Int), 61] p W h hn HW3.out (by omega) (by omega)
          have xv := ov.cellG k hlt
          have rX := dlL_at p key hp k hlt
          have rR := numI_range [key, 1, (k : Int), 61] p (by omega)
          have rS := dlS_rng p key 1 k hp
          have rY := numI_range [key, 3, (k : Int), 61] p (by omega)
          have HSS : Hid (dlS p key 1 k = ((dlL p key).getD k 0 - numI [key, 1, (k : Int), 61] p) % p) := Lib.hid rfl
          have HTT : Hid (dlT p key 1 k = (dlS p key 1 k * D0 + numI [key, 3, (k : Int), 61] p) % p) := Lib.hid (by rw [hD0.out]; rfl)
          have HKK : Hid (numI [key, 3 + 1, (k : Int), 61] p = numI [key, 4, (k : Int), 61] p) := Lib.hid rfl
          rw [HKK.out] at HKS
          clear HKK
          generalize (dlL p key).getD k 0 = X at *
          generalize numI [key, 1, (k : Int), 61] p = R at *
          generalize numI [key, 3, (k : Int), 61] p = Y at *
          generalize numI [key, 4, (k : Int), 61] p = K9 at *
          generalize dlS p key 1 k = s at *
          generalize dlT p key 1 k = T9 at *
          replace CN1 := Lib.hid CN1
          replace CN2 := Lib.hid CN2
          replace CN3 := Lib.hid CN3
          have m0 : 0 ≤ s * D0 := Int.mul_nonneg rS.1 (by omega)
          have m1 : s * D0 ≤ 250 * 250 := Int.mul_le_mul (by omega) (by omega) (by omega) (by omega)
          have t1 := Lib.hid (show IntKind.i64.wrap (s * D0) = s * D0 from IntWalk.i64_in _ (by omega))
          have t2 := Lib.hid (show IntKind.i64.wrap (s * D0 + Y) = s * D0 + Y from IntWalk.i64_in _ (by omega))
          clear m0 m1
          have tS : IntKind.i64.wrap (X - R) = X - R := IntWalk.i64_in _ (by omega)
          go_wp2_with fail
          clear xv
          have l1 : Own (wr.alloc (.cells #[.int .i64 key, .int .i64 1, .int .i64 ((k : Int)), .int .i64 61] 3)) wr.heap.size (some ⟨wr.heap.size, 0, none⟩) 4 4 [key, 1, (k : Int), 61] := Own.lit wr wr.heap.size [key, 1, (k : Int), 61] (Nat.le_refl _) (by simp [maxLen])
          replace B_r := Blk.alloc B_r (.cells #[.int .i64 key, .int .i64 1, .int .i64 ((k : Int)), .int .i64 61] 3)
          replace B_q := Blk.alloc B_q (.cells #[.int .i64 key, .int .i64 1, .int .i64 ((k : Int)), .int .i64 61] 3)
          replace B_o := Blk.alloc B_o (.cells #[.int .i64 key, .int .i64 1, .int .i64 ((k : Int)), .int .i64 61] 3)
          replace ov := ov.alloc (.cells #[.int .i64 key, .int .i64 1, .int .i64 ((k : Int)), .int .i64 61] 3)
          replace sh0 := sh0.alloc (.cells #[.int .i64 key, .int .i64 1, .int .i64 ((k : Int)), .int .i64 61] 3)
          replace ke0 := ke0.alloc (.cells #[.int .i64 key, .int .i64 1, .int .i64 ((k : Int)), .int .i64 61] 3)
          replace own := own.alloc (.cells #[.int .i64 key, .int .i64 1, .int .i64 ((k : Int)), .int .i64 61] 3)
          replace ok := ok.alloc (.cells #[.int .i64 key, .int .i64 1, .int .i64 ((k : Int)), .int .i64 61] 3)
          have V_w16' : Below w.heap.size w (wr.alloc (.cells #[.int .i64 key, .int .i64 1, .int .i64 ((k : Int)), .int .i64 61] 3)) := V_wr.alloc V_wr.size _
          have S_w16' : wr.heap.size < (wr.alloc (.cells #[.int .i64 key, .int .i64 1, .int .i64 ((k : Int)), .int .i64 61] 3)).heap.size := by simp
          generalize (wr.alloc (.cells #[.int .i64 key, .int .i64 1, .int .i64 ((k : Int)), .int .i64 61] 3)) = w16' at *
          clear V_wr
          refine (CN1.out _ _ _ _ l1.ints (by omega)).mono ?_
          rintro e w17' ⟨rfl, u_w17'⟩
          replace B_r := B_r.below u_w17'
          replace B_q := B_q.below u_w17'
          replace B_o := B_o.below u_w17'
          replace ov := ov.below u_w17'
          replace sh0 := sh0.below u_w17'
          replace ke0 := ke0.below u_w17'
          replace own := own.below u_w17'
          replace ok := ok.below u_w17'
          replace l1 := l1.below u_w17'
          have S_w17' := u_w17'.size
          have V_w17' : Below w.heap.size w w17' := V_w16'.trans (u_w17'.mono V_w16'.size)
          clear V_w16'
          clear u_w17'
          clear l1
          clear CN1
          go_wp2_with fail
          refine (mod_same _ _ _ (by omega) (by omega)).mono ?_
          rintro e w_q ⟨rfl, hwq⟩
          replace hwq := hwq.symm
          subst hwq
          have HS9 := HSS.out
          rw [← HS9]
          clear HS9
          go_wp2_with fail
          have l2 : Own (w17'.alloc (.cells #[.int .i64 key, .int .i64 3, .int .i64 ((k : Int)), .int .i64 61] 3)) w17'.heap.size (some ⟨w17'.heap.size, 0, none⟩) 4 4 [key, 3, (k : Int), 61] := Own.lit w17' w17'.heap.size [key, 3, (k : Int), 61] (Nat.le_refl _) (by simp [maxLen])
          replace B_r := Blk.alloc B_r (.cells #[.int .i64 key, .int .i64 3, .int .i64 ((k : Int)), .int .i64 61] 3)
          replace B_q := Blk.alloc B_q (.cells #[.int .i64 key, .int .i64 3, .int .i64 ((k : Int)), .int .i64 61] 3)
          replace B_o := Blk.alloc B_o (.cells #[.int .i64 key, .int .i64 3, .int .i64 ((k : Int)), .int .i64 61] 3)
          replace ov := ov.alloc (.cells #[.int .i64 key, .int .i64 3, .int .i64 ((k : Int)), .int .i64 61] 3)
          replace sh0 := sh0.alloc (.cells #[.int .i64 key, .int .i64 3, .int .i64 ((k : Int)), .int .i64 61] 3)
          replace ke0 := ke0.alloc (.cells #[.int .i64 key, .int .i64 3, .int .i64 ((k : Int)), .int .i64 61] 3)
          replace own := own.alloc (.cells #[.int .i64 key, .int .i64 3, .int .i64 ((k : Int)), .int .i64 61] 3)
          replace ok := ok.alloc (.cells #[.int .i64 key, .int .i64 3, .int .i64 ((k : Int)), .int .i64 61] 3)
          have V_w18' : Below w.heap.size w (w17'.alloc (.cells #[.int .i64 key, .int .i64 3, .int .i64 ((k : Int)), .int .i64 61] 3)) := V_w17'.alloc V_w17'.size _
          have S_w18' : w17'.heap.size < (w17'.alloc (.cells #[.int .i64 key, .int .i64 3, .int .i64 ((k : Int)), .int .i64 61] 3)).heap.size := by simp
          generalize (w17'.alloc (.cells #[.int .i64 key, .int .i64 3, .int .i64 ((k : Int)), .int .i64 61] 3)) = w18' at *
          clear V_w17'
          refine (CN2.out _ _ _ _ l2.ints (by omega)).mono ?_
          rintro e w19' ⟨rfl, u_w19'⟩
          replace B_r := B_r.below u_w19'
          replace B_q := B_q.below u_w19'
          replace B_o := B_o.below u_w19'
          replace ov := ov.below u_w19'
          replace sh0 := sh0.below u_w19'
          replace ke0 := ke0.below u_w19'
          replace own := own.below u_w19'
          replace ok := ok.below u_w19'
          replace l2 := l2.below u_w19'
          have S_w19' := u_w19'.size
          have V_w19' : Below w.heap.size w w19' := V_w18'.trans (u_w19'.mono V_w18'.size)
          clear V_w18'
          clear u_w19'
          clear l2
          clear CN2 tS
          go_upto_region 17 with fail
          have NS : N0 ≤ w19'.heap.size := by omega
          have QS := Lib.hid own.feet
          have Qk := Lib.hid ok.feet
          go_cut [] (fun wx => ∃ a7 c7, Blk wx bo 94 #[.int .i64 p, .int .i64 0, .int .i64 x, .int .i64 M0, .int .i64 D0, .slice sa0 5 sc0, .slice ka0 5 kc0, .int .i64 0, .slice none 0 0, .int .i64 0, .int .i64 0, .int .i64 p, .int .i64 1, .int .i64 z, .int .i64 M1, .int .i64 D1, .slice a7 (k + 1) c7, .slice ka k kc, .int .i64 0, .slice none 0 0, .int .i64 0, .int .i64 0] ∧ OwnF 2 eTagged wx N0 a7 (k + 1) c7 (dlSh p key 1 (k + 1)) ∧ Own wx N0 ka k kc (dlK p key 1 k) ∧ Disj (foot a7 c7) (foot ka kc) ∧ Blk wx w.heap.size 31 #[.int .i64 0, .int .i64 0, .int .i64 0, .int .i64 0, .int .i64 0, .slice none 0 0, .slice none 0 0, .int .i64 0, .slice none 0 0, .int .i64 0, .int .i64 0] ∧ Blk wx (w.heap.size + 1) 31 #[.int .i64 0, .int .i64 0, .int .i64 0, .int .i64 0, .int .i64 0, .slice none 0 0, .slice none 0 0, .int .i64 0, .slice none 0 0, .int .i64 0, .int .i64 0] ∧ Own wx (w.heap.size + 2) (some ⟨gv, 0, none⟩) 5 cv (dlL p key) ∧ Below w.heap.size w wx ∧ N0 ≤ wx.heap.size ∧ OwnF 2 eTagged wx (bo + 1) sa0 5 sc0 (dlSh p key 0 5) ∧ Own wx (bo + 1) ka0 5 kc0 (dlK p key 0 5))
          case first =>
            have t1 := t1.out
            have t2 := t2.out
            have c0 := B_o.cell 16
            have c0' := B_o.drew.cell 16
            refine wp_region_noPanic ?_
            refine wp_region_held_drew (S := (fun _ => True)) (by kernel_rfl) ?hS61 (fun hHeld => ?go61)
            case hS61 => trivial
            refine tk (i := 0) (oi := ⟨some 90, _, _, _, _, _⟩) (v := ?v0_62) hHeld rfl ?y0_62 ?r0_62
            case y0_62 => (intro w _; first | (go_simp; first | done | with_reducible rfl) | with_reducible rfl)
            (try simp only [pt_])
            refine tk (i := 1) (oi := ⟨some 91, _, _, _, _, _⟩) (v := ?v1_63) hHeld rfl ?y1_63 ?r1_63
            case y1_63 => (intro w _; first | (go_simp; first | done | with_reducible rfl) | with_reducible rfl)
            (try simp only [pt_])
            refine tk (i := 2) (oi := ⟨some 92, _, _, _, _, _⟩) (v := ?v2_64) hHeld rfl ?y2_64 ?r2_64
            case y2_64 => (intro w _; first | (go_simp; first | done | with_reducible rfl) | with_reducible rfl)
            (try simp only [pt_])
            refine tk (i := 3) (oi := ⟨some 93, _, _, _, _, _⟩) (v := ?v3_65) hHeld rfl ?y3_65 ?r3_65
            case y3_65 => (intro w _; first | (go_simp; first | done | with_reducible rfl) | with_reducible rfl)
            (try simp only [pt_])
            refine tk (i := 5) (oi := ⟨some 95, _, _, _, _, _⟩) (v := ?v5_66) hHeld rfl ?y5_66 ?r5_66
            case y5_66 => (intro w _; first | (go_simp; first | done | with_reducible rfl) | with_reducible rfl)
            (try simp only [pt_])
            refine tk (i := 6) (oi := ⟨some 96, _, _, _, _, _⟩) (v := ?v6_67) hHeld rfl ?y6_67 ?r6_67
            case y6_67 => (intro w _; first | (go_simp; first | done | with_reducible rfl) | with_reducible rfl)
            (try simp only [pt_])
            refine tk (i := 7) (oi := ⟨some 97, _, _, _, _, _⟩) (v := ?v7_68) hHeld rfl ?y7_68 ?r7_68
            case y7_68 => (intro w _; first | (go_simp; first | done | with_reducible rfl) | with_reducible rfl)
            (try simp only [pt_])
            refine tk (i := 8) (oi := ⟨some 98, _, _, _, _, _⟩) (v := ?v8_69) hHeld rfl ?y8_69 ?r8_69
            case y8_69 => (intro w _; first | (go_simp; first | done | with_reducible rfl) | with_reducible rfl)
            (try simp only [pt_])
            refine tk (i := 9) (oi := ⟨some 99, _, _, _, _, _⟩) (v := ?v9_70) hHeld rfl ?y9_70 ?r9_70
            case y9_70 => (intro w _; first | (go_simp; first | done | with_reducible rfl) | with_reducible rfl)
            (try simp only [pt_])
            refine tk (i := 10) (oi := ⟨some 100, _, _, _, _, _⟩) (v := ?v10_71) hHeld rfl ?y10_71 ?r10_71
            case y10_71 => (intro w _; first | (go_simp; first | done | with_reducible rfl) | with_reducible rfl)
            (try simp only [pt_])
            refine tk (i := 11) (oi := ⟨some 101, _, _, _, _, _⟩) (v := ?v11_72) hHeld rfl ?y11_72 ?r11_72
            case y11_72 => (intro w _; first | (go_simp; first | done | with_reducible rfl) | with_reducible rfl)
            (try simp only [pt_])
            refine tk (i := 14) (oi := ⟨some 104, _, _, _, _, _⟩) (v := ?v14_73) hHeld rfl ?y14_73 ?r14_73
            case y14_73 => (intro w _; first | (go_simp; first | done | with_reducible rfl) | with_reducible rfl)
            (try simp only [pt_])
            refine wpAnyH_ready (rs := [4, 12]) (by kernel_rfl) (by simp) ?_
            refine AllReadyH.cons (o := ⟨some 94, _, _, _, _, _⟩) rfl (fun K hK => ?_) ?_
            go_simp
            refine hK.out _ _ trivial (fun hHeld => ?_)
            clear hK K
            (try simp only [pt_])
            refine wpAnyH_ready (rs := [12]) (by kernel_rfl) (by simp) ?_
            refine AllReadyH.cons (o := ⟨some 102, _, _, _, _, _⟩) rfl (fun K hK => ?_) ?_
            go_simp
            refine (CD0.out _).mono ?_
            rintro e wk ⟨rfl, uk⟩
            have uK : Below w19'.heap.size w19' wk := (Below.refl _ _).drew.trans uk
            have B_k := B_o.below uK
            have ck := B_k.cell 16
            have ckA := (B_k.alloc (.cells #[.int .i64 s, .int .i64 ((s * D0 + Y) % p)] 81)).cell 16
            refine hK.out _ _ trivial (fun hHeld => ?_)
            clear hK K
            (try simp only [pt_])
            refine tk (i := 13) (oi := ⟨some 103, _, _, _, _, _⟩) (v := ?v13_74) hHeld rfl ?y13_74 ?r13_74
            case y13_74 => (intro w _; first | (go_simp; first | done | with_reducible rfl) | with_reducible rfl)
            (try simp only [pt_])
            refine tk (i := 15) (oi := ⟨some 105, _, _, _, _, _⟩) (v := ?v15_75) hHeld rfl ?y15_75 ?r15_75
            case y15_75 => (intro w _; first | (go_simp; first | done | with_reducible rfl) | with_reducible rfl)
            (try simp only [pt_])
            refine wpAnyH_ready (rs := [16]) (by kernel_rfl) (by simp) ?_
            refine AllReadyH.cons (o := ⟨some 106, _, _, _, _, _⟩) rfl (fun K hK => ?_) ?_
            go_simp
            refine (mod_same _ _ _ (by omega) (by omega)).mono ?_
            rintro e w_q ⟨rfl, hwq⟩
            replace hwq := hwq.symm
            subst hwq
            refine hK.out _ _ trivial (fun hHeld => ?_)
            clear hK K
            (try simp only [pt_])
            refine tk (i := 17) (oi := ⟨some 107, _, _, _, _, _⟩) (v := ?v17_76) hHeld rfl ?y17_76 ?r17_76
            case y17_76 => (intro w _; first | (go_simp; first | done | with_reducible rfl) | with_reducible rfl)
            (try simp only [pt_])
            refine wpAnyH_ready (rs := [18]) (by kernel_rfl) (by simp) ?_
            refine AllReadyH.cons (o := ⟨some 108, _, _, _, _, _⟩) rfl (fun K hK => ?_) ?_
            go_simp
            refine hK.out _ _ trivial (fun hHeld => ?_)
            clear hK K
            (try simp only [pt_])
            refine wpAnyH_ready (rs := [19]) (by kernel_rfl) (by simp) ?_
            refine AllReadyH.cons (o := ⟨some 109, _, _, _, _, _⟩) rfl (fun K hK => ?_) ?_
            have uA : Below w19'.heap.size w19' (wk.alloc (.cells #[.int .i64 s, .int .i64 ((s * D0 + Y) % p)] 81)) := uK.alloc uK.size _
            have LIT := (OwnC.lit wk wk.heap.size 1 81 2 [.int .i64 s, .int .i64 ((s * D0 + Y) % p)] (Nat.le_refl _) rfl (by simp [maxLen])).row
            refine step_appT rfl _ _ rfl N0 sa k sc _ rfl (own.below uA) _ 1 1 [.int .i64 s, .int .i64 ((s * D0 + Y) % p)] rfl LIT (by simp [Value.oneCell']) (by omega) (Nat.le_trans NS uA.size) ?_
            intro a7 c7 w7 oc u7 g7 m7
            have G7 := Only.of_grown g7
            have B_o7 := (B_o.below uA).only G7 (fun hq => by have := (QS.out _ hq).1; omega)
            have j5 := B_o7.cell 16
            have f5 := B_o7.frozen 16
            refine hK.out _ _ trivial (fun hHeld => ?_)
            clear hK K
            (try simp only [pt_])
            refine tk (i := 20) (oi := ⟨some 110, _, _, _, _, _⟩) (v := ?v20_77) hHeld rfl ?y20_77 ?r20_77
            case y20_77 => (intro w _; first | (go_simp; first | done | with_reducible rfl) | with_reducible rfl)
            (try simp only [pt_])
            refine tk (i := 21) (oi := ⟨some 111, _, _, _, _, _⟩) (v := ?v21_78) hHeld rfl ?y21_78 ?r21_78
            case y21_78 => (intro w _; first | (go_simp; first | done | with_reducible rfl) | with_reducible rfl)
            (try simp only [pt_])
            refine wpAnyH_ready (rs := [22]) (by kernel_rfl) (by simp) ?_
            refine AllReadyH.cons (o := ⟨none, _, _, _, _, _⟩) rfl (fun K hK => ?_) ?_
            have GS : Only [bo] w7 (w7.setCell ⟨bo, 16, none⟩ (.slice a7 (k + 1) c7)) := (Only.refl _ _).setCell _ _ (by simp)
            have B_oS := B_o7.set_ 16 (.slice a7 (k + 1) c7)
            go_simp
            generalize w7.setCell ⟨bo, 16, none⟩ (.slice a7 (k + 1) c7) = wS at *
            refine hK.out _ _ trivial (fun hHeld => ?_)
            clear hK K
            (try simp only [pt_])
            refine wpAnyH_done (by kernel_rfl) ?_ _
            refine NoPanic.normal ?_
            rotate_left 1
            exact AllReadyH.nil
            exact AllReadyH.nil
            exact AllReadyH.nil
            exact AllReadyH.nil
            exact AllReadyH.nil
            refine AllReadyH.cons (o := ⟨some 102, _, _, _, _, _⟩) rfl (fun K hK => ?_) ?_
            go_simp
            refine (CD0.out _).mono ?_
            rintro e wk ⟨rfl, uk⟩
            have uK : Below w19'.heap.size w19' wk := (Below.refl _ _).drew.trans uk
            have B_k := B_o.below uK
            have ck := B_k.cell 16
            have ckA := (B_k.alloc (.cells #[.int .i64 s, .int .i64 ((s * D0 + Y) % p)] 81)).cell 16
            refine hK.out _ _ trivial (fun hHeld => ?_)
            clear hK K
            (try simp only [pt_])
            refine tk (i := 13) (oi := ⟨some 103, _, _, _, _, _⟩) (v := ?v13_79) hHeld rfl ?y13_79 ?r13_79
            case y13_79 => (intro w _; first | (go_simp; first | done | with_reducible rfl) | with_reducible rfl)
            (try simp only [pt_])
            refine tk (i := 15) (oi := ⟨some 105, _, _, _, _, _⟩) (v := ?v15_80) hHeld rfl ?y15_80 ?r15_80
            case y15_80 => (intro w _; first | (go_simp; first | done | with_reducible rfl) | with_reducible rfl)
            (try simp only [pt_])
            refine wpAnyH_ready (rs := [4, 16]) (by kernel_rfl) (by simp) ?_
            refine AllReadyH.cons (o := ⟨some 94, _, _, _, _, _⟩) rfl (fun K hK => ?_) ?_
            go_simp
            refine hK.out _ _ trivial (fun hHeld => ?_)
            clear hK K
            (try simp only [pt_])
            refine wpAnyH_ready (rs := [16]) (by kernel_rfl) (by simp) ?_
            refine AllReadyH.cons (o := ⟨some 106, _, _, _, _, _⟩) rfl (fun K hK => ?_) ?_
            go_simp
            refine (mod_same _ _ _ (by omega) (by omega)).mono ?_
            rintro e w_q ⟨rfl, hwq⟩
            replace hwq := hwq.symm
            subst hwq
            refine hK.out _ _ trivial (fun hHeld => ?_)
            clear hK K
            (try simp only [pt_])
            refine tk (i := 17) (oi := ⟨some 107, _, _, _, _, _⟩) (v := ?v17_81) hHeld rfl ?y17_81 ?r17_81
            case y17_81 => (intro w _; first | (go_simp; first | done | with_reducible rfl) | with_reducible rfl)
            (try simp only [pt_])
            refine wpAnyH_ready (rs := [18]) (by kernel_rfl) (by simp) ?_
            refine AllReadyH.cons (o := ⟨some 108, _, _, _, _, _⟩) rfl (fun K hK => ?_) ?_
            go_simp
            refine hK.out _ _ trivial (fun hHeld => ?_)
            clear hK K
            (try simp only [pt_])
            refine wpAnyH_ready (rs := [19]) (by kernel_rfl) (by simp) ?_
            refine AllReadyH.cons (o := ⟨some 109, _, _, _, _, _⟩) rfl (fun K hK => ?_) ?_
            have uA : Below w19'.heap.size w19' (wk.alloc (.cells #[.int .i64 s, .int .i64 ((s * D0 + Y) % p)] 81)) := uK.alloc uK.size _
            have LIT := (OwnC.lit wk wk.heap.size 1 81 2 [.int .i64 s, .int .i64 ((s * D0 + Y) % p)] (Nat.le_refl _) rfl (by simp [maxLen])).row
            refine step_appT rfl _ _ rfl N0 sa k sc _ rfl (own.below uA) _ 1 1 [.int .i64 s, .int .i64 ((s * D0 + Y) % p)] rfl LIT (by simp [Value.oneCell']) (by omega) (Nat.le_trans NS uA.size) ?_
            intro a7 c7 w7 oc u7 g7 m7
            have G7 := Only.of_grown g7
            have B_o7 := (B_o.below uA).only G7 (fun hq => by have := (QS.out _ hq).1; omega)
            have j5 := B_o7.cell 16
            have f5 := B_o7.frozen 16
            refine hK.out _ _ trivial (fun hHeld => ?_)
            clear hK K
            (try simp only [pt_])
            refine tk (i := 20) (oi := ⟨some 110, _, _, _, _, _⟩) (v := ?v20_82) hHeld rfl ?y20_82 ?r20_82
            case y20_82 => (intro w _; first | (go_simp; first | done | with_reducible rfl) | with_reducible rfl)
            (try simp only [pt_])
            refine tk (i := 21) (oi := ⟨some 111, _, _, _, _, _⟩) (v := ?v21_83) hHeld rfl ?y21_83 ?r21_83
            case y21_83 => (intro w _; first | (go_simp; first | done | with_reducible rfl) | with_reducible rfl)
            (try simp only [pt_])
            refine wpAnyH_ready (rs := [22]) (by kernel_rfl) (by simp) ?_
            refine AllReadyH.cons (o := ⟨none, _, _, _, _, _⟩) rfl (fun K hK => ?_) ?_
            have GS : Only [bo] w7 (w7.setCell ⟨bo, 16, none⟩ (.slice a7 (k + 1) c7)) := (Only.refl _ _).setCell _ _ (by simp)
            have B_oS := B_o7.set_ 16 (.slice a7 (k + 1) c7)
            go_simp
            generalize w7.setCell ⟨bo, 16, none⟩ (.slice a7 (k + 1) c7) = wS at *
            refine hK.out _ _ trivial (fun hHeld => ?_)
            clear hK K
            (try simp only [pt_])
            refine wpAnyH_done (by kernel_rfl) ?_ _
            refine NoPanic.normal ?_
            rotate_left 1
            exact AllReadyH.nil
            exact AllReadyH.nil
            exact AllReadyH.nil
            exact AllReadyH.nil
            refine AllReadyH.cons (o := ⟨some 106, _, _, _, _, _⟩) rfl (fun K hK => ?_) ?_
            go_simp
            refine (mod_same _ _ _ (by omega) (by omega)).mono ?_
            rintro e w_q ⟨rfl, hwq⟩
            replace hwq := hwq.symm
            subst hwq
            refine hK.out _ _ trivial (fun hHeld => ?_)
            clear hK K
            (try simp only [pt_])
            refine tk (i := 17) (oi := ⟨some 107, _, _, _, _, _⟩) (v := ?v17_84) hHeld rfl ?y17_84 ?r17_84
            case y17_84 => (intro w _; first | (go_simp; first | done | with_reducible rfl) | with_reducible rfl)
            (try simp only [pt_])
            refine wpAnyH_ready (rs := [4, 18]) (by kernel_rfl) (by simp) ?_
            refine AllReadyH.cons (o := ⟨some 94, _, _, _, _, _⟩) rfl (fun K hK => ?_) ?_
            go_simp
            refine hK.out _ _ trivial (fun hHeld => ?_)
            clear hK K
            (try simp only [pt_])
            refine wpAnyH_ready (rs := [18]) (by kernel_rfl) (by simp) ?_
            refine AllReadyH.cons (o := ⟨some 108, _, _, _, _, _⟩) rfl (fun K hK => ?_) ?_
            go_simp
            refine hK.out _ _ trivial (fun hHeld => ?_)
            clear hK K
            (try simp only [pt_])
            refine wpAnyH_ready (rs := [19]) (by kernel_rfl) (by simp) ?_
            refine AllReadyH.cons (o := ⟨some 109, _, _, _, _, _⟩) rfl (fun K hK => ?_) ?_
            have uA : Below w19'.heap.size w19' (wk.alloc (.cells #[.int .i64 s, .int .i64 ((s * D0 + Y) % p)] 81)) := uK.alloc uK.size _
            have LIT := (OwnC.lit wk wk.heap.size 1 81 2 [.int .i64 s, .int .i64 ((s * D0 + Y) % p)] (Nat.le_refl _) rfl (by simp [maxLen])).row
            refine step_appT rfl _ _ rfl N0 sa k sc _ rfl (own.below uA) _ 1 1 [.int .i64 s, .int .i64 ((s * D0 + Y) % p)] rfl LIT (by simp [Value.oneCell']) (by omega) (Nat.le_trans NS uA.size) ?_
            intro a7 c7 w7 oc u7 g7 m7
            have G7 := Only.of_grown g7
            have B_o7 := (B_o.below uA).only G7 (fun hq => by have := (QS.out _ hq).1; omega)
            have j5 := B_o7.cell 16
            have f5 := B_o7.frozen 16
            refine hK.out _ _ trivial (fun hHeld => ?_)
            clear hK K
            (try simp only [pt_])
            refine tk (i := 20) (oi := ⟨some 110, _, _, _, _, _⟩) (v := ?v20_85) hHeld rfl ?y20_85 ?r20_85
            case y20_85 => (intro w _; first | (go_simp; first | done | with_reducible rfl) | with_reducible rfl)
            (try simp only [pt_])
            refine tk (i := 21) (oi := ⟨some 111, _, _, _, _, _⟩) (v := ?v21_86) hHeld rfl ?y21_86 ?r21_86
            case y21_86 => (intro w _; first | (go_simp; first | done | with_reducible rfl) | with_reducible rfl)
            (try simp only [pt_])
            refine wpAnyH_ready (rs := [22]) (by kernel_rfl) (by simp) ?_
            refine AllReadyH.cons (o := ⟨none, _, _, _, _, _⟩) rfl (fun K hK => ?_) ?_
            have GS : Only [bo] w7 (w7.setCell ⟨bo, 16, none⟩ (.slice a7 (k + 1) c7)) := (Only.refl _ _).setCell _ _ (by simp)
            have B_oS := B_o7.set_ 16 (.slice a7 (k + 1) c7)
            go_simp
            generalize w7.setCell ⟨bo, 16, none⟩ (.slice a7 (k + 1) c7) = wS at *
            refine hK.out _ _ trivial (fun hHeld => ?_)
            clear hK K
            (try simp only [pt_])
            refine wpAnyH_done (by kernel_rfl) ?_ _
            refine NoPanic.normal ?_
            rotate_left 1
            exact AllReadyH.nil
            exact AllReadyH.nil
            exact AllReadyH.nil
            refine AllReadyH.cons (o := ⟨some 108, _, _, _, _, _⟩) rfl (fun K hK => ?_) ?_
            go_simp
            refine hK.out _ _ trivial (fun hHeld => ?_)
            clear hK K
            (try simp only [pt_])
            refine wpAnyH_ready (rs := [4]) (by kernel_rfl) (by simp) ?_
            refine AllReadyH.cons (o := ⟨some 94, _, _, _, _, _⟩) rfl (fun K hK => ?_) ?_
            go_simp
            refine hK.out _ _ trivial (fun hHeld => ?_)
            clear hK K
            (try simp only [pt_])
            refine wpAnyH_ready (rs := [19]) (by kernel_rfl) (by simp) ?_
            refine AllReadyH.cons (o := ⟨some 109, _, _, _, _, _⟩) rfl (fun K hK => ?_) ?_
            have uA : Below w19'.heap.size w19' (wk.alloc (.cells #[.int .i64 s, .int .i64 ((s * D0 + Y) % p)] 81)) := uK.alloc uK.size _
            have LIT := (OwnC.lit wk wk.heap.size 1 81 2 [.int .i64 s, .int .i64 ((s * D0 + Y) % p)] (Nat.le_refl _) rfl (by simp [maxLen])).row
            refine step_appT rfl _ _ rfl N0 sa k sc _ rfl (own.below uA) _ 1 1 [.int .i64 s, .int .i64 ((s * D0 + Y) % p)] rfl LIT (by simp [Value.oneCell']) (by omega) (Nat.le_trans NS uA.size) ?_
            intro a7 c7 w7 oc u7 g7 m7
            have G7 := Only.of_grown g7
            have B_o7 := (B_o.below uA).only G7 (fun hq => by have := (QS.out _ hq).1; omega)
            have j5 := B_o7.cell 16
            have f5 := B_o7.frozen 16
            refine hK.out _ _ trivial (fun hHeld => ?_)
            clear hK K
            (try simp only [pt_])
            refine tk (i := 20) (oi := ⟨some 110, _, _, _, _, _⟩) (v := ?v20_87) hHeld rfl ?y20_87 ?r20_87
            case y20_87 => (intro w _; first | (go_simp; first | done | with_reducible rfl) | with_reducible rfl)
            (try simp only [pt_])
            refine tk (i := 21) (oi := ⟨some 111, _, _, _, _, _⟩) (v := ?v21_88) hHeld rfl ?y21_88 ?r21_88
            case y21_88 => (intro w _; first | (go_simp; first | done | with_reducible rfl) | with_reducible rfl)
            (try simp only [pt_])
            refine wpAnyH_ready (rs := [22]) (by kernel_rfl) (by simp) ?_
            refine AllReadyH.cons (o := ⟨none, _, _, _, _, _⟩) rfl (fun K hK => ?_) ?_
            have GS : Only [bo] w7 (w7.setCell ⟨bo, 16, none⟩ (.slice a7 (k + 1) c7)) := (Only.refl _ _).setCell _ _ (by simp)
            have B_oS := B_o7.set_ 16 (.slice a7 (k + 1) c7)
            go_simp
            generalize w7.setCell ⟨bo, 16, none⟩ (.slice a7 (k + 1) c7) = wS at *
            refine hK.out _ _ trivial (fun hHeld => ?_)
            clear hK K
            (try simp only [pt_])
            refine wpAnyH_done (by kernel_rfl) ?_ _
            refine NoPanic.normal ?_
            rotate_left 1
            exact AllReadyH.nil
            exact AllReadyH.nil
            exact AllReadyH.nil
            exact AllReadyH.nil
            exact AllReadyH.nil
            exact AllReadyH.nil
            all_goals
              have GT : Only (bo :: foot sa sc) w19' wS := (Only.of_below uA).trans ((G7.more (fun q hq => List.mem_cons_of_mem _ hq)).trans (GS.more (fun q hq => by simp at hq; rw [hq]; exact List.mem_cons_self)))
              have hF : ∀ q ∈ bo :: foot sa sc, q = bo ∨ N0 ≤ q := fun q hq => by
                rcases List.mem_cons.1 hq with h | h
                · exact Or.inl h
                · exact Or.inr (QS.out _ h).1
              replace B_r := B_r.only GT (fun hq => by have := hF _ hq; omega)
              replace B_q := B_q.only GT (fun hq => by have := hF _ hq; omega)
              replace ov := ov.only GT (fun q hq hq' => by have := Q_ov.out _ hq; have := hF _ hq'; omega)
              replace sh0 := OwnF.only sh0 GT (fun q hq hq' => by have := Qs0.out _ hq; have := hF _ hq'; omega)
              replace ke0 := ke0.only GT (fun q hq hq' => by have := Qk0.out _ hq; have := hF _ hq'; omega)
              replace ok := ok.only GT (fun q hq hq' => by
                rcases List.mem_cons.1 hq' with h | h
                · have := (Qk.out _ hq).1; omega
                · exact dj q h hq)
              have own2 : OwnF 2 eTagged w7 N0 a7 (k + 1) c7 (dlSh p key 1 (k + 1)) := by
                rw [HS.out, HTT.out]; unfold OwnF; rw [List.map_append]; exact oc
              replace own2 := OwnF.only own2 GS (fun q hq hq' => by have := (OwnF.feet own2 _ hq).1; simp at hq'; omega)
              have dj2 : Disj (foot a7 c7) (foot ka kc) := Moved.disj m7 dj (fun q hq => Nat.lt_of_lt_of_le (Qk.out _ hq).2 uA.size)
              simp only [List.setIfInBounds_toArray, List.set_cons_zero, List.set_cons_succ] at B_oS
              have VS : Below w.heap.size w wS := (V_w19').trans (GT.below ((V_w19').size) (fun q hq => by have := hF _ hq; omega))
              have NS2 := Nat.le_trans NS GT.size
              try go_wp2_with fail
              go_meet
              exact ⟨a7, c7, B_oS, own2, ok, dj2, B_r, B_q, ov, VS, NS2, sh0, ke0⟩
          clear t1 t2 QS Qk own ok dj sh0 ke0 ov B_r B_q B_o
          obtain ⟨a7, c7, B_o, own, ok, dj, B_r, B_q, ov, V_wc, NS, sh0, ke0⟩ := hcut
          have QS := Lib.hid own.feet
          have Qk := Lib.hid ok.feet
          go_upto_region 18 with fail
          have c0 := B_o.cell 17
          have c0' := B_o.drew.cell 17
          have t7 : IntKind.i64.wrap (4 : Int) = 4 := IntWalk.i64_in _ (by omega)
          have u0 : Below wc.heap.size wc (wc.alloc (.cells #[.int .i64 key, .int .i64 4, .int .i64 (k : Int), .int .i64 61] 3)).drew := ((Below.refl _ _).alloc (Nat.le_refl _) _).drew
          have cl := (B_o.below u0).cell 17
          have cl' := (B_o.alloc (.cells #[.int .i64 key, .int .i64 4, .int .i64 (k : Int), .int .i64 61] 3)).cell 17
          have IL := ((Own.lit wc wc.heap.size [key, 4, (k : Int), 61] (Nat.le_refl _) (by simp [maxLen])).drew).ints
          refine wp_region_noPanic ?_
          refine wp_region_held_drew (S := (fun _ => True)) (by kernel_rfl) ?hS89 (fun hHeld => ?go89)
          case hS89 => trivial
          refine tk (i := 0) (oi := ⟨some 112, _, _, _, _, _⟩) (v := ?v0_90) hHeld rfl ?y0_90 ?r0_90
          case y0_90 => (intro w _; first | (go_simp; first | done | with_reducible rfl) | with_reducible rfl)
          (try simp only [pt_])
          refine tk (i := 1) (oi := ⟨some 113, _, _, _, _, _⟩) (v := ?v1_91) hHeld rfl ?y1_91 ?r1_91
          case y1_91 => (intro w _; first | (go_simp; first | done | with_reducible rfl) | with_reducible rfl)
          (try simp only [pt_])
          refine tk (i := 2) (oi := ⟨some 114, _, _, _, _, _⟩) (v := ?v2_92) hHeld rfl ?y2_92 ?r2_92
          case y2_92 => (intro w _; first | (go_simp; first | done | with_reducible rfl) | with_reducible rfl)
          (try simp only [pt_])
          refine tk (i := 3) (oi := ⟨some 115, _, _, _, _, _⟩) (v := ?v3_93) hHeld rfl ?y3_93 ?r3_93
          case y3_93 => (intro w _; first | (go_simp; first | done | with_reducible rfl) | with_reducible rfl)
          (try simp only [pt_])
          refine tk (i := 5) (oi := ⟨some 117, _, _, _, _, _⟩) (v := ?v5_94) hHeld rfl ?y5_94 ?r5_94
          case y5_94 => (intro w _; first | (go_simp; first | done | with_reducible rfl) | with_reducible rfl)
          (try simp only [pt_])
          refine tk (i := 6) (oi := ⟨some 118, _, _, _, _, _⟩) (v := ?v6_95) hHeld rfl ?y6_95 ?r6_95
          case y6_95 => (intro w _; first | (go_simp; first | done | with_reducible rfl) | with_reducible rfl)
          (try simp only [pt_])
          refine tk (i := 7) (oi := ⟨some 119, _, _, _, _, _⟩) (v := ?v7_96) hHeld rfl ?y7_96 ?r7_96
          case y7_96 => (intro w _; first | (go_simp; first | done | with_reducible rfl) | with_reducible rfl)
          (try simp only [pt_])
          refine tk (i := 8) (oi := ⟨some 120, _, _, _, _, _⟩) (v := ?v8_97) hHeld rfl ?y8_97 ?r8_97
          case y8_97 => (intro w _; first | (go_simp; first | done | with_reducible rfl) | with_reducible rfl)
          (try simp only [pt_])
          refine tk (i := 10) (oi := ⟨some 122, _, _, _, _, _⟩) (v := ?v10_98) hHeld rfl ?y10_98 ?r10_98
          case y10_98 => (intro w _; first | (go_simp; first | done | with_reducible rfl) | with_reducible rfl)
          (try simp only [pt_])
          refine wpAnyH_ready (rs := [4, 9]) (by kernel_rfl) (by simp) ?_
          refine AllReadyH.cons (o := ⟨some 116, _, _, _, _, _⟩) rfl (fun K hK => ?_) ?_
          go_simp
          refine hK.out _ _ trivial (fun hHeld => ?_)
          clear hK K
          (try simp only [pt_])
          refine wpAnyH_ready (rs := [9]) (by kernel_rfl) (by simp) ?_
          refine AllReadyH.cons (o := ⟨some 121, _, _, _, _, _⟩) rfl (fun K hK => ?_) ?_
          go_simp
          refine hK.out _ _ trivial (fun hHeld => ?_)
          clear hK K
          (try simp only [pt_])
          refine wpAnyH_ready (rs := [11]) (by kernel_rfl) (by simp) ?_
          refine AllReadyH.cons (o := ⟨some 123, _, _, _, _, _⟩) rfl (fun K hK => ?_) ?_
          go_simp
          refine (CN3.out _ _ _ _ IL (by simp)).mono ?_
          rintro e wn ⟨rfl, un⟩
          have uN : Below wc.heap.size wc wn := u0.trans (un.mono u0.size)
          have B_k := B_o.below uN
          have ck := B_k.cell 17
          have ckA := (B_k.alloc (.cells #[.int .i64 K9] 3)).cell 17
          refine hK.out _ _ trivial (fun hHeld => ?_)
          clear hK K
          (try simp only [pt_])
          refine wpAnyH_ready (rs := [12]) (by kernel_rfl) (by simp) ?_
          refine AllReadyH.cons (o := ⟨some 124, _, _, _, _, _⟩) rfl (fun K hK => ?_) ?_
          go_simp
          refine hK.out _ _ trivial (fun hHeld => ?_)
          clear hK K
          (try simp only [pt_])
          refine wpAnyH_ready (rs := [13]) (by kernel_rfl) (by simp) ?_
          refine AllReadyH.cons (o := ⟨some 125, _, _, _, _, _⟩) rfl (fun K hK => ?_) ?_
          have uA : Below wc.heap.size wc (wn.alloc (.cells #[.int .i64 K9] 3)) := uN.alloc uN.size _
          refine step_appJ _ rfl _ _ rfl N0 ka k kc (dlK p key 1 k) rfl (ok.below uA) _ 1 1 [K9] rfl (Ints.lit1 _ _ _) (by omega) (Nat.le_trans NS uA.size) ?_
          intro a8 c8 w7 oc u7 g7 i7 m7
          have G7 := Only.of_grown g7
          have B_o7 := (B_o.below uA).only G7 (fun hq => by have := (Qk.out _ hq).1; omega)
          have j5 := B_o7.cell 17
          have f5 := B_o7.frozen 17
          refine hK.out _ _ trivial (fun hHeld => ?_)
          clear hK K
          (try simp only [pt_])
          refine tk (i := 14) (oi := ⟨some 126, _, _, _, _, _⟩) (v := ?v14_99) hHeld rfl ?y14_99 ?r14_99
          case y14_99 => (intro w _; first | (go_simp; first | done | with_reducible rfl) | with_reducible rfl)
          (try simp only [pt_])
          refine tk (i := 15) (oi := ⟨some 127, _, _, _, _, _⟩) (v := ?v15_100) hHeld rfl ?y15_100 ?r15_100
          case y15_100 => (intro w _; first | (go_simp; first | done | with_reducible rfl) | with_reducible rfl)
          (try simp only [pt_])
          refine wpAnyH_ready (rs := [16]) (by kernel_rfl) (by simp) ?_
          refine AllReadyH.cons (o := ⟨none, _, _, _, _, _⟩) rfl (fun K hK => ?_) ?_
          have GS : Only [bo] w7 (w7.setCell ⟨bo, 17, none⟩ (.slice a8 (k + 1) c8)) := (Only.refl _ _).setCell _ _ (by simp)
          have B_oS := B_o7.set_ 17 (.slice a8 (k + 1) c8)
          go_simp
          generalize w7.setCell ⟨bo, 17, none⟩ (.slice a8 (k + 1) c8) = wS at *
          refine hK.out _ _ trivial (fun hHeld => ?_)
          clear hK K
          (try simp only [pt_])
          refine wpAnyH_done (by kernel_rfl) ?_ _
          refine NoPanic.normal ?_
          rotate_left 1
          exact AllReadyH.nil
          exact AllReadyH.nil
          exact AllReadyH.nil
          exact AllReadyH.nil
          exact AllReadyH.nil
          refine AllReadyH.cons (o := ⟨some 121, _, _, _, _, _⟩) rfl (fun K hK => ?_) ?_
          go_simp
          refine hK.out _ _ trivial (fun hHeld => ?_)
          clear hK K
          (try simp only [pt_])
          refine wpAnyH_ready (rs := [4, 11]) (by kernel_rfl) (by simp) ?_
          refine AllReadyH.cons (o := ⟨some 116, _, _, _, _, _⟩) rfl (fun K hK => ?_) ?_
          go_simp
          refine hK.out _ _ trivial (fun hHeld => ?_)
          clear hK K
          (try simp only [pt_])
          refine wpAnyH_ready (rs := [11]) (by kernel_rfl) (by simp) ?_
          refine AllReadyH.cons (o := ⟨some 123, _, _, _, _, _⟩) rfl (fun K hK => ?_) ?_
          go_simp
          refine (CN3.out _ _ _ _ IL (by simp)).mono ?_
          rintro e wn ⟨rfl, un⟩
          have uN : Below wc.heap.size wc wn := u0.trans (un.mono u0.size)
          have B_k := B_o.below uN
          have ck := B_k.cell 17
          have ckA := (B_k.alloc (.cells #[.int .i64 K9] 3)).cell 17
          refine hK.out _ _ trivial (fun hHeld => ?_)
          clear hK K
          (try simp only [pt_])
          refine wpAnyH_ready (rs := [12]) (by kernel_rfl) (by simp) ?_
          refine AllReadyH.cons (o := ⟨some 124, _, _, _, _, _⟩) rfl (fun K hK => ?_) ?_
          go_simp
          refine hK.out _ _ trivial (fun hHeld => ?_)
          clear hK K
          (try simp only [pt_])
          refine wpAnyH_ready (rs := [13]) (by kernel_rfl) (by simp) ?_
          refine AllReadyH.cons (o := ⟨some 125, _, _, _, _, _⟩) rfl (fun K hK => ?_) ?_
          have uA : Below wc.heap.size wc (wn.alloc (.cells #[.int .i64 K9] 3)) := uN.alloc uN.size _
          refine step_appJ _ rfl _ _ rfl N0 ka k kc (dlK p key 1 k) rfl (ok.below uA) _ 1 1 [K9] rfl (Ints.lit1 _ _ _) (by omega) (Nat.le_trans NS uA.size) ?_
          intro a8 c8 w7 oc u7 g7 i7 m7
          have G7 := Only.of_grown g7
          have B_o7 := (B_o.below uA).only G7 (fun hq => by have := (Qk.out _ hq).1; omega)
          have j5 := B_o7.cell 17
          have f5 := B_o7.frozen 17
          refine hK.out _ _ trivial (fun hHeld => ?_)
          clear hK K
          (try simp only [pt_])
          refine tk (i := 14) (oi := ⟨some 126, _, _, _, _, _⟩) (v := ?v14_101) hHeld rfl ?y14_101 ?r14_101
          case y14_101 => (intro w _; first | (go_simp; first | done | with_reducible rfl) | with_reducible rfl)
          (try simp only [pt_])
          refine tk (i := 15) (oi := ⟨some 127, _, _, _, _, _⟩) (v := ?v15_102) hHeld rfl ?y15_102 ?r15_102
          case y15_102 => (intro w _; first | (go_simp; first | done | with_reducible rfl) | with_reducible rfl)
          (try simp only [pt_])
          refine wpAnyH_ready (rs := [16]) (by kernel_rfl) (by simp) ?_
          refine AllReadyH.cons (o := ⟨none, _, _, _, _, _⟩) rfl (fun K hK => ?_) ?_
          have GS : Only [bo] w7 (w7.setCell ⟨bo, 17, none⟩ (.slice a8 (k + 1) c8)) := (Only.refl _ _).setCell _ _ (by simp)
          have B_oS := B_o7.set_ 17 (.slice a8 (k + 1) c8)
          go_simp
          generalize w7.setCell ⟨bo, 17, none⟩ (.slice a8 (k + 1) c8) = wS at *
          refine hK.out _ _ trivial (fun hHeld => ?_)
          clear hK K
          (try simp only [pt_])
          refine wpAnyH_done (by kernel_rfl) ?_ _
          refine NoPanic.normal ?_
          rotate_left 1
          exact AllReadyH.nil
          exact AllReadyH.nil
          exact AllReadyH.nil
          exact AllReadyH.nil
          refine AllReadyH.cons (o := ⟨some 123, _, _, _, _, _⟩) rfl (fun K hK => ?_) ?_
          go_simp
          refine (CN3.out _ _ _ _ IL (by simp)).mono ?_
          rintro e wn ⟨rfl, un⟩
          have uN : Below wc.heap.size wc wn := u0.trans (un.mono u0.size)
          have B_k := B_o.below uN
          have ck := B_k.cell 17
          have ckA := (B_k.alloc (.cells #[.int .i64 K9] 3)).cell 17
          refine hK.out _ _ trivial (fun hHeld => ?_)
          clear hK K
          (try simp only [pt_])
          refine wpAnyH_ready (rs := [4, 12]) (by kernel_rfl) (by simp) ?_
          refine AllReadyH.cons (o := ⟨some 116, _, _, _, _, _⟩) rfl (fun K hK => ?_) ?_
          go_simp
          refine hK.out _ _ trivial (fun hHeld => ?_)
          clear hK K
          (try simp only [pt_])
          refine wpAnyH_ready (rs := [12]) (by kernel_rfl) (by simp) ?_
          refine AllReadyH.cons (o := ⟨some 124, _, _, _, _, _⟩) rfl (fun K hK => ?_) ?_
          go_simp
          refine hK.out _ _ trivial (fun hHeld => ?_)
          clear hK K
          (try simp only [pt_])
          refine wpAnyH_ready (rs := [13]) (by kernel_rfl) (by simp) ?_
          refine AllReadyH.cons (o := ⟨some 125, _, _, _, _, _⟩) rfl (fun K hK => ?_) ?_
          have uA : Below wc.heap.size wc (wn.alloc (.cells #[.int .i64 K9] 3)) := uN.alloc uN.size _
          refine step_appJ _ rfl _ _ rfl N0 ka k kc (dlK p key 1 k) rfl (ok.below uA) _ 1 1 [K9] rfl (Ints.lit1 _ _ _) (by omega) (Nat.le_trans NS uA.size) ?_
          intro a8 c8 w7 oc u7 g7 i7 m7
          have G7 := Only.of_grown g7
          have B_o7 := (B_o.below uA).only G7 (fun hq => by have := (Qk.out _ hq).1; omega)
          have j5 := B_o7.cell 17
          have f5 := B_o7.frozen 17
          refine hK.out _ _ trivial (fun hHeld => ?_)
          clear hK K
          (try simp only [pt_])
          refine tk (i := 14) (oi := ⟨some 126, _, _, _, _, _⟩) (v := ?v14_103) hHeld rfl ?y14_103 ?r14_103
          case y14_103 => (intro w _; first | (go_simp; first | done | with_reducible rfl) | with_reducible rfl)
          (try simp only [pt_])
          refine tk (i := 15) (oi := ⟨some 127, _, _, _, _, _⟩) (v := ?v15_104) hHeld rfl ?y15_104 ?r15_104
          case y15_104 => (intro w _; first | (go_simp; first | done | with_reducible rfl) | with_reducible rfl)
          (try simp only [pt_])
          refine wpAnyH_ready (rs := [16]) (by kernel_rfl) (by simp) ?_
          refine AllReadyH.cons (o := ⟨none, _, _, _, _, _⟩) rfl (fun K hK => ?_) ?_
          have GS : Only [bo] w7 (w7.setCell ⟨bo, 17, none⟩ (.slice a8 (k + 1) c8)) := (Only.refl _ _).setCell _ _ (by simp)
          have B_oS := B_o7.set_ 17 (.slice a8 (k + 1) c8)
          go_simp
          generalize w7.setCell ⟨bo, 17, none⟩ (.slice a8 (k + 1) c8) = wS at *
          refine hK.out _ _ trivial (fun hHeld => ?_)
          clear hK K
          (try simp only [pt_])
          refine wpAnyH_done (by kernel_rfl) ?_ _
          refine NoPanic.normal ?_
          rotate_left 1
          exact AllReadyH.nil
          exact AllReadyH.nil
          exact AllReadyH.nil
          refine AllReadyH.cons (o := ⟨some 124, _, _, _, _, _⟩) rfl (fun K hK => ?_) ?_
          go_simp
          refine hK.out _ _ trivial (fun hHeld => ?_)
          clear hK K
          (try simp only [pt_])
          refine wpAnyH_ready (rs := [4]) (by kernel_rfl) (by simp) ?_
          refine AllReadyH.cons (o := ⟨some 116, _, _, _, _, _⟩) rfl (fun K hK => ?_) ?_
          go_simp
          refine hK.out _ _ trivial (fun hHeld => ?_)
          clear hK K
          (try simp only [pt_])
          refine wpAnyH_ready (rs := [13]) (by kernel_rfl) (by simp) ?_
          refine AllReadyH.cons (o := ⟨some 125, _, _, _, _, _⟩) rfl (fun K hK => ?_) ?_
          have uA : Below wc.heap.size wc (wn.alloc (.cells #[.int .i64 K9] 3)) := uN.alloc uN.size _
          refine step_appJ _ rfl _ _ rfl N0 ka k kc (dlK p key 1 k) rfl (ok.below uA) _ 1 1 [K9] rfl (Ints.lit1 _ _ _) (by omega) (Nat.le_trans NS uA.size) ?_
          intro a8 c8 w7 oc u7 g7 i7 m7
          have G7 := Only.of_grown g7
          have B_o7 := (B_o.below uA).only G7 (fun hq => by have := (Qk.out _ hq).1; omega)
          have j5 := B_o7.cell 17
          have f5 := B_o7.frozen 17
          refine hK.out _ _ trivial (fun hHeld => ?_)
          clear hK K
          (try simp only [pt_])
          refine tk (i := 14) (oi := ⟨some 126, _, _, _, _, _⟩) (v := ?v14_105) hHeld rfl ?y14_105 ?r14_105
          case y14_105 => (intro w _; first | (go_simp; first | done | with_reducible rfl) | with_reducible rfl)
          (try simp only [pt_])
          refine tk (i := 15) (oi := ⟨some 127, _, _, _, _, _⟩) (v := ?v15_106) hHeld rfl ?y15_106 ?r15_106
          case y15_106 => (intro w _; first | (go_simp; first | done | with_reducible rfl) | with_reducible rfl)
          (try simp only [pt_])
          refine wpAnyH_ready (rs := [16]) (by kernel_rfl) (by simp) ?_
          refine AllReadyH.cons (o := ⟨none, _, _, _, _, _⟩) rfl (fun K hK => ?_) ?_
          have GS : Only [bo] w7 (w7.setCell ⟨bo, 17, none⟩ (.slice a8 (k + 1) c8)) := (Only.refl _ _).setCell _ _ (by simp)
          have B_oS := B_o7.set_ 17 (.slice a8 (k + 1) c8)
          go_simp
          generalize w7.setCell ⟨bo, 17, none⟩ (.slice a8 (k + 1) c8) = wS at *
          refine hK.out _ _ trivial (fun hHeld => ?_)
          clear hK K
          (try simp only [pt_])
          refine wpAnyH_done (by kernel_rfl) ?_ _
          refine NoPanic.normal ?_
          rotate_left 1
          exact AllReadyH.nil
          exact AllReadyH.nil
          exact AllReadyH.nil
          exact AllReadyH.nil
          exact AllReadyH.nil
          exact AllReadyH.nil
          all_goals
            have GT : Only (bo :: foot ka kc) wc wS := (Only.of_below uA).trans ((G7.more (fun q hq => List.mem_cons_of_mem _ hq)).trans (GS.more (fun q hq => by simp at hq; rw [hq]; exact List.mem_cons_self)))
            have hF : ∀ q ∈ bo :: foot ka kc, q = bo ∨ N0 ≤ q := fun q hq => by
              rcases List.mem_cons.1 hq with h | h
              · exact Or.inl h
              · exact Or.inr (Qk.out _ h).1
            replace B_r := B_r.only GT (fun hq => by have := hF _ hq; omega)
            replace B_q := B_q.only GT (fun hq => by have := hF _ hq; omega)
            replace ov := ov.only GT (fun q hq hq' => by have := Q_ov.out _ hq; have := hF _ hq'; omega)
            replace sh0 := OwnF.only sh0 GT (fun q hq hq' => by have := Qs0.out _ hq; have := hF _ hq'; omega)
            replace ke0 := ke0.only GT (fun q hq hq' => by have := Qk0.out _ hq; have := hF _ hq'; omega)
            replace own := OwnF.only own GT (fun q hq hq' => by
              rcases List.mem_cons.1 hq' with h | h
              · have := (QS.out _ hq).1; omega
              · exact dj q hq h)
            have ok2 : Own w7 N0 a8 (k + 1) c8 (dlK p key 1 (k + 1)) := by
              rw [HKS.out]; exact oc
            replace ok2 := ok2.only GS (fun q hq hq' => by have := (ok2.feet _ hq).1; simp at hq'; omega)
            have dj2 : Disj (foot a7 c7) (foot a8 c8) := fun q hq hq' => Moved.disj m7 (fun q hq hq' => dj q hq' hq) (fun q hq => Nat.lt_of_lt_of_le (QS.out _ hq).2 uA.size) q hq' hq
            simp only [List.setIfInBounds_toArray, List.set_cons_zero, List.set_cons_succ] at B_oS
            have VS : Below w.heap.size w wS := (V_wc).trans (GT.below ((V_wc).size) (fun q hq => by have := hF _ hq; omega))
            have NS2 := Nat.le_trans NS GT.size
            clear GT hF G7 GS B_o7 j5 f5 u7 g7 m7 oc c0 c0' cl cl' u0 IL t7
            go_wp2
            go_roundw
            case rel => exact ⟨k + 1, a7, c7, a8, c8, by omega, by go_num, NS2, VS, B_r, B_q, ov, B_oS, own, ok2, dj2, sh0, ke0⟩
            case measure => simp [intOf]; omega
        · obtain rfl : k = 5 := by omega
          have QS := Lib.hid own.feet
          have Qk := Lib.hid ok.feet
          go_wp2
          go_roundw
          case rel => exact ⟨2, by omega, by go_num, V_wr, by omega, B_r, B_q, ov, Or.inr (Or.inr ⟨sa0, sc0, ka0, kc0, sa, sc, ka, kc, rfl, B_o, sh0, ke0, dj0, OwnF.lower own (by omega), ok.lower (by omega), dj, fun q hq hq' => by
            have h1 : q < N0 := (List.mem_append.1 hq).elim (fun h => (Qs0.out _ h).2) (fun h => (Qk0.out _ h).2)
            have h2 : N0 ≤ q := (List.mem_append.1 hq').elim (fun h => (QS.out _ h).1) (fun h => (Qk.out _ h).1)
            omega⟩)⟩
          case measure => simp [intOf]
    · rw [show ((2 : Nat) : Int) = 2 from rfl]
      clear ov
      have Q_sh0 := Lib.hid sh0.feet
      have Q_ke0 := Lib.hid ke0.feet
      have Q_sh1 := Lib.hid sh1.feet
      have Q_ke1 := Lib.hid ke1.feet
      go_upto_region 21 with fail
      replace B_o := Blk.drew B_o
      replace B_r := Blk.drew B_r
      replace B_q := Blk.drew B_q
      replace sh0 := sh0.drew
      replace ke0 := ke0.drew
      replace sh1 := sh1.drew
      replace ke1 := ke1.drew
      refine wp_region_noPanic ?_
      refine wp_region_held_drew (S := (fun W => Blk W (bo) 94 #[.int .i64 p, .int .i64 0, .int .i64 x, .int .i64 M0, .int .i64 D0, .slice sa 5 sc, .slice ka 5 kc, .int .i64 0, .slice none 0 0, .int .i64 0, .int .i64 0, .int .i64 p, .int .i64 1, .int .i64 z, .int .i64 M1, .int .i64 D1, .slice sb 5 sd, .slice kb 5 kd, .int .i64 0, .slice none 0 0, .int .i64 0, .int .i64 0])) (by kernel_rfl) ?hS107 (fun hHeld => ?go107)
      case hS107 => exact B_o
      refine tk (i := 0) (oi := ⟨some 130, _, _, _, _, _⟩) (v := ?v0_108) hHeld rfl ?y0_108 ?r0_108
      case y0_108 => (intro w _; first | (go_simp; first | done | with_reducible rfl) | with_reducible rfl)
      (try simp only [pt_])
      refine tk (i := 1) (oi := ⟨some 131, _, _, _, _, _⟩) (v := ?v1_109) hHeld rfl ?y1_109 ?r1_109
      case y1_109 => (intro w qS0; have cS0_0 := qS0.cell 0; have cS0_1 := qS0.cell 1; have cS0_2 := qS0.cell 2; have cS0_3 := qS0.cell 3; have cS0_4 := qS0.cell 4; have cS0_5 := qS0.cell 5; have cS0_6 := qS0.cell 6; have cS0_7 := qS0.cell 7; have cS0_8 := qS0.cell 8; have cS0_9 := qS0.cell 9; have cS0_10 := qS0.cell 10; have cS0_11 := qS0.cell 11; have cS0_12 := qS0.cell 12; have cS0_13 := qS0.cell 13; have cS0_14 := qS0.cell 14; have cS0_15 := qS0.cell 15; have cS0_16 := qS0.cell 16; have cS0_17 := qS0.cell 17; have cS0_18 := qS0.cell 18; have cS0_19 := qS0.cell 19; have cS0_20 := qS0.cell 20; have cS0_21 := qS0.cell 21; first | (go_simp; first | done | with_reducible rfl) | with_reducible rfl)
      (try simp only [pt_])
      refine tk (i := 2) (oi := ⟨some 132, _, _, _, _, _⟩) (v := ?v2_110) hHeld rfl ?y2_110 ?r2_110
      case y2_110 => (intro w _; first | (go_simp; first | done | with_reducible rfl) | with_reducible rfl)
      (try simp only [pt_])
      refine tk (i := 3) (oi := ⟨some 133, _, _, _, _, _⟩) (v := ?v3_111) hHeld rfl ?y3_111 ?r3_111
      case y3_111 => (intro w qS0; have cS0_0 := qS0.cell 0; have cS0_1 := qS0.cell 1; have cS0_2 := qS0.cell 2; have cS0_3 := qS0.cell 3; have cS0_4 := qS0.cell 4; have cS0_5 := qS0.cell 5; have cS0_6 := qS0.cell 6; have cS0_7 := qS0.cell 7; have cS0_8 := qS0.cell 8; have cS0_9 := qS0.cell 9; have cS0_10 := qS0.cell 10; have cS0_11 := qS0.cell 11; have cS0_12 := qS0.cell 12; have cS0_13 := qS0.cell 13; have cS0_14 := qS0.cell 14; have cS0_15 := qS0.cell 15; have cS0_16 := qS0.cell 16; have cS0_17 := qS0.cell 17; have cS0_18 := qS0.cell 18; have cS0_19 := qS0.cell 19; have cS0_20 := qS0.cell 20; have cS0_21 := qS0.cell 21; first | (go_simp; first | done | with_reducible rfl) | with_reducible rfl)
      (try simp only [pt_])
      have wdS := (Nat.le_refl wr.heap.size : wr.heap.size ≤ wr.drew.heap.size)
      generalize hwd : wr.drew = wd at *
      have G_all : Only [w.heap.size, w.heap.size + 1] wd wd := Only.refl _ _
      refine wpAnyH_ready (rs := [4]) (by kernel_rfl) (by simp) ?_
      refine AllReadyH.cons (o := ⟨none, _, _, _, _, _⟩) rfl (fun K hK => ?_) ?_
      refine step_st B_r (by simp [Region.wanted]) _ _ _ (by rfl) (by rfl) (by rfl) (by kernel_rfl) (by rfl) (by simp [Value.oneCell']) ?_
      intro wS4 B_r' G
      replace B_r := B_r'; clear B_r'
      replace B_o := B_o.only G (by first | (simp; done) | (simp; omega))
      replace B_q := B_q.only G (by first | (simp; done) | (simp; omega))
      replace sh0 := sh0.only G (fun q hq hq' => by have := Q_sh0.out q hq; simp at hq'; omega)
      replace ke0 := ke0.only G (fun q hq hq' => by have := Q_ke0.out q hq; simp at hq'; omega)
      replace sh1 := sh1.only G (fun q hq hq' => by have := Q_sh1.out q hq; simp at hq'; omega)
      replace ke1 := ke1.only G (fun q hq hq' => by have := Q_ke1.out q hq; simp at hq'; omega)
      replace G_all := G_all.trans (G.more (F' := [w.heap.size, w.heap.size + 1]) (by simp))
      clear G
      refine hK.out _ _ ?_ (fun hHeld => ?_)
      · exact B_o
      clear hK K
      (try simp only [pt_])
      refine wpAnyH_ready (rs := [5]) (by kernel_rfl) (by simp) ?_
      refine AllReadyH.cons (o := ⟨none, _, _, _, _, _⟩) rfl (fun K hK => ?_) ?_
      refine step_st B_q (by simp [Region.wanted]) _ _ _ (by rfl) (by rfl) (by rfl) (by kernel_rfl) (by rfl) (by simp [Value.oneCell']) ?_
      intro wS5 B_q' G
      replace B_q := B_q'; clear B_q'
      replace B_o := B_o.only G (by first | (simp; done) | (simp; omega))
      replace B_r := B_r.only G (by first | (simp; done) | (simp; omega))
      replace sh0 := sh0.only G (fun q hq hq' => by have := Q_sh0.out q hq; simp at hq'; omega)
      replace ke0 := ke0.only G (fun q hq hq' => by have := Q_ke0.out q hq; simp at hq'; omega)
      replace sh1 := sh1.only G (fun q hq hq' => by have := Q_sh1.out q hq; simp at hq'; omega)
      replace ke1 := ke1.only G (fun q hq hq' => by have := Q_ke1.out q hq; simp at hq'; omega)
      replace G_all := G_all.trans (G.more (F' := [w.heap.size, w.heap.size + 1]) (by simp))
      clear G
      refine hK.out _ _ ?_ (fun hHeld => ?_)
      · exact B_o
      clear hK K
      (try simp only [pt_])
      refine tk (i := 6) (oi := ⟨some 10, _, _, _, _, _⟩) (v := ?v6_112) hHeld rfl ?y6_112 ?r6_112
      case y6_112 => (intro w _; first | (go_simp; first | done | with_reducible rfl) | with_reducible rfl)
      (try simp only [pt_])
      refine wpAnyH_done (by kernel_rfl) ?_ _
      refine NoPanic.normal ?_
      rotate_left 1
      exact AllReadyH.nil
      exact AllReadyH.nil
      have GE := (Only.refl [w.heap.size, w.heap.size + 1] wr).drew.trans (hwd ▸ G_all)
      clear hwd G_all hHeld wdS
      have VE : Below w.heap.size w wS5 := (V_wr).trans (GE.below (V_wr.size) (by intro q hq; simp at hq; omega))
      first | (refine (‹∀ (a : Act) (w : World), Code.wp Tryd.prog Code.ret _ a w → _›) _ _ ?_; refine wp_ret ?_) | go_wp2
      have e_r := B_r.all11
      have e_q := B_q.all11
      have E0 : dlP p key 0 x = ⟨p, 0, x, M0, D0, dlSh p key 0 5, dlK p key 0 5, 0, [], 0, 0⟩ := by rw [HM0.out, hD0.out]; rfl
      have E1 : dlP p key 1 z = ⟨p, 1, z, M1, D1, dlSh p key 1 5, dlK p key 1 5, 0, [], 0, 0⟩ := by rw [HM1.out, hD1.out]; rfl
      have DX : Disj (foot sa sc ++ (foot ka kc ++ feetSS none 0 [])) (foot sb sd ++ (foot kb kd ++ feetSS none 0 [])) := fun q hq hq' => by
        have n0 : q ∉ feetSS none 0 [] := by simp [feetSS, foot, rowOf, rowsF]
        refine djx q ?_ ?_
        · rcases List.mem_append.1 hq with h | h
          · exact List.mem_append_left _ h
          · rcases List.mem_append.1 h with h | h
            · exact List.mem_append_right _ h
            · exact absurd h n0
        · rcases List.mem_append.1 hq' with h | h
          · exact List.mem_append_left _ h
          · rcases List.mem_append.1 h with h | h
            · exact List.mem_append_right _ h
            · exact absurd h n0
      have L0 := PlO.mk2 (OwnF.lower sh0 (show w.heap.size ≤ bo + 1 by omega)) (ke0.lower (show w.heap.size ≤ bo + 1 by omega)) dj0
      have L1 := PlO.mk2 (OwnF.lower sh1 (show w.heap.size ≤ bo + 1 by omega)) (ke1.lower (show w.heap.size ≤ bo + 1 by omega)) dj1
      exact bodyPost_ret (v := .tuple #[.agg #[.int .i64 p, .int .i64 0, .int .i64 x, .int .i64 M0, .int .i64 D0, .slice sa 5 sc, .slice ka 5 kc, .int .i64 0, .slice none 0 0, .int .i64 0, .int .i64 0], .agg #[.int .i64 p, .int .i64 1, .int .i64 z, .int .i64 M1, .int .i64 D1, .slice sb 5 sd, .slice kb 5 kd, .int .i64 0, .slice none 0 0, .int .i64 0, .int .i64 0], .bool true]) (by simp [results, Tryd.results31, go_sem, e_r, e_q]) rfl (by
        refine ⟨⟨sa, 5, sc, ka, 5, kc, none, 0, 0⟩, _, ⟨sb, 5, sd, kb, 5, kd, none, 0, 0⟩, _, ?_, L0, L1, DX, VE⟩
        show _ = Ending.returned (.tuple #[.agg #[.int .i64 (dlP p key 0 x).P, .int .i64 (dlP p key 0 x).party, .int .i64 (dlP p key 0 x).input, .int .i64 (dlP p key 0 x).mask, .int .i64 (dlP p key 0 x).delta, .slice sa 5 sc, .slice ka 5 kc, .int .i64 (dlP p key 0 x).step, .slice none 0 0, .int .i64 (dlP p key 0 x).status, .int .i64 (dlP p key 0 x).out], .agg #[.int .i64 (dlP p key 1 z).P, .int .i64 (dlP p key 1 z).party, .int .i64 (dlP p key 1 z).input, .int .i64 (dlP p key 1 z).mask, .int .i64 (dlP p key 1 z).delta, .slice sb 5 sd, .slice kb 5 kd, .int .i64 (dlP p key 1 z).step, .slice none 0 0, .int .i64 (dlP p key 1 z).status, .int .i64 (dlP p key 1 z).out], .bool true])
        rw [E0, E1])
end Go.Proofs.YtlmdckcohoddnaaDoor
