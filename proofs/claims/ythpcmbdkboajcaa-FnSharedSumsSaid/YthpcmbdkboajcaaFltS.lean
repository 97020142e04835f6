/- RunWithFault of the reference. -/
import Derived.Test.YthpcmbdkboajcaaRunSp
import Derived.Test.YthpcmbdkboajcaaFltD
namespace Go.Proofs.Ythpcmbdkboajcaa
open Go.RowKit

set_option maxHeartbeats 8000000 in
set_option maxRecDepth 100000 in
theorem spec_RunWithFault_any (P i0 i1 : Int) (ga : Option Addr) (gn gc : Nat) (G : List Int) (oa : Option Addr) (on oc : Nat) (O : List Int) (key : Int) (aa : Option Addr) (an ac : Nat) (A : List Int) (ba : Option Addr) (bn bc : Nat) (B : List Int) (k change : Int) (w : World) (hG : Flat 3 w ga gn gc G) (hO : Ints w oa on oc O) (hA : Ints w aa an ac A) (hB : Ints w ba bn bc B) :
    Calls Try.prog 34 #[.agg #[.int .i64 P, .int .i64 i0, .int .i64 i1, .slice ga gn gc, .slice oa on oc], .int .i64 key, .slice aa an ac, .slice ba bn bc, .int .i64 k, .int .i64 change] w fun e w' => ∃ a1 n1 c1, e = .returned (.tuple #[.slice a1 n1 c1, .bool (rfB P i0 i1 gn G O key A B k change)]) ∧ Own w' w.heap.size a1 n1 c1 (rfL P i0 i1 gn G O key A B k change) ∧ Below w.heap.size w w' := by

  unfold rfL rfB
  cases h1 : asB P i0 i1 gn G O key A B
  · simp only [Bool.false_and, Bool.false_eq_true, if_false]

    go_enter Try.func34, Try.ntmps34
    go_wp2_with fail
    refine Exists.elim (Blk.new_ w (b := w.heap.size) rfl 41 #[.int .i64 P, .int .i64 i0, .int .i64 i1, .slice ga gn gc, .slice oa on oc]) (fun w1' q => ?_)
    rw [q.1]; have B_c := q.2.1; have s_w1' := q.2.2.1; have u_w1' := q.2.2.2; clear q
    have S_w1' : w.heap.size + 1 ≤ w1'.heap.size := Nat.le_of_eq s_w1'.symm
    have V_w1' := (Below.refl w.heap.size w).trans (u_w1'.mono ((Below.refl w.heap.size w)).size)
    clear u_w1' s_w1'
    refine (smAsked_any _ _ _ _ _ _ G _ _ _ O _ _ _ _ A _ _ _ B _ (hG.below V_w1') (hO.below V_w1') (hA.below V_w1') (hB.below V_w1')).mono ?_
    rintro e w2' ⟨rfl, u_w2'⟩
    replace B_c := B_c.below u_w2'
    have S_w2' := u_w2'.size
    have V_w2' : Below w.heap.size w w2' := V_w1'.trans (u_w2'.mono V_w1'.size)
    clear V_w1'
    clear u_w2'
    rw [h1]
    go_wp2
    go_ret2
    exact ⟨_, _, _, rfl, Own.nil0 _ _ _, V_w2'⟩

  simp only [Bool.true_and]
  have hgl := hG.le
  cases h2 : inB k 0 ((gn : Int) - 1)
  · simp only [Bool.false_and, Bool.false_eq_true, if_false]

    go_enter Try.func34, Try.ntmps34
    go_wp2_with fail
    refine Exists.elim (Blk.new_ w (b := w.heap.size) rfl 41 #[.int .i64 P, .int .i64 i0, .int .i64 i1, .slice ga gn gc, .slice oa on oc]) (fun w3' q => ?_)
    rw [q.1]; have B_c := q.2.1; have s_w3' := q.2.2.1; have u_w3' := q.2.2.2; clear q
    have S_w3' : w.heap.size + 1 ≤ w3'.heap.size := Nat.le_of_eq s_w3'.symm
    have V_w3' := (Below.refl w.heap.size w).trans (u_w3'.mono ((Below.refl w.heap.size w)).size)
    clear u_w3' s_w3'
    refine (smAsked_any _ _ _ _ _ _ G _ _ _ O _ _ _ _ A _ _ _ B _ (hG.below V_w3') (hO.below V_w3') (hA.below V_w3') (hB.below V_w3')).mono ?_
    rintro e w4' ⟨rfl, u_w4'⟩
    replace B_c := B_c.below u_w4'
    have S_w4' := u_w4'.size
    have V_w4' : Below w.heap.size w w4' := V_w3'.trans (u_w4'.mono V_w3'.size)
    clear V_w3'
    clear u_w4'
    rw [h1]
    have e_c_3 : w4'.cell? ⟨w.heap.size, 3, none⟩ = some (.slice ga gn gc) := B_c.cell 3
    go_wp2_with fail
    refine (l1In_any _ _ _ _).mono ?_
    rintro e w_q ⟨rfl, rfl⟩
    rw [h2]
    go_wp2
    go_ret2
    exact ⟨_, _, _, rfl, Own.nil0 _ _ _, V_w4'⟩

  simp only [Bool.true_and]
  obtain ⟨i1', i2'⟩ := inB_true h2
  obtain ⟨j, rfl⟩ : ∃ j : Nat, k = j := ⟨k.toNat, by omega⟩
  have hj : j < gn := by omega
  have hj1 : (j : Int) < (gn : Int) := by omega
  simp only [Int.toNat_natCast]
  obtain ⟨g, o, rfl, hc⟩ := hG.at (by omega)
  have c0 : w.cell? ⟨g, o + j * 3, none⟩ = some (.int .i64 (G.getD (j * 3) 0)) := hc (j * 3) (by omega)
  clear hc
  have HKD : Hid (∀ x, G.getD (j * 3) 0 = x → G.getD (j * 3) 0 = x) := Lib.hid (fun _ h => h)
  by_cases h3 : G.getD (j * 3) 0 = 1
  rotate_left
  · have h3' : ((G.getD (j * 3) 0 != 1) : Bool) = true := by simpa using h3
    simp only [decide_eq_false h3, Bool.false_and, Bool.false_eq_true, if_false]
    clear h3
    obtain ⟨kd, hkd⟩ : ∃ x, G.getD (j * 3) 0 = x := ⟨_, rfl⟩
    rw [hkd] at c0 h3'
    clear hkd

    go_enter Try.func34, Try.ntmps34
    go_wp2_with fail
    refine Exists.elim (Blk.new_ w (b := w.heap.size) rfl 41 #[.int .i64 P, .int .i64 i0, .int .i64 i1, .slice (some ⟨g, o, none⟩) gn gc, .slice oa on oc]) (fun w5' q => ?_)
    rw [q.1]; have B_c := q.2.1; have s_w5' := q.2.2.1; have u_w5' := q.2.2.2; clear q
    have S_w5' : w.heap.size + 1 ≤ w5'.heap.size := Nat.le_of_eq s_w5'.symm
    have V_w5' := (Below.refl w.heap.size w).trans (u_w5'.mono ((Below.refl w.heap.size w)).size)
    clear u_w5' s_w5'
    refine (smAsked_any _ _ _ _ _ _ G _ _ _ O _ _ _ _ A _ _ _ B _ (hG.below V_w5') (hO.below V_w5') (hA.below V_w5') (hB.below V_w5')).mono ?_
    rintro e w6' ⟨rfl, u_w6'⟩
    replace B_c := B_c.below u_w6'
    have S_w6' := u_w6'.size
    have V_w6' : Below w.heap.size w w6' := V_w5'.trans (u_w6'.mono V_w5'.size)
    clear V_w5'
    clear u_w6'
    rw [h1]
    have e_c_3 : w6'.cell? ⟨w.heap.size, 3, none⟩ = some (.slice (some ⟨g, o, none⟩) gn gc) := B_c.cell 3
    have cg := keepB V_w6' (World.block_lt_of_cell? w _ c0) c0
    go_wp2_with fail
    refine (l1In_any _ _ _ _).mono ?_
    rintro e w_q ⟨rfl, rfl⟩
    rw [h2]
    go_wp2
    go_ret2
    exact ⟨_, _, _, rfl, Own.nil0 _ _ _, V_w6'⟩

  have h3' : ((1 != 1 : Bool)) = false := rfl
  simp only [decide_eq_true h3, Bool.true_and]
  rw [h3] at c0
  clear h3
  have HPR := Lib.hid (asB_true h1).2.2.2.2.2.2
  have HEL : Hid (elB P change = inB change 0 (P - 1)) := Lib.hid (by unfold elB inB; rw [HPR.out]; rfl)
  have pp := isPr_range HPR.out
  cases h4 : elB P change
  · simp only [Bool.false_eq_true, if_false]
    have h4' : inB change 0 (P - 1) = false := by rw [← HEL.out]; exact h4

    go_enter Try.func34, Try.ntmps34
    go_wp2_with fail
    refine Exists.elim (Blk.new_ w (b := w.heap.size) rfl 41 #[.int .i64 P, .int .i64 i0, .int .i64 i1, .slice (some ⟨g, o, none⟩) gn gc, .slice oa on oc]) (fun w7' q => ?_)
    rw [q.1]; have B_c := q.2.1; have s_w7' := q.2.2.1; have u_w7' := q.2.2.2; clear q
    have S_w7' : w.heap.size + 1 ≤ w7'.heap.size := Nat.le_of_eq s_w7'.symm
    have V_w7' := (Below.refl w.heap.size w).trans (u_w7'.mono ((Below.refl w.heap.size w)).size)
    clear u_w7' s_w7'
    refine (smAsked_any _ _ _ _ _ _ G _ _ _ O _ _ _ _ A _ _ _ B _ (hG.below V_w7') (hO.below V_w7') (hA.below V_w7') (hB.below V_w7')).mono ?_
    rintro e w8' ⟨rfl, u_w8'⟩
    replace B_c := B_c.below u_w8'
    have S_w8' := u_w8'.size
    have V_w8' : Below w.heap.size w w8' := V_w7'.trans (u_w8'.mono V_w7'.size)
    clear V_w7'
    clear u_w8'
    rw [h1]
    have e_c_0 : w8'.cell? ⟨w.heap.size, 0, none⟩ = some (.int .i64 P) := B_c.cell 0
    have e_c_3 : w8'.cell? ⟨w.heap.size, 3, none⟩ = some (.slice (some ⟨g, o, none⟩) gn gc) := B_c.cell 3
    have cg := keepB V_w8' (World.block_lt_of_cell? w _ c0) c0
    go_wp2_with fail
    refine (l1In_any _ _ _ _).mono ?_
    rintro e w_q ⟨rfl, rfl⟩
    rw [h2]
    go_wp2_with fail
    refine (l1In_any _ _ _ _).mono ?_
    rintro e w_q ⟨rfl, rfl⟩
    rw [h4']
    go_wp2
    go_ret2
    exact ⟨_, _, _, rfl, Own.nil0 _ _ _, V_w8'⟩

  have h4' : inB change 0 (P - 1) = true := by rw [← HEL.out]; exact h4
  obtain ⟨ch0, ch1⟩ := inB_true h4'
  simp only [if_true]
  obtain ⟨l1, l2⟩ := asB_len h1
  have OK := Lib.hid (wsQ_ok (j : Int) change h1)
  obtain ⟨g1, o1, oo⟩ := asB_gn h1
  have HOO := Lib.hid oo
  obtain ⟨hr, ⟨k0, k1⟩, ha, hb, e0, e1, hpr⟩ := asB_true h1
  obtain ⟨p1, p2⟩ := isPr_range hpr
  have HR := Lib.hid hr
  have HAA := Lib.hid ha
  have HBB := Lib.hid hb
  have HV := Lib.hid (show ∀ x ∈ A ++ B, 0 ≤ x ∧ x ≤ P - 1 from fun x hx => by
    rcases List.mem_append.1 hx with h | h
    · exact HAA.out x h
    · exact HBB.out x h)
  clear ha hb hr oo
  have HLA := Lib.hid hA.len
  have HLB := Lib.hid hB.len
  rw [← hO.len] at o1 ⊢
  obtain ⟨Q, hQ⟩ : ∃ x, wsQ P key (j : Int) change gn G A B = x := ⟨_, rfl⟩
  rw [hQ] at OK ⊢
  have HQ := Lib.hid hQ
  clear hQ
  obtain ⟨q1, q2, q3, q4⟩ := OK.out
  rw [← hA.len] at l1 e0 q1 q2 HOO
  rw [← hB.len] at l2 e1 q1 q2 HOO
  have HQ1 := Lib.hid q1
  have HQ2 := Lib.hid q2
  have HQ3 := Lib.hid q3
  have HQ4 := Lib.hid q4
  clear q1 q2 q3 q4
  go_enter Try.func34, Try.ntmps34
  go_wp2_with fail
  refine Exists.elim (Blk.new_ w (b := w.heap.size) rfl 41 #[.int .i64 P, .int .i64 i0, .int .i64 i1, .slice (some ⟨g, o, none⟩) gn gc, .slice oa on oc]) (fun w9' q => ?_)
  rw [q.1]; have B_c := q.2.1; have s_w9' := q.2.2.1; have u_w9' := q.2.2.2; clear q
  have S_w9' : w.heap.size + 1 ≤ w9'.heap.size := Nat.le_of_eq s_w9'.symm
  have V_w9' := (Below.refl w.heap.size w).trans (u_w9'.mono ((Below.refl w.heap.size w)).size)
  clear u_w9' s_w9'
  refine (smAsked_any _ _ _ _ _ _ G _ _ _ O _ _ _ _ A _ _ _ B _ (hG.below V_w9') (hO.below V_w9') (hA.below V_w9') (hB.below V_w9')).mono ?_
  rintro e w10' ⟨rfl, u_w10'⟩
  replace B_c := B_c.below u_w10'
  have S_w10' := u_w10'.size
  have V_w10' : Below w.heap.size w w10' := V_w9'.trans (u_w10'.mono V_w9'.size)
  clear V_w9'
  clear u_w10'
  rw [h1]
  have e_c_0 : w10'.cell? ⟨w.heap.size, 0, none⟩ = some (.int .i64 P) := B_c.cell 0
  have e_c_3 : w10'.cell? ⟨w.heap.size, 3, none⟩ = some (.slice (some ⟨g, o, none⟩) gn gc) := B_c.cell 3
  have cg := keepB V_w10' (World.block_lt_of_cell? w _ c0) c0
  go_wp2_with fail
  refine (l1In_any _ _ _ _).mono ?_
  rintro e w_q ⟨rfl, rfl⟩
  rw [h2]
  go_wp2_with fail
  refine (l1In_any _ _ _ _).mono ?_
  rintro e w_q ⟨rfl, rfl⟩
  rw [h4']
  clear e_c_0 e_c_3
  have e_c_0 : w10'.cell? ⟨w.heap.size, 0, none⟩ = some (.int .i64 P) := B_c.cell 0
  have e_c_1 : w10'.cell? ⟨w.heap.size, 1, none⟩ = some (.int .i64 i0) := B_c.cell 1
  have e_c_2 : w10'.cell? ⟨w.heap.size, 2, none⟩ = some (.int .i64 i1) := B_c.cell 2
  have e_c_3 : w10'.cell? ⟨w.heap.size, 3, none⟩ = some (.slice (some ⟨g, o, none⟩) gn gc) := B_c.cell 3
  have e_c_4 : w10'.cell? ⟨w.heap.size, 4, none⟩ = some (.slice oa on oc) := B_c.cell 4
  go_wp2
  go_region_held3 (fun W => W.cell? ⟨w.heap.size, 0, none⟩ = some (.int .i64 P) ∧ W.cell? ⟨w.heap.size, 1, none⟩ = some (.int .i64 i0) ∧ W.cell? ⟨w.heap.size, 2, none⟩ = some (.int .i64 i1) ∧ W.cell? ⟨w.heap.size, 3, none⟩ = some (.slice (some ⟨g, o, none⟩) gn gc) ∧ W.cell? ⟨w.heap.size, 4, none⟩ = some (.slice oa on oc))
    (first | go_keep | exact ⟨e_c_0, e_c_1, e_c_2, e_c_3, e_c_4⟩ | exact ⟨keepA _ e_c_0, keepA _ e_c_1, keepA _ e_c_2, keepA _ e_c_3, keepA _ e_c_4⟩ | exact ⟨keepA _ (keepA _ e_c_0), keepA _ (keepA _ e_c_1), keepA _ (keepA _ e_c_2), keepA _ (keepA _ e_c_3), keepA _ (keepA _ e_c_4)⟩ | exact ⟨keepA _ (keepA _ (keepA _ e_c_0)), keepA _ (keepA _ (keepA _ e_c_1)), keepA _ (keepA _ (keepA _ e_c_2)), keepA _ (keepA _ (keepA _ e_c_3)), keepA _ (keepA _ (keepA _ e_c_4))⟩ | exact ⟨keepC uj (e_c_0), keepC uj (e_c_1), keepC uj (e_c_2), keepC uj (e_c_3), keepC uj (e_c_4)⟩ | exact ⟨keepA _ (keepC uj (e_c_0)), keepA _ (keepC uj (e_c_1)), keepA _ (keepC uj (e_c_2)), keepA _ (keepC uj (e_c_3)), keepA _ (keepC uj (e_c_4))⟩ | exact ⟨keepC uj (keepA _ e_c_0), keepC uj (keepA _ e_c_1), keepC uj (keepA _ e_c_2), keepC uj (keepA _ e_c_3), keepC uj (keepA _ e_c_4)⟩ | exact ⟨keepA _ (keepC uj (keepA _ e_c_0)), keepA _ (keepC uj (keepA _ e_c_1)), keepA _ (keepC uj (keepA _ e_c_2)), keepA _ (keepC uj (keepA _ e_c_3)), keepA _ (keepC uj (keepA _ e_c_4))⟩ | exact ⟨keepC uj (keepA _ (keepA _ e_c_0)), keepC uj (keepA _ (keepA _ e_c_1)), keepC uj (keepA _ (keepA _ e_c_2)), keepC uj (keepA _ (keepA _ e_c_3)), keepC uj (keepA _ (keepA _ e_c_4))⟩ | exact ⟨keepA _ (keepC uj (keepA _ (keepA _ e_c_0))), keepA _ (keepC uj (keepA _ (keepA _ e_c_1))), keepA _ (keepC uj (keepA _ (keepA _ e_c_2))), keepA _ (keepC uj (keepA _ (keepA _ e_c_3))), keepA _ (keepC uj (keepA _ (keepA _ e_c_4)))⟩ | exact ⟨keepC uj (keepA _ (keepA _ (keepA _ e_c_0))), keepC uj (keepA _ (keepA _ (keepA _ e_c_1))), keepC uj (keepA _ (keepA _ (keepA _ e_c_2))), keepC uj (keepA _ (keepA _ (keepA _ e_c_3))), keepC uj (keepA _ (keepA _ (keepA _ e_c_4)))⟩ | exact ⟨keepA _ (keepC uj (keepA _ (keepA _ (keepA _ e_c_0)))), keepA _ (keepC uj (keepA _ (keepA _ (keepA _ e_c_1)))), keepA _ (keepC uj (keepA _ (keepA _ (keepA _ e_c_2)))), keepA _ (keepC uj (keepA _ (keepA _ (keepA _ e_c_3)))), keepA _ (keepC uj (keepA _ (keepA _ (keepA _ e_c_4))))⟩ | exact ⟨keepC uk (e_c_0), keepC uk (e_c_1), keepC uk (e_c_2), keepC uk (e_c_3), keepC uk (e_c_4)⟩ | exact ⟨keepA _ (keepC uk (e_c_0)), keepA _ (keepC uk (e_c_1)), keepA _ (keepC uk (e_c_2)), keepA _ (keepC uk (e_c_3)), keepA _ (keepC uk (e_c_4))⟩ | exact ⟨keepC uk (keepA _ e_c_0), keepC uk (keepA _ e_c_1), keepC uk (keepA _ e_c_2), keepC uk (keepA _ e_c_3), keepC uk (keepA _ e_c_4)⟩ | exact ⟨keepA _ (keepC uk (keepA _ e_c_0)), keepA _ (keepC uk (keepA _ e_c_1)), keepA _ (keepC uk (keepA _ e_c_2)), keepA _ (keepC uk (keepA _ e_c_3)), keepA _ (keepC uk (keepA _ e_c_4))⟩ | exact ⟨keepC uk (keepA _ (keepA _ e_c_0)), keepC uk (keepA _ (keepA _ e_c_1)), keepC uk (keepA _ (keepA _ e_c_2)), keepC uk (keepA _ (keepA _ e_c_3)), keepC uk (keepA _ (keepA _ e_c_4))⟩ | exact ⟨keepA _ (keepC uk (keepA _ (keepA _ e_c_0))), keepA _ (keepC uk (keepA _ (keepA _ e_c_1))), keepA _ (keepC uk (keepA _ (keepA _ e_c_2))), keepA _ (keepC uk (keepA _ (keepA _ e_c_3))), keepA _ (keepC uk (keepA _ (keepA _ e_c_4)))⟩ | exact ⟨keepC uk (keepA _ (keepA _ (keepA _ e_c_0))), keepC uk (keepA _ (keepA _ (keepA _ e_c_1))), keepC uk (keepA _ (keepA _ (keepA _ e_c_2))), keepC uk (keepA _ (keepA _ (keepA _ e_c_3))), keepC uk (keepA _ (keepA _ (keepA _ e_c_4)))⟩ | exact ⟨keepA _ (keepC uk (keepA _ (keepA _ (keepA _ e_c_0)))), keepA _ (keepC uk (keepA _ (keepA _ (keepA _ e_c_1)))), keepA _ (keepC uk (keepA _ (keepA _ (keepA _ e_c_2)))), keepA _ (keepC uk (keepA _ (keepA _ (keepA _ e_c_3)))), keepA _ (keepC uk (keepA _ (keepA _ (keepA _ e_c_4))))⟩ | exact ⟨keepC uj (keepC uk (e_c_0)), keepC uj (keepC uk (e_c_1)), keepC uj (keepC uk (e_c_2)), keepC uj (keepC uk (e_c_3)), keepC uj (keepC uk (e_c_4))⟩ | exact ⟨keepA _ (keepC uj (keepC uk (e_c_0))), keepA _ (keepC uj (keepC uk (e_c_1))), keepA _ (keepC uj (keepC uk (e_c_2))), keepA _ (keepC uj (keepC uk (e_c_3))), keepA _ (keepC uj (keepC uk (e_c_4)))⟩ | exact ⟨keepC uj (keepA _ (keepC uk (e_c_0))), keepC uj (keepA _ (keepC uk (e_c_1))), keepC uj (keepA _ (keepC uk (e_c_2))), keepC uj (keepA _ (keepC uk (e_c_3))), keepC uj (keepA _ (keepC uk (e_c_4)))⟩ | exact ⟨keepA _ (keepC uj (keepA _ (keepC uk (e_c_0)))), keepA _ (keepC uj (keepA _ (keepC uk (e_c_1)))), keepA _ (keepC uj (keepA _ (keepC uk (e_c_2)))), keepA _ (keepC uj (keepA _ (keepC uk (e_c_3)))), keepA _ (keepC uj (keepA _ (keepC uk (e_c_4))))⟩ | exact ⟨keepC uj (keepC uk (keepA _ e_c_0)), keepC uj (keepC uk (keepA _ e_c_1)), keepC uj (keepC uk (keepA _ e_c_2)), keepC uj (keepC uk (keepA _ e_c_3)), keepC uj (keepC uk (keepA _ e_c_4))⟩ | exact ⟨keepA _ (keepC uj (keepC uk (keepA _ e_c_0))), keepA _ (keepC uj (keepC uk (keepA _ e_c_1))), keepA _ (keepC uj (keepC uk (keepA _ e_c_2))), keepA _ (keepC uj (keepC uk (keepA _ e_c_3))), keepA _ (keepC uj (keepC uk (keepA _ e_c_4)))⟩ | exact ⟨keepC uj (keepA _ (keepC uk (keepA _ e_c_0))), keepC uj (keepA _ (keepC uk (keepA _ e_c_1))), keepC uj (keepA _ (keepC uk (keepA _ e_c_2))), keepC uj (keepA _ (keepC uk (keepA _ e_c_3))), keepC uj (keepA _ (keepC uk (keepA _ e_c_4)))⟩ | exact ⟨keepA _ (keepC uj (keepA _ (keepC uk (keepA _ e_c_0)))), keepA _ (keepC uj (keepA _ (keepC uk (keepA _ e_c_1)))), keepA _ (keepC uj (keepA _ (keepC uk (keepA _ e_c_2)))), keepA _ (keepC uj (keepA _ (keepC uk (keepA _ e_c_3)))), keepA _ (keepC uj (keepA _ (keepC uk (keepA _ e_c_4))))⟩ | exact ⟨keepC uj (keepC uk (keepA _ (keepA _ e_c_0))), keepC uj (keepC uk (keepA _ (keepA _ e_c_1))), keepC uj (keepC uk (keepA _ (keepA _ e_c_2))), keepC uj (keepC uk (keepA _ (keepA _ e_c_3))), keepC uj (keepC uk (keepA _ (keepA _ e_c_4)))⟩ | exact ⟨keepA _ (keepC uj (keepC uk (keepA _ (keepA _ e_c_0)))), keepA _ (keepC uj (keepC uk (keepA _ (keepA _ e_c_1)))), keepA _ (keepC uj (keepC uk (keepA _ (keepA _ e_c_2)))), keepA _ (keepC uj (keepC uk (keepA _ (keepA _ e_c_3)))), keepA _ (keepC uj (keepC uk (keepA _ (keepA _ e_c_4))))⟩ | exact ⟨keepC uj (keepA _ (keepC uk (keepA _ (keepA _ e_c_0)))), keepC uj (keepA _ (keepC uk (keepA _ (keepA _ e_c_1)))), keepC uj (keepA _ (keepC uk (keepA _ (keepA _ e_c_2)))), keepC uj (keepA _ (keepC uk (keepA _ (keepA _ e_c_3)))), keepC uj (keepA _ (keepC uk (keepA _ (keepA _ e_c_4))))⟩ | exact ⟨keepA _ (keepC uj (keepA _ (keepC uk (keepA _ (keepA _ e_c_0))))), keepA _ (keepC uj (keepA _ (keepC uk (keepA _ (keepA _ e_c_1))))), keepA _ (keepC uj (keepA _ (keepC uk (keepA _ (keepA _ e_c_2))))), keepA _ (keepC uj (keepA _ (keepC uk (keepA _ (keepA _ e_c_3))))), keepA _ (keepC uj (keepA _ (keepC uk (keepA _ (keepA _ e_c_4)))))⟩ | exact ⟨keepC uj (keepC uk (keepA _ (keepA _ (keepA _ e_c_0)))), keepC uj (keepC uk (keepA _ (keepA _ (keepA _ e_c_1)))), keepC uj (keepC uk (keepA _ (keepA _ (keepA _ e_c_2)))), keepC uj (keepC uk (keepA _ (keepA _ (keepA _ e_c_3)))), keepC uj (keepC uk (keepA _ (keepA _ (keepA _ e_c_4))))⟩ | exact ⟨keepA _ (keepC uj (keepC uk (keepA _ (keepA _ (keepA _ e_c_0))))), keepA _ (keepC uj (keepC uk (keepA _ (keepA _ (keepA _ e_c_1))))), keepA _ (keepC uj (keepC uk (keepA _ (keepA _ (keepA _ e_c_2))))), keepA _ (keepC uj (keepC uk (keepA _ (keepA _ (keepA _ e_c_3))))), keepA _ (keepC uj (keepC uk (keepA _ (keepA _ (keepA _ e_c_4)))))⟩ | exact ⟨keepC uj (keepA _ (keepC uk (keepA _ (keepA _ (keepA _ e_c_0))))), keepC uj (keepA _ (keepC uk (keepA _ (keepA _ (keepA _ e_c_1))))), keepC uj (keepA _ (keepC uk (keepA _ (keepA _ (keepA _ e_c_2))))), keepC uj (keepA _ (keepC uk (keepA _ (keepA _ (keepA _ e_c_3))))), keepC uj (keepA _ (keepC uk (keepA _ (keepA _ (keepA _ e_c_4)))))⟩ | exact ⟨keepA _ (keepC uj (keepA _ (keepC uk (keepA _ (keepA _ (keepA _ e_c_0)))))), keepA _ (keepC uj (keepA _ (keepC uk (keepA _ (keepA _ (keepA _ e_c_1)))))), keepA _ (keepC uj (keepA _ (keepC uk (keepA _ (keepA _ (keepA _ e_c_2)))))), keepA _ (keepC uj (keepA _ (keepC uk (keepA _ (keepA _ (keepA _ e_c_3)))))), keepA _ (keepC uj (keepA _ (keepC uk (keepA _ (keepA _ (keepA _ e_c_4))))))⟩ | exact ⟨keepC uk (keepC uj (e_c_0)), keepC uk (keepC uj (e_c_1)), keepC uk (keepC uj (e_c_2)), keepC uk (keepC uj (e_c_3)), keepC uk (keepC uj (e_c_4))⟩ | exact ⟨keepA _ (keepC uk (keepC uj (e_c_0))), keepA _ (keepC uk (keepC uj (e_c_1))), keepA _ (keepC uk (keepC uj (e_c_2))), keepA _ (keepC uk (keepC uj (e_c_3))), keepA _ (keepC uk (keepC uj (e_c_4)))⟩ | exact ⟨keepC uk (keepA _ (keepC uj (e_c_0))), keepC uk (keepA _ (keepC uj (e_c_1))), keepC uk (keepA _ (keepC uj (e_c_2))), keepC uk (keepA _ (keepC uj (e_c_3))), keepC uk (keepA _ (keepC uj (e_c_4)))⟩ | exact ⟨keepA _ (keepC uk (keepA _ (keepC uj (e_c_0)))), keepA _ (keepC uk (keepA _ (keepC uj (e_c_1)))), keepA _ (keepC uk (keepA _ (keepC uj (e_c_2)))), keepA _ (keepC uk (keepA _ (keepC uj (e_c_3)))), keepA _ (keepC uk (keepA _ (keepC uj (e_c_4))))⟩ | exact ⟨keepC uk (keepC uj (keepA _ e_c_0)), keepC uk (keepC uj (keepA _ e_c_1)), keepC uk (keepC uj (keepA _ e_c_2)), keepC uk (keepC uj (keepA _ e_c_3)), keepC uk (keepC uj (keepA _ e_c_4))⟩ | exact ⟨keepA _ (keepC uk (keepC uj (keepA _ e_c_0))), keepA _ (keepC uk (keepC uj (keepA _ e_c_1))), keepA _ (keepC uk (keepC uj (keepA _ e_c_2))), keepA _ (keepC uk (keepC uj (keepA _ e_c_3))), keepA _ (keepC uk (keepC uj (keepA _ e_c_4)))⟩ | exact ⟨keepC uk (keepA _ (keepC uj (keepA _ e_c_0))), keepC uk (keepA _ (keepC uj (keepA _ e_c_1))), keepC uk (keepA _ (keepC uj (keepA _ e_c_2))), keepC uk (keepA _ (keepC uj (keepA _ e_c_3))), keepC uk (keepA _ (keepC uj (keepA _ e_c_4)))⟩ | exact ⟨keepA _ (keepC uk (keepA _ (keepC uj (keepA _ e_c_0)))), keepA _ (keepC uk (keepA _ (keepC uj (keepA _ e_c_1)))), keepA _ (keepC uk (keepA _ (keepC uj (keepA _ e_c_2)))), keepA _ (keepC uk (keepA _ (keepC uj (keepA _ e_c_3)))), keepA _ (keepC uk (keepA _ (keepC uj (keepA _ e_c_4))))⟩ | exact ⟨keepC uk (keepC uj (keepA _ (keepA _ e_c_0))), keepC uk (keepC uj (keepA _ (keepA _ e_c_1))), keepC uk (keepC uj (keepA _ (keepA _ e_c_2))), keepC uk (keepC uj (keepA _ (keepA _ e_c_3))), keepC uk (keepC uj (keepA _ (keepA _ e_c_4)))⟩ | exact ⟨keepA _ (keepC uk (keepC uj (keepA _ (keepA _ e_c_0)))), keepA _ (keepC uk (keepC uj (keepA _ (keepA _ e_c_1)))), keepA _ (keepC uk (keepC uj (keepA _ (keepA _ e_c_2)))), keepA _ (keepC uk (keepC uj (keepA _ (keepA _ e_c_3)))), keepA _ (keepC uk (keepC uj (keepA _ (keepA _ e_c_4))))⟩ | exact ⟨keepC uk (keepA _ (keepC uj (keepA _ (keepA _ e_c_0)))), keepC uk (keepA _ (keepC uj (keepA _ (keepA _ e_c_1)))), keepC uk (keepA _ (keepC uj (keepA _ (keepA _ e_c_2)))), keepC uk (keepA _ (keepC uj (keepA _ (keepA _ e_c_3)))), keepC uk (keepA _ (keepC uj (keepA _ (keepA _ e_c_4))))⟩ | exact ⟨keepA _ (keepC uk (keepA _ (keepC uj (keepA _ (keepA _ e_c_0))))), keepA _ (keepC uk (keepA _ (keepC uj (keepA _ (keepA _ e_c_1))))), keepA _ (keepC uk (keepA _ (keepC uj (keepA _ (keepA _ e_c_2))))), keepA _ (keepC uk (keepA _ (keepC uj (keepA _ (keepA _ e_c_3))))), keepA _ (keepC uk (keepA _ (keepC uj (keepA _ (keepA _ e_c_4)))))⟩ | exact ⟨keepC uk (keepC uj (keepA _ (keepA _ (keepA _ e_c_0)))), keepC uk (keepC uj (keepA _ (keepA _ (keepA _ e_c_1)))), keepC uk (keepC uj (keepA _ (keepA _ (keepA _ e_c_2)))), keepC uk (keepC uj (keepA _ (keepA _ (keepA _ e_c_3)))), keepC uk (keepC uj (keepA _ (keepA _ (keepA _ e_c_4))))⟩ | exact ⟨keepA _ (keepC uk (keepC uj (keepA _ (keepA _ (keepA _ e_c_0))))), keepA _ (keepC uk (keepC uj (keepA _ (keepA _ (keepA _ e_c_1))))), keepA _ (keepC uk (keepC uj (keepA _ (keepA _ (keepA _ e_c_2))))), keepA _ (keepC uk (keepC uj (keepA _ (keepA _ (keepA _ e_c_3))))), keepA _ (keepC uk (keepC uj (keepA _ (keepA _ (keepA _ e_c_4)))))⟩ | exact ⟨keepC uk (keepA _ (keepC uj (keepA _ (keepA _ (keepA _ e_c_0))))), keepC uk (keepA _ (keepC uj (keepA _ (keepA _ (keepA _ e_c_1))))), keepC uk (keepA _ (keepC uj (keepA _ (keepA _ (keepA _ e_c_2))))), keepC uk (keepA _ (keepC uj (keepA _ (keepA _ (keepA _ e_c_3))))), keepC uk (keepA _ (keepC uj (keepA _ (keepA _ (keepA _ e_c_4)))))⟩ | exact ⟨keepA _ (keepC uk (keepA _ (keepC uj (keepA _ (keepA _ (keepA _ e_c_0)))))), keepA _ (keepC uk (keepA _ (keepC uj (keepA _ (keepA _ (keepA _ e_c_1)))))), keepA _ (keepC uk (keepA _ (keepC uj (keepA _ (keepA _ (keepA _ e_c_2)))))), keepA _ (keepC uk (keepA _ (keepC uj (keepA _ (keepA _ (keepA _ e_c_3)))))), keepA _ (keepC uk (keepA _ (keepC uj (keepA _ (keepA _ (keepA _ e_c_4))))))⟩)
    (first | (go_at_call 73; refine (ciJoin_any _ _ _ A _ _ _ B _ (hA.below V_w10').drew (hB.below V_w10').drew (by omega) (by omega)).mono ?_; rintro e wj ⟨va, vc, rfl, ov, uj⟩) | (go_at_call 72; refine (smWires_any _ _ _ _ _ _ G _ _ _ O _ _ _ _ (A ++ B) (j : Int) change _ ((hG.below V_w10').drew.below uj) ov.ints HR.out (by omega) (by omega) (by omega) HV.out (by omega) (by omega)).mono ?_; rintro e wk ⟨a1, c1, a2, c2, a3, n3, c3, rs, rfl, M, hd, uk⟩))
  have uq : Below w10'.heap.size w10' wk := (Below.refl _ _).drew.trans (uj.trans (uk.mono uj.size))
  clear e_c_0 e_c_1 e_c_2 e_c_3 e_c_4
  clear uj uk ov hd
  replace B_c := B_c.below uq
  have S_wk := uq.size
  have V_wk : Below w.heap.size w wk := V_w10'.trans (uq.mono V_w10'.size)
  clear V_w10'
  clear uq
  have HQQ : Hid (wsR P key (j : Int) change G (isF P key (an + bn)) (isS P key (A ++ B) (an + bn)) gn = Q) := Lib.hid (by have := HQ.out; unfold wsQ at this; rw [← HLA.out, ← HLB.out] at this; exact this)
  rw [HQQ.out] at M
  have e_c_0 : wk.cell? ⟨w.heap.size, 0, none⟩ = some (.int .i64 P) := B_c.cell 0
  have e_c_1 : wk.cell? ⟨w.heap.size, 1, none⟩ = some (.int .i64 i0) := B_c.cell 1
  have e_c_2 : wk.cell? ⟨w.heap.size, 2, none⟩ = some (.int .i64 i1) := B_c.cell 2
  have e_c_3 : wk.cell? ⟨w.heap.size, 3, none⟩ = some (.slice (some ⟨g, o, none⟩) gn gc) := B_c.cell 3
  have e_c_4 : wk.cell? ⟨w.heap.size, 4, none⟩ = some (.slice oa on oc) := B_c.cell 4
  go_wp2_with fail
  have s3 := (V_wk).size
  refine (smOuts_any P i0 i1 _ _ _ _ _ _ O _ _ _ Q.1 _ _ _ Q.2.1 _ (hO.below V_wk) M.f.ints M.s.ints (by omega) (by omega) (by omega) (by omega) (by omega) (by omega) HOO.out HQ3.out HQ4.out).mono ?_
  rintro e w11' ⟨b3, d3, rfl, x3, u_w11'⟩
  replace B_c := B_c.below u_w11'
  have S_w11' := u_w11'.size
  have V_w11' : Below w.heap.size w w11' := V_wk.trans (u_w11'.mono V_wk.size)
  clear V_wk
  clear u_w11'
  clear e_c_0 e_c_1 e_c_2 e_c_3 e_c_4
  go_wp2
  go_ret2
  exact ⟨_, _, _, rfl, x3.lower s3, V_w11'⟩
end Go.Proofs.Ythpcmbdkboajcaa
