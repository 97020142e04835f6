/- RunShared of the program. -/
import Derived.Test.YthpcmbdkboajcaaWireM
namespace Go.Proofs.Ythpcmbdkboajcaa
open Go.RowKit

set_option maxHeartbeats 8000000 in
set_option maxRecDepth 100000 in
theorem RunShared_any (P i0 i1 : Int) (ga : Option Addr) (gn gc : Nat) (G : List Int) (oa : Option Addr) (on oc : Nat) (O : List Int) (key : Int) (aa : Option Addr) (an ac : Nat) (A : List Int) (ba : Option Addr) (bn bc : Nat) (B : List Int) (w : World) (hG : Flat 3 w ga gn gc G) (hO : Ints w oa on oc O) (hA : Ints w aa an ac A) (hB : Ints w ba bn bc B) :
    Calls Try.prog 21 #[.agg #[.int .i64 P, .int .i64 i0, .int .i64 i1, .slice ga gn gc, .slice oa on oc], .int .i64 key, .slice aa an ac, .slice ba bn bc] w fun e w' => ∃ a1 n1 c1, e = .returned (.tuple #[.slice a1 n1 c1, .bool (asB P i0 i1 gn G O key A B)]) ∧ Own w' w.heap.size a1 n1 c1 (rsL P i0 i1 gn G O key A B) ∧ Below w.heap.size w w' := by

  have HW1 : Hid (asB P i0 i1 gn G O key A B = true → wsL1 P i0 i1 gn G O key A B = (wsQ P key (-1) 0 gn G A B).1) := Lib.hid (fun h => by unfold wsL1; rw [if_pos h])
  have HW2 : Hid (asB P i0 i1 gn G O key A B = true → wsL2 P i0 i1 gn G O key A B = (wsQ P key (-1) 0 gn G A B).2.1) := Lib.hid (fun h => by unfold wsL2; rw [if_pos h])
  unfold rsL
  cases h1 : asB P i0 i1 gn G O key A B
  · simp only [Bool.false_eq_true, if_false]

    go_enter Try.func21, Try.ntmps21
    go_wp2_with fail
    refine Exists.elim (Blk.new_ w (b := w.heap.size) rfl 41 #[.int .i64 P, .int .i64 i0, .int .i64 i1, .slice ga gn gc, .slice oa on oc]) (fun w1' q => ?_)
    rw [q.1]; have B_c := q.2.1; have s_w1' := q.2.2.1; have u_w1' := q.2.2.2; clear q
    have S_w1' : w.heap.size + 1 ≤ w1'.heap.size := Nat.le_of_eq s_w1'.symm
    have V_w1' := (Below.refl w.heap.size w).trans (u_w1'.mono ((Below.refl w.heap.size w)).size)
    clear u_w1' s_w1'
    refine (WireShares_any _ _ _ _ _ _ G _ _ _ O _ _ _ _ A _ _ _ B _ (hG.below V_w1') (hO.below V_w1') (hA.below V_w1') (hB.below V_w1')).mono ?_
    rintro e w2' ⟨a1, n1, c1, a2, n2, c2, rfl, o1, o2, D, u_w2'⟩
    replace B_c := B_c.below u_w2'
    have S_w2' := u_w2'.size
    have V_w2' : Below w.heap.size w w2' := V_w1'.trans (u_w2'.mono V_w1'.size)
    clear V_w1'
    clear u_w2'
    rw [h1]
    clear o1 o2 D
    go_wp2
    go_ret2
    exact ⟨_, _, _, rfl, Own.nil0 _ _ _, V_w2'⟩

  simp only [if_true]
  obtain ⟨l1, l2⟩ := asB_len h1
  have OK := Lib.hid (wsQ_ok (-1) 0 h1)
  obtain ⟨g1, o1, oo⟩ := asB_gn h1
  have HOO := Lib.hid oo
  obtain ⟨hr, ⟨k0, k1⟩, ha, hb, e0, e1, hpr⟩ := asB_true h1
  obtain ⟨p1, p2⟩ := isPr_range hpr
  have HR := Lib.hid hr
  have HAA := Lib.hid ha
  have HBB := Lib.hid hb
  have HV := Lib.hid (show ∀ x ∈ A ++ B, 0 ≤ x ∧ x ≤ P - 1 from fun x hx => by
    rcases List.mem_append.1 hx with h | h
    · exact HAA.out x h
    · exact HBB.out x h)
  clear ha hb hr oo
  have HLA := Lib.hid hA.len
  have HLB := Lib.hid hB.len
  rw [← hO.len] at o1 ⊢
  obtain ⟨Q, hQ⟩ : ∃ x, wsQ P key (-1) 0 gn G A B = x := ⟨_, rfl⟩
  rw [hQ] at OK ⊢
  have HQ := Lib.hid hQ
  clear hQ
  obtain ⟨q1, q2, q3, q4⟩ := OK.out
  rw [← hA.len] at l1 e0 q1 q2 HOO
  rw [← hB.len] at l2 e1 q1 q2 HOO
  have HQ1 := Lib.hid q1
  have HQ2 := Lib.hid q2
  have HQ3 := Lib.hid q3
  have HQ4 := Lib.hid q4
  clear q1 q2 q3 q4
  have HF := HW1.out h1
  have HS := HW2.out h1
  rw [HQ.out] at HF HS
  replace HF := Lib.hid HF
  replace HS := Lib.hid HS
  clear HW1 HW2
  go_enter Try.func21, Try.ntmps21
  go_wp2_with fail
  refine Exists.elim (Blk.new_ w (b := w.heap.size) rfl 41 #[.int .i64 P, .int .i64 i0, .int .i64 i1, .slice ga gn gc, .slice oa on oc]) (fun w3' q => ?_)
  rw [q.1]; have B_c := q.2.1; have s_w3' := q.2.2.1; have u_w3' := q.2.2.2; clear q
  have S_w3' : w.heap.size + 1 ≤ w3'.heap.size := Nat.le_of_eq s_w3'.symm
  have V_w3' := (Below.refl w.heap.size w).trans (u_w3'.mono ((Below.refl w.heap.size w)).size)
  clear u_w3' s_w3'
  have s2 := (V_w3').size
  refine (WireShares_any _ _ _ _ _ _ G _ _ _ O _ _ _ _ A _ _ _ B _ (hG.below V_w3') (hO.below V_w3') (hA.below V_w3') (hB.below V_w3')).mono ?_
  rintro e w4' ⟨a1, n1, c1, a2, n2, c2, rfl, x1, x2, D, u_w4'⟩
  replace B_c := B_c.below u_w4'
  have S_w4' := u_w4'.size
  have V_w4' : Below w.heap.size w w4' := V_w3'.trans (u_w4'.mono V_w3'.size)
  clear V_w3'
  clear u_w4'
  rw [h1]
  rw [HF.out] at x1
  rw [HS.out] at x2
  have y1 := x1.len
  have y2 := x2.len
  rw [HQ1.out] at y1
  rw [HQ2.out] at y2
  subst y1
  subst y2
  clear D
  have e_c_0 : w4'.cell? ⟨w.heap.size, 0, none⟩ = some (.int .i64 P) := B_c.cell 0
  have e_c_1 : w4'.cell? ⟨w.heap.size, 1, none⟩ = some (.int .i64 i0) := B_c.cell 1
  have e_c_2 : w4'.cell? ⟨w.heap.size, 2, none⟩ = some (.int .i64 i1) := B_c.cell 2
  have e_c_3 : w4'.cell? ⟨w.heap.size, 3, none⟩ = some (.slice ga gn gc) := B_c.cell 3
  have e_c_4 : w4'.cell? ⟨w.heap.size, 4, none⟩ = some (.slice oa on oc) := B_c.cell 4
  go_wp2_with fail
  have s3 := (V_w4').size
  refine (outSums_any P i0 i1 _ _ _ _ _ _ O _ _ _ Q.1 _ _ _ Q.2.1 _ (hO.below V_w4') x1.ints x2.ints (by omega) (by omega) (by omega) (by omega) (by omega) HOO.out HQ3.out HQ4.out).mono ?_
  rintro e w5' ⟨a3, c3, rfl, x3, u_w5'⟩
  replace B_c := B_c.below u_w5'
  have S_w5' := u_w5'.size
  have V_w5' : Below w.heap.size w w5' := V_w4'.trans (u_w5'.mono V_w4'.size)
  clear V_w4'
  clear u_w5'
  clear e_c_0 e_c_1 e_c_2 e_c_3 e_c_4
  go_wp2
  go_ret2
  exact ⟨_, _, _, rfl, x3.lower s3, V_w5'⟩
end Go.Proofs.Ythpcmbdkboajcaa
