/- OpenedPairs: what it returns; its law. -/
import Derived.Test.YthpcmbdkboajcaaWireM
namespace Go.Proofs.Ythpcmbdkboajcaa
open Go.RowKit

theorem wsR_op (P key fault change : Int) (G F S : List Int) : ∀ k, (wsR P key fault change G F S k).2.2.length ≤ k ∧ ∀ x ∈ (wsR P key fault change G F S k).2.2, x.length ≤ 2
  | 0 => ⟨Nat.le_refl _, fun x hx => by cases hx⟩
  | k + 1 => by
    obtain ⟨h1, h2⟩ := wsR_op P key fault change G F S k
    simp only [wsR, wsStep]
    split
    · simp only [wsMul]
      refine ⟨by rw [List.length_append]; simp; omega, fun x hx => ?_⟩
      rcases List.mem_append.1 hx with hx | hx
      · exact h2 x hx
      · rw [List.mem_singleton] at hx; subst hx; simp
    · simp only [wsLoc]
      exact ⟨by omega, h2⟩
theorem wsOP_len {P i0 i1 : Int} {gn : Nat} {G O : List Int} {key : Int} {A B : List Int} {rs : List RowD} (h : datas' rs = wsOP P i0 i1 gn G O key A B) : tot rs ≤ 1000000 := by
  rw [tot_datas, h]
  unfold wsOP
  split
  · rename_i ha
    have hg := (asB_gn ha).1
    unfold wsQ
    obtain ⟨h1, h2⟩ := wsR_op P key (-1) 0 G (isF P key (A.length + B.length)) (isS P key (A ++ B) (A.length + B.length)) gn
    have h3 := sum_le (l := (wsR P key (-1) 0 G (isF P key (A.length + B.length)) (isS P key (A ++ B) (A.length + B.length)) gn).2.2.map List.length) (m := 2) (fun x hx => by
      obtain ⟨y, hy, rfl⟩ := List.mem_map.1 hx
      exact h2 y hy)
    rw [List.length_map] at h3
    omega
  · simp
set_option maxHeartbeats 8000000 in
set_option maxRecDepth 100000 in
theorem OpenedPairs_any (P i0 i1 : Int) (ga : Option Addr) (gn gc : Nat) (G : List Int) (oa : Option Addr) (on oc : Nat) (O : List Int) (key : Int) (aa : Option Addr) (an ac : Nat) (A : List Int) (ba : Option Addr) (bn bc : Nat) (B : List Int) (w : World) (hG : Flat 3 w ga gn gc G) (hO : Ints w oa on oc O) (hA : Ints w aa an ac A) (hB : Ints w ba bn bc B) :
    Calls Try.prog 27 #[.agg #[.int .i64 P, .int .i64 i0, .int .i64 i1, .slice ga gn gc, .slice oa on oc], .int .i64 key, .slice aa an ac, .slice ba bn bc] w fun e w' => ∃ a1 n1 c1 rs, e = .returned (.tuple #[.slice a1 n1 c1, .bool (asB P i0 i1 gn G O key A B)]) ∧ OwnSS w' w.heap.size a1 n1 c1 rs ∧ datas' rs = wsOP P i0 i1 gn G O key A B ∧ Below w.heap.size w w' := by

  unfold wsOP
  cases h1 : asB P i0 i1 gn G O key A B
  · simp only [Bool.false_eq_true, if_false]

    go_enter Try.func27, Try.ntmps27
    go_wp2_with fail
    refine Exists.elim (Blk.new_ w (b := w.heap.size) rfl 41 #[.int .i64 P, .int .i64 i0, .int .i64 i1, .slice ga gn gc, .slice oa on oc]) (fun w1' q => ?_)
    rw [q.1]; have B_c := q.2.1; have s_w1' := q.2.2.1; have u_w1' := q.2.2.2; clear q
    have S_w1' : w.heap.size + 1 ≤ w1'.heap.size := Nat.le_of_eq s_w1'.symm
    have V_w1' := (Below.refl w.heap.size w).trans (u_w1'.mono ((Below.refl w.heap.size w)).size)
    clear u_w1' s_w1'
    refine (areArithInputs_any _ _ _ _ _ _ G _ _ _ O _ _ _ _ A _ _ _ B _ (hG.below V_w1') (hO.below V_w1') (hA.below V_w1') (hB.below V_w1')).mono ?_
    rintro e w2' ⟨rfl, u_w2'⟩
    replace B_c := B_c.below u_w2'
    have S_w2' := u_w2'.size
    have V_w2' : Below w.heap.size w w2' := V_w1'.trans (u_w2'.mono V_w1'.size)
    clear V_w1'
    clear u_w2'
    rw [h1]
    go_wp2
    go_ret2
    exact ⟨_, _, _, [], rfl, OwnSS.nil0 _ _ _, rfl, V_w2'⟩

  simp only [if_true]
  obtain ⟨l1, l2⟩ := asB_len h1
  obtain ⟨g1, o1, oo⟩ := asB_gn h1
  obtain ⟨hr, ⟨k0, k1⟩, ha, hb, e0, e1, hpr⟩ := asB_true h1
  obtain ⟨p1, p2⟩ := isPr_range hpr
  clear ha hb hr oo e0 e1
  obtain ⟨Q, hQ⟩ : ∃ x, wsQ P key (-1) 0 gn G A B = x := ⟨_, rfl⟩
  rw [hQ]
  have HQ := Lib.hid hQ
  clear hQ
  have HLA := Lib.hid hA.len
  have HLB := Lib.hid hB.len
  rw [← hA.len] at l1
  rw [← hB.len] at l2
  go_enter Try.func27, Try.ntmps27
  go_wp2_with fail
  refine Exists.elim (Blk.new_ w (b := w.heap.size) rfl 41 #[.int .i64 P, .int .i64 i0, .int .i64 i1, .slice ga gn gc, .slice oa on oc]) (fun w3' q => ?_)
  rw [q.1]; have B_c := q.2.1; have s_w3' := q.2.2.1; have u_w3' := q.2.2.2; clear q
  have S_w3' : w.heap.size + 1 ≤ w3'.heap.size := Nat.le_of_eq s_w3'.symm
  have V_w3' := (Below.refl w.heap.size w).trans (u_w3'.mono ((Below.refl w.heap.size w)).size)
  clear u_w3' s_w3'
  refine (areArithInputs_any _ _ _ _ _ _ G _ _ _ O _ _ _ _ A _ _ _ B _ (hG.below V_w3') (hO.below V_w3') (hA.below V_w3') (hB.below V_w3')).mono ?_
  rintro e w4' ⟨rfl, u_w4'⟩
  replace B_c := B_c.below u_w4'
  have S_w4' := u_w4'.size
  have V_w4' : Below w.heap.size w w4' := V_w3'.trans (u_w4'.mono V_w3'.size)
  clear V_w3'
  clear u_w4'
  rw [h1]
  have s2 := (V_w4').size
  have e_c_0 : w4'.cell? ⟨w.heap.size, 0, none⟩ = some (.int .i64 P) := B_c.cell 0
  have e_c_1 : w4'.cell? ⟨w.heap.size, 1, none⟩ = some (.int .i64 i0) := B_c.cell 1
  have e_c_2 : w4'.cell? ⟨w.heap.size, 2, none⟩ = some (.int .i64 i1) := B_c.cell 2
  have e_c_3 : w4'.cell? ⟨w.heap.size, 3, none⟩ = some (.slice ga gn gc) := B_c.cell 3
  have e_c_4 : w4'.cell? ⟨w.heap.size, 4, none⟩ = some (.slice oa on oc) := B_c.cell 4
  go_wp2_with fail
  refine (wireShares_any _ _ _ _ _ _ G _ _ _ O _ _ _ _ A _ _ _ B (-1) 0 _ (hG.below V_w4') (hA.below V_w4') (hB.below V_w4') h1 (by omega) (by omega)).mono ?_
  rintro e w5' ⟨a1, c1, a2, c2, a3, n3, c3, rs, rfl, M, hd, u_w5'⟩
  replace B_c := B_c.below u_w5'
  have S_w5' := u_w5'.size
  have V_w5' : Below w.heap.size w w5' := V_w4'.trans (u_w5'.mono V_w4'.size)
  clear V_w4'
  clear u_w5'
  clear e_c_0 e_c_1 e_c_2 e_c_3 e_c_4
  have HQQ : Hid (wsR P key (-1) 0 G (isF P key (an + bn)) (isS P key (A ++ B) (an + bn)) gn = Q) := Lib.hid (by have := HQ.out; unfold wsQ at this; rw [← HLA.out, ← HLB.out] at this; exact this)
  rw [HQQ.out] at hd
  have HD := Lib.hid hd
  clear hd
  go_wp2
  go_ret2
  exact ⟨_, _, _, rs, rfl, M.o.lower s2, HD.out, V_w5'⟩
set_option maxHeartbeats 8000000 in
set_option maxRecDepth 100000 in
theorem spec_OpenedPairs_any (P i0 i1 : Int) (ga : Option Addr) (gn gc : Nat) (G : List Int) (oa : Option Addr) (on oc : Nat) (O : List Int) (key : Int) (aa : Option Addr) (an ac : Nat) (A : List Int) (ba : Option Addr) (bn bc : Nat) (B : List Int) (w : World) (hG : Flat 3 w ga gn gc G) (hO : Ints w oa on oc O) (hA : Ints w aa an ac A) (hB : Ints w ba bn bc B) :
    Calls Try.prog 28 #[.agg #[.int .i64 P, .int .i64 i0, .int .i64 i1, .slice ga gn gc, .slice oa on oc], .int .i64 key, .slice aa an ac, .slice ba bn bc] w fun e w' => ∃ a1 n1 c1 rs, e = .returned (.tuple #[.slice a1 n1 c1, .bool (asB P i0 i1 gn G O key A B)]) ∧ OwnSS w' w.heap.size a1 n1 c1 rs ∧ datas' rs = wsOP P i0 i1 gn G O key A B ∧ Below w.heap.size w w' := by

  unfold wsOP
  cases h1 : asB P i0 i1 gn G O key A B
  · simp only [Bool.false_eq_true, if_false]

    go_enter Try.func28, Try.ntmps28
    go_wp2_with fail
    refine Exists.elim (Blk.new_ w (b := w.heap.size) rfl 41 #[.int .i64 P, .int .i64 i0, .int .i64 i1, .slice ga gn gc, .slice oa on oc]) (fun w6' q => ?_)
    rw [q.1]; have B_c := q.2.1; have s_w6' := q.2.2.1; have u_w6' := q.2.2.2; clear q
    have S_w6' : w.heap.size + 1 ≤ w6'.heap.size := Nat.le_of_eq s_w6'.symm
    have V_w6' := (Below.refl w.heap.size w).trans (u_w6'.mono ((Below.refl w.heap.size w)).size)
    clear u_w6' s_w6'
    refine (smAsked_any _ _ _ _ _ _ G _ _ _ O _ _ _ _ A _ _ _ B _ (hG.below V_w6') (hO.below V_w6') (hA.below V_w6') (hB.below V_w6')).mono ?_
    rintro e w7' ⟨rfl, u_w7'⟩
    replace B_c := B_c.below u_w7'
    have S_w7' := u_w7'.size
    have V_w7' : Below w.heap.size w w7' := V_w6'.trans (u_w7'.mono V_w6'.size)
    clear V_w6'
    clear u_w7'
    rw [h1]
    go_wp2
    go_ret2
    exact ⟨_, _, _, [], rfl, OwnSS.nil0 _ _ _, rfl, V_w7'⟩

  simp only [if_true]
  obtain ⟨l1, l2⟩ := asB_len h1
  obtain ⟨g1, o1, oo⟩ := asB_gn h1
  obtain ⟨hr, ⟨k0, k1⟩, ha, hb, e0, e1, hpr⟩ := asB_true h1
  obtain ⟨p1, p2⟩ := isPr_range hpr
  obtain ⟨Q, hQ⟩ : ∃ x, wsQ P key (-1) 0 gn G A B = x := ⟨_, rfl⟩
  rw [hQ]
  have HQ := Lib.hid hQ
  clear hQ
  have HLA := Lib.hid hA.len
  have HLB := Lib.hid hB.len
  rw [← hA.len] at l1 e0
  rw [← hB.len] at l2 e1
  have HR := Lib.hid hr
  have HAA := Lib.hid ha
  have HBB := Lib.hid hb
  have HV := Lib.hid (show ∀ x ∈ A ++ B, 0 ≤ x ∧ x ≤ P - 1 from fun x hx => by
    rcases List.mem_append.1 hx with h | h
    · exact HAA.out x h
    · exact HBB.out x h)
  clear ha hb hr oo
  go_enter Try.func28, Try.ntmps28
  go_wp2_with fail
  refine Exists.elim (Blk.new_ w (b := w.heap.size) rfl 41 #[.int .i64 P, .int .i64 i0, .int .i64 i1, .slice ga gn gc, .slice oa on oc]) (fun w8' q => ?_)
  rw [q.1]; have B_c := q.2.1; have s_w8' := q.2.2.1; have u_w8' := q.2.2.2; clear q
  have S_w8' : w.heap.size + 1 ≤ w8'.heap.size := Nat.le_of_eq s_w8'.symm
  have V_w8' := (Below.refl w.heap.size w).trans (u_w8'.mono ((Below.refl w.heap.size w)).size)
  clear u_w8' s_w8'
  refine (smAsked_any _ _ _ _ _ _ G _ _ _ O _ _ _ _ A _ _ _ B _ (hG.below V_w8') (hO.below V_w8') (hA.below V_w8') (hB.below V_w8')).mono ?_
  rintro e w9' ⟨rfl, u_w9'⟩
  replace B_c := B_c.below u_w9'
  have S_w9' := u_w9'.size
  have V_w9' : Below w.heap.size w w9' := V_w8'.trans (u_w9'.mono V_w8'.size)
  clear V_w8'
  clear u_w9'
  rw [h1]
  have s2 := (V_w9').size
  have e_c_0 : w9'.cell? ⟨w.heap.size, 0, none⟩ = some (.int .i64 P) := B_c.cell 0
  have e_c_1 : w9'.cell? ⟨w.heap.size, 1, none⟩ = some (.int .i64 i0) := B_c.cell 1
  have e_c_2 : w9'.cell? ⟨w.heap.size, 2, none⟩ = some (.int .i64 i1) := B_c.cell 2
  have e_c_3 : w9'.cell? ⟨w.heap.size, 3, none⟩ = some (.slice ga gn gc) := B_c.cell 3
  have e_c_4 : w9'.cell? ⟨w.heap.size, 4, none⟩ = some (.slice oa on oc) := B_c.cell 4
  go_wp2
  go_region_held3 (fun W => W.cell? ⟨w.heap.size, 0, none⟩ = some (.int .i64 P) ∧ W.cell? ⟨w.heap.size, 1, none⟩ = some (.int .i64 i0) ∧ W.cell? ⟨w.heap.size, 2, none⟩ = some (.int .i64 i1) ∧ W.cell? ⟨w.heap.size, 3, none⟩ = some (.slice ga gn gc) ∧ W.cell? ⟨w.heap.size, 4, none⟩ = some (.slice oa on oc))
    (first | go_keep | exact ⟨e_c_0, e_c_1, e_c_2, e_c_3, e_c_4⟩ | exact ⟨keepA _ e_c_0, keepA _ e_c_1, keepA _ e_c_2, keepA _ e_c_3, keepA _ e_c_4⟩ | exact ⟨keepA _ (keepA _ e_c_0), keepA _ (keepA _ e_c_1), keepA _ (keepA _ e_c_2), keepA _ (keepA _ e_c_3), keepA _ (keepA _ e_c_4)⟩ | exact ⟨keepA _ (keepA _ (keepA _ e_c_0)), keepA _ (keepA _ (keepA _ e_c_1)), keepA _ (keepA _ (keepA _ e_c_2)), keepA _ (keepA _ (keepA _ e_c_3)), keepA _ (keepA _ (keepA _ e_c_4))⟩ | exact ⟨keepC uj (e_c_0), keepC uj (e_c_1), keepC uj (e_c_2), keepC uj (e_c_3), keepC uj (e_c_4)⟩ | exact ⟨keepA _ (keepC uj (e_c_0)), keepA _ (keepC uj (e_c_1)), keepA _ (keepC uj (e_c_2)), keepA _ (keepC uj (e_c_3)), keepA _ (keepC uj (e_c_4))⟩ | exact ⟨keepC uj (keepA _ e_c_0), keepC uj (keepA _ e_c_1), keepC uj (keepA _ e_c_2), keepC uj (keepA _ e_c_3), keepC uj (keepA _ e_c_4)⟩ | exact ⟨keepA _ (keepC uj (keepA _ e_c_0)), keepA _ (keepC uj (keepA _ e_c_1)), keepA _ (keepC uj (keepA _ e_c_2)), keepA _ (keepC uj (keepA _ e_c_3)), keepA _ (keepC uj (keepA _ e_c_4))⟩ | exact ⟨keepC uj (keepA _ (keepA _ e_c_0)), keepC uj (keepA _ (keepA _ e_c_1)), keepC uj (keepA _ (keepA _ e_c_2)), keepC uj (keepA _ (keepA _ e_c_3)), keepC uj (keepA _ (keepA _ e_c_4))⟩ | exact ⟨keepA _ (keepC uj (keepA _ (keepA _ e_c_0))), keepA _ (keepC uj (keepA _ (keepA _ e_c_1))), keepA _ (keepC uj (keepA _ (keepA _ e_c_2))), keepA _ (keepC uj (keepA _ (keepA _ e_c_3))), keepA _ (keepC uj (keepA _ (keepA _ e_c_4)))⟩ | exact ⟨keepC uj (keepA _ (keepA _ (keepA _ e_c_0))), keepC uj (keepA _ (keepA _ (keepA _ e_c_1))), keepC uj (keepA _ (keepA _ (keepA _ e_c_2))), keepC uj (keepA _ (keepA _ (keepA _ e_c_3))), keepC uj (keepA _ (keepA _ (keepA _ e_c_4)))⟩ | exact ⟨keepA _ (keepC uj (keepA _ (keepA _ (keepA _ e_c_0)))), keepA _ (keepC uj (keepA _ (keepA _ (keepA _ e_c_1)))), keepA _ (keepC uj (keepA _ (keepA _ (keepA _ e_c_2)))), keepA _ (keepC uj (keepA _ (keepA _ (keepA _ e_c_3)))), keepA _ (keepC uj (keepA _ (keepA _ (keepA _ e_c_4))))⟩ | exact ⟨keepC uk (e_c_0), keepC uk (e_c_1), keepC uk (e_c_2), keepC uk (e_c_3), keepC uk (e_c_4)⟩ | exact ⟨keepA _ (keepC uk (e_c_0)), keepA _ (keepC uk (e_c_1)), keepA _ (keepC uk (e_c_2)), keepA _ (keepC uk (e_c_3)), keepA _ (keepC uk (e_c_4))⟩ | exact ⟨keepC uk (keepA _ e_c_0), keepC uk (keepA _ e_c_1), keepC uk (keepA _ e_c_2), keepC uk (keepA _ e_c_3), keepC uk (keepA _ e_c_4)⟩ | exact ⟨keepA _ (keepC uk (keepA _ e_c_0)), keepA _ (keepC uk (keepA _ e_c_1)), keepA _ (keepC uk (keepA _ e_c_2)), keepA _ (keepC uk (keepA _ e_c_3)), keepA _ (keepC uk (keepA _ e_c_4))⟩ | exact ⟨keepC uk (keepA _ (keepA _ e_c_0)), keepC uk (keepA _ (keepA _ e_c_1)), keepC uk (keepA _ (keepA _ e_c_2)), keepC uk (keepA _ (keepA _ e_c_3)), keepC uk (keepA _ (keepA _ e_c_4))⟩ | exact ⟨keepA _ (keepC uk (keepA _ (keepA _ e_c_0))), keepA _ (keepC uk (keepA _ (keepA _ e_c_1))), keepA _ (keepC uk (keepA _ (keepA _ e_c_2))), keepA _ (keepC uk (keepA _ (keepA _ e_c_3))), keepA _ (keepC uk (keepA _ (keepA _ e_c_4)))⟩ | exact ⟨keepC uk (keepA _ (keepA _ (keepA _ e_c_0))), keepC uk (keepA _ (keepA _ (keepA _ e_c_1))), keepC uk (keepA _ (keepA _ (keepA _ e_c_2))), keepC uk (keepA _ (keepA _ (keepA _ e_c_3))), keepC uk (keepA _ (keepA _ (keepA _ e_c_4)))⟩ | exact ⟨keepA _ (keepC uk (keepA _ (keepA _ (keepA _ e_c_0)))), keepA _ (keepC uk (keepA _ (keepA _ (keepA _ e_c_1)))), keepA _ (keepC uk (keepA _ (keepA _ (keepA _ e_c_2)))), keepA _ (keepC uk (keepA _ (keepA _ (keepA _ e_c_3)))), keepA _ (keepC uk (keepA _ (keepA _ (keepA _ e_c_4))))⟩ | exact ⟨keepC uj (keepC uk (e_c_0)), keepC uj (keepC uk (e_c_1)), keepC uj (keepC uk (e_c_2)), keepC uj (keepC uk (e_c_3)), keepC uj (keepC uk (e_c_4))⟩ | exact ⟨keepA _ (keepC uj (keepC uk (e_c_0))), keepA _ (keepC uj (keepC uk (e_c_1))), keepA _ (keepC uj (keepC uk (e_c_2))), keepA _ (keepC uj (keepC uk (e_c_3))), keepA _ (keepC uj (keepC uk (e_c_4)))⟩ | exact ⟨keepC uj (keepA _ (keepC uk (e_c_0))), keepC uj (keepA _ (keepC uk (e_c_1))), keepC uj (keepA _ (keepC uk (e_c_2))), keepC uj (keepA _ (keepC uk (e_c_3))), keepC uj (keepA _ (keepC uk (e_c_4)))⟩ | exact ⟨keepA _ (keepC uj (keepA _ (keepC uk (e_c_0)))), keepA _ (keepC uj (keepA _ (keepC uk (e_c_1)))), keepA _ (keepC uj (keepA _ (keepC uk (e_c_2)))), keepA _ (keepC uj (keepA _ (keepC uk (e_c_3)))), keepA _ (keepC uj (keepA _ (keepC uk (e_c_4))))⟩ | exact ⟨keepC uj (keepC uk (keepA _ e_c_0)), keepC uj (keepC uk (keepA _ e_c_1)), keepC uj (keepC uk (keepA _ e_c_2)), keepC uj (keepC uk (keepA _ e_c_3)), keepC uj (keepC uk (keepA _ e_c_4))⟩ | exact ⟨keepA _ (keepC uj (keepC uk (keepA _ e_c_0))), keepA _ (keepC uj (keepC uk (keepA _ e_c_1))), keepA _ (keepC uj (keepC uk (keepA _ e_c_2))), keepA _ (keepC uj (keepC uk (keepA _ e_c_3))), keepA _ (keepC uj (keepC uk (keepA _ e_c_4)))⟩ | exact ⟨keepC uj (keepA _ (keepC uk (keepA _ e_c_0))), keepC uj (keepA _ (keepC uk (keepA _ e_c_1))), keepC uj (keepA _ (keepC uk (keepA _ e_c_2))), keepC uj (keepA _ (keepC uk (keepA _ e_c_3))), keepC uj (keepA _ (keepC uk (keepA _ e_c_4)))⟩ | exact ⟨keepA _ (keepC uj (keepA _ (keepC uk (keepA _ e_c_0)))), keepA _ (keepC uj (keepA _ (keepC uk (keepA _ e_c_1)))), keepA _ (keepC uj (keepA _ (keepC uk (keepA _ e_c_2)))), keepA _ (keepC uj (keepA _ (keepC uk (keepA _ e_c_3)))), keepA _ (keepC uj (keepA _ (keepC uk (keepA _ e_c_4))))⟩ | exact ⟨keepC uj (keepC uk (keepA _ (keepA _ e_c_0))), keepC uj (keepC uk (keepA _ (keepA _ e_c_1))), keepC uj (keepC uk (keepA _ (keepA _ e_c_2))), keepC uj (keepC uk (keepA _ (keepA _ e_c_3))), keepC uj (keepC uk (keepA _ (keepA _ e_c_4)))⟩ | exact ⟨keepA _ (keepC uj (keepC uk (keepA _ (keepA _ e_c_0)))), keepA _ (keepC uj (keepC uk (keepA _ (keepA _ e_c_1)))), keepA _ (keepC uj (keepC uk (keepA _ (keepA _ e_c_2)))), keepA _ (keepC uj (keepC uk (keepA _ (keepA _ e_c_3)))), keepA _ (keepC uj (keepC uk (keepA _ (keepA _ e_c_4))))⟩ | exact ⟨keepC uj (keepA _ (keepC uk (keepA _ (keepA _ e_c_0)))), keepC uj (keepA _ (keepC uk (keepA _ (keepA _ e_c_1)))), keepC uj (keepA _ (keepC uk (keepA _ (keepA _ e_c_2)))), keepC uj (keepA _ (keepC uk (keepA _ (keepA _ e_c_3)))), keepC uj (keepA _ (keepC uk (keepA _ (keepA _ e_c_4))))⟩ | exact ⟨keepA _ (keepC uj (keepA _ (keepC uk (keepA _ (keepA _ e_c_0))))), keepA _ (keepC uj (keepA _ (keepC uk (keepA _ (keepA _ e_c_1))))), keepA _ (keepC uj (keepA _ (keepC uk (keepA _ (keepA _ e_c_2))))), keepA _ (keepC uj (keepA _ (keepC uk (keepA _ (keepA _ e_c_3))))), keepA _ (keepC uj (keepA _ (keepC uk (keepA _ (keepA _ e_c_4)))))⟩ | exact ⟨keepC uj (keepC uk (keepA _ (keepA _ (keepA _ e_c_0)))), keepC uj (keepC uk (keepA _ (keepA _ (keepA _ e_c_1)))), keepC uj (keepC uk (keepA _ (keepA _ (keepA _ e_c_2)))), keepC uj (keepC uk (keepA _ (keepA _ (keepA _ e_c_3)))), keepC uj (keepC uk (keepA _ (keepA _ (keepA _ e_c_4))))⟩ | exact ⟨keepA _ (keepC uj (keepC uk (keepA _ (keepA _ (keepA _ e_c_0))))), keepA _ (keepC uj (keepC uk (keepA _ (keepA _ (keepA _ e_c_1))))), keepA _ (keepC uj (keepC uk (keepA _ (keepA _ (keepA _ e_c_2))))), keepA _ (keepC uj (keepC uk (keepA _ (keepA _ (keepA _ e_c_3))))), keepA _ (keepC uj (keepC uk (keepA _ (keepA _ (keepA _ e_c_4)))))⟩ | exact ⟨keepC uj (keepA _ (keepC uk (keepA _ (keepA _ (keepA _ e_c_0))))), keepC uj (keepA _ (keepC uk (keepA _ (keepA _ (keepA _ e_c_1))))), keepC uj (keepA _ (keepC uk (keepA _ (keepA _ (keepA _ e_c_2))))), keepC uj (keepA _ (keepC uk (keepA _ (keepA _ (keepA _ e_c_3))))), keepC uj (keepA _ (keepC uk (keepA _ (keepA _ (keepA _ e_c_4)))))⟩ | exact ⟨keepA _ (keepC uj (keepA _ (keepC uk (keepA _ (keepA _ (keepA _ e_c_0)))))), keepA _ (keepC uj (keepA _ (keepC uk (keepA _ (keepA _ (keepA _ e_c_1)))))), keepA _ (keepC uj (keepA _ (keepC uk (keepA _ (keepA _ (keepA _ e_c_2)))))), keepA _ (keepC uj (keepA _ (keepC uk (keepA _ (keepA _ (keepA _ e_c_3)))))), keepA _ (keepC uj (keepA _ (keepC uk (keepA _ (keepA _ (keepA _ e_c_4))))))⟩ | exact ⟨keepC uk (keepC uj (e_c_0)), keepC uk (keepC uj (e_c_1)), keepC uk (keepC uj (e_c_2)), keepC uk (keepC uj (e_c_3)), keepC uk (keepC uj (e_c_4))⟩ | exact ⟨keepA _ (keepC uk (keepC uj (e_c_0))), keepA _ (keepC uk (keepC uj (e_c_1))), keepA _ (keepC uk (keepC uj (e_c_2))), keepA _ (keepC uk (keepC uj (e_c_3))), keepA _ (keepC uk (keepC uj (e_c_4)))⟩ | exact ⟨keepC uk (keepA _ (keepC uj (e_c_0))), keepC uk (keepA _ (keepC uj (e_c_1))), keepC uk (keepA _ (keepC uj (e_c_2))), keepC uk (keepA _ (keepC uj (e_c_3))), keepC uk (keepA _ (keepC uj (e_c_4)))⟩ | exact ⟨keepA _ (keepC uk (keepA _ (keepC uj (e_c_0)))), keepA _ (keepC uk (keepA _ (keepC uj (e_c_1)))), keepA _ (keepC uk (keepA _ (keepC uj (e_c_2)))), keepA _ (keepC uk (keepA _ (keepC uj (e_c_3)))), keepA _ (keepC uk (keepA _ (keepC uj (e_c_4))))⟩ | exact ⟨keepC uk (keepC uj (keepA _ e_c_0)), keepC uk (keepC uj (keepA _ e_c_1)), keepC uk (keepC uj (keepA _ e_c_2)), keepC uk (keepC uj (keepA _ e_c_3)), keepC uk (keepC uj (keepA _ e_c_4))⟩ | exact ⟨keepA _ (keepC uk (keepC uj (keepA _ e_c_0))), keepA _ (keepC uk (keepC uj (keepA _ e_c_1))), keepA _ (keepC uk (keepC uj (keepA _ e_c_2))), keepA _ (keepC uk (keepC uj (keepA _ e_c_3))), keepA _ (keepC uk (keepC uj (keepA _ e_c_4)))⟩ | exact ⟨keepC uk (keepA _ (keepC uj (keepA _ e_c_0))), keepC uk (keepA _ (keepC uj (keepA _ e_c_1))), keepC uk (keepA _ (keepC uj (keepA _ e_c_2))), keepC uk (keepA _ (keepC uj (keepA _ e_c_3))), keepC uk (keepA _ (keepC uj (keepA _ e_c_4)))⟩ | exact ⟨keepA _ (keepC uk (keepA _ (keepC uj (keepA _ e_c_0)))), keepA _ (keepC uk (keepA _ (keepC uj (keepA _ e_c_1)))), keepA _ (keepC uk (keepA _ (keepC uj (keepA _ e_c_2)))), keepA _ (keepC uk (keepA _ (keepC uj (keepA _ e_c_3)))), keepA _ (keepC uk (keepA _ (keepC uj (keepA _ e_c_4))))⟩ | exact ⟨keepC uk (keepC uj (keepA _ (keepA _ e_c_0))), keepC uk (keepC uj (keepA _ (keepA _ e_c_1))), keepC uk (keepC uj (keepA _ (keepA _ e_c_2))), keepC uk (keepC uj (keepA _ (keepA _ e_c_3))), keepC uk (keepC uj (keepA _ (keepA _ e_c_4)))⟩ | exact ⟨keepA _ (keepC uk (keepC uj (keepA _ (keepA _ e_c_0)))), keepA _ (keepC uk (keepC uj (keepA _ (keepA _ e_c_1)))), keepA _ (keepC uk (keepC uj (keepA _ (keepA _ e_c_2)))), keepA _ (keepC uk (keepC uj (keepA _ (keepA _ e_c_3)))), keepA _ (keepC uk (keepC uj (keepA _ (keepA _ e_c_4))))⟩ | exact ⟨keepC uk (keepA _ (keepC uj (keepA _ (keepA _ e_c_0)))), keepC uk (keepA _ (keepC uj (keepA _ (keepA _ e_c_1)))), keepC uk (keepA _ (keepC uj (keepA _ (keepA _ e_c_2)))), keepC uk (keepA _ (keepC uj (keepA _ (keepA _ e_c_3)))), keepC uk (keepA _ (keepC uj (keepA _ (keepA _ e_c_4))))⟩ | exact ⟨keepA _ (keepC uk (keepA _ (keepC uj (keepA _ (keepA _ e_c_0))))), keepA _ (keepC uk (keepA _ (keepC uj (keepA _ (keepA _ e_c_1))))), keepA _ (keepC uk (keepA _ (keepC uj (keepA _ (keepA _ e_c_2))))), keepA _ (keepC uk (keepA _ (keepC uj (keepA _ (keepA _ e_c_3))))), keepA _ (keepC uk (keepA _ (keepC uj (keepA _ (keepA _ e_c_4)))))⟩ | exact ⟨keepC uk (keepC uj (keepA _ (keepA _ (keepA _ e_c_0)))), keepC uk (keepC uj (keepA _ (keepA _ (keepA _ e_c_1)))), keepC uk (keepC uj (keepA _ (keepA _ (keepA _ e_c_2)))), keepC uk (keepC uj (keepA _ (keepA _ (keepA _ e_c_3)))), keepC uk (keepC uj (keepA _ (keepA _ (keepA _ e_c_4))))⟩ | exact ⟨keepA _ (keepC uk (keepC uj (keepA _ (keepA _ (keepA _ e_c_0))))), keepA _ (keepC uk (keepC uj (keepA _ (keepA _ (keepA _ e_c_1))))), keepA _ (keepC uk (keepC uj (keepA _ (keepA _ (keepA _ e_c_2))))), keepA _ (keepC uk (keepC uj (keepA _ (keepA _ (keepA _ e_c_3))))), keepA _ (keepC uk (keepC uj (keepA _ (keepA _ (keepA _ e_c_4)))))⟩ | exact ⟨keepC uk (keepA _ (keepC uj (keepA _ (keepA _ (keepA _ e_c_0))))), keepC uk (keepA _ (keepC uj (keepA _ (keepA _ (keepA _ e_c_1))))), keepC uk (keepA _ (keepC uj (keepA _ (keepA _ (keepA _ e_c_2))))), keepC uk (keepA _ (keepC uj (keepA _ (keepA _ (keepA _ e_c_3))))), keepC uk (keepA _ (keepC uj (keepA _ (keepA _ (keepA _ e_c_4)))))⟩ | exact ⟨keepA _ (keepC uk (keepA _ (keepC uj (keepA _ (keepA _ (keepA _ e_c_0)))))), keepA _ (keepC uk (keepA _ (keepC uj (keepA _ (keepA _ (keepA _ e_c_1)))))), keepA _ (keepC uk (keepA _ (keepC uj (keepA _ (keepA _ (keepA _ e_c_2)))))), keepA _ (keepC uk (keepA _ (keepC uj (keepA _ (keepA _ (keepA _ e_c_3)))))), keepA _ (keepC uk (keepA _ (keepC uj (keepA _ (keepA _ (keepA _ e_c_4))))))⟩)
    (first | (go_at_call 73; refine (ciJoin_any _ _ _ A _ _ _ B _ (hA.below V_w9').drew (hB.below V_w9').drew (by omega) (by omega)).mono ?_; rintro e wj ⟨va, vc, rfl, ov, uj⟩) | (go_at_call 72; refine (smWires_any _ _ _ _ _ _ G _ _ _ O _ _ _ _ (A ++ B) (-1) 0 _ ((hG.below V_w9').drew.below uj) ov.ints HR.out (by omega) (by omega) (by omega) HV.out (by omega) (by omega)).mono ?_; rintro e wk ⟨a1, c1, a2, c2, a3, n3, c3, rs, rfl, M, hd, uk⟩))
  have uq : Below w9'.heap.size w9' wk := (Below.refl _ _).drew.trans (uj.trans (uk.mono uj.size))
  replace s2 : w.heap.size ≤ wj.heap.size := Nat.le_trans s2 uj.size
  clear e_c_0 e_c_1 e_c_2 e_c_3 e_c_4
  clear uj uk ov
  replace B_c := B_c.below uq
  have S_wk := uq.size
  have V_wk : Below w.heap.size w wk := V_w9'.trans (uq.mono V_w9'.size)
  clear V_w9'
  clear uq
  have HQQ : Hid (wsR P key (-1) 0 G (isF P key (an + bn)) (isS P key (A ++ B) (an + bn)) gn = Q) := Lib.hid (by have := HQ.out; unfold wsQ at this; rw [← HLA.out, ← HLB.out] at this; exact this)
  rw [HQQ.out] at hd
  have HD := Lib.hid hd
  clear hd
  go_wp2
  go_ret2
  exact ⟨_, _, _, rs, rfl, M.o.lower s2, HD.out, V_wk⟩
end Go.Proofs.Ythpcmbdkboajcaa
