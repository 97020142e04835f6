/- WireShares, RunShared, OpenedPairs, RunWithFault: what they return; their laws. -/
import Derived.Test.YtjnblfnfegjbfaaWireS
import Derived.Test.YtjnblfnfegjbfaaOuts
import Derived.Test.YtjnblfnfegjbfaaSS
import Derived.Test.YtjnblfnfegjbfaaArk
namespace Go.Proofs.Ytjnblfnfegjbfaa
open Go.RowKit

def wsQ (P key fault change : Int) (gn : Nat) (G A B : List Int) : WSt := wsR P key fault change G (isF P key (A.length + B.length)) (isS P key (A ++ B) (A.length + B.length)) gn
def wsL1 (P i0 i1 : Int) (gn : Nat) (G O : List Int) (key : Int) (A B : List Int) : List Int := if asB P i0 i1 gn G O key A B then (wsQ P key (-1) 0 gn G A B).1 else []
def wsL2 (P i0 i1 : Int) (gn : Nat) (G O : List Int) (key : Int) (A B : List Int) : List Int := if asB P i0 i1 gn G O key A B then (wsQ P key (-1) 0 gn G A B).2.1 else []
def wsOP (P i0 i1 : Int) (gn : Nat) (G O : List Int) (key : Int) (A B : List Int) : List (List Int) := if asB P i0 i1 gn G O key A B then (wsQ P key (-1) 0 gn G A B).2.2 else []
def rsL (P i0 i1 : Int) (gn : Nat) (G O : List Int) (key : Int) (A B : List Int) : List Int := if asB P i0 i1 gn G O key A B then outL P (wsQ P key (-1) 0 gn G A B).1 (wsQ P key (-1) 0 gn G A B).2.1 O O.length else []
theorem wsQ_ok {P i0 i1 : Int} {gn : Nat} {G O : List Int} {key : Int} {A B : List Int} (fault change : Int) (h : asB P i0 i1 gn G O key A B = true) : WsOk P (A.length + B.length + gn) (wsQ P key fault change gn G A B) := by
  obtain ⟨hr, _, _, _, _, _, hpr⟩ := asB_true h
  obtain ⟨_, _, _, _, _, hga, _⟩ := arB_all hr
  obtain ⟨p1, _⟩ := isPr_range hpr
  exact wsR_ok (by omega) (isF_len P key _) (isS_len P key _ _) (isF_rng P key _ (by omega)) (isS_rng P key _ _ (by omega)) hga gn (Nat.le_refl _)
theorem asB_gn {P i0 i1 : Int} {gn : Nat} {G O : List Int} {key : Int} {A B : List Int} (h : asB P i0 i1 gn G O key A B = true) : gn ≤ 100 ∧ O.length ≤ 20 ∧ (∀ x ∈ O, 0 ≤ x ∧ x ≤ ((A.length + B.length + gn : Nat) : Int) - 1) := by
  obtain ⟨hr, _, _, _, e0, e1, _⟩ := asB_true h
  obtain ⟨_, _, r2, r3, _, _, hO⟩ := arB_all hr
  exact ⟨r2, r3, fun x hx => by have := hO x hx; omega⟩
theorem wsL1_len (P i0 i1 : Int) (gn : Nat) (G O : List Int) (key : Int) (A B : List Int) : (wsL1 P i0 i1 gn G O key A B).length ≤ 1000000 := by
  unfold wsL1
  split
  · rename_i h; have := asB_len h; have := asB_gn h; rw [(wsQ_ok (-1) 0 h).lf]; omega
  · simp
theorem wsL2_len (P i0 i1 : Int) (gn : Nat) (G O : List Int) (key : Int) (A B : List Int) : (wsL2 P i0 i1 gn G O key A B).length ≤ 1000000 := by
  unfold wsL2
  split
  · rename_i h; have := asB_len h; have := asB_gn h; rw [(wsQ_ok (-1) 0 h).ls]; omega
  · simp
theorem rsL_len (P i0 i1 : Int) (gn : Nat) (G O : List Int) (key : Int) (A B : List Int) : (rsL P i0 i1 gn G O key A B).length ≤ 1000000 := by
  unfold rsL
  split
  · rename_i h; have := asB_gn h; rw [outL_len]; omega
  · simp
set_option maxHeartbeats 8000000 in
set_option maxRecDepth 100000 in
theorem WireShares_any (P i0 i1 : Int) (ga : Option Addr) (gn gc : Nat) (G : List Int) (oa : Option Addr) (on oc : Nat) (O : List Int) (key : Int) (aa : Option Addr) (an ac : Nat) (A : List Int) (ba : Option Addr) (bn bc : Nat) (B : List Int) (w : World) (hG : Flat 3 w ga gn gc G) (hO : Ints w oa on oc O) (hA : Ints w aa an ac A) (hB : Ints w ba bn bc B) :
    Calls Try.prog 40 #[.agg #[.int .i64 P, .int .i64 i0, .int .i64 i1, .slice ga gn gc, .slice oa on oc], .int .i64 key, .slice aa an ac, .slice ba bn bc] w fun e w' => ∃ a1 n1 c1 a2 n2 c2, e = .returned (.tuple #[.slice a1 n1 c1, .slice a2 n2 c2, .bool (asB P i0 i1 gn G O key A B)]) ∧ Own w' w.heap.size a1 n1 c1 (wsL1 P i0 i1 gn G O key A B) ∧ Own w' w.heap.size a2 n2 c2 (wsL2 P i0 i1 gn G O key A B) ∧ Disj (foot a1 c1) (foot a2 c2) ∧ Below w.heap.size w w' := by

  unfold wsL1 wsL2
  cases h1 : asB P i0 i1 gn G O key A B
  · simp only [Bool.false_eq_true, if_false]

    go_enter Try.func40, Try.ntmps40
    go_wp2_with fail
    have V_w1'_1 : Below w.heap.size w (w.alloc (.cells #[.int .i64 P, .int .i64 i0, .int .i64 i1, .slice ga gn gc, .slice oa on oc] 31)) := ((Below.refl w.heap.size w)).alloc (by have := ((Below.refl w.heap.size w)).size; first | exact this | (simp at *; omega)) _
    have B_c : Blk (w.alloc (.cells #[.int .i64 P, .int .i64 i0, .int .i64 i1, .slice ga gn gc, .slice oa on oc] 31)) (w.heap.size) 31 #[.int .i64 P, .int .i64 i0, .int .i64 i1, .slice ga gn gc, .slice oa on oc] := by exact Blk.new w 31 #[.int .i64 P, .int .i64 i0, .int .i64 i1, .slice ga gn gc, .slice oa on oc]
    have S_w1' : w.heap.size + 1 ≤ (w.alloc (.cells #[.int .i64 P, .int .i64 i0, .int .i64 i1, .slice ga gn gc, .slice oa on oc] 31)).heap.size := by first | (simp; done) | (simp; omega) | (simp [World.setCell]; done) | (simp [World.setCell]; omega)
    generalize (w.alloc (.cells #[.int .i64 P, .int .i64 i0, .int .i64 i1, .slice ga gn gc, .slice oa on oc] 31)) = w1' at *
    have V_w1' : Below w.heap.size w w1' := V_w1'_1
    clear V_w1'_1
    refine (areArithInputs_any _ _ _ _ _ _ G _ _ _ O _ _ _ _ A _ _ _ B _ (hG.below V_w1') (hO.below V_w1') (hA.below V_w1') (hB.below V_w1')).mono ?_
    rintro e w2' ⟨rfl, u_w2'⟩
    replace B_c := B_c.below u_w2'
    have S_w2' := u_w2'.size
    have V_w2' : Below w.heap.size w w2' := V_w1'.trans (u_w2'.mono V_w1'.size)
    clear V_w1'
    clear u_w2'
    rw [h1]
    go_wp2
    go_ret3
    exact ⟨_, _, _, _, _, _, rfl, Own.nil0 _ _ _, Own.nil0 _ _ _, disj_nil0 _ _, V_w2'⟩

  simp only [if_true]
  obtain ⟨l1, l2⟩ := asB_len h1
  have OK := Lib.hid (wsQ_ok (-1) 0 h1)
  obtain ⟨g1, o1, oo⟩ := asB_gn h1
  have HOO := Lib.hid oo
  obtain ⟨hr, ⟨k0, k1⟩, ha, hb, e0, e1, hpr⟩ := asB_true h1
  obtain ⟨p1, p2⟩ := isPr_range hpr
  unfold wsQ at OK ⊢
  rw [← hA.len] at l1 e0 OK HOO ⊢
  rw [← hB.len] at l2 e1 OK HOO ⊢
  have HR := Lib.hid hr
  have HAA := Lib.hid ha
  have HBB := Lib.hid hb
  have HV := Lib.hid (show ∀ x ∈ A ++ B, 0 ≤ x ∧ x ≤ P - 1 from fun x hx => by
    rcases List.mem_append.1 hx with h | h
    · exact HAA.out x h
    · exact HBB.out x h)
  clear ha hb hr oo
  go_enter Try.func40, Try.ntmps40
  go_wp2_with fail
  have V_w3'_1 : Below w.heap.size w (w.alloc (.cells #[.int .i64 P, .int .i64 i0, .int .i64 i1, .slice ga gn gc, .slice oa on oc] 31)) := ((Below.refl w.heap.size w)).alloc (by have := ((Below.refl w.heap.size w)).size; first | exact this | (simp at *; omega)) _
  have B_c : Blk (w.alloc (.cells #[.int .i64 P, .int .i64 i0, .int .i64 i1, .slice ga gn gc, .slice oa on oc] 31)) (w.heap.size) 31 #[.int .i64 P, .int .i64 i0, .int .i64 i1, .slice ga gn gc, .slice oa on oc] := by exact Blk.new w 31 #[.int .i64 P, .int .i64 i0, .int .i64 i1, .slice ga gn gc, .slice oa on oc]
  have S_w3' : w.heap.size + 1 ≤ (w.alloc (.cells #[.int .i64 P, .int .i64 i0, .int .i64 i1, .slice ga gn gc, .slice oa on oc] 31)).heap.size := by first | (simp; done) | (simp; omega) | (simp [World.setCell]; done) | (simp [World.setCell]; omega)
  generalize (w.alloc (.cells #[.int .i64 P, .int .i64 i0, .int .i64 i1, .slice ga gn gc, .slice oa on oc] 31)) = w3' at *
  have V_w3' : Below w.heap.size w w3' := V_w3'_1
  clear V_w3'_1
  refine (areArithInputs_any _ _ _ _ _ _ G _ _ _ O _ _ _ _ A _ _ _ B _ (hG.below V_w3') (hO.below V_w3') (hA.below V_w3') (hB.below V_w3')).mono ?_
  rintro e w4' ⟨rfl, u_w4'⟩
  replace B_c := B_c.below u_w4'
  have S_w4' := u_w4'.size
  have V_w4' : Below w.heap.size w w4' := V_w3'.trans (u_w4'.mono V_w3'.size)
  clear V_w3'
  clear u_w4'
  rw [h1]
  have s2 := (V_w4').size
  have e_c_0 : w4'.cell? ⟨w.heap.size, 0, none⟩ = some (.int .i64 P) := B_c.cell 0
  have e_c_1 : w4'.cell? ⟨w.heap.size, 1, none⟩ = some (.int .i64 i0) := B_c.cell 1
  have e_c_2 : w4'.cell? ⟨w.heap.size, 2, none⟩ = some (.int .i64 i1) := B_c.cell 2
  have e_c_3 : w4'.cell? ⟨w.heap.size, 3, none⟩ = some (.slice ga gn gc) := B_c.cell 3
  have e_c_4 : w4'.cell? ⟨w.heap.size, 4, none⟩ = some (.slice oa on oc) := B_c.cell 4
  go_wp2_with fail
  refine (wireShares_any _ _ _ _ _ _ G _ _ _ O _ _ _ _ A _ _ _ B (-1) 0 _ (hG.below V_w4') (hA.below V_w4') (hB.below V_w4') h1 (by omega) (by omega)).mono ?_
  rintro e w5' ⟨a1, c1, a2, c2, a3, n3, c3, rs, rfl, M, hd, u_w5'⟩
  replace B_c := B_c.below u_w5'
  have S_w5' := u_w5'.size
  have V_w5' : Below w.heap.size w w5' := V_w4'.trans (u_w5'.mono V_w4'.size)
  clear V_w4'
  clear u_w5'
  clear e_c_0 e_c_1 e_c_2 e_c_3 e_c_4
  have HD := Lib.hid hd
  clear hd
  go_wp2
  go_ret3
  exact ⟨_, _, _, _, _, _, rfl, M.f.lower s2, M.s.lower s2, M.fs, V_w5'⟩
set_option maxHeartbeats 8000000 in
set_option maxRecDepth 100000 in
theorem spec_WireShares_any (P i0 i1 : Int) (ga : Option Addr) (gn gc : Nat) (G : List Int) (oa : Option Addr) (on oc : Nat) (O : List Int) (key : Int) (aa : Option Addr) (an ac : Nat) (A : List Int) (ba : Option Addr) (bn bc : Nat) (B : List Int) (w : World) (hG : Flat 3 w ga gn gc G) (hO : Ints w oa on oc O) (hA : Ints w aa an ac A) (hB : Ints w ba bn bc B) :
    Calls Try.prog 39 #[.agg #[.int .i64 P, .int .i64 i0, .int .i64 i1, .slice ga gn gc, .slice oa on oc], .int .i64 key, .slice aa an ac, .slice ba bn bc] w fun e w' => ∃ a1 n1 c1 a2 n2 c2, e = .returned (.tuple #[.slice a1 n1 c1, .slice a2 n2 c2, .bool (asB P i0 i1 gn G O key A B)]) ∧ Own w' w.heap.size a1 n1 c1 (wsL1 P i0 i1 gn G O key A B) ∧ Own w' w.heap.size a2 n2 c2 (wsL2 P i0 i1 gn G O key A B) ∧ Disj (foot a1 c1) (foot a2 c2) ∧ Below w.heap.size w w' := by

  unfold wsL1 wsL2
  cases h1 : asB P i0 i1 gn G O key A B
  · simp only [Bool.false_eq_true, if_false]

    go_enter Try.func39, Try.ntmps39
    go_wp2_with fail
    have V_w6'_1 : Below w.heap.size w (w.alloc (.cells #[.int .i64 P, .int .i64 i0, .int .i64 i1, .slice ga gn gc, .slice oa on oc] 31)) := ((Below.refl w.heap.size w)).alloc (by have := ((Below.refl w.heap.size w)).size; first | exact this | (simp at *; omega)) _
    have B_c : Blk (w.alloc (.cells #[.int .i64 P, .int .i64 i0, .int .i64 i1, .slice ga gn gc, .slice oa on oc] 31)) (w.heap.size) 31 #[.int .i64 P, .int .i64 i0, .int .i64 i1, .slice ga gn gc, .slice oa on oc] := by exact Blk.new w 31 #[.int .i64 P, .int .i64 i0, .int .i64 i1, .slice ga gn gc, .slice oa on oc]
    have S_w6' : w.heap.size + 1 ≤ (w.alloc (.cells #[.int .i64 P, .int .i64 i0, .int .i64 i1, .slice ga gn gc, .slice oa on oc] 31)).heap.size := by first | (simp; done) | (simp; omega) | (simp [World.setCell]; done) | (simp [World.setCell]; omega)
    generalize (w.alloc (.cells #[.int .i64 P, .int .i64 i0, .int .i64 i1, .slice ga gn gc, .slice oa on oc] 31)) = w6' at *
    have V_w6' : Below w.heap.size w w6' := V_w6'_1
    clear V_w6'_1
    refine (smAsked_any _ _ _ _ _ _ G _ _ _ O _ _ _ _ A _ _ _ B _ (hG.below V_w6') (hO.below V_w6') (hA.below V_w6') (hB.below V_w6')).mono ?_
    rintro e w7' ⟨rfl, u_w7'⟩
    replace B_c := B_c.below u_w7'
    have S_w7' := u_w7'.size
    have V_w7' : Below w.heap.size w w7' := V_w6'.trans (u_w7'.mono V_w6'.size)
    clear V_w6'
    clear u_w7'
    rw [h1]
    go_wp2
    go_ret3
    exact ⟨_, _, _, _, _, _, rfl, Own.nil0 _ _ _, Own.nil0 _ _ _, disj_nil0 _ _, V_w7'⟩

  simp only [if_true]
  obtain ⟨l1, l2⟩ := asB_len h1
  have OK := Lib.hid (wsQ_ok (-1) 0 h1)
  obtain ⟨g1, o1, oo⟩ := asB_gn h1
  have HOO := Lib.hid oo
  obtain ⟨hr, ⟨k0, k1⟩, ha, hb, e0, e1, hpr⟩ := asB_true h1
  obtain ⟨p1, p2⟩ := isPr_range hpr
  unfold wsQ at OK ⊢
  rw [← hA.len] at l1 e0 OK HOO ⊢
  rw [← hB.len] at l2 e1 OK HOO ⊢
  have HR := Lib.hid hr
  have HAA := Lib.hid ha
  have HBB := Lib.hid hb
  have HV := Lib.hid (show ∀ x ∈ A ++ B, 0 ≤ x ∧ x ≤ P - 1 from fun x hx => by
    rcases List.mem_append.1 hx with h | h
    · exact HAA.out x h
    · exact HBB.out x h)
  clear ha hb hr oo
  go_enter Try.func39, Try.ntmps39
  go_wp2_with fail
  have V_w8'_1 : Below w.heap.size w (w.alloc (.cells #[.int .i64 P, .int .i64 i0, .int .i64 i1, .slice ga gn gc, .slice oa on oc] 31)) := ((Below.refl w.heap.size w)).alloc (by have := ((Below.refl w.heap.size w)).size; first | exact this | (simp at *; omega)) _
  have B_c : Blk (w.alloc (.cells #[.int .i64 P, .int .i64 i0, .int .i64 i1, .slice ga gn gc, .slice oa on oc] 31)) (w.heap.size) 31 #[.int .i64 P, .int .i64 i0, .int .i64 i1, .slice ga gn gc, .slice oa on oc] := by exact Blk.new w 31 #[.int .i64 P, .int .i64 i0, .int .i64 i1, .slice ga gn gc, .slice oa on oc]
  have S_w8' : w.heap.size + 1 ≤ (w.alloc (.cells #[.int .i64 P, .int .i64 i0, .int .i64 i1, .slice ga gn gc, .slice oa on oc] 31)).heap.size := by first | (simp; done) | (simp; omega) | (simp [World.setCell]; done) | (simp [World.setCell]; omega)
  generalize (w.alloc (.cells #[.int .i64 P, .int .i64 i0, .int .i64 i1, .slice ga gn gc, .slice oa on oc] 31)) = w8' at *
  have V_w8' : Below w.heap.size w w8' := V_w8'_1
  clear V_w8'_1
  refine (smAsked_any _ _ _ _ _ _ G _ _ _ O _ _ _ _ A _ _ _ B _ (hG.below V_w8') (hO.below V_w8') (hA.below V_w8') (hB.below V_w8')).mono ?_
  rintro e w9' ⟨rfl, u_w9'⟩
  replace B_c := B_c.below u_w9'
  have S_w9' := u_w9'.size
  have V_w9' : Below w.heap.size w w9' := V_w8'.trans (u_w9'.mono V_w8'.size)
  clear V_w8'
  clear u_w9'
  rw [h1]
  have s2 := (V_w9').size
  have e_c_0 : w9'.cell? ⟨w.heap.size, 0, none⟩ = some (.int .i64 P) := B_c.cell 0
  have e_c_1 : w9'.cell? ⟨w.heap.size, 1, none⟩ = some (.int .i64 i0) := B_c.cell 1
  have e_c_2 : w9'.cell? ⟨w.heap.size, 2, none⟩ = some (.int .i64 i1) := B_c.cell 2
  have e_c_3 : w9'.cell? ⟨w.heap.size, 3, none⟩ = some (.slice ga gn gc) := B_c.cell 3
  have e_c_4 : w9'.cell? ⟨w.heap.size, 4, none⟩ = some (.slice oa on oc) := B_c.cell 4
  go_wp2
  go_region_held3 (fun W => W.cell? ⟨w.heap.size, 0, none⟩ = some (.int .i64 P) ∧ W.cell? ⟨w.heap.size, 1, none⟩ = some (.int .i64 i0) ∧ W.cell? ⟨w.heap.size, 2, none⟩ = some (.int .i64 i1) ∧ W.cell? ⟨w.heap.size, 3, none⟩ = some (.slice ga gn gc) ∧ W.cell? ⟨w.heap.size, 4, none⟩ = some (.slice oa on oc))
    (first | go_keep | exact ⟨e_c_0, e_c_1, e_c_2, e_c_3, e_c_4⟩ | exact ⟨keepA _ e_c_0, keepA _ e_c_1, keepA _ e_c_2, keepA _ e_c_3, keepA _ e_c_4⟩ | exact ⟨keepA _ (keepA _ e_c_0), keepA _ (keepA _ e_c_1), keepA _ (keepA _ e_c_2), keepA _ (keepA _ e_c_3), keepA _ (keepA _ e_c_4)⟩ | exact ⟨keepA _ (keepA _ (keepA _ e_c_0)), keepA _ (keepA _ (keepA _ e_c_1)), keepA _ (keepA _ (keepA _ e_c_2)), keepA _ (keepA _ (keepA _ e_c_3)), keepA _ (keepA _ (keepA _ e_c_4))⟩ | exact ⟨keepC uj (e_c_0), keepC uj (e_c_1), keepC uj (e_c_2), keepC uj (e_c_3), keepC uj (e_c_4)⟩ | exact ⟨keepA _ (keepC uj (e_c_0)), keepA _ (keepC uj (e_c_1)), keepA _ (keepC uj (e_c_2)), keepA _ (keepC uj (e_c_3)), keepA _ (keepC uj (e_c_4))⟩ | exact ⟨keepC uj (keepA _ e_c_0), keepC uj (keepA _ e_c_1), keepC uj (keepA _ e_c_2), keepC uj (keepA _ e_c_3), keepC uj (keepA _ e_c_4)⟩ | exact ⟨keepA _ (keepC uj (keepA _ e_c_0)), keepA _ (keepC uj (keepA _ e_c_1)), keepA _ (keepC uj (keepA _ e_c_2)), keepA _ (keepC uj (keepA _ e_c_3)), keepA _ (keepC uj (keepA _ e_c_4))⟩ | exact ⟨keepC uj (keepA _ (keepA _ e_c_0)), keepC uj (keepA _ (keepA _ e_c_1)), keepC uj (keepA _ (keepA _ e_c_2)), keepC uj (keepA _ (keepA _ e_c_3)), keepC uj (keepA _ (keepA _ e_c_4))⟩ | exact ⟨keepA _ (keepC uj (keepA _ (keepA _ e_c_0))), keepA _ (keepC uj (keepA _ (keepA _ e_c_1))), keepA _ (keepC uj (keepA _ (keepA _ e_c_2))), keepA _ (keepC uj (keepA _ (keepA _ e_c_3))), keepA _ (keepC uj (keepA _ (keepA _ e_c_4)))⟩ | exact ⟨keepC uj (keepA _ (keepA _ (keepA _ e_c_0))), keepC uj (keepA _ (keepA _ (keepA _ e_c_1))), keepC uj (keepA _ (keepA _ (keepA _ e_c_2))), keepC uj (keepA _ (keepA _ (keepA _ e_c_3))), keepC uj (keepA _ (keepA _ (keepA _ e_c_4)))⟩ | exact ⟨keepA _ (keepC uj (keepA _ (keepA _ (keepA _ e_c_0)))), keepA _ (keepC uj (keepA _ (keepA _ (keepA _ e_c_1)))), keepA _ (keepC uj (keepA _ (keepA _ (keepA _ e_c_2)))), keepA _ (keepC uj (keepA _ (keepA _ (keepA _ e_c_3)))), keepA _ (keepC uj (keepA _ (keepA _ (keepA _ e_c_4))))⟩ | exact ⟨keepC uk (e_c_0), keepC uk (e_c_1), keepC uk (e_c_2), keepC uk (e_c_3), keepC uk (e_c_4)⟩ | exact ⟨keepA _ (keepC uk (e_c_0)), keepA _ (keepC uk (e_c_1)), keepA _ (keepC uk (e_c_2)), keepA _ (keepC uk (e_c_3)), keepA _ (keepC uk (e_c_4))⟩ | exact ⟨keepC uk (keepA _ e_c_0), keepC uk (keepA _ e_c_1), keepC uk (keepA _ e_c_2), keepC uk (keepA _ e_c_3), keepC uk (keepA _ e_c_4)⟩ | exact ⟨keepA _ (keepC uk (keepA _ e_c_0)), keepA _ (keepC uk (keepA _ e_c_1)), keepA _ (keepC uk (keepA _ e_c_2)), keepA _ (keepC uk (keepA _ e_c_3)), keepA _ (keepC uk (keepA _ e_c_4))⟩ | exact ⟨keepC uk (keepA _ (keepA _ e_c_0)), keepC uk (keepA _ (keepA _ e_c_1)), keepC uk (keepA _ (keepA _ e_c_2)), keepC uk (keepA _ (keepA _ e_c_3)), keepC uk (keepA _ (keepA _ e_c_4))⟩ | exact ⟨keepA _ (keepC uk (keepA _ (keepA _ e_c_0))), keepA _ (keepC uk (keepA _ (keepA _ e_c_1))), keepA _ (keepC uk (keepA _ (keepA _ e_c_2))), keepA _ (keepC uk (keepA _ (keepA _ e_c_3))), keepA _ (keepC uk (keepA _ (keepA _ e_c_4)))⟩ | exact ⟨keepC uk (keepA _ (keepA _ (keepA _ e_c_0))), keepC uk (keepA _ (keepA _ (keepA _ e_c_1))), keepC uk (keepA _ (keepA _ (keepA _ e_c_2))), keepC uk (keepA _ (keepA _ (keepA _ e_c_3))), keepC uk (keepA _ (keepA _ (keepA _ e_c_4)))⟩ | exact ⟨keepA _ (keepC uk (keepA _ (keepA _ (keepA _ e_c_0)))), keepA _ (keepC uk (keepA _ (keepA _ (keepA _ e_c_1)))), keepA _ (keepC uk (keepA _ (keepA _ (keepA _ e_c_2)))), keepA _ (keepC uk (keepA _ (keepA _ (keepA _ e_c_3)))), keepA _ (keepC uk (keepA _ (keepA _ (keepA _ e_c_4))))⟩ | exact ⟨keepC uj (keepC uk (e_c_0)), keepC uj (keepC uk (e_c_1)), keepC uj (keepC uk (e_c_2)), keepC uj (keepC uk (e_c_3)), keepC uj (keepC uk (e_c_4))⟩ | exact ⟨keepA _ (keepC uj (keepC uk (e_c_0))), keepA _ (keepC uj (keepC uk (e_c_1))), keepA _ (keepC uj (keepC uk (e_c_2))), keepA _ (keepC uj (keepC uk (e_c_3))), keepA _ (keepC uj (keepC uk (e_c_4)))⟩ | exact ⟨keepC uj (keepA _ (keepC uk (e_c_0))), keepC uj (keepA _ (keepC uk (e_c_1))), keepC uj (keepA _ (keepC uk (e_c_2))), keepC uj (keepA _ (keepC uk (e_c_3))), keepC uj (keepA _ (keepC uk (e_c_4)))⟩ | exact ⟨keepA _ (keepC uj (keepA _ (keepC uk (e_c_0)))), keepA _ (keepC uj (keepA _ (keepC uk (e_c_1)))), keepA _ (keepC uj (keepA _ (keepC uk (e_c_2)))), keepA _ (keepC uj (keepA _ (keepC uk (e_c_3)))), keepA _ (keepC uj (keepA _ (keepC uk (e_c_4))))⟩ | exact ⟨keepC uj (keepC uk (keepA _ e_c_0)), keepC uj (keepC uk (keepA _ e_c_1)), keepC uj (keepC uk (keepA _ e_c_2)), keepC uj (keepC uk (keepA _ e_c_3)), keepC uj (keepC uk (keepA _ e_c_4))⟩ | exact ⟨keepA _ (keepC uj (keepC uk (keepA _ e_c_0))), keepA _ (keepC uj (keepC uk (keepA _ e_c_1))), keepA _ (keepC uj (keepC uk (keepA _ e_c_2))), keepA _ (keepC uj (keepC uk (keepA _ e_c_3))), keepA _ (keepC uj (keepC uk (keepA _ e_c_4)))⟩ | exact ⟨keepC uj (keepA _ (keepC uk (keepA _ e_c_0))), keepC uj (keepA _ (keepC uk (keepA _ e_c_1))), keepC uj (keepA _ (keepC uk (keepA _ e_c_2))), keepC uj (keepA _ (keepC uk (keepA _ e_c_3))), keepC uj (keepA _ (keepC uk (keepA _ e_c_4)))⟩ | exact ⟨keepA _ (keepC uj (keepA _ (keepC uk (keepA _ e_c_0)))), keepA _ (keepC uj (keepA _ (keepC uk (keepA _ e_c_1)))), keepA _ (keepC uj (keepA _ (keepC uk (keepA _ e_c_2)))), keepA _ (keepC uj (keepA _ (keepC uk (keepA _ e_c_3)))), keepA _ (keepC uj (keepA _ (keepC uk (keepA _ e_c_4))))⟩ | exact ⟨keepC uj (keepC uk (keepA _ (keepA _ e_c_0))), keepC uj (keepC uk (keepA _ (keepA _ e_c_1))), keepC uj (keepC uk (keepA _ (keepA _ e_c_2))), keepC uj (keepC uk (keepA _ (keepA _ e_c_3))), keepC uj (keepC uk (keepA _ (keepA _ e_c_4)))⟩ | exact ⟨keepA _ (keepC uj (keepC uk (keepA _ (keepA _ e_c_0)))), keepA _ (keepC uj (keepC uk (keepA _ (keepA _ e_c_1)))), keepA _ (keepC uj (keepC uk (keepA _ (keepA _ e_c_2)))), keepA _ (keepC uj (keepC uk (keepA _ (keepA _ e_c_3)))), keepA _ (keepC uj (keepC uk (keepA _ (keepA _ e_c_4))))⟩ | exact ⟨keepC uj (keepA _ (keepC uk (keepA _ (keepA _ e_c_0)))), keepC uj (keepA _ (keepC uk (keepA _ (keepA _ e_c_1)))), keepC uj (keepA _ (keepC uk (keepA _ (keepA _ e_c_2)))), keepC uj (keepA _ (keepC uk (keepA _ (keepA _ e_c_3)))), keepC uj (keepA _ (keepC uk (keepA _ (keepA _ e_c_4))))⟩ | exact ⟨keepA _ (keepC uj (keepA _ (keepC uk (keepA _ (keepA _ e_c_0))))), keepA _ (keepC uj (keepA _ (keepC uk (keepA _ (keepA _ e_c_1))))), keepA _ (keepC uj (keepA _ (keepC uk (keepA _ (keepA _ e_c_2))))), keepA _ (keepC uj (keepA _ (keepC uk (keepA _ (keepA _ e_c_3))))), keepA _ (keepC uj (keepA _ (keepC uk (keepA _ (keepA _ e_c_4)))))⟩ | exact ⟨keepC uj (keepC uk (keepA _ (keepA _ (keepA _ e_c_0)))), keepC uj (keepC uk (keepA _ (keepA _ (keepA _ e_c_1)))), keepC uj (keepC uk (keepA _ (keepA _ (keepA _ e_c_2)))), keepC uj (keepC uk (keepA _ (keepA _ (keepA _ e_c_3)))), keepC uj (keepC uk (keepA _ (keepA _ (keepA _ e_c_4))))⟩ | exact ⟨keepA _ (keepC uj (keepC uk (keepA _ (keepA _ (keepA _ e_c_0))))), keepA _ (keepC uj (keepC uk (keepA _ (keepA _ (keepA _ e_c_1))))), keepA _ (keepC uj (keepC uk (keepA _ (keepA _ (keepA _ e_c_2))))), keepA _ (keepC uj (keepC uk (keepA _ (keepA _ (keepA _ e_c_3))))), keepA _ (keepC uj (keepC uk (keepA _ (keepA _ (keepA _ e_c_4)))))⟩ | exact ⟨keepC uj (keepA _ (keepC uk (keepA _ (keepA _ (keepA _ e_c_0))))), keepC uj (keepA _ (keepC uk (keepA _ (keepA _ (keepA _ e_c_1))))), keepC uj (keepA _ (keepC uk (keepA _ (keepA _ (keepA _ e_c_2))))), keepC uj (keepA _ (keepC uk (keepA _ (keepA _ (keepA _ e_c_3))))), keepC uj (keepA _ (keepC uk (keepA _ (keepA _ (keepA _ e_c_4)))))⟩ | exact ⟨keepA _ (keepC uj (keepA _ (keepC uk (keepA _ (keepA _ (keepA _ e_c_0)))))), keepA _ (keepC uj (keepA _ (keepC uk (keepA _ (keepA _ (keepA _ e_c_1)))))), keepA _ (keepC uj (keepA _ (keepC uk (keepA _ (keepA _ (keepA _ e_c_2)))))), keepA _ (keepC uj (keepA _ (keepC uk (keepA _ (keepA _ (keepA _ e_c_3)))))), keepA _ (keepC uj (keepA _ (keepC uk (keepA _ (keepA _ (keepA _ e_c_4))))))⟩ | exact ⟨keepC uk (keepC uj (e_c_0)), keepC uk (keepC uj (e_c_1)), keepC uk (keepC uj (e_c_2)), keepC uk (keepC uj (e_c_3)), keepC uk (keepC uj (e_c_4))⟩ | exact ⟨keepA _ (keepC uk (keepC uj (e_c_0))), keepA _ (keepC uk (keepC uj (e_c_1))), keepA _ (keepC uk (keepC uj (e_c_2))), keepA _ (keepC uk (keepC uj (e_c_3))), keepA _ (keepC uk (keepC uj (e_c_4)))⟩ | exact ⟨keepC uk (keepA _ (keepC uj (e_c_0))), keepC uk (keepA _ (keepC uj (e_c_1))), keepC uk (keepA _ (keepC uj (e_c_2))), keepC uk (keepA _ (keepC uj (e_c_3))), keepC uk (keepA _ (keepC uj (e_c_4)))⟩ | exact ⟨keepA _ (keepC uk (keepA _ (keepC uj (e_c_0)))), keepA _ (keepC uk (keepA _ (keepC uj (e_c_1)))), keepA _ (keepC uk (keepA _ (keepC uj (e_c_2)))), keepA _ (keepC uk (keepA _ (keepC uj (e_c_3)))), keepA _ (keepC uk (keepA _ (keepC uj (e_c_4))))⟩ | exact ⟨keepC uk (keepC uj (keepA _ e_c_0)), keepC uk (keepC uj (keepA _ e_c_1)), keepC uk (keepC uj (keepA _ e_c_2)), keepC uk (keepC uj (keepA _ e_c_3)), keepC uk (keepC uj (keepA _ e_c_4))⟩ | exact ⟨keepA _ (keepC uk (keepC uj (keepA _ e_c_0))), keepA _ (keepC uk (keepC uj (keepA _ e_c_1))), keepA _ (keepC uk (keepC uj (keepA _ e_c_2))), keepA _ (keepC uk (keepC uj (keepA _ e_c_3))), keepA _ (keepC uk (keepC uj (keepA _ e_c_4)))⟩ | exact ⟨keepC uk (keepA _ (keepC uj (keepA _ e_c_0))), keepC uk (keepA _ (keepC uj (keepA _ e_c_1))), keepC uk (keepA _ (keepC uj (keepA _ e_c_2))), keepC uk (keepA _ (keepC uj (keepA _ e_c_3))), keepC uk (keepA _ (keepC uj (keepA _ e_c_4)))⟩ | exact ⟨keepA _ (keepC uk (keepA _ (keepC uj (keepA _ e_c_0)))), keepA _ (keepC uk (keepA _ (keepC uj (keepA _ e_c_1)))), keepA _ (keepC uk (keepA _ (keepC uj (keepA _ e_c_2)))), keepA _ (keepC uk (keepA _ (keepC uj (keepA _ e_c_3)))), keepA _ (keepC uk (keepA _ (keepC uj (keepA _ e_c_4))))⟩ | exact ⟨keepC uk (keepC uj (keepA _ (keepA _ e_c_0))), keepC uk (keepC uj (keepA _ (keepA _ e_c_1))), keepC uk (keepC uj (keepA _ (keepA _ e_c_2))), keepC uk (keepC uj (keepA _ (keepA _ e_c_3))), keepC uk (keepC uj (keepA _ (keepA _ e_c_4)))⟩ | exact ⟨keepA _ (keepC uk (keepC uj (keepA _ (keepA _ e_c_0)))), keepA _ (keepC uk (keepC uj (keepA _ (keepA _ e_c_1)))), keepA _ (keepC uk (keepC uj (keepA _ (keepA _ e_c_2)))), keepA _ (keepC uk (keepC uj (keepA _ (keepA _ e_c_3)))), keepA _ (keepC uk (keepC uj (keepA _ (keepA _ e_c_4))))⟩ | exact ⟨keepC uk (keepA _ (keepC uj (keepA _ (keepA _ e_c_0)))), keepC uk (keepA _ (keepC uj (keepA _ (keepA _ e_c_1)))), keepC uk (keepA _ (keepC uj (keepA _ (keepA _ e_c_2)))), keepC uk (keepA _ (keepC uj (keepA _ (keepA _ e_c_3)))), keepC uk (keepA _ (keepC uj (keepA _ (keepA _ e_c_4))))⟩ | exact ⟨keepA _ (keepC uk (keepA _ (keepC uj (keepA _ (keepA _ e_c_0))))), keepA _ (keepC uk (keepA _ (keepC uj (keepA _ (keepA _ e_c_1))))), keepA _ (keepC uk (keepA _ (keepC uj (keepA _ (keepA _ e_c_2))))), keepA _ (keepC uk (keepA _ (keepC uj (keepA _ (keepA _ e_c_3))))), keepA _ (keepC uk (keepA _ (keepC uj (keepA _ (keepA _ e_c_4)))))⟩ | exact ⟨keepC uk (keepC uj (keepA _ (keepA _ (keepA _ e_c_0)))), keepC uk (keepC uj (keepA _ (keepA _ (keepA _ e_c_1)))), keepC uk (keepC uj (keepA _ (keepA _ (keepA _ e_c_2)))), keepC uk (keepC uj (keepA _ (keepA _ (keepA _ e_c_3)))), keepC uk (keepC uj (keepA _ (keepA _ (keepA _ e_c_4))))⟩ | exact ⟨keepA _ (keepC uk (keepC uj (keepA _ (keepA _ (keepA _ e_c_0))))), keepA _ (keepC uk (keepC uj (keepA _ (keepA _ (keepA _ e_c_1))))), keepA _ (keepC uk (keepC uj (keepA _ (keepA _ (keepA _ e_c_2))))), keepA _ (keepC uk (keepC uj (keepA _ (keepA _ (keepA _ e_c_3))))), keepA _ (keepC uk (keepC uj (keepA _ (keepA _ (keepA _ e_c_4)))))⟩ | exact ⟨keepC uk (keepA _ (keepC uj (keepA _ (keepA _ (keepA _ e_c_0))))), keepC uk (keepA _ (keepC uj (keepA _ (keepA _ (keepA _ e_c_1))))), keepC uk (keepA _ (keepC uj (keepA _ (keepA _ (keepA _ e_c_2))))), keepC uk (keepA _ (keepC uj (keepA _ (keepA _ (keepA _ e_c_3))))), keepC uk (keepA _ (keepC uj (keepA _ (keepA _ (keepA _ e_c_4)))))⟩ | exact ⟨keepA _ (keepC uk (keepA _ (keepC uj (keepA _ (keepA _ (keepA _ e_c_0)))))), keepA _ (keepC uk (keepA _ (keepC uj (keepA _ (keepA _ (keepA _ e_c_1)))))), keepA _ (keepC uk (keepA _ (keepC uj (keepA _ (keepA _ (keepA _ e_c_2)))))), keepA _ (keepC uk (keepA _ (keepC uj (keepA _ (keepA _ (keepA _ e_c_3)))))), keepA _ (keepC uk (keepA _ (keepC uj (keepA _ (keepA _ (keepA _ e_c_4))))))⟩)
    (first | (go_at_call 75; refine (ciJoin_any _ _ _ A _ _ _ B _ (hA.below V_w9').drew (hB.below V_w9').drew (by omega) (by omega)).mono ?_; rintro e wj ⟨va, vc, rfl, ov, uj⟩) | (go_at_call 100; refine (smWires_any _ _ _ _ _ _ G _ _ _ O _ _ _ _ (A ++ B) (-1) 0 _ ((hG.below V_w9').drew.below uj) ov.ints HR.out (by omega) (by omega) (by omega) HV.out (by omega) (by omega)).mono ?_; rintro e wk ⟨a1, c1, a2, c2, a3, n3, c3, rs, rfl, M, hd, uk⟩))
  have uq : Below w9'.heap.size w9' wk := (Below.refl _ _).drew.trans (uj.trans (uk.mono uj.size))
  replace s2 : w.heap.size ≤ wj.heap.size := Nat.le_trans s2 uj.size
  clear e_c_0 e_c_1 e_c_2 e_c_3 e_c_4
  clear uj uk ov
  replace B_c := B_c.below uq
  have S_wk := uq.size
  have V_wk : Below w.heap.size w wk := V_w9'.trans (uq.mono V_w9'.size)
  clear V_w9'
  clear uq
  have HD := Lib.hid hd
  clear hd
  go_wp2
  go_ret3
  exact ⟨_, _, _, _, _, _, rfl, M.f.lower s2, M.s.lower s2, M.fs, V_wk⟩
set_option maxHeartbeats 8000000 in
set_option maxRecDepth 100000 in
theorem FnExactWireShares_walk (a0_0 : Int) (a0_1 : Int) (a0_2 : Int) (a0_3 : Option Addr) (n0_3 c0_3 : Nat) (l0_3 : List Int) (a0_4 : Option Addr) (n0_4 c0_4 : Nat) (l0_4 : List Int) (a1 : Int) (a2 : Option Addr) (n2 c2 : Nat) (l2 : List Int) (a3 : Option Addr) (n3 c3 : Nat) (l3 : List Int) (w : World) (_w0_0 : -9223372036854775808 ≤ a0_0 ∧ a0_0 ≤ 9223372036854775807) (_w0_1 : -9223372036854775808 ≤ a0_1 ∧ a0_1 ≤ 9223372036854775807) (_w0_2 : -9223372036854775808 ≤ a0_2 ∧ a0_2 ≤ 9223372036854775807) (z0_3 : Flat 3 w a0_3 n0_3 c0_3 l0_3) (_wf0_3 : Wf l0_3) (z0_4 : Ints w a0_4 n0_4 c0_4 l0_4) (_wf0_4 : Wf l0_4) (_w1 : -9223372036854775808 ≤ a1 ∧ a1 ≤ 9223372036854775807) (z2 : Ints w a2 n2 c2 l2) (_wf2 : Wf l2) (z3 : Ints w a3 n3 c3 l3) (_wf3 : Wf l3) :
    Calls Try.prog 7 #[.agg #[.int .i64 a0_0, .int .i64 a0_1, .int .i64 a0_2, .slice a0_3 n0_3 c0_3, .slice a0_4 n0_4 c0_4], .int .i64 a1, .slice a2 n2 c2, .slice a3 n3 c3] w fun e w' => e = .returned (.bool true) ∧ Below w.heap.size w w' := by
  by_cases hs2 : n2 ≤ 1048576
  · skip
    by_cases hs3 : n3 ≤ 1048576
    · skip
      have hn0_3 : (n0_3 : Int) ≤ 9223372036854775807 := z0_3.le
      have hn0_4 : (n0_4 : Int) ≤ 9223372036854775807 := z0_4.le
      by_cases ht0 : (n0_3 : Int) + (n0_4 : Int) ≤ 1048576
      · skip
        go_enter Try.func7, Try.ntmps7
        go_wp2_with fail
        have V_w1' : Below w.heap.size w (w.alloc (.cells #[.int .i64 a0_0, .int .i64 a0_1, .int .i64 a0_2, .slice a0_3 n0_3 c0_3, .slice a0_4 n0_4 c0_4] 25)) := (((Below.refl w.heap.size w)).alloc (by have := ((Below.refl w.heap.size w)).size; first | exact this | (simp; omega) | simp) _)
        have B_p0 : Blk (w.alloc (.cells #[.int .i64 a0_0, .int .i64 a0_1, .int .i64 a0_2, .slice a0_3 n0_3 c0_3, .slice a0_4 n0_4 c0_4] 25)) (w.heap.size) 25 #[.int .i64 a0_0, .int .i64 a0_1, .int .i64 a0_2, .slice a0_3 n0_3 c0_3, .slice a0_4 n0_4 c0_4] := Blk.new w 25 #[.int .i64 a0_0, .int .i64 a0_1, .int .i64 a0_2, .slice a0_3 n0_3 c0_3, .slice a0_4 n0_4 c0_4]
        have S_w1' : w.heap.size + 1 ≤ (w.alloc (.cells #[.int .i64 a0_0, .int .i64 a0_1, .int .i64 a0_2, .slice a0_3 n0_3 c0_3, .slice a0_4 n0_4 c0_4] 25)).heap.size := by simp
        generalize (w.alloc (.cells #[.int .i64 a0_0, .int .i64 a0_1, .int .i64 a0_2, .slice a0_3 n0_3 c0_3, .slice a0_4 n0_4 c0_4] 25)) = w1' at *
        refine (szArith_yes _ _ _ _ _ _ _ _ _ _ _ hn0_3 hn0_4 (by omega) (by omega)).mono ?_
        rintro e w2' ⟨rfl, u_w2'⟩
        replace B_p0 := B_p0.below u_w2'
        have V_w2' := V_w1'.trans (u_w2'.mono (V_w1').size)
        have S_w2' := u_w2'.size
        clear u_w2' V_w1'
        have e_p0_0 : w2'.cell? ⟨w.heap.size, 0, none⟩ = some (.int .i64 a0_0) := B_p0.cell 0
        have e_p0_1 : w2'.cell? ⟨w.heap.size, 1, none⟩ = some (.int .i64 a0_1) := B_p0.cell 1
        have e_p0_2 : w2'.cell? ⟨w.heap.size, 2, none⟩ = some (.int .i64 a0_2) := B_p0.cell 2
        have e_p0_3 : w2'.cell? ⟨w.heap.size, 3, none⟩ = some (.slice a0_3 n0_3 c0_3) := B_p0.cell 3
        have e_p0_4 : w2'.cell? ⟨w.heap.size, 4, none⟩ = some (.slice a0_4 n0_4 c0_4) := B_p0.cell 4
        go_wp2_with fail
        clear e_p0_0 e_p0_1 e_p0_2 e_p0_3 e_p0_4
        refine (toArith_any _ _ _ _ _ _ l0_3 _ _ _ l0_4 _ (z0_3.below V_w2') (z0_4.below V_w2') (by omega) (by omega)).mono ?_
        rintro e w3' ⟨y_a0_3, y_c0_3, y_a0_4, y_c0_4, rfl, y0_3, y0_4, dj_y0_3_0_4, u_w3'⟩
        replace B_p0 := B_p0.below u_w3'
        have V_w3' := V_w2'.trans (u_w3'.mono (V_w2').size)
        have S_w3' := u_w3'.size
        clear u_w3' V_w2'
        have Q_y0_3 := Lib.hid y0_3.feet
        have Q_y0_4 := Lib.hid y0_4.feet
        go_wp2_with fail
        refine (toIntS_any _ _ _ l2 _ (z2.below V_w3') hs2).mono ?_
        rintro e w4' ⟨y_a2, y_c2, rfl, y2, u_w4'⟩
        replace B_p0 := B_p0.below u_w4'
        replace y0_3 := y0_3.below u_w4'
        replace y0_4 := y0_4.below u_w4'
        have V_w4' := V_w3'.trans (u_w4'.mono (V_w3').size)
        have S_w4' := u_w4'.size
        clear u_w4' V_w3'
        have Q_y2 := Lib.hid y2.feet
        go_wp2_with fail
        refine (toIntS_any _ _ _ l3 _ (z3.below V_w4') hs3).mono ?_
        rintro e w5' ⟨y_a3, y_c3, rfl, y3, u_w5'⟩
        replace B_p0 := B_p0.below u_w5'
        replace y0_3 := y0_3.below u_w5'
        replace y0_4 := y0_4.below u_w5'
        replace y2 := y2.below u_w5'
        have V_w5' := V_w4'.trans (u_w5'.mono (V_w4').size)
        have S_w5' := u_w5'.size
        clear u_w5' V_w4'
        have Q_y3 := Lib.hid y3.feet
        go_wp2_with fail
        refine (spec_WireShares_any _ _ _ _ _ _ l0_3 _ _ _ l0_4 _ _ _ _ l2 _ _ _ l3 _ y0_3.flat y0_4.ints y2.ints y3.ints).mono ?_
        rintro e w6' ⟨r_a0, r_n0, r_c0, r_a1, r_n1, r_c1, rfl, r0, r1, dj_r0_1, u_w6'⟩
        replace B_p0 := B_p0.below u_w6'
        replace y0_3 := y0_3.below u_w6'
        replace y0_4 := y0_4.below u_w6'
        replace y2 := y2.below u_w6'
        replace y3 := y3.below u_w6'
        have V_w6' := V_w5'.trans (u_w6'.mono (V_w5').size)
        have S_w6' := u_w6'.size
        clear u_w6' V_w5'
        have Q_r0 := Lib.hid r0.feet
        have Q_r1 := Lib.hid r1.feet
        clear y0_3
        clear y0_4
        clear y2
        clear y3
        have e_p0_0 : w6'.cell? ⟨w.heap.size, 0, none⟩ = some (.int .i64 a0_0) := B_p0.cell 0
        have e_p0_1 : w6'.cell? ⟨w.heap.size, 1, none⟩ = some (.int .i64 a0_1) := B_p0.cell 1
        have e_p0_2 : w6'.cell? ⟨w.heap.size, 2, none⟩ = some (.int .i64 a0_2) := B_p0.cell 2
        have e_p0_3 : w6'.cell? ⟨w.heap.size, 3, none⟩ = some (.slice a0_3 n0_3 c0_3) := B_p0.cell 3
        have e_p0_4 : w6'.cell? ⟨w.heap.size, 4, none⟩ = some (.slice a0_4 n0_4 c0_4) := B_p0.cell 4
        go_wp2_with fail
        clear e_p0_0 e_p0_1 e_p0_2 e_p0_3 e_p0_4
        refine (toArith_any _ _ _ _ _ _ l0_3 _ _ _ l0_4 _ (z0_3.below V_w6') (z0_4.below V_w6') (by omega) (by omega)).mono ?_
        rintro e w7' ⟨x_a0_3, x_c0_3, x_a0_4, x_c0_4, rfl, x0_3, x0_4, dj_x0_3_0_4, u_w7'⟩
        replace B_p0 := B_p0.below u_w7'
        replace r0 := r0.below u_w7'
        replace r1 := r1.below u_w7'
        have V_w7' := V_w6'.trans (u_w7'.mono (V_w6').size)
        have S_w7' := u_w7'.size
        clear u_w7' V_w6'
        have Q_x0_3 := Lib.hid x0_3.feet
        have Q_x0_4 := Lib.hid x0_4.feet
        go_wp2_with fail
        have V_w8' : Below w.heap.size w (w7'.alloc (.cells #[.int .i64 a0_0, .int .i64 a0_1, .int .i64 a0_2, .slice x_a0_3 n0_3 x_c0_3, .slice x_a0_4 n0_4 x_c0_4] 31)) := ((V_w7').alloc (by have := (V_w7').size; first | exact this | (simp; omega) | simp) _)
        replace B_p0 := B_p0.alloc (.cells #[.int .i64 a0_0, .int .i64 a0_1, .int .i64 a0_2, .slice x_a0_3 n0_3 x_c0_3, .slice x_a0_4 n0_4 x_c0_4] 31)
        replace r0 := r0.alloc (.cells #[.int .i64 a0_0, .int .i64 a0_1, .int .i64 a0_2, .slice x_a0_3 n0_3 x_c0_3, .slice x_a0_4 n0_4 x_c0_4] 31)
        replace r1 := r1.alloc (.cells #[.int .i64 a0_0, .int .i64 a0_1, .int .i64 a0_2, .slice x_a0_3 n0_3 x_c0_3, .slice x_a0_4 n0_4 x_c0_4] 31)
        replace x0_3 := x0_3.alloc (.cells #[.int .i64 a0_0, .int .i64 a0_1, .int .i64 a0_2, .slice x_a0_3 n0_3 x_c0_3, .slice x_a0_4 n0_4 x_c0_4] 31)
        replace x0_4 := x0_4.alloc (.cells #[.int .i64 a0_0, .int .i64 a0_1, .int .i64 a0_2, .slice x_a0_3 n0_3 x_c0_3, .slice x_a0_4 n0_4 x_c0_4] 31)
        have B_x0 : Blk (w7'.alloc (.cells #[.int .i64 a0_0, .int .i64 a0_1, .int .i64 a0_2, .slice x_a0_3 n0_3 x_c0_3, .slice x_a0_4 n0_4 x_c0_4] 31)) (w7'.heap.size) 31 #[.int .i64 a0_0, .int .i64 a0_1, .int .i64 a0_2, .slice x_a0_3 n0_3 x_c0_3, .slice x_a0_4 n0_4 x_c0_4] := Blk.new w7' 31 #[.int .i64 a0_0, .int .i64 a0_1, .int .i64 a0_2, .slice x_a0_3 n0_3 x_c0_3, .slice x_a0_4 n0_4 x_c0_4]
        have S_w8' : w7'.heap.size + 1 ≤ (w7'.alloc (.cells #[.int .i64 a0_0, .int .i64 a0_1, .int .i64 a0_2, .slice x_a0_3 n0_3 x_c0_3, .slice x_a0_4 n0_4 x_c0_4] 31)).heap.size := by simp
        generalize (w7'.alloc (.cells #[.int .i64 a0_0, .int .i64 a0_1, .int .i64 a0_2, .slice x_a0_3 n0_3 x_c0_3, .slice x_a0_4 n0_4 x_c0_4] 31)) = w8' at *
        clear V_w7'
        refine (toIntS_any _ _ _ l2 _ (z2.below V_w8') hs2).mono ?_
        rintro e w9' ⟨x_a2, x_c2, rfl, x2, u_w9'⟩
        replace B_p0 := B_p0.below u_w9'
        replace B_x0 := B_x0.below u_w9'
        replace r0 := r0.below u_w9'
        replace r1 := r1.below u_w9'
        replace x0_3 := x0_3.below u_w9'
        replace x0_4 := x0_4.below u_w9'
        have V_w9' := V_w8'.trans (u_w9'.mono (V_w8').size)
        have S_w9' := u_w9'.size
        clear u_w9' V_w8'
        have Q_x2 := Lib.hid x2.feet
        go_wp2_with fail
        refine (toIntS_any _ _ _ l3 _ (z3.below V_w9') hs3).mono ?_
        rintro e w10' ⟨x_a3, x_c3, rfl, x3, u_w10'⟩
        replace B_p0 := B_p0.below u_w10'
        replace B_x0 := B_x0.below u_w10'
        replace r0 := r0.below u_w10'
        replace r1 := r1.below u_w10'
        replace x0_3 := x0_3.below u_w10'
        replace x0_4 := x0_4.below u_w10'
        replace x2 := x2.below u_w10'
        have V_w10' := V_w9'.trans (u_w10'.mono (V_w9').size)
        have S_w10' := u_w10'.size
        clear u_w10' V_w9'
        have Q_x3 := Lib.hid x3.feet
        have e_x0_0 : w10'.cell? ⟨w7'.heap.size, 0, none⟩ = some (.int .i64 a0_0) := B_x0.cell 0
        have e_x0_1 : w10'.cell? ⟨w7'.heap.size, 1, none⟩ = some (.int .i64 a0_1) := B_x0.cell 1
        have e_x0_2 : w10'.cell? ⟨w7'.heap.size, 2, none⟩ = some (.int .i64 a0_2) := B_x0.cell 2
        have e_x0_3 : w10'.cell? ⟨w7'.heap.size, 3, none⟩ = some (.slice x_a0_3 n0_3 x_c0_3) := B_x0.cell 3
        have e_x0_4 : w10'.cell? ⟨w7'.heap.size, 4, none⟩ = some (.slice x_a0_4 n0_4 x_c0_4) := B_x0.cell 4
        go_wp2_with fail
        clear e_x0_0 e_x0_1 e_x0_2 e_x0_3 e_x0_4
        refine (WireShares_any _ _ _ _ _ _ l0_3 _ _ _ l0_4 _ _ _ _ l2 _ _ _ l3 _ x0_3.flat x0_4.ints x2.ints x3.ints).mono ?_
        rintro e w11' ⟨g_a0, g_n0, g_c0, g_a1, g_n1, g_c1, rfl, g0, g1, dj_g0_1, u_w11'⟩
        replace B_p0 := B_p0.below u_w11'
        replace B_x0 := B_x0.below u_w11'
        replace r0 := r0.below u_w11'
        replace r1 := r1.below u_w11'
        replace x0_3 := x0_3.below u_w11'
        replace x0_4 := x0_4.below u_w11'
        replace x2 := x2.below u_w11'
        replace x3 := x3.below u_w11'
        have V_w11' := V_w10'.trans (u_w11'.mono (V_w10').size)
        have S_w11' := u_w11'.size
        clear u_w11' V_w10'
        have Q_g0 := Lib.hid g0.feet
        have Q_g1 := Lib.hid g1.feet
        go_wp2_with fail
        refine (eqIntS_b _ _ _ _ _ _ _ _ g0.ints r0.ints).mono ?_
        rintro e w12' ⟨rfl, u_w12'⟩
        replace B_p0 := B_p0.below u_w12'
        replace B_x0 := B_x0.below u_w12'
        replace r0 := r0.below u_w12'
        replace r1 := r1.below u_w12'
        replace x0_3 := x0_3.below u_w12'
        replace x0_4 := x0_4.below u_w12'
        replace x2 := x2.below u_w12'
        replace x3 := x3.below u_w12'
        replace g0 := g0.below u_w12'
        replace g1 := g1.below u_w12'
        have V_w12' := V_w11'.trans (u_w12'.mono (V_w11').size)
        have S_w12' := u_w12'.size
        clear u_w12' V_w11'
        go_wp2_with fail
        refine (eqIntS_b _ _ _ _ _ _ _ _ g1.ints r1.ints).mono ?_
        rintro e w13' ⟨rfl, u_w13'⟩
        replace B_p0 := B_p0.below u_w13'
        replace B_x0 := B_x0.below u_w13'
        replace r0 := r0.below u_w13'
        replace r1 := r1.below u_w13'
        replace x0_3 := x0_3.below u_w13'
        replace x0_4 := x0_4.below u_w13'
        replace x2 := x2.below u_w13'
        replace x3 := x3.below u_w13'
        replace g0 := g0.below u_w13'
        replace g1 := g1.below u_w13'
        have V_w13' := V_w12'.trans (u_w13'.mono (V_w12').size)
        have S_w13' := u_w13'.size
        clear u_w13' V_w12'
        have e_x0_0 : w13'.cell? ⟨w7'.heap.size, 0, none⟩ = some (.int .i64 a0_0) := B_x0.cell 0
        have e_x0_1 : w13'.cell? ⟨w7'.heap.size, 1, none⟩ = some (.int .i64 a0_1) := B_x0.cell 1
        have e_x0_2 : w13'.cell? ⟨w7'.heap.size, 2, none⟩ = some (.int .i64 a0_2) := B_x0.cell 2
        have e_x0_3 : w13'.cell? ⟨w7'.heap.size, 3, none⟩ = some (.slice x_a0_3 n0_3 x_c0_3) := B_x0.cell 3
        have e_x0_4 : w13'.cell? ⟨w7'.heap.size, 4, none⟩ = some (.slice x_a0_4 n0_4 x_c0_4) := B_x0.cell 4
        have e_p0_0 : w13'.cell? ⟨w.heap.size, 0, none⟩ = some (.int .i64 a0_0) := B_p0.cell 0
        have e_p0_1 : w13'.cell? ⟨w.heap.size, 1, none⟩ = some (.int .i64 a0_1) := B_p0.cell 1
        have e_p0_2 : w13'.cell? ⟨w.heap.size, 2, none⟩ = some (.int .i64 a0_2) := B_p0.cell 2
        have e_p0_3 : w13'.cell? ⟨w.heap.size, 3, none⟩ = some (.slice a0_3 n0_3 c0_3) := B_p0.cell 3
        have e_p0_4 : w13'.cell? ⟨w.heap.size, 4, none⟩ = some (.slice a0_4 n0_4 c0_4) := B_p0.cell 4
        go_wp2
        go_region_held3 (fun W => W.cell? ⟨w7'.heap.size, 0, none⟩ = some (.int .i64 a0_0) ∧ W.cell? ⟨w7'.heap.size, 1, none⟩ = some (.int .i64 a0_1) ∧ W.cell? ⟨w7'.heap.size, 2, none⟩ = some (.int .i64 a0_2) ∧ W.cell? ⟨w7'.heap.size, 3, none⟩ = some (.slice x_a0_3 n0_3 x_c0_3) ∧ W.cell? ⟨w7'.heap.size, 4, none⟩ = some (.slice x_a0_4 n0_4 x_c0_4) ∧ W.cell? ⟨w.heap.size, 0, none⟩ = some (.int .i64 a0_0) ∧ W.cell? ⟨w.heap.size, 1, none⟩ = some (.int .i64 a0_1) ∧ W.cell? ⟨w.heap.size, 2, none⟩ = some (.int .i64 a0_2) ∧ W.cell? ⟨w.heap.size, 3, none⟩ = some (.slice a0_3 n0_3 c0_3) ∧ W.cell? ⟨w.heap.size, 4, none⟩ = some (.slice a0_4 n0_4 c0_4))
          (first | go_keep | exact ⟨keepC tv (keepC tu e_x0_0), keepC tv (keepC tu e_x0_1), keepC tv (keepC tu e_x0_2), keepC tv (keepC tu e_x0_3), keepC tv (keepC tu e_x0_4), keepC tv (keepC tu e_p0_0), keepC tv (keepC tu e_p0_1), keepC tv (keepC tu e_p0_2), keepC tv (keepC tu e_p0_3), keepC tv (keepC tu e_p0_4)⟩ | exact ⟨keepC tu e_x0_0, keepC tu e_x0_1, keepC tu e_x0_2, keepC tu e_x0_3, keepC tu e_x0_4, keepC tu e_p0_0, keepC tu e_p0_1, keepC tu e_p0_2, keepC tu e_p0_3, keepC tu e_p0_4⟩)
          (first | (go_at_call 14; refine (toArith_any _ _ _ _ _ _ l0_3 _ _ _ l0_4 _ (z0_3.below V_w13'.drew) (z0_4.below V_w13'.drew) (by omega) (by omega)).mono ?_; rintro e wt ⟨t_a0_3, t_c0_3, t_a0_4, t_c0_4, rfl, t0_3, t0_4, _, tu⟩) | (go_at_call 17; refine (eqArith_same _ _ _ _ _ _ _ _ _ l0_3 _ _ _ _ _ _ l0_4 _ (x0_3.drew.below tu).flat t0_3.flat (x0_4.drew.below tu).ints t0_4.ints).mono ?_; rintro e wq ⟨rfl, tv⟩))
        have u_w14' : Below w13'.heap.size w13' wq := (Below.refl _ _).drew.trans (tu.trans (tv.mono tu.size))
        clear tu tv e_x0_0 e_x0_1 e_x0_2 e_x0_3 e_x0_4 e_p0_0 e_p0_1 e_p0_2 e_p0_3 e_p0_4 t0_3 t0_4
        replace B_p0 := B_p0.below u_w14'
        replace B_x0 := B_x0.below u_w14'
        replace r0 := r0.below u_w14'
        replace r1 := r1.below u_w14'
        replace x0_3 := x0_3.below u_w14'
        replace x0_4 := x0_4.below u_w14'
        replace x2 := x2.below u_w14'
        replace x3 := x3.below u_w14'
        replace g0 := g0.below u_w14'
        replace g1 := g1.below u_w14'
        have V_wq := V_w13'.trans (u_w14'.mono (V_w13').size)
        have S_wq := u_w14'.size
        clear u_w14' V_w13'
        generalize wq = w14' at *
        have V_w14' := V_wq
        clear V_wq
        have S_w14' := S_wq
        clear S_wq
        go_wp2_with fail
        refine (toIntS_any _ _ _ l2 _ (z2.below V_w14') hs2).mono ?_
        rintro e w15' ⟨t_a2, t_c2, rfl, t2, u_w15'⟩
        replace B_p0 := B_p0.below u_w15'
        replace B_x0 := B_x0.below u_w15'
        replace r0 := r0.below u_w15'
        replace r1 := r1.below u_w15'
        replace x0_3 := x0_3.below u_w15'
        replace x0_4 := x0_4.below u_w15'
        replace x2 := x2.below u_w15'
        replace x3 := x3.below u_w15'
        replace g0 := g0.below u_w15'
        replace g1 := g1.below u_w15'
        have V_w15' := V_w14'.trans (u_w15'.mono (V_w14').size)
        have S_w15' := u_w15'.size
        clear u_w15' V_w14'
        have Q_t2 := Lib.hid t2.feet
        go_wp2_with fail
        refine (eqIntS_b _ _ _ _ _ _ _ _ x2.ints t2.ints).mono ?_
        rintro e w16' ⟨rfl, u_w16'⟩
        replace B_p0 := B_p0.below u_w16'
        replace B_x0 := B_x0.below u_w16'
        replace r0 := r0.below u_w16'
        replace r1 := r1.below u_w16'
        replace x0_3 := x0_3.below u_w16'
        replace x0_4 := x0_4.below u_w16'
        replace x2 := x2.below u_w16'
        replace x3 := x3.below u_w16'
        replace g0 := g0.below u_w16'
        replace g1 := g1.below u_w16'
        replace t2 := t2.below u_w16'
        have V_w16' := V_w15'.trans (u_w16'.mono (V_w15').size)
        have S_w16' := u_w16'.size
        clear u_w16' V_w15'
        clear t2
        go_wp2_with fail
        refine (toIntS_any _ _ _ l3 _ (z3.below V_w16') hs3).mono ?_
        rintro e w17' ⟨t_a3, t_c3, rfl, t3, u_w17'⟩
        replace B_p0 := B_p0.below u_w17'
        replace B_x0 := B_x0.below u_w17'
        replace r0 := r0.below u_w17'
        replace r1 := r1.below u_w17'
        replace x0_3 := x0_3.below u_w17'
        replace x0_4 := x0_4.below u_w17'
        replace x2 := x2.below u_w17'
        replace x3 := x3.below u_w17'
        replace g0 := g0.below u_w17'
        replace g1 := g1.below u_w17'
        have V_w17' := V_w16'.trans (u_w17'.mono (V_w16').size)
        have S_w17' := u_w17'.size
        clear u_w17' V_w16'
        have Q_t3 := Lib.hid t3.feet
        go_wp2_with fail
        refine (eqIntS_b _ _ _ _ _ _ _ _ x3.ints t3.ints).mono ?_
        rintro e w18' ⟨rfl, u_w18'⟩
        replace B_p0 := B_p0.below u_w18'
        replace B_x0 := B_x0.below u_w18'
        replace r0 := r0.below u_w18'
        replace r1 := r1.below u_w18'
        replace x0_3 := x0_3.below u_w18'
        replace x0_4 := x0_4.below u_w18'
        replace x2 := x2.below u_w18'
        replace x3 := x3.below u_w18'
        replace g0 := g0.below u_w18'
        replace g1 := g1.below u_w18'
        replace t3 := t3.below u_w18'
        have V_w18' := V_w17'.trans (u_w18'.mono (V_w17').size)
        have S_w18' := u_w18'.size
        clear u_w18' V_w17'
        clear t3
        have e_x0_0 : w18'.cell? ⟨w7'.heap.size, 0, none⟩ = some (.int .i64 a0_0) := B_x0.cell 0
        have e_x0_1 : w18'.cell? ⟨w7'.heap.size, 1, none⟩ = some (.int .i64 a0_1) := B_x0.cell 1
        have e_x0_2 : w18'.cell? ⟨w7'.heap.size, 2, none⟩ = some (.int .i64 a0_2) := B_x0.cell 2
        have e_x0_3 : w18'.cell? ⟨w7'.heap.size, 3, none⟩ = some (.slice x_a0_3 n0_3 x_c0_3) := B_x0.cell 3
        have e_x0_4 : w18'.cell? ⟨w7'.heap.size, 4, none⟩ = some (.slice x_a0_4 n0_4 x_c0_4) := B_x0.cell 4
        go_wp2_with fail
        clear e_x0_0 e_x0_1 e_x0_2 e_x0_3 e_x0_4
        refine (markArith_any _ _ _ _ _ _ _ _ _ _ _ _ _ _ _ x0_3 x0_4 dj_x0_3_0_4 (by omega) (by omega)).mono ?_
        rintro e w19' ⟨rfl, ⟨L_x0_3, x0_3, U_x0_3⟩, ⟨L_x0_4, x0_4, U_x0_4⟩, G⟩
        replace U_x0_3 := Lib.hid U_x0_3
        replace U_x0_4 := Lib.hid U_x0_4
        have RG : ∀ k ∈ foot x_a0_3 x_c0_3 ++ foot x_a0_4 x_c0_4, k ∈ foot x_a0_3 x_c0_3 ∨ k ∈ foot x_a0_4 x_c0_4 := fun k hk => by
          simpa [or_assoc] using hk
        replace r0 := r0.only G (Disj.app (fun k hk hk' => by have := Q_r0.out k hk; have := Q_x0_3.out k hk'; omega) (fun k hk hk' => by have := Q_r0.out k hk; have := Q_x0_4.out k hk'; omega))
        replace r1 := r1.only G (Disj.app (fun k hk hk' => by have := Q_r1.out k hk; have := Q_x0_3.out k hk'; omega) (fun k hk hk' => by have := Q_r1.out k hk; have := Q_x0_4.out k hk'; omega))
        replace x2 := x2.only G (Disj.app (fun k hk hk' => by have := Q_x2.out k hk; have := Q_x0_3.out k hk'; omega) (fun k hk hk' => by have := Q_x2.out k hk; have := Q_x0_4.out k hk'; omega))
        replace x3 := x3.only G (Disj.app (fun k hk hk' => by have := Q_x3.out k hk; have := Q_x0_3.out k hk'; omega) (fun k hk hk' => by have := Q_x3.out k hk; have := Q_x0_4.out k hk'; omega))
        replace g0 := g0.only G (Disj.app (fun k hk hk' => by have := Q_g0.out k hk; have := Q_x0_3.out k hk'; omega) (fun k hk hk' => by have := Q_g0.out k hk; have := Q_x0_4.out k hk'; omega))
        replace g1 := g1.only G (Disj.app (fun k hk hk' => by have := Q_g1.out k hk; have := Q_x0_3.out k hk'; omega) (fun k hk hk' => by have := Q_g1.out k hk; have := Q_x0_4.out k hk'; omega))
        replace B_p0 := B_p0.only G (fun hm => by rcases RG _ hm with h | h <;> first | (have := Q_x0_3.out _ h; omega) | (have := Q_x0_4.out _ h; omega))
        replace B_x0 := B_x0.only G (fun hm => by rcases RG _ hm with h | h <;> first | (have := Q_x0_3.out _ h; omega) | (have := Q_x0_4.out _ h; omega))
        have V_w19' := V_w18'.trans (G.below V_w18'.size (fun k hm => by have := V_w18'.size; rcases RG _ hm with h | h <;> first | (have := Q_x0_3.out _ h; omega) | (have := Q_x0_4.out _ h; omega)))
        have S_w19' := G.size
        clear G RG V_w18'
        go_wp2_with fail
        refine (markIntS_o _ _ _ _ _ _ _ x2 (by omega) (by omega)).mono ?_
        rintro e w20' ⟨rfl, ⟨L_x2, x2, U_x2⟩, G⟩
        replace U_x2 := Lib.hid U_x2
        have RG : ∀ k ∈ foot x_a2 x_c2, k ∈ foot x_a2 x_c2 := fun k hk => by
          simpa [or_assoc] using hk
        replace r0 := r0.only G (fun k hk hk' => by have := Q_r0.out k hk; have := Q_x2.out k hk'; omega)
        replace r1 := r1.only G (fun k hk hk' => by have := Q_r1.out k hk; have := Q_x2.out k hk'; omega)
        replace x0_3 := x0_3.only G (fun k hk hk' => by have := Q_x0_3.out k hk; have := Q_x2.out k hk'; omega)
        replace x0_4 := x0_4.only G (fun k hk hk' => by have := Q_x0_4.out k hk; have := Q_x2.out k hk'; omega)
        replace x3 := x3.only G (fun k hk hk' => by have := Q_x3.out k hk; have := Q_x2.out k hk'; omega)
        replace g0 := g0.only G (fun k hk hk' => by have := Q_g0.out k hk; have := Q_x2.out k hk'; omega)
        replace g1 := g1.only G (fun k hk hk' => by have := Q_g1.out k hk; have := Q_x2.out k hk'; omega)
        replace B_p0 := B_p0.only G (fun hm => by rcases RG _ hm with h <;> first | (have := Q_x2.out _ h; omega))
        replace B_x0 := B_x0.only G (fun hm => by rcases RG _ hm with h <;> first | (have := Q_x2.out _ h; omega))
        have V_w20' := V_w19'.trans (G.below V_w19'.size (fun k hm => by have := V_w19'.size; rcases RG _ hm with h <;> first | (have := Q_x2.out _ h; omega)))
        have S_w20' := G.size
        clear G RG V_w19'
        go_wp2_with fail
        refine (markIntS_o _ _ _ _ _ _ _ x3 (by omega) (by omega)).mono ?_
        rintro e w21' ⟨rfl, ⟨L_x3, x3, U_x3⟩, G⟩
        replace U_x3 := Lib.hid U_x3
        have RG : ∀ k ∈ foot x_a3 x_c3, k ∈ foot x_a3 x_c3 := fun k hk => by
          simpa [or_assoc] using hk
        replace r0 := r0.only G (fun k hk hk' => by have := Q_r0.out k hk; have := Q_x3.out k hk'; omega)
        replace r1 := r1.only G (fun k hk hk' => by have := Q_r1.out k hk; have := Q_x3.out k hk'; omega)
        replace x0_3 := x0_3.only G (fun k hk hk' => by have := Q_x0_3.out k hk; have := Q_x3.out k hk'; omega)
        replace x0_4 := x0_4.only G (fun k hk hk' => by have := Q_x0_4.out k hk; have := Q_x3.out k hk'; omega)
        replace x2 := x2.only G (fun k hk hk' => by have := Q_x2.out k hk; have := Q_x3.out k hk'; omega)
        replace g0 := g0.only G (fun k hk hk' => by have := Q_g0.out k hk; have := Q_x3.out k hk'; omega)
        replace g1 := g1.only G (fun k hk hk' => by have := Q_g1.out k hk; have := Q_x3.out k hk'; omega)
        replace B_p0 := B_p0.only G (fun hm => by rcases RG _ hm with h <;> first | (have := Q_x3.out _ h; omega))
        replace B_x0 := B_x0.only G (fun hm => by rcases RG _ hm with h <;> first | (have := Q_x3.out _ h; omega))
        have V_w21' := V_w20'.trans (G.below V_w20'.size (fun k hm => by have := V_w20'.size; rcases RG _ hm with h <;> first | (have := Q_x3.out _ h; omega)))
        have S_w21' := G.size
        clear G RG V_w20'
        go_wp2_with fail
        refine (eqIntS_b _ _ _ _ _ _ _ _ g0.ints r0.ints).mono ?_
        rintro e w22' ⟨rfl, u_w22'⟩
        replace B_p0 := B_p0.below u_w22'
        replace B_x0 := B_x0.below u_w22'
        replace r0 := r0.below u_w22'
        replace r1 := r1.below u_w22'
        replace x0_3 := x0_3.below u_w22'
        replace x0_4 := x0_4.below u_w22'
        replace x2 := x2.below u_w22'
        replace x3 := x3.below u_w22'
        replace g0 := g0.below u_w22'
        replace g1 := g1.below u_w22'
        have V_w22' := V_w21'.trans (u_w22'.mono (V_w21').size)
        have S_w22' := u_w22'.size
        clear u_w22' V_w21'
        go_wp2_with fail
        refine (eqIntS_b _ _ _ _ _ _ _ _ g1.ints r1.ints).mono ?_
        rintro e w23' ⟨rfl, u_w23'⟩
        replace B_p0 := B_p0.below u_w23'
        replace B_x0 := B_x0.below u_w23'
        replace r0 := r0.below u_w23'
        replace r1 := r1.below u_w23'
        replace x0_3 := x0_3.below u_w23'
        replace x0_4 := x0_4.below u_w23'
        replace x2 := x2.below u_w23'
        replace x3 := x3.below u_w23'
        replace g0 := g0.below u_w23'
        replace g1 := g1.below u_w23'
        have V_w23' := V_w22'.trans (u_w23'.mono (V_w22').size)
        have S_w23' := u_w23'.size
        clear u_w23' V_w22'
        clear x0_3
        clear x0_4
        clear x2
        clear x3
        clear B_x0
        have hlg0 : g_n0 ≤ 1000000 := by rw [g0.len]; exact wsL1_len a0_0 a0_1 a0_2 n0_3 l0_3 l0_4 a1 l2 l3
        have hlg1 : g_n1 ≤ 1000000 := by rw [g1.len]; exact wsL2_len a0_0 a0_1 a0_2 n0_3 l0_3 l0_4 a1 l2 l3
        go_wp2_with fail
        refine (markIntS_o _ _ _ _ _ _ _ g0 (by omega) (by omega)).mono ?_
        rintro e w24' ⟨rfl, ⟨L_g0, g0, U_g0⟩, G⟩
        replace U_g0 := Lib.hid U_g0
        have RG : ∀ k ∈ foot g_a0 g_c0, k ∈ foot g_a0 g_c0 := fun k hk => by
          simpa [or_assoc] using hk
        replace r0 := r0.only G (fun k hk hk' => by have := Q_r0.out k hk; have := Q_g0.out k hk'; omega)
        replace r1 := r1.only G (fun k hk hk' => by have := Q_r1.out k hk; have := Q_g0.out k hk'; omega)
        replace g1 := g1.only G dj_g0_1.symm
        replace B_p0 := B_p0.only G (fun hm => by rcases RG _ hm with h <;> first | (have := Q_g0.out _ h; omega))
        have V_w24' := V_w23'.trans (G.below V_w23'.size (fun k hm => by have := V_w23'.size; rcases RG _ hm with h <;> first | (have := Q_g0.out _ h; omega)))
        have S_w24' := G.size
        clear G RG V_w23'
        go_wp2_with fail
        refine (markIntS_o _ _ _ _ _ _ _ g1 (by omega) (by omega)).mono ?_
        rintro e w25' ⟨rfl, ⟨L_g1, g1, U_g1⟩, G⟩
        replace U_g1 := Lib.hid U_g1
        have RG : ∀ k ∈ foot g_a1 g_c1, k ∈ foot g_a1 g_c1 := fun k hk => by
          simpa [or_assoc] using hk
        replace r0 := r0.only G (fun k hk hk' => by have := Q_r0.out k hk; have := Q_g1.out k hk'; omega)
        replace r1 := r1.only G (fun k hk hk' => by have := Q_r1.out k hk; have := Q_g1.out k hk'; omega)
        replace g0 := g0.only G dj_g0_1
        replace B_p0 := B_p0.only G (fun hm => by rcases RG _ hm with h <;> first | (have := Q_g1.out _ h; omega))
        have V_w25' := V_w24'.trans (G.below V_w24'.size (fun k hm => by have := V_w24'.size; rcases RG _ hm with h <;> first | (have := Q_g1.out _ h; omega)))
        have S_w25' := G.size
        clear G RG V_w24'
        go_wp2_with fail
        refine (heldIntS_b _ _ _ _ _ _ g0.ints U_g0.out (by omega) (by omega)).mono ?_
        rintro e w26' ⟨rfl, u_w26'⟩
        replace B_p0 := B_p0.below u_w26'
        replace r0 := r0.below u_w26'
        replace r1 := r1.below u_w26'
        replace g0 := g0.below u_w26'
        replace g1 := g1.below u_w26'
        have V_w26' := V_w25'.trans (u_w26'.mono (V_w25').size)
        have S_w26' := u_w26'.size
        clear u_w26' V_w25'
        go_wp2_with fail
        refine (heldIntS_b _ _ _ _ _ _ g1.ints U_g1.out (by omega) (by omega)).mono ?_
        rintro e w27' ⟨rfl, u_w27'⟩
        replace B_p0 := B_p0.below u_w27'
        replace r0 := r0.below u_w27'
        replace r1 := r1.below u_w27'
        replace g0 := g0.below u_w27'
        replace g1 := g1.below u_w27'
        have V_w27' := V_w26'.trans (u_w27'.mono (V_w26').size)
        have S_w27' := u_w27'.size
        clear u_w27' V_w26'
        have e_p0_0 : w27'.cell? ⟨w.heap.size, 0, none⟩ = some (.int .i64 a0_0) := B_p0.cell 0
        have e_p0_1 : w27'.cell? ⟨w.heap.size, 1, none⟩ = some (.int .i64 a0_1) := B_p0.cell 1
        have e_p0_2 : w27'.cell? ⟨w.heap.size, 2, none⟩ = some (.int .i64 a0_2) := B_p0.cell 2
        have e_p0_3 : w27'.cell? ⟨w.heap.size, 3, none⟩ = some (.slice a0_3 n0_3 c0_3) := B_p0.cell 3
        have e_p0_4 : w27'.cell? ⟨w.heap.size, 4, none⟩ = some (.slice a0_4 n0_4 c0_4) := B_p0.cell 4
        go_wp2_with fail
        clear e_p0_0 e_p0_1 e_p0_2 e_p0_3 e_p0_4
        refine (toArith_any _ _ _ _ _ _ l0_3 _ _ _ l0_4 _ (z0_3.below V_w27') (z0_4.below V_w27') (by omega) (by omega)).mono ?_
        rintro e w28' ⟨x_a0_3, x_c0_3, x_a0_4, x_c0_4, rfl, x0_3, x0_4, dj_x0_3_0_4, u_w28'⟩
        replace B_p0 := B_p0.below u_w28'
        replace r0 := r0.below u_w28'
        replace r1 := r1.below u_w28'
        replace g0 := g0.below u_w28'
        replace g1 := g1.below u_w28'
        have V_w28' := V_w27'.trans (u_w28'.mono (V_w27').size)
        have S_w28' := u_w28'.size
        clear u_w28' V_w27'
        have Q_x0_3 := Lib.hid x0_3.feet
        have Q_x0_4 := Lib.hid x0_4.feet
        go_wp2_with fail
        refine (toIntS_any _ _ _ l2 _ (z2.below V_w28') hs2).mono ?_
        rintro e w29' ⟨x_a2, x_c2, rfl, x2, u_w29'⟩
        replace B_p0 := B_p0.below u_w29'
        replace r0 := r0.below u_w29'
        replace r1 := r1.below u_w29'
        replace g0 := g0.below u_w29'
        replace g1 := g1.below u_w29'
        replace x0_3 := x0_3.below u_w29'
        replace x0_4 := x0_4.below u_w29'
        have V_w29' := V_w28'.trans (u_w29'.mono (V_w28').size)
        have S_w29' := u_w29'.size
        clear u_w29' V_w28'
        have Q_x2 := Lib.hid x2.feet
        go_wp2_with fail
        refine (toIntS_any _ _ _ l3 _ (z3.below V_w29') hs3).mono ?_
        rintro e w30' ⟨x_a3, x_c3, rfl, x3, u_w30'⟩
        replace B_p0 := B_p0.below u_w30'
        replace r0 := r0.below u_w30'
        replace r1 := r1.below u_w30'
        replace g0 := g0.below u_w30'
        replace g1 := g1.below u_w30'
        replace x0_3 := x0_3.below u_w30'
        replace x0_4 := x0_4.below u_w30'
        replace x2 := x2.below u_w30'
        have V_w30' := V_w29'.trans (u_w30'.mono (V_w29').size)
        have S_w30' := u_w30'.size
        clear u_w30' V_w29'
        have Q_x3 := Lib.hid x3.feet
        go_wp2_with fail
        refine (WireShares_any _ _ _ _ _ _ l0_3 _ _ _ l0_4 _ _ _ _ l2 _ _ _ l3 _ x0_3.flat x0_4.ints x2.ints x3.ints).mono ?_
        rintro e w31' ⟨h_a0, h_n0, h_c0, h_a1, h_n1, h_c1, rfl, h0, h1, dj_h0_1, u_w31'⟩
        replace B_p0 := B_p0.below u_w31'
        replace r0 := r0.below u_w31'
        replace r1 := r1.below u_w31'
        replace g0 := g0.below u_w31'
        replace g1 := g1.below u_w31'
        replace x0_3 := x0_3.below u_w31'
        replace x0_4 := x0_4.below u_w31'
        replace x2 := x2.below u_w31'
        replace x3 := x3.below u_w31'
        have V_w31' := V_w30'.trans (u_w31'.mono (V_w30').size)
        have S_w31' := u_w31'.size
        clear u_w31' V_w30'
        have Q_h0 := Lib.hid h0.feet
        have Q_h1 := Lib.hid h1.feet
        clear x0_3
        clear x0_4
        clear x2
        clear x3
        go_wp2_with fail
        refine (eqIntS_b _ _ _ _ _ _ _ _ h0.ints r0.ints).mono ?_
        rintro e w32' ⟨rfl, u_w32'⟩
        replace B_p0 := B_p0.below u_w32'
        replace r0 := r0.below u_w32'
        replace r1 := r1.below u_w32'
        replace g0 := g0.below u_w32'
        replace g1 := g1.below u_w32'
        replace h0 := h0.below u_w32'
        replace h1 := h1.below u_w32'
        have V_w32' := V_w31'.trans (u_w32'.mono (V_w31').size)
        have S_w32' := u_w32'.size
        clear u_w32' V_w31'
        go_wp2_with fail
        refine (eqIntS_b _ _ _ _ _ _ _ _ h1.ints r1.ints).mono ?_
        rintro e w33' ⟨rfl, u_w33'⟩
        replace B_p0 := B_p0.below u_w33'
        replace r0 := r0.below u_w33'
        replace r1 := r1.below u_w33'
        replace g0 := g0.below u_w33'
        replace g1 := g1.below u_w33'
        replace h0 := h0.below u_w33'
        replace h1 := h1.below u_w33'
        have V_w33' := V_w32'.trans (u_w33'.mono (V_w32').size)
        have S_w33' := u_w33'.size
        clear u_w33' V_w32'
        go_wp2_with fail
        refine (heldIntS_b _ _ _ _ _ _ g0.ints U_g0.out (by omega) (by omega)).mono ?_
        rintro e w34' ⟨rfl, u_w34'⟩
        replace B_p0 := B_p0.below u_w34'
        replace r0 := r0.below u_w34'
        replace r1 := r1.below u_w34'
        replace g0 := g0.below u_w34'
        replace g1 := g1.below u_w34'
        replace h0 := h0.below u_w34'
        replace h1 := h1.below u_w34'
        have V_w34' := V_w33'.trans (u_w34'.mono (V_w33').size)
        have S_w34' := u_w34'.size
        clear u_w34' V_w33'
        go_wp2_with fail
        refine (heldIntS_b _ _ _ _ _ _ g1.ints U_g1.out (by omega) (by omega)).mono ?_
        rintro e w35' ⟨rfl, u_w35'⟩
        replace B_p0 := B_p0.below u_w35'
        replace r0 := r0.below u_w35'
        replace r1 := r1.below u_w35'
        replace g0 := g0.below u_w35'
        replace g1 := g1.below u_w35'
        replace h0 := h0.below u_w35'
        replace h1 := h1.below u_w35'
        have V_w35' := V_w34'.trans (u_w35'.mono (V_w34').size)
        have S_w35' := u_w35'.size
        clear u_w35' V_w34'
        go_wp2
        go_ret
        exact ⟨rfl, V_w35'⟩
      · skip
        go_enter Try.func7, Try.ntmps7
        go_wp2_with fail
        have V_w36' : Below w.heap.size w (w.alloc (.cells #[.int .i64 a0_0, .int .i64 a0_1, .int .i64 a0_2, .slice a0_3 n0_3 c0_3, .slice a0_4 n0_4 c0_4] 25)) := (((Below.refl w.heap.size w)).alloc (by have := ((Below.refl w.heap.size w)).size; first | exact this | (simp; omega) | simp) _)
        have B_p0 : Blk (w.alloc (.cells #[.int .i64 a0_0, .int .i64 a0_1, .int .i64 a0_2, .slice a0_3 n0_3 c0_3, .slice a0_4 n0_4 c0_4] 25)) (w.heap.size) 25 #[.int .i64 a0_0, .int .i64 a0_1, .int .i64 a0_2, .slice a0_3 n0_3 c0_3, .slice a0_4 n0_4 c0_4] := Blk.new w 25 #[.int .i64 a0_0, .int .i64 a0_1, .int .i64 a0_2, .slice a0_3 n0_3 c0_3, .slice a0_4 n0_4 c0_4]
        have S_w36' : w.heap.size + 1 ≤ (w.alloc (.cells #[.int .i64 a0_0, .int .i64 a0_1, .int .i64 a0_2, .slice a0_3 n0_3 c0_3, .slice a0_4 n0_4 c0_4] 25)).heap.size := by simp
        generalize (w.alloc (.cells #[.int .i64 a0_0, .int .i64 a0_1, .int .i64 a0_2, .slice a0_3 n0_3 c0_3, .slice a0_4 n0_4 c0_4] 25)) = w36' at *
        refine (szArith_no _ _ _ _ _ _ _ _ _ _ _ hn0_3 hn0_4 (by omega) (by omega) (by omega)).mono ?_
        rintro e w37' ⟨rfl, u_w37'⟩
        replace B_p0 := B_p0.below u_w37'
        have V_w37' := V_w36'.trans (u_w37'.mono (V_w36').size)
        have S_w37' := u_w37'.size
        clear u_w37' V_w36'
        go_wp2
        go_ret
        exact ⟨rfl, V_w37'⟩
    · skip
      go_enter Try.func7, Try.ntmps7
      go_wp2
      go_ret
      exact ⟨rfl, ((Below.refl w.heap.size w).alloc (by simp) _)⟩
  · skip
    go_enter Try.func7, Try.ntmps7
    go_wp2
    go_ret
    exact ⟨rfl, ((Below.refl w.heap.size w).alloc (by simp) _)⟩
end Go.Proofs.Ytjnblfnfegjbfaa
