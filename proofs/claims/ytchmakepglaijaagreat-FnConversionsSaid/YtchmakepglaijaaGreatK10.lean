/- Lemmas and walks that the claim's proof rests on, part 10. -/
import Derived.Test.YtchmakepglaijaaGreatK4
import Derived.Test.YtchmakepglaijaaGreatK5
import Derived.Test.YtchmakepglaijaaGreatK6
import Derived.Test.YtchmakepglaijaaGreatK7
import Derived.Test.YtchmakepglaijaaGreatK9
namespace Go.Proofs.YtchmakepglaijaaGreat
open Go.RowKit
def stB (p key : Int) (l : List Int) : Bool := pairB p l && inB key 0 1000000000
def stT (p key : Int) (l : List Int) : SbT := sbR key (reG p) (siF key (btL (l.getD 0 0) (wid p)) (wid p) (wid p)) (siS key (btL (l.getD 1 0) (wid p)) (wid p) (wid p)) ((reG p).length / 3)
def stL1 (p key : Int) (l : List Int) : List Int := if stB p key l then pkL (stT p key l).1 (reO p) (wid p) else []
def stL2 (p key : Int) (l : List Int) : List Int := if stB p key l then pkL (stT p key l).2.1 (reO p) (wid p) else []
theorem reO_len (p : Int) : (reO p).length = wid p := by unfold reO re4; exact (chG_len _ _ _ _ _ _).2
theorem re_gates {p : Int} (h : isPr p = true) : (∀ j, j < (reG p).length / 3 → gbB ((reG p).getD (j * 3) 0) ((reG p).getD (j * 3 + 1) 0) ((reG p).getD (j * 3 + 2) 0) ((wid p + wid p + j : Nat) : Int) = true) ∧ (∀ x ∈ reO p, 0 ≤ x ∧ x ≤ ((wid p + wid p + (reG p).length / 3 : Nat) : Int) - 1) ∧ (reG p).length ≤ 900 := by
  have h1 := re_ok h
  unfold ciB at h1
  simp only [Bool.and_eq_true] at h1
  refine ⟨fun j hj => ?_, fun x hx => ?_, (re_at h).2.1⟩
  · have h2 := List.all_eq_true.1 h1.1.2 j (List.mem_range.2 hj)
    unfold gbAt at h2
    have e : ((wid p + wid p + j : Nat) : Int) = ((wid p : Nat) : Int) + ((wid p : Nat) : Int) + (j : Int) := by omega
    rw [e]
    exact h2
  · have h2 := (allB_iff _ _ _).1 h1.2 x hx
    omega
set_option maxHeartbeats 8000000 in
set_option maxRecDepth 100000 in
theorem SumToBits_any (p key : Int) (a : Option Addr) (n c : Nat) (l : List Int) (w : World) (h : Ints w a n c l) :
    Calls Tryz.prog 9 #[.int .i64 p, .int .i64 key, .slice a n c] w fun e w' => ∃ a1 n1 c1 a2 n2 c2, e = .returned (.tuple #[.slice a1 n1 c1, .slice a2 n2 c2, .bool (stB p key l)]) ∧ Own w' w.heap.size a1 n1 c1 (stL1 p key l) ∧ Own w' w.heap.size a2 n2 c2 (stL2 p key l) ∧ Apart a1 c1 a2 c2 ∧ Below w.heap.size w w' := by
  unfold stL1 stL2 stB
  cases h1 : pairB p l
  · simp only [Bool.false_and, Bool.false_eq_true, if_false]
    go_enter Tryz.func9, Tryz.ntmps9
    go_wp2_with fail
    refine (isPair_any _ _ _ _ l _ h).mono ?_; rintro e w2 ⟨rfl, u2⟩
    rw [h1]
    go_wp2
    go_ret3
    exact ⟨none, 0, 0, none, 0, 0, rfl, Own.nil0 _ _ _, Own.nil0 _ _ _, (fun x y hx => absurd hx (by omega)), u2⟩
  cases h3 : inB key 0 1000000000
  · simp only [Bool.and_false, Bool.false_eq_true, if_false]
    go_enter Tryz.func9, Tryz.ntmps9
    go_wp2_with fail
    refine (isPair_any _ _ _ _ l _ h).mono ?_; rintro e w2 ⟨rfl, u2⟩
    rw [h1]
    go_wp2_with (go_at_call 37; refine (isKey_any _ _).mono ?_; rintro e w' ⟨rfl, rfl⟩)
    go_ret3
    exact ⟨none, 0, 0, none, 0, 0, rfl, Own.nil0 _ _ _, Own.nil0 _ _ _, (fun x y hx => absurd hx (by omega)), u2⟩
  simp only [Bool.and_self, if_true]
  obtain ⟨x0, x1, rfl, ⟨r0, r0'⟩, ⟨r1, r1'⟩, hp⟩ := pairB_true h1
  obtain ⟨p1, p2⟩ := isPr_range hp
  have k0 := (of_decide_eq_true h3).1
  have k1 := (of_decide_eq_true h3).2
  obtain ⟨hga, hou, hgl⟩ := re_gates hp
  have hol := reO_len p
  have hwl := wid_le p
  obtain rfl : n = 2 := h.len
  have HT := Lib.hid (show stT p key [x0, x1] = sbR key (reG p) (siF key (btL x0 (wid p)) (wid p) (wid p)) (siS key (btL x1 (wid p)) (wid p) (wid p)) ((reG p).length / 3) from rfl)
  obtain ⟨T, hTT⟩ : ∃ T, T = stT p key [x0, x1] := ⟨_, rfl⟩
  rw [← hTT] at HT ⊢
  clear hTT
  obtain ⟨O0, hO0⟩ : ∃ O, O = reO p := ⟨_, rfl⟩
  rw [← hO0] at hou hol ⊢
  have HO0 := Lib.hid hO0
  clear hO0
  obtain ⟨V, hV⟩ : ∃ V, V = wid p := ⟨_, rfl⟩
  rw [← hV] at hga hou hol hwl HT ⊢
  have HV := Lib.hid hV
  clear hV
  have HGA := Lib.hid hga
  have HOU := Lib.hid hou
  have HOL := Lib.hid hol
  have H1 := Lib.hid h1
  have H3 := Lib.hid h3
  clear hga hou hol h1 h3 hp
  have HX0 := Lib.hid (show 0 ≤ x0 ∧ x0 ≤ 1000000000 by omega)
  have HX1 := Lib.hid (show 0 ≤ x1 ∧ x1 ≤ 1000000000 by omega)
  go_enter Tryz.func9, Tryz.ntmps9
  go_wp2_with fail
  refine (isPair_any _ _ _ _ [x0, x1] _ h).mono ?_; rintro e w2 ⟨rfl, u2⟩
  rw [H1.out]
  go_wp2_with (go_at_call 37; refine (isKey_any _ _).mono ?_; rintro e w' ⟨rfl, rfl⟩; rw [H3.out])
  refine (reduceCircuit_any p _ p1 (by omega)).mono ?_; rintro e w3 ⟨ga, gn, gc, oa, on, oc, rfl, og, oo, dd, u3⟩
  rw [← HV.out]
  clear dd
  have V3 := u2.trans (u3.mono u2.size)
  have h3' := h.below V3
  go_wp2_with fail
  refine (widthFor_any p _ (by omega) (by omega)).mono ?_; rintro e w' ⟨rfl, rfl⟩; rw [← HV.out]
  rw [← HO0.out] at oo
  generalize reG p = G at *
  have hon : on = V := by have := oo.len; have := HOL.out; omega
  subst hon
  have HGN : Hid (gn = G.length / 3) := Lib.hid (by have := og.len; omega)
  have HTG := Lib.hid (show sbR key G (siF key (btL x0 on) on on) (siS key (btL x1 on) on on) gn = T by rw [HGN.out]; exact HT.out.symm)
  have HOG := Lib.hid (show ∀ x ∈ O0, 0 ≤ x ∧ x ≤ ((on + on + gn : Nat) : Int) - 1 by rw [HGN.out]; exact HOU.out)
  have V4 := V3.alloc V3.size (.cells #[.int .i64 (on : Int), .int .i64 (on : Int), .slice ga gn gc, .slice oa on oc] 49)
  have R4 : Blk (w3.alloc (.cells #[.int .i64 (on : Int), .int .i64 (on : Int), .slice ga gn gc, .slice oa on oc] 49)) w3.heap.size 49 #[.int .i64 (on : Int), .int .i64 (on : Int), .slice ga gn gc, .slice oa on oc] := Blk.new w3 _ _
  have og4 := og.flat.below ((Below.refl w3.heap.size w3).alloc (Nat.le_refl _) (.cells #[.int .i64 (on : Int), .int .i64 (on : Int), .slice ga gn gc, .slice oa on oc] 49))
  have oo4 := oo.ints.alloc (.cells #[.int .i64 (on : Int), .int .i64 (on : Int), .slice ga gn gc, .slice oa on oc] 49)
  have h4 := h3'.alloc (.cells #[.int .i64 (on : Int), .int .i64 (on : Int), .slice ga gn gc, .slice oa on oc] 49)
  have hz4 := V4.size
  clear og oo u2 u3 V3 h3' h
  go_upto_region 4 with fail
  generalize (w3.alloc (.cells #[.int .i64 (on : Int), .int .i64 (on : Int), .slice ga gn gc, .slice oa on oc] 49)) = w4 at *
  have x0' : w4.cell? ⟨w3.heap.size, 0, none⟩ = some (.int .i64 (on : Int)) := R4.cell 0
  have x1' : w4.cell? ⟨w3.heap.size, 1, none⟩ = some (.int .i64 (on : Int)) := R4.cell 1
  have x2' : w4.cell? ⟨w3.heap.size, 2, none⟩ = some (.slice ga gn gc) := R4.cell 2
  have x3' : w4.cell? ⟨w3.heap.size, 3, none⟩ = some (.slice oa on oc) := R4.cell 3
  obtain ⟨gx, ox, rfl, z0⟩ := h4.at 0 (by omega)
  obtain ⟨_, _, EE, z1⟩ := h4.at 1 (by omega)
  cases EE
  rw [Nat.add_zero] at z0
  change w4.cell? ⟨gx, ox, none⟩ = some (.int .i64 x0) at z0
  change w4.cell? ⟨gx, ox + 1, none⟩ = some (.int .i64 x1) at z1
  go_region_held3 (fun W => W.cell? ⟨w3.heap.size, 0, none⟩ = some (.int .i64 (on : Int)) ∧ W.cell? ⟨w3.heap.size, 1, none⟩ = some (.int .i64 (on : Int)) ∧ W.cell? ⟨w3.heap.size, 2, none⟩ = some (.slice ga gn gc) ∧ W.cell? ⟨w3.heap.size, 3, none⟩ = some (.slice oa on oc) ∧ W.cell? ⟨gx, ox, none⟩ = some (.int .i64 x0) ∧ W.cell? ⟨gx, ox + 1, none⟩ = some (.int .i64 x1))
    (first | exact ⟨keepC u7 (keepC u6 (keepC u5 x0')), keepC u7 (keepC u6 (keepC u5 x1')), keepC u7 (keepC u6 (keepC u5 x2')), keepC u7 (keepC u6 (keepC u5 x3')), keepC u7 (keepC u6 (keepC u5 z0)), keepC u7 (keepC u6 (keepC u5 z1))⟩ | exact ⟨keepC u6 (keepC u5 x0'), keepC u6 (keepC u5 x1'), keepC u6 (keepC u5 x2'), keepC u6 (keepC u5 x3'), keepC u6 (keepC u5 z0), keepC u6 (keepC u5 z1)⟩ | exact ⟨keepC u5 x0', keepC u5 x1', keepC u5 x2', keepC u5 x3', keepC u5 z0, keepC u5 z1⟩ | go_keep)
    (first | (go_at_call 51; have _ := u5; refine (bitsOf_any x1 on _ HX1.out (by omega)).mono ?_; rintro e w6 ⟨a6, c6, rfl, o6, u6⟩) | (go_at_call 51; refine (bitsOf_any x0 on _ HX0.out (by omega)).mono ?_; rintro e w5 ⟨a5, c5, rfl, o5, u5⟩) | (go_at_call 50; refine (sharedWires_any on on ga gn gc G oa on oc key a5 c5 (btL x0 on) a6 c6 (btL x1 on) _ (og4.drew.below (u5.trans (u6.mono u5.size))) (o5.ints.below u6) o6.ints k0 k1 (by omega) (by omega) (by have := HGN.out; omega) (btL_bits _ _) (btL_bits _ _) (by rw [HGN.out]; exact HGA.out)).mono ?_; rintro e w7 ⟨a1, c1, a2, c2, a3, n3, c3, rfl, o1, o2, dd, u7⟩))
  all_goals have U : Below w4.heap.size w4 w7 := (Below.refl _ _).drew.trans (u5.trans ((u6.trans (u7.mono u6.size)).mono u5.size))
  all_goals have V7 := V4.trans (U.mono V4.size)
  all_goals have R7 := R4.below U
  all_goals have oo7 := oo4.below U
  all_goals rw [HTG.out] at o1 o2
  all_goals have x3 : w7.cell? ⟨w3.heap.size, 3, none⟩ = some (.slice oa on oc) := R7.cell 3
  all_goals clear u5 u6 u7 U o5 o6 x0' x1' x2' x3' z0 z1 R7 V4 R4 og4 oo4 h4 dd
  all_goals go_wp2_with fail
  all_goals go_region_held3 (fun W => W.cell? ⟨w3.heap.size, 3, none⟩ = some (.slice oa on oc)) (first | exact keepC u9 (keepC u8 x3) | exact keepC u8 x3 | go_keep) (first | (go_at_call 52; have _ := u8; refine (pk_at a2 _ c2 T.2.1 oa on oc O0 _ (o2.ints.drew.below u8) (oo7.drew.below u8) (by have := HGN.out; omega) (by omega) HOG.out).mono ?_; rintro e w9 ⟨b2, d2, rfl, q2, u9⟩) | (go_at_call 52; refine (pk_at a1 _ c1 T.1 oa on oc O0 _ o1.ints.drew oo7.drew (by have := HGN.out; omega) (by omega) HOG.out).mono ?_; rintro e w8 ⟨b1, d1, rfl, q1, u8⟩))
  all_goals have AP := q1.apart q2 (Nat.le_refl _)
  all_goals have s1 := (q1.below u9).lower (b' := w.heap.size) V7.size
  all_goals have s2 := q2.lower (b' := w.heap.size) (Nat.le_trans V7.size u8.size)
  all_goals have VF := V7.trans (((Below.refl w7.heap.size w7).drew.trans (u8.trans (u9.mono u8.size))).mono V7.size)
  all_goals clear u8 u9 q1 q2 x3 oo7 o1 o2 V7
  all_goals have HAP := Lib.hid AP
  all_goals clear AP
  all_goals go_wp2
  all_goals go_ret3
  all_goals exact ⟨_, _, _, _, _, _, rfl, s1, s2, HAP.out, VF⟩
set_option maxHeartbeats 8000000 in
set_option maxRecDepth 100000 in
theorem spec_SumToBits_any (p key : Int) (a : Option Addr) (n c : Nat) (l : List Int) (w : World) (h : Ints w a n c l) :
    Calls Tryz.prog 10 #[.int .i64 p, .int .i64 key, .slice a n c] w fun e w' => ∃ a1 n1 c1 a2 n2 c2, e = .returned (.tuple #[.slice a1 n1 c1, .slice a2 n2 c2, .bool (stB p key l)]) ∧ Own w' w.heap.size a1 n1 c1 (stL1 p key l) ∧ Own w' w.heap.size a2 n2 c2 (stL2 p key l) ∧ Apart a1 c1 a2 c2 ∧ Below w.heap.size w w' := by
  unfold stL1 stL2 stB
  cases h1 : pairB p l
  · simp only [Bool.false_and, Bool.false_eq_true, if_false]
    go_enter Tryz.func10, Tryz.ntmps10
    go_wp2_with fail
    refine (trPair_any _ _ _ _ l _ h).mono ?_; rintro e w2 ⟨rfl, u2⟩
    rw [h1]
    go_wp2
    go_ret3
    exact ⟨none, 0, 0, none, 0, 0, rfl, Own.nil0 _ _ _, Own.nil0 _ _ _, (fun x y hx => absurd hx (by omega)), u2⟩
  cases h3 : inB key 0 1000000000
  · simp only [Bool.and_false, Bool.false_eq_true, if_false]
    go_enter Tryz.func10, Tryz.ntmps10
    go_wp2_with fail
    refine (trPair_any _ _ _ _ l _ h).mono ?_; rintro e w2 ⟨rfl, u2⟩
    rw [h1]
    go_wp2_with (go_at_call 43; refine (otKey_any _ _).mono ?_; rintro e w' ⟨rfl, rfl⟩)
    go_ret3
    exact ⟨none, 0, 0, none, 0, 0, rfl, Own.nil0 _ _ _, Own.nil0 _ _ _, (fun x y hx => absurd hx (by omega)), u2⟩
  simp only [Bool.and_self, if_true]
  obtain ⟨x0, x1, rfl, ⟨r0, r0'⟩, ⟨r1, r1'⟩, hp⟩ := pairB_true h1
  obtain ⟨p1, p2⟩ := isPr_range hp
  have k0 := (of_decide_eq_true h3).1
  have k1 := (of_decide_eq_true h3).2
  obtain ⟨hga, hou, hgl⟩ := re_gates hp
  have hol := reO_len p
  have hwl := wid_le p
  obtain rfl : n = 2 := h.len
  have HT := Lib.hid (show stT p key [x0, x1] = sbR key (reG p) (siF key (btL x0 (wid p)) (wid p) (wid p)) (siS key (btL x1 (wid p)) (wid p) (wid p)) ((reG p).length / 3) from rfl)
  obtain ⟨T, hTT⟩ : ∃ T, T = stT p key [x0, x1] := ⟨_, rfl⟩
  rw [← hTT] at HT ⊢
  clear hTT
  obtain ⟨O0, hO0⟩ : ∃ O, O = reO p := ⟨_, rfl⟩
  rw [← hO0] at hou hol ⊢
  have HO0 := Lib.hid hO0
  clear hO0
  obtain ⟨V, hV⟩ : ∃ V, V = wid p := ⟨_, rfl⟩
  rw [← hV] at hga hou hol hwl HT ⊢
  have HV := Lib.hid hV
  clear hV
  have HGA := Lib.hid hga
  have HOU := Lib.hid hou
  have HOL := Lib.hid hol
  have H1 := Lib.hid h1
  have H3 := Lib.hid h3
  clear hga hou hol h1 h3 hp
  have HX0 := Lib.hid (show 0 ≤ x0 ∧ x0 ≤ 1000000000 by omega)
  have HX1 := Lib.hid (show 0 ≤ x1 ∧ x1 ≤ 1000000000 by omega)
  go_enter Tryz.func10, Tryz.ntmps10
  go_wp2_with fail
  refine (trPair_any _ _ _ _ [x0, x1] _ h).mono ?_; rintro e w2 ⟨rfl, u2⟩
  rw [H1.out]
  go_wp2_with (go_at_call 43; refine (otKey_any _ _).mono ?_; rintro e w' ⟨rfl, rfl⟩; rw [H3.out])
  refine (cvWidth_any p _ (by omega) (by omega)).mono ?_; rintro e w' ⟨rfl, rfl⟩; rw [← HV.out]
  go_wp2_with fail
  refine (cvReduce_any p _ p1 (by omega)).mono ?_; rintro e w3 ⟨ga, gn, gc, oa, on, oc, rfl, og, oo, dd, u3⟩
  rw [← HV.out]
  clear dd
  have V3 := u2.trans (u3.mono u2.size)
  have h3' := h.below V3
  rw [← HO0.out] at oo
  generalize reG p = G at *
  have hon : on = V := by have := oo.len; have := HOL.out; omega
  subst hon
  have HGN : Hid (gn = G.length / 3) := Lib.hid (by have := og.len; omega)
  have HTG := Lib.hid (show sbR key G (siF key (btL x0 on) on on) (siS key (btL x1 on) on on) gn = T by rw [HGN.out]; exact HT.out.symm)
  have HOG := Lib.hid (show ∀ x ∈ O0, 0 ≤ x ∧ x ≤ ((on + on + gn : Nat) : Int) - 1 by rw [HGN.out]; exact HOU.out)
  have V4 := V3.alloc V3.size (.cells #[.int .i64 (on : Int), .int .i64 (on : Int), .slice ga gn gc, .slice oa on oc] 49)
  have R4 : Blk (w3.alloc (.cells #[.int .i64 (on : Int), .int .i64 (on : Int), .slice ga gn gc, .slice oa on oc] 49)) w3.heap.size 49 #[.int .i64 (on : Int), .int .i64 (on : Int), .slice ga gn gc, .slice oa on oc] := Blk.new w3 _ _
  have og4 := og.flat.below ((Below.refl w3.heap.size w3).alloc (Nat.le_refl _) (.cells #[.int .i64 (on : Int), .int .i64 (on : Int), .slice ga gn gc, .slice oa on oc] 49))
  have oo4 := oo.ints.alloc (.cells #[.int .i64 (on : Int), .int .i64 (on : Int), .slice ga gn gc, .slice oa on oc] 49)
  have h4 := h3'.alloc (.cells #[.int .i64 (on : Int), .int .i64 (on : Int), .slice ga gn gc, .slice oa on oc] 49)
  have hz4 := V4.size
  clear og oo u2 u3 V3 h3' h
  go_upto_region 5 with fail
  generalize (w3.alloc (.cells #[.int .i64 (on : Int), .int .i64 (on : Int), .slice ga gn gc, .slice oa on oc] 49)) = w4 at *
  have x0' : w4.cell? ⟨w3.heap.size, 0, none⟩ = some (.int .i64 (on : Int)) := R4.cell 0
  have x1' : w4.cell? ⟨w3.heap.size, 1, none⟩ = some (.int .i64 (on : Int)) := R4.cell 1
  have x2' : w4.cell? ⟨w3.heap.size, 2, none⟩ = some (.slice ga gn gc) := R4.cell 2
  have x3' : w4.cell? ⟨w3.heap.size, 3, none⟩ = some (.slice oa on oc) := R4.cell 3
  obtain ⟨gx, ox, rfl, z0⟩ := h4.at 0 (by omega)
  obtain ⟨_, _, EE, z1⟩ := h4.at 1 (by omega)
  cases EE
  rw [Nat.add_zero] at z0
  change w4.cell? ⟨gx, ox, none⟩ = some (.int .i64 x0) at z0
  change w4.cell? ⟨gx, ox + 1, none⟩ = some (.int .i64 x1) at z1
  go_region_held3 (fun W => W.cell? ⟨w3.heap.size, 0, none⟩ = some (.int .i64 (on : Int)) ∧ W.cell? ⟨w3.heap.size, 1, none⟩ = some (.int .i64 (on : Int)) ∧ W.cell? ⟨w3.heap.size, 2, none⟩ = some (.slice ga gn gc) ∧ W.cell? ⟨w3.heap.size, 3, none⟩ = some (.slice oa on oc) ∧ W.cell? ⟨gx, ox, none⟩ = some (.int .i64 x0) ∧ W.cell? ⟨gx, ox + 1, none⟩ = some (.int .i64 x1))
    (first | exact ⟨keepC u7 (keepC u6 (keepC u5 x0')), keepC u7 (keepC u6 (keepC u5 x1')), keepC u7 (keepC u6 (keepC u5 x2')), keepC u7 (keepC u6 (keepC u5 x3')), keepC u7 (keepC u6 (keepC u5 z0)), keepC u7 (keepC u6 (keepC u5 z1))⟩ | exact ⟨keepC u6 (keepC u5 x0'), keepC u6 (keepC u5 x1'), keepC u6 (keepC u5 x2'), keepC u6 (keepC u5 x3'), keepC u6 (keepC u5 z0), keepC u6 (keepC u5 z1)⟩ | exact ⟨keepC u5 x0', keepC u5 x1', keepC u5 x2', keepC u5 x3', keepC u5 z0, keepC u5 z1⟩ | go_keep)
    (first | (go_at_call 57; have _ := u5; refine (btOf_any x1 on _ HX1.out (by omega)).mono ?_; rintro e w6 ⟨a6, c6, rfl, o6, u6⟩) | (go_at_call 57; refine (btOf_any x0 on _ HX0.out (by omega)).mono ?_; rintro e w5 ⟨a5, c5, rfl, o5, u5⟩) | (go_at_call 56; refine (sbRun_any on on ga gn gc G oa on oc key a5 c5 (btL x0 on) a6 c6 (btL x1 on) _ (og4.drew.below (u5.trans (u6.mono u5.size))) (o5.ints.below u6) o6.ints k0 k1 (by omega) (by omega) (by have := HGN.out; omega) (btL_bits _ _) (btL_bits _ _) (by rw [HGN.out]; exact HGA.out)).mono ?_; rintro e w7 ⟨a1, c1, a2, c2, a3, n3, c3, rfl, o1, o2, dd, u7⟩))
  all_goals have U : Below w4.heap.size w4 w7 := (Below.refl _ _).drew.trans (u5.trans ((u6.trans (u7.mono u6.size)).mono u5.size))
  all_goals have V7 := V4.trans (U.mono V4.size)
  all_goals have R7 := R4.below U
  all_goals have oo7 := oo4.below U
  all_goals rw [HTG.out] at o1 o2
  all_goals have x3 : w7.cell? ⟨w3.heap.size, 3, none⟩ = some (.slice oa on oc) := R7.cell 3
  all_goals clear u5 u6 u7 U o5 o6 x0' x1' x2' x3' z0 z1 R7 V4 R4 og4 oo4 h4 dd
  all_goals go_wp2_with fail
  all_goals go_region_held3 (fun W => W.cell? ⟨w3.heap.size, 3, none⟩ = some (.slice oa on oc)) (first | exact keepC u9 (keepC u8 x3) | exact keepC u8 x3 | go_keep) (first | (go_at_call 58; have _ := u8; refine (pk_ciPick a2 _ c2 T.2.1 oa on oc O0 _ (o2.ints.drew.below u8) (oo7.drew.below u8) (by have := HGN.out; omega) (by omega) HOG.out).mono ?_; rintro e w9 ⟨b2, d2, rfl, q2, u9⟩) | (go_at_call 58; refine (pk_ciPick a1 _ c1 T.1 oa on oc O0 _ o1.ints.drew oo7.drew (by have := HGN.out; omega) (by omega) HOG.out).mono ?_; rintro e w8 ⟨b1, d1, rfl, q1, u8⟩))
  all_goals have AP := q1.apart q2 (Nat.le_refl _)
  all_goals have s1 := (q1.below u9).lower (b' := w.heap.size) V7.size
  all_goals have s2 := q2.lower (b' := w.heap.size) (Nat.le_trans V7.size u8.size)
  all_goals have VF := V7.trans (((Below.refl w7.heap.size w7).drew.trans (u8.trans (u9.mono u8.size))).mono V7.size)
  all_goals clear u8 u9 q1 q2 x3 oo7 o1 o2 V7
  all_goals have HAP := Lib.hid AP
  all_goals clear AP
  all_goals go_wp2
  all_goals go_ret3
  all_goals exact ⟨_, _, _, _, _, _, rfl, s1, s2, HAP.out, VF⟩
end Go.Proofs.YtchmakepglaijaaGreat
namespace Go.Proofs.YtchmakepglaijaaGreat
open Go.RowKit
def ib (b : Bool) : Int := if b = true then 1 else 0
theorem bit_ib {x : Int} (h : x = 0 ∨ x = 1) : ∃ b, x = ib b := by
  rcases h with rfl | rfl
  · exact ⟨false, rfl⟩
  · exact ⟨true, rfl⟩
theorem xor_ib (a b : Bool) : xorI (ib a) (ib b) = ib (a ^^ b) := by cases a <;> cases b <;> decide
theorem and_ib (a b : Bool) : andI (ib a) (ib b) = ib (a && b) := by cases a <;> cases b <;> decide
theorem an0_ib (a b c d e : Bool) : anI 0 [ib a, ib b, ib c] (ib d) (ib e) = ib (((c ^^ (d && b)) ^^ (e && a)) ^^ (d && e)) := by
  unfold anI
  rw [if_pos rfl]
  show xorI (xorI (xorI (ib c) (andI (ib d) (ib b))) (andI (ib e) (ib a))) (andI (ib d) (ib e)) = _
  simp only [xor_ib, and_ib]
theorem an1_ib (a b c d e : Bool) : anI 1 [ib a, ib b, ib c] (ib d) (ib e) = ib ((c ^^ (d && b)) ^^ (e && a)) := by
  unfold anI
  rw [if_neg (by decide)]
  show xorI (xorI (ib c) (andI (ib d) (ib b))) (andI (ib e) (ib a)) = _
  simp only [xor_ib, and_ib]
theorem gmw_bool : ∀ fa sa fb sb n0 n1 n2 n3 n4 : Bool,
    ((((n4 ^^ ((((fa ^^ sa) ^^ n2) ^^ (n0 ^^ n2)) && n3)) ^^ ((((fb ^^ sb) ^^ n3) ^^ (n1 ^^ n3)) && n2)) ^^ ((((fa ^^ sa) ^^ n2) ^^ (n0 ^^ n2)) && (((fb ^^ sb) ^^ n3) ^^ (n1 ^^ n3)))) ^^
    ((((n0 && n1) ^^ n4) ^^ ((((fa ^^ sa) ^^ n2) ^^ (n0 ^^ n2)) && (n1 ^^ n3))) ^^ ((((fb ^^ sb) ^^ n3) ^^ (n1 ^^ n3)) && (n0 ^^ n2)))) = ((fa ^^ sa) && (fb ^^ sb)) := by decide
theorem gmw_and {fa sa fb sb n0 n1 n2 n3 n4 : Int} (h1 : fa = 0 ∨ fa = 1) (h2 : sa = 0 ∨ sa = 1) (h3 : fb = 0 ∨ fb = 1) (h4 : sb = 0 ∨ sb = 1) (h5 : n0 = 0 ∨ n0 = 1) (h6 : n1 = 0 ∨ n1 = 1) (h7 : n2 = 0 ∨ n2 = 1) (h8 : n3 = 0 ∨ n3 = 1) (h9 : n4 = 0 ∨ n4 = 1) :
    xorI (anI 0 [n2, n3, n4] (xorI (xorI (xorI fa sa) n2) (xorI n0 n2)) (xorI (xorI (xorI fb sb) n3) (xorI n1 n3)))
      (anI 1 [xorI n0 n2, xorI n1 n3, xorI (andI n0 n1) n4] (xorI (xorI (xorI fa sa) n2) (xorI n0 n2)) (xorI (xorI (xorI fb sb) n3) (xorI n1 n3))) = andI (xorI fa sa) (xorI fb sb) := by
  obtain ⟨fa, rfl⟩ := bit_ib h1
  obtain ⟨sa, rfl⟩ := bit_ib h2
  obtain ⟨fb, rfl⟩ := bit_ib h3
  obtain ⟨sb, rfl⟩ := bit_ib h4
  obtain ⟨n0, rfl⟩ := bit_ib h5
  obtain ⟨n1, rfl⟩ := bit_ib h6
  obtain ⟨n2, rfl⟩ := bit_ib h7
  obtain ⟨n3, rfl⟩ := bit_ib h8
  obtain ⟨n4, rfl⟩ := bit_ib h9
  simp only [xor_ib, and_ib, an0_ib, an1_ib]
  rw [gmw_bool]
theorem xx_bits {a b c d : Int} (h1 : a = 0 ∨ a = 1) (h2 : b = 0 ∨ b = 1) (h3 : c = 0 ∨ c = 1) (h4 : d = 0 ∨ d = 1) : xorI (xorI a b) (xorI c d) = xorI (xorI a c) (xorI b d) := by
  rcases h1 with rfl | rfl <;> rcases h2 with rfl | rfl <;> rcases h3 with rfl | rfl <;> rcases h4 with rfl | rfl <;> decide
theorem not_bits {a c : Int} (h1 : a = 0 ∨ a = 1) (h3 : c = 0 ∨ c = 1) : xorI (xorI a (1 - 0)) (xorI c (1 - 1)) = 1 - xorI a c := by
  rcases h1 with rfl | rfl <;> rcases h3 with rfl | rfl <;> decide
theorem mask_bits {a c : Int} (h1 : a = 0 ∨ a = 1) (h3 : c = 0 ∨ c = 1) : xorI (xorI a c) c = a ∧ xorI c (xorI a c) = a := by
  rcases h1 with rfl | rfl <;> rcases h3 with rfl | rfl <;> decide
theorem snocD (l : List Int) (x : Int) (i : Nat) : (l ++ [x]).getD i 0 = if i < l.length then l.getD i 0 else if i = l.length then x else 0 := by
  by_cases h : i < l.length
  · rw [if_pos h, gapp _ _ _ h]
  · rw [if_neg h, gappR _ _ _ (by omega)]
    by_cases e : i = l.length
    · rw [if_pos e, e, Nat.sub_self]; rfl
    · obtain ⟨m, hm⟩ : ∃ m, i - l.length = m + 1 := ⟨i - l.length - 1, by omega⟩
      rw [if_neg e, hm]; rfl
def ShV (r : SbT) (L : List Int) : Prop := ∀ i, xorI (r.1.getD i 0) (r.2.1.getD i 0) = L.getD i 0
theorem ShV.snoc {r : SbT} {L : List Int} {N : Nat} (h : ShV r L) (ok : SbOk N r) (hl : L.length = N) {x y v : Int} {m : Nat} (e : xorI x y = v) : ShV (r.1 ++ [x], r.2.1 ++ [y], m) (L ++ [v]) := fun i => by
  rw [snocD, snocD, snocD, ok.lf, ok.ls, hl]
  by_cases h1 : i < N
  · rw [if_pos h1, if_pos h1, if_pos h1]; exact h i
  · rw [if_neg h1, if_neg h1, if_neg h1]
    by_cases h2 : i = N
    · rw [if_pos h2, if_pos h2, if_pos h2]; exact e
    · rw [if_neg h2, if_neg h2, if_neg h2]; decide
theorem sb_val (key : Int) (G : List Int) {F0 S0 V : List Int} {B : Nat} (h : SbOk B (F0, S0, 0)) (hV : V.length = B) (h0 : ShV (F0, S0, 0) V) (k : Nat) : ShV (sbR key G F0 S0 k) (evL G V k) := by
  induction k with
  | zero => exact h0
  | succ k ih =>
    have ok := (sbR_ok key G h k).1
    have hl : (evL G V k).length = B + k := by rw [evL_len, hV]
    rw [sbR_succ, evL_succ]
    generalize sbR key G F0 S0 k = r at *
    generalize evL G V k = L at *
    generalize G.getD (k * 3) 0 = kd at *
    generalize (G.getD (k * 3 + 1) 0) = ka at *
    generalize (G.getD (k * 3 + 2) 0) = kb at *
    have ia := ih ka.toNat
    have ibb := ih kb.toNat
    have f1 := ok.bf.at ka.toNat
    have f2 := ok.bf.at kb.toNat
    have s1 := ok.bs.at ka.toNat
    have s2 := ok.bs.at kb.toNat
    unfold sbStep
    by_cases h1 : kd = 1
    · rw [if_pos h1]
      refine ih.snoc ok hl ?_
      rw [h1]
      unfold evS
      rw [if_neg (by decide), if_pos rfl, ← ia, ← ibb]
      exact gmw_and f1 s1 f2 s2 (stb_bit key r.2.2 0 (by decide)) (stb_bit key r.2.2 1 (by decide)) (stb_bit key r.2.2 2 (by decide)) (stb_bit key r.2.2 3 (by decide)) (stb_bit key r.2.2 4 (by decide))
    · rw [if_neg h1]
      refine ih.snoc ok hl ?_
      unfold evS soI
      by_cases h0 : kd = 0
      · rw [if_pos h0, if_pos h0, if_pos h0, ← ia, ← ibb]
        exact xx_bits f1 f2 s1 s2
      · rw [if_neg h0, if_neg h0, if_neg h0, if_neg h1]
        by_cases h2 : kd = 2
        · rw [if_pos h2, if_pos h2, if_pos h2, ← ia]
          exact not_bits f1 s1
        · rw [if_neg h2, if_neg h2, if_neg h2]
          decide
theorem dflt (l : List Int) (i : Nat) (h : l.length ≤ i) : l.getD i 0 = 0 := by simp [List.getD, h]
theorem xrL_at (l l' : List Int) (k i : Nat) (h : i < k) : (xrL l l' k).getD i 0 = xorI (l.getD i 0) (l'.getD i 0) := by simp [xrL, List.getD, h]
theorem si_val (key : Int) {A B : List Int} {i0 i1 : Nat} (hA : Bt A) (hB : Bt B) (la : A.length = i0) (lb : B.length = i1) : ShV (siF key A i0 i1, siS key B i0 i1, 0) (A ++ B) := fun i => by
  show xorI ((siF key A i0 i1).getD i 0) ((siS key B i0 i1).getD i 0) = _
  unfold siF siS
  have m1 : (bitsI [key, 221] i0).length = i0 := bitsI_len _ _
  have m2 : (bitsI [key, 222] i1).length = i1 := bitsI_len _ _
  have b1 := (bitsI_bits [key, 221] i0).at i
  have b2 := (bitsI_bits [key, 222] i1).at (i - i0)
  by_cases h : i < i0
  · rw [gapp _ _ _ (by rw [xrL_len]; exact h), gapp _ _ _ (by rw [m1]; exact h), gapp _ _ _ (by rw [la]; exact h), xrL_at _ _ _ _ h]
    exact (mask_bits (hA.at i) b1).1
  · rw [gappR _ _ _ (by rw [xrL_len]; omega), gappR _ _ _ (by rw [m1]; omega), gappR _ _ _ (by rw [la]; omega), xrL_len, m1, la]
    by_cases h2 : i - i0 < i1
    · rw [xrL_at _ _ _ _ h2]
      exact (mask_bits (hB.at _) b2).2
    · rw [dflt _ _ (by rw [m2]; omega), dflt _ _ (by rw [xrL_len]; omega), dflt _ _ (by rw [lb]; omega)]
      decide
end Go.Proofs.YtchmakepglaijaaGreat
namespace Go.Proofs.YtchmakepglaijaaGreat
open Go.RowKit
theorem gt_step {B : Int} {V G : List Int} (g : Gd B G) (hV : (V.length : Int) = B) (kd a b : Int) : Ex B V G (gt G kd a b) ∧ Wr B (gt G kd a b) (gW B G) ∧ vl (gt G kd a b) V (gW B G) = evS kd (vl G V a) (vl G V b) :=
  ⟨Ex.gt g hV kd a b, Wr.new g.1 kd a b, vl_new g hV kd a b⟩
theorem ad_bit1 {u v : Int} (hu : u = 0 ∨ u = 1) (hv : v = 0 ∨ v = 1) : evS 0 u v + 2 * evS 1 u v = u + v := by
  rcases hu with rfl | rfl <;> rcases hv with rfl | rfl <;> decide
theorem ad_bit {u v c : Int} (hu : u = 0 ∨ u = 1) (hv : v = 0 ∨ v = 1) (hc : c = 0 ∨ c = 1) : evS 0 (evS 0 u c) v + 2 * evS 0 (evS 1 (evS 0 u c) (evS 0 v c)) c = u + v + c := by
  rcases hu with rfl | rfl <;> rcases hv with rfl | rfl <;> rcases hc with rfl | rfl <;> decide
theorem su_bit1 {u v : Int} (z : Int) (hu : u = 0 ∨ u = 1) (hv : v = 0 ∨ v = 1) : evS 0 u v - 2 * evS 1 (evS 2 u z) v = u - v := by
  rw [ev_not]
  rcases hu with rfl | rfl <;> rcases hv with rfl | rfl <;> decide
theorem su_bit {u v c : Int} (z : Int) (hu : u = 0 ∨ u = 1) (hv : v = 0 ∨ v = 1) (hc : c = 0 ∨ c = 1) : evS 0 (evS 0 u c) v - 2 * evS 0 (evS 1 (evS 2 (evS 0 u c) z) (evS 0 v c)) c = u - v - c := by
  rw [ev_not]
  rcases hu with rfl | rfl <;> rcases hv with rfl | rfl <;> rcases hc with rfl | rfl <;> decide
theorem adS_val {B u v : Int} {V : List Int} {f : Bool} {q : List Int × List Int × Int} (g : Gd B q.1) (hV : (V.length : Int) = B) (hb : Bt V) (wx : Wr B q.1 u) (wy : Wr B q.1 v) (wc : f = false → Wr B q.1 q.2.2) :
    Ex B V q.1 (adS B u v f q).1 ∧ ∃ o, (adS B u v f q).2.1 = q.2.1 ++ [o] ∧ vl (adS B u v f q).1 V o + 2 * vl (adS B u v f q).1 V (adS B u v f q).2.2 = vl q.1 V u + vl q.1 V v + if f = true then 0 else vl q.1 V q.2.2 := by
  obtain ⟨Q, l, c⟩ := q
  dsimp only at *
  cases f
  · have wc := wc rfl
    obtain ⟨x1, n1, v1⟩ := gt_step g hV 0 u c
    have g1 := g.xor wx wc
    obtain ⟨x2, n2, v2⟩ := gt_step g1 hV 0 v c
    have g2 := g1.xor (x1.1.wr wy) (x1.1.wr wc)
    obtain ⟨x3, n3, v3⟩ := gt_step g2 hV 0 (gW B Q) v
    have g3 := g2.xor (x2.1.wr n1) ((x1.trans x2).1.wr wy)
    obtain ⟨x4, n4, v4⟩ := gt_step g3 hV 1 (gW B Q) (gW B (gt Q 0 u c))
    have g4 := g3.and ((x2.trans x3).1.wr n1) (x3.1.wr n2)
    obtain ⟨x5, n5, v5⟩ := gt_step g4 hV 0 (gW B (gt (gt (gt Q 0 u c) 0 v c) 0 (gW B Q) v)) c
    rw [x1.2 _ wy, x1.2 _ wc] at v2
    rw [x2.2 _ n1, v1, (x1.trans x2).2 _ wy] at v3
    rw [(x2.trans x3).2 _ n1, v1, x3.2 _ n2, v2] at v4
    rw [v4, (x1.trans (x2.trans (x3.trans x4))).2 _ wc] at v5
    refine ⟨x1.trans (x2.trans (x3.trans (x4.trans x5))), gW B (gt (gt Q 0 u c) 0 v c), rfl, ?_⟩
    show vl _ V (gW B (gt (gt Q 0 u c) 0 v c)) + 2 * vl _ V (gW B (gt (gt (gt (gt Q 0 u c) 0 v c) 0 (gW B Q) v) 1 (gW B Q) (gW B (gt Q 0 u c)))) = _
    have e3 := (x4.trans x5).2 _ n3
    rw [v3] at e3
    unfold adS
    simp only [Bool.false_eq_true, if_false]
    rw [e3, v5]
    exact ad_bit (vl_bit hb _ _) (vl_bit hb _ _) (vl_bit hb _ _)
  · obtain ⟨x1, n1, v1⟩ := gt_step g hV 0 u v
    have g1 := g.xor wx wy
    obtain ⟨x2, n2, v2⟩ := gt_step g1 hV 1 u v
    rw [x1.2 _ wx, x1.2 _ wy] at v2
    refine ⟨x1.trans x2, gW B Q, rfl, ?_⟩
    have e1 := x2.2 _ n1
    rw [v1] at e1
    unfold adS
    simp only [if_true]
    rw [e1, v2, Int.add_zero]
    exact ad_bit1 (vl_bit hb _ _) (vl_bit hb _ _)
theorem suS_val {B u v : Int} {V : List Int} {f : Bool} {q : List Int × List Int × Int} (g : Gd B q.1) (hV : (V.length : Int) = B) (hb : Bt V) (wx : Wr B q.1 u) (wy : Wr B q.1 v) (wc : f = false → Wr B q.1 q.2.2) :
    Ex B V q.1 (suS B u v f q).1 ∧ ∃ o, (suS B u v f q).2.1 = q.2.1 ++ [o] ∧ vl (suS B u v f q).1 V o - 2 * vl (suS B u v f q).1 V (suS B u v f q).2.2 = vl q.1 V u - vl q.1 V v - if f = true then 0 else vl q.1 V q.2.2 := by
  obtain ⟨Q, l, c⟩ := q
  dsimp only at *
  cases f
  · have wc := wc rfl
    obtain ⟨x1, n1, v1⟩ := gt_step g hV 0 u c
    have g1 := g.xor wx wc
    obtain ⟨x2, n2, v2⟩ := gt_step g1 hV 0 v c
    have g2 := g1.xor (x1.1.wr wy) (x1.1.wr wc)
    obtain ⟨x3, n3, v3⟩ := gt_step g2 hV 0 (gW B Q) v
    have g3 := g2.xor (x2.1.wr n1) ((x1.trans x2).1.wr wy)
    obtain ⟨x4, n4, v4⟩ := gt_step g3 hV 2 (gW B Q) 0
    have g4 := g3.not ((x2.trans x3).1.wr n1)
    obtain ⟨x5, n5, v5⟩ := gt_step g4 hV 1 (gW B (gt (gt (gt Q 0 u c) 0 v c) 0 (gW B Q) v)) (gW B (gt Q 0 u c))
    have g5 := g4.and n4 ((x3.trans x4).1.wr n2)
    obtain ⟨x6, n6, v6⟩ := gt_step g5 hV 0 (gW B (gt (gt (gt (gt Q 0 u c) 0 v c) 0 (gW B Q) v) 2 (gW B Q) 0)) c
    rw [x1.2 _ wy, x1.2 _ wc] at v2
    rw [x2.2 _ n1, v1, (x1.trans x2).2 _ wy] at v3
    rw [(x2.trans x3).2 _ n1, v1] at v4
    rw [v4, (x3.trans x4).2 _ n2, v2] at v5
    rw [v5, (x1.trans (x2.trans (x3.trans (x4.trans x5)))).2 _ wc] at v6
    refine ⟨x1.trans (x2.trans (x3.trans (x4.trans (x5.trans x6)))), gW B (gt (gt Q 0 u c) 0 v c), rfl, ?_⟩
    have e3 := (x4.trans (x5.trans x6)).2 _ n3
    rw [v3] at e3
    unfold suS
    simp only [Bool.false_eq_true, if_false]
    rw [e3, v6]
    exact su_bit _ (vl_bit hb _ _) (vl_bit hb _ _) (vl_bit hb _ _)
  · obtain ⟨x1, n1, v1⟩ := gt_step g hV 0 u v
    have g1 := g.xor wx wy
    obtain ⟨x2, n2, v2⟩ := gt_step g1 hV 2 u 0
    have g2 := g1.not (x1.1.wr wx)
    obtain ⟨x3, n3, v3⟩ := gt_step g2 hV 1 (gW B (gt Q 0 u v)) v
    rw [x1.2 _ wx] at v2
    rw [v2, (x1.trans x2).2 _ wy] at v3
    refine ⟨x1.trans (x2.trans x3), gW B Q, rfl, ?_⟩
    have e1 := (x2.trans x3).2 _ n1
    rw [v1] at e1
    unfold suS
    simp only [if_true]
    rw [e1, v3, Int.sub_zero]
    exact su_bit1 _ (vl_bit hb _ _) (vl_bit hb _ _)
def nv (G V r : List Int) : Nat → Int
  | 0 => 0
  | k + 1 => nv G V r k + vl G V (r.getD k 0) * 2 ^ k
theorem nv_ex {B : Int} {V G G' r : List Int} (e : Ex B V G G') (hr : Ws B G r) : ∀ n, n ≤ r.length → nv G' V r n = nv G V r n
  | 0, _ => rfl
  | k + 1, h => by rw [nv, nv, nv_ex e hr k (by omega), e.2 _ (hr.at k (by omega))]
theorem nv_app (G V r s : List Int) : ∀ n, n ≤ r.length → nv G V (r ++ s) n = nv G V r n
  | 0, _ => rfl
  | k + 1, h => by rw [nv, nv, nv_app G V r s k (by omega), gapp _ _ _ (by omega)]
theorem nv_rng {G V : List Int} (hb : Bt V) (r : List Int) : ∀ n, 0 ≤ nv G V r n ∧ nv G V r n < 2 ^ n
  | 0 => by simp [nv]
  | k + 1 => by
    have h := nv_rng (G := G) hb r k
    rw [nv, Int.pow_succ]
    rcases vl_bit hb G (r.getD k 0) with e | e <;> rw [e] <;> omega
theorem adG_val {B : Int} {V x y G : List Int} (h : Gd B G) (hV : (V.length : Int) = B) (hb : Bt V) (hx : Ws B G x) (hy : Ws B G y) (n : Nat) (h1 : n ≤ x.length) (h2 : n ≤ y.length) :
    Ex B V G (adG B x y G n).1 ∧ nv (adG B x y G n).1 V (adG B x y G n).2.1 n + (if n = 0 then 0 else vl (adG B x y G n).1 V (adG B x y G n).2.2) * 2 ^ n = nv G V x n + nv G V y n := by
  induction n with
  | zero => exact ⟨Ex.refl _ _ _, rfl⟩
  | succ n ih =>
    obtain ⟨e, f⟩ := ih (by omega) (by omega)
    obtain ⟨g, m, r, c⟩ := adG_good h hx hy n (by omega) (by omega)
    have hl := (adG_len B x y G n).2
    rw [adG_succ]
    have wx := hx.at n (by omega)
    have wy := hy.at n (by omega)
    obtain ⟨e2, o, ho, hv⟩ := adS_val (f := n == 0) g hV hb (m.wr wx) (m.wr wy) (fun e => c (by cases n with | zero => cases e | succ n => omega))
    rw [e.2 _ wx, e.2 _ wy] at hv
    refine ⟨e.trans e2, ?_⟩
    rw [if_neg (by omega), nv, nv, nv, ho, nv_app _ _ _ _ _ (by omega), gsnE _ _ _ hl.symm, nv_ex e2 r n (by omega), Int.pow_succ]
    generalize nv (adG B x y G n).1 V (adG B x y G n).2.1 n = N at *
    generalize vl (adS B (x.getD n 0) (y.getD n 0) (n == 0) (adG B x y G n)).1 V o = vo at *
    generalize vl (adS B (x.getD n 0) (y.getD n 0) (n == 0) (adG B x y G n)).1 V (adS B (x.getD n 0) (y.getD n 0) (n == 0) (adG B x y G n)).2.2 = vc at *
    generalize vl (adG B x y G n).1 V (adG B x y G n).2.2 = c0 at *
    generalize vl G V (x.getD n 0) = xv at *
    generalize vl G V (y.getD n 0) = yv at *
    by_cases h0 : n = 0
    · subst h0
      simp only [if_true, beq_self_eq_true] at f hv
      simp only [Int.pow_zero] at f ⊢
      omega
    · rw [if_neg h0] at f
      rw [if_neg (by simpa using h0)] at hv
      generalize (2 : Int) ^ n = T at *
      grind
theorem suG_val {B : Int} {V x y G : List Int} (h : Gd B G) (hV : (V.length : Int) = B) (hb : Bt V) (hx : Ws B G x) (hy : Ws B G y) (n : Nat) (h1 : n ≤ x.length) (h2 : n ≤ y.length) :
    Ex B V G (suG B x y G n).1 ∧ nv (suG B x y G n).1 V (suG B x y G n).2.1 n - (if n = 0 then 0 else vl (suG B x y G n).1 V (suG B x y G n).2.2) * 2 ^ n = nv G V x n - nv G V y n := by
  induction n with
  | zero => exact ⟨Ex.refl _ _ _, rfl⟩
  | succ n ih =>
    obtain ⟨e, f⟩ := ih (by omega) (by omega)
    obtain ⟨g, m, r, c⟩ := suG_good h hx hy n (by omega) (by omega)
    have hl := (suG_len B x y G n).2
    rw [suG_succ]
    have wx := hx.at n (by omega)
    have wy := hy.at n (by omega)
    obtain ⟨e2, o, ho, hv⟩ := suS_val (f := n == 0) g hV hb (m.wr wx) (m.wr wy) (fun e => c (by cases n with | zero => cases e | succ n => omega))
    rw [e.2 _ wx, e.2 _ wy] at hv
    refine ⟨e.trans e2, ?_⟩
    rw [if_neg (by omega), nv, nv, nv, ho, nv_app _ _ _ _ _ (by omega), gsnE _ _ _ hl.symm, nv_ex e2 r n (by omega), Int.pow_succ]
    generalize nv (suG B x y G n).1 V (suG B x y G n).2.1 n = N at *
    generalize vl (suS B (x.getD n 0) (y.getD n 0) (n == 0) (suG B x y G n)).1 V o = vo at *
    generalize vl (suS B (x.getD n 0) (y.getD n 0) (n == 0) (suG B x y G n)).1 V (suS B (x.getD n 0) (y.getD n 0) (n == 0) (suG B x y G n)).2.2 = vc at *
    generalize vl (suG B x y G n).1 V (suG B x y G n).2.2 = c0 at *
    generalize vl G V (x.getD n 0) = xv at *
    generalize vl G V (y.getD n 0) = yv at *
    by_cases h0 : n = 0
    · subst h0
      simp only [if_true, beq_self_eq_true] at f hv
      simp only [Int.pow_zero] at f ⊢
      omega
    · rw [if_neg h0] at f
      rw [if_neg (by simpa using h0)] at hv
      generalize (2 : Int) ^ n = T at *
      grind
theorem mod_pow_succ (p : Int) (n : Nat) : p % 2 ^ (n + 1) = p % 2 ^ n + p / 2 ^ n % 2 * 2 ^ n := by
  have hT : (0 : Int) < 2 ^ n := Int.pow_pos (by decide)
  rw [Int.pow_succ]
  generalize (2 : Int) ^ n = T at *
  have h1 := Int.emod_nonneg p (show T ≠ 0 by omega)
  have h2 := Int.emod_lt_of_pos p hT
  have h3 := Int.mul_ediv_add_emod p T
  have h4 := Int.mul_ediv_add_emod (p / T) 2
  generalize p % T = r at *
  generalize p / T = q at *
  have h6 : q % 2 = 0 ∨ q % 2 = 1 := by omega
  generalize q % 2 = b at *
  generalize q / 2 = d at *
  have h5 : p = (r + b * T) + T * 2 * d := by rw [← h3, ← h4]; grind
  rw [h5, Int.add_mul_emod_self_left]
  rcases h6 with rfl | rfl
  · exact Int.emod_eq_of_lt (by omega) (by omega)
  · exact Int.emod_eq_of_lt (by omega) (by omega)
theorem coL_val {B p : Int} {V G : List Int} (h : Gd B G) (hV : (V.length : Int) = B) (z : Int) (h0 : vl G V z = 0) (h1 : vl G V (z - 1) = 1) (m : Nat) : ∀ n, n ≤ m → nv G V (coL z p m) n = p % 2 ^ n
  | 0, _ => by simp [nv]
  | n + 1, hn => by
    rw [nv, coL_val h hV z h0 h1 m n (by omega)]
    have e : (coL z p m).getD n 0 = z - p / 2 ^ n % 2 := by simp [coL, List.getD, show n < m by omega]
    rw [e]
    have e2 : vl G V (z - p / 2 ^ n % 2) = p / 2 ^ n % 2 := by
      rcases Int.emod_two_eq (p / 2 ^ n) with k | k <;> rw [k]
      · rw [Int.sub_zero]; exact h0
      · exact h1
    rw [e2]
    exact (mod_pow_succ p n).symm
theorem nv_of {G G' V r r' : List Int} : ∀ n, (∀ k, k < n → vl G' V (r'.getD k 0) = vl G V (r.getD k 0)) → nv G' V r' n = nv G V r n
  | 0, _ => rfl
  | n + 1, h => by rw [nv, nv, nv_of n (fun k hk => h k (by omega)), h n (by omega)]
theorem nv_in {V : List Int} {f m : Nat} {a : Int} (h : ∀ k, k < m → V.getD (f + k) 0 = a / 2 ^ k % 2) : ∀ n, n ≤ m → nv [] V (spL f m) n = a % 2 ^ n
  | 0, _ => by simp [nv]
  | n + 1, hn => by
    rw [nv, nv_in h n (by omega), spL_at _ _ _ (by omega)]
    have e : vl [] V ((f : Int) + (n : Int)) = a / 2 ^ n % 2 := by
      rw [← h n (by omega)]
      show V.getD ((f : Int) + (n : Int)).toNat 0 = _
      congr 1
    rw [e]
    exact (mod_pow_succ a n).symm
theorem low_bits {G V r : List Int} (hb : Bt V) (n : Nat) (h : nv G V r (n + 1) < 2 ^ n) : nv G V r n = nv G V r (n + 1) := by
  have h2 := nv_rng (G := G) hb r n
  rw [nv] at h ⊢
  rcases vl_bit hb G (r.getD n 0) with e | e <;> rw [e] at h ⊢ <;> omega
theorem wid_pow {p : Int} (h1 : 2 ≤ p) (h2 : p ≤ 256) : 1 ≤ wid p ∧ p ≤ 2 ^ wid p := by
  rcases wid_cases p with h | h | h | h | h | h | h | h | h
  all_goals
    first | omega | (rw [h.2.2]; omega) | (rw [h.2]; omega)
theorem re_val {p : Int} (h : isPr p = true) {V : List Int} (hV : (V.length : Int) = (wid p : Nat) + (wid p : Nat)) (hb : Bt V) (hx : nv [] V (spL 0 (wid p)) (wid p) < p) (hy : nv [] V (spL (wid p : Nat) (wid p)) (wid p) < p) :
    nv (reG p) V (reO p) (wid p) = (nv [] V (spL 0 (wid p)) (wid p) + nv [] V (spL (wid p : Nat) (wid p)) (wid p)) % p := by
  obtain ⟨p1, p2⟩ := isPr_range h
  obtain ⟨hn1, hp⟩ := wid_pow p1 (by omega)
  unfold reG reO
  generalize wid p = n at *
  have hB : (0 : Int) ≤ (n : Int) + n := by omega
  have w1 := spL_ws (B := (n : Int) + n) (G := []) n (Int.le_refl 0) (by omega)
  have w2 := spL_ws (B := (n : Int) + n) (f := n) (G := []) n (by omega) (by omega)
  have l1 : n ≤ (spL 0 n).length := by rw [spL_len]; exact Nat.le_refl _
  have l2 : n ≤ (spL (n : Nat) n).length := by rw [spL_len]; exact Nat.le_refl _
  have la := adG_len ((n : Int) + n) (spL 0 n) (spL n n) [] n
  obtain ⟨ga, ma, wa, ca⟩ := adG_good (Gd.nil hB) w1 w2 n l1 l2
  obtain ⟨ea, va⟩ := adG_val (Gd.nil hB) hV hb w1 w2 n l1 l2
  rw [if_neg (by omega)] at va
  have x0 := (nv_rng (G := []) hb (spL 0 n) n).1
  have y0 := (nv_rng (G := []) hb (spL n n) n).1
  generalize nv [] V (spL 0 n) n = X at *
  generalize nv [] V (spL n n) n = Y at *
  have e1 : re1 n = adG ((n : Int) + n) (spL 0 n) (spL n n) [] n := rfl
  rw [← e1] at la ga ma wa ca ea va
  clear e1
  generalize re1 n = r at *
  replace ca := ca (by omega)
  have g2 := ga.one
  obtain ⟨x2, n2, v2⟩ := gt_step ga hV 3 0 0
  rw [ev_one] at v2
  have g3 := g2.not n2
  obtain ⟨x3, n3, v3⟩ := gt_step g2 hV 2 (gW ((n : Int) + n) r.1) 0
  rw [ev_not, v2] at v3
  have v2' := x3.2 _ n2
  rw [v2] at v2'
  have wS := (ma.trans (x2.trans x3).1).ws (Ws.nil _ _)
  have ws0 : Ws ((n : Int) + n) r.1 (r.2.1 ++ [r.2.2]) := wa.app (Ws.one ca)
  have ws := (x2.trans x3).1.ws ws0
  have lS : (r.2.1 ++ [r.2.2]).length = n + 1 := by rw [List.length_append]; simp; omega
  have vS : nv (gt (gt r.1 3 0 0) 2 (gW ((n : Int) + n) r.1) 0) V (r.2.1 ++ [r.2.2]) (n + 1) = X + Y := by
    rw [nv_ex (x2.trans x3) ws0 (n + 1) (by omega), nv, nv_app _ _ _ _ _ (by omega), gsnE _ _ _ la.2.symm]
    exact va
  have hz : gW ((n : Int) + n) (gt r.1 3 0 0) - 1 = gW ((n : Int) + n) r.1 := by rw [gW_gt]; omega
  have wc : Ws ((n : Int) + n) (gt (gt r.1 3 0 0) 2 (gW ((n : Int) + n) r.1) 0) (coL (gW ((n : Int) + n) (gt r.1 3 0 0)) p (n + 1)) := coL_ws (n + 1) n3 (by rw [hz]; exact x3.1.wr n2)
  have vc := coL_val (p := p) g3 hV (gW ((n : Int) + n) (gt r.1 3 0 0)) v3 (by rw [hz]; exact v2') (n + 1) (n + 1) (Nat.le_refl _)
  have hp2 : p % 2 ^ (n + 1) = p := Int.emod_eq_of_lt (by omega) (by rw [Int.pow_succ]; omega)
  rw [hp2] at vc
  have lc : n + 1 ≤ (coL (gW ((n : Int) + n) (gt r.1 3 0 0)) p (n + 1)).length := by rw [coL_len]; exact Nat.le_refl _
  have ls := suG_len ((n : Int) + n) (r.2.1 ++ [r.2.2]) (coL (gW ((n : Int) + n) (gt r.1 3 0 0)) p (n + 1)) (gt (gt r.1 3 0 0) 2 (gW ((n : Int) + n) r.1) 0) (n + 1)
  obtain ⟨gs, ms, wd, cd⟩ := suG_good g3 ws wc (n + 1) (by omega) lc
  obtain ⟨es, vs⟩ := suG_val g3 hV hb ws wc (n + 1) (by omega) lc
  rw [if_neg (by omega), vS, vc] at vs
  have e3 : re3 n p r = suG ((n : Int) + n) (r.2.1 ++ [r.2.2]) (coL (gW ((n : Int) + n) (gt r.1 3 0 0)) p (n + 1)) (gt (gt r.1 3 0 0) 2 (gW ((n : Int) + n) r.1) 0) (n + 1) := rfl
  rw [← e3] at ls gs ms wd cd es vs
  clear e3
  generalize re3 n p r = q at *
  replace cd := cd (by omega)
  have vS2 := nv_ex es ws (n + 1) (by omega)
  rw [vS] at vS2
  have wsq := es.1.ws ws
  obtain ⟨ez, vz⟩ := chG_val gs hV hb cd wsq wd n (by omega) (by omega)
  have e4 : re4 n r q = chG ((n : Int) + n) q.2.2 (r.2.1 ++ [r.2.2]) q.2.1 q.1 n := rfl
  rw [← e4] at vz
  have r1 := nv_rng (G := q.1) hb q.2.1 (n + 1)
  rw [Int.pow_succ] at r1 vs
  rcases vl_bit hb q.1 q.2.2 with hb0 | hb1
  · rw [hb0] at vs vz
    rw [nv_of (G := q.1) (r := q.2.1) n (fun k hk => by rw [vz k hk, if_neg (by decide)]), low_bits hb n (by omega)]
    rw [show nv q.1 V q.2.1 (n + 1) = X + Y - p by omega]
    rw [← Int.sub_emod_right]
    exact (Int.emod_eq_of_lt (by omega) (by omega)).symm
  · rw [hb1] at vs vz
    rw [nv_of (G := q.1) (r := r.2.1 ++ [r.2.2]) n (fun k hk => by rw [vz k hk, if_pos rfl]), low_bits hb n (by omega), vS2]
    exact (Int.emod_eq_of_lt (by omega) (by omega)).symm
end Go.Proofs.YtchmakepglaijaaGreat
namespace Go.Proofs.YtchmakepglaijaaGreat
open Go.RowKit
theorem btL_bt (n : Int) (k : Nat) : Bt (btL n k) := fun x hx => by have := btL_rng n k x hx; omega
theorem btL_at (n : Int) (k i : Nat) (h : i < k) : (btL n k).getD i 0 = n / 2 ^ i % 2 := by simp [btL, List.getD, h]
theorem pkL_at (F O : List Int) (k i : Nat) (h : i < k) : (pkL F O k).getD i 0 = F.getD (O.getD i 0).toNat 0 := by simp [pkL, List.getD, h]
theorem vb_pk {r : SbT} {G V : List Int} (h : ShV r (evL G V (G.length / 3))) (O : List Int) (n : Nat) : ∀ k, k ≤ n → vb (pkL r.1 O n) (pkL r.2.1 O n) k = nv G V O k
  | 0, _ => rfl
  | k + 1, hk => by
    rw [vb, nv, vb_pk h O n k (by omega), pkL_at _ _ _ _ (by omega), pkL_at _ _ _ _ (by omega), h]
    rfl
theorem re_run {p x y : Int} (h : isPr p = true) (hx : 0 ≤ x ∧ x ≤ p - 1) (hy : 0 ≤ y ∧ y ≤ p - 1) : nv (reG p) (btL x (wid p) ++ btL y (wid p)) (reO p) (wid p) = (x + y) % p := by
  obtain ⟨p1, p2⟩ := isPr_range h
  obtain ⟨_, hw⟩ := wid_pow p1 (by omega)
  have ex : nv [] (btL x (wid p) ++ btL y (wid p)) (spL 0 (wid p)) (wid p) = x := by
    have := nv_in (V := btL x (wid p) ++ btL y (wid p)) (f := 0) (m := wid p) (a := x) (fun k hk => by rw [Nat.zero_add, gapp _ _ _ (by rw [btL_len]; exact hk), btL_at _ _ _ hk]) (wid p) (Nat.le_refl _)
    rw [Int.emod_eq_of_lt (by omega) (by omega)] at this
    exact this
  have ey : nv [] (btL x (wid p) ++ btL y (wid p)) (spL (wid p : Nat) (wid p)) (wid p) = y := by
    have := nv_in (V := btL x (wid p) ++ btL y (wid p)) (f := wid p) (m := wid p) (a := y) (fun k hk => by rw [gappR _ _ _ (by rw [btL_len]; omega), btL_len, Nat.add_sub_cancel_left, btL_at _ _ _ hk]) (wid p) (Nat.le_refl _)
    rw [Int.emod_eq_of_lt (by omega) (by omega)] at this
    exact this
  have := re_val (V := btL x (wid p) ++ btL y (wid p)) h (by rw [List.length_append, btL_len, btL_len]; omega) ((btL_bt _ _).app (btL_bt _ _)) (by rw [ex]; omega) (by rw [ey]; omega)
  rw [ex, ey] at this
  exact this
theorem st_law {p key : Int} {l : List Int} (h : stB p key l = true) : ∃ x y, l = [x, y] ∧ (0 ≤ x ∧ x ≤ p - 1) ∧ (0 ≤ y ∧ y ≤ p - 1) ∧ (2 ≤ p ∧ p ≤ 251) ∧ isPr p = true ∧ (stL1 p key l).length = wid p ∧ (stL2 p key l).length = wid p ∧ Bt' (stL1 p key l) ∧ Bt' (stL2 p key l) ∧ vb (stL1 p key l) (stL2 p key l) (wid p) = (x + y) % p := by
  have e1 : stL1 p key l = _ := if_pos h
  have e2 : stL2 p key l = _ := if_pos h
  rw [e1, e2]
  unfold stB at h
  rw [Bool.and_eq_true] at h
  obtain ⟨x, y, rfl, hx, hy, hp⟩ := pairB_true h.1
  have ok : SbOk (wid p + wid p) (siF key (btL x (wid p)) (wid p) (wid p), siS key (btL y (wid p)) (wid p) (wid p), 0) := ⟨siF_len _ _ _ _, siS_len _ _ _ _, siF_bits (btL_bt _ _) _ _, siS_bits (btL_bt _ _) _ _⟩
  have hs := sb_val key (reG p) (V := btL x (wid p) ++ btL y (wid p)) ok (by rw [List.length_append, btL_len, btL_len]) (si_val key (btL_bt _ _) (btL_bt _ _) (btL_len _ _) (btL_len _ _)) ((reG p).length / 3)
  have hk := (sbR_ok key (reG p) ok ((reG p).length / 3)).1
  refine ⟨x, y, rfl, hx, hy, isPr_range hp, hp, pkL_len _ _ _, pkL_len _ _ _, (pkL_bits hk.bf _ _).at, (pkL_bits hk.bs _ _).at, ?_⟩
  have hv := vb_pk hs (reO p) (wid p) (wid p) (Nat.le_refl _)
  rw [re_run hp hx hy] at hv
  exact hv
end Go.Proofs.YtchmakepglaijaaGreat
