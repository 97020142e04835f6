/- Further lemmas and walks that the claim's proof rests on, part 2. -/
import Derived.Test.YtkbhigdciokfkaaK1
import Derived.Test.YtkbhigdciokfkaaK2
import Derived.Test.YtkbhigdciokfkaaK3
import Derived.Test.YtkbhigdciokfkaaK4
import Derived.Test.YtkbhigdciokfkaaK5
import Derived.Test.YtkbhigdciokfkaaK6
import Derived.Test.YtkbhigdciokfkaaM1
namespace Go.Proofs.Ytkbhigdciokfkaa
open Go.RowKit
set_option maxHeartbeats 8000000 in
set_option maxRecDepth 100000 in
theorem meRun_0_no (wd i : Int) (n : Nat) (a : Option Addr) (c : Nat) (l : List Int) (ma : Option Addr) (mn mc : Nat) (w : World) (h : Ints w a n c l) (hm : memB n wd = false) :
    Calls Try.prog 77 #[.int .i64 0, .int .i64 wd, .slice a n c, .int .i64 i, .slice ma mn mc] w fun e w' => e = .returned (.tuple #[.slice none 0 0, .bool false]) ∧ Below w.heap.size w w' := by
  have hn := h.le
  have HM := Lib.hid hm
  clear hm
  go_enter Try.func77, Try.ntmps77
  go_wp2_with fail
  refine (meIf_0 n wd _).mono ?_; rintro e w1 ⟨ga, gn, gc, oa, on, oc, rfl, og, ro, dd, u1⟩
  rw [HM.out]
  clear og ro dd
  go_wp2
  go_ret2
  exact ⟨rfl, u1.alloc u1.size _⟩
set_option maxHeartbeats 8000000 in
set_option maxRecDepth 100000 in
theorem meRun_0_yes (wd n : Nat) (a : Option Addr) (c : Nat) (l : List Int) (i : Int) (ma : Option Addr) (mn mc : Nat) (mo : List Int) (w : World) (h : Ints w a n c l) (hmo : Ints w ma mn mc mo) (hm : memB n wd = true) (hl : ∀ x ∈ l, 0 ≤ x ∧ x ≤ 1000000000) (hi : 0 ≤ i ∧ i ≤ 1000000000) (hml : mn = meMore 0 wd) (hmb : Bt mo) :
    Calls Try.prog 77 #[.int .i64 0, .int .i64 wd, .slice a n c, .int .i64 i, .slice ma mn mc] w fun e w' => ∃ a1 c1, e = .returned (.tuple #[.slice a1 (meN 0 n) c1, .bool true]) ∧ Own w' w.heap.size a1 (meN 0 n) c1 (mrR 0 n wd l i mo) ∧ Below w.heap.size w w' := by
  obtain ⟨⟨n1, n8⟩, ⟨w1', w4'⟩, _⟩ := memB_true hm
  have hn := h.le
  have hw3 := wid8 n (by omega)
  have hNI := mrNI_le 0 n wd (by omega) (by omega)
  have hGA := Lib.hid (mr_gates 0 n wd hm)
  have hOU := Lib.hid (mr_outs 0 n wd hm)
  have hGL : mG 0 n wd = (meG 0 n wd).1 := by unfold mG; rw [if_pos hm]; rfl
  have hOL : mO 0 n wd = (meG 0 n wd).2 := by unfold mO; rw [if_pos hm]; rfl
  have hON := meO_len 0 n wd (by omega) (by omega)
  have hG3 := (m_len 0 n wd).1
  rw [hGL] at hG3
  have hQ := Lib.hid (show n * wd + (wid (n : Int) + mn) = mrNI 0 n wd by unfold mrNI; rw [hml])
  have hnw : n * wd ≤ 8 * 4 := Nat.mul_le_mul (by omega) (by omega)
  have hM8 : meN 0 n ≤ 8 := by unfold meN; split <;> omega
  have hdiv : (((meN 0 n * wd : Nat) : Int)).tdiv (wd : Int) = ((meN 0 n : Nat) : Int) := by rw [Int.natCast_mul, Int.mul_tdiv_cancel _ (by omega)]
  have HR := Lib.hid (show mrR 0 n wd l i mo = cnL (pkL (evL (meG 0 n wd).1 (cbL l wd n ++ (btL i (wid n) ++ mo)) ((meG 0 n wd).1.length / 3)) (meG 0 n wd).2 (meN 0 n * wd)) wd (meN 0 n) from rfl)
  have HBV := Lib.hid (mrV_bits n wd l i mo hmb)
  have HBO := Lib.hid (mrO_bits 0 n wd l i mo hmb)
  unfold mrV at HBV
  unfold mrO mrV at HBO
  have HM := Lib.hid hm
  have HML := Lib.hid (show mn ≤ 4 by rw [hml]; unfold meMore; split <;> omega)
  clear hm hml
  obtain ⟨V, hV⟩ : ∃ V, V = wid (n : Int) := ⟨_, rfl⟩
  rw [← hV] at hw3 HR HBV HBO hQ
  have HV := Lib.hid hV
  clear hV
  obtain ⟨m, hmN⟩ : ∃ m, m = meN 0 n := ⟨_, rfl⟩
  rw [← hmN] at hON hM8 hdiv HR HBO ⊢
  have HMN := Lib.hid hmN
  clear hmN
  obtain ⟨mw, hmw⟩ : ∃ mw, mw = m * wd := ⟨_, rfl⟩
  rw [← hmw] at hON hdiv HR HBO
  have HMW := Lib.hid hmw
  have hmw32 : mw ≤ 32 := by rw [hmw]; exact Nat.mul_le_mul hM8 (show wd ≤ 4 by omega)
  clear hmw
  have hdz : ((wd : Int) == 0) = false := by simp; omega
  have hdz2 : ¬ (wd : Int) = 0 := by omega
  have z1 : ((wd : Int) = 0) = False := by simp; omega
  have z2 : (wd = 0) = False := by simp; omega
  have hwr : IntKind.i64.wrap (m : Int) = (m : Int) := IntWalk.i64_in _ (by omega)
  have hwd1 : 1 ≤ wd := by omega
  have hwd4 : wd ≤ 4 := by omega
  go_enter Try.func77, Try.ntmps77
  go_wp2_with fail
  refine (meIf_0 n wd _).mono ?_; rintro e w1 ⟨ga, gn, gc, oa, on, oc, rfl, og, ro, dd, u1⟩
  rw [HM.out]
  rw [hGL] at og
  rw [hOL] at ro
  clear dd hGL hOL
  generalize mS0 n wd = s0 at *
  generalize mS1 0 n wd = s1 at *
  generalize (meG 0 n wd).1 = G at *
  generalize (meG 0 n wd).2 = O at *
  have hon : on = mw := by have := ro.len; omega
  subst hon
  have hgn : gn = G.length / 3 := by have := og.len; omega
  have HGN := Lib.hid hgn
  have V2 := u1.alloc u1.size (.cells #[.int .i64 s0, .int .i64 s1, .slice ga gn gc, .slice oa on oc] 25)
  have R2 : Blk (w1.alloc (.cells #[.int .i64 s0, .int .i64 s1, .slice ga gn gc, .slice oa on oc] 25)) w1.heap.size 25 #[.int .i64 s0, .int .i64 s1, .slice ga gn gc, .slice oa on oc] := Blk.new w1 _ _
  have og2 := og.flat.below ((Below.refl w1.heap.size w1).alloc (Nat.le_refl _) (.cells #[.int .i64 s0, .int .i64 s1, .slice ga gn gc, .slice oa on oc] 25))
  have ro2 := ro.ints.below ((Below.refl w1.heap.size w1).alloc (Nat.le_refl _) (.cells #[.int .i64 s0, .int .i64 s1, .slice ga gn gc, .slice oa on oc] 25))
  have hz2 : w.heap.size ≤ w1.heap.size := u1.size
  have hz3 : w1.heap.size < (w1.alloc (.cells #[.int .i64 s0, .int .i64 s1, .slice ga gn gc, .slice oa on oc] 25)).heap.size := by simp
  clear og ro u1 hgn
  go_wp2_with fail
  generalize (w1.alloc (.cells #[.int .i64 s0, .int .i64 s1, .slice ga gn gc, .slice oa on oc] 25)) = w2 at *
  refine (meWidths_any wd n _ (by omega)).mono ?_; rintro e w4 ⟨a4, c4, rfl, o4, u4⟩
  have V4 := V2.trans (u4.mono V2.size)
  go_wp2_with fail
  refine (coBits_any wd n a4 c4 a n c l _ o4.ints (h.below V4) (by omega) (Nat.le_refl _) (by omega) hl).mono ?_; rintro e w5 ⟨a5, c5, rfl, o5, u5⟩
  have V5 := V4.trans (u5.mono V4.size)
  go_wp2_with fail
  refine (meIndex_any n _ n1 (by omega)).mono ?_; rintro e w' ⟨rfl, rfl⟩
  rw [← HV.out]
  go_wp2_with fail
  refine (btOf_any i V _ hi (by omega)).mono ?_; rintro e w6 ⟨a6, c6, rfl, o6, u6⟩
  have V6 := V5.trans (u6.mono V5.size)
  go_wp2_with fail
  refine (ciJoin_any a6 V c6 _ ma mn mc mo _ o6.ints (hmo.below V6) (by omega) (by have := HML.out; omega)).mono ?_; rintro e w7 ⟨a7, c7, rfl, o7, u7⟩
  have V7 := V6.trans (u7.mono V6.size)
  go_wp2_with fail
  refine (ciJoin_any a5 (n * wd) c5 _ a7 (V + mn) c7 _ _ (o5.ints.below (u6.trans (u7.mono u6.size))) o7.ints (by omega) (by have := HML.out; omega)).mono ?_; rintro e w8 ⟨a8, c8, rfl, o8, u8⟩
  have V8 := V7.trans (u8.mono V7.size)
  rw [hQ.out] at o8 ⊢
  have U8 : Below w2.heap.size w2 w8 := u4.trans ((u5.trans ((u6.trans ((u7.trans (u8.mono u7.size)).mono u6.size)).mono u5.size)).mono u4.size)
  have R8 := R2.below U8
  have og8 := og2.below U8
  have ro8 := ro2.below U8
  have iv8 := o8.ints
  have x0 : w8.cell? ⟨w1.heap.size, 0, none⟩ = some (.int .i64 s0) := R8.cell 0
  have x1 : w8.cell? ⟨w1.heap.size, 1, none⟩ = some (.int .i64 s1) := R8.cell 1
  have x2 : w8.cell? ⟨w1.heap.size, 2, none⟩ = some (.slice ga gn gc) := R8.cell 2
  have x3 : w8.cell? ⟨w1.heap.size, 3, none⟩ = some (.slice oa on oc) := R8.cell 3
  clear R2 R8 U8 u4 u5 u6 u7 u8 o4 o5 o6 o7 o8 V2 V4 V5 V6 V7 og2 ro2 h hmo
  generalize mrNI 0 n wd = NI at *
  go_wp2_with fail
  go_region_held3 (fun W => W.cell? ⟨w1.heap.size, 0, none⟩ = some (.int .i64 s0) ∧ W.cell? ⟨w1.heap.size, 1, none⟩ = some (.int .i64 s1) ∧ W.cell? ⟨w1.heap.size, 2, none⟩ = some (.slice ga gn gc) ∧ W.cell? ⟨w1.heap.size, 3, none⟩ = some (.slice oa on oc))
    (first | exact ⟨keepC u11 (keepC u10 (keepC u9 x0)), keepC u11 (keepC u10 (keepC u9 x1)), keepC u11 (keepC u10 (keepC u9 x2)), keepC u11 (keepC u10 (keepC u9 x3))⟩ | exact ⟨keepC u11 (keepC u9 (keepC u10 x0)), keepC u11 (keepC u9 (keepC u10 x1)), keepC u11 (keepC u9 (keepC u10 x2)), keepC u11 (keepC u9 (keepC u10 x3))⟩ | exact ⟨keepC u10 (keepC u9 x0), keepC u10 (keepC u9 x1), keepC u10 (keepC u9 x2), keepC u10 (keepC u9 x3)⟩ | exact ⟨keepC u9 (keepC u10 x0), keepC u9 (keepC u10 x1), keepC u9 (keepC u10 x2), keepC u9 (keepC u10 x3)⟩ | exact ⟨keepC u10 x0, keepC u10 x1, keepC u10 x2, keepC u10 x3⟩ | exact ⟨keepC u9 x0, keepC u9 x1, keepC u9 x2, keepC u9 x3⟩ | go_keep)
    (first | (go_at_call 117; refine (meWidths_any wd m _ (by omega)).mono ?_; rintro e w9 ⟨a9, c9, rfl, o9, u9⟩) | (go_at_call 119; have _ := u9; refine (ciOuts_any s0 s1 ga gn gc oa on oc a8 NI c8 G _ O _ (og8.drew.below u9) (iv8.drew.below u9) (ro8.drew.below u9) (by rw [HGN.out]; exact hGA.out) HBV.out (by omega) (by have := HGN.out; omega) (by omega) (by rw [HGN.out]; exact hOU.out)).mono ?_; rintro e w10 ⟨a10, c10, rfl, o10, u10⟩) | (go_at_call 119; refine (ciOuts_any s0 s1 ga gn gc oa on oc a8 NI c8 G _ O _ og8.drew iv8.drew ro8.drew (by rw [HGN.out]; exact hGA.out) HBV.out (by omega) (by have := HGN.out; omega) (by omega) (by rw [HGN.out]; exact hOU.out)).mono ?_; rintro e w10 ⟨a10, c10, rfl, o10, u10⟩) | (go_at_call 118; refine (coNumbers_any wd m a9 c9 a10 on c10 _ _ (o9.ints.below u10) (o10.ints) (by omega) HMW.out hwd4 (by rw [HGN.out]; exact HBO.out)).mono ?_; rintro e w11 ⟨a11, c11, rfl, o11, u11⟩) | (go_at_call 118; refine (coNumbers_any wd m a9 c9 a10 on c10 _ _ (o9.ints) (o10.ints.below u9) (by omega) HMW.out hwd4 (by rw [HGN.out]; exact HBO.out)).mono ?_; rintro e w11 ⟨a11, c11, rfl, o11, u11⟩))
  all_goals
    rw [HGN.out, ← HR.out] at o11
    first
      | (have U := (Below.refl w8.heap.size w8).drew.trans (u9.trans ((u10.trans (u11.mono u10.size)).mono u9.size)); have Z := Nat.le_trans u9.size u10.size)
      | (have U := (Below.refl w8.heap.size w8).drew.trans (u10.trans ((u9.trans (u11.mono u9.size)).mono u10.size)); have Z := Nat.le_trans u10.size u9.size)
    have VF := V8.trans (U.mono V8.size)
    have oF := o11.lower (b' := w.heap.size) (Nat.le_trans V8.size Z)
    clear u9 u10 u11 o9 o10 o11 U Z V8
    go_wp2
    go_ret2
    exact ⟨_, _, rfl, oF, VF⟩
set_option maxHeartbeats 8000000 in
set_option maxRecDepth 100000 in
theorem meRun_1_no (wd i : Int) (n : Nat) (a : Option Addr) (c : Nat) (l : List Int) (ma : Option Addr) (mn mc : Nat) (w : World) (h : Ints w a n c l) (hm : memB n wd = false) :
    Calls Try.prog 77 #[.int .i64 1, .int .i64 wd, .slice a n c, .int .i64 i, .slice ma mn mc] w fun e w' => e = .returned (.tuple #[.slice none 0 0, .bool false]) ∧ Below w.heap.size w w' := by
  have hn := h.le
  have HM := Lib.hid hm
  clear hm
  go_enter Try.func77, Try.ntmps77
  go_wp2_with fail
  refine (meIf_1 n wd _).mono ?_; rintro e w1 ⟨ga, gn, gc, oa, on, oc, rfl, og, ro, dd, u1⟩
  rw [HM.out]
  clear og ro dd
  go_wp2
  go_ret2
  exact ⟨rfl, u1.alloc u1.size _⟩
set_option maxHeartbeats 8000000 in
set_option maxRecDepth 100000 in
theorem meRun_1_yes (wd n : Nat) (a : Option Addr) (c : Nat) (l : List Int) (i : Int) (ma : Option Addr) (mn mc : Nat) (mo : List Int) (w : World) (h : Ints w a n c l) (hmo : Ints w ma mn mc mo) (hm : memB n wd = true) (hl : ∀ x ∈ l, 0 ≤ x ∧ x ≤ 1000000000) (hi : 0 ≤ i ∧ i ≤ 1000000000) (hml : mn = meMore 1 wd) (hmb : Bt mo) :
    Calls Try.prog 77 #[.int .i64 1, .int .i64 wd, .slice a n c, .int .i64 i, .slice ma mn mc] w fun e w' => ∃ a1 c1, e = .returned (.tuple #[.slice a1 (meN 1 n) c1, .bool true]) ∧ Own w' w.heap.size a1 (meN 1 n) c1 (mrR 1 n wd l i mo) ∧ Below w.heap.size w w' := by
  obtain ⟨⟨n1, n8⟩, ⟨w1', w4'⟩, _⟩ := memB_true hm
  have hn := h.le
  have hw3 := wid8 n (by omega)
  have hNI := mrNI_le 1 n wd (by omega) (by omega)
  have hGA := Lib.hid (mr_gates 1 n wd hm)
  have hOU := Lib.hid (mr_outs 1 n wd hm)
  have hGL : mG 1 n wd = (meG 1 n wd).1 := by unfold mG; rw [if_pos hm]; rfl
  have hOL : mO 1 n wd = (meG 1 n wd).2 := by unfold mO; rw [if_pos hm]; rfl
  have hON := meO_len 1 n wd (by omega) (by omega)
  have hG3 := (m_len 1 n wd).1
  rw [hGL] at hG3
  have hQ := Lib.hid (show n * wd + (wid (n : Int) + mn) = mrNI 1 n wd by unfold mrNI; rw [hml])
  have hnw : n * wd ≤ 8 * 4 := Nat.mul_le_mul (by omega) (by omega)
  have hM8 : meN 1 n ≤ 8 := by unfold meN; split <;> omega
  have hdiv : (((meN 1 n * wd : Nat) : Int)).tdiv (wd : Int) = ((meN 1 n : Nat) : Int) := by rw [Int.natCast_mul, Int.mul_tdiv_cancel _ (by omega)]
  have HR := Lib.hid (show mrR 1 n wd l i mo = cnL (pkL (evL (meG 1 n wd).1 (cbL l wd n ++ (btL i (wid n) ++ mo)) ((meG 1 n wd).1.length / 3)) (meG 1 n wd).2 (meN 1 n * wd)) wd (meN 1 n) from rfl)
  have HBV := Lib.hid (mrV_bits n wd l i mo hmb)
  have HBO := Lib.hid (mrO_bits 1 n wd l i mo hmb)
  unfold mrV at HBV
  unfold mrO mrV at HBO
  have HM := Lib.hid hm
  have HML := Lib.hid (show mn ≤ 4 by rw [hml]; unfold meMore; split <;> omega)
  clear hm hml
  obtain ⟨V, hV⟩ : ∃ V, V = wid (n : Int) := ⟨_, rfl⟩
  rw [← hV] at hw3 HR HBV HBO hQ
  have HV := Lib.hid hV
  clear hV
  obtain ⟨m, hmN⟩ : ∃ m, m = meN 1 n := ⟨_, rfl⟩
  rw [← hmN] at hON hM8 hdiv HR HBO ⊢
  have HMN := Lib.hid hmN
  clear hmN
  obtain ⟨mw, hmw⟩ : ∃ mw, mw = m * wd := ⟨_, rfl⟩
  rw [← hmw] at hON hdiv HR HBO
  have HMW := Lib.hid hmw
  have hmw32 : mw ≤ 32 := by rw [hmw]; exact Nat.mul_le_mul hM8 (show wd ≤ 4 by omega)
  clear hmw
  have hdz : ((wd : Int) == 0) = false := by simp; omega
  have hdz2 : ¬ (wd : Int) = 0 := by omega
  have z1 : ((wd : Int) = 0) = False := by simp; omega
  have z2 : (wd = 0) = False := by simp; omega
  have hwr : IntKind.i64.wrap (m : Int) = (m : Int) := IntWalk.i64_in _ (by omega)
  have hwd1 : 1 ≤ wd := by omega
  have hwd4 : wd ≤ 4 := by omega
  go_enter Try.func77, Try.ntmps77
  go_wp2_with fail
  refine (meIf_1 n wd _).mono ?_; rintro e w1 ⟨ga, gn, gc, oa, on, oc, rfl, og, ro, dd, u1⟩
  rw [HM.out]
  rw [hGL] at og
  rw [hOL] at ro
  clear dd hGL hOL
  generalize mS0 n wd = s0 at *
  generalize mS1 1 n wd = s1 at *
  generalize (meG 1 n wd).1 = G at *
  generalize (meG 1 n wd).2 = O at *
  have hon : on = mw := by have := ro.len; omega
  subst hon
  have hgn : gn = G.length / 3 := by have := og.len; omega
  have HGN := Lib.hid hgn
  have V2 := u1.alloc u1.size (.cells #[.int .i64 s0, .int .i64 s1, .slice ga gn gc, .slice oa on oc] 25)
  have R2 : Blk (w1.alloc (.cells #[.int .i64 s0, .int .i64 s1, .slice ga gn gc, .slice oa on oc] 25)) w1.heap.size 25 #[.int .i64 s0, .int .i64 s1, .slice ga gn gc, .slice oa on oc] := Blk.new w1 _ _
  have og2 := og.flat.below ((Below.refl w1.heap.size w1).alloc (Nat.le_refl _) (.cells #[.int .i64 s0, .int .i64 s1, .slice ga gn gc, .slice oa on oc] 25))
  have ro2 := ro.ints.below ((Below.refl w1.heap.size w1).alloc (Nat.le_refl _) (.cells #[.int .i64 s0, .int .i64 s1, .slice ga gn gc, .slice oa on oc] 25))
  have hz2 : w.heap.size ≤ w1.heap.size := u1.size
  have hz3 : w1.heap.size < (w1.alloc (.cells #[.int .i64 s0, .int .i64 s1, .slice ga gn gc, .slice oa on oc] 25)).heap.size := by simp
  clear og ro u1 hgn
  go_wp2_with fail
  generalize (w1.alloc (.cells #[.int .i64 s0, .int .i64 s1, .slice ga gn gc, .slice oa on oc] 25)) = w2 at *
  refine (meWidths_any wd n _ (by omega)).mono ?_; rintro e w4 ⟨a4, c4, rfl, o4, u4⟩
  have V4 := V2.trans (u4.mono V2.size)
  go_wp2_with fail
  refine (coBits_any wd n a4 c4 a n c l _ o4.ints (h.below V4) (by omega) (Nat.le_refl _) (by omega) hl).mono ?_; rintro e w5 ⟨a5, c5, rfl, o5, u5⟩
  have V5 := V4.trans (u5.mono V4.size)
  go_wp2_with fail
  refine (meIndex_any n _ n1 (by omega)).mono ?_; rintro e w' ⟨rfl, rfl⟩
  rw [← HV.out]
  go_wp2_with fail
  refine (btOf_any i V _ hi (by omega)).mono ?_; rintro e w6 ⟨a6, c6, rfl, o6, u6⟩
  have V6 := V5.trans (u6.mono V5.size)
  go_wp2_with fail
  refine (ciJoin_any a6 V c6 _ ma mn mc mo _ o6.ints (hmo.below V6) (by omega) (by have := HML.out; omega)).mono ?_; rintro e w7 ⟨a7, c7, rfl, o7, u7⟩
  have V7 := V6.trans (u7.mono V6.size)
  go_wp2_with fail
  refine (ciJoin_any a5 (n * wd) c5 _ a7 (V + mn) c7 _ _ (o5.ints.below (u6.trans (u7.mono u6.size))) o7.ints (by omega) (by have := HML.out; omega)).mono ?_; rintro e w8 ⟨a8, c8, rfl, o8, u8⟩
  have V8 := V7.trans (u8.mono V7.size)
  rw [hQ.out] at o8 ⊢
  have U8 : Below w2.heap.size w2 w8 := u4.trans ((u5.trans ((u6.trans ((u7.trans (u8.mono u7.size)).mono u6.size)).mono u5.size)).mono u4.size)
  have R8 := R2.below U8
  have og8 := og2.below U8
  have ro8 := ro2.below U8
  have iv8 := o8.ints
  have x0 : w8.cell? ⟨w1.heap.size, 0, none⟩ = some (.int .i64 s0) := R8.cell 0
  have x1 : w8.cell? ⟨w1.heap.size, 1, none⟩ = some (.int .i64 s1) := R8.cell 1
  have x2 : w8.cell? ⟨w1.heap.size, 2, none⟩ = some (.slice ga gn gc) := R8.cell 2
  have x3 : w8.cell? ⟨w1.heap.size, 3, none⟩ = some (.slice oa on oc) := R8.cell 3
  clear R2 R8 U8 u4 u5 u6 u7 u8 o4 o5 o6 o7 o8 V2 V4 V5 V6 V7 og2 ro2 h hmo
  generalize mrNI 1 n wd = NI at *
  go_wp2_with fail
  go_region_held3 (fun W => W.cell? ⟨w1.heap.size, 0, none⟩ = some (.int .i64 s0) ∧ W.cell? ⟨w1.heap.size, 1, none⟩ = some (.int .i64 s1) ∧ W.cell? ⟨w1.heap.size, 2, none⟩ = some (.slice ga gn gc) ∧ W.cell? ⟨w1.heap.size, 3, none⟩ = some (.slice oa on oc))
    (first | exact ⟨keepC u11 (keepC u10 (keepC u9 x0)), keepC u11 (keepC u10 (keepC u9 x1)), keepC u11 (keepC u10 (keepC u9 x2)), keepC u11 (keepC u10 (keepC u9 x3))⟩ | exact ⟨keepC u11 (keepC u9 (keepC u10 x0)), keepC u11 (keepC u9 (keepC u10 x1)), keepC u11 (keepC u9 (keepC u10 x2)), keepC u11 (keepC u9 (keepC u10 x3))⟩ | exact ⟨keepC u10 (keepC u9 x0), keepC u10 (keepC u9 x1), keepC u10 (keepC u9 x2), keepC u10 (keepC u9 x3)⟩ | exact ⟨keepC u9 (keepC u10 x0), keepC u9 (keepC u10 x1), keepC u9 (keepC u10 x2), keepC u9 (keepC u10 x3)⟩ | exact ⟨keepC u10 x0, keepC u10 x1, keepC u10 x2, keepC u10 x3⟩ | exact ⟨keepC u9 x0, keepC u9 x1, keepC u9 x2, keepC u9 x3⟩ | go_keep)
    (first | (go_at_call 117; refine (meWidths_any wd m _ (by omega)).mono ?_; rintro e w9 ⟨a9, c9, rfl, o9, u9⟩) | (go_at_call 119; have _ := u9; refine (ciOuts_any s0 s1 ga gn gc oa on oc a8 NI c8 G _ O _ (og8.drew.below u9) (iv8.drew.below u9) (ro8.drew.below u9) (by rw [HGN.out]; exact hGA.out) HBV.out (by omega) (by have := HGN.out; omega) (by omega) (by rw [HGN.out]; exact hOU.out)).mono ?_; rintro e w10 ⟨a10, c10, rfl, o10, u10⟩) | (go_at_call 119; refine (ciOuts_any s0 s1 ga gn gc oa on oc a8 NI c8 G _ O _ og8.drew iv8.drew ro8.drew (by rw [HGN.out]; exact hGA.out) HBV.out (by omega) (by have := HGN.out; omega) (by omega) (by rw [HGN.out]; exact hOU.out)).mono ?_; rintro e w10 ⟨a10, c10, rfl, o10, u10⟩) | (go_at_call 118; refine (coNumbers_any wd m a9 c9 a10 on c10 _ _ (o9.ints.below u10) (o10.ints) (by omega) HMW.out hwd4 (by rw [HGN.out]; exact HBO.out)).mono ?_; rintro e w11 ⟨a11, c11, rfl, o11, u11⟩) | (go_at_call 118; refine (coNumbers_any wd m a9 c9 a10 on c10 _ _ (o9.ints) (o10.ints.below u9) (by omega) HMW.out hwd4 (by rw [HGN.out]; exact HBO.out)).mono ?_; rintro e w11 ⟨a11, c11, rfl, o11, u11⟩))
  all_goals
    rw [HGN.out, ← HR.out] at o11
    first
      | (have U := (Below.refl w8.heap.size w8).drew.trans (u9.trans ((u10.trans (u11.mono u10.size)).mono u9.size)); have Z := Nat.le_trans u9.size u10.size)
      | (have U := (Below.refl w8.heap.size w8).drew.trans (u10.trans ((u9.trans (u11.mono u9.size)).mono u10.size)); have Z := Nat.le_trans u10.size u9.size)
    have VF := V8.trans (U.mono V8.size)
    have oF := o11.lower (b' := w.heap.size) (Nat.le_trans V8.size Z)
    clear u9 u10 u11 o9 o10 o11 U Z V8
    go_wp2
    go_ret2
    exact ⟨_, _, rfl, oF, VF⟩
end Go.Proofs.Ytkbhigdciokfkaa
namespace Go.Proofs.Ytkbhigdciokfkaa
open Go.RowKit
set_option maxHeartbeats 8000000 in
set_option maxRecDepth 100000 in
theorem spec_ReadCell_0_any (wd : Int) (a : Option Addr) (n c : Nat) (l : List Int) (i : Int) (w : World) (h : Ints w a n c l) :
    Calls Try.prog 38 #[.bool false, .int .i64 wd, .slice a n c, .int .i64 i] w fun e w' => e = .returned (.tuple #[.int .i64 (rcV 0 wd l i), .bool (celB wd l i)]) ∧ Below w.heap.size w w' := by
  have hlen := h.len
  have hle := h.le
  have hme := celB_me wd l i
  cases hc : meCB wd l i
  · have HC := Lib.hid hc
    have hb : celB wd l i = false := by rw [hme, hc]; rfl
    have e1 : rcV 0 wd l i = 0 := by unfold rcV; rw [hb]; rfl
    rw [e1, hb]
    clear e1 hb
    clear hc hme hlen
    go_enter Try.func38, Try.ntmps38
    go_wp2_with fail
    refine (meCells_any wd a n c l i _ h).mono ?_; rintro e w1 ⟨rfl, V1⟩; rw [HC.out]
    go_wp2
    go_ret2
    exact ⟨rfl, V1⟩
  · have hc2 := hc
    unfold meCB at hc2
    rw [Bool.and_eq_true, Bool.and_eq_true] at hc2
    obtain ⟨⟨hn8, hw4⟩, hT⟩ := hc2
    replace hn8 := of_decide_eq_true hn8
    replace hw4 := of_decide_eq_true hw4
    obtain ⟨wd, rfl⟩ : ∃ k : Nat, wd = k := ⟨wd.toNat, by omega⟩
    obtain ⟨hl, hi⟩ := celT_true (wd := wd) (by omega) (by omega) hT
    have hwd4 : wd ≤ 4 := by omega
    have hwd1 : 1 ≤ wd := by omega
    have HC := Lib.hid hc
    rw [hc, Bool.true_and] at hme
    have HT := Lib.hid hT
    have HL := Lib.hid hl
    have HI := Lib.hid hi
    clear hT hl hi hc
    cases hm : memB l.length wd
    · rw [hm] at hme
      have hb : celB (wd : Int) l i = false := hme
      have e1 : rcV 0 wd l i = 0 := by unfold rcV; rw [hb]; rfl
      rw [e1, hb]
      clear e1 hb
      rw [← hlen] at hm
      have HM := Lib.hid hm
      clear hm hme hlen
      go_enter Try.func38, Try.ntmps38
      go_wp2_with fail
      refine (meCells_any wd a n c l i _ h).mono ?_; rintro e w1 ⟨rfl, V1⟩; rw [HC.out]
      go_wp2_with fail
      refine (meRun_0_no _ i n a c l none 0 0 _ (h.below V1) HM.out).mono ?_; rintro e w5 ⟨rfl, u5⟩
      have VF := V1.trans (u5.mono V1.size)
      clear u5 V1
      go_wp2
      go_ret2
      exact ⟨rfl, VF⟩
    · rw [hm] at hme
      have hb : celB (wd : Int) l i = true := hme
      have e1 : rcV 0 wd l i = (mrR 0 n wd l i []).getD 0 0 := by unfold rcV; rw [hb, if_pos rfl, hlen]; rfl
      rw [e1, hb]
      rw [← hlen] at hm
      have HM := Lib.hid hm
      have hM8 : 1 ≤ meN 0 n := by unfold meN; split <;> omega
      clear e1 hb hm hme
      obtain ⟨RS, hRS⟩ : ∃ r, r = mrR 0 n wd l i [] := ⟨_, rfl⟩
      rw [← hRS]
      have HR := Lib.hid hRS
      clear hRS
      obtain ⟨res, hres⟩ : ∃ r, r = RS.getD 0 0 := ⟨_, rfl⟩
      rw [← hres]
      have HRES := Lib.hid hres
      clear hres
      clear hlen
      go_enter Try.func38, Try.ntmps38
      go_wp2_with fail
      refine (meCells_any wd a n c l i _ h).mono ?_; rintro e w1 ⟨rfl, V1⟩; rw [HC.out]
      go_wp2_with fail
      refine (meRun_0_yes wd n a c l i none 0 0 [] _ (h.below V1) (Ints.nil0 _) HM.out HL.out HI.out rfl Bt.nil).mono ?_; rintro e w5 ⟨a5, c5, rfl, o5, u5⟩
      have VF := V1.trans (u5.mono V1.size)
      have oF := o5.lower (b' := w.heap.size) V1.size
      rw [← HR.out] at oF
      obtain ⟨m, hm⟩ : ∃ m, m = meN 0 n := ⟨_, rfl⟩
      rw [← hm] at oF hM8 ⊢
      clear hm
      have hM0 : (0 : Int) < (m : Int) := by omega
      obtain ⟨g5, p5, rfl, cx⟩ := oF.ints.at 0 (by omega)
      rw [Nat.add_zero, ← HRES.out] at cx
      clear u5 o5 V1 oF
      go_wp2
      go_ret2
      exact ⟨rfl, VF⟩
set_option maxHeartbeats 8000000 in
set_option maxRecDepth 100000 in
theorem spec_ReadCell_1_any (wd : Int) (a : Option Addr) (n c : Nat) (l : List Int) (i : Int) (w : World) (h : Ints w a n c l) :
    Calls Try.prog 38 #[.bool true, .int .i64 wd, .slice a n c, .int .i64 i] w fun e w' => e = .returned (.tuple #[.int .i64 (rcV 1 wd l i), .bool (celB wd l i)]) ∧ Below w.heap.size w w' := by
  have hlen := h.len
  have hle := h.le
  have hme := celB_me wd l i
  cases hc : meCB wd l i
  · have HC := Lib.hid hc
    have hb : celB wd l i = false := by rw [hme, hc]; rfl
    have e1 : rcV 1 wd l i = 0 := by unfold rcV; rw [hb]; rfl
    rw [e1, hb]
    clear e1 hb
    clear hc hme hlen
    go_enter Try.func38, Try.ntmps38
    go_wp2_with fail
    refine (meCells_any wd a n c l i _ h).mono ?_; rintro e w1 ⟨rfl, V1⟩; rw [HC.out]
    go_wp2
    go_ret2
    exact ⟨rfl, V1⟩
  · have hc2 := hc
    unfold meCB at hc2
    rw [Bool.and_eq_true, Bool.and_eq_true] at hc2
    obtain ⟨⟨hn8, hw4⟩, hT⟩ := hc2
    replace hn8 := of_decide_eq_true hn8
    replace hw4 := of_decide_eq_true hw4
    obtain ⟨wd, rfl⟩ : ∃ k : Nat, wd = k := ⟨wd.toNat, by omega⟩
    obtain ⟨hl, hi⟩ := celT_true (wd := wd) (by omega) (by omega) hT
    have hwd4 : wd ≤ 4 := by omega
    have hwd1 : 1 ≤ wd := by omega
    have HC := Lib.hid hc
    rw [hc, Bool.true_and] at hme
    have HT := Lib.hid hT
    have HL := Lib.hid hl
    have HI := Lib.hid hi
    clear hT hl hi hc
    cases hm : memB l.length wd
    · rw [hm] at hme
      have hb : celB (wd : Int) l i = false := hme
      have e1 : rcV 1 wd l i = 0 := by unfold rcV; rw [hb]; rfl
      rw [e1, hb]
      clear e1 hb
      rw [← hlen] at hm
      have HM := Lib.hid hm
      clear hm hme hlen
      go_enter Try.func38, Try.ntmps38
      go_wp2_with fail
      refine (meCells_any wd a n c l i _ h).mono ?_; rintro e w1 ⟨rfl, V1⟩; rw [HC.out]
      go_wp2_with fail
      refine (meRun_1_no _ i n a c l none 0 0 _ (h.below V1) HM.out).mono ?_; rintro e w5 ⟨rfl, u5⟩
      have VF := V1.trans (u5.mono V1.size)
      clear u5 V1
      go_wp2
      go_ret2
      exact ⟨rfl, VF⟩
    · rw [hm] at hme
      have hb : celB (wd : Int) l i = true := hme
      have e1 : rcV 1 wd l i = (mrR 1 n wd l i []).getD 0 0 := by unfold rcV; rw [hb, if_pos rfl, hlen]; rfl
      rw [e1, hb]
      rw [← hlen] at hm
      have HM := Lib.hid hm
      have hM8 : 1 ≤ meN 1 n := by unfold meN; split <;> omega
      clear e1 hb hm hme
      obtain ⟨RS, hRS⟩ : ∃ r, r = mrR 1 n wd l i [] := ⟨_, rfl⟩
      rw [← hRS]
      have HR := Lib.hid hRS
      clear hRS
      obtain ⟨res, hres⟩ : ∃ r, r = RS.getD 0 0 := ⟨_, rfl⟩
      rw [← hres]
      have HRES := Lib.hid hres
      clear hres
      clear hlen
      go_enter Try.func38, Try.ntmps38
      go_wp2_with fail
      refine (meCells_any wd a n c l i _ h).mono ?_; rintro e w1 ⟨rfl, V1⟩; rw [HC.out]
      go_wp2_with fail
      refine (meRun_1_yes wd n a c l i none 0 0 [] _ (h.below V1) (Ints.nil0 _) HM.out HL.out HI.out rfl Bt.nil).mono ?_; rintro e w5 ⟨a5, c5, rfl, o5, u5⟩
      have VF := V1.trans (u5.mono V1.size)
      have oF := o5.lower (b' := w.heap.size) V1.size
      rw [← HR.out] at oF
      obtain ⟨m, hm⟩ : ∃ m, m = meN 1 n := ⟨_, rfl⟩
      rw [← hm] at oF hM8 ⊢
      clear hm
      have hM0 : (0 : Int) < (m : Int) := by omega
      obtain ⟨g5, p5, rfl, cx⟩ := oF.ints.at 0 (by omega)
      rw [Nat.add_zero, ← HRES.out] at cx
      clear u5 o5 V1 oF
      go_wp2
      go_ret2
      exact ⟨rfl, VF⟩
end Go.Proofs.Ytkbhigdciokfkaa
namespace Go.Proofs.Ytkbhigdciokfkaa
open Go.RowKit
theorem ReadCell_any (t : Bool) (wd : Int) (a : Option Addr) (n c : Nat) (l : List Int) (i : Int) (w : World) (h : Ints w a n c l) :
    Calls Try.prog 39 #[.bool t, .int .i64 wd, .slice a n c, .int .i64 i] w fun e w' => e = .returned (.tuple #[.int .i64 (rcV (trK t) wd l i), .bool (celB wd l i)]) ∧ Below w.heap.size w w' := by
  cases t
  · exact ReadCell_0_any wd a n c l i w h
  · exact ReadCell_1_any wd a n c l i w h
theorem spec_ReadCell_any (t : Bool) (wd : Int) (a : Option Addr) (n c : Nat) (l : List Int) (i : Int) (w : World) (h : Ints w a n c l) :
    Calls Try.prog 38 #[.bool t, .int .i64 wd, .slice a n c, .int .i64 i] w fun e w' => e = .returned (.tuple #[.int .i64 (rcV (trK t) wd l i), .bool (celB wd l i)]) ∧ Below w.heap.size w w' := by
  cases t
  · exact spec_ReadCell_0_any wd a n c l i w h
  · exact spec_ReadCell_1_any wd a n c l i w h
set_option maxHeartbeats 2000000 in
set_option maxRecDepth 100000 in
theorem FnExactReadCell_walk (a0 : Bool) (a1 : Int) (a2 : Option Addr) (n2 c2 : Nat) (l2 : List Int) (a3 : Int) (w : World) (_w1 : -9223372036854775808 ≤ a1 ∧ a1 ≤ 9223372036854775807) (z2 : Ints w a2 n2 c2 l2) (_wf2 : Wf l2) (_w3 : -9223372036854775808 ≤ a3 ∧ a3 ≤ 9223372036854775807) :
    Calls Try.prog 12 #[.bool a0, .int .i64 a1, .slice a2 n2 c2, .int .i64 a3] w fun e w' => e = .returned (.bool true) ∧ Below w.heap.size w w' := by
  by_cases hs2 : n2 ≤ 1048576
  · skip
    go_enter Try.func12, Try.ntmps12
    go_wp2_with fail
    refine (toIntS_any _ _ _ l2 _ z2 hs2).mono ?_
    rintro e w1' ⟨y_a2, y_c2, rfl, y2, u1⟩
    replace z2 := z2.below u1
    have V1 := u1
    clear u1
    go_wp2_with fail
    refine (spec_ReadCell_any _ _ _ _ _ l2 _ _ y2.ints).mono ?_
    rintro e w2' ⟨rfl, u2⟩
    replace z2 := z2.below u2
    replace y2 := y2.below u2
    have V2 : Below w.heap.size w w2' := V1.trans (u2.mono V1.size)
    clear V1
    clear u2
    clear y2
    go_wp2_with fail
    refine (toIntS_any _ _ _ l2 _ z2 hs2).mono ?_
    rintro e w3' ⟨x_a2, x_c2, rfl, x2, u3⟩
    replace z2 := z2.below u3
    have V3 : Below w.heap.size w w3' := V2.trans (u3.mono V2.size)
    clear V2
    clear u3
    go_wp2_with fail
    refine (ReadCell_any _ _ _ _ _ l2 _ _ x2.ints).mono ?_
    rintro e w4' ⟨rfl, u4⟩
    replace z2 := z2.below u4
    replace x2 := x2.below u4
    have V4 : Below w.heap.size w w4' := V3.trans (u4.mono V3.size)
    clear V3
    clear u4
    go_wp2_with fail
    refine (toIntS_any _ _ _ l2 _ z2 hs2).mono ?_
    rintro e w5' ⟨t_a2, t_c2, rfl, t2, u5⟩
    replace z2 := z2.below u5
    replace x2 := x2.below u5
    have V5 : Below w.heap.size w w5' := V4.trans (u5.mono V4.size)
    clear V4
    clear u5
    go_wp2_with fail
    refine (eqIntS_same _ _ _ _ _ _ l2 _ x2.ints t2.ints).mono ?_
    rintro e w6' ⟨rfl, q6⟩
    have u6 := below_of_quiet q6
    clear q6
    replace z2 := z2.below u6
    replace x2 := x2.below u6
    replace t2 := t2.below u6
    have V6 : Below w.heap.size w w6' := V5.trans (u6.mono V5.size)
    clear V5
    clear u6
    clear t2
    go_wp2
    go_ret
    exact ⟨rfl, V6⟩
  · go_enter Try.func12, Try.ntmps12
    go_wp2
    go_ret
    exact ⟨rfl, Below.refl _ _⟩
end Go.Proofs.Ytkbhigdciokfkaa
