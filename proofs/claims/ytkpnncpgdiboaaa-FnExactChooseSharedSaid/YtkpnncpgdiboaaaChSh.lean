/- A pair of one of two sums. -/
import Derived.Test.YtkpnncpgdiboaaaTimes
import Derived.Test.YtkpnncpgdiboaaaBits
namespace Go.Proofs.Ytkpnncpgdiboaaa
open Go.RowKit

def csB (p key : Int) (b x y : List Int) : Bool := pairB p x && pairB p y && inB key 0 1000000000 && bpairB b
def csT (p key b0 b1 x0 x1 y0 y1 : Int) : List Int := timesL p key 0 (sh0 p key 0 (xorI b0 b1)) (sh1 p key 0 (xorI b0 b1)) ((x0 - y0) % p) ((x1 - y1) % p)
def csR (p key b0 b1 x0 x1 y0 y1 : Int) : List Int := [(y0 + (csT p key b0 b1 x0 x1 y0 y1).getD 0 0) % p, (y1 + (csT p key b0 b1 x0 x1 y0 y1).getD 1 0) % p]
def csL (p key : Int) (b x y : List Int) : List Int := if csB p key b x y then csR p key (b.getD 0 0) (b.getD 1 0) (x.getD 0 0) (x.getD 1 0) (y.getD 0 0) (y.getD 1 0) else []
theorem csL_len (p key : Int) (b x y : List Int) : (csL p key b x y).length ≤ 1000000 := by unfold csL; split <;> simp [csR]
theorem shareI_rng (p party s0 s1 s2 d e : Int) (h : 1 ≤ p) : 0 ≤ shareI p party s0 s1 s2 d e ∧ shareI p party s0 s1 s2 d e ≤ p - 1 := mod_rng _ _ h
theorem timesL_two (p key i x0 x1 y0 y1 : Int) (h : 1 ≤ p) : ∃ T0 T1, timesL p key i x0 x1 y0 y1 = [T0, T1] ∧ (0 ≤ T0 ∧ T0 ≤ p - 1) ∧ (0 ≤ T1 ∧ T1 ≤ p - 1) :=
  ⟨_, _, rfl, shareI_rng _ _ _ _ _ _ _ h, shareI_rng _ _ _ _ _ _ _ h⟩
set_option maxHeartbeats 4000000 in
set_option maxRecDepth 100000 in
theorem ChooseShared_any (p key : Int) (a0 : Option Addr) (n0 c0 : Nat) (b : List Int) (a1 : Option Addr) (n1 c1 : Nat) (x : List Int) (a2 : Option Addr) (n2 c2 : Nat) (y : List Int) (w : World) (hb : Ints w a0 n0 c0 b) (hx : Ints w a1 n1 c1 x) (hy : Ints w a2 n2 c2 y) :
    Calls Try.prog 44 #[.int .i64 p, .int .i64 key, .slice a0 n0 c0, .slice a1 n1 c1, .slice a2 n2 c2] w fun e w' => ∃ a n c, e = .returned (.tuple #[.slice a n c, .bool (csB p key b x y)]) ∧ Own w' w.heap.size a n c (csL p key b x y) ∧ Below w.heap.size w w' := by
  unfold csL csB
  cases h1 : pairB p x
  · simp only [Bool.false_and, Bool.false_eq_true, if_false]
    go_enter Try.func44, Try.ntmps44
    go_wp2_with fail
    refine (isPair_any _ _ _ _ x _ hx).mono ?_; rintro e w2 ⟨rfl, u2⟩
    rw [h1]
    go_wp2
    go_ret2
    exact ⟨_, _, _, rfl, Own.nil0 _ _ _, u2⟩
  cases h2 : pairB p y
  · simp only [Bool.false_and, Bool.and_false, Bool.false_eq_true, if_false]
    go_enter Try.func44, Try.ntmps44
    go_wp2_with fail
    refine (isPair_any _ _ _ _ x _ hx).mono ?_; rintro e w2 ⟨rfl, u2⟩
    rw [h1]
    go_wp2_with fail
    refine (isPair_any _ _ _ _ y _ (hy.below u2)).mono ?_; rintro e w3 ⟨rfl, u3⟩
    rw [h2]
    have v3 := u2.trans (u3.mono u2.size)
    go_wp2
    go_ret2
    exact ⟨_, _, _, rfl, Own.nil0 _ _ _, v3⟩
  cases h3 : inB key 0 1000000000
  · simp only [Bool.false_and, Bool.and_false, Bool.false_eq_true, if_false]
    go_enter Try.func44, Try.ntmps44
    go_wp2_with fail
    refine (isPair_any _ _ _ _ x _ hx).mono ?_; rintro e w2 ⟨rfl, u2⟩
    rw [h1]
    go_wp2_with fail
    refine (isPair_any _ _ _ _ y _ (hy.below u2)).mono ?_; rintro e w3 ⟨rfl, u3⟩
    rw [h2]
    have v3 := u2.trans (u3.mono u2.size)
    go_wp2_with (first | (go_at_call 50; refine (isKey_any _ _).mono ?_; rintro e w' ⟨rfl, rfl⟩))
    go_ret2
    exact ⟨_, _, _, rfl, Own.nil0 _ _ _, v3⟩
  cases h4 : bpairB b
  · simp only [Bool.and_false, Bool.false_eq_true, if_false]
    go_enter Try.func44, Try.ntmps44
    go_wp2_with fail
    refine (isPair_any _ _ _ _ x _ hx).mono ?_; rintro e w2 ⟨rfl, u2⟩
    rw [h1]
    go_wp2_with fail
    refine (isPair_any _ _ _ _ y _ (hy.below u2)).mono ?_; rintro e w3 ⟨rfl, u3⟩
    rw [h2]
    have v3 := u2.trans (u3.mono u2.size)
    go_wp2_with (first | (go_at_call 50; refine (isKey_any _ _).mono ?_; rintro e w' ⟨rfl, rfl⟩))
    refine (isBitPair_any _ _ _ b _ (hb.below v3)).mono ?_; rintro e w4 ⟨rfl, u⟩
    rw [h4]
    have v4 := v3.trans (u.mono v3.size)
    go_wp2
    go_ret2
    exact ⟨_, _, _, rfl, Own.nil0 _ _ _, v4⟩
  · simp only [Bool.and_self, if_true]
    obtain ⟨x0, x1, rfl, ⟨r0, r0'⟩, ⟨r1, r1'⟩, hp⟩ := pairB_true h1
    obtain ⟨y0, y1, rfl, ⟨s0, s0'⟩, ⟨s1, s1'⟩, _⟩ := pairB_true h2
    obtain ⟨b0, b1, rfl, hb0, hb1⟩ := bpairB_true h4
    obtain ⟨p1, p2⟩ := isPr_range hp
    obtain ⟨k1, k2⟩ := inB_true h3
    have hxb := xorI_bit hb0 hb1
    have x0' : bits BinOp.xor IntKind.i64 b0 b1 = xorI b0 b1 := rfl
    simp only [List.getD_cons_zero, List.getD_cons_succ]
    unfold csR csT
    obtain rfl : n0 = 2 := hb.len
    obtain rfl : n1 = 2 := hx.len
    obtain rfl : n2 = 2 := hy.len
    have HSL := Lib.hid (tsL_sh p key 0 (xorI b0 b1))
    have g0 := sh0_range p key 0 (xorI b0 b1) (by omega)
    have g1 := sh1_range p key 0 (xorI b0 b1) (by omega)
    generalize xorI b0 b1 = m at *
    generalize sh0 p key 0 m = S0 at *
    generalize sh1 p key 0 m = S1 at *
    have d0 := mod_rng (x0 - y0) p (by omega)
    have d1 := mod_rng (x1 - y1) p (by omega)
    have t1 : IntKind.i64.wrap (x0 - y0) = x0 - y0 := IntWalk.i64_in _ (by omega)
    have t2 : IntKind.i64.wrap (x1 - y1) = x1 - y1 := IntWalk.i64_in _ (by omega)
    generalize hD0 : (x0 - y0) % p = D0 at *
    generalize hD1 : (x1 - y1) % p = D1 at *
    obtain ⟨T0, T1, hT, ⟨G0, G0'⟩, ⟨G1, G1'⟩⟩ := timesL_two p key 0 S0 S1 D0 D1 (by omega)
    have HM := fun W (a : Option Addr) (c : Nat) (a' : Option Addr) (c' : Nat) hW hW' => multiplyPairs_any p key 0 a c S0 S1 a' c' D0 D1 W hW hW' (by omega) (by omega) k1 k2 (by omega) (by omega) (by omega) (by omega) (by omega) (by omega)
    rw [hT] at HM ⊢
    simp only [List.getD_cons_zero, List.getD_cons_succ]
    have t3 : IntKind.i64.wrap (y0 + T0) = y0 + T0 := IntWalk.i64_in _ (by omega)
    have t4 : IntKind.i64.wrap (y1 + T1) = y1 + T1 := IntWalk.i64_in _ (by omega)
    have HM' := Lib.hid HM
    have HD0 := Lib.hid hD0
    have HD1 := Lib.hid hD1
    clear HM hT hD0 hD1 g0 g1 d0 d1 hb0 hb1
    go_enter Try.func44, Try.ntmps44
    go_wp2_with fail
    refine (isPair_any _ _ _ _ [x0, x1] _ hx).mono ?_; rintro e w2 ⟨rfl, u2⟩
    rw [h1]
    go_wp2_with fail
    refine (isPair_any _ _ _ _ [y0, y1] _ (hy.below u2)).mono ?_; rintro e w3 ⟨rfl, u3⟩
    rw [h2]
    have v3 := u2.trans (u3.mono u2.size)
    clear u2 u3
    go_wp2_with (first | (go_at_call 50; refine (isKey_any _ _).mono ?_; rintro e w' ⟨rfl, rfl⟩))
    refine (isBitPair_any _ _ _ [b0, b1] _ (hb.below v3)).mono ?_; rintro e w4 ⟨rfl, u⟩
    rw [h4]
    have v4 := v3.trans (u.mono v3.size)
    clear u v3
    obtain ⟨gb, ob, rfl, hcb⟩ := (hb.below v4).cells (by omega)
    have eb0 : w4.cell? ⟨gb, ob, none⟩ = some (.int .i64 b0) := hcb 0 (by omega)
    have eb1 : w4.cell? ⟨gb, ob + 1, none⟩ = some (.int .i64 b1) := hcb 1 (by omega)
    clear hcb
    go_wp2
    go_region_held3 (fun W => W.cell? ⟨gb, ob, none⟩ = some (.int .i64 b0) ∧ W.cell? ⟨gb, ob + 1, none⟩ = some (.int .i64 b1))
      (first | go_keep | exact ⟨keepC u5 eb0, keepC u5 eb1⟩)
      (first | (go_at_call 75; refine (bitToSum_any _ _ _ _ _ (by omega) (by omega) k1 k2 (by omega) (by omega) hxb).mono ?_; rintro e w5 ⟨a5, c5, rfl, o5, u5⟩))
    rw [HSL.out] at o5
    have v5 := v4.drew.trans (u5.mono (by have := v4.size; simpa using this))
    clear u5 v4 eb0 eb1
    obtain ⟨gx, ox, rfl, hcx⟩ := (hx.below v5).cells (by omega)
    have ex0 : w5.cell? ⟨gx, ox, none⟩ = some (.int .i64 x0) := hcx 0 (by omega)
    have ex1 : w5.cell? ⟨gx, ox + 1, none⟩ = some (.int .i64 x1) := hcx 1 (by omega)
    obtain ⟨gy, oy, rfl, hcy⟩ := (hy.below v5).cells (by omega)
    have ey0 : w5.cell? ⟨gy, oy, none⟩ = some (.int .i64 y0) := hcy 0 (by omega)
    have ey1 : w5.cell? ⟨gy, oy + 1, none⟩ = some (.int .i64 y1) := hcy 1 (by omega)
    clear hcx hcy
    go_wp2
    have hlit := Ints.lit2 w5 D0 D1 3
    go_region_held3 (fun W => W.cell? ⟨gx, ox, none⟩ = some (.int .i64 x0) ∧ W.cell? ⟨gx, ox + 1, none⟩ = some (.int .i64 x1) ∧ W.cell? ⟨gy, oy, none⟩ = some (.int .i64 y0) ∧ W.cell? ⟨gy, oy + 1, none⟩ = some (.int .i64 y1))
      (first | go_keep | exact ⟨keepC u6 (keepA _ ex0), keepC u6 (keepA _ ex1), keepC u6 (keepA _ ey0), keepC u6 (keepA _ ey1)⟩)
      (first | (go_at_call 83; refine (mod_same _ _ _ (by omega) (by omega)).mono ?_; rintro e w' ⟨rfl, rfl⟩; (first | rw [HD0.out] | rw [HD1.out])) | (go_at_call 91; refine (HM'.out _ _ _ _ _ (o5.ints.alloc _).drew hlit.drew).mono ?_; rintro e w6 ⟨a6, c6, rfl, o6, u6⟩))
    have v6 := (v5.alloc v5.size (.cells #[.int .i64 D0, .int .i64 D1] 3)).drew.trans (u6.mono (by have := v5.size; simp; omega))
    obtain ⟨gt, ot, rfl, hct⟩ := o6.ints.cells (by omega)
    have et0 : w6.cell? ⟨gt, ot, none⟩ = some (.int .i64 T0) := hct 0 (by omega)
    have et1 : w6.cell? ⟨gt, ot + 1, none⟩ = some (.int .i64 T1) := hct 1 (by omega)
    have fy0 := keepC u6 (keepA (.cells #[.int .i64 D0, .int .i64 D1] 3) ey0 : (w5.alloc _).drew.cell? _ = _)
    have fy1 := keepC u6 (keepA (.cells #[.int .i64 D0, .int .i64 D1] 3) ey1 : (w5.alloc _).drew.cell? _ = _)
    clear hct u6 o6 o5 ex0 ex1 ey0 ey1 hlit v5
    go_wp2
    go_region_held3 (fun W => W.cell? ⟨gt, ot, none⟩ = some (.int .i64 T0) ∧ W.cell? ⟨gt, ot + 1, none⟩ = some (.int .i64 T1) ∧ W.cell? ⟨gy, oy, none⟩ = some (.int .i64 y0) ∧ W.cell? ⟨gy, oy + 1, none⟩ = some (.int .i64 y1))
      (go_keep)
      (first | (go_at_call 83; refine (mod_same _ _ _ (by omega) (by omega)).mono ?_; rintro e w' ⟨rfl, rfl⟩))
    all_goals go_wp2
    all_goals go_ret2
    all_goals exact ⟨_, _, _, rfl, (Own.lit2 _ _ _ _ v6.size).drew, (v6.alloc v6.size _).drew⟩
set_option maxHeartbeats 4000000 in
set_option maxRecDepth 100000 in
theorem spec_ChooseShared_any (p key : Int) (a0 : Option Addr) (n0 c0 : Nat) (b : List Int) (a1 : Option Addr) (n1 c1 : Nat) (x : List Int) (a2 : Option Addr) (n2 c2 : Nat) (y : List Int) (w : World) (hb : Ints w a0 n0 c0 b) (hx : Ints w a1 n1 c1 x) (hy : Ints w a2 n2 c2 y) :
    Calls Try.prog 43 #[.int .i64 p, .int .i64 key, .slice a0 n0 c0, .slice a1 n1 c1, .slice a2 n2 c2] w fun e w' => ∃ a n c, e = .returned (.tuple #[.slice a n c, .bool (csB p key b x y)]) ∧ Own w' w.heap.size a n c (csL p key b x y) ∧ Below w.heap.size w w' := by
  unfold csL csB
  cases h1 : pairB p x
  · simp only [Bool.false_and, Bool.false_eq_true, if_false]
    go_enter Try.func43, Try.ntmps43
    go_wp2_with fail
    refine (trPair_any _ _ _ _ x _ hx).mono ?_; rintro e w2 ⟨rfl, u2⟩
    rw [h1]
    go_wp2
    go_ret2
    exact ⟨_, _, _, rfl, Own.nil0 _ _ _, u2⟩
  cases h2 : pairB p y
  · simp only [Bool.false_and, Bool.and_false, Bool.false_eq_true, if_false]
    go_enter Try.func43, Try.ntmps43
    go_wp2_with fail
    refine (trPair_any _ _ _ _ x _ hx).mono ?_; rintro e w2 ⟨rfl, u2⟩
    rw [h1]
    go_wp2_with fail
    refine (trPair_any _ _ _ _ y _ (hy.below u2)).mono ?_; rintro e w3 ⟨rfl, u3⟩
    rw [h2]
    have v3 := u2.trans (u3.mono u2.size)
    go_wp2
    go_ret2
    exact ⟨_, _, _, rfl, Own.nil0 _ _ _, v3⟩
  cases h3 : inB key 0 1000000000
  · simp only [Bool.false_and, Bool.and_false, Bool.false_eq_true, if_false]
    go_enter Try.func43, Try.ntmps43
    go_wp2_with fail
    refine (trPair_any _ _ _ _ x _ hx).mono ?_; rintro e w2 ⟨rfl, u2⟩
    rw [h1]
    go_wp2_with fail
    refine (trPair_any _ _ _ _ y _ (hy.below u2)).mono ?_; rintro e w3 ⟨rfl, u3⟩
    rw [h2]
    have v3 := u2.trans (u3.mono u2.size)
    go_wp2_with (first | (go_at_call 78; refine (otKey_any _ _).mono ?_; rintro e w' ⟨rfl, rfl⟩))
    go_ret2
    exact ⟨_, _, _, rfl, Own.nil0 _ _ _, v3⟩
  cases h4 : bpairB b
  · simp only [Bool.and_false, Bool.false_eq_true, if_false]
    go_enter Try.func43, Try.ntmps43
    go_wp2_with fail
    refine (trPair_any _ _ _ _ x _ hx).mono ?_; rintro e w2 ⟨rfl, u2⟩
    rw [h1]
    go_wp2_with fail
    refine (trPair_any _ _ _ _ y _ (hy.below u2)).mono ?_; rintro e w3 ⟨rfl, u3⟩
    rw [h2]
    have v3 := u2.trans (u3.mono u2.size)
    go_wp2_with (first | (go_at_call 78; refine (otKey_any _ _).mono ?_; rintro e w' ⟨rfl, rfl⟩))
    refine (cvBit_any _ _ _ b _ (hb.below v3)).mono ?_; rintro e w4 ⟨rfl, u⟩
    rw [h4]
    have v4 := v3.trans (u.mono v3.size)
    go_wp2
    go_ret2
    exact ⟨_, _, _, rfl, Own.nil0 _ _ _, v4⟩
  · simp only [Bool.and_self, if_true]
    obtain ⟨x0, x1, rfl, ⟨r0, r0'⟩, ⟨r1, r1'⟩, hp⟩ := pairB_true h1
    obtain ⟨y0, y1, rfl, ⟨s0, s0'⟩, ⟨s1, s1'⟩, _⟩ := pairB_true h2
    obtain ⟨b0, b1, rfl, hb0, hb1⟩ := bpairB_true h4
    obtain ⟨p1, p2⟩ := isPr_range hp
    obtain ⟨k1, k2⟩ := inB_true h3
    have hxb := xorI_bit hb0 hb1
    simp only [List.getD_cons_zero, List.getD_cons_succ]
    unfold csR csT
    obtain rfl : n0 = 2 := hb.len
    obtain rfl : n1 = 2 := hx.len
    obtain rfl : n2 = 2 := hy.len
    have HSL := Lib.hid (tsL_sh p key 0 (xorI b0 b1))
    have HCT := fun W hW => cvToSum_any p key 0 a0 c0 b0 b1 W (by omega) (by omega) k1 k2 (by omega) (by omega) hW hxb
    have HCT' := Lib.hid HCT
    have g0 := sh0_range p key 0 (xorI b0 b1) (by omega)
    have g1 := sh1_range p key 0 (xorI b0 b1) (by omega)
    generalize hS0 : sh0 p key 0 (xorI b0 b1) = S0 at *
    generalize hS1 : sh1 p key 0 (xorI b0 b1) = S1 at *
    have d0 := mod_rng (x0 - y0) p (by omega)
    have d1 := mod_rng (x1 - y1) p (by omega)
    have t1 : IntKind.i64.wrap (x0 - y0) = x0 - y0 := IntWalk.i64_in _ (by omega)
    have t2 : IntKind.i64.wrap (x1 - y1) = x1 - y1 := IntWalk.i64_in _ (by omega)
    generalize hD0 : (x0 - y0) % p = D0 at *
    generalize hD1 : (x1 - y1) % p = D1 at *
    obtain ⟨T0, T1, hT, ⟨G0, G0'⟩, ⟨G1, G1'⟩⟩ := timesL_two p key 0 S0 S1 D0 D1 (by omega)
    have HM := fun W (a : Option Addr) (c : Nat) (a' : Option Addr) (c' : Nat) hW hW' => trTimes_any p key 0 a c S0 S1 a' c' D0 D1 W hW hW' (by omega) (by omega) k1 k2 (by omega) (by omega) (by omega) (by omega) (by omega) (by omega)
    rw [hT] at HM ⊢
    simp only [List.getD_cons_zero, List.getD_cons_succ]
    have HM' := Lib.hid HM
    have HD0 := Lib.hid hD0
    have HD1 := Lib.hid hD1
    have HR1 : Hid (∀ z ∈ [y0, y1], 0 ≤ z ∧ z ≤ 1000000) := Lib.hid (by intro z hz; simp only [List.mem_cons, List.not_mem_nil, or_false] at hz; rcases hz with rfl | rfl <;> omega)
    have HR2 : Hid (∀ z ∈ [T0, T1], 0 ≤ z ∧ z ≤ 1000000) := Lib.hid (by intro z hz; simp only [List.mem_cons, List.not_mem_nil, or_false] at hz; rcases hz with rfl | rfl <;> omega)
    have HSU : Hid (sumK p [y0, y1] [T0, T1] 2 = [(y0 + T0) % p, (y1 + T1) % p]) := rfl
    clear HM hT hD0 hD1 g0 g1 d0 d1 hb0 hb1 HCT hS0 hS1
    go_enter Try.func43, Try.ntmps43
    go_wp2_with fail
    refine (trPair_any _ _ _ _ [x0, x1] _ hx).mono ?_; rintro e w2 ⟨rfl, u2⟩
    rw [h1]
    go_wp2_with fail
    refine (trPair_any _ _ _ _ [y0, y1] _ (hy.below u2)).mono ?_; rintro e w3 ⟨rfl, u3⟩
    rw [h2]
    have v3 := u2.trans (u3.mono u2.size)
    clear u2 u3
    go_wp2_with (first | (go_at_call 78; refine (otKey_any _ _).mono ?_; rintro e w' ⟨rfl, rfl⟩))
    refine (cvBit_any _ _ _ [b0, b1] _ (hb.below v3)).mono ?_; rintro e w4 ⟨rfl, u⟩
    rw [h4]
    have v4 := v3.trans (u.mono v3.size)
    clear u v3
    go_wp2_with fail
    refine (HCT'.out _ (hb.below v4)).mono ?_; rintro e w5 ⟨a5, c5, rfl, o5, u5⟩
    rw [HSL.out] at o5
    have v5 := v4.trans (u5.mono v4.size)
    clear u5 v4
    obtain ⟨gx, ox, rfl, hcx⟩ := (hx.below v5).cells (by omega)
    have ex0 : w5.cell? ⟨gx, ox, none⟩ = some (.int .i64 x0) := hcx 0 (by omega)
    have ex1 : w5.cell? ⟨gx, ox + 1, none⟩ = some (.int .i64 x1) := hcx 1 (by omega)
    obtain ⟨gy, oy, rfl, hcy⟩ := (hy.below v5).cells (by omega)
    have ey0 : w5.cell? ⟨gy, oy, none⟩ = some (.int .i64 y0) := hcy 0 (by omega)
    have ey1 : w5.cell? ⟨gy, oy + 1, none⟩ = some (.int .i64 y1) := hcy 1 (by omega)
    clear hcx hcy
    go_wp2
    go_region_held3 (fun W => W.cell? ⟨gx, ox, none⟩ = some (.int .i64 x0) ∧ W.cell? ⟨gx, ox + 1, none⟩ = some (.int .i64 x1) ∧ W.cell? ⟨gy, oy, none⟩ = some (.int .i64 y0) ∧ W.cell? ⟨gy, oy + 1, none⟩ = some (.int .i64 y1))
      (first | go_keep)
      (first | (go_at_call 89; refine (btMod_same _ _ _ (by omega) (by omega)).mono ?_; rintro e w' ⟨rfl, rfl⟩; (first | rw [HD0.out] | rw [HD1.out])))
    all_goals have hlit := Ints.lit2 w5 D0 D1 3
    all_goals have v6 := (v5.alloc v5.size (.cells #[.int .i64 D0, .int .i64 D1] 3)).drew
    all_goals have hS := (o5.ints.alloc (.cells #[.int .i64 D0, .int .i64 D1] 3)).drew
    all_goals clear ex0 ex1 ey0 ey1 v5
    all_goals go_wp2_with fail
    refine (HM'.out _ _ _ _ _ hS hlit.drew).mono ?_; rintro e w6 ⟨a6, c6, rfl, o6, u6⟩
    have v7 := v6.trans (u6.mono v6.size)
    go_wp2_with fail
    refine (trSum_any p _ 2 c2 [y0, y1] a6 2 c6 [T0, T1] _ (hy.below v7) o6.ints (by omega) (by omega) (by omega) (by omega) HR1.out HR2.out).mono ?_; rintro e w8 ⟨a8, c8, rfl, o8, u8⟩
    rw [HSU.out] at o8
    go_wp2
    go_ret2
    exact ⟨_, _, _, rfl, o8.lower v7.size, v7.trans (u8.mono v7.size)⟩
set_option maxHeartbeats 2000000 in
theorem FnExactChooseShared_walk (a0 : Int) (a1 : Int) (a2 : Option Addr) (n2 c2 : Nat) (l2 : List Int) (a3 : Option Addr) (n3 c3 : Nat) (l3 : List Int) (a4 : Option Addr) (n4 c4 : Nat) (l4 : List Int) (w : World) (_w0 : -9223372036854775808 ≤ a0 ∧ a0 ≤ 9223372036854775807) (_w1 : -9223372036854775808 ≤ a1 ∧ a1 ≤ 9223372036854775807) (z2 : Ints w a2 n2 c2 l2) (_wf2 : Wf l2) (z3 : Ints w a3 n3 c3 l3) (_wf3 : Wf l3) (z4 : Ints w a4 n4 c4 l4) (_wf4 : Wf l4) :
    Calls Try.prog 13 #[.int .i64 a0, .int .i64 a1, .slice a2 n2 c2, .slice a3 n3 c3, .slice a4 n4 c4] w fun e w' => e = .returned (.bool true) ∧ Below w.heap.size w w' := by
  by_cases hs2 : n2 ≤ 1048576
  · skip
    by_cases hs3 : n3 ≤ 1048576
    · skip
      by_cases hs4 : n4 ≤ 1048576
      · skip
        go_enter Try.func13, Try.ntmps13
        go_wp2_with fail
        refine (toIntS_any _ _ _ l2 _ z2 hs2).mono ?_
        rintro e w1' ⟨y_a2, y_c2, rfl, y2, u1⟩
        replace z2 := z2.below u1
        replace z3 := z3.below u1
        replace z4 := z4.below u1
        have V1 := u1
        clear u1
        go_wp2_with fail
        refine (toIntS_any _ _ _ l3 _ z3 hs3).mono ?_
        rintro e w2' ⟨y_a3, y_c3, rfl, y3, u2⟩
        replace z2 := z2.below u2
        replace z3 := z3.below u2
        replace z4 := z4.below u2
        replace y2 := y2.below u2
        have V2 : Below w.heap.size w w2' := V1.trans (u2.mono V1.size)
        clear V1
        clear u2
        go_wp2_with fail
        refine (toIntS_any _ _ _ l4 _ z4 hs4).mono ?_
        rintro e w3' ⟨y_a4, y_c4, rfl, y4, u3⟩
        replace z2 := z2.below u3
        replace z3 := z3.below u3
        replace z4 := z4.below u3
        replace y2 := y2.below u3
        replace y3 := y3.below u3
        have V3 : Below w.heap.size w w3' := V2.trans (u3.mono V2.size)
        clear V2
        clear u3
        go_wp2_with fail
        refine (spec_ChooseShared_any _ _ _ _ _ l2 _ _ _ l3 _ _ _ l4 _ y2.ints y3.ints y4.ints).mono ?_
        rintro e w4' ⟨r_a0, r_n0, r_c0, rfl, r0, u4⟩
        replace z2 := z2.below u4
        replace z3 := z3.below u4
        replace z4 := z4.below u4
        replace y2 := y2.below u4
        replace y3 := y3.below u4
        replace y4 := y4.below u4
        have V4 : Below w.heap.size w w4' := V3.trans (u4.mono V3.size)
        clear V3
        clear u4
        clear y2
        clear y3
        clear y4
        have VB_x2 := V4.size
        go_wp2_with fail
        refine (toIntS_any _ _ _ l2 _ z2 hs2).mono ?_
        rintro e w5' ⟨x_a2, x_c2, rfl, x2, u5⟩
        have Dz2_x2 := z2.apart x2 (Nat.le_refl _)
        have Dz3_x2 := z3.apart x2 (Nat.le_refl _)
        have Dz4_x2 := z4.apart x2 (Nat.le_refl _)
        have Dr0_x2 := r0.apart x2 (Nat.le_refl _)
        replace z2 := z2.below u5
        replace z3 := z3.below u5
        replace z4 := z4.below u5
        replace r0 := r0.below u5
        have V5 : Below w.heap.size w w5' := V4.trans (u5.mono V4.size)
        clear V4
        clear u5
        have VB_x3 := V5.size
        go_wp2_with fail
        refine (toIntS_any _ _ _ l3 _ z3 hs3).mono ?_
        rintro e w6' ⟨x_a3, x_c3, rfl, x3, u6⟩
        have Dz2_x3 := z2.apart x3 (Nat.le_refl _)
        have Dz3_x3 := z3.apart x3 (Nat.le_refl _)
        have Dz4_x3 := z4.apart x3 (Nat.le_refl _)
        have Dr0_x3 := r0.apart x3 (Nat.le_refl _)
        have Dx2_x3 := x2.apart x3 (Nat.le_refl _)
        replace z2 := z2.below u6
        replace z3 := z3.below u6
        replace z4 := z4.below u6
        replace r0 := r0.below u6
        replace x2 := x2.below u6
        have V6 : Below w.heap.size w w6' := V5.trans (u6.mono V5.size)
        clear V5
        clear u6
        have VB_x4 := V6.size
        go_wp2_with fail
        refine (toIntS_any _ _ _ l4 _ z4 hs4).mono ?_
        rintro e w7' ⟨x_a4, x_c4, rfl, x4, u7⟩
        have Dz2_x4 := z2.apart x4 (Nat.le_refl _)
        have Dz3_x4 := z3.apart x4 (Nat.le_refl _)
        have Dz4_x4 := z4.apart x4 (Nat.le_refl _)
        have Dr0_x4 := r0.apart x4 (Nat.le_refl _)
        have Dx2_x4 := x2.apart x4 (Nat.le_refl _)
        have Dx3_x4 := x3.apart x4 (Nat.le_refl _)
        replace z2 := z2.below u7
        replace z3 := z3.below u7
        replace z4 := z4.below u7
        replace r0 := r0.below u7
        replace x2 := x2.below u7
        replace x3 := x3.below u7
        have V7 : Below w.heap.size w w7' := V6.trans (u7.mono V6.size)
        clear V6
        clear u7
        have VB_g0 := V7.size
        go_wp2_with fail
        refine (ChooseShared_any _ _ _ _ _ l2 _ _ _ l3 _ _ _ l4 _ x2.ints x3.ints x4.ints).mono ?_
        rintro e w8' ⟨g_a0, g_n0, g_c0, rfl, g0, u8⟩
        have Dz2_g0 := z2.apart g0 (Nat.le_refl _)
        have Dz3_g0 := z3.apart g0 (Nat.le_refl _)
        have Dz4_g0 := z4.apart g0 (Nat.le_refl _)
        have Dr0_g0 := r0.apart g0 (Nat.le_refl _)
        have Dx2_g0 := x2.apart g0 (Nat.le_refl _)
        have Dx3_g0 := x3.apart g0 (Nat.le_refl _)
        have Dx4_g0 := x4.apart g0 (Nat.le_refl _)
        replace z2 := z2.below u8
        replace z3 := z3.below u8
        replace z4 := z4.below u8
        replace r0 := r0.below u8
        replace x2 := x2.below u8
        replace x3 := x3.below u8
        replace x4 := x4.below u8
        have V8 : Below w.heap.size w w8' := V7.trans (u8.mono V7.size)
        clear V7
        clear u8
        go_wp2_with fail
        refine (eqIntS_same _ _ _ _ _ _ _ _ g0.ints r0.ints).mono ?_
        rintro e w9' ⟨rfl, q9⟩
        have u9 := below_of_quiet q9
        clear q9
        replace z2 := z2.below u9
        replace z3 := z3.below u9
        replace z4 := z4.below u9
        replace r0 := r0.below u9
        replace x2 := x2.below u9
        replace x3 := x3.below u9
        replace x4 := x4.below u9
        replace g0 := g0.below u9
        have V9 : Below w.heap.size w w9' := V8.trans (u9.mono V8.size)
        clear V8
        clear u9
        go_wp2_with fail
        refine (toIntS_any _ _ _ l2 _ z2 hs2).mono ?_
        rintro e w10' ⟨t_a2, t_c2, rfl, t2, u10⟩
        have Dx2_t2 := x2.apart t2 (Nat.le_refl _)
        have Dx3_t2 := x3.apart t2 (Nat.le_refl _)
        have Dx4_t2 := x4.apart t2 (Nat.le_refl _)
        have Dg0_t2 := g0.apart t2 (Nat.le_refl _)
        replace z2 := z2.below u10
        replace z3 := z3.below u10
        replace z4 := z4.below u10
        replace r0 := r0.below u10
        replace x2 := x2.below u10
        replace x3 := x3.below u10
        replace x4 := x4.below u10
        replace g0 := g0.below u10
        have V10 : Below w.heap.size w w10' := V9.trans (u10.mono V9.size)
        clear V9
        clear u10
        go_wp2_with fail
        refine (eqIntS_same _ _ _ _ _ _ l2 _ x2.ints t2.ints).mono ?_
        rintro e w11' ⟨rfl, q11⟩
        have u11 := below_of_quiet q11
        clear q11
        replace z2 := z2.below u11
        replace z3 := z3.below u11
        replace z4 := z4.below u11
        replace r0 := r0.below u11
        replace x2 := x2.below u11
        replace x3 := x3.below u11
        replace x4 := x4.below u11
        replace g0 := g0.below u11
        replace t2 := t2.below u11
        have V11 : Below w.heap.size w w11' := V10.trans (u11.mono V10.size)
        clear V10
        clear u11
        clear t2
        go_wp2_with fail
        refine (toIntS_any _ _ _ l3 _ z3 hs3).mono ?_
        rintro e w12' ⟨t_a3, t_c3, rfl, t3, u12⟩
        have Dx2_t3 := x2.apart t3 (Nat.le_refl _)
        have Dx3_t3 := x3.apart t3 (Nat.le_refl _)
        have Dx4_t3 := x4.apart t3 (Nat.le_refl _)
        have Dg0_t3 := g0.apart t3 (Nat.le_refl _)
        replace z2 := z2.below u12
        replace z3 := z3.below u12
        replace z4 := z4.below u12
        replace r0 := r0.below u12
        replace x2 := x2.below u12
        replace x3 := x3.below u12
        replace x4 := x4.below u12
        replace g0 := g0.below u12
        have V12 : Below w.heap.size w w12' := V11.trans (u12.mono V11.size)
        clear V11
        clear u12
        go_wp2_with fail
        refine (eqIntS_same _ _ _ _ _ _ l3 _ x3.ints t3.ints).mono ?_
        rintro e w13' ⟨rfl, q13⟩
        have u13 := below_of_quiet q13
        clear q13
        replace z2 := z2.below u13
        replace z3 := z3.below u13
        replace z4 := z4.below u13
        replace r0 := r0.below u13
        replace x2 := x2.below u13
        replace x3 := x3.below u13
        replace x4 := x4.below u13
        replace g0 := g0.below u13
        replace t3 := t3.below u13
        have V13 : Below w.heap.size w w13' := V12.trans (u13.mono V12.size)
        clear V12
        clear u13
        clear t3
        go_wp2_with fail
        refine (toIntS_any _ _ _ l4 _ z4 hs4).mono ?_
        rintro e w14' ⟨t_a4, t_c4, rfl, t4, u14⟩
        have Dx2_t4 := x2.apart t4 (Nat.le_refl _)
        have Dx3_t4 := x3.apart t4 (Nat.le_refl _)
        have Dx4_t4 := x4.apart t4 (Nat.le_refl _)
        have Dg0_t4 := g0.apart t4 (Nat.le_refl _)
        replace z2 := z2.below u14
        replace z3 := z3.below u14
        replace z4 := z4.below u14
        replace r0 := r0.below u14
        replace x2 := x2.below u14
        replace x3 := x3.below u14
        replace x4 := x4.below u14
        replace g0 := g0.below u14
        have V14 : Below w.heap.size w w14' := V13.trans (u14.mono V13.size)
        clear V13
        clear u14
        go_wp2_with fail
        refine (eqIntS_same _ _ _ _ _ _ l4 _ x4.ints t4.ints).mono ?_
        rintro e w15' ⟨rfl, q15⟩
        have u15 := below_of_quiet q15
        clear q15
        replace z2 := z2.below u15
        replace z3 := z3.below u15
        replace z4 := z4.below u15
        replace r0 := r0.below u15
        replace x2 := x2.below u15
        replace x3 := x3.below u15
        replace x4 := x4.below u15
        replace g0 := g0.below u15
        replace t4 := t4.below u15
        have V15 : Below w.heap.size w w15' := V14.trans (u15.mono V14.size)
        clear V14
        clear u15
        clear t4
        go_wp2_with fail
        refine (markIntS_any _ _ _ _ _ _ _ x2 (by omega) (by have := hs2; omega)).mono ?_
        rintro e w16' ⟨rfl, ⟨Lx2, mx2, Ux2⟩, G16⟩
        have HUx2 := Lib.hid Ux2
        clear Ux2
        replace z2 := z2.grown G16 Dz2_x2
        replace z3 := z3.grown G16 Dz3_x2
        replace z4 := z4.grown G16 Dz4_x2
        replace r0 := r0.grown G16 Dr0_x2
        replace x3 := x3.grown G16 Dx2_x3.symm
        replace x4 := x4.grown G16 Dx2_x4.symm
        replace g0 := g0.grown G16 Dx2_g0.symm
        have u16 : Below w.heap.size w15' w16' := below_grownBy G16 V15.size (fun x hc hx => Nat.le_trans VB_x2 (mx2.range x hc hx).1)
        have V16 : Below w.heap.size w w16' := V15.trans u16
        clear V15 u16 G16 x2
        have x2 := mx2
        clear mx2
        go_wp2_with fail
        refine (markIntS_any _ _ _ _ _ _ _ x3 (by omega) (by have := hs3; omega)).mono ?_
        rintro e w17' ⟨rfl, ⟨Lx3, mx3, Ux3⟩, G17⟩
        have HUx3 := Lib.hid Ux3
        clear Ux3
        replace z2 := z2.grown G17 Dz2_x3
        replace z3 := z3.grown G17 Dz3_x3
        replace z4 := z4.grown G17 Dz4_x3
        replace r0 := r0.grown G17 Dr0_x3
        replace x2 := x2.grown G17 Dx2_x3
        replace x4 := x4.grown G17 Dx3_x4.symm
        replace g0 := g0.grown G17 Dx3_g0.symm
        have u17 : Below w.heap.size w16' w17' := below_grownBy G17 V16.size (fun x hc hx => Nat.le_trans VB_x3 (mx3.range x hc hx).1)
        have V17 : Below w.heap.size w w17' := V16.trans u17
        clear V16 u17 G17 x3
        have x3 := mx3
        clear mx3
        go_wp2_with fail
        refine (markIntS_any _ _ _ _ _ _ _ x4 (by omega) (by have := hs4; omega)).mono ?_
        rintro e w18' ⟨rfl, ⟨Lx4, mx4, Ux4⟩, G18⟩
        have HUx4 := Lib.hid Ux4
        clear Ux4
        replace z2 := z2.grown G18 Dz2_x4
        replace z3 := z3.grown G18 Dz3_x4
        replace z4 := z4.grown G18 Dz4_x4
        replace r0 := r0.grown G18 Dr0_x4
        replace x2 := x2.grown G18 Dx2_x4
        replace x3 := x3.grown G18 Dx3_x4
        replace g0 := g0.grown G18 Dx4_g0.symm
        have u18 : Below w.heap.size w17' w18' := below_grownBy G18 V17.size (fun x hc hx => Nat.le_trans VB_x4 (mx4.range x hc hx).1)
        have V18 : Below w.heap.size w w18' := V17.trans u18
        clear V17 u18 G18 x4
        have x4 := mx4
        clear mx4
        go_wp2_with fail
        refine (eqIntS_same _ _ _ _ _ _ _ _ g0.ints r0.ints).mono ?_
        rintro e w19' ⟨rfl, q19⟩
        have u19 := below_of_quiet q19
        clear q19
        replace z2 := z2.below u19
        replace z3 := z3.below u19
        replace z4 := z4.below u19
        replace r0 := r0.below u19
        replace x2 := x2.below u19
        replace x3 := x3.below u19
        replace x4 := x4.below u19
        replace g0 := g0.below u19
        have V19 : Below w.heap.size w w19' := V18.trans (u19.mono V18.size)
        clear V18
        clear u19
        clear x2
        clear x3
        clear x4
        have hlg0 : g_n0 ≤ 1000000 := by rw [g0.len]; exact csL_len a0 a1 l2 l3 l4
        go_wp2_with fail
        refine (markIntS_any _ _ _ _ _ _ _ g0 (by omega) (by have := hlg0; omega)).mono ?_
        rintro e w20' ⟨rfl, ⟨Lg0, mg0, Ug0⟩, G20⟩
        have HUg0 := Lib.hid Ug0
        clear Ug0
        replace z2 := z2.grown G20 Dz2_g0
        replace z3 := z3.grown G20 Dz3_g0
        replace z4 := z4.grown G20 Dz4_g0
        replace r0 := r0.grown G20 Dr0_g0
        have u20 : Below w.heap.size w19' w20' := below_grownBy G20 V19.size (fun x hc hx => Nat.le_trans VB_g0 (mg0.range x hc hx).1)
        have V20 : Below w.heap.size w w20' := V19.trans u20
        clear V19 u20 G20 g0
        have g0 := mg0
        clear mg0
        go_wp2_with fail
        refine (heldIntS_any _ _ _ _ _ _ g0.ints HUg0.out (by omega) (by have := hlg0; omega)).mono ?_
        rintro e w21' ⟨rfl, q21⟩
        have u21 := below_of_quiet q21
        clear q21
        replace z2 := z2.below u21
        replace z3 := z3.below u21
        replace z4 := z4.below u21
        replace r0 := r0.below u21
        replace g0 := g0.below u21
        have V21 : Below w.heap.size w w21' := V20.trans (u21.mono V20.size)
        clear V20
        clear u21
        go_wp2_with fail
        refine (toIntS_any _ _ _ l2 _ z2 hs2).mono ?_
        rintro e w22' ⟨x_a2, x_c2, rfl, x2, u22⟩
        have Dz2_x2 := z2.apart x2 (Nat.le_refl _)
        have Dz3_x2 := z3.apart x2 (Nat.le_refl _)
        have Dz4_x2 := z4.apart x2 (Nat.le_refl _)
        have Dr0_x2 := r0.apart x2 (Nat.le_refl _)
        have Dg0_x2 := g0.apart x2 (Nat.le_refl _)
        replace z2 := z2.below u22
        replace z3 := z3.below u22
        replace z4 := z4.below u22
        replace r0 := r0.below u22
        replace g0 := g0.below u22
        have V22 : Below w.heap.size w w22' := V21.trans (u22.mono V21.size)
        clear V21
        clear u22
        go_wp2_with fail
        refine (toIntS_any _ _ _ l3 _ z3 hs3).mono ?_
        rintro e w23' ⟨x_a3, x_c3, rfl, x3, u23⟩
        have Dz2_x3 := z2.apart x3 (Nat.le_refl _)
        have Dz3_x3 := z3.apart x3 (Nat.le_refl _)
        have Dz4_x3 := z4.apart x3 (Nat.le_refl _)
        have Dr0_x3 := r0.apart x3 (Nat.le_refl _)
        have Dg0_x3 := g0.apart x3 (Nat.le_refl _)
        have Dx2_x3 := x2.apart x3 (Nat.le_refl _)
        replace z2 := z2.below u23
        replace z3 := z3.below u23
        replace z4 := z4.below u23
        replace r0 := r0.below u23
        replace g0 := g0.below u23
        replace x2 := x2.below u23
        have V23 : Below w.heap.size w w23' := V22.trans (u23.mono V22.size)
        clear V22
        clear u23
        go_wp2_with fail
        refine (toIntS_any _ _ _ l4 _ z4 hs4).mono ?_
        rintro e w24' ⟨x_a4, x_c4, rfl, x4, u24⟩
        have Dz2_x4 := z2.apart x4 (Nat.le_refl _)
        have Dz3_x4 := z3.apart x4 (Nat.le_refl _)
        have Dz4_x4 := z4.apart x4 (Nat.le_refl _)
        have Dr0_x4 := r0.apart x4 (Nat.le_refl _)
        have Dg0_x4 := g0.apart x4 (Nat.le_refl _)
        have Dx2_x4 := x2.apart x4 (Nat.le_refl _)
        have Dx3_x4 := x3.apart x4 (Nat.le_refl _)
        replace z2 := z2.below u24
        replace z3 := z3.below u24
        replace z4 := z4.below u24
        replace r0 := r0.below u24
        replace g0 := g0.below u24
        replace x2 := x2.below u24
        replace x3 := x3.below u24
        have V24 : Below w.heap.size w w24' := V23.trans (u24.mono V23.size)
        clear V23
        clear u24
        go_wp2_with fail
        refine (ChooseShared_any _ _ _ _ _ l2 _ _ _ l3 _ _ _ l4 _ x2.ints x3.ints x4.ints).mono ?_
        rintro e w25' ⟨h_a0, h_n0, h_c0, rfl, h0, u25⟩
        replace z2 := z2.below u25
        replace z3 := z3.below u25
        replace z4 := z4.below u25
        replace r0 := r0.below u25
        replace g0 := g0.below u25
        replace x2 := x2.below u25
        replace x3 := x3.below u25
        replace x4 := x4.below u25
        have V25 : Below w.heap.size w w25' := V24.trans (u25.mono V24.size)
        clear V24
        clear u25
        clear x2
        clear x3
        clear x4
        go_wp2_with fail
        refine (eqIntS_same _ _ _ _ _ _ _ _ h0.ints r0.ints).mono ?_
        rintro e w26' ⟨rfl, q26⟩
        have u26 := below_of_quiet q26
        clear q26
        replace z2 := z2.below u26
        replace z3 := z3.below u26
        replace z4 := z4.below u26
        replace r0 := r0.below u26
        replace g0 := g0.below u26
        replace h0 := h0.below u26
        have V26 : Below w.heap.size w w26' := V25.trans (u26.mono V25.size)
        clear V25
        clear u26
        go_wp2_with fail
        refine (heldIntS_any _ _ _ _ _ _ g0.ints HUg0.out (by omega) (by have := hlg0; omega)).mono ?_
        rintro e w27' ⟨rfl, q27⟩
        have u27 := below_of_quiet q27
        clear q27
        replace z2 := z2.below u27
        replace z3 := z3.below u27
        replace z4 := z4.below u27
        replace r0 := r0.below u27
        replace g0 := g0.below u27
        replace h0 := h0.below u27
        have V27 : Below w.heap.size w w27' := V26.trans (u27.mono V26.size)
        clear V26
        clear u27
        go_wp2
        go_ret
        exact ⟨rfl, V27⟩
      · go_enter Try.func13, Try.ntmps13
        go_wp2
        go_ret
        exact ⟨rfl, Below.refl _ _⟩
    · go_enter Try.func13, Try.ntmps13
      go_wp2
      go_ret
      exact ⟨rfl, Below.refl _ _⟩
  · go_enter Try.func13, Try.ntmps13
    go_wp2
    go_ret
    exact ⟨rfl, Below.refl _ _⟩
end Go.Proofs.Ytkpnncpgdiboaaa
