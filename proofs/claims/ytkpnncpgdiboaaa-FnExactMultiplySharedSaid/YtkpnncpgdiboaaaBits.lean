/- Shared bits as a sum; the laws over them. -/
import Derived.Test.YtkpnncpgdiboaaaToSum
namespace Go.Proofs.Ytkpnncpgdiboaaa
open Go.RowKit

def sh0 (p key i x : Int) : Int := (tsM key i x + (1 - 2 * tsM key i x) * q0I p key i) % p
def sh1 (p key i x : Int) : Int := ((1 - 2 * tsM key i x) * q1I p key i) % p
theorem tsL_sh (p key i x : Int) : tsL p key i x = [sh0 p key i x, sh1 p key i x] := rfl
theorem mod_range (x p : Int) (h : 1 ≤ p) : 0 ≤ x % p ∧ x % p ≤ p - 1 := ⟨Int.emod_nonneg _ (by omega), by have := Int.emod_lt_of_pos x (by omega : 0 < p); omega⟩
theorem sh0_range (p key i x : Int) (h : 1 ≤ p) : 0 ≤ sh0 p key i x ∧ sh0 p key i x ≤ p - 1 := mod_range _ _ h
theorem sh1_range (p key i x : Int) (h : 1 ≤ p) : 0 ≤ sh1 p key i x ∧ sh1 p key i x ≤ p - 1 := mod_range _ _ h
/-- The sums of the shares of the first k bits. -/
def acc0 (p key : Int) (u v : List Int) : Nat → Int
  | 0 => 0
  | k + 1 => (acc0 p key u v k + sh0 p key k (xorI (u.getD k 0) (v.getD k 0)) * 2 ^ k) % p
def acc1 (p key : Int) (u v : List Int) : Nat → Int
  | 0 => 0
  | k + 1 => (acc1 p key u v k + sh1 p key k (xorI (u.getD k 0) (v.getD k 0)) * 2 ^ k) % p
def accL (p key : Int) (u v : List Int) : List Int := [acc0 p key u v u.length, acc1 p key u v u.length]
theorem acc0_range (p key : Int) (u v : List Int) (k : Nat) (h : 1 ≤ p) : 0 ≤ acc0 p key u v k ∧ acc0 p key u v k ≤ p - 1 := by
  cases k with
  | zero => simp [acc0]; omega
  | succ k => exact mod_range _ _ h
theorem acc1_range (p key : Int) (u v : List Int) (k : Nat) (h : 1 ≤ p) : 0 ≤ acc1 p key u v k ∧ acc1 p key u v k ≤ p - 1 := by
  cases k with
  | zero => simp [acc1]; omega
  | succ k => exact mod_range _ _ h
theorem pow16 (k : Nat) (h : k < 16) : 1 ≤ (2 : Int) ^ k ∧ (2 : Int) ^ k ≤ 32768 := by
  rcases (by omega : k = 0 ∨ k = 1 ∨ k = 2 ∨ k = 3 ∨ k = 4 ∨ k = 5 ∨ k = 6 ∨ k = 7 ∨ k = 8 ∨ k = 9 ∨ k = 10 ∨ k = 11 ∨ k = 12 ∨ k = 13 ∨ k = 14 ∨ k = 15) with rfl | rfl | rfl | rfl | rfl | rfl | rfl | rfl | rfl | rfl | rfl | rfl | rfl | rfl | rfl | rfl <;> omega
theorem shift_range (q : Int) (k : Nat) (h0 : 0 ≤ q) (h1 : q ≤ 999) (hk : k < 16) : 0 ≤ q * 2 ^ k ∧ q * 2 ^ k ≤ 999 * 32768 := by
  obtain ⟨a, b⟩ := pow16 k hk
  exact ⟨Int.mul_nonneg h0 (by omega), Int.mul_le_mul h1 b (by omega) (by omega)⟩
def bitsB (u v : List Int) : Bool := decide (u.length = v.length) && decide (u.length ≤ 16) && allB u 0 1 && allB v 0 1
set_option maxHeartbeats 4000000 in
set_option maxRecDepth 100000 in
theorem cvAll_any (p key : Int) (a : Option Addr) (n c : Nat) (l : List Int) (a' : Option Addr) (c' : Nat) (l' : List Int) (w : World) (h : Ints w a n c l) (h' : Ints w a' n c' l') (hp : 1 ≤ p) (hp2 : p ≤ 1000) (hk0 : 0 ≤ key) (hk2 : key ≤ 1000000000) (hs : n ≤ 16)
    (hl : ∀ x ∈ l, 0 ≤ x ∧ x ≤ 1) (hl' : ∀ x ∈ l', 0 ≤ x ∧ x ≤ 1) :
    Calls Try.prog 80 #[.int .i64 p, .int .i64 key, .slice a n c, .slice a' n c'] w fun e w' => ∃ a1 c1, e = .returned (.slice a1 2 c1) ∧ Own w' w.heap.size a1 2 c1 (accL p key l l') ∧ Below w.heap.size w w' := by
  have HL := Lib.hid hl
  have HL' := Lib.hid hl'
  have HLen := Lib.hid h.len
  have HAcc : Hid (accL p key l l' = [acc0 p key l l' l.length, acc1 p key l l' l.length]) := rfl
  clear hl hl'
  go_enter Try.func80, Try.ntmps80
  go_wp2
  have own0 : Own (w.alloc (.cells #[.int .i64 0, .int .i64 0] 3)) w.heap.size (some ⟨w.heap.size, 0, none⟩) 2 2 [acc0 p key l l' 0, acc1 p key l l' 0] := Own.lit2 w _ 0 0 (Nat.le_refl _)
  have bel0 := (Below.refl w.heap.size w).alloc (Nat.le_refl _) (.cells #[.int .i64 0, .int .i64 0] 3)
  go_loopw [9, 17] (fun u v wr => ∃ k : Nat, k ≤ n ∧ v = .int .i64 k ∧ Below w.heap.size w wr ∧ ∃ a1 c1, u = .slice a1 2 c1 ∧ Own wr w.heap.size a1 2 c1 [acc0 p key l l' k, acc1 p key l l' k]) (fun _ v _ => n - (intOf v).toNat)
  case atStart => exact ⟨0, by omega, rfl, bel0, _, _, rfl, own0⟩
  case round =>
    obtain ⟨k, hk, rfl, hbel, a1, c1, rfl, own⟩ := hrel
    have h1 := h.below hbel
    have h2 := h'.below hbel
    by_cases hlt : k < n
    · have r1 := getD_range l _ _ HL.out k (by have := HLen.out; omega)
      have r2 := getD_range l' _ _ HL'.out k (by have := h'.len; omega)
      have HS0 : Hid (acc0 p key l l' (k + 1) = (acc0 p key l l' k + sh0 p key k (xorI (l.getD k 0) (l'.getD k 0)) * 2 ^ k) % p) := rfl
      have HS1 : Hid (acc1 p key l l' (k + 1) = (acc1 p key l l' k + sh1 p key k (xorI (l.getD k 0) (l'.getD k 0)) * 2 ^ k) % p) := rfl
      have HG0 := Lib.hid (acc0_range p key l l' k hp)
      have HG1 := Lib.hid (acc1_range p key l l' k hp)
      obtain ⟨g, o, hg, hc⟩ := h1.at k hlt
      obtain ⟨g', o', hg', hc'⟩ := h2.at k hlt
      generalize l.getD k 0 = x at *
      generalize l'.getD k 0 = y at *
      have hx : xorI x y = 0 ∨ xorI x y = 1 := xorI_bit (by omega) (by omega)
      have HC := fun W a c hW => cvToSum_any p key k a c x y W hp hp2 hk0 hk2 (by omega) (by omega) hW hx
      have HQ := Lib.hid (tsL_sh p key k (xorI x y))
      have z0 := sh0_range p key k (xorI x y) hp
      have z1 := sh1_range p key k (xorI x y) hp
      generalize sh0 p key k (xorI x y) = q0 at *
      generalize sh1 p key k (xorI x y) = q1 at *
      obtain ⟨z0, z0'⟩ := z0
      obtain ⟨z1, z1'⟩ := z1
      generalize xorI x y = t at *
      clear r1 r2 hx h1 h2
      subst hg hg'
      go_wp2_with fail
      refine (HC _ _ _ (Ints.lit2 _ _ _ _)).mono ?_; rintro e w1 ⟨a2, c2, rfl, o2, u2⟩
      rw [HQ.out] at o2
      have v2 := (hbel.alloc hbel.size (.cells #[.int .i64 x, .int .i64 y] 3)).trans (u2.mono (by have := hbel.size; simp; omega))
      have own2 := (own.alloc (.cells #[.int .i64 x, .int .i64 y] 3)).below u2
      have sz : w.heap.size ≤ w1.heap.size := v2.size
      clear own hbel u2 hc hc'
      obtain ⟨g3, o3, rfl, hc3⟩ := o2.ints.cells (by omega)
      have e0 : w1.cell? ⟨g3, o3, none⟩ = some (.int .i64 q0) := hc3 0 (by omega)
      have e1 : w1.cell? ⟨g3, o3 + 1, none⟩ = some (.int .i64 q1) := hc3 1 (by omega)
      clear hc3 o2
      have s0 := shift_range q0 k z0 (by omega) (by omega)
      have s1 := shift_range q1 k z1 (by omega) (by omega)
      obtain ⟨s0, s0'⟩ := s0
      obtain ⟨s1, s1'⟩ := s1
      obtain ⟨X0, hX0⟩ : ∃ X, X = q0 * 2 ^ k := ⟨_, rfl⟩
      obtain ⟨X1, hX1⟩ : ∃ X, X = q1 * 2 ^ k := ⟨_, rfl⟩
      rw [← hX0] at s0 s0'
      rw [← hX1] at s1 s1'
      have t0 : IntKind.i64.wrap (q0 * 2 ^ k) = X0 := by rw [← hX0]; exact IntWalk.i64_in _ (by omega)
      have t1 : IntKind.i64.wrap (q1 * 2 ^ k) = X1 := by rw [← hX1]; exact IntWalk.i64_in _ (by omega)
      rw [← hX0] at HS0
      rw [← hX1] at HS1
      clear hX0 hX1
      have t2 : IntKind.u64.wrap (k : Int) = (k : Int) := IntWalk.u64_in _ (by omega)
      have m0 := mod_range X0 p hp
      have m1 := mod_range X1 p hp
      have t3 : X0.tmod p = X0 % p := Int.tmod_eq_emod_of_nonneg s0
      have t4 : X1.tmod p = X1 % p := Int.tmod_eq_emod_of_nonneg s1
      have t5 : IntKind.i64.wrap (X0 % p) = X0 % p := IntWalk.i64_in _ (by omega)
      have t6 : IntKind.i64.wrap (X1 % p) = X1 % p := IntWalk.i64_in _ (by omega)
      have t7 : (p == 0) = false := by simp; omega
      have t8 : (p = 0) = False := by simp; omega
      have HB1 : Hid (∀ x ∈ [acc0 p key l l' k, acc1 p key l l' k], 0 ≤ x ∧ x ≤ 1000000) := Lib.hid (by
        have := HG0.out; have := HG1.out
        intro x hx; simp only [List.mem_cons, List.not_mem_nil, or_false] at hx; rcases hx with rfl | rfl <;> omega)
      have HB2 : Hid (∀ x ∈ [X0 % p, X1 % p], 0 ≤ x ∧ x ≤ 1000000) := Lib.hid (by
        intro x hx; simp only [List.mem_cons, List.not_mem_nil, or_false] at hx; rcases hx with rfl | rfl <;> omega)
      clear m0 m1
      go_wp2
      go_region_held3 (fun W => W.cell? ⟨g3, o3, none⟩ = some (.int .i64 q0) ∧ W.cell? ⟨g3, o3 + 1, none⟩ = some (.int .i64 q1))
        (first | go_keep | exact ⟨keepC u3 (keepA _ e0), keepC u3 (keepA _ e1)⟩)
        (first | (go_at_call 87; refine (trSum_any p a1 2 c1 _ _ 2 2 [X0 % p, X1 % p] _ ((own2.alloc _).drew).ints (Ints.lit2 _ _ _ _) hp (by omega) (by omega) (by omega) HB1.out HB2.out).mono ?_; rintro e w3 ⟨a5, c5, rfl, o5, u3⟩))
      all_goals have b3 : Below w.heap.size w w3 := (v2.alloc v2.size _).drew.trans (u3.mono (by simp; omega))
      all_goals have o6 : Own w3 w.heap.size a5 2 c5 [acc0 p key l l' (k + 1), acc1 p key l l' (k + 1)] := by rw [HS0.out, HS1.out, ← add_mod2 (acc0 p key l l' k) X0 p, ← add_mod2 (acc1 p key l l' k) X1 p]; exact o5.lower (by simp; omega)
      all_goals clear u3 o5 own2 v2
      all_goals go_wp2
      all_goals go_roundw
      case rel => exact ⟨k + 1, by omega, by go_num, b3, a5, c5, rfl, o6⟩
      case measure => simp [intOf]; omega
    · have HE : Hid (l.length = k) := Lib.hid (by have := HLen.out; omega)
      go_wp2
      go_ret
      refine ⟨a1, c1, ?_, ?_, hbel⟩
      · rfl
      · rw [HAcc.out, HE.out]; exact own
def bsB (p key : Int) (u v : List Int) : Bool := isPr p && inB key 0 1000000000 && bitsB u v
def bsL (p key : Int) (u v : List Int) : List Int := if bsB p key u v then accL p key u v else []
theorem bsL_len (p key : Int) (u v : List Int) : (bsL p key u v).length ≤ 1000000 := by unfold bsL; split <;> simp [accL]
theorem bitsB_true {u v : List Int} (h : bitsB u v = true) : u.length = v.length ∧ u.length ≤ 16 ∧ (∀ x ∈ u, 0 ≤ x ∧ x ≤ 1) ∧ ∀ x ∈ v, 0 ≤ x ∧ x ≤ 1 := by
  simp only [bitsB, Bool.and_eq_true, decide_eq_true_eq, allB_iff] at h
  exact ⟨h.1.1.1, h.1.1.2, h.1.2, h.2⟩
set_option maxHeartbeats 4000000 in
set_option maxRecDepth 100000 in
theorem BitsToSum_any (p key : Int) (a : Option Addr) (n c : Nat) (l : List Int) (a' : Option Addr) (n' c' : Nat) (l' : List Int) (w : World) (h : Ints w a n c l) (h' : Ints w a' n' c' l') :
    Calls Try.prog 38 #[.int .i64 p, .int .i64 key, .slice a n c, .slice a' n' c'] w fun e w' => ∃ a1 n1 c1, e = .returned (.tuple #[.slice a1 n1 c1, .bool (bsB p key l l')]) ∧ Own w' w.heap.size a1 n1 c1 (bsL p key l l') ∧ Below w.heap.size w w' := by
  unfold bsL bsB bitsB
  have hn := h.le
  have hn' := h'.le
  have HLen := Lib.hid h.len
  have HLen' := Lib.hid h'.len
  cases h1 : isPr p
  · simp only [Bool.false_and, Bool.false_eq_true, if_false]
    clear hn hn'
    go_enter Try.func38, Try.ntmps38
    go_wp2_with (first | (go_at_call 49; refine (IsPrime_any _ _).mono ?_; rintro e w' ⟨rfl, m, rfl⟩))
    go_ret2
    exact ⟨_, _, _, rfl, Own.nil0 _ _ _, below_of_drewN _⟩
  cases h2 : inB key 0 1000000000
  · simp only [Bool.false_and, Bool.and_false, Bool.false_eq_true, if_false]
    clear hn hn'
    go_enter Try.func38, Try.ntmps38
    go_wp2_with (first | (go_at_call 49; refine (IsPrime_any _ _).mono ?_; rintro e w' ⟨rfl, m, rfl⟩) | (go_at_call 50; refine (isKey_any _ _).mono ?_; rintro e w' ⟨rfl, rfl⟩))
    go_ret2
    exact ⟨_, _, _, rfl, Own.nil0 _ _ _, below_of_drewN _⟩
  obtain ⟨p1, p2⟩ := isPr_range h1
  obtain ⟨k1, k2⟩ := inB_true h2
  cases h3 : allB l 0 1
  · simp only [Bool.false_and, Bool.and_false, Bool.false_eq_true, if_false]
    clear hn hn'
    go_enter Try.func38, Try.ntmps38
    go_wp2_with (first | (go_at_call 49; refine (IsPrime_any _ _).mono ?_; rintro e w' ⟨rfl, m, rfl⟩) | (go_at_call 50; refine (isKey_any _ _).mono ?_; rintro e w' ⟨rfl, rfl⟩))
    refine (areBits_any _ _ _ l _ (h.drewN _)).mono ?_; rintro e w1 ⟨rfl, u⟩
    rw [h3]
    have u1 : Below w.heap.size w w1 := (below_of_drewN _).trans (u.mono (by simp))
    go_wp2
    go_ret2
    exact ⟨_, _, _, rfl, Own.nil0 _ _ _, u1⟩
  cases h4 : allB l' 0 1
  · simp only [Bool.and_false, Bool.false_eq_true, if_false]
    clear hn hn'
    go_enter Try.func38, Try.ntmps38
    go_wp2_with (first | (go_at_call 49; refine (IsPrime_any _ _).mono ?_; rintro e w' ⟨rfl, m, rfl⟩) | (go_at_call 50; refine (isKey_any _ _).mono ?_; rintro e w' ⟨rfl, rfl⟩))
    refine (areBits_any _ _ _ l _ (h.drewN _)).mono ?_; rintro e w1 ⟨rfl, u⟩
    rw [h3]
    have u1 : Below w.heap.size w w1 := (below_of_drewN _).trans (u.mono (by simp))
    clear u
    go_wp2_with fail
    refine (areBits_any _ _ _ l' _ (h'.below u1)).mono ?_; rintro e w2 ⟨rfl, u⟩
    rw [h4]
    have u2 : Below w.heap.size w w2 := u1.trans (u.mono u1.size)
    go_wp2
    go_ret2
    exact ⟨_, _, _, rfl, Own.nil0 _ _ _, u2⟩
  by_cases h5 : n = n'
  · rw [decide_eq_true (show l.length = l'.length by have := h.len; have := h'.len; omega)]
    subst h5
    have e5 : (((n : Int) != (n : Int)) : Bool) = false := by simp
    by_cases h6 : n ≤ 16
    · rw [decide_eq_true (show l.length ≤ 16 by have := h.len; omega)]
      have e6 : (decide ((n : Int) > 16) : Bool) = false := by simp; omega
      simp only [Bool.and_self, if_true]
      have HL : Hid (∀ x ∈ l, 0 ≤ x ∧ x ≤ 1) := Lib.hid ((allB_iff _ _ _).1 h3)
      have HL' : Hid (∀ x ∈ l', 0 ≤ x ∧ x ≤ 1) := Lib.hid ((allB_iff _ _ _).1 h4)
      have HAcc : Hid (accL p key l l' = [acc0 p key l l' l.length, acc1 p key l l' l.length]) := rfl
      go_enter Try.func38, Try.ntmps38
      go_wp2_with (first | (go_at_call 49; refine (IsPrime_any _ _).mono ?_; rintro e w' ⟨rfl, m, rfl⟩) | (go_at_call 50; refine (isKey_any _ _).mono ?_; rintro e w' ⟨rfl, rfl⟩))
      refine (areBits_any _ _ _ l _ (h.drewN _)).mono ?_; rintro e w1 ⟨rfl, u⟩
      rw [h3]
      have u1 : Below w.heap.size w w1 := (below_of_drewN _).trans (u.mono (by simp))
      clear u
      go_wp2_with fail
      refine (areBits_any _ _ _ l' _ (h'.below u1)).mono ?_; rintro e w2 ⟨rfl, u⟩
      rw [h4]
      have u2 : Below w.heap.size w w2 := u1.trans (u.mono u1.size)
      clear u
      go_wp2
      have own0 : Own (w2.alloc (.cells #[.int .i64 0, .int .i64 0] 3)) w.heap.size (some ⟨w2.heap.size, 0, none⟩) 2 2 [acc0 p key l l' 0, acc1 p key l l' 0] := Own.lit2 w2 _ 0 0 u2.size
      have bel0 := u2.alloc u2.size (.cells #[.int .i64 0, .int .i64 0] 3)
      go_loopw [10, 47] (fun u v wr => ∃ k : Nat, k ≤ n ∧ v = .int .i64 k ∧ Below w.heap.size w wr ∧ ∃ a1 c1, u = .slice a1 2 c1 ∧ Own wr w.heap.size a1 2 c1 [acc0 p key l l' k, acc1 p key l l' k]) (fun _ v _ => n - (intOf v).toNat)
      case atStart => exact ⟨0, by omega, rfl, bel0, _, _, rfl, own0⟩
      case round =>
        obtain ⟨k, hk, rfl, hbel, a1, c1, rfl, own⟩ := hrel
        have h1 := h.below hbel
        have h2 := h'.below hbel
        by_cases hlt : k < n
        · have r1 := getD_range l _ _ HL.out k (by have := HLen.out; omega)
          have r2 := getD_range l' _ _ HL'.out k (by have := HLen'.out; omega)
          have HS0 : Hid (acc0 p key l l' (k + 1) = (acc0 p key l l' k + sh0 p key k (xorI (l.getD k 0) (l'.getD k 0)) * 2 ^ k) % p) := rfl
          have HS1 : Hid (acc1 p key l l' (k + 1) = (acc1 p key l l' k + sh1 p key k (xorI (l.getD k 0) (l'.getD k 0)) * 2 ^ k) % p) := rfl
          have G0 := acc0_range p key l l' k (by omega)
          have G1 := acc1_range p key l l' k (by omega)
          obtain ⟨g, o, hg, hc⟩ := h1.at k hlt
          obtain ⟨g', o', hg', hc'⟩ := h2.at k hlt
          generalize acc0 p key l l' k = A0 at *
          generalize acc1 p key l l' k = A1 at *
          obtain ⟨G0, G0'⟩ := G0
          obtain ⟨G1, G1'⟩ := G1
          generalize l.getD k 0 = x at *
          generalize l'.getD k 0 = y at *
          have hx : xorI x y = 0 ∨ xorI x y = 1 := xorI_bit (by omega) (by omega)
          have x0 : bits BinOp.xor IntKind.i64 x y = xorI x y := rfl
          have HQ := Lib.hid (tsL_sh p key k (xorI x y))
          have z0 := sh0_range p key k (xorI x y) (by omega)
          have z1 := sh1_range p key k (xorI x y) (by omega)
          generalize sh0 p key k (xorI x y) = q0 at *
          generalize sh1 p key k (xorI x y) = q1 at *
          obtain ⟨z0, z0'⟩ := z0
          obtain ⟨z1, z1'⟩ := z1
          generalize xorI x y = t at *
          have HC := fun W => bitToSum_any p key k t W (by omega) (by omega) k1 k2 (by omega) (by omega) hx
          clear r1 r2 hx h1 h2
          subst hg hg'
          go_wp2
          go_region_held3 (fun W => W.cell? ⟨g, o + k, none⟩ = some (.int .i64 x) ∧ W.cell? ⟨g', o' + k, none⟩ = some (.int .i64 y))
            (first | go_keep | exact ⟨keepC u3 hc, keepC u3 hc'⟩)
            (first | (go_at_call 75; refine (HC _).mono ?_; rintro e w3 ⟨a2, c2, rfl, o2, u3⟩))
          rw [HQ.out] at o2
          have v2 := hbel.drew.trans (u3.mono hbel.size)
          have own2 := own.drew.below u3
          have sz : w.heap.size ≤ w3.heap.size := v2.size
          clear own hbel u3 hc hc'
          obtain ⟨g3, o3, rfl, hc3⟩ := o2.ints.cells (by omega)
          have e0 : w3.cell? ⟨g3, o3, none⟩ = some (.int .i64 q0) := hc3 0 (by omega)
          have e1 : w3.cell? ⟨g3, o3 + 1, none⟩ = some (.int .i64 q1) := hc3 1 (by omega)
          clear hc3 o2
          obtain ⟨g4, o4, rfl, hc4⟩ := own2.ints.cells (by omega)
          have f0 : w3.cell? ⟨g4, o4, none⟩ = some (.int .i64 A0) := hc4 0 (by omega)
          have f1 : w3.cell? ⟨g4, o4 + 1, none⟩ = some (.int .i64 A1) := hc4 1 (by omega)
          clear hc4 own2
          have s0 := shift_range q0 k z0 (by omega) (by omega)
          have s1 := shift_range q1 k z1 (by omega) (by omega)
          obtain ⟨s0, s0'⟩ := s0
          obtain ⟨s1, s1'⟩ := s1
          obtain ⟨X0, hX0⟩ : ∃ X, X = q0 * 2 ^ k := ⟨_, rfl⟩
          obtain ⟨X1, hX1⟩ : ∃ X, X = q1 * 2 ^ k := ⟨_, rfl⟩
          rw [← hX0] at s0 s0'
          rw [← hX1] at s1 s1'
          have t0 : IntKind.i64.wrap (q0 * 2 ^ k) = X0 := by rw [← hX0]; exact IntWalk.i64_in _ (by omega)
          have t1 : IntKind.i64.wrap (q1 * 2 ^ k) = X1 := by rw [← hX1]; exact IntWalk.i64_in _ (by omega)
          rw [← hX0] at HS0
          rw [← hX1] at HS1
          clear hX0 hX1
          have t2 : IntKind.u64.wrap (k : Int) = (k : Int) := IntWalk.u64_in _ (by omega)
          have t3 : IntKind.i64.wrap (A0 + X0) = A0 + X0 := IntWalk.i64_in _ (by omega)
          have t4 : IntKind.i64.wrap (A1 + X1) = A1 + X1 := IntWalk.i64_in _ (by omega)
          go_wp2
          go_region_held3 (fun W => W.cell? ⟨g3, o3, none⟩ = some (.int .i64 q0) ∧ W.cell? ⟨g3, o3 + 1, none⟩ = some (.int .i64 q1) ∧ W.cell? ⟨g4, o4, none⟩ = some (.int .i64 A0) ∧ W.cell? ⟨g4, o4 + 1, none⟩ = some (.int .i64 A1))
            (go_keep)
            (first | (go_at_call 83; refine (mod_same _ _ _ (by omega) (by omega)).mono ?_; rintro e w' ⟨rfl, rfl⟩))
          all_goals have b3 := (v2.alloc v2.size (.cells #[.int .i64 ((A0 + X0) % p), .int .i64 ((A1 + X1) % p)] 3)).drew
          all_goals have o6 := (Own.lit2 w3 w.heap.size ((A0 + X0) % p) ((A1 + X1) % p) v2.size).drew
          all_goals clear v2
          all_goals go_wp2
          all_goals go_roundw
          case rel => exact ⟨k + 1, by omega, by go_num, b3, _, _, rfl, by rw [HS0.out, HS1.out]; exact o6⟩
          case measure => simp [intOf]; omega
        · have HE : Hid (l.length = k) := Lib.hid (by have := HLen.out; omega)
          go_wp2
          go_ret2
          refine ⟨a1, 2, c1, ?_, ?_, hbel⟩
          · rfl
          · rw [HAcc.out, HE.out]; exact own
    · rw [decide_eq_false (show ¬ l.length ≤ 16 by have := h.len; omega)]
      have e6 : (decide ((n : Int) > 16) : Bool) = true := by simp; omega
      simp only [Bool.false_and, Bool.and_false, Bool.false_eq_true, if_false]
      go_enter Try.func38, Try.ntmps38
      go_wp2_with (first | (go_at_call 49; refine (IsPrime_any _ _).mono ?_; rintro e w' ⟨rfl, m, rfl⟩) | (go_at_call 50; refine (isKey_any _ _).mono ?_; rintro e w' ⟨rfl, rfl⟩))
      refine (areBits_any _ _ _ l _ (h.drewN _)).mono ?_; rintro e w1 ⟨rfl, u⟩
      rw [h3]
      have u1 : Below w.heap.size w w1 := (below_of_drewN _).trans (u.mono (by simp))
      clear u
      go_wp2_with fail
      refine (areBits_any _ _ _ l' _ (h'.below u1)).mono ?_; rintro e w2 ⟨rfl, u⟩
      rw [h4]
      have u2 : Below w.heap.size w w2 := u1.trans (u.mono u1.size)
      go_wp2
      go_ret2
      exact ⟨_, _, _, rfl, Own.nil0 _ _ _, u2⟩
  · rw [decide_eq_false (show ¬ l.length = l'.length by have := h.len; have := h'.len; omega)]
    have e5 : (((n : Int) != (n' : Int)) : Bool) = true := by simp; omega
    simp only [Bool.false_and, Bool.and_false, Bool.false_eq_true, if_false]
    clear h5
    go_enter Try.func38, Try.ntmps38
    go_wp2_with (first | (go_at_call 49; refine (IsPrime_any _ _).mono ?_; rintro e w' ⟨rfl, m, rfl⟩) | (go_at_call 50; refine (isKey_any _ _).mono ?_; rintro e w' ⟨rfl, rfl⟩))
    refine (areBits_any _ _ _ l _ (h.drewN _)).mono ?_; rintro e w1 ⟨rfl, u⟩
    rw [h3]
    have u1 : Below w.heap.size w w1 := (below_of_drewN _).trans (u.mono (by simp))
    clear u
    go_wp2_with fail
    refine (areBits_any _ _ _ l' _ (h'.below u1)).mono ?_; rintro e w2 ⟨rfl, u⟩
    rw [h4]
    have u2 : Below w.heap.size w w2 := u1.trans (u.mono u1.size)
    go_wp2
    go_ret2
    exact ⟨_, _, _, rfl, Own.nil0 _ _ _, u2⟩
set_option maxHeartbeats 1000000 in
theorem cvBits_any (a : Option Addr) (n c : Nat) (l : List Int) (a' : Option Addr) (n' c' : Nat) (l' : List Int) (w : World) (h : Ints w a n c l) (h' : Ints w a' n' c' l') :
    Calls Try.prog 79 #[.slice a n c, .slice a' n' c'] w fun e w' => e = .returned (.bool (bitsB l l')) ∧ Below w.heap.size w w' := by
  unfold bitsB
  have hn := h.le
  have hn' := h'.le
  by_cases h5 : n = n'
  · rw [decide_eq_true (show l.length = l'.length by have := h.len; have := h'.len; omega)]
    subst h5
    have e5 : (((n : Int) == (n : Int)) : Bool) = true := by simp
    by_cases h6 : n ≤ 16
    · rw [decide_eq_true (show l.length ≤ 16 by have := h.len; omega)]
      have e6 : (decide ((n : Int) ≤ 16) : Bool) = true := by simp; omega
      simp only [Bool.and_self, Bool.true_and]
      cases h3 : allB l 0 1
      · go_enter Try.func79, Try.ntmps79
        go_wp2_with fail
        refine (l1All_any _ _ _ l _ _ _ h).mono ?_; rintro e w1 ⟨rfl, q⟩
        rw [h3]
        go_wp2
        go_ret
        exact ⟨rfl, below_of_quiet (by assumption)⟩
      · go_enter Try.func79, Try.ntmps79
        go_wp2_with fail
        refine (l1All_any _ _ _ l _ _ _ h).mono ?_; rintro e w1 ⟨rfl, q⟩
        rw [h3]
        have u1 := below_of_quiet q
        clear q
        go_wp2_with fail
        refine (l1All_any _ _ _ l' _ _ _ (h'.below u1)).mono ?_; rintro e w2 ⟨rfl, q⟩
        have u2 := u1.trans ((below_of_quiet q).mono u1.size)
        clear q
        go_wp2
        go_ret
        exact ⟨rfl, u2⟩
    · rw [decide_eq_false (show ¬ l.length ≤ 16 by have := h.len; omega)]
      have e6 : (decide ((n : Int) ≤ 16) : Bool) = false := by simp; omega
      simp only [Bool.false_and, Bool.and_false]
      go_enter Try.func79, Try.ntmps79
      go_wp2
      go_ret
      exact ⟨rfl, Below.refl _ _⟩
  · rw [decide_eq_false (show ¬ l.length = l'.length by have := h.len; have := h'.len; omega)]
    have e5 : (((n : Int) == (n' : Int)) : Bool) = false := by simp; omega
    simp only [Bool.false_and]
    clear h5
    go_enter Try.func79, Try.ntmps79
    go_wp2
    go_ret
    exact ⟨rfl, Below.refl _ _⟩
set_option maxHeartbeats 1000000 in
theorem spec_BitsToSum_any (p key : Int) (a : Option Addr) (n c : Nat) (l : List Int) (a' : Option Addr) (n' c' : Nat) (l' : List Int) (w : World) (h : Ints w a n c l) (h' : Ints w a' n' c' l') :
    Calls Try.prog 37 #[.int .i64 p, .int .i64 key, .slice a n c, .slice a' n' c'] w fun e w' => ∃ a1 n1 c1, e = .returned (.tuple #[.slice a1 n1 c1, .bool (bsB p key l l')]) ∧ Own w' w.heap.size a1 n1 c1 (bsL p key l l') ∧ Below w.heap.size w w' := by
  unfold bsL bsB
  cases h1 : isPr p
  · simp only [Bool.false_and, Bool.false_eq_true, if_false]
    go_enter Try.func37, Try.ntmps37
    go_wp2_with (first | (go_at_call 45; refine (fpGood_any _ _).mono ?_; rintro e w' ⟨rfl, m, rfl⟩))
    go_ret2
    exact ⟨_, _, _, rfl, Own.nil0 _ _ _, below_of_drewN _⟩
  cases h2 : inB key 0 1000000000
  · simp only [Bool.false_and, Bool.and_false, Bool.false_eq_true, if_false]
    go_enter Try.func37, Try.ntmps37
    go_wp2_with (first | (go_at_call 45; refine (fpGood_any _ _).mono ?_; rintro e w' ⟨rfl, m, rfl⟩) | (go_at_call 78; refine (otKey_any _ _).mono ?_; rintro e w' ⟨rfl, rfl⟩))
    go_ret2
    exact ⟨_, _, _, rfl, Own.nil0 _ _ _, below_of_drewN _⟩
  obtain ⟨p1, p2⟩ := isPr_range h1
  obtain ⟨k1, k2⟩ := inB_true h2
  cases h3 : bitsB l l'
  · simp only [Bool.and_false, Bool.false_eq_true, if_false]
    go_enter Try.func37, Try.ntmps37
    go_wp2_with (first | (go_at_call 45; refine (fpGood_any _ _).mono ?_; rintro e w' ⟨rfl, m, rfl⟩) | (go_at_call 78; refine (otKey_any _ _).mono ?_; rintro e w' ⟨rfl, rfl⟩))
    refine (cvBits_any _ _ _ l _ _ _ l' _ (h.drewN _) (h'.drewN _)).mono ?_; rintro e w1 ⟨rfl, u⟩
    rw [h3]
    have u1 : Below w.heap.size w w1 := (below_of_drewN _).trans (u.mono (by simp))
    go_wp2
    go_ret2
    exact ⟨_, _, _, rfl, Own.nil0 _ _ _, u1⟩
  · simp only [Bool.and_self, if_true]
    obtain ⟨b1, b2, b3, b4⟩ := bitsB_true h3
    have hn : n' = n := by have := h.len; have := h'.len; omega
    subst hn
    have HC := fun W hW hW' => cvAll_any p key a n' c l a' c' l' W hW hW' (by omega) (by omega) k1 k2 (by have := h.len; omega) b3 b4
    clear b1 b2 b3 b4
    go_enter Try.func37, Try.ntmps37
    go_wp2_with (first | (go_at_call 45; refine (fpGood_any _ _).mono ?_; rintro e w' ⟨rfl, m, rfl⟩) | (go_at_call 78; refine (otKey_any _ _).mono ?_; rintro e w' ⟨rfl, rfl⟩))
    refine (cvBits_any _ _ _ l _ _ _ l' _ (h.drewN _) (h'.drewN _)).mono ?_; rintro e w1 ⟨rfl, u⟩
    rw [h3]
    have u1 : Below w.heap.size w w1 := (below_of_drewN _).trans (u.mono (by simp))
    clear u
    go_wp2_with fail
    refine (HC _ (h.below u1) (h'.below u1)).mono ?_; rintro e w2 ⟨a2, c2, rfl, o2, u2⟩
    go_wp2
    go_ret2
    exact ⟨_, _, _, rfl, o2.lower u1.size, u1.trans (u2.mono u1.size)⟩
set_option maxHeartbeats 2000000 in
set_option maxRecDepth 100000 in
theorem FnExactBitsToSum_walk (a0 : Int) (a1 : Int) (a2 : Option Addr) (n2 c2 : Nat) (l2 : List Int) (a3 : Option Addr) (n3 c3 : Nat) (l3 : List Int) (w : World) (_w0 : -9223372036854775808 ≤ a0 ∧ a0 ≤ 9223372036854775807) (_w1 : -9223372036854775808 ≤ a1 ∧ a1 ≤ 9223372036854775807) (z2 : Ints w a2 n2 c2 l2) (_wf2 : Wf l2) (z3 : Ints w a3 n3 c3 l3) (_wf3 : Wf l3) :
    Calls Try.prog 10 #[.int .i64 a0, .int .i64 a1, .slice a2 n2 c2, .slice a3 n3 c3] w fun e w' => e = .returned (.bool true) ∧ Below w.heap.size w w' := by
  by_cases hs2 : n2 ≤ 1048576
  · skip
    by_cases hs3 : n3 ≤ 1048576
    · skip
      go_enter Try.func10, Try.ntmps10
      go_wp2_with fail
      refine (toIntS_any _ _ _ l2 _ z2 hs2).mono ?_
      rintro e w1' ⟨y_a2, y_c2, rfl, y2, u1⟩
      replace z2 := z2.below u1
      replace z3 := z3.below u1
      have V1 := u1
      clear u1
      go_wp2_with fail
      refine (toIntS_any _ _ _ l3 _ z3 hs3).mono ?_
      rintro e w2' ⟨y_a3, y_c3, rfl, y3, u2⟩
      replace z2 := z2.below u2
      replace z3 := z3.below u2
      replace y2 := y2.below u2
      have V2 : Below w.heap.size w w2' := V1.trans (u2.mono V1.size)
      clear V1
      clear u2
      go_wp2_with fail
      refine (spec_BitsToSum_any _ _ _ _ _ l2 _ _ _ l3 _ y2.ints y3.ints).mono ?_
      rintro e w3' ⟨r_a0, r_n0, r_c0, rfl, r0, u3⟩
      replace z2 := z2.below u3
      replace z3 := z3.below u3
      replace y2 := y2.below u3
      replace y3 := y3.below u3
      have V3 : Below w.heap.size w w3' := V2.trans (u3.mono V2.size)
      clear V2
      clear u3
      clear y2
      clear y3
      have VB_x2 := V3.size
      go_wp2_with fail
      refine (toIntS_any _ _ _ l2 _ z2 hs2).mono ?_
      rintro e w4' ⟨x_a2, x_c2, rfl, x2, u4⟩
      have Dz2_x2 := z2.apart x2 (Nat.le_refl _)
      have Dz3_x2 := z3.apart x2 (Nat.le_refl _)
      have Dr0_x2 := r0.apart x2 (Nat.le_refl _)
      replace z2 := z2.below u4
      replace z3 := z3.below u4
      replace r0 := r0.below u4
      have V4 : Below w.heap.size w w4' := V3.trans (u4.mono V3.size)
      clear V3
      clear u4
      have VB_x3 := V4.size
      go_wp2_with fail
      refine (toIntS_any _ _ _ l3 _ z3 hs3).mono ?_
      rintro e w5' ⟨x_a3, x_c3, rfl, x3, u5⟩
      have Dz2_x3 := z2.apart x3 (Nat.le_refl _)
      have Dz3_x3 := z3.apart x3 (Nat.le_refl _)
      have Dr0_x3 := r0.apart x3 (Nat.le_refl _)
      have Dx2_x3 := x2.apart x3 (Nat.le_refl _)
      replace z2 := z2.below u5
      replace z3 := z3.below u5
      replace r0 := r0.below u5
      replace x2 := x2.below u5
      have V5 : Below w.heap.size w w5' := V4.trans (u5.mono V4.size)
      clear V4
      clear u5
      have VB_g0 := V5.size
      go_wp2_with fail
      refine (BitsToSum_any _ _ _ _ _ l2 _ _ _ l3 _ x2.ints x3.ints).mono ?_
      rintro e w6' ⟨g_a0, g_n0, g_c0, rfl, g0, u6⟩
      have Dz2_g0 := z2.apart g0 (Nat.le_refl _)
      have Dz3_g0 := z3.apart g0 (Nat.le_refl _)
      have Dr0_g0 := r0.apart g0 (Nat.le_refl _)
      have Dx2_g0 := x2.apart g0 (Nat.le_refl _)
      have Dx3_g0 := x3.apart g0 (Nat.le_refl _)
      replace z2 := z2.below u6
      replace z3 := z3.below u6
      replace r0 := r0.below u6
      replace x2 := x2.below u6
      replace x3 := x3.below u6
      have V6 : Below w.heap.size w w6' := V5.trans (u6.mono V5.size)
      clear V5
      clear u6
      go_wp2_with fail
      refine (eqIntS_same _ _ _ _ _ _ _ _ g0.ints r0.ints).mono ?_
      rintro e w7' ⟨rfl, q7⟩
      have u7 := below_of_quiet q7
      clear q7
      replace z2 := z2.below u7
      replace z3 := z3.below u7
      replace r0 := r0.below u7
      replace x2 := x2.below u7
      replace x3 := x3.below u7
      replace g0 := g0.below u7
      have V7 : Below w.heap.size w w7' := V6.trans (u7.mono V6.size)
      clear V6
      clear u7
      go_wp2_with fail
      refine (toIntS_any _ _ _ l2 _ z2 hs2).mono ?_
      rintro e w8' ⟨t_a2, t_c2, rfl, t2, u8⟩
      have Dx2_t2 := x2.apart t2 (Nat.le_refl _)
      have Dx3_t2 := x3.apart t2 (Nat.le_refl _)
      have Dg0_t2 := g0.apart t2 (Nat.le_refl _)
      replace z2 := z2.below u8
      replace z3 := z3.below u8
      replace r0 := r0.below u8
      replace x2 := x2.below u8
      replace x3 := x3.below u8
      replace g0 := g0.below u8
      have V8 : Below w.heap.size w w8' := V7.trans (u8.mono V7.size)
      clear V7
      clear u8
      go_wp2_with fail
      refine (eqIntS_same _ _ _ _ _ _ l2 _ x2.ints t2.ints).mono ?_
      rintro e w9' ⟨rfl, q9⟩
      have u9 := below_of_quiet q9
      clear q9
      replace z2 := z2.below u9
      replace z3 := z3.below u9
      replace r0 := r0.below u9
      replace x2 := x2.below u9
      replace x3 := x3.below u9
      replace g0 := g0.below u9
      replace t2 := t2.below u9
      have V9 : Below w.heap.size w w9' := V8.trans (u9.mono V8.size)
      clear V8
      clear u9
      clear t2
      go_wp2_with fail
      refine (toIntS_any _ _ _ l3 _ z3 hs3).mono ?_
      rintro e w10' ⟨t_a3, t_c3, rfl, t3, u10⟩
      have Dx2_t3 := x2.apart t3 (Nat.le_refl _)
      have Dx3_t3 := x3.apart t3 (Nat.le_refl _)
      have Dg0_t3 := g0.apart t3 (Nat.le_refl _)
      replace z2 := z2.below u10
      replace z3 := z3.below u10
      replace r0 := r0.below u10
      replace x2 := x2.below u10
      replace x3 := x3.below u10
      replace g0 := g0.below u10
      have V10 : Below w.heap.size w w10' := V9.trans (u10.mono V9.size)
      clear V9
      clear u10
      go_wp2_with fail
      refine (eqIntS_same _ _ _ _ _ _ l3 _ x3.ints t3.ints).mono ?_
      rintro e w11' ⟨rfl, q11⟩
      have u11 := below_of_quiet q11
      clear q11
      replace z2 := z2.below u11
      replace z3 := z3.below u11
      replace r0 := r0.below u11
      replace x2 := x2.below u11
      replace x3 := x3.below u11
      replace g0 := g0.below u11
      replace t3 := t3.below u11
      have V11 : Below w.heap.size w w11' := V10.trans (u11.mono V10.size)
      clear V10
      clear u11
      clear t3
      go_wp2_with fail
      refine (markIntS_any _ _ _ _ _ _ _ x2 (by omega) (by have := hs2; omega)).mono ?_
      rintro e w12' ⟨rfl, ⟨Lx2, mx2, Ux2⟩, G12⟩
      have HUx2 := Lib.hid Ux2
      clear Ux2
      replace z2 := z2.grown G12 Dz2_x2
      replace z3 := z3.grown G12 Dz3_x2
      replace r0 := r0.grown G12 Dr0_x2
      replace x3 := x3.grown G12 Dx2_x3.symm
      replace g0 := g0.grown G12 Dx2_g0.symm
      have u12 : Below w.heap.size w11' w12' := below_grownBy G12 V11.size (fun x hc hx => Nat.le_trans VB_x2 (mx2.range x hc hx).1)
      have V12 : Below w.heap.size w w12' := V11.trans u12
      clear V11 u12 G12 x2
      have x2 := mx2
      clear mx2
      go_wp2_with fail
      refine (markIntS_any _ _ _ _ _ _ _ x3 (by omega) (by have := hs3; omega)).mono ?_
      rintro e w13' ⟨rfl, ⟨Lx3, mx3, Ux3⟩, G13⟩
      have HUx3 := Lib.hid Ux3
      clear Ux3
      replace z2 := z2.grown G13 Dz2_x3
      replace z3 := z3.grown G13 Dz3_x3
      replace r0 := r0.grown G13 Dr0_x3
      replace x2 := x2.grown G13 Dx2_x3
      replace g0 := g0.grown G13 Dx3_g0.symm
      have u13 : Below w.heap.size w12' w13' := below_grownBy G13 V12.size (fun x hc hx => Nat.le_trans VB_x3 (mx3.range x hc hx).1)
      have V13 : Below w.heap.size w w13' := V12.trans u13
      clear V12 u13 G13 x3
      have x3 := mx3
      clear mx3
      go_wp2_with fail
      refine (eqIntS_same _ _ _ _ _ _ _ _ g0.ints r0.ints).mono ?_
      rintro e w14' ⟨rfl, q14⟩
      have u14 := below_of_quiet q14
      clear q14
      replace z2 := z2.below u14
      replace z3 := z3.below u14
      replace r0 := r0.below u14
      replace x2 := x2.below u14
      replace x3 := x3.below u14
      replace g0 := g0.below u14
      have V14 : Below w.heap.size w w14' := V13.trans (u14.mono V13.size)
      clear V13
      clear u14
      clear x2
      clear x3
      have hlg0 : g_n0 ≤ 1000000 := by rw [g0.len]; exact bsL_len a0 a1 l2 l3
      go_wp2_with fail
      refine (markIntS_any _ _ _ _ _ _ _ g0 (by omega) (by have := hlg0; omega)).mono ?_
      rintro e w15' ⟨rfl, ⟨Lg0, mg0, Ug0⟩, G15⟩
      have HUg0 := Lib.hid Ug0
      clear Ug0
      replace z2 := z2.grown G15 Dz2_g0
      replace z3 := z3.grown G15 Dz3_g0
      replace r0 := r0.grown G15 Dr0_g0
      have u15 : Below w.heap.size w14' w15' := below_grownBy G15 V14.size (fun x hc hx => Nat.le_trans VB_g0 (mg0.range x hc hx).1)
      have V15 : Below w.heap.size w w15' := V14.trans u15
      clear V14 u15 G15 g0
      have g0 := mg0
      clear mg0
      go_wp2_with fail
      refine (heldIntS_any _ _ _ _ _ _ g0.ints HUg0.out (by omega) (by have := hlg0; omega)).mono ?_
      rintro e w16' ⟨rfl, q16⟩
      have u16 := below_of_quiet q16
      clear q16
      replace z2 := z2.below u16
      replace z3 := z3.below u16
      replace r0 := r0.below u16
      replace g0 := g0.below u16
      have V16 : Below w.heap.size w w16' := V15.trans (u16.mono V15.size)
      clear V15
      clear u16
      go_wp2_with fail
      refine (toIntS_any _ _ _ l2 _ z2 hs2).mono ?_
      rintro e w17' ⟨x_a2, x_c2, rfl, x2, u17⟩
      have Dz2_x2 := z2.apart x2 (Nat.le_refl _)
      have Dz3_x2 := z3.apart x2 (Nat.le_refl _)
      have Dr0_x2 := r0.apart x2 (Nat.le_refl _)
      have Dg0_x2 := g0.apart x2 (Nat.le_refl _)
      replace z2 := z2.below u17
      replace z3 := z3.below u17
      replace r0 := r0.below u17
      replace g0 := g0.below u17
      have V17 : Below w.heap.size w w17' := V16.trans (u17.mono V16.size)
      clear V16
      clear u17
      go_wp2_with fail
      refine (toIntS_any _ _ _ l3 _ z3 hs3).mono ?_
      rintro e w18' ⟨x_a3, x_c3, rfl, x3, u18⟩
      have Dz2_x3 := z2.apart x3 (Nat.le_refl _)
      have Dz3_x3 := z3.apart x3 (Nat.le_refl _)
      have Dr0_x3 := r0.apart x3 (Nat.le_refl _)
      have Dg0_x3 := g0.apart x3 (Nat.le_refl _)
      have Dx2_x3 := x2.apart x3 (Nat.le_refl _)
      replace z2 := z2.below u18
      replace z3 := z3.below u18
      replace r0 := r0.below u18
      replace g0 := g0.below u18
      replace x2 := x2.below u18
      have V18 : Below w.heap.size w w18' := V17.trans (u18.mono V17.size)
      clear V17
      clear u18
      go_wp2_with fail
      refine (BitsToSum_any _ _ _ _ _ l2 _ _ _ l3 _ x2.ints x3.ints).mono ?_
      rintro e w19' ⟨h_a0, h_n0, h_c0, rfl, h0, u19⟩
      replace z2 := z2.below u19
      replace z3 := z3.below u19
      replace r0 := r0.below u19
      replace g0 := g0.below u19
      replace x2 := x2.below u19
      replace x3 := x3.below u19
      have V19 : Below w.heap.size w w19' := V18.trans (u19.mono V18.size)
      clear V18
      clear u19
      clear x2
      clear x3
      go_wp2_with fail
      refine (eqIntS_same _ _ _ _ _ _ _ _ h0.ints r0.ints).mono ?_
      rintro e w20' ⟨rfl, q20⟩
      have u20 := below_of_quiet q20
      clear q20
      replace z2 := z2.below u20
      replace z3 := z3.below u20
      replace r0 := r0.below u20
      replace g0 := g0.below u20
      replace h0 := h0.below u20
      have V20 : Below w.heap.size w w20' := V19.trans (u20.mono V19.size)
      clear V19
      clear u20
      go_wp2_with fail
      refine (heldIntS_any _ _ _ _ _ _ g0.ints HUg0.out (by omega) (by have := hlg0; omega)).mono ?_
      rintro e w21' ⟨rfl, q21⟩
      have u21 := below_of_quiet q21
      clear q21
      replace z2 := z2.below u21
      replace z3 := z3.below u21
      replace r0 := r0.below u21
      replace g0 := g0.below u21
      replace h0 := h0.below u21
      have V21 : Below w.heap.size w w21' := V20.trans (u21.mono V20.size)
      clear V20
      clear u21
      go_wp2
      go_ret
      exact ⟨rfl, V21⟩
    · go_enter Try.func10, Try.ntmps10
      go_wp2
      go_ret
      exact ⟨rfl, Below.refl _ _⟩
  · go_enter Try.func10, Try.ntmps10
    go_wp2
    go_ret
    exact ⟨rfl, Below.refl _ _⟩
/-- Two pairs' sum. -/
def pairSum (p : Int) (x y : List Int) : List Int := [(x.getD 0 0 + y.getD 0 0) % p, (x.getD 1 0 + y.getD 1 0) % p]
theorem sumK_two (p : Int) (x y : List Int) : sumK p x y 2 = pairSum p x y := rfl
def msB (p key : Int) (u v x : List Int) : Bool := bsB p key u v && pairB p x
def msL (p key : Int) (u v x : List Int) : List Int := if msB p key u v x then pairSum p x (accL p key u v) else []
theorem msL_len (p key : Int) (u v x : List Int) : (msL p key u v x).length ≤ 1000000 := by unfold msL; split <;> simp [pairSum]
theorem pairB_true {p : Int} {l : List Int} (h : pairB p l = true) : ∃ y0 y1, l = [y0, y1] ∧ (0 ≤ y0 ∧ y0 ≤ p - 1) ∧ (0 ≤ y1 ∧ y1 ≤ p - 1) ∧ isPr p = true := by
  simp only [pairB, Bool.and_eq_true, decide_eq_true_eq] at h
  obtain ⟨h1, h2⟩ := h
  obtain ⟨h3, _, _, h4⟩ := elsB_true h1
  rw [allB_iff] at h4
  match l, h2, h4 with
  | [x, y], _, h4 => exact ⟨x, y, rfl, h4 x (by simp), h4 y (by simp), h3⟩
set_option maxHeartbeats 4000000 in
set_option maxRecDepth 100000 in
theorem MixedSum_any (p key : Int) (a : Option Addr) (n c : Nat) (l : List Int) (a' : Option Addr) (n' c' : Nat) (l' : List Int) (b : Option Addr) (m d : Nat) (x : List Int) (w : World) (h : Ints w a n c l) (h' : Ints w a' n' c' l') (hx : Ints w b m d x) :
    Calls Try.prog 42 #[.int .i64 p, .int .i64 key, .slice a n c, .slice a' n' c', .slice b m d] w fun e w' => ∃ a1 n1 c1, e = .returned (.tuple #[.slice a1 n1 c1, .bool (msB p key l l' x)]) ∧ Own w' w.heap.size a1 n1 c1 (msL p key l l' x) ∧ Below w.heap.size w w' := by
  unfold msL msB
  have HB := BitsToSum_any p key a n c l a' n' c' l' w h h'
  unfold bsL at HB
  cases h1 : bsB p key l l'
  · simp only [Bool.false_and, Bool.false_eq_true, if_false]
    rw [h1] at HB
    simp only [Bool.false_eq_true, if_false] at HB
    go_enter Try.func42, Try.ntmps42
    go_wp2_with fail
    refine HB.mono ?_; rintro e w1 ⟨a1, n1, c1, rfl, o1, u1⟩
    go_wp2
    go_ret2
    exact ⟨_, _, _, rfl, Own.nil0 _ _ _, u1⟩
  rw [h1] at HB
  simp only [if_true] at HB
  cases h2 : pairB p x
  · simp only [Bool.and_false, Bool.false_eq_true, if_false]
    go_enter Try.func42, Try.ntmps42
    go_wp2_with fail
    refine HB.mono ?_; rintro e w1 ⟨a1, n1, c1, rfl, o1, u1⟩
    go_wp2_with fail
    refine (isPair_any _ _ _ _ x _ (hx.below u1)).mono ?_; rintro e w2 ⟨rfl, u2⟩
    rw [h2]
    have v2 := u1.trans (u2.mono u1.size)
    go_wp2
    go_ret2
    exact ⟨_, _, _, rfl, Own.nil0 _ _ _, v2⟩
  · simp only [Bool.and_self, if_true]
    obtain ⟨x0, x1, rfl, ⟨r0, r0'⟩, ⟨r1, r1'⟩, hp⟩ := pairB_true h2
    obtain ⟨p1, p2⟩ := isPr_range hp
    obtain ⟨A0, A1, hA, ⟨G0, G0'⟩, ⟨G1, G1'⟩⟩ : ∃ A0 A1, accL p key l l' = [A0, A1] ∧ (0 ≤ A0 ∧ A0 ≤ p - 1) ∧ (0 ≤ A1 ∧ A1 ≤ p - 1) := ⟨_, _, rfl, acc0_range _ _ _ _ _ (by omega), acc1_range _ _ _ _ _ (by omega)⟩
    rw [hA] at HB ⊢
    have HP : Hid (pairSum p [x0, x1] [A0, A1] = [(x0 + A0) % p, (x1 + A1) % p]) := rfl
    have t1 : IntKind.i64.wrap (x0 + A0) = x0 + A0 := IntWalk.i64_in _ (by omega)
    have t2 : IntKind.i64.wrap (x1 + A1) = x1 + A1 := IntWalk.i64_in _ (by omega)
    clear hA
    go_enter Try.func42, Try.ntmps42
    go_wp2_with fail
    refine HB.mono ?_; rintro e w1 ⟨a1, n1, c1, rfl, o1, u1⟩
    have hn1 : n1 = 2 := o1.len
    subst hn1
    go_wp2_with fail
    refine (isPair_any _ _ _ _ [x0, x1] _ (hx.below u1)).mono ?_; rintro e w2 ⟨rfl, u2⟩
    rw [h2]
    have v2 := u1.trans (u2.mono u1.size)
    have hm : m = 2 := hx.len
    subst hm
    obtain ⟨g, o, rfl, hc⟩ := (hx.below v2).cells (by omega)
    have e0 : w2.cell? ⟨g, o, none⟩ = some (.int .i64 x0) := hc 0 (by omega)
    have e1 : w2.cell? ⟨g, o + 1, none⟩ = some (.int .i64 x1) := hc 1 (by omega)
    obtain ⟨g3, o3, rfl, hc3⟩ := (o1.below u2).ints.cells (by omega)
    have f0 : w2.cell? ⟨g3, o3, none⟩ = some (.int .i64 A0) := hc3 0 (by omega)
    have f1 : w2.cell? ⟨g3, o3 + 1, none⟩ = some (.int .i64 A1) := hc3 1 (by omega)
    clear hc hc3 o1 u1 u2 HB
    have hlit := Ints.lit2 w2 ((x0 + A0) % p) ((x1 + A1) % p) 3
    go_wp2
    go_region_held3 (fun W => W.cell? ⟨g, o, none⟩ = some (.int .i64 x0) ∧ W.cell? ⟨g, o + 1, none⟩ = some (.int .i64 x1) ∧ W.cell? ⟨g3, o3, none⟩ = some (.int .i64 A0) ∧ W.cell? ⟨g3, o3 + 1, none⟩ = some (.int .i64 A1))
      (first | go_keep | exact ⟨keepC u5 (keepA _ e0), keepC u5 (keepA _ e1), keepC u5 (keepA _ f0), keepC u5 (keepA _ f1)⟩)
      (first | (go_at_call 83; refine (mod_same _ _ _ (by omega) (by omega)).mono ?_; rintro e w' ⟨rfl, rfl⟩) | (go_at_call 88; refine (Clone_any _ 2 2 [(x0 + A0) % p, (x1 + A1) % p] _ hlit.drew (by omega)).mono ?_; rintro e w5 ⟨a5, c5, rfl, o5, u5⟩))
    all_goals go_wp2
    all_goals go_ret2
    all_goals exact ⟨_, _, _, rfl, by rw [HP.out]; exact o5.lower (by have := v2.size; simp; omega), (v2.alloc v2.size _).drew.trans (u5.mono (by have := v2.size; simp; omega))⟩
set_option maxHeartbeats 4000000 in
set_option maxRecDepth 100000 in
theorem spec_MixedSum_any (p key : Int) (a : Option Addr) (n c : Nat) (l : List Int) (a' : Option Addr) (n' c' : Nat) (l' : List Int) (b : Option Addr) (m d : Nat) (x : List Int) (w : World) (h : Ints w a n c l) (h' : Ints w a' n' c' l') (hx : Ints w b m d x) :
    Calls Try.prog 41 #[.int .i64 p, .int .i64 key, .slice a n c, .slice a' n' c', .slice b m d] w fun e w' => ∃ a1 n1 c1, e = .returned (.tuple #[.slice a1 n1 c1, .bool (msB p key l l' x)]) ∧ Own w' w.heap.size a1 n1 c1 (msL p key l l' x) ∧ Below w.heap.size w w' := by
  have HM : Hid (msB p key l l' x = (pairB p x && inB key 0 1000000000 && bitsB l l')) := Lib.hid (by
    unfold msB bsB
    cases h2 : pairB p x
    · simp
    · obtain ⟨_, _, _, _, _, hp⟩ := pairB_true h2
      rw [hp]; simp)
  unfold msL
  rw [HM.out]
  cases h2 : pairB p x
  · simp only [Bool.false_and, Bool.false_eq_true, if_false]
    go_enter Try.func41, Try.ntmps41
    go_wp2_with fail
    refine (trPair_any _ _ _ _ x _ hx).mono ?_; rintro e w2 ⟨rfl, u2⟩
    rw [h2]
    go_wp2
    go_ret2
    exact ⟨_, _, _, rfl, Own.nil0 _ _ _, u2⟩
  cases h3 : inB key 0 1000000000
  · simp only [Bool.false_and, Bool.and_false, Bool.false_eq_true, if_false]
    go_enter Try.func41, Try.ntmps41
    go_wp2_with fail
    refine (trPair_any _ _ _ _ x _ hx).mono ?_; rintro e w2 ⟨rfl, u2⟩
    rw [h2]
    go_wp2_with (first | (go_at_call 78; refine (otKey_any _ _).mono ?_; rintro e w' ⟨rfl, rfl⟩))
    go_ret2
    exact ⟨_, _, _, rfl, Own.nil0 _ _ _, u2⟩
  cases h4 : bitsB l l'
  · simp only [Bool.and_false, Bool.false_eq_true, if_false]
    go_enter Try.func41, Try.ntmps41
    go_wp2_with fail
    refine (trPair_any _ _ _ _ x _ hx).mono ?_; rintro e w2 ⟨rfl, u2⟩
    rw [h2]
    go_wp2_with (first | (go_at_call 78; refine (otKey_any _ _).mono ?_; rintro e w' ⟨rfl, rfl⟩))
    refine (cvBits_any _ _ _ l _ _ _ l' _ (h.below u2) (h'.below u2)).mono ?_; rintro e w1 ⟨rfl, u⟩
    rw [h4]
    have u1 := u2.trans (u.mono u2.size)
    go_wp2
    go_ret2
    exact ⟨_, _, _, rfl, Own.nil0 _ _ _, u1⟩
  · simp only [Bool.and_self, if_true]
    obtain ⟨b1, b2, b3, b4⟩ := bitsB_true h4
    obtain ⟨k1, k2⟩ := inB_true h3
    obtain ⟨x0, x1, rfl, ⟨r0, r0'⟩, ⟨r1, r1'⟩, hp⟩ := pairB_true h2
    obtain ⟨p1, p2⟩ := isPr_range hp
    have hn : n' = n := by have := h.len; have := h'.len; omega
    subst hn
    have HC := fun W hW hW' => cvAll_any p key a n' c l a' c' l' W hW hW' (by omega) (by omega) k1 k2 (by have := h.len; omega) b3 b4
    have HT := fun W a' n c' l' hW hW' (hn : 2 ≤ n) hl' => trSum_any p b m d [x0, x1] a' n c' l' W hW hW' (by omega) (by omega) (by have := hx.len; simp at this; omega) (by have := hx.len; simp at this; omega) (by intro y hy; simp only [List.mem_cons, List.not_mem_nil, or_false] at hy; rcases hy with rfl | rfl <;> omega) hl'
    have HG : Hid (∀ y ∈ accL p key l l', 0 ≤ y ∧ y ≤ 1000000) := Lib.hid (by
      have G0 := acc0_range p key l l' l.length (by omega)
      have G1 := acc1_range p key l l' l.length (by omega)
      intro y hy; simp only [accL, List.mem_cons, List.not_mem_nil, or_false] at hy; rcases hy with rfl | rfl <;> omega)
    have hm : m = 2 := hx.len
    subst hm
    clear b1 b2 b3 b4
    go_enter Try.func41, Try.ntmps41
    go_wp2_with fail
    refine (trPair_any _ _ _ _ [x0, x1] _ hx).mono ?_; rintro e w2 ⟨rfl, u2⟩
    rw [h2]
    go_wp2_with (first | (go_at_call 78; refine (otKey_any _ _).mono ?_; rintro e w' ⟨rfl, rfl⟩))
    refine (cvBits_any _ _ _ l _ _ _ l' _ (h.below u2) (h'.below u2)).mono ?_; rintro e w1 ⟨rfl, u⟩
    rw [h4]
    have u1 := u2.trans (u.mono u2.size)
    clear u u2
    go_wp2_with fail
    refine (HC _ (h.below u1) (h'.below u1)).mono ?_; rintro e w3 ⟨a2, c2, rfl, o2, u⟩
    have u3 := u1.trans (u.mono u1.size)
    clear u u1
    go_wp2_with fail
    refine (HT _ _ _ _ (accL p key l l') (hx.below u3) o2.ints (by omega) HG.out).mono ?_; rintro e w4 ⟨a4, c4, rfl, o4, u⟩
    have u4 := u3.trans (u.mono u3.size)
    go_wp2
    go_ret2
    exact ⟨_, _, _, rfl, o4.lower u3.size, u4⟩
set_option maxHeartbeats 2000000 in
set_option maxRecDepth 100000 in
theorem FnExactMixedSum_walk (a0 : Int) (a1 : Int) (a2 : Option Addr) (n2 c2 : Nat) (l2 : List Int) (a3 : Option Addr) (n3 c3 : Nat) (l3 : List Int) (a4 : Option Addr) (n4 c4 : Nat) (l4 : List Int) (w : World) (_w0 : -9223372036854775808 ≤ a0 ∧ a0 ≤ 9223372036854775807) (_w1 : -9223372036854775808 ≤ a1 ∧ a1 ≤ 9223372036854775807) (z2 : Ints w a2 n2 c2 l2) (_wf2 : Wf l2) (z3 : Ints w a3 n3 c3 l3) (_wf3 : Wf l3) (z4 : Ints w a4 n4 c4 l4) (_wf4 : Wf l4) :
    Calls Try.prog 12 #[.int .i64 a0, .int .i64 a1, .slice a2 n2 c2, .slice a3 n3 c3, .slice a4 n4 c4] w fun e w' => e = .returned (.bool true) ∧ Below w.heap.size w w' := by
  by_cases hs2 : n2 ≤ 1048576
  · skip
    by_cases hs3 : n3 ≤ 1048576
    · skip
      by_cases hs4 : n4 ≤ 1048576
      · skip
        go_enter Try.func12, Try.ntmps12
        go_wp2_with fail
        refine (toIntS_any _ _ _ l2 _ z2 hs2).mono ?_
        rintro e w1' ⟨y_a2, y_c2, rfl, y2, u1⟩
        replace z2 := z2.below u1
        replace z3 := z3.below u1
        replace z4 := z4.below u1
        have V1 := u1
        clear u1
        go_wp2_with fail
        refine (toIntS_any _ _ _ l3 _ z3 hs3).mono ?_
        rintro e w2' ⟨y_a3, y_c3, rfl, y3, u2⟩
        replace z2 := z2.below u2
        replace z3 := z3.below u2
        replace z4 := z4.below u2
        replace y2 := y2.below u2
        have V2 : Below w.heap.size w w2' := V1.trans (u2.mono V1.size)
        clear V1
        clear u2
        go_wp2_with fail
        refine (toIntS_any _ _ _ l4 _ z4 hs4).mono ?_
        rintro e w3' ⟨y_a4, y_c4, rfl, y4, u3⟩
        replace z2 := z2.below u3
        replace z3 := z3.below u3
        replace z4 := z4.below u3
        replace y2 := y2.below u3
        replace y3 := y3.below u3
        have V3 : Below w.heap.size w w3' := V2.trans (u3.mono V2.size)
        clear V2
        clear u3
        go_wp2_with fail
        refine (spec_MixedSum_any _ _ _ _ _ l2 _ _ _ l3 _ _ _ l4 _ y2.ints y3.ints y4.ints).mono ?_
        rintro e w4' ⟨r_a0, r_n0, r_c0, rfl, r0, u4⟩
        replace z2 := z2.below u4
        replace z3 := z3.below u4
        replace z4 := z4.below u4
        replace y2 := y2.below u4
        replace y3 := y3.below u4
        replace y4 := y4.below u4
        have V4 : Below w.heap.size w w4' := V3.trans (u4.mono V3.size)
        clear V3
        clear u4
        clear y2
        clear y3
        clear y4
        have VB_x2 := V4.size
        go_wp2_with fail
        refine (toIntS_any _ _ _ l2 _ z2 hs2).mono ?_
        rintro e w5' ⟨x_a2, x_c2, rfl, x2, u5⟩
        have Dz2_x2 := z2.apart x2 (Nat.le_refl _)
        have Dz3_x2 := z3.apart x2 (Nat.le_refl _)
        have Dz4_x2 := z4.apart x2 (Nat.le_refl _)
        have Dr0_x2 := r0.apart x2 (Nat.le_refl _)
        replace z2 := z2.below u5
        replace z3 := z3.below u5
        replace z4 := z4.below u5
        replace r0 := r0.below u5
        have V5 : Below w.heap.size w w5' := V4.trans (u5.mono V4.size)
        clear V4
        clear u5
        have VB_x3 := V5.size
        go_wp2_with fail
        refine (toIntS_any _ _ _ l3 _ z3 hs3).mono ?_
        rintro e w6' ⟨x_a3, x_c3, rfl, x3, u6⟩
        have Dz2_x3 := z2.apart x3 (Nat.le_refl _)
        have Dz3_x3 := z3.apart x3 (Nat.le_refl _)
        have Dz4_x3 := z4.apart x3 (Nat.le_refl _)
        have Dr0_x3 := r0.apart x3 (Nat.le_refl _)
        have Dx2_x3 := x2.apart x3 (Nat.le_refl _)
        replace z2 := z2.below u6
        replace z3 := z3.below u6
        replace z4 := z4.below u6
        replace r0 := r0.below u6
        replace x2 := x2.below u6
        have V6 : Below w.heap.size w w6' := V5.trans (u6.mono V5.size)
        clear V5
        clear u6
        have VB_x4 := V6.size
        go_wp2_with fail
        refine (toIntS_any _ _ _ l4 _ z4 hs4).mono ?_
        rintro e w7' ⟨x_a4, x_c4, rfl, x4, u7⟩
        have Dz2_x4 := z2.apart x4 (Nat.le_refl _)
        have Dz3_x4 := z3.apart x4 (Nat.le_refl _)
        have Dz4_x4 := z4.apart x4 (Nat.le_refl _)
        have Dr0_x4 := r0.apart x4 (Nat.le_refl _)
        have Dx2_x4 := x2.apart x4 (Nat.le_refl _)
        have Dx3_x4 := x3.apart x4 (Nat.le_refl _)
        replace z2 := z2.below u7
        replace z3 := z3.below u7
        replace z4 := z4.below u7
        replace r0 := r0.below u7
        replace x2 := x2.below u7
        replace x3 := x3.below u7
        have V7 : Below w.heap.size w w7' := V6.trans (u7.mono V6.size)
        clear V6
        clear u7
        have VB_g0 := V7.size
        go_wp2_with fail
        refine (MixedSum_any _ _ _ _ _ l2 _ _ _ l3 _ _ _ l4 _ x2.ints x3.ints x4.ints).mono ?_
        rintro e w8' ⟨g_a0, g_n0, g_c0, rfl, g0, u8⟩
        have Dz2_g0 := z2.apart g0 (Nat.le_refl _)
        have Dz3_g0 := z3.apart g0 (Nat.le_refl _)
        have Dz4_g0 := z4.apart g0 (Nat.le_refl _)
        have Dr0_g0 := r0.apart g0 (Nat.le_refl _)
        have Dx2_g0 := x2.apart g0 (Nat.le_refl _)
        have Dx3_g0 := x3.apart g0 (Nat.le_refl _)
        have Dx4_g0 := x4.apart g0 (Nat.le_refl _)
        replace z2 := z2.below u8
        replace z3 := z3.below u8
        replace z4 := z4.below u8
        replace r0 := r0.below u8
        replace x2 := x2.below u8
        replace x3 := x3.below u8
        replace x4 := x4.below u8
        have V8 : Below w.heap.size w w8' := V7.trans (u8.mono V7.size)
        clear V7
        clear u8
        go_wp2_with fail
        refine (eqIntS_same _ _ _ _ _ _ _ _ g0.ints r0.ints).mono ?_
        rintro e w9' ⟨rfl, q9⟩
        have u9 := below_of_quiet q9
        clear q9
        replace z2 := z2.below u9
        replace z3 := z3.below u9
        replace z4 := z4.below u9
        replace r0 := r0.below u9
        replace x2 := x2.below u9
        replace x3 := x3.below u9
        replace x4 := x4.below u9
        replace g0 := g0.below u9
        have V9 : Below w.heap.size w w9' := V8.trans (u9.mono V8.size)
        clear V8
        clear u9
        go_wp2_with fail
        refine (toIntS_any _ _ _ l2 _ z2 hs2).mono ?_
        rintro e w10' ⟨t_a2, t_c2, rfl, t2, u10⟩
        have Dx2_t2 := x2.apart t2 (Nat.le_refl _)
        have Dx3_t2 := x3.apart t2 (Nat.le_refl _)
        have Dx4_t2 := x4.apart t2 (Nat.le_refl _)
        have Dg0_t2 := g0.apart t2 (Nat.le_refl _)
        replace z2 := z2.below u10
        replace z3 := z3.below u10
        replace z4 := z4.below u10
        replace r0 := r0.below u10
        replace x2 := x2.below u10
        replace x3 := x3.below u10
        replace x4 := x4.below u10
        replace g0 := g0.below u10
        have V10 : Below w.heap.size w w10' := V9.trans (u10.mono V9.size)
        clear V9
        clear u10
        go_wp2_with fail
        refine (eqIntS_same _ _ _ _ _ _ l2 _ x2.ints t2.ints).mono ?_
        rintro e w11' ⟨rfl, q11⟩
        have u11 := below_of_quiet q11
        clear q11
        replace z2 := z2.below u11
        replace z3 := z3.below u11
        replace z4 := z4.below u11
        replace r0 := r0.below u11
        replace x2 := x2.below u11
        replace x3 := x3.below u11
        replace x4 := x4.below u11
        replace g0 := g0.below u11
        replace t2 := t2.below u11
        have V11 : Below w.heap.size w w11' := V10.trans (u11.mono V10.size)
        clear V10
        clear u11
        clear t2
        go_wp2_with fail
        refine (toIntS_any _ _ _ l3 _ z3 hs3).mono ?_
        rintro e w12' ⟨t_a3, t_c3, rfl, t3, u12⟩
        have Dx2_t3 := x2.apart t3 (Nat.le_refl _)
        have Dx3_t3 := x3.apart t3 (Nat.le_refl _)
        have Dx4_t3 := x4.apart t3 (Nat.le_refl _)
        have Dg0_t3 := g0.apart t3 (Nat.le_refl _)
        replace z2 := z2.below u12
        replace z3 := z3.below u12
        replace z4 := z4.below u12
        replace r0 := r0.below u12
        replace x2 := x2.below u12
        replace x3 := x3.below u12
        replace x4 := x4.below u12
        replace g0 := g0.below u12
        have V12 : Below w.heap.size w w12' := V11.trans (u12.mono V11.size)
        clear V11
        clear u12
        go_wp2_with fail
        refine (eqIntS_same _ _ _ _ _ _ l3 _ x3.ints t3.ints).mono ?_
        rintro e w13' ⟨rfl, q13⟩
        have u13 := below_of_quiet q13
        clear q13
        replace z2 := z2.below u13
        replace z3 := z3.below u13
        replace z4 := z4.below u13
        replace r0 := r0.below u13
        replace x2 := x2.below u13
        replace x3 := x3.below u13
        replace x4 := x4.below u13
        replace g0 := g0.below u13
        replace t3 := t3.below u13
        have V13 : Below w.heap.size w w13' := V12.trans (u13.mono V12.size)
        clear V12
        clear u13
        clear t3
        go_wp2_with fail
        refine (toIntS_any _ _ _ l4 _ z4 hs4).mono ?_
        rintro e w14' ⟨t_a4, t_c4, rfl, t4, u14⟩
        have Dx2_t4 := x2.apart t4 (Nat.le_refl _)
        have Dx3_t4 := x3.apart t4 (Nat.le_refl _)
        have Dx4_t4 := x4.apart t4 (Nat.le_refl _)
        have Dg0_t4 := g0.apart t4 (Nat.le_refl _)
        replace z2 := z2.below u14
        replace z3 := z3.below u14
        replace z4 := z4.below u14
        replace r0 := r0.below u14
        replace x2 := x2.below u14
        replace x3 := x3.below u14
        replace x4 := x4.below u14
        replace g0 := g0.below u14
        have V14 : Below w.heap.size w w14' := V13.trans (u14.mono V13.size)
        clear V13
        clear u14
        go_wp2_with fail
        refine (eqIntS_same _ _ _ _ _ _ l4 _ x4.ints t4.ints).mono ?_
        rintro e w15' ⟨rfl, q15⟩
        have u15 := below_of_quiet q15
        clear q15
        replace z2 := z2.below u15
        replace z3 := z3.below u15
        replace z4 := z4.below u15
        replace r0 := r0.below u15
        replace x2 := x2.below u15
        replace x3 := x3.below u15
        replace x4 := x4.below u15
        replace g0 := g0.below u15
        replace t4 := t4.below u15
        have V15 : Below w.heap.size w w15' := V14.trans (u15.mono V14.size)
        clear V14
        clear u15
        clear t4
        go_wp2_with fail
        refine (markIntS_any _ _ _ _ _ _ _ x2 (by omega) (by have := hs2; omega)).mono ?_
        rintro e w16' ⟨rfl, ⟨Lx2, mx2, Ux2⟩, G16⟩
        have HUx2 := Lib.hid Ux2
        clear Ux2
        replace z2 := z2.grown G16 Dz2_x2
        replace z3 := z3.grown G16 Dz3_x2
        replace z4 := z4.grown G16 Dz4_x2
        replace r0 := r0.grown G16 Dr0_x2
        replace x3 := x3.grown G16 Dx2_x3.symm
        replace x4 := x4.grown G16 Dx2_x4.symm
        replace g0 := g0.grown G16 Dx2_g0.symm
        have u16 : Below w.heap.size w15' w16' := below_grownBy G16 V15.size (fun x hc hx => Nat.le_trans VB_x2 (mx2.range x hc hx).1)
        have V16 : Below w.heap.size w w16' := V15.trans u16
        clear V15 u16 G16 x2
        have x2 := mx2
        clear mx2
        go_wp2_with fail
        refine (markIntS_any _ _ _ _ _ _ _ x3 (by omega) (by have := hs3; omega)).mono ?_
        rintro e w17' ⟨rfl, ⟨Lx3, mx3, Ux3⟩, G17⟩
        have HUx3 := Lib.hid Ux3
        clear Ux3
        replace z2 := z2.grown G17 Dz2_x3
        replace z3 := z3.grown G17 Dz3_x3
        replace z4 := z4.grown G17 Dz4_x3
        replace r0 := r0.grown G17 Dr0_x3
        replace x2 := x2.grown G17 Dx2_x3
        replace x4 := x4.grown G17 Dx3_x4.symm
        replace g0 := g0.grown G17 Dx3_g0.symm
        have u17 : Below w.heap.size w16' w17' := below_grownBy G17 V16.size (fun x hc hx => Nat.le_trans VB_x3 (mx3.range x hc hx).1)
        have V17 : Below w.heap.size w w17' := V16.trans u17
        clear V16 u17 G17 x3
        have x3 := mx3
        clear mx3
        go_wp2_with fail
        refine (markIntS_any _ _ _ _ _ _ _ x4 (by omega) (by have := hs4; omega)).mono ?_
        rintro e w18' ⟨rfl, ⟨Lx4, mx4, Ux4⟩, G18⟩
        have HUx4 := Lib.hid Ux4
        clear Ux4
        replace z2 := z2.grown G18 Dz2_x4
        replace z3 := z3.grown G18 Dz3_x4
        replace z4 := z4.grown G18 Dz4_x4
        replace r0 := r0.grown G18 Dr0_x4
        replace x2 := x2.grown G18 Dx2_x4
        replace x3 := x3.grown G18 Dx3_x4
        replace g0 := g0.grown G18 Dx4_g0.symm
        have u18 : Below w.heap.size w17' w18' := below_grownBy G18 V17.size (fun x hc hx => Nat.le_trans VB_x4 (mx4.range x hc hx).1)
        have V18 : Below w.heap.size w w18' := V17.trans u18
        clear V17 u18 G18 x4
        have x4 := mx4
        clear mx4
        go_wp2_with fail
        refine (eqIntS_same _ _ _ _ _ _ _ _ g0.ints r0.ints).mono ?_
        rintro e w19' ⟨rfl, q19⟩
        have u19 := below_of_quiet q19
        clear q19
        replace z2 := z2.below u19
        replace z3 := z3.below u19
        replace z4 := z4.below u19
        replace r0 := r0.below u19
        replace x2 := x2.below u19
        replace x3 := x3.below u19
        replace x4 := x4.below u19
        replace g0 := g0.below u19
        have V19 : Below w.heap.size w w19' := V18.trans (u19.mono V18.size)
        clear V18
        clear u19
        clear x2
        clear x3
        clear x4
        have hlg0 : g_n0 ≤ 1000000 := by rw [g0.len]; exact msL_len a0 a1 l2 l3 l4
        go_wp2_with fail
        refine (markIntS_any _ _ _ _ _ _ _ g0 (by omega) (by have := hlg0; omega)).mono ?_
        rintro e w20' ⟨rfl, ⟨Lg0, mg0, Ug0⟩, G20⟩
        have HUg0 := Lib.hid Ug0
        clear Ug0
        replace z2 := z2.grown G20 Dz2_g0
        replace z3 := z3.grown G20 Dz3_g0
        replace z4 := z4.grown G20 Dz4_g0
        replace r0 := r0.grown G20 Dr0_g0
        have u20 : Below w.heap.size w19' w20' := below_grownBy G20 V19.size (fun x hc hx => Nat.le_trans VB_g0 (mg0.range x hc hx).1)
        have V20 : Below w.heap.size w w20' := V19.trans u20
        clear V19 u20 G20 g0
        have g0 := mg0
        clear mg0
        go_wp2_with fail
        refine (heldIntS_any _ _ _ _ _ _ g0.ints HUg0.out (by omega) (by have := hlg0; omega)).mono ?_
        rintro e w21' ⟨rfl, q21⟩
        have u21 := below_of_quiet q21
        clear q21
        replace z2 := z2.below u21
        replace z3 := z3.below u21
        replace z4 := z4.below u21
        replace r0 := r0.below u21
        replace g0 := g0.below u21
        have V21 : Below w.heap.size w w21' := V20.trans (u21.mono V20.size)
        clear V20
        clear u21
        go_wp2_with fail
        refine (toIntS_any _ _ _ l2 _ z2 hs2).mono ?_
        rintro e w22' ⟨x_a2, x_c2, rfl, x2, u22⟩
        have Dz2_x2 := z2.apart x2 (Nat.le_refl _)
        have Dz3_x2 := z3.apart x2 (Nat.le_refl _)
        have Dz4_x2 := z4.apart x2 (Nat.le_refl _)
        have Dr0_x2 := r0.apart x2 (Nat.le_refl _)
        have Dg0_x2 := g0.apart x2 (Nat.le_refl _)
        replace z2 := z2.below u22
        replace z3 := z3.below u22
        replace z4 := z4.below u22
        replace r0 := r0.below u22
        replace g0 := g0.below u22
        have V22 : Below w.heap.size w w22' := V21.trans (u22.mono V21.size)
        clear V21
        clear u22
        go_wp2_with fail
        refine (toIntS_any _ _ _ l3 _ z3 hs3).mono ?_
        rintro e w23' ⟨x_a3, x_c3, rfl, x3, u23⟩
        have Dz2_x3 := z2.apart x3 (Nat.le_refl _)
        have Dz3_x3 := z3.apart x3 (Nat.le_refl _)
        have Dz4_x3 := z4.apart x3 (Nat.le_refl _)
        have Dr0_x3 := r0.apart x3 (Nat.le_refl _)
        have Dg0_x3 := g0.apart x3 (Nat.le_refl _)
        have Dx2_x3 := x2.apart x3 (Nat.le_refl _)
        replace z2 := z2.below u23
        replace z3 := z3.below u23
        replace z4 := z4.below u23
        replace r0 := r0.below u23
        replace g0 := g0.below u23
        replace x2 := x2.below u23
        have V23 : Below w.heap.size w w23' := V22.trans (u23.mono V22.size)
        clear V22
        clear u23
        go_wp2_with fail
        refine (toIntS_any _ _ _ l4 _ z4 hs4).mono ?_
        rintro e w24' ⟨x_a4, x_c4, rfl, x4, u24⟩
        have Dz2_x4 := z2.apart x4 (Nat.le_refl _)
        have Dz3_x4 := z3.apart x4 (Nat.le_refl _)
        have Dz4_x4 := z4.apart x4 (Nat.le_refl _)
        have Dr0_x4 := r0.apart x4 (Nat.le_refl _)
        have Dg0_x4 := g0.apart x4 (Nat.le_refl _)
        have Dx2_x4 := x2.apart x4 (Nat.le_refl _)
        have Dx3_x4 := x3.apart x4 (Nat.le_refl _)
        replace z2 := z2.below u24
        replace z3 := z3.below u24
        replace z4 := z4.below u24
        replace r0 := r0.below u24
        replace g0 := g0.below u24
        replace x2 := x2.below u24
        replace x3 := x3.below u24
        have V24 : Below w.heap.size w w24' := V23.trans (u24.mono V23.size)
        clear V23
        clear u24
        go_wp2_with fail
        refine (MixedSum_any _ _ _ _ _ l2 _ _ _ l3 _ _ _ l4 _ x2.ints x3.ints x4.ints).mono ?_
        rintro e w25' ⟨h_a0, h_n0, h_c0, rfl, h0, u25⟩
        replace z2 := z2.below u25
        replace z3 := z3.below u25
        replace z4 := z4.below u25
        replace r0 := r0.below u25
        replace g0 := g0.below u25
        replace x2 := x2.below u25
        replace x3 := x3.below u25
        replace x4 := x4.below u25
        have V25 : Below w.heap.size w w25' := V24.trans (u25.mono V24.size)
        clear V24
        clear u25
        clear x2
        clear x3
        clear x4
        go_wp2_with fail
        refine (eqIntS_same _ _ _ _ _ _ _ _ h0.ints r0.ints).mono ?_
        rintro e w26' ⟨rfl, q26⟩
        have u26 := below_of_quiet q26
        clear q26
        replace z2 := z2.below u26
        replace z3 := z3.below u26
        replace z4 := z4.below u26
        replace r0 := r0.below u26
        replace g0 := g0.below u26
        replace h0 := h0.below u26
        have V26 : Below w.heap.size w w26' := V25.trans (u26.mono V25.size)
        clear V25
        clear u26
        go_wp2_with fail
        refine (heldIntS_any _ _ _ _ _ _ g0.ints HUg0.out (by omega) (by have := hlg0; omega)).mono ?_
        rintro e w27' ⟨rfl, q27⟩
        have u27 := below_of_quiet q27
        clear q27
        replace z2 := z2.below u27
        replace z3 := z3.below u27
        replace z4 := z4.below u27
        replace r0 := r0.below u27
        replace g0 := g0.below u27
        replace h0 := h0.below u27
        have V27 : Below w.heap.size w w27' := V26.trans (u27.mono V26.size)
        clear V26
        clear u27
        go_wp2
        go_ret
        exact ⟨rfl, V27⟩
      · go_enter Try.func12, Try.ntmps12
        go_wp2
        go_ret
        exact ⟨rfl, Below.refl _ _⟩
    · go_enter Try.func12, Try.ntmps12
      go_wp2
      go_ret
      exact ⟨rfl, Below.refl _ _⟩
  · go_enter Try.func12, Try.ntmps12
    go_wp2
    go_ret
    exact ⟨rfl, Below.refl _ _⟩
end Go.Proofs.Ytkpnncpgdiboaaa
