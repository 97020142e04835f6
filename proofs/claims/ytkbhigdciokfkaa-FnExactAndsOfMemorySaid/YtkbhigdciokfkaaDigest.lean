/- Copies, digests and what is drawn from them: the program's and the reference's functions compute the same plain functions. -/
import Derived.Test.YtkbhigdciokfkaaOwn
namespace Go.Proofs.Ytkbhigdciokfkaa
open Go.RowKit

/-- Numbers whose digests do not wrap. -/
def WB (l : List Int) : Prop := ∀ x ∈ l, -4000000000 ≤ x ∧ x ≤ 4000000000
theorem WB.app {l l' : List Int} (h : WB l) (h' : WB l') : WB (l ++ l') := fun x hx => by
  rcases List.mem_append.1 hx with h1 | h1
  · exact h x h1
  · exact h' x h1
theorem WB.one {x : Int} (h : -4000000000 ≤ x ∧ x ≤ 4000000000) : WB [x] := fun y hy => by simp at hy; subst hy; exact h
theorem WB.two {x y : Int} (h : -4000000000 ≤ x ∧ x ≤ 4000000000) (h' : -4000000000 ≤ y ∧ y ≤ 4000000000) : WB [x, y] := fun z hz => by
  simp at hz; rcases hz with rfl | rfl
  · exact h
  · exact h'
theorem WB.cons {x : Int} {l : List Int} (h : -4000000000 ≤ x ∧ x ≤ 4000000000) (h' : WB l) : WB (x :: l) := fun z hz => by
  rcases List.mem_cons.1 hz with rfl | hz
  · exact h
  · exact h' z hz
theorem WB.nil : WB [] := fun x hx => by cases hx

def digStep (a x : Int) : Int := (25214 * a + x + 17) % 1000003 * ((25214 * a + x + 17) % 1000003 / 64 + 5) % 1000003
theorem digStep_range (a x : Int) : 0 ≤ digStep a x ∧ digStep a x ≤ 1000002 := by
  unfold digStep
  exact ⟨Int.emod_nonneg _ (by decide), by have := Int.emod_lt_of_pos ((25214 * a + x + 17) % 1000003 * ((25214 * a + x + 17) % 1000003 / 64 + 5)) (by decide : (0 : Int) < 1000003); omega⟩
def digA (l : List Int) (z : Int) : Int := l.foldl digStep z
theorem digA_snoc (l : List Int) (z : Int) (k : Nat) (h : k < l.length) : digA (l.take (k + 1)) z = digStep (digA (l.take k) z) (l.getD k 0) := by
  unfold digA
  rw [List.take_succ_eq_append_getElem h, List.foldl_append]
  simp [List.getD, h]
theorem digA_range (l : List Int) : ∀ (z : Int), 0 ≤ z → z ≤ 2000000 → 0 ≤ digA l z ∧ digA l z ≤ 2000000 := by
  unfold digA
  induction l with
  | nil => intro z h1 h2; exact ⟨h1, h2⟩
  | cons x l ih => intro z h1 h2; simp only [List.foldl_cons]; have := digStep_range z x; exact ih _ this.1 (by omega)
def digI (l : List Int) : Int := digA (l ++ [8, 1]) (40503 + l.length) % 65536
theorem digI_range (l : List Int) : 0 ≤ digI l ∧ digI l ≤ 65535 := by
  unfold digI
  exact ⟨Int.emod_nonneg _ (by decide), by have := Int.emod_lt_of_pos (digA (l ++ [8, 1]) (40503 + l.length)) (by decide : (0 : Int) < 65536); omega⟩
theorem sq_range {b : Int} (h0 : 0 ≤ b) (h1 : b ≤ 1000002) : 0 ≤ b * (b / 64 + 5) ∧ b * (b / 64 + 5) ≤ 20000000000 := by
  have a1 : 0 ≤ b / 64 + 5 := by omega
  have a2 : b / 64 + 5 ≤ 15635 := by omega
  refine ⟨Int.mul_nonneg h0 a1, ?_⟩
  have : b * (b / 64 + 5) ≤ 1000002 * 15635 := Int.mul_le_mul h1 a2 a1 (by omega)
  omega

set_option maxHeartbeats 1000000 in
theorem Clone_any (a : Option Addr) (n c : Nat) (l : List Int) (w : World) (h : Ints w a n c l) (hs : n ≤ 10000000) :
    Calls Try.prog 52 #[.slice a n c] w fun e w' => ∃ a' c', e = .returned (.slice a' n c') ∧ Own w' w.heap.size a' n c' l ∧ Below w.heap.size w w' := by
  have hnil := fun (W : World) => Lib.run_eql_slice_nil W 23 3 a n c 0 0 Try.underlying23
  have hn := h.le
  cases a with
  | none =>
    have hc : c = 0 := h.2.2.2.1 rfl
    have hn0 : n = 0 := by have := h.2.1; omega
    subst hc; subst hn0
    have hl : l = [] := List.eq_nil_of_length_eq_zero h.len.symm
    subst hl
    go_enter Try.func52, Try.ntmps52
    go_wp2
    go_ret
    exact ⟨_, _, rfl, Own.nil0 _ _ _, Below.refl _ _⟩
  | some y =>
    go_enter Try.func52, Try.ntmps52
    go_wp2_with (at_builtin; refine wpList_appI _ rfl _ _ rfl w.heap.size _ 0 0 [] rfl (Own.nil0 _ _ _) _ n c l rfl (h.alloc _) (by omega) (by simp) ?_)
    intro a2 c2 w1 own hb _
    try simp only [Nat.zero_add, List.nil_append] at own
    have hb1 := ((Below.refl _ w).alloc (Nat.le_refl _) _).trans hb
    clear hb
    go_wp2
    go_ret
    exact ⟨_, _, ret_slice (by omega), own, hb1⟩
set_option maxHeartbeats 1000000 in
theorem l1Own_any (a : Option Addr) (n c : Nat) (l : List Int) (w : World) (h : Ints w a n c l) (hs : n ≤ 10000000) :
    Calls Try.prog 142 #[.slice a n c] w fun e w' => ∃ a' c', e = .returned (.slice a' n c') ∧ Own w' w.heap.size a' n c' l ∧ Below w.heap.size w w' := by
  have hn := h.le
  go_enter Try.func142, Try.ntmps142
  go_wp2_with (at_builtin; refine wpList_appI _ rfl _ _ rfl w.heap.size _ 0 0 [] rfl (Own.nil0 _ _ _) _ n c l rfl (h.alloc _) (by omega) (by simp) ?_)
  intro a2 c2 w1 own hb _
  try simp only [Nat.zero_add, List.nil_append] at own
  have hb1 := ((Below.refl _ w).alloc (Nat.le_refl _) _).trans hb
  clear hb
  go_wp2
  go_ret
  exact ⟨_, _, ret_slice (by omega), own, hb1⟩
set_option maxHeartbeats 400000 in
theorem btMod_same (n p : Int) (w : World) (h1 : 1 ≤ p) (h2 : p ≤ 1000000000) :
    Calls Try.prog 156 #[.int .i64 n, .int .i64 p] w fun e w' => e = .returned (.int .i64 (n % p)) ∧ w' = w := by
  have b1 := Int.tmod_lt_of_pos n (by omega : 0 < p)
  have b2 := Int.lt_tmod_of_pos n (by omega : 0 < p)
  have E2 := Lib.hid (mod_core p n h1)
  go_enter Try.func156, Try.ntmps156
  go_wp2
  go_ret
  exact ⟨ret_int E2.out, rfl⟩
theorem btMod_any (n p : Int) (w : World) (h1 : 1 ≤ p) (h2 : p ≤ 1000000000) :
    Calls Try.prog 156 #[.int .i64 n, .int .i64 p] w fun e w' => e = .returned (.int .i64 (n % p)) ∧ ∃ m, w' = w.drewN m :=
  (btMod_same n p w h1 h2).mono fun _ _ ⟨he, hw⟩ => ⟨he, 0, hw⟩
theorem snoc_getD (l l' : List Int) (k : Nat) (h : k < l.length) : (l ++ l').getD k 0 = l.getD k 0 := by simp [List.getD, List.getElem?_append_left h]
theorem mem_range {l : List Int} (h : WB l) (k : Nat) (hk : k < l.length) : -4000000000 ≤ l.getD k 0 ∧ l.getD k 0 ≤ 4000000000 := h _ (getD_mem l k hk)
theorem WB_end : WB [8, 1] := WB.two (by omega) (by omega)
set_option maxHeartbeats 2000000 in
theorem digest_any (a : Option Addr) (n c : Nat) (l : List Int) (w : World) (h : Ints w a n c l) (hs : n ≤ 1000000) (hw : WB l) :
    Calls Try.prog 153 #[.slice a n c] w fun e w' => e = .returned (.int .i64 (digI l)) ∧ Below w.heap.size w w' := by
  have hn := h.le
  have HL := Lib.hid h.len
  have HW := Lib.hid (WB.app hw WB_end)
  clear hw
  go_enter Try.func153, Try.ntmps153
  go_wp2_with fail
  refine (Clone_any _ _ _ l _ h (by omega)).mono ?_; rintro e w1 ⟨a1, c1, rfl, o1, u1⟩
  go_wp2_with (at_builtin; refine wpList_appI _ rfl _ _ rfl w.heap.size a1 n c1 l rfl (o1.alloc _) _ 2 2 [8, 1] rfl (Ints.lit2 _ _ _ _) (by omega) (by have := u1.size; simp; omega) ?_)
  intro a2 c2 w2 o2 u2 _
  have v2 := (u1.alloc u1.size (.cells #[.int .i64 8, .int .i64 1] 3)).trans u2
  have h2 := o2.ints
  clear u1 u2 o1 o2
  go_wp2
  go_loopw [3, 14] (fun u v wr => ∃ k : Nat, k ≤ n + 2 ∧ v = .int .i64 k ∧ u = .int .i64 (digA ((l ++ [8, 1]).take k) (40503 + l.length)) ∧ ∃ m, wr = w2.drewN m) (fun _ v _ => n + 2 - (intOf v).toNat)
  case atStart => exact ⟨0, Nat.zero_le _, rfl, v_int (by rw [HL.out]; simp [digA]), 0, rfl⟩
  case round =>
    obtain ⟨k, hk, rfl, rfl, m, rfl⟩ := hrel
    have hzr := digA_range ((l ++ [8, 1]).take k) (40503 + l.length) (by omega) (by have := HL.out; omega)
    by_cases hlt : k < n + 2
    · obtain ⟨g, o, rfl, hcell⟩ := h2.at k hlt
      have hkl : k < (l ++ [8, 1]).length := by have := HL.out; simp; omega
      have hs := digA_snoc (l ++ [8, 1]) (40503 + l.length) k hkl
      have hx := mem_range HW.out k hkl
      obtain ⟨x, hxe⟩ : ∃ x, x = (l ++ [8, 1]).getD k 0 := ⟨_, rfl⟩
      rw [← hxe] at hcell hs hx
      clear hxe
      obtain ⟨z, hze⟩ : ∃ z, z = digA ((l ++ [8, 1]).take k) (40503 + l.length) := ⟨_, rfl⟩
      rw [← hze] at hs hzr
      rw [← hze]
      clear hze
      unfold digStep at hs
      have HS := Lib.hid hs
      clear hs
      obtain ⟨hz1, hz2⟩ := hzr
      obtain ⟨hx1, hx2⟩ := hx
      obtain ⟨b, hb⟩ : ∃ b, b = (25214 * z + x + 17) % 1000003 := ⟨_, rfl⟩
      have hb1 : 0 ≤ b := by rw [hb]; exact Int.emod_nonneg _ (by decide)
      have hb2 : b ≤ 1000002 := by rw [hb]; have := Int.emod_lt_of_pos (25214 * z + x + 17) (by decide : (0 : Int) < 1000003); omega
      obtain ⟨hs1, hs2⟩ := sq_range hb1 hb2
      · have b1 := Int.tmod_lt_of_pos (25214 * z + x + 17) (by decide : (0 : Int) < 1000003)
        have b2 := Int.lt_tmod_of_pos (25214 * z + x + 17) (by decide : (0 : Int) < 1000003)
        have he : ((25214 * z + x + 17).tmod 1000003 + 1000003) % 1000003 = b := by rw [hb]; exact mod_core 1000003 _ (by decide)
        have HB := Lib.hid hb
        clear hb
        go_wp2
        go_roundw
        case rel => exact ⟨k + 1, by omega, by go_num, v_int (by rw [HS.out, HB.out]), _, rfl⟩
        case measure => simp [intOf]; omega
    · obtain rfl : k = n + 2 := by omega
      have HE := Lib.hid (show digI l = digA ((l ++ [8, 1]).take (n + 2)) (40503 + l.length) % 65536 by
        unfold digI
        rw [List.take_of_length_le (by have := HL.out; simp; omega)])
      obtain ⟨z, hze⟩ : ∃ z, z = digA ((l ++ [8, 1]).take (n + 2)) (40503 + l.length) := ⟨_, rfl⟩
      rw [← hze] at HE hzr
      rw [← hze]
      clear hze
      obtain ⟨hz1, hz2⟩ := hzr
      go_wp2
      go_ret
      exact ⟨ret_int HE.out.symm, below_drewN v2 _⟩
set_option maxHeartbeats 2000000 in
theorem dgMix_any (a : Option Addr) (n c : Nat) (l : List Int) (w : World) (h : Ints w a n c l) (hs : n ≤ 1000000) (hw : WB l) :
    Calls Try.prog 152 #[.slice a n c] w fun e w' => e = .returned (.int .i64 (digI l)) ∧ Below w.heap.size w w' := by
  have hn := h.le
  have HL := Lib.hid h.len
  have HW := Lib.hid (WB.app hw WB_end)
  clear hw
  go_enter Try.func152, Try.ntmps152
  go_wp2_with fail
  refine (l1Own_any _ _ _ l _ h (by omega)).mono ?_; rintro e w1 ⟨a1, c1, rfl, o1, u1⟩
  go_wp2_with (at_builtin; refine wpList_appI _ rfl _ _ rfl w.heap.size a1 n c1 l rfl (o1.alloc _) _ 2 2 [8, 1] rfl (Ints.lit2 _ _ _ _) (by omega) (by have := u1.size; simp; omega) ?_)
  intro a2 c2 w2 o2 u2 _
  have v2 := (u1.alloc u1.size (.cells #[.int .i64 8, .int .i64 1] 3)).trans u2
  have h2 := o2.ints
  clear u1 u2 o1 o2
  go_wp2
  go_loopw [3, 14] (fun u v wr => ∃ k : Nat, k ≤ n + 2 ∧ v = .int .i64 k ∧ u = .int .i64 (digA ((l ++ [8, 1]).take k) (40503 + l.length)) ∧ ∃ m, wr = w2.drewN m) (fun _ v _ => n + 2 - (intOf v).toNat)
  case atStart => exact ⟨0, Nat.zero_le _, rfl, v_int (by rw [HL.out]; simp [digA]), 0, rfl⟩
  case round =>
    obtain ⟨k, hk, rfl, rfl, m, rfl⟩ := hrel
    have hzr := digA_range ((l ++ [8, 1]).take k) (40503 + l.length) (by omega) (by have := HL.out; omega)
    by_cases hlt : k < n + 2
    · obtain ⟨g, o, rfl, hcell⟩ := h2.at k hlt
      have hkl : k < (l ++ [8, 1]).length := by have := HL.out; simp; omega
      have hs := digA_snoc (l ++ [8, 1]) (40503 + l.length) k hkl
      have hx := mem_range HW.out k hkl
      obtain ⟨x, hxe⟩ : ∃ x, x = (l ++ [8, 1]).getD k 0 := ⟨_, rfl⟩
      rw [← hxe] at hcell hs hx
      clear hxe
      obtain ⟨z, hze⟩ : ∃ z, z = digA ((l ++ [8, 1]).take k) (40503 + l.length) := ⟨_, rfl⟩
      rw [← hze] at hs hzr
      rw [← hze]
      clear hze
      unfold digStep at hs
      have HS := Lib.hid hs
      clear hs
      obtain ⟨hz1, hz2⟩ := hzr
      obtain ⟨hx1, hx2⟩ := hx
      obtain ⟨b, hb⟩ : ∃ b, b = (25214 * z + x + 17) % 1000003 := ⟨_, rfl⟩
      have hb1 : 0 ≤ b := by rw [hb]; exact Int.emod_nonneg _ (by decide)
      have hb2 : b ≤ 1000002 := by rw [hb]; have := Int.emod_lt_of_pos (25214 * z + x + 17) (by decide : (0 : Int) < 1000003); omega
      obtain ⟨hs1, hs2⟩ := sq_range hb1 hb2
      · have HB := Lib.hid hb
        go_wp2_with fail
        refine (btMod_any _ _ _ (by omega) (by omega)).mono ?_; rintro e w4 ⟨rfl, q4⟩
        rw [← hb]
        clear hb
        obtain ⟨m4, rfl⟩ := q4
        go_wp2
        go_roundw
        case rel => exact ⟨k + 1, by omega, by go_num, v_int (by rw [HS.out, HB.out]), _, rfl⟩
        case measure => simp [intOf]; omega
    · obtain rfl : k = n + 2 := by omega
      have HE := Lib.hid (show digI l = digA ((l ++ [8, 1]).take (n + 2)) (40503 + l.length) % 65536 by
        unfold digI
        rw [List.take_of_length_le (by have := HL.out; simp; omega)])
      obtain ⟨z, hze⟩ : ∃ z, z = digA ((l ++ [8, 1]).take (n + 2)) (40503 + l.length) := ⟨_, rfl⟩
      rw [← hze] at HE hzr
      rw [← hze]
      clear hze
      obtain ⟨hz1, hz2⟩ := hzr
      go_wp2
      go_ret
      exact ⟨ret_int HE.out.symm, below_drewN v2 _⟩
set_option maxHeartbeats 1000000 in
theorem with_any (a : Option Addr) (n c : Nat) (l : List Int) (a' : Option Addr) (n' c' : Nat) (l' : List Int) (w : World) (h : Ints w a n c l) (h' : Ints w a' n' c' l') (hs : n ≤ 10000000) (hs' : n' ≤ 10000000) :
    Calls Try.prog 154 #[.slice a n c, .slice a' n' c'] w fun e w' => ∃ a2 c2, e = .returned (.slice a2 (n + n') c2) ∧ Own w' w.heap.size a2 (n + n') c2 (l ++ l') ∧ Below w.heap.size w w' := by
  go_enter Try.func154, Try.ntmps154
  go_wp2_with fail
  refine (Clone_any _ _ _ l _ h hs).mono ?_; rintro e w1 ⟨a1, c1, rfl, o1, u1⟩
  go_wp2_with (at_builtin; refine wpList_appI _ rfl _ _ rfl w.heap.size a1 n c1 l rfl o1 _ n' c' l' rfl (h'.below u1) (by omega) u1.size ?_)
  intro a2 c2 w2 o2 u2 _
  have v2 := u1.trans u2
  clear u1 u2
  go_wp2
  go_ret
  exact ⟨_, _, rfl, o2, v2⟩
/-- A number less than n. -/
def numI (l : List Int) (n : Int) : Int := digI (l ++ [n]) % n
theorem numI_range (l : List Int) (n : Int) (h : 1 ≤ n) : 0 ≤ numI l n ∧ numI l n ≤ n - 1 := by
  unfold numI
  exact ⟨Int.emod_nonneg _ (by omega), by have := Int.emod_lt_of_pos (digI (l ++ [n])) (by omega : 0 < n); omega⟩
/-- Drawn bits. -/
def bitsI (l : List Int) (n : Nat) : List Int := (List.range n).map fun (i : Nat) => digI (l ++ [(i : Int), 2]) / 8 % 2
theorem bitsI_succ (l : List Int) (n : Nat) : bitsI l (n + 1) = bitsI l n ++ [digI (l ++ [(n : Int), 2]) / 8 % 2] := by unfold bitsI; rw [List.range_succ, List.map_append]; rfl
theorem bitsI_len (l : List Int) (n : Nat) : (bitsI l n).length = n := by simp [bitsI]
theorem bitsI_bit (l : List Int) (n k : Nat) (h : k < n) : (bitsI l n).getD k 0 = 0 ∨ (bitsI l n).getD k 0 = 1 := by
  unfold bitsI
  simp [List.getD, h]
  omega
set_option maxHeartbeats 2000000 in
theorem bitsFrom_any (a : Option Addr) (m c : Nat) (l : List Int) (N : Int) (w : World) (h : Ints w a m c l) (hs : m ≤ 900000) (hw : WB l) (hN : 0 ≤ N) (hN2 : N ≤ 1000000) :
    Calls Try.prog 140 #[.slice a m c, .int .i64 N] w fun e w' => ∃ a' c', e = .returned (.slice a' N.toNat c') ∧ Own w' w.heap.size a' N.toNat c' (bitsI l N.toNat) ∧ Below w.heap.size w w' := by
  have HW := Lib.hid hw
  clear hw
  go_enter Try.func140, Try.ntmps140
  go_wp2
  have own0 : Own (w.alloc (.cells #[] 3)) w.heap.size (some ⟨w.heap.size, 0, none⟩) 0 0 (bitsI l 0) := Own.nil0 _ _ _
  have bel0 : Below w.heap.size w (w.alloc (.cells #[] 3)) := (Below.refl _ _).alloc (Nat.le_refl _) _
  go_loopw [5, 9] (fun u v wr => ∃ k : Nat, (k : Int) ≤ N ∧ v = .int .i64 k ∧ Below w.heap.size w wr ∧ ∃ a1 c1, u = .slice a1 k c1 ∧ Own wr w.heap.size a1 k c1 (bitsI l k)) (fun _ v _ => N.toNat - (intOf v).toNat)
  case atStart => exact ⟨0, by omega, rfl, bel0, _, _, rfl, own0⟩
  case round =>
    obtain ⟨k, hk, rfl, hbel, a1, c1, rfl, own⟩ := hrel
    have h1 := h.below hbel
    by_cases hlt : (k : Int) < N
    · have hd := digI_range (l ++ [(k : Int), 2])
      obtain ⟨d1, d2⟩ := hd
      have HS := Lib.hid (bitsI_succ l k)
      go_wp2_with fail
      refine (with_any _ _ _ l _ _ _ [(k : Int), 2] _ (h1.alloc _) (Ints.lit2 _ _ _ _) (by omega) (by omega)).mono ?_; rintro e w1 ⟨a3, c3, rfl, o3, u3⟩
      have v3 := below_a1 u3
      clear u3
      have own1 := own.below v3
      have b1 := hbel.trans (v3.mono hbel.size)
      clear own v3 h1 hbel
      go_wp2_with fail
      refine (digest_any _ _ _ (l ++ [(k : Int), 2]) _ o3.ints (by omega) (WB.app HW.out (WB.two (by omega) (by omega)))).mono ?_; rintro e w2 ⟨rfl, u5⟩
      have own2 := own1.below u5
      have b2 := b1.trans (u5.mono b1.size)
      clear own1 u5 b1 o3
      go_wp2_with (at_builtin; refine wpList_appI _ rfl _ _ rfl w.heap.size a1 k c1 (bitsI l k) rfl (own2.alloc _) _ 1 1 [digI (l ++ [(k : Int), 2]) / 8 % 2] rfl (Ints.lit1 _ _ _) (by omega) (by have := b2.size; simp; omega) ?_)
      intro a5 c5 w3 o5 u5 _
      have b3 := (b2.alloc b2.size (.cells #[.int .i64 (digI (l ++ [(k : Int), 2]) / 8 % 2)] 3)).trans u5
      clear u5 b2 own2
      go_wp2
      go_roundw
      case rel => exact ⟨k + 1, by omega, by go_num, b3, a5, c5, rfl, by rw [HS.out]; exact o5⟩
      case measure => simp [intOf]; omega
    · have HE := Lib.hid (show N.toNat = k by omega)
      go_wp2
      go_ret
      refine ⟨a1, c1, ?_, ?_, hbel⟩
      · rw [HE.out]; rfl
      · rw [HE.out]; exact own
set_option maxHeartbeats 2000000 in
theorem dgBits_any (a : Option Addr) (m c : Nat) (l : List Int) (N : Int) (w : World) (h : Ints w a m c l) (hs : m ≤ 900000) (hw : WB l) (hN : 0 ≤ N) (hN2 : N ≤ 1000000) :
    Calls Try.prog 137 #[.slice a m c, .int .i64 N] w fun e w' => ∃ a' c', e = .returned (.slice a' N.toNat c') ∧ Own w' w.heap.size a' N.toNat c' (bitsI l N.toNat) ∧ Below w.heap.size w w' := by
  have HW := Lib.hid hw
  clear hw
  go_enter Try.func137, Try.ntmps137
  go_wp2
  have own0 : Own w w.heap.size none 0 0 (bitsI l 0) := Own.nil0 _ _ _
  have bel0 := Below.refl w.heap.size w
  go_loopw [5, 6] (fun u v wr => ∃ k : Nat, (k : Int) ≤ N ∧ v = .int .i64 k ∧ Below w.heap.size w wr ∧ ∃ a1 c1, u = .slice a1 k c1 ∧ Own wr w.heap.size a1 k c1 (bitsI l k)) (fun _ v _ => N.toNat - (intOf v).toNat)
  case atStart => exact ⟨0, by omega, rfl, bel0, _, _, rfl, own0⟩
  case round =>
    obtain ⟨k, hk, rfl, hbel, a1, c1, rfl, own⟩ := hrel
    have h1 := h.below hbel
    by_cases hlt : (k : Int) < N
    · have hd := digI_range (l ++ [(k : Int), 2])
      obtain ⟨d1, d2⟩ := hd
      have HS := Lib.hid (bitsI_succ l k)
      go_wp2_with fail
      refine (l1Own_any _ _ _ l _ h1 (by omega)).mono ?_; rintro e w0 ⟨a4, c4, rfl, o4, u4⟩
      go_wp2_with (at_builtin; refine wpList_appI _ rfl _ _ rfl wr.heap.size a4 m c4 l rfl (o4.alloc _) _ 2 2 [(k : Int), 2] rfl (Ints.lit2 _ _ _ _) (by omega) (by have := u4.size; simp; omega) ?_)
      intro a3 c3 w1 o3 u3 _
      have v3 := (u4.alloc u4.size (.cells #[.int .i64 k, .int .i64 2] 3)).trans u3
      clear u4 u3 o4
      have own1 := own.below v3
      have b1 := hbel.trans (v3.mono hbel.size)
      clear own v3 h1 hbel
      go_wp2_with fail
      refine (dgMix_any _ _ _ (l ++ [(k : Int), 2]) _ o3.ints (by omega) (WB.app HW.out (WB.two (by omega) (by omega)))).mono ?_; rintro e w2 ⟨rfl, u5⟩
      have own2 := own1.below u5
      have b2 := b1.trans (u5.mono b1.size)
      clear own1 u5 b1 o3
      go_wp2_with (at_builtin; refine wpList_appI _ rfl _ _ rfl w.heap.size a1 k c1 (bitsI l k) rfl (own2.alloc _) _ 1 1 [digI (l ++ [(k : Int), 2]) / 8 % 2] rfl (Ints.lit1 _ _ _) (by omega) (by have := b2.size; simp; omega) ?_)
      intro a5 c5 w3 o5 u5 _
      have b3 := (b2.alloc b2.size (.cells #[.int .i64 (digI (l ++ [(k : Int), 2]) / 8 % 2)] 3)).trans u5
      clear u5 b2 own2
      go_wp2
      go_roundw
      case rel => exact ⟨k + 1, by omega, by go_num, b3, a5, c5, rfl, by rw [HS.out]; exact o5⟩
      case measure => simp [intOf]; omega
    · have HE := Lib.hid (show N.toNat = k by omega)
      go_wp2
      go_ret
      refine ⟨a1, c1, ?_, ?_, hbel⟩
      · rw [HE.out]; rfl
      · rw [HE.out]; exact own
end Go.Proofs.Ytkbhigdciokfkaa
