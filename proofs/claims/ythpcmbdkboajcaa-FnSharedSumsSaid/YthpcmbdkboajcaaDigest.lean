/- Copies, digests and what is drawn from them: the program's and the reference's functions compute the same plain functions. -/
import Derived.Test.YthpcmbdkboajcaaOwn
namespace Go.Proofs.Ythpcmbdkboajcaa
open Go.RowKit

/-- Numbers whose digests do not wrap. -/
def WB (l : List Int) : Prop := ∀ x ∈ l, -4000000000 ≤ x ∧ x ≤ 4000000000
theorem WB.app {l l' : List Int} (h : WB l) (h' : WB l') : WB (l ++ l') := fun x hx => by
  rcases List.mem_append.1 hx with h1 | h1
  · exact h x h1
  · exact h' x h1
theorem WB.one {x : Int} (h : -4000000000 ≤ x ∧ x ≤ 4000000000) : WB [x] := fun y hy => by simp at hy; subst hy; exact h
theorem WB.two {x y : Int} (h : -4000000000 ≤ x ∧ x ≤ 4000000000) (h' : -4000000000 ≤ y ∧ y ≤ 4000000000) : WB [x, y] := fun z hz => by
  simp at hz; rcases hz with rfl | rfl
  · exact h
  · exact h'
theorem WB.cons {x : Int} {l : List Int} (h : -4000000000 ≤ x ∧ x ≤ 4000000000) (h' : WB l) : WB (x :: l) := fun z hz => by
  rcases List.mem_cons.1 hz with rfl | hz
  · exact h
  · exact h' z hz
theorem WB.nil : WB [] := fun x hx => by cases hx

def digStep (a x : Int) : Int := (25214 * a + x + 17) % 1000003 * ((25214 * a + x + 17) % 1000003 / 64 + 5) % 1000003
theorem digStep_range (a x : Int) : 0 ≤ digStep a x ∧ digStep a x ≤ 1000002 := by
  unfold digStep
  exact ⟨Int.emod_nonneg _ (by decide), by have := Int.emod_lt_of_pos ((25214 * a + x + 17) % 1000003 * ((25214 * a + x + 17) % 1000003 / 64 + 5)) (by decide : (0 : Int) < 1000003); omega⟩
def digA (l : List Int) (z : Int) : Int := l.foldl digStep z
theorem digA_snoc (l : List Int) (z : Int) (k : Nat) (h : k < l.length) : digA (l.take (k + 1)) z = digStep (digA (l.take k) z) (l.getD k 0) := by
  unfold digA
  rw [List.take_succ_eq_append_getElem h, List.foldl_append]
  simp [List.getD, h]
theorem digA_range (l : List Int) : ∀ (z : Int), 0 ≤ z → z ≤ 2000000 → 0 ≤ digA l z ∧ digA l z ≤ 2000000 := by
  unfold digA
  induction l with
  | nil => intro z h1 h2; exact ⟨h1, h2⟩
  | cons x l ih => intro z h1 h2; simp only [List.foldl_cons]; have := digStep_range z x; exact ih _ this.1 (by omega)
def digI (l : List Int) : Int := digA (l ++ [8, 1]) (40503 + l.length) % 65536
theorem digI_range (l : List Int) : 0 ≤ digI l ∧ digI l ≤ 65535 := by
  unfold digI
  exact ⟨Int.emod_nonneg _ (by decide), by have := Int.emod_lt_of_pos (digA (l ++ [8, 1]) (40503 + l.length)) (by decide : (0 : Int) < 65536); omega⟩
theorem sq_range {b : Int} (h0 : 0 ≤ b) (h1 : b ≤ 1000002) : 0 ≤ b * (b / 64 + 5) ∧ b * (b / 64 + 5) ≤ 20000000000 := by
  have a1 : 0 ≤ b / 64 + 5 := by omega
  have a2 : b / 64 + 5 ≤ 15635 := by omega
  refine ⟨Int.mul_nonneg h0 a1, ?_⟩
  have : b * (b / 64 + 5) ≤ 1000002 * 15635 := Int.mul_le_mul h1 a2 a1 (by omega)
  omega

set_option maxHeartbeats 1000000 in
theorem Clone_any (a : Option Addr) (n c : Nat) (l : List Int) (w : World) (h : Ints w a n c l) (hs : n ≤ 10000000) :
    Calls Try.prog 81 #[.slice a n c] w fun e w' => ∃ a' c', e = .returned (.slice a' n c') ∧ Own w' w.heap.size a' n c' l ∧ Below w.heap.size w w' := by
  have hnil := fun (W : World) => Lib.run_eql_slice_nil W 24 3 a n c 0 0 Try.underlying24
  have hn := h.le
  cases a with
  | none =>
    have hc : c = 0 := h.2.2.2.1 rfl
    have hn0 : n = 0 := by have := h.2.1; omega
    subst hc; subst hn0
    have hl : l = [] := List.eq_nil_of_length_eq_zero h.len.symm
    subst hl
    go_enter Try.func81, Try.ntmps81
    go_wp2
    go_ret
    exact ⟨_, _, rfl, Own.nil0 _ _ _, Below.refl _ _⟩
  | some y =>
    go_enter Try.func81, Try.ntmps81
    go_wp2_with (at_builtin; refine wpList_appI _ rfl _ _ rfl w.heap.size _ 0 0 [] rfl (Own.nil0 _ _ _) _ n c l rfl (h.alloc _) (by omega) (by simp) ?_)
    intro a2 c2 w1 own hb _
    try simp only [Nat.zero_add, List.nil_append] at own
    have hb1 := ((Below.refl _ w).alloc (Nat.le_refl _) _).trans hb
    clear hb
    go_wp2
    go_ret
    exact ⟨_, _, ret_slice (by omega), own, hb1⟩
set_option maxHeartbeats 1000000 in
theorem l1Own_any (a : Option Addr) (n c : Nat) (l : List Int) (w : World) (h : Ints w a n c l) (hs : n ≤ 10000000) :
    Calls Try.prog 101 #[.slice a n c] w fun e w' => ∃ a' c', e = .returned (.slice a' n c') ∧ Own w' w.heap.size a' n c' l ∧ Below w.heap.size w w' := by
  have hn := h.le
  go_enter Try.func101, Try.ntmps101
  go_wp2_with (at_builtin; refine wpList_appI _ rfl _ _ rfl w.heap.size _ 0 0 [] rfl (Own.nil0 _ _ _) _ n c l rfl (h.alloc _) (by omega) (by simp) ?_)
  intro a2 c2 w1 own hb _
  try simp only [Nat.zero_add, List.nil_append] at own
  have hb1 := ((Below.refl _ w).alloc (Nat.le_refl _) _).trans hb
  clear hb
  go_wp2
  go_ret
  exact ⟨_, _, ret_slice (by omega), own, hb1⟩
set_option maxHeartbeats 400000 in
theorem btMod_same (n p : Int) (w : World) (h1 : 1 ≤ p) (h2 : p ≤ 1000000000) :
    Calls Try.prog 89 #[.int .i64 n, .int .i64 p] w fun e w' => e = .returned (.int .i64 (n % p)) ∧ w' = w := by
  have b1 := Int.tmod_lt_of_pos n (by omega : 0 < p)
  have b2 := Int.lt_tmod_of_pos n (by omega : 0 < p)
  have E2 := Lib.hid (mod_core p n h1)
  go_enter Try.func89, Try.ntmps89
  go_wp2
  go_ret
  exact ⟨ret_int E2.out, rfl⟩
theorem btMod_any (n p : Int) (w : World) (h1 : 1 ≤ p) (h2 : p ≤ 1000000000) :
    Calls Try.prog 89 #[.int .i64 n, .int .i64 p] w fun e w' => e = .returned (.int .i64 (n % p)) ∧ ∃ m, w' = w.drewN m :=
  (btMod_same n p w h1 h2).mono fun _ _ ⟨he, hw⟩ => ⟨he, 0, hw⟩
theorem snoc_getD (l l' : List Int) (k : Nat) (h : k < l.length) : (l ++ l').getD k 0 = l.getD k 0 := by simp [List.getD, List.getElem?_append_left h]
theorem mem_range {l : List Int} (h : WB l) (k : Nat) (hk : k < l.length) : -4000000000 ≤ l.getD k 0 ∧ l.getD k 0 ≤ 4000000000 := h _ (getD_mem l k hk)
theorem WB_end : WB [8, 1] := WB.two (by omega) (by omega)
set_option maxHeartbeats 2000000 in
theorem digest_any (a : Option Addr) (n c : Nat) (l : List Int) (w : World) (h : Ints w a n c l) (hs : n ≤ 1000000) (hw : WB l) :
    Calls Try.prog 106 #[.slice a n c] w fun e w' => e = .returned (.int .i64 (digI l)) ∧ Below w.heap.size w w' := by
  have hn := h.le
  have HL := Lib.hid h.len
  have HW := Lib.hid (WB.app hw WB_end)
  clear hw
  go_enter Try.func106, Try.ntmps106
  go_wp2_with fail
  refine (Clone_any _ _ _ l _ h (by omega)).mono ?_; rintro e w1 ⟨a1, c1, rfl, o1, u1⟩
  go_wp2_with (at_builtin; refine wpList_appI _ rfl _ _ rfl w.heap.size a1 n c1 l rfl (o1.alloc _) _ 2 2 [8, 1] rfl (Ints.lit2 _ _ _ _) (by omega) (by have := u1.size; simp; omega) ?_)
  intro a2 c2 w2 o2 u2 _
  have v2 := (u1.alloc u1.size (.cells #[.int .i64 8, .int .i64 1] 3)).trans u2
  have h2 := o2.ints
  clear u1 u2 o1 o2
  go_wp2
  go_loopw [3, 14] (fun u v wr => ∃ k : Nat, k ≤ n + 2 ∧ v = .int .i64 k ∧ u = .int .i64 (digA ((l ++ [8, 1]).take k) (40503 + l.length)) ∧ ∃ m, wr = w2.drewN m) (fun _ v _ => n + 2 - (intOf v).toNat)
  case atStart => exact ⟨0, Nat.zero_le _, rfl, v_int (by rw [HL.out]; simp [digA]), 0, rfl⟩
  case round =>
    obtain ⟨k, hk, rfl, rfl, m, rfl⟩ := hrel
    have hzr := digA_range ((l ++ [8, 1]).take k) (40503 + l.length) (by omega) (by have := HL.out; omega)
    by_cases hlt : k < n + 2
    · obtain ⟨g, o, rfl, hcell⟩ := h2.at k hlt
      have hkl : k < (l ++ [8, 1]).length := by have := HL.out; simp; omega
      have hs := digA_snoc (l ++ [8, 1]) (40503 + l.length) k hkl
      have hx := mem_range HW.out k hkl
      obtain ⟨x, hxe⟩ : ∃ x, x = (l ++ [8, 1]).getD k 0 := ⟨_, rfl⟩
      rw [← hxe] at hcell hs hx
      clear hxe
      obtain ⟨z, hze⟩ : ∃ z, z = digA ((l ++ [8, 1]).take k) (40503 + l.length) := ⟨_, rfl⟩
      rw [← hze] at hs hzr
      rw [← hze]
      clear hze
      unfold digStep at hs
      have HS := Lib.hid hs
      clear hs
      obtain ⟨hz1, hz2⟩ := hzr
      obtain ⟨hx1, hx2⟩ := hx
      obtain ⟨b, hb⟩ : ∃ b, b = (25214 * z + x + 17) % 1000003 := ⟨_, rfl⟩
      have hb1 : 0 ≤ b := by rw [hb]; exact Int.emod_nonneg _ (by decide)
      have hb2 : b ≤ 1000002 := by rw [hb]; have := Int.emod_lt_of_pos (25214 * z + x + 17) (by decide : (0 : Int) < 1000003); omega
      obtain ⟨hs1, hs2⟩ := sq_range hb1 hb2
      · have b1 := Int.tmod_lt_of_pos (25214 * z + x + 17) (by decide : (0 : Int) < 1000003)
        have b2 := Int.lt_tmod_of_pos (25214 * z + x + 17) (by decide : (0 : Int) < 1000003)
        have he : ((25214 * z + x + 17).tmod 1000003 + 1000003) % 1000003 = b := by rw [hb]; exact mod_core 1000003 _ (by decide)
        have HB := Lib.hid hb
        clear hb
        go_wp2
        go_roundw
        case rel => exact ⟨k + 1, by omega, by go_num, v_int (by rw [HS.out, HB.out]), _, rfl⟩
        case measure => simp [intOf]; omega
    · obtain rfl : k = n + 2 := by omega
      have HE := Lib.hid (show digI l = digA ((l ++ [8, 1]).take (n + 2)) (40503 + l.length) % 65536 by
        unfold digI
        rw [List.take_of_length_le (by have := HL.out; simp; omega)])
      obtain ⟨z, hze⟩ : ∃ z, z = digA ((l ++ [8, 1]).take (n + 2)) (40503 + l.length) := ⟨_, rfl⟩
      rw [← hze] at HE hzr
      rw [← hze]
      clear hze
      obtain ⟨hz1, hz2⟩ := hzr
      go_wp2
      go_ret
      exact ⟨ret_int HE.out.symm, below_drewN v2 _⟩
set_option maxHeartbeats 2000000 in
theorem dgMix_any (a : Option Addr) (n c : Nat) (l : List Int) (w : World) (h : Ints w a n c l) (hs : n ≤ 1000000) (hw : WB l) :
    Calls Try.prog 104 #[.slice a n c] w fun e w' => e = .returned (.int .i64 (digI l)) ∧ Below w.heap.size w w' := by
  have hn := h.le
  have HL := Lib.hid h.len
  have HW := Lib.hid (WB.app hw WB_end)
  clear hw
  go_enter Try.func104, Try.ntmps104
  go_wp2_with fail
  refine (l1Own_any _ _ _ l _ h (by omega)).mono ?_; rintro e w1 ⟨a1, c1, rfl, o1, u1⟩
  go_wp2_with (at_builtin; refine wpList_appI _ rfl _ _ rfl w.heap.size a1 n c1 l rfl (o1.alloc _) _ 2 2 [8, 1] rfl (Ints.lit2 _ _ _ _) (by omega) (by have := u1.size; simp; omega) ?_)
  intro a2 c2 w2 o2 u2 _
  have v2 := (u1.alloc u1.size (.cells #[.int .i64 8, .int .i64 1] 3)).trans u2
  have h2 := o2.ints
  clear u1 u2 o1 o2
  go_wp2
  go_loopw [3, 14] (fun u v wr => ∃ k : Nat, k ≤ n + 2 ∧ v = .int .i64 k ∧ u = .int .i64 (digA ((l ++ [8, 1]).take k) (40503 + l.length)) ∧ ∃ m, wr = w2.drewN m) (fun _ v _ => n + 2 - (intOf v).toNat)
  case atStart => exact ⟨0, Nat.zero_le _, rfl, v_int (by rw [HL.out]; simp [digA]), 0, rfl⟩
  case round =>
    obtain ⟨k, hk, rfl, rfl, m, rfl⟩ := hrel
    have hzr := digA_range ((l ++ [8, 1]).take k) (40503 + l.length) (by omega) (by have := HL.out; omega)
    by_cases hlt : k < n + 2
    · obtain ⟨g, o, rfl, hcell⟩ := h2.at k hlt
      have hkl : k < (l ++ [8, 1]).length := by have := HL.out; simp; omega
      have hs := digA_snoc (l ++ [8, 1]) (40503 + l.length) k hkl
      have hx := mem_range HW.out k hkl
      obtain ⟨x, hxe⟩ : ∃ x, x = (l ++ [8, 1]).getD k 0 := ⟨_, rfl⟩
      rw [← hxe] at hcell hs hx
      clear hxe
      obtain ⟨z, hze⟩ : ∃ z, z = digA ((l ++ [8, 1]).take k) (40503 + l.length) := ⟨_, rfl⟩
      rw [← hze] at hs hzr
      rw [← hze]
      clear hze
      unfold digStep at hs
      have HS := Lib.hid hs
      clear hs
      obtain ⟨hz1, hz2⟩ := hzr
      obtain ⟨hx1, hx2⟩ := hx
      obtain ⟨b, hb⟩ : ∃ b, b = (25214 * z + x + 17) % 1000003 := ⟨_, rfl⟩
      have hb1 : 0 ≤ b := by rw [hb]; exact Int.emod_nonneg _ (by decide)
      have hb2 : b ≤ 1000002 := by rw [hb]; have := Int.emod_lt_of_pos (25214 * z + x + 17) (by decide : (0 : Int) < 1000003); omega
      obtain ⟨hs1, hs2⟩ := sq_range hb1 hb2
      · have HB := Lib.hid hb
        go_wp2_with fail
        refine (btMod_any _ _ _ (by omega) (by omega)).mono ?_; rintro e w4 ⟨rfl, q4⟩
        rw [← hb]
        clear hb
        obtain ⟨m4, rfl⟩ := q4
        go_wp2
        go_roundw
        case rel => exact ⟨k + 1, by omega, by go_num, v_int (by rw [HS.out, HB.out]), _, rfl⟩
        case measure => simp [intOf]; omega
    · obtain rfl : k = n + 2 := by omega
      have HE := Lib.hid (show digI l = digA ((l ++ [8, 1]).take (n + 2)) (40503 + l.length) % 65536 by
        unfold digI
        rw [List.take_of_length_le (by have := HL.out; simp; omega)])
      obtain ⟨z, hze⟩ : ∃ z, z = digA ((l ++ [8, 1]).take (n + 2)) (40503 + l.length) := ⟨_, rfl⟩
      rw [← hze] at HE hzr
      rw [← hze]
      clear hze
      obtain ⟨hz1, hz2⟩ := hzr
      go_wp2
      go_ret
      exact ⟨ret_int HE.out.symm, below_drewN v2 _⟩
set_option maxHeartbeats 1000000 in
theorem with_any (a : Option Addr) (n c : Nat) (l : List Int) (a' : Option Addr) (n' c' : Nat) (l' : List Int) (w : World) (h : Ints w a n c l) (h' : Ints w a' n' c' l') (hs : n ≤ 10000000) (hs' : n' ≤ 10000000) :
    Calls Try.prog 77 #[.slice a n c, .slice a' n' c'] w fun e w' => ∃ a2 c2, e = .returned (.slice a2 (n + n') c2) ∧ Own w' w.heap.size a2 (n + n') c2 (l ++ l') ∧ Below w.heap.size w w' := by
  go_enter Try.func77, Try.ntmps77
  go_wp2_with fail
  refine (Clone_any _ _ _ l _ h hs).mono ?_; rintro e w1 ⟨a1, c1, rfl, o1, u1⟩
  go_wp2_with (at_builtin; refine wpList_appI _ rfl _ _ rfl w.heap.size a1 n c1 l rfl o1 _ n' c' l' rfl (h'.below u1) (by omega) u1.size ?_)
  intro a2 c2 w2 o2 u2 _
  have v2 := u1.trans u2
  clear u1 u2
  go_wp2
  go_ret
  exact ⟨_, _, rfl, o2, v2⟩
set_option maxHeartbeats 1000000 in
theorem dgWith_any (a : Option Addr) (n c : Nat) (l : List Int) (x : Int) (w : World) (h : Ints w a n c l) (hs : n ≤ 10000000) :
    Calls Try.prog 105 #[.slice a n c, .int .i64 x] w fun e w' => ∃ a2 c2, e = .returned (.slice a2 (n + 1) c2) ∧ Own w' w.heap.size a2 (n + 1) c2 (l ++ [x]) ∧ Below w.heap.size w w' := by
  go_enter Try.func105, Try.ntmps105
  go_wp2_with fail
  refine (l1Own_any _ _ _ l _ h hs).mono ?_; rintro e w1 ⟨a1, c1, rfl, o1, u1⟩
  go_wp2_with (at_builtin; refine wpList_appI _ rfl _ _ rfl w.heap.size a1 n c1 l rfl (o1.alloc _) _ 1 1 [x] rfl (Ints.lit1 _ _ _) (by omega) (by have := u1.size; simp; omega) ?_)
  intro a2 c2 w2 o2 u2 _
  have v2 := (u1.alloc u1.size (.cells #[.int .i64 x] 3)).trans u2
  clear u1 u2
  go_wp2
  go_ret
  exact ⟨_, _, rfl, o2, v2⟩
/-- A number less than n. -/
def numI (l : List Int) (n : Int) : Int := digI (l ++ [n]) % n
theorem numI_range (l : List Int) (n : Int) (h : 1 ≤ n) : 0 ≤ numI l n ∧ numI l n ≤ n - 1 := by
  unfold numI
  exact ⟨Int.emod_nonneg _ (by omega), by have := Int.emod_lt_of_pos (digI (l ++ [n])) (by omega : 0 < n); omega⟩
set_option maxHeartbeats 1000000 in
theorem numberFrom_any (a : Option Addr) (m c : Nat) (l : List Int) (n : Int) (w : World) (h : Ints w a m c l) (hs : m ≤ 900000) (hw : WB l) (h1 : 1 ≤ n) (h2 : n ≤ 2000000000) :
    Calls Try.prog 92 #[.slice a m c, .int .i64 n] w fun e w' => e = .returned (.int .i64 (numI l n)) ∧ Below w.heap.size w w' := by
  have hd := digI_range (l ++ [n])
  obtain ⟨d1, d2⟩ := hd
  go_enter Try.func92, Try.ntmps92
  go_wp2_with fail
  refine (with_any _ _ _ l _ _ _ [n] _ (h.alloc _) (Ints.lit1 _ _ _) (by omega) (by omega)).mono ?_; rintro e w1 ⟨a1, c1, rfl, o1, u1⟩
  have v1 := below_a1 u1
  clear u1
  go_wp2_with fail
  refine (digest_any _ _ _ (l ++ [n]) _ o1.ints (by omega) (WB.app hw (WB.one (by omega)))).mono ?_; rintro e w2 ⟨rfl, u2⟩
  have v2 := v1.trans (u2.mono v1.size)
  clear u2 v1 o1
  go_wp2
  go_ret
  exact ⟨rfl, v2⟩
set_option maxHeartbeats 1000000 in
theorem dgBelow_any (a : Option Addr) (m c : Nat) (l : List Int) (n : Int) (w : World) (h : Ints w a m c l) (hs : m ≤ 900000) (hw : WB l) (h1 : 1 ≤ n) (h2 : n ≤ 2000000000) :
    Calls Try.prog 88 #[.slice a m c, .int .i64 n] w fun e w' => e = .returned (.int .i64 (numI l n)) ∧ Below w.heap.size w w' := by
  have hd := digI_range (l ++ [n])
  obtain ⟨d1, d2⟩ := hd
  go_enter Try.func88, Try.ntmps88
  go_wp2_with fail
  refine (dgWith_any _ _ _ l _ _ h (by omega)).mono ?_; rintro e w1 ⟨a1, c1, rfl, o1, v1⟩
  go_wp2_with fail
  refine (dgMix_any _ _ _ (l ++ [n]) _ o1.ints (by omega) (WB.app hw (WB.one (by omega)))).mono ?_; rintro e w2 ⟨rfl, u2⟩
  have v2 := v1.trans (u2.mono v1.size)
  clear u2 v1 o1
  go_wp2
  go_ret
  exact ⟨rfl, v2⟩
/-- Drawn bits. -/
def bitsI (l : List Int) (n : Nat) : List Int := (List.range n).map fun (i : Nat) => digI (l ++ [(i : Int), 2]) / 8 % 2
theorem bitsI_succ (l : List Int) (n : Nat) : bitsI l (n + 1) = bitsI l n ++ [digI (l ++ [(n : Int), 2]) / 8 % 2] := by unfold bitsI; rw [List.range_succ, List.map_append]; rfl
theorem bitsI_len (l : List Int) (n : Nat) : (bitsI l n).length = n := by simp [bitsI]
theorem bitsI_bit (l : List Int) (n k : Nat) (h : k < n) : (bitsI l n).getD k 0 = 0 ∨ (bitsI l n).getD k 0 = 1 := by
  unfold bitsI
  simp [List.getD, h]
  omega
end Go.Proofs.Ythpcmbdkboajcaa
