/- Lemmas and walks that the claim's proof rests on, part 3. -/
import Derived.StillTailTactics
import Derived.Deep.RegionHeld
import Derived.Test.YtlmdckcohoddnaaK1
import Derived.Test.YtlmdckcohoddnaaK2
namespace Go.Proofs.Ytlmdckcohoddnaa
open Go.RowKit
/-- Numbers whose digests do not wrap. -/
def WB (l : List Int) : Prop := ∀ x ∈ l, -4000000000 ≤ x ∧ x ≤ 4000000000
theorem WB.app {l l' : List Int} (h : WB l) (h' : WB l') : WB (l ++ l') := fun x hx => by
  rcases List.mem_append.1 hx with h1 | h1
  · exact h x h1
  · exact h' x h1
theorem WB.one {x : Int} (h : -4000000000 ≤ x ∧ x ≤ 4000000000) : WB [x] := fun y hy => by simp at hy; subst hy; exact h
theorem WB.two {x y : Int} (h : -4000000000 ≤ x ∧ x ≤ 4000000000) (h' : -4000000000 ≤ y ∧ y ≤ 4000000000) : WB [x, y] := fun z hz => by
  simp at hz; rcases hz with rfl | rfl
  · exact h
  · exact h'
theorem WB.cons {x : Int} {l : List Int} (h : -4000000000 ≤ x ∧ x ≤ 4000000000) (h' : WB l) : WB (x :: l) := fun z hz => by
  rcases List.mem_cons.1 hz with rfl | hz
  · exact h
  · exact h' z hz
theorem WB.nil : WB [] := fun x hx => by cases hx
def digStep (a x : Int) : Int := (25214 * a + x + 17) % 1000003 * ((25214 * a + x + 17) % 1000003 / 64 + 5) % 1000003
theorem digStep_range (a x : Int) : 0 ≤ digStep a x ∧ digStep a x ≤ 1000002 := by
  unfold digStep
  exact ⟨Int.emod_nonneg _ (by decide), by have := Int.emod_lt_of_pos ((25214 * a + x + 17) % 1000003 * ((25214 * a + x + 17) % 1000003 / 64 + 5)) (by decide : (0 : Int) < 1000003); omega⟩
def digA (l : List Int) (z : Int) : Int := l.foldl digStep z
theorem digA_snoc (l : List Int) (z : Int) (k : Nat) (h : k < l.length) : digA (l.take (k + 1)) z = digStep (digA (l.take k) z) (l.getD k 0) := by
  unfold digA
  rw [List.take_succ_eq_append_getElem h, List.foldl_append]
  simp [List.getD, h]
theorem digA_range (l : List Int) : ∀ (z : Int), 0 ≤ z → z ≤ 2000000 → 0 ≤ digA l z ∧ digA l z ≤ 2000000 := by
  unfold digA
  induction l with
  | nil => intro z h1 h2; exact ⟨h1, h2⟩
  | cons x l ih => intro z h1 h2; simp only [List.foldl_cons]; have := digStep_range z x; exact ih _ this.1 (by omega)
def digI (l : List Int) : Int := digA (l ++ [8, 1]) (40503 + l.length) % 65536
theorem digI_range (l : List Int) : 0 ≤ digI l ∧ digI l ≤ 65535 := by
  unfold digI
  exact ⟨Int.emod_nonneg _ (by decide), by have := Int.emod_lt_of_pos (digA (l ++ [8, 1]) (40503 + l.length)) (by decide : (0 : Int) < 65536); omega⟩
theorem sq_range {b : Int} (h0 : 0 ≤ b) (h1 : b ≤ 1000002) : 0 ≤ b * (b / 64 + 5) ∧ b * (b / 64 + 5) ≤ 20000000000 := by
  have a1 : 0 ≤ b / 64 + 5 := by omega
  have a2 : b / 64 + 5 ≤ 15635 := by omega
  refine ⟨Int.mul_nonneg h0 a1, ?_⟩
  have : b * (b / 64 + 5) ≤ 1000002 * 15635 := Int.mul_le_mul h1 a2 a1 (by omega)
  omega
set_option maxHeartbeats 1000000 in
theorem Clone_any (a : Option Addr) (n c : Nat) (l : List Int) (w : World) (h : Ints w a n c l) (hs : n ≤ 10000000) :
    Calls Try.prog 41 #[.slice a n c] w fun e w' => ∃ a' c', e = .returned (.slice a' n c') ∧ Own w' w.heap.size a' n c' l ∧ Below w.heap.size w w' := by
  have hnil := fun (W : World) => Lib.run_eql_slice_nil W 23 3 a n c 0 0 Try.underlying23
  have hn := h.le
  cases a with
  | none =>
    have hc : c = 0 := h.2.2.2.1 rfl
    have hn0 : n = 0 := by have := h.2.1; omega
    subst hc; subst hn0
    have hl : l = [] := List.eq_nil_of_length_eq_zero h.len.symm
    subst hl
    go_enter Try.func41, Try.ntmps41
    go_wp2
    go_ret
    exact ⟨_, _, rfl, Own.nil0 _ _ _, Below.refl _ _⟩
  | some y =>
    go_enter Try.func41, Try.ntmps41
    go_wp2_with (at_builtin; refine wpList_appI _ rfl _ _ rfl w.heap.size _ 0 0 [] rfl (Own.nil0 _ _ _) _ n c l rfl (h.alloc _) (by omega) (by simp) ?_)
    intro a2 c2 w1 own hb _
    try simp only [Nat.zero_add, List.nil_append] at own
    have hb1 := ((Below.refl _ w).alloc (Nat.le_refl _) _).trans hb
    clear hb
    go_wp2
    go_ret
    exact ⟨_, _, ret_slice (by omega), own, hb1⟩
set_option maxHeartbeats 1000000 in
theorem l1Own_any (a : Option Addr) (n c : Nat) (l : List Int) (w : World) (h : Ints w a n c l) (hs : n ≤ 10000000) :
    Calls Try.prog 44 #[.slice a n c] w fun e w' => ∃ a' c', e = .returned (.slice a' n c') ∧ Own w' w.heap.size a' n c' l ∧ Below w.heap.size w w' := by
  have hn := h.le
  go_enter Try.func44, Try.ntmps44
  go_wp2_with (at_builtin; refine wpList_appI _ rfl _ _ rfl w.heap.size _ 0 0 [] rfl (Own.nil0 _ _ _) _ n c l rfl (h.alloc _) (by omega) (by simp) ?_)
  intro a2 c2 w1 own hb _
  try simp only [Nat.zero_add, List.nil_append] at own
  have hb1 := ((Below.refl _ w).alloc (Nat.le_refl _) _).trans hb
  clear hb
  go_wp2
  go_ret
  exact ⟨_, _, ret_slice (by omega), own, hb1⟩
set_option maxHeartbeats 400000 in
theorem btMod_same (n p : Int) (w : World) (h1 : 1 ≤ p) (h2 : p ≤ 1000000000) :
    Calls Try.prog 33 #[.int .i64 n, .int .i64 p] w fun e w' => e = .returned (.int .i64 (n % p)) ∧ w' = w := by
  have b1 := Int.tmod_lt_of_pos n (by omega : 0 < p)
  have b2 := Int.lt_tmod_of_pos n (by omega : 0 < p)
  have E2 := Lib.hid (mod_core p n h1)
  go_enter Try.func33, Try.ntmps33
  go_wp2
  go_ret
  exact ⟨ret_int E2.out, rfl⟩
theorem btMod_any (n p : Int) (w : World) (h1 : 1 ≤ p) (h2 : p ≤ 1000000000) :
    Calls Try.prog 33 #[.int .i64 n, .int .i64 p] w fun e w' => e = .returned (.int .i64 (n % p)) ∧ ∃ m, w' = w.drewN m :=
  (btMod_same n p w h1 h2).mono fun _ _ ⟨he, hw⟩ => ⟨he, 0, hw⟩
theorem mem_range {l : List Int} (h : WB l) (k : Nat) (hk : k < l.length) : -4000000000 ≤ l.getD k 0 ∧ l.getD k 0 ≤ 4000000000 := h _ (getD_mem l k hk)
theorem WB_end : WB [8, 1] := WB.two (by omega) (by omega)
set_option maxHeartbeats 2000000 in
theorem digest_any (a : Option Addr) (n c : Nat) (l : List Int) (w : World) (h : Ints w a n c l) (hs : n ≤ 1000000) (hw : WB l) :
    Calls Try.prog 36 #[.slice a n c] w fun e w' => e = .returned (.int .i64 (digI l)) ∧ Below w.heap.size w w' := by
  have hn := h.le
  have HL := Lib.hid h.len
  have HW := Lib.hid (WB.app hw WB_end)
  clear hw
  go_enter Try.func36, Try.ntmps36
  go_wp2_with fail
  refine (Clone_any _ _ _ l _ h (by omega)).mono ?_; rintro e w1 ⟨a1, c1, rfl, o1, u1⟩
  go_wp2_with (at_builtin; refine wpList_appI _ rfl _ _ rfl w.heap.size a1 n c1 l rfl (o1.alloc _) _ 2 2 [8, 1] rfl (Ints.lit2 _ _ _ _) (by omega) (by have := u1.size; simp; omega) ?_)
  intro a2 c2 w2 o2 u2 _
  have v2 := (u1.alloc u1.size (.cells #[.int .i64 8, .int .i64 1] 3)).trans u2
  have h2 := o2.ints
  clear u1 u2 o1 o2
  go_wp2
  go_loopw [3, 14] (fun u v wr => ∃ k : Nat, k ≤ n + 2 ∧ v = .int .i64 k ∧ u = .int .i64 (digA ((l ++ [8, 1]).take k) (40503 + l.length)) ∧ ∃ m, wr = w2.drewN m) (fun _ v _ => n + 2 - (intOf v).toNat)
  case atStart => exact ⟨0, Nat.zero_le _, rfl, v_int (by rw [HL.out]; simp [digA]), 0, rfl⟩
  case round =>
    obtain ⟨k, hk, rfl, rfl, m, rfl⟩ := hrel
    have hzr := digA_range ((l ++ [8, 1]).take k) (40503 + l.length) (by omega) (by have := HL.out; omega)
    by_cases hlt : k < n + 2
    · obtain ⟨g, o, rfl, hcell⟩ := h2.at k hlt
      have hkl : k < (l ++ [8, 1]).length := by have := HL.out; simp; omega
      have hs := digA_snoc (l ++ [8, 1]) (40503 + l.length) k hkl
      have hx := mem_range HW.out k hkl
      obtain ⟨x, hxe⟩ : ∃ x, x = (l ++ [8, 1]).getD k 0 := ⟨_, rfl⟩
      rw [← hxe] at hcell hs hx
      clear hxe
      obtain ⟨z, hze⟩ : ∃ z, z = digA ((l ++ [8, 1]).take k) (40503 + l.length) := ⟨_, rfl⟩
      rw [← hze] at hs hzr
      rw [← hze]
      clear hze
      unfold digStep at hs
      have HS := Lib.hid hs
      clear hs
      obtain ⟨hz1, hz2⟩ := hzr
      obtain ⟨hx1, hx2⟩ := hx
      obtain ⟨b, hb⟩ : ∃ b, b = (25214 * z + x + 17) % 1000003 := ⟨_, rfl⟩
      have hb1 : 0 ≤ b := by rw [hb]; exact Int.emod_nonneg _ (by decide)
      have hb2 : b ≤ 1000002 := by rw [hb]; have := Int.emod_lt_of_pos (25214 * z + x + 17) (by decide : (0 : Int) < 1000003); omega
      obtain ⟨hs1, hs2⟩ := sq_range hb1 hb2
      · have b1 := Int.tmod_lt_of_pos (25214 * z + x + 17) (by decide : (0 : Int) < 1000003)
        have b2 := Int.lt_tmod_of_pos (25214 * z + x + 17) (by decide : (0 : Int) < 1000003)
        have he : ((25214 * z + x + 17).tmod 1000003 + 1000003) % 1000003 = b := by rw [hb]; exact mod_core 1000003 _ (by decide)
        have HB := Lib.hid hb
        clear hb
        go_wp2
        go_roundw
        case rel => exact ⟨k + 1, by omega, by go_num, v_int (by rw [HS.out, HB.out]), _, rfl⟩
        case measure => simp [intOf]; omega
    · obtain rfl : k = n + 2 := by omega
      have HE := Lib.hid (show digI l = digA ((l ++ [8, 1]).take (n + 2)) (40503 + l.length) % 65536 by
        unfold digI
        rw [List.take_of_length_le (by have := HL.out; simp; omega)])
      obtain ⟨z, hze⟩ : ∃ z, z = digA ((l ++ [8, 1]).take (n + 2)) (40503 + l.length) := ⟨_, rfl⟩
      rw [← hze] at HE hzr
      rw [← hze]
      clear hze
      obtain ⟨hz1, hz2⟩ := hzr
      go_wp2
      go_ret
      exact ⟨ret_int HE.out.symm, below_drewN v2 _⟩
set_option maxHeartbeats 2000000 in
theorem dgMix_any (a : Option Addr) (n c : Nat) (l : List Int) (w : World) (h : Ints w a n c l) (hs : n ≤ 1000000) (hw : WB l) :
    Calls Try.prog 42 #[.slice a n c] w fun e w' => e = .returned (.int .i64 (digI l)) ∧ Below w.heap.size w w' := by
  have hn := h.le
  have HL := Lib.hid h.len
  have HW := Lib.hid (WB.app hw WB_end)
  clear hw
  go_enter Try.func42, Try.ntmps42
  go_wp2_with fail
  refine (l1Own_any _ _ _ l _ h (by omega)).mono ?_; rintro e w1 ⟨a1, c1, rfl, o1, u1⟩
  go_wp2_with (at_builtin; refine wpList_appI _ rfl _ _ rfl w.heap.size a1 n c1 l rfl (o1.alloc _) _ 2 2 [8, 1] rfl (Ints.lit2 _ _ _ _) (by omega) (by have := u1.size; simp; omega) ?_)
  intro a2 c2 w2 o2 u2 _
  have v2 := (u1.alloc u1.size (.cells #[.int .i64 8, .int .i64 1] 3)).trans u2
  have h2 := o2.ints
  clear u1 u2 o1 o2
  go_wp2
  go_loopw [3, 14] (fun u v wr => ∃ k : Nat, k ≤ n + 2 ∧ v = .int .i64 k ∧ u = .int .i64 (digA ((l ++ [8, 1]).take k) (40503 + l.length)) ∧ ∃ m, wr = w2.drewN m) (fun _ v _ => n + 2 - (intOf v).toNat)
  case atStart => exact ⟨0, Nat.zero_le _, rfl, v_int (by rw [HL.out]; simp [digA]), 0, rfl⟩
  case round =>
    obtain ⟨k, hk, rfl, rfl, m, rfl⟩ := hrel
    have hzr := digA_range ((l ++ [8, 1]).take k) (40503 + l.length) (by omega) (by have := HL.out; omega)
    by_cases hlt : k < n + 2
    · obtain ⟨g, o, rfl, hcell⟩ := h2.at k hlt
      have hkl : k < (l ++ [8, 1]).length := by have := HL.out; simp; omega
      have hs := digA_snoc (l ++ [8, 1]) (40503 + l.length) k hkl
      have hx := mem_range HW.out k hkl
      obtain ⟨x, hxe⟩ : ∃ x, x = (l ++ [8, 1]).getD k 0 := ⟨_, rfl⟩
      rw [← hxe] at hcell hs hx
      clear hxe
      obtain ⟨z, hze⟩ : ∃ z, z = digA ((l ++ [8, 1]).take k) (40503 + l.length) := ⟨_, rfl⟩
      rw [← hze] at hs hzr
      rw [← hze]
      clear hze
      unfold digStep at hs
      have HS := Lib.hid hs
      clear hs
      obtain ⟨hz1, hz2⟩ := hzr
      obtain ⟨hx1, hx2⟩ := hx
      obtain ⟨b, hb⟩ : ∃ b, b = (25214 * z + x + 17) % 1000003 := ⟨_, rfl⟩
      have hb1 : 0 ≤ b := by rw [hb]; exact Int.emod_nonneg _ (by decide)
      have hb2 : b ≤ 1000002 := by rw [hb]; have := Int.emod_lt_of_pos (25214 * z + x + 17) (by decide : (0 : Int) < 1000003); omega
      obtain ⟨hs1, hs2⟩ := sq_range hb1 hb2
      · have HB := Lib.hid hb
        go_wp2_with fail
        refine (btMod_any _ _ _ (by omega) (by omega)).mono ?_; rintro e w4 ⟨rfl, q4⟩
        rw [← hb]
        clear hb
        obtain ⟨m4, rfl⟩ := q4
        go_wp2
        go_roundw
        case rel => exact ⟨k + 1, by omega, by go_num, v_int (by rw [HS.out, HB.out]), _, rfl⟩
        case measure => simp [intOf]; omega
    · obtain rfl : k = n + 2 := by omega
      have HE := Lib.hid (show digI l = digA ((l ++ [8, 1]).take (n + 2)) (40503 + l.length) % 65536 by
        unfold digI
        rw [List.take_of_length_le (by have := HL.out; simp; omega)])
      obtain ⟨z, hze⟩ : ∃ z, z = digA ((l ++ [8, 1]).take (n + 2)) (40503 + l.length) := ⟨_, rfl⟩
      rw [← hze] at HE hzr
      rw [← hze]
      clear hze
      obtain ⟨hz1, hz2⟩ := hzr
      go_wp2
      go_ret
      exact ⟨ret_int HE.out.symm, below_drewN v2 _⟩
set_option maxHeartbeats 1000000 in
theorem with_any (a : Option Addr) (n c : Nat) (l : List Int) (a' : Option Addr) (n' c' : Nat) (l' : List Int) (w : World) (h : Ints w a n c l) (h' : Ints w a' n' c' l') (hs : n ≤ 10000000) (hs' : n' ≤ 10000000) :
    Calls Try.prog 37 #[.slice a n c, .slice a' n' c'] w fun e w' => ∃ a2 c2, e = .returned (.slice a2 (n + n') c2) ∧ Own w' w.heap.size a2 (n + n') c2 (l ++ l') ∧ Below w.heap.size w w' := by
  go_enter Try.func37, Try.ntmps37
  go_wp2_with fail
  refine (Clone_any _ _ _ l _ h hs).mono ?_; rintro e w1 ⟨a1, c1, rfl, o1, u1⟩
  go_wp2_with (at_builtin; refine wpList_appI _ rfl _ _ rfl w.heap.size a1 n c1 l rfl o1 _ n' c' l' rfl (h'.below u1) (by omega) u1.size ?_)
  intro a2 c2 w2 o2 u2 _
  have v2 := u1.trans u2
  clear u1 u2
  go_wp2
  go_ret
  exact ⟨_, _, rfl, o2, v2⟩
set_option maxHeartbeats 1000000 in
theorem dgWith_any (a : Option Addr) (n c : Nat) (l : List Int) (x : Int) (w : World) (h : Ints w a n c l) (hs : n ≤ 10000000) :
    Calls Try.prog 43 #[.slice a n c, .int .i64 x] w fun e w' => ∃ a2 c2, e = .returned (.slice a2 (n + 1) c2) ∧ Own w' w.heap.size a2 (n + 1) c2 (l ++ [x]) ∧ Below w.heap.size w w' := by
  go_enter Try.func43, Try.ntmps43
  go_wp2_with fail
  refine (l1Own_any _ _ _ l _ h hs).mono ?_; rintro e w1 ⟨a1, c1, rfl, o1, u1⟩
  go_wp2_with (at_builtin; refine wpList_appI _ rfl _ _ rfl w.heap.size a1 n c1 l rfl (o1.alloc _) _ 1 1 [x] rfl (Ints.lit1 _ _ _) (by omega) (by have := u1.size; simp; omega) ?_)
  intro a2 c2 w2 o2 u2 _
  have v2 := (u1.alloc u1.size (.cells #[.int .i64 x] 3)).trans u2
  clear u1 u2
  go_wp2
  go_ret
  exact ⟨_, _, rfl, o2, v2⟩
/-- A number less than n. -/
def numI (l : List Int) (n : Int) : Int := digI (l ++ [n]) % n
theorem numI_range (l : List Int) (n : Int) (h : 1 ≤ n) : 0 ≤ numI l n ∧ numI l n ≤ n - 1 := by
  unfold numI
  exact ⟨Int.emod_nonneg _ (by omega), by have := Int.emod_lt_of_pos (digI (l ++ [n])) (by omega : 0 < n); omega⟩
set_option maxHeartbeats 1000000 in
theorem numberFrom_any (a : Option Addr) (m c : Nat) (l : List Int) (n : Int) (w : World) (h : Ints w a m c l) (hs : m ≤ 900000) (hw : WB l) (h1 : 1 ≤ n) (h2 : n ≤ 2000000000) :
    Calls Try.prog 16 #[.slice a m c, .int .i64 n] w fun e w' => e = .returned (.int .i64 (numI l n)) ∧ Below w.heap.size w w' := by
  have hd := digI_range (l ++ [n])
  obtain ⟨d1, d2⟩ := hd
  go_enter Try.func16, Try.ntmps16
  go_wp2_with fail
  refine (with_any _ _ _ l _ _ _ [n] _ (h.alloc _) (Ints.lit1 _ _ _) (by omega) (by omega)).mono ?_; rintro e w1 ⟨a1, c1, rfl, o1, u1⟩
  have v1 := below_a1 u1
  clear u1
  go_wp2_with fail
  refine (digest_any _ _ _ (l ++ [n]) _ o1.ints (by omega) (WB.app hw (WB.one (by omega)))).mono ?_; rintro e w2 ⟨rfl, u2⟩
  have v2 := v1.trans (u2.mono v1.size)
  clear u2 v1 o1
  go_wp2
  go_ret
  exact ⟨rfl, v2⟩
set_option maxHeartbeats 1000000 in
theorem dgBelow_any (a : Option Addr) (m c : Nat) (l : List Int) (n : Int) (w : World) (h : Ints w a m c l) (hs : m ≤ 900000) (hw : WB l) (h1 : 1 ≤ n) (h2 : n ≤ 2000000000) :
    Calls Try.prog 39 #[.slice a m c, .int .i64 n] w fun e w' => e = .returned (.int .i64 (numI l n)) ∧ Below w.heap.size w w' := by
  have hd := digI_range (l ++ [n])
  obtain ⟨d1, d2⟩ := hd
  go_enter Try.func39, Try.ntmps39
  go_wp2_with fail
  refine (dgWith_any _ _ _ l _ _ h (by omega)).mono ?_; rintro e w1 ⟨a1, c1, rfl, o1, v1⟩
  go_wp2_with fail
  refine (dgMix_any _ _ _ (l ++ [n]) _ o1.ints (by omega) (WB.app hw (WB.one (by omega)))).mono ?_; rintro e w2 ⟨rfl, u2⟩
  have v2 := v1.trans (u2.mono v1.size)
  clear u2 v1 o1
  go_wp2
  go_ret
  exact ⟨rfl, v2⟩
end Go.Proofs.Ytlmdckcohoddnaa
namespace Go.Proofs.Ytlmdckcohoddnaa
open Go.RowKit
set_option maxHeartbeats 400000 in
theorem isKey_any (k : Int) (w : World) : Calls Try.prog 13 #[.int .i64 k] w fun e w' => e = .returned (.bool (inB k 0 1000000000)) ∧ w = w' := by
  go_enter Try.func13, Try.ntmps13
  go_wp2_with (go_at_call 35; refine (within_any _ _ _ _).mono ?_; rintro e w' ⟨rfl, rfl⟩)
  go_ret
  exact ⟨rfl, rfl⟩
set_option maxHeartbeats 400000 in
theorem shKey_any (k : Int) (w : World) : Calls Try.prog 9 #[.int .i64 k] w fun e w' => e = .returned (.bool (inB k 0 1000000000)) ∧ w = w' := by
  go_enter Try.func9, Try.ntmps9
  go_wp2_with (go_at_call 27; refine (l1In_any _ _ _ _).mono ?_; rintro e w' ⟨rfl, rfl⟩)
  go_ret
  exact ⟨rfl, rfl⟩
end Go.Proofs.Ytlmdckcohoddnaa
namespace Go.Proofs.Ytlmdckcohoddnaa
open Go.RowKit
theorem emod_rng' (x p : Int) (hp : 1 ≤ p) : 0 ≤ x % p ∧ x % p ≤ p - 1 := ⟨Int.emod_nonneg _ (by omega), by have := Int.emod_lt_of_pos x (by omega : 0 < p); omega⟩
def dlQ (p key : Int) (n : Nat) : List Int := (List.range n).map fun (i : Nat) => numI [key, 0, (i : Int), 61] p
theorem dlQ_succ (p key : Int) (n : Nat) : dlQ p key (n + 1) = dlQ p key n ++ [numI [key, 0, (n : Int), 61] p] := by unfold dlQ; rw [List.range_succ, List.map_append]; rfl
/-- The dealt values. -/
def dlL (p key : Int) : List Int := dlQ p key 4 ++ [numI [key, 0, 2, 61] p * numI [key, 0, 3, 61] p % p]
/-- A delta. -/
def dlD (p key party : Int) : Int := 1 + numI [key, 2, party, 61] (p - 1)
/-- A party's keys. -/
def dlK (p key party : Int) (n : Nat) : List Int := (List.range n).map fun (i : Nat) => numI [key, 3 + party, (i : Int), 61] p
theorem dlK_succ (p key party : Int) (n : Nat) : dlK p key party (n + 1) = dlK p key party n ++ [numI [key, 3 + party, (n : Int), 61] p] := by unfold dlK; rw [List.range_succ, List.map_append]; rfl
theorem dlK_at (p key party : Int) (n i : Nat) (h : i < n) : (dlK p key party n).getD i 0 = numI [key, 3 + party, (i : Int), 61] p := by simp [dlK, List.getD, h]
theorem dlD_rng (p key party : Int) (h : 2 ≤ p) : 1 ≤ dlD p key party ∧ dlD p key party ≤ p - 1 := by
  have := numI_range [key, 2, party, 61] (p - 1) (by omega)
  unfold dlD; omega
theorem WB.key {key a b : Int} (hk : 0 ≤ key ∧ key ≤ 1000000000) (ha : 0 ≤ a ∧ a ≤ 1000) (hb : 0 ≤ b ∧ b ≤ 1000) : WB [key, a, b, 61] :=
  WB.cons (by omega) (WB.cons (by omega) (WB.two (by omega) (by omega)))
theorem dlL_at (p key : Int) (h : 2 ≤ p) (i : Nat) (hi : i < 5) : 0 ≤ (dlL p key).getD i 0 ∧ (dlL p key).getD i 0 ≤ p - 1 := by
  have hm := emod_rng' (numI [key, 0, 2, 61] p * numI [key, 0, 3, 61] p) p (by omega)
  have : i = 0 ∨ i = 1 ∨ i = 2 ∨ i = 3 ∨ i = 4 := by omega
  rcases this with rfl | rfl | rfl | rfl | rfl
  · exact numI_range [key, 0, 0, 61] p (by omega)
  · exact numI_range [key, 0, 1, 61] p (by omega)
  · exact numI_range [key, 0, 2, 61] p (by omega)
  · exact numI_range [key, 0, 3, 61] p (by omega)
  · exact hm
set_option maxHeartbeats 4000000 in
set_option maxRecDepth 100000 in
theorem dealt_any (p key : Int) (w : World) (hp : 2 ≤ p) (hp2 : p ≤ 251) (hk : 0 ≤ key ∧ key ≤ 1000000000) :
    Calls Try.prog 14 #[.int .i64 p, .int .i64 key] w fun e w' => ∃ a c, e = .returned (.slice a 5 c) ∧ Own w' w.heap.size a 5 c (dlL p key) ∧ Below w.heap.size w w' := by
  have HKR := Lib.hid hk
  clear hk
  go_enter Try.func14, Try.ntmps14
  go_wp2
  have own0 : Own (w.alloc (.cells #[] 3)) w.heap.size (some ⟨w.heap.size, 0, none⟩) 0 0 (dlQ p key 0) := Own.nil0 _ _ _
  have bel0 : Below w.heap.size w (w.alloc (.cells #[] 3)) := (Below.refl _ _).alloc (Nat.le_refl _) _
  go_loopw [5, 8] (fun u v wr => ∃ k : Nat, k ≤ 4 ∧ v = .int .i64 k ∧ Below w.heap.size w wr ∧ ∃ a1 c1, u = .slice a1 k c1 ∧ Own wr w.heap.size a1 k c1 (dlQ p key k)) (fun _ v _ => 4 - (intOf v).toNat)
  case atStart => exact ⟨0, by omega, rfl, bel0, _, _, rfl, own0⟩
  case round =>
    obtain ⟨k, hk, rfl, hbel, a1, c1, rfl, own⟩ := hrel
    by_cases hlt : k < 4
    · have hlt' : (k : Int) < 4 := by omega
      have HS := Lib.hid (dlQ_succ p key k)
      have HW := Lib.hid (WB.key (a := 0) (b := (k : Int)) HKR.out (by omega) (by omega))
      go_wp2_with fail
      refine (numberFrom_any _ _ _ [key, 0, (k : Int), 61] p _ (Own.lit wr wr.heap.size [key, 0, (k : Int), 61] (Nat.le_refl _) (by simp [maxLen])).ints (by simp) HW.out (by omega) (by omega)).mono ?_; rintro e w2 ⟨rfl, u5⟩
      have v5 := below_a1 u5
      have own2 := own.below v5
      have b2 := hbel.trans (v5.mono hbel.size)
      clear own u5 v5 hbel
      generalize numI [key, 0, (k : Int), 61] p = X at *
      go_wp2_with (at_builtin; refine wpList_appI _ rfl _ _ rfl w.heap.size a1 k c1 (dlQ p key k) rfl (own2.alloc _) _ 1 1 [X] rfl (Ints.lit1 _ _ _) (by omega) (by have := b2.size; simp; omega) ?_)
      intro a5 c5 w3 o5 u5 _
      have b3 := (b2.alloc b2.size (.cells #[.int .i64 X] 3)).trans u5
      clear u5 b2 own2
      go_wp2
      go_roundw
      case rel => exact ⟨k + 1, by omega, by go_num, b3, a5, c5, rfl, by rw [HS.out]; exact o5⟩
      case measure => simp [intOf]; omega
    · obtain rfl : k = 4 := by omega
      have rx := numI_range [key, 0, 2, 61] p (by omega)
      have ry := numI_range [key, 0, 3, 61] p (by omega)
      obtain ⟨g, rfl, g0, g1, y0, _, _⟩ := own.at 2 (by omega)
      obtain ⟨g', hg', _, _, y1, _, _⟩ := own.at 3 (by omega)
      cases hg'
      have HL : Hid (dlL p key = dlQ p key 4 ++ [numI [key, 0, 2, 61] p * numI [key, 0, 3, 61] p % p]) := Lib.hid rfl
      rw [show (dlQ p key 4).getD 2 0 = numI [key, 0, 2, 61] p from rfl] at y0
      rw [show (dlQ p key 4).getD 3 0 = numI [key, 0, 3, 61] p from rfl] at y1
      generalize numI [key, 0, 2, 61] p = X at *
      generalize numI [key, 0, 3, 61] p = Y at *
      have m0 : 0 ≤ X * Y := Int.mul_nonneg rx.1 ry.1
      have m1 : X * Y ≤ 250 * 250 := Int.mul_le_mul (by omega) (by omega) (by omega) (by omega)
      have t1 : IntKind.i64.wrap (X * Y) = X * Y := IntWalk.i64_in _ (by omega)
      have t2 : (X * Y).tmod p = X * Y % p := Int.tmod_eq_emod_of_nonneg m0
      have rz := emod_rng' (X * Y) p (by omega)
      have t3 : IntKind.i64.wrap (X * Y % p) = X * Y % p := IntWalk.i64_in _ (by omega)
      have z1 : (p = 0) = False := by simp; omega
      have z2 : ((p == 0) : Bool) = false := by simp; omega
      go_wp2
      refine wp_region_noPanic ?_
      refine wp_region_held_drew (S := (fun _ => True)) (by kernel_rfl) ?hS1 (fun hHeld => ?go1)
      case hS1 => trivial
      refine tk (i := 0) (oi := ⟨some 20, _, _, _, _, _⟩) (v := ?v0_2) hHeld rfl ?y0_2 ?r0_2
      case y0_2 => (intro w _; first | (go_simp; done) | (go_simp; with_reducible rfl) | (with_reducible rfl))
      (try simp only [pt_])
      refine tk (i := 1) (oi := ⟨some 21, _, _, _, _, _⟩) (v := ?v1_3) hHeld rfl ?y1_3 ?r1_3
      case y1_3 => (intro w _; first | (go_simp; done) | (go_simp; with_reducible rfl) | (with_reducible rfl))
      (try simp only [pt_])
      refine tk (i := 2) (oi := ⟨some 22, _, _, _, _, _⟩) (v := ?v2_4) hHeld rfl ?y2_4 ?r2_4
      case y2_4 => (intro w _; first | (go_simp; done) | (go_simp; with_reducible rfl) | (with_reducible rfl))
      (try simp only [pt_])
      refine tk (i := 4) (oi := ⟨some 24, _, _, _, _, _⟩) (v := ?v4_5) hHeld rfl ?y4_5 ?r4_5
      case y4_5 => (intro w _; first | (go_simp; done) | (go_simp; with_reducible rfl) | (with_reducible rfl))
      (try simp only [pt_])
      refine tk (i := 5) (oi := ⟨some 25, _, _, _, _, _⟩) (v := ?v5_6) hHeld rfl ?y5_6 ?r5_6
      case y5_6 => (intro w _; first | (go_simp; done) | (go_simp; with_reducible rfl) | (with_reducible rfl))
      (try simp only [pt_])
      refine tk (i := 8) (oi := ⟨some 28, _, _, _, _, _⟩) (v := ?v8_7) hHeld rfl ?y8_7 ?r8_7
      case y8_7 => (intro w _; first | (go_simp; done) | (go_simp; with_reducible rfl) | (with_reducible rfl))
      (try simp only [pt_])
      refine wpAnyH_ready (rs := [3, 6]) (by kernel_rfl) (by simp) ?_
      refine AllReadyH.cons (o := { dst := some 23, op := _, type := _, pos := _, after := _, guard := _ }) rfl (fun K hK => ?_) ?_
      go_simp
      refine hK.out _ _ ?_ (fun hHeld => ?_)
      · trivial
      clear hK K
      (try simp only [pt_])
      refine wpAnyH_ready (rs := [6]) (by kernel_rfl) (by simp) ?_
      refine AllReadyH.cons (o := { dst := some 26, op := _, type := _, pos := _, after := _, guard := _ }) rfl (fun K hK => ?_) ?_
      go_simp
      refine hK.out _ _ ?_ (fun hHeld => ?_)
      · trivial
      clear hK K
      (try simp only [pt_])
      refine tk (i := 7) (oi := ⟨some 27, _, _, _, _, _⟩) (v := ?v7_8) hHeld rfl ?y7_8 ?r7_8
      case y7_8 => (intro w _; first | (go_simp; done) | (go_simp; with_reducible rfl) | (with_reducible rfl))
      (try simp only [pt_])
      refine tk (i := 9) (oi := ⟨some 29, _, _, _, _, _⟩) (v := ?v9_9) hHeld rfl ?y9_9 ?r9_9
      case y9_9 => (intro w _; first | (go_simp; done) | (go_simp; with_reducible rfl) | (with_reducible rfl))
      (try simp only [pt_])
      refine wpAnyH_ready (rs := [10]) (by kernel_rfl) (by simp) ?_
      refine AllReadyH.cons (o := { dst := some 30, op := _, type := _, pos := _, after := _, guard := _ }) rfl (fun K hK => ?_) ?_
      go_simp
      refine hK.out _ _ ?_ (fun hHeld => ?_)
      · trivial
      clear hK K
      (try simp only [pt_])
      refine wpAnyH_ready (rs := [11]) (by kernel_rfl) (by simp) ?_
      refine AllReadyH.cons (o := { dst := some 31, op := _, type := _, pos := _, after := _, guard := _ }) rfl (fun K hK => ?_) ?_
      have b2 := (hbel.drew).alloc hbel.drew.size (.cells #[.int .i64 (X * Y % p)] 3)
      refine step_appI _ rfl _ _ rfl w.heap.size _ 4 c1 (dlQ p key 4) rfl (own.drew.alloc _) _ 1 1 [X * Y % p] rfl (Ints.lit1 _ _ _) (by omega) b2.size ?_
      intro a5 c5 w3 o5 u5 g5 i5
      have b3 := b2.trans u5
      clear b2 u5 g5 i5
      refine hK.out _ _ ?_ (fun hHeld => ?_)
      · trivial
      clear hK K
      (try simp only [pt_])
      refine tk (i := 12) (oi := ⟨some 4, _, _, _, _, _⟩) (v := ?v12_10) hHeld rfl ?y12_10 ?r12_10
      case y12_10 => (intro w _; first | (go_simp; done) | (go_simp; with_reducible rfl) | (with_reducible rfl))
      (try simp only [pt_])
      refine wpAnyH_done (by kernel_rfl) ?_ _
      refine NoPanic.normal ?_
      rotate_left 1
      exact AllReadyH.nil
      exact AllReadyH.nil
      exact AllReadyH.nil
      refine AllReadyH.cons (o := { dst := some 26, op := _, type := _, pos := _, after := _, guard := _ }) rfl (fun K hK => ?_) ?_
      go_simp
      refine hK.out _ _ ?_ (fun hHeld => ?_)
      · trivial
      clear hK K
      (try simp only [pt_])
      refine wpAnyH_ready (rs := [3]) (by kernel_rfl) (by simp) ?_
      refine AllReadyH.cons (o := { dst := some 23, op := _, type := _, pos := _, after := _, guard := _ }) rfl (fun K hK => ?_) ?_
      go_simp
      refine hK.out _ _ ?_ (fun hHeld => ?_)
      · trivial
      clear hK K
      (try simp only [pt_])
      refine tk (i := 7) (oi := ⟨some 27, _, _, _, _, _⟩) (v := ?v7_11) hHeld rfl ?y7_11 ?r7_11
      case y7_11 => (intro w _; first | (go_simp; done) | (go_simp; with_reducible rfl) | (with_reducible rfl))
      (try simp only [pt_])
      refine tk (i := 9) (oi := ⟨some 29, _, _, _, _, _⟩) (v := ?v9_12) hHeld rfl ?y9_12 ?r9_12
      case y9_12 => (intro w _; first | (go_simp; done) | (go_simp; with_reducible rfl) | (with_reducible rfl))
      (try simp only [pt_])
      refine wpAnyH_ready (rs := [10]) (by kernel_rfl) (by simp) ?_
      refine AllReadyH.cons (o := { dst := some 30, op := _, type := _, pos := _, after := _, guard := _ }) rfl (fun K hK => ?_) ?_
      go_simp
      refine hK.out _ _ ?_ (fun hHeld => ?_)
      · trivial
      clear hK K
      (try simp only [pt_])
      refine wpAnyH_ready (rs := [11]) (by kernel_rfl) (by simp) ?_
      refine AllReadyH.cons (o := { dst := some 31, op := _, type := _, pos := _, after := _, guard := _ }) rfl (fun K hK => ?_) ?_
      have b2 := (hbel.drew).alloc hbel.drew.size (.cells #[.int .i64 (X * Y % p)] 3)
      refine step_appI _ rfl _ _ rfl w.heap.size _ 4 c1 (dlQ p key 4) rfl (own.drew.alloc _) _ 1 1 [X * Y % p] rfl (Ints.lit1 _ _ _) (by omega) b2.size ?_
      intro a5 c5 w3 o5 u5 g5 i5
      have b3 := b2.trans u5
      clear b2 u5 g5 i5
      refine hK.out _ _ ?_ (fun hHeld => ?_)
      · trivial
      clear hK K
      (try simp only [pt_])
      refine tk (i := 12) (oi := ⟨some 4, _, _, _, _, _⟩) (v := ?v12_13) hHeld rfl ?y12_13 ?r12_13
      case y12_13 => (intro w _; first | (go_simp; done) | (go_simp; with_reducible rfl) | (with_reducible rfl))
      (try simp only [pt_])
      refine wpAnyH_done (by kernel_rfl) ?_ _
      refine NoPanic.normal ?_
      rotate_left 1
      exact AllReadyH.nil
      exact AllReadyH.nil
      exact AllReadyH.nil
      exact AllReadyH.nil
      all_goals
        go_wp2
        go_ret
        exact ⟨a5, c5, rfl, by rw [HL.out]; exact o5, b3⟩
set_option maxHeartbeats 1000000 in
theorem deltaOf_any (p key party : Int) (w : World) (hp : 2 ≤ p) (hp2 : p ≤ 251) (hk : 0 ≤ key ∧ key ≤ 1000000000) (hq : 0 ≤ party ∧ party ≤ 1) :
    Calls Try.prog 15 #[.int .i64 p, .int .i64 key, .int .i64 party] w fun e w' => e = .returned (.int .i64 (dlD p key party)) ∧ Below w.heap.size w w' := by
  have HW := Lib.hid (WB.key (a := 2) (b := party) hk (by omega) (by omega))
  have hr := numI_range [key, 2, party, 61] (p - 1) (by omega)
  have t1 : IntKind.i64.wrap (p - 1) = p - 1 := IntWalk.i64_in _ (by omega)
  have t2 : IntKind.i64.wrap (1 + numI [key, 2, party, 61] (p - 1)) = 1 + numI [key, 2, party, 61] (p - 1) := IntWalk.i64_in _ (by omega)
  unfold dlD
  go_enter Try.func15, Try.ntmps15
  go_wp2_with fail
  refine (numberFrom_any _ _ _ [key, 2, party, 61] (p - 1) _ (Own.lit w w.heap.size [key, 2, party, 61] (Nat.le_refl _) (by simp [maxLen])).ints (by simp) HW.out (by omega) (by omega)).mono ?_; rintro e w2 ⟨rfl, u5⟩
  have v5 := below_a1 u5
  clear u5
  go_wp2
  go_ret
  exact ⟨rfl, v5⟩
set_option maxHeartbeats 1000000 in
theorem ptDraw_any (key kind i n : Int) (w : World) (hw : WB [key, kind, i, 61]) (h1 : 1 ≤ n) (h2 : n ≤ 2000000000) :
    Calls Try.prog 30 #[.int .i64 key, .int .i64 kind, .int .i64 i, .int .i64 n] w fun e w' => e = .returned (.int .i64 (numI [key, kind, i, 61] n)) ∧ Below w.heap.size w w' := by
  have HW := Lib.hid hw
  clear hw
  go_enter Try.func30, Try.ntmps30
  go_wp2_with fail
  refine (dgBelow_any _ _ _ [key, kind, i, 61] n _ (Own.lit w w.heap.size [key, kind, i, 61] (Nat.le_refl _) (by simp [maxLen])).ints (by simp) HW.out (by omega) (by omega)).mono ?_; rintro e w2 ⟨rfl, u5⟩
  have v5 := below_a1 u5
  clear u5
  go_wp2
  go_ret
  exact ⟨rfl, v5⟩
set_option maxHeartbeats 1000000 in
theorem ptDelta_any (p key party : Int) (w : World) (hp : 2 ≤ p) (hp2 : p ≤ 251) (hk : 0 ≤ key ∧ key ≤ 1000000000) (hq : 0 ≤ party ∧ party ≤ 1) :
    Calls Try.prog 31 #[.int .i64 p, .int .i64 key, .int .i64 party] w fun e w' => e = .returned (.int .i64 (dlD p key party)) ∧ Below w.heap.size w w' := by
  have HW := Lib.hid (WB.key (a := 2) (b := party) hk (by omega) (by omega))
  have hr := numI_range [key, 2, party, 61] (p - 1) (by omega)
  have t1 : IntKind.i64.wrap (p - 1) = p - 1 := IntWalk.i64_in _ (by omega)
  have t2 : IntKind.i64.wrap (1 + numI [key, 2, party, 61] (p - 1)) = 1 + numI [key, 2, party, 61] (p - 1) := IntWalk.i64_in _ (by omega)
  unfold dlD
  by_cases h : 1 < p - 1
  · have h' : decide (1 < p - 1) = true := decide_eq_true h
    go_enter Try.func31, Try.ntmps31
    go_wp2_with (first | (go_at_call 40; go_in))
    refine (ptDraw_any key 2 party (p - 1) _ HW.out (by omega) (by omega)).mono ?_; rintro e w2 ⟨rfl, u5⟩
    go_wp2
    go_ret
    exact ⟨rfl, u5⟩
  · have h' : decide (1 < p - 1) = false := decide_eq_false h
    obtain rfl : p = 2 := by omega
    clear t1 h h'
    rw [show ((2 : Int) - 1) = 1 from rfl] at hr t2 ⊢
    go_enter Try.func31, Try.ntmps31
    go_wp2_with (first | (go_at_call 40; go_in))
    refine (ptDraw_any key 2 party 1 _ HW.out (by omega) (by omega)).mono ?_; rintro e w2 ⟨rfl, u5⟩
    go_wp2
    go_ret
    exact ⟨rfl, u5⟩
set_option maxHeartbeats 4000000 in
theorem ptKeys_any (p key party : Int) (w : World) (hp : 2 ≤ p) (hp2 : p ≤ 251) (hk : 0 ≤ key ∧ key ≤ 1000000000) (hq : 0 ≤ party ∧ party ≤ 1) :
    Calls Try.prog 32 #[.int .i64 p, .int .i64 key, .int .i64 party] w fun e w' => ∃ a c, e = .returned (.slice a 5 c) ∧ Own w' w.heap.size a 5 c (dlK p key party 5) ∧ Below w.heap.size w w' := by
  have HKR := Lib.hid hk
  clear hk
  have t1 : IntKind.i64.wrap (3 + party) = 3 + party := IntWalk.i64_in _ (by omega)
  go_enter Try.func32, Try.ntmps32
  go_wp2
  go_loopw [7, 8] (fun u v wr => ∃ k : Nat, k ≤ 5 ∧ v = .int .i64 k ∧ Below w.heap.size w wr ∧ ∃ a1 c1, u = .slice a1 k c1 ∧ Own wr w.heap.size a1 k c1 (dlK p key party k)) (fun _ v _ => 5 - (intOf v).toNat)
  case atStart => exact ⟨0, by omega, rfl, Below.refl _ _, _, _, rfl, Own.nil0 _ _ _⟩
  case round =>
    obtain ⟨k, hk, rfl, hbel, a1, c1, rfl, own⟩ := hrel
    by_cases hlt : k < 5
    · have hlt' : (k : Int) < 5 := by omega
      have HS := Lib.hid (dlK_succ p key party k)
      have HW := Lib.hid (WB.key (a := 3 + party) (b := (k : Int)) HKR.out (by omega) (by omega))
      go_wp2_with fail
      refine (ptDraw_any key (3 + party) k p _ HW.out (by omega) (by omega)).mono ?_; rintro e w2 ⟨rfl, u5⟩
      have own2 := own.below u5
      have b2 := hbel.trans (u5.mono hbel.size)
      clear own u5 hbel
      generalize numI [key, 3 + party, (k : Int), 61] p = X at *
      go_wp2_with (at_builtin; refine wpList_appI _ rfl _ _ rfl w.heap.size a1 k c1 (dlK p key party k) rfl (own2.alloc _) _ 1 1 [X] rfl (Ints.lit1 _ _ _) (by omega) (by have := b2.size; simp; omega) ?_)
      intro a5 c5 w3 o5 u5 _
      have b3 := (b2.alloc b2.size (.cells #[.int .i64 X] 3)).trans u5
      clear u5 b2 own2
      go_wp2
      go_roundw
      case rel => exact ⟨k + 1, by omega, by go_num, b3, a5, c5, rfl, by rw [HS.out]; exact o5⟩
      case measure => simp [intOf]; omega
    · obtain rfl : k = 5 := by omega
      go_wp2
      go_ret
      exact ⟨a1, c1, rfl, own, hbel⟩
end Go.Proofs.Ytlmdckcohoddnaa
namespace Go.Proofs.Ytlmdckcohoddnaa
open Go
section
variable {P : Program} {ops : Array Oper} {Q : Exit → Act → World → Prop} {md : Region.Mode} {S : World → Prop}
/-- Does operation i wait for number d? -/
def waitsB (md : Region.Mode) (ops : Array Oper) (i d : Nat) : Bool :=
  match ops[i]? with
  | none => false
  | some o => o.after.any fun e => Region.binds md e && e.on == d
/-- The marks l with the marks T at the numbers D. -/
def mkL : Array Bool → List Nat → List Bool → Array Bool
  | l, d :: D, t :: T => mkL (l.setIfInBounds d t) D T
  | l, _, _ => l
def bools : Nat → List (List Bool)
  | 0 => [[]]
  | n + 1 => (bools n).flatMap fun t => [false :: t, true :: t]
theorem mem_bools : ∀ (n : Nat) (T : List Bool), T.length = n → T ∈ bools n
  | 0, [], _ => by simp [bools]
  | n + 1, t :: T, h => by
    have := mem_bools n T (by simpa using h)
    unfold bools
    rw [List.mem_flatMap]
    refine ⟨T, this, ?_⟩
    cases t <;> simp
/-- Whoever is marked has what it waits for marked. -/
def cloB (md : Region.Mode) (ops : Array Oper) (l : Array Bool) : Bool :=
  (List.range ops.size).all fun i => !l.getD i false || ((ops[i]?).map (·.after.all fun e => !Region.binds md e || l.getD e.on false)).getD true
/-- As long as not all of D are marked, some one can come up, and only such as are of D. -/
def chkI (md : Region.Mode) (ops : Array Oper) (L : Array Bool) (D : List Nat) : Bool :=
  (bools D.length).all fun T =>
    let l := mkL L D T
    !cloB md ops l || T.all id || (let r := Region.ready md ops l; !r.isEmpty && r.all fun i => D.contains i)
def unl (l : Array Bool) : Nat := l.toList.countP (fun b => !b)
theorem unl_set {l : Array Bool} {i : Nat} (h : l.getD i true = false) : unl (l.setIfInBounds i true) + 1 = unl l := by
  have hi : i < l.size := by
    rcases Nat.lt_or_ge i l.size with h' | h'
    · exact h'
    · simp [Array.getElem?_eq_none h'] at h
  have hv : l.toList[i]'(by simpa using hi) = false := by
    simpa [hi] using h
  unfold unl
  rw [Array.toList_setIfInBounds, List.countP_set (by simpa using hi)]
  have hp : 0 < l.toList.countP (fun b => !b) := List.countP_pos_iff.2 ⟨_, List.getElem_mem (by simpa using hi), by rw [hv]; rfl⟩
  rw [hv]
  simp only [Bool.not_false, if_true, Bool.not_true, Bool.false_eq_true, if_false, Nat.add_zero]
  omega
theorem cloB_set {l : Array Bool} {i : Nat} (hc : cloB md ops l = true) (hi : i ∈ Region.ready md ops l) : cloB md ops (l.setIfInBounds i true) = true := by
  unfold cloB at *
  rw [List.all_eq_true] at *
  intro j hj
  obtain ⟨h0, o, ho, hall⟩ := mem_ready.1 hi
  by_cases hij : i = j
  · subst hij
    rw [ho]
    simp only [Option.map_some, Option.getD_some, Bool.or_eq_true, Array.all_eq_true_iff_forall_mem]
    right
    intro e he
    cases hb : Region.binds md e
    · simp
    · right; exact getD_set_true (hall e he hb)
  · have := hc j hj
    rw [getD_set_ne false hij]
    cases hl : l.getD j false
    · simp
    · rw [hl] at this
      simp only [Bool.not_true, Bool.false_or] at this ⊢
      cases hoj : ops[j]? with
      | none => simp
      | some oj =>
        rw [hoj] at this
        simp only [Option.map_some, Option.getD_some, Array.all_eq_true_iff_forall_mem, Bool.or_eq_true] at this ⊢
        intro e he
        exact (this e he).imp id getD_set_true
/-- Each of the operations `is`, whenever it comes up, leads from J to J. -/
def StepsI (P : Program) (md : Region.Mode) (ops : Array Oper) (Q : Exit → Act → World → Prop) (S : World → Prop) (J : Array Bool → Act → World → Prop) (is : List Nat) : Prop :=
  ∀ i ∈ is, ∀ l a w, S w → J l a w → i ∈ Region.ready md ops l → wpOp P ops Q i (fun a' w' => S w' ∧ J (l.setIfInBounds i true) a' w') a w
theorem StepsI.nil {J : Array Bool → Act → World → Prop} : StepsI P md ops Q S J [] := fun _ h => by cases h
theorem StepsI.cons {J : Array Bool → Act → World → Prop} {i : Nat} {o : Oper} {is : List Nat} (ho : ops[i]? = some o)
    (h : ∀ (l : Array Bool) (a : Act) (w : World) (K : Act → World → Prop), S w → J l a w → l.getD i true = false → (∀ d, waitsB md ops i d = true → l.getD d false = true) →
      Shut (∀ a w, S w → J (l.setIfInBounds i true) a w → K a w) → if Region.wanted o (yielded ops a.tmps) = true then Oper.wp P o a w K Q else K (a.put o.dst undef) w)
    (hs : StepsI P md ops Q S J is) : StepsI P md ops Q S J (i :: is) := fun j hj => by
  rcases List.mem_cons.1 hj with rfl | hj
  · intro l a w hS hJ hr
    obtain ⟨h0, o', ho', hall⟩ := mem_ready.1 hr
    refine wpOp_step ho (fun K' hK => h l a w K' hS hJ h0 ?_ (fun a w hS hW => hK a w ⟨hS, hW⟩))
    intro d hd
    unfold waitsB at hd
    rw [ho'] at hd
    simp only [Array.any_eq_true'] at hd
    obtain ⟨e, he, hb⟩ := hd
    rw [Bool.and_eq_true] at hb
    have := hall e he hb.1
    rw [eq_of_beq hb.2] at this
    exact this
  · exact hs j hj
theorem wpAnyH_inv0 (D : List Nat) (L : Array Bool) (f0 f1 : Nat) (J : Array Bool → Act → World → Prop)
    (hc : cloB md ops L = true) (hk : chkI md ops L D = true) (hf0 : unl L = f0) (hf1 : unl (mkL L D (D.map fun _ => true)) = f1)
    (hJ : ∀ l a w, J l a w → ∃ T, T.length = D.length ∧ l = mkL L D T) {a : Act} {w : World} (hS : S w) (hi : J L a w) (hs : StepsI P md ops Q S J D)
    (he : ∀ a w, S w → J (mkL L D (D.map fun _ => true)) a w → wpAnyH P md ops Q S f1 (mkL L D (D.map fun _ => true)) a w) : wpAnyH P md ops Q S f0 L a w := by
  have main : ∀ (fuel : Nat) (l : Array Bool) (a : Act) (w : World), unl l = fuel → cloB md ops l = true → S w → J l a w → wpAnyH P md ops Q S fuel l a w := by
    intro fuel
    induction fuel with
    | zero =>
      intro l a w hu hcl hS hj
      obtain ⟨T, hT, rfl⟩ := hJ l a w hj
      have hno : Region.ready md ops (mkL L D T) = [] := by
        cases hr : Region.ready md ops (mkL L D T) with
        | nil => rfl
        | cons i is =>
          have hm : i ∈ Region.ready md ops (mkL L D T) := by rw [hr]; simp
          have := unl_set (mem_ready.1 hm).1
          omega
      have hall : T.all id = true := by
        have h := List.all_eq_true.1 hk T (mem_bools _ _ hT)
        simp only [hcl, hno, Bool.not_true, Bool.false_or, List.isEmpty_nil, Bool.false_and, Bool.or_false] at h
        exact h
      have hTt : T = D.map fun _ => true := by
        apply List.ext_getElem (by simpa using hT)
        intro n h1 h2
        have := List.all_eq_true.1 hall _ (List.getElem_mem h1)
        simpa using this
      subst hTt
      have := he a w hS hj
      rw [← hf1, hu] at this
      exact this
    | succ fuel ih =>
      intro l a w hu hcl hS hj
      obtain ⟨T, hT, rfl⟩ := hJ l a w hj
      have h := List.all_eq_true.1 hk T (mem_bools _ _ hT)
      cases hall : T.all id
      · simp only [hcl, hall, Bool.not_true, Bool.false_or, Bool.and_eq_true, Bool.not_eq_true', List.all_eq_true] at h
        refine ⟨fun h' => by rw [h'] at h; simp at h, fun i hi => ?_⟩
        have hiD : i ∈ D := by simpa using h.2 i hi
        refine wpOp_mono (fun a' w' h3 => ⟨h3.1, ih _ a' w' ?_ (cloB_set hcl hi) h3.1 h3.2⟩) (hs i hiD _ a w hS hj hi)
        have := unl_set (mem_ready.1 hi).1
        omega
      · have hTt : T = D.map fun _ => true := by
          apply List.ext_getElem (by simpa using hT)
          intro n h1 h2
          have := List.all_eq_true.1 hall _ (List.getElem_mem h1)
          simpa using this
        subst hTt
        have := he a w hS hj
        rw [← hf1, hu] at this
        exact this
  exact main f0 L a w hf0 hc hS hi
/-- The same, the invariant over the act at the region's beginning, the last marks written out. -/
theorem wpAnyH_inv (D : List Nat) (L L1 : Array Bool) (f0 f1 : Nat) (J : Act → Array Bool → Act → World → Prop) {a : Act} {w : World}
    (hc : cloB md ops L = true) (hk : chkI md ops L D = true) (hf0 : unl L = f0) (hl1 : mkL L D (D.map fun _ => true) = L1) (hf1 : unl L1 = f1)
    (hJ : ∀ l b w, J a l b w → ∃ T, T.length = D.length ∧ l = mkL L D T) (hS : S w) (hi : J a L a w) (hs : StepsI P md ops Q S (J a) D)
    (he : ∀ b w, S w → J a L1 b w → wpAnyH P md ops Q S f1 L1 b w) : wpAnyH P md ops Q S f0 L a w := by
  subst hl1
  exact wpAnyH_inv0 D L f0 f1 (J a) hc hk hf0 hf1 hJ hS hi hs he
/-! ### The same, where behind an operation of D others that are pure are taken first -/
/-- What is to be shown of a state: the rest goes in whatever order (n bounds what has not come up). -/
def GoI (P : Program) (md : Region.Mode) (ops : Array Oper) (Q : Exit → Act → World → Prop) (S : World → Prop) (n : Nat) (l : Array Bool) (a : Act) (w : World) : Prop :=
  cloB md ops l = true → unl l ≤ n → wpAnyH P md ops Q S (unl l) l a w
theorem GoI.take {n i : Nat} {oi : Oper} {v : Value} {l : Array Bool} {a : Act} {w : World} (hi : ops[i]? = some oi) (hs : Region.noSelect ops = true) (hf : Region.free md ops l i = true) (hr : (Region.ready md ops l).contains i = true)
    (hQ : ∀ c a w, Q (.panic c) (a.put oi.dst v) w → Q (.panic c) a w) (hy : YieldsIf P ops S oi v a) (hS : S w) (h : GoI P md ops Q S n (l.setIfInBounds i true) (a.put oi.dst v) w) : GoI P md ops Q S n l a w := fun hc hu => by
  have hm : i ∈ Region.ready md ops l := by simpa using hr
  have h1 := unl_set (mem_ready.1 hm).1
  have h2 := h (cloB_set hc hm) (by omega)
  rw [← h1]
  exact wpAnyH_take hi hs hf hr hQ hy hS h2
def StepsG (P : Program) (md : Region.Mode) (ops : Array Oper) (Q : Exit → Act → World → Prop) (S : World → Prop) (J : Array Bool → Act → World → Prop) (is : List Nat) : Prop :=
  ∀ i ∈ is, ∀ n, (∀ l a w, S w → J l a w → GoI P md ops Q S n l a w) → ∀ l a w, S w → J l a w → i ∈ Region.ready md ops l → wpOp P ops Q i (fun a' w' => S w' ∧ GoI P md ops Q S n (l.setIfInBounds i true) a' w') a w
theorem StepsG.nil {J : Array Bool → Act → World → Prop} : StepsG P md ops Q S J [] := fun _ h => by cases h
theorem StepsG.cons {J : Array Bool → Act → World → Prop} {i : Nat} {o : Oper} {is : List Nat} (ho : ops[i]? = some o)
    (h : ∀ (n : Nat) (l : Array Bool) (a : Act) (w : World) (K : Act → World → Prop), Shut (∀ l a w, S w → J l a w → GoI P md ops Q S n l a w) → S w → J l a w → l.getD i true = false → (∀ d, waitsB md ops i d = true → l.getD d false = true) →
      Shut (∀ a w, S w → GoI P md ops Q S n (l.setIfInBounds i true) a w → K a w) → if Region.wanted o (yielded ops a.tmps) = true then Oper.wp P o a w K Q else K (a.put o.dst undef) w)
    (hs : StepsG P md ops Q S J is) : StepsG P md ops Q S J (i :: is) := fun j hj => by
  rcases List.mem_cons.1 hj with rfl | hj
  · intro n IH l a w hS hJ hr
    obtain ⟨h0, o', ho', hall⟩ := mem_ready.1 hr
    refine wpOp_step ho (fun K' hK => h n l a w K' IH hS hJ h0 ?_ (fun a w hS hW => hK a w ⟨hS, hW⟩))
    intro d hd
    unfold waitsB at hd
    rw [ho'] at hd
    simp only [Array.any_eq_true'] at hd
    obtain ⟨e, he, hb⟩ := hd
    rw [Bool.and_eq_true] at hb
    have := hall e he hb.1
    rw [eq_of_beq hb.2] at this
    exact this
  · exact hs j hj
theorem Act.selfs {a b : Act} (h : a = b) (d : Nat) : a = b.put (some d) (a.tmps.getD d undef) := by
  subst h
  unfold Act.put
  rcases Nat.lt_or_ge d a.tmps.size with h | h
  · simp [h, Array.setIfInBounds]
  · simp [Array.setIfInBounds, Nat.not_lt.2 h]
end
end Go.Proofs.Ytlmdckcohoddnaa
namespace Go.Proofs.Ytlmdckcohoddnaa
open Go.RowKit
theorem step_st {c : Prop} [Decidable c] {o : Oper} {act : Act} {w : World} {K : Act → World → Prop} {Q : Exit → Act → World → Prop} {E : Prop} {g : Nat} {t : TypeId} {old vs : Array Value} (hB : Blk w g t old) (hc : c) (ty : TypeId) (x y : Operand) (ho : o.op = .store ty x y)
    (hx : act.eval x = .pointer (some ⟨g, 0, none⟩)) (hy : act.eval y = .agg vs) (hi : (Try.prog.info? ty).map (·.size) = some vs.size) (hs : old.size = vs.size) (h1 : vs.all (·.oneCell') = true)
    (h : ∀ N, Blk N g t vs → Only [g] w N → K (act.put o.dst undef) N) :
    if c then Oper.wp Try.prog o act w K Q else E := by
  rw [if_pos hc]
  exact wp_store_row ty x y ho g vs hx hy t old hB hi hs h1 (h _ (setRow_heap w g old _ t _ hB) ⟨rfl, rfl, rfl, by simp, fun q _ hq => setRow_other w g q _ (by simpa using hq)⟩)
end Go.Proofs.Ytlmdckcohoddnaa
namespace Go.Proofs.Ytlmdckcohoddnaa
open Go.RowKit
section
variable {T E sz bytes : Nat} {z : Value} {w : World} {o : Oper} {act : Act} {Q : Exit → Act → World → Prop}
theorem wp_appC {K : Act → World → Prop} (hu : Try.prog.underlying T = some (.slice E)) (hinfo : (Try.prog.info? E).map (fun i => (i.zero, i.size, i.bytes)) = some (some z, sz, bytes)) (hzs : z.cells.size = sz) (hsz : 0 < sz)
    (s x : Operand) (ho : o.op = .call { callee := .builtin .append, args := #[s, x], argTypes := #[T, T] })
    (b : Nat) (a : Option Addr) (n c : Nat) (xs : List Value) (hs : act.eval s = .slice a n c) (hown : OwnC w b a n c E sz xs)
    (a' : Option Addr) (m c' : Nat) (xs' : List Value) (hx : act.eval x = .slice a' m c') (hrow : RowC w a' m c' sz xs') (h1 : ∀ u ∈ xs', u.oneCell' = true)
    (hlen : (n + m) * bytes ≤ 140737488355328) (hmax : n + m ≤ maxLen) (hbase : b ≤ w.heap.size)
    (h : ∀ a2 c2 w', OwnC w' b a2 (n + m) c2 E sz (xs ++ xs') → Below b w w' → w.grownBy w' (rowOf a c) → Moved w a c a2 c2 → K (act.put o.dst (.slice a2 (n + m) c2)) w') : o.wp Try.prog act w K Q := by
  obtain ⟨i0, hi, hz0, hz1, hz2⟩ := info_parts hinfo
  obtain ⟨a2, c2, w', hrun, h1, h2, _, h9⟩ := run_app2 w T o.type b E i0 z sz bytes hu hi hz0 hz1 hz2 hzs hsz a n c _ hown a' m c' _ hrow h1 hlen hmax hbase
  unfold Oper.wp
  simp [execOp, ho, resolve, invoke, builtin, hs, hx, hrun, Result.andThen]
  exact h a2 c2 w' h1 (below_grownBy h2 hbase (fun x hc hx => (hown.range x hc hx).1)) h2 h9
theorem step_appC {ops : Array Oper} {K : Act → World → Prop} {P2 : Prop} (hu : Try.prog.underlying T = some (.slice E)) (hinfo : (Try.prog.info? E).map (fun i => (i.zero, i.size, i.bytes)) = some (some z, sz, bytes)) (hzs : z.cells.size = sz) (hsz : 0 < sz) (hgd : o.guard = none)
    (s x : Operand) (ho : o.op = .call { callee := .builtin .append, args := #[s, x], argTypes := #[T, T] })
    (b : Nat) (a : Option Addr) (n c : Nat) (xs : List Value) (hs : act.eval s = .slice a n c) (hown : OwnC w b a n c E sz xs)
    (a' : Option Addr) (m c' : Nat) (xs' : List Value) (hx : act.eval x = .slice a' m c') (hrow : RowC w a' m c' sz xs') (h1 : ∀ u ∈ xs', u.oneCell' = true)
    (hlen : (n + m) * bytes ≤ 140737488355328) (hmax : n + m ≤ maxLen) (hbase : b ≤ w.heap.size)
    (h : ∀ a2 c2 w', OwnC w' b a2 (n + m) c2 E sz (xs ++ xs') → Below b w w' → w.grownBy w' (rowOf a c) → Moved w a c a2 c2 → K (act.put o.dst (.slice a2 (n + m) c2)) w') :
    if Region.wanted o (yielded ops act.tmps) = true then Oper.wp Try.prog o act w K Q else P2 := by
  rw [if_pos (by simp [Region.wanted, hgd])]
  exact wp_appC hu hinfo hzs hsz s x ho b a n c xs hs hown a' m c' xs' hx hrow h1 hlen hmax hbase h
end
section
variable {w : World} {o : Oper} {act : Act} {Q : Exit → Act → World → Prop}
theorem step_appT {ops : Array Oper} {K : Act → World → Prop} {P2 : Prop} (hgd : o.guard = none)
    (s x : Operand) (ho : o.op = .call { callee := .builtin .append, args := #[s, x], argTypes := #[22, 22] })
    (b : Nat) (a : Option Addr) (n c : Nat) (xs : List Value) (hs : act.eval s = .slice a n c) (hown : OwnC w b a n c 43 2 xs)
    (a' : Option Addr) (m c' : Nat) (xs' : List Value) (hx : act.eval x = .slice a' m c') (hrow : RowC w a' m c' 2 xs') (h1 : ∀ u ∈ xs', u.oneCell' = true)
    (hlen : n + m ≤ 1000000) (hbase : b ≤ w.heap.size)
    (h : ∀ a2 c2 w', OwnC w' b a2 (n + m) c2 43 2 (xs ++ xs') → Below b w w' → w.grownBy w' (rowOf a c) → Moved w a c a2 c2 → K (act.put o.dst (.slice a2 (n + m) c2)) w') :
    if Region.wanted o (yielded ops act.tmps) = true then Oper.wp Try.prog o act w K Q else P2 :=
  step_appC Try.underlying22 info_Tagged rfl (by decide) hgd s x ho b a n c xs hs hown a' m c' xs' hx hrow h1 (by omega) (by unfold maxLen; omega) hbase h
end
end Go.Proofs.Ytlmdckcohoddnaa
