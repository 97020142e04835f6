/- Lemmas and walks that the claim's proof rests on, part 3. -/
import Derived.Test.YtchmakepglaijaaGreatK1
namespace Go.Proofs.YtchmakepglaijaaGreat
open Go.RowKit
set_option maxHeartbeats 1000000 in
theorem areAll_1_any (x : Int) (p : Addr) (f : Nat) (cap : Array Value) (b : Bool) (w : World) (hp : w.cell? p = some (.func (.func f) #[] cap))
    (hf : ∀ args W, (callFunc f args).run Tryz.prog W = .ok (.enter f args) W)
    (hq : ∀ m, Calls Tryz.prog f (#[.int .i64 x] ++ cap) (w.drewN m) fun e w' => e = .returned (.bool b) ∧ ∃ m', w' = (w.drewN m).drewN m') :
    Calls Tryz.prog 85 #[.int .i64 x, .pointer (some p)] w fun e w' => e = .returned (.bool (!b)) ∧ ∃ m, w' = w.drewN m := by
  have HQ := Lib.hid (hq 0)
  clear hq
  go_enter Tryz.func85, Tryz.ntmps85
  go_wp2_with (refine HQ.out.mono ?_; rintro e w' ⟨rfl, m', rfl⟩)
  go_ret
  exact ⟨rfl, _, rfl⟩
theorem areAll_1_enters (args : Array Value) (W : World) : (callFunc 85 args).run Tryz.prog W = .ok (.enter 85 args) W :=
  enters Tryz.func85 (by kernel_rfl) (by kernel_rfl) args W
set_option maxHeartbeats 1000000 in
theorem areAll_any (a : Option Addr) (n c : Nat) (l : List Int) (f : Nat) (cap : Array Value) (q : Int → Bool) (w : World) (h : Ints w a n c l)
    (hf : ∀ args W, (callFunc f args).run Tryz.prog W = .ok (.enter f args) W)
    (hq : ∀ W x, Below w.heap.size w W → x ∈ l → Calls Tryz.prog f (#[.int .i64 x] ++ cap) W fun e w' => e = .returned (.bool (q x)) ∧ ∃ m, w' = W.drewN m) :
    Calls Tryz.prog 38 #[.slice a n c, .func (.func f) #[] cap] w fun e w' => e = .returned (.bool (l.all q)) ∧ Below w.heap.size w w' := by
  have hall : (!l.any fun x => !q x) = l.all q := by rw [List.all_eq_not_any_not]
  have HALL := Lib.hid hall
  clear hall
  have hbel : Below w.heap.size w (w.alloc (.cells #[.func (.func f) #[] cap] 64)) := (Below.refl _ _).alloc (Nat.le_refl _) _
  have hc : (w.alloc (.cells #[.func (.func f) #[] cap] 64)).cell? ⟨w.heap.size, 0, none⟩ = some (.func (.func f) #[] cap) := cell_new _ _ _
  have hcf := ContainsFunc_any a n c l 85 #[.pointer (some ⟨w.heap.size, 0, none⟩)] (fun x => !q x) (w.alloc (.cells #[.func (.func f) #[] cap] 64)) (h.alloc _) areAll_1_enters
    (fun W x hb hx => areAll_1_any x _ f cap (q x) W (by rw [hb.cell (by simp)]; exact hc) hf (fun m => hq _ x (hbel.trans ((hb.mono (by simp)).trans ((below_of_drewN m).mono (by have := hb.size; simp at this; omega)))) hx))
  have HCF := Lib.hid hcf
  clear hcf hq hf
  go_enter Tryz.func38, Tryz.ntmps38
  go_wp2_with (go_at_call 84; refine HCF.out.mono ?_; rintro e w' ⟨rfl, m, rfl⟩)
  go_ret
  exact ⟨ret_bool HALL.out, below_drewN hbel _⟩
def bitB (x : Int) : Bool := decide (0 ≤ x ∧ x ≤ 1)
set_option maxHeartbeats 400000 in
theorem isBit_any (x : Int) (w : World) : Calls Tryz.prog 39 #[.int .i64 x] w fun e w' => e = .returned (.bool (bitB x)) ∧ ∃ m, w' = w.drewN m := by
  by_cases h0 : x = 0
  · subst h0
    go_enter Tryz.func39, Tryz.ntmps39
    go_wp2
    go_ret
    exact ⟨rfl, 0, rfl⟩
  · by_cases h1 : x = 1
    · subst h1
      go_enter Tryz.func39, Tryz.ntmps39
      go_wp2
      go_ret
      exact ⟨rfl, 0, rfl⟩
    · have b0 : ((x == 0) : Bool) = false := by simp [h0]
      have b1 : ((x == 1) : Bool) = false := by simp [h1]
      have HB := Lib.hid (show bitB x = false by unfold bitB; exact decide_eq_false (by omega))
      clear h0 h1
      go_enter Tryz.func39, Tryz.ntmps39
      go_wp2
      go_ret
      exact ⟨ret_bool HB.out.symm, 0, rfl⟩
theorem isBit_enters (args : Array Value) (W : World) : (callFunc 39 args).run Tryz.prog W = .ok (.enter 39 args) W :=
  enters Tryz.func39 (by kernel_rfl) (by kernel_rfl) args W
theorem areBits_any (a : Option Addr) (n c : Nat) (l : List Int) (w : World) (h : Ints w a n c l) :
    Calls Tryz.prog 38 #[.slice a n c, .func (.func 39) #[] #[]] w fun e w' => e = .returned (.bool (allB l 0 1)) ∧ Below w.heap.size w w' :=
  areAll_any a n c l 39 #[] bitB w h isBit_enters (fun W x _ _ => isBit_any x W)
set_option maxHeartbeats 400000 in
theorem areElements_1_any (x P : Int) (p : Addr) (w : World) (hp : w.cell? p = some (.int .i64 P)) (h1 : 1 ≤ P) (h2 : P ≤ 1000000) :
    Calls Tryz.prog 126 #[.int .i64 x, .pointer (some p)] w fun e w' => e = .returned (.bool (decide (0 ≤ x ∧ x ≤ P - 1))) ∧ ∃ m, w' = w.drewN m := by
  go_enter Tryz.func126, Tryz.ntmps126
  go_wp2_with (go_at_call 62; refine (within_any _ _ _ _).mono ?_; rintro e w' ⟨rfl, rfl⟩)
  go_ret
  exact ⟨rfl, 0, rfl⟩
theorem areElements_1_enters (args : Array Value) (W : World) : (callFunc 126 args).run Tryz.prog W = .ok (.enter 126 args) W :=
  enters Tryz.func126 (by kernel_rfl) (by kernel_rfl) args W
set_option maxHeartbeats 1000000 in
theorem areElements_any (p : Int) (a : Option Addr) (n c : Nat) (l : List Int) (w : World) (h : Ints w a n c l) :
    Calls Tryz.prog 88 #[.int .i64 p, .slice a n c] w fun e w' => e = .returned (.bool (elsB p l)) ∧ Below w.heap.size w w' := by
  have hbel : Below w.heap.size w (w.alloc (.cells #[.int .i64 p] 3)) := (Below.refl _ _).alloc (Nat.le_refl _) _
  have hc : (w.alloc (.cells #[.int .i64 p] 3)).cell? ⟨w.heap.size, 0, none⟩ = some (.int .i64 p) := cell_new _ _ _
  unfold elsB
  cases hp : isPr p
  · simp only [Bool.false_and]
    go_enter Tryz.func88, Tryz.ntmps88
    go_wp2_with (go_at_call 36; refine (IsPrime_any _ _).mono ?_; rintro e w' ⟨rfl, m, rfl⟩)
    go_ret
    exact ⟨rfl, below_drewN hbel _⟩
  · obtain ⟨r1, r2⟩ := isPr_range hp
    simp only [Bool.true_and]
    have haa := fun (m : Nat) => areAll_any a n c l 126 #[.pointer (some ⟨w.heap.size, 0, none⟩)] (fun x => decide (0 ≤ x ∧ x ≤ p - 1)) ((w.alloc (.cells #[.int .i64 p] 3)).drewN m) ((h.alloc _).drewN m) areElements_1_enters
      (fun W x hb _ => areElements_1_any x p _ W (by rw [hb.cell (by simp)]; exact hc) (by omega) (by omega))
    have HAA := Lib.hid haa
    clear haa
    go_enter Tryz.func88, Tryz.ntmps88
    go_wp2_with (first | (go_at_call 36; refine (IsPrime_any _ _).mono ?_; rintro e w' ⟨rfl, m, rfl⟩) | (go_at_call 38; refine (HAA.out _).mono ?_; rintro e w' ⟨rfl, u⟩))
    go_ret
    have u1 := ‹Below (World.drewN _ _).heap.size _ _›
    exact ⟨ret_bool (by simp [allB]), (below_drewN hbel _).trans (u1.mono (by simp))⟩
def pairB (p : Int) (l : List Int) : Bool := elsB p l && decide (l.length = 2)
def bpairB (l : List Int) : Bool := decide (l.length = 2) && allB l 0 1
set_option maxHeartbeats 400000 in
theorem isPair_any (p : Int) (a : Option Addr) (n c : Nat) (l : List Int) (w : World) (h : Ints w a n c l) :
    Calls Tryz.prog 47 #[.int .i64 p, .slice a n c] w fun e w' => e = .returned (.bool (pairB p l)) ∧ Below w.heap.size w w' := by
  have hn := h.le
  have hl := h.len
  unfold pairB
  cases he : elsB p l
  · simp only [Bool.false_and]
    clear hl
    go_enter Tryz.func47, Tryz.ntmps47
    go_wp2_with fail
    refine (areElements_any _ _ _ _ l _ h).mono ?_; rintro e w1 ⟨rfl, u⟩
    go_wp2
    go_ret
    exact ⟨rfl, by assumption⟩
  · simp only [Bool.true_and]
    by_cases h2 : n = 2
    · rw [decide_eq_true (by omega)]
      have hb : ((n : Int) == 2) = true := by simp [h2]
      clear h2 hl
      go_enter Tryz.func47, Tryz.ntmps47
      go_wp2_with fail
      refine (areElements_any _ _ _ _ l _ h).mono ?_; rintro e w1 ⟨rfl, u⟩
      go_wp2
      go_ret
      exact ⟨rfl, by assumption⟩
    · rw [decide_eq_false (by omega)]
      have hb : ((n : Int) == 2) = false := by simp; omega
      clear h2 hl
      go_enter Tryz.func47, Tryz.ntmps47
      go_wp2_with fail
      refine (areElements_any _ _ _ _ l _ h).mono ?_; rintro e w1 ⟨rfl, u⟩
      go_wp2
      go_ret
      exact ⟨rfl, by assumption⟩
set_option maxHeartbeats 400000 in
theorem trPair_any (p : Int) (a : Option Addr) (n c : Nat) (l : List Int) (w : World) (h : Ints w a n c l) :
    Calls Tryz.prog 53 #[.int .i64 p, .slice a n c] w fun e w' => e = .returned (.bool (pairB p l)) ∧ Below w.heap.size w w' := by
  have hn := h.le
  have hl := h.len
  unfold pairB
  cases he : elsB p l
  · simp only [Bool.false_and]
    clear hl
    go_enter Tryz.func53, Tryz.ntmps53
    go_wp2_with fail
    refine (fpIn_any _ _ _ _ l _ h).mono ?_; rintro e w1 ⟨rfl, q⟩
    go_wp2
    go_ret
    exact ⟨rfl, below_of_quiet (by assumption)⟩
  · simp only [Bool.true_and]
    by_cases h2 : n = 2
    · rw [decide_eq_true (by omega)]
      have hb : ((n : Int) == 2) = true := by simp [h2]
      clear h2 hl
      go_enter Tryz.func53, Tryz.ntmps53
      go_wp2_with fail
      refine (fpIn_any _ _ _ _ l _ h).mono ?_; rintro e w1 ⟨rfl, q⟩
      go_wp2
      go_ret
      exact ⟨rfl, below_of_quiet (by assumption)⟩
    · rw [decide_eq_false (by omega)]
      have hb : ((n : Int) == 2) = false := by simp; omega
      clear h2 hl
      go_enter Tryz.func53, Tryz.ntmps53
      go_wp2_with fail
      refine (fpIn_any _ _ _ _ l _ h).mono ?_; rintro e w1 ⟨rfl, q⟩
      go_wp2
      go_ret
      exact ⟨rfl, below_of_quiet (by assumption)⟩
set_option maxHeartbeats 400000 in
theorem isBitPair_any (a : Option Addr) (n c : Nat) (l : List Int) (w : World) (h : Ints w a n c l) :
    Calls Tryz.prog 63 #[.slice a n c] w fun e w' => e = .returned (.bool (bpairB l)) ∧ Below w.heap.size w w' := by
  have hn := h.le
  have hl := h.len
  unfold bpairB
  by_cases h2 : n = 2
  · rw [decide_eq_true (by omega)]
    simp only [Bool.true_and]
    have hb : ((n : Int) == 2) = true := by simp [h2]
    clear h2 hl
    go_enter Tryz.func63, Tryz.ntmps63
    go_wp2_with fail
    refine (areBits_any _ _ _ l _ h).mono ?_; rintro e w1 ⟨rfl, u⟩
    go_wp2
    go_ret
    exact ⟨rfl, by assumption⟩
  · rw [decide_eq_false (by omega)]
    simp only [Bool.false_and]
    have hb : ((n : Int) == 2) = false := by simp; omega
    clear h2 hl
    go_enter Tryz.func63, Tryz.ntmps63
    go_wp2
    go_ret
    exact ⟨rfl, Below.refl _ _⟩
set_option maxHeartbeats 400000 in
theorem cvBit_any (a : Option Addr) (n c : Nat) (l : List Int) (w : World) (h : Ints w a n c l) :
    Calls Tryz.prog 65 #[.slice a n c] w fun e w' => e = .returned (.bool (bpairB l)) ∧ Below w.heap.size w w' := by
  have hn := h.le
  have hl := h.len
  unfold bpairB
  by_cases h2 : n = 2
  · rw [decide_eq_true (by omega)]
    simp only [Bool.true_and]
    have hb : ((n : Int) == 2) = true := by simp [h2]
    clear h2 hl
    go_enter Tryz.func65, Tryz.ntmps65
    go_wp2_with fail
    refine (l1All_any _ _ _ l _ _ _ h).mono ?_; rintro e w1 ⟨rfl, q⟩
    go_wp2
    go_ret
    exact ⟨rfl, below_of_quiet (by assumption)⟩
  · rw [decide_eq_false (by omega)]
    simp only [Bool.false_and]
    have hb : ((n : Int) == 2) = false := by simp; omega
    clear h2 hl
    go_enter Tryz.func65, Tryz.ntmps65
    go_wp2
    go_ret
    exact ⟨rfl, Below.refl _ _⟩
end Go.Proofs.YtchmakepglaijaaGreat
namespace Go.Proofs.YtchmakepglaijaaGreat
open Go.RowKit
def WB (l : List Int) : Prop := ∀ x ∈ l, -4000000000 ≤ x ∧ x ≤ 4000000000
theorem WB.app {l l' : List Int} (h : WB l) (h' : WB l') : WB (l ++ l') := fun x hx => by
  rcases List.mem_append.1 hx with h1 | h1
  · exact h x h1
  · exact h' x h1
theorem WB.one {x : Int} (h : -4000000000 ≤ x ∧ x ≤ 4000000000) : WB [x] := fun y hy => by simp at hy; subst hy; exact h
theorem WB.two {x y : Int} (h : -4000000000 ≤ x ∧ x ≤ 4000000000) (h' : -4000000000 ≤ y ∧ y ≤ 4000000000) : WB [x, y] := fun z hz => by
  simp at hz; rcases hz with rfl | rfl
  · exact h
  · exact h'
theorem WB.cons {x : Int} {l : List Int} (h : -4000000000 ≤ x ∧ x ≤ 4000000000) (h' : WB l) : WB (x :: l) := fun z hz => by
  rcases List.mem_cons.1 hz with rfl | hz
  · exact h
  · exact h' z hz
theorem WB.nil : WB [] := fun x hx => by cases hx
def digStep (a x : Int) : Int := (25214 * a + x + 17) % 1000003 * ((25214 * a + x + 17) % 1000003 / 64 + 5) % 1000003
theorem digStep_range (a x : Int) : 0 ≤ digStep a x ∧ digStep a x ≤ 1000002 := by
  unfold digStep
  exact ⟨Int.emod_nonneg _ (by decide), by have := Int.emod_lt_of_pos ((25214 * a + x + 17) % 1000003 * ((25214 * a + x + 17) % 1000003 / 64 + 5)) (by decide : (0 : Int) < 1000003); omega⟩
def digA (l : List Int) (z : Int) : Int := l.foldl digStep z
theorem digA_snoc (l : List Int) (z : Int) (k : Nat) (h : k < l.length) : digA (l.take (k + 1)) z = digStep (digA (l.take k) z) (l.getD k 0) := by
  unfold digA
  rw [List.take_succ_eq_append_getElem h, List.foldl_append]
  simp [List.getD, h]
theorem digA_range (l : List Int) : ∀ (z : Int), 0 ≤ z → z ≤ 2000000 → 0 ≤ digA l z ∧ digA l z ≤ 2000000 := by
  unfold digA
  induction l with
  | nil => intro z h1 h2; exact ⟨h1, h2⟩
  | cons x l ih => intro z h1 h2; simp only [List.foldl_cons]; have := digStep_range z x; exact ih _ this.1 (by omega)
def digI (l : List Int) : Int := digA (l ++ [8, 1]) (40503 + l.length) % 65536
theorem digI_range (l : List Int) : 0 ≤ digI l ∧ digI l ≤ 65535 := by
  unfold digI
  exact ⟨Int.emod_nonneg _ (by decide), by have := Int.emod_lt_of_pos (digA (l ++ [8, 1]) (40503 + l.length)) (by decide : (0 : Int) < 65536); omega⟩
theorem sq_range {b : Int} (h0 : 0 ≤ b) (h1 : b ≤ 1000002) : 0 ≤ b * (b / 64 + 5) ∧ b * (b / 64 + 5) ≤ 20000000000 := by
  have a1 : 0 ≤ b / 64 + 5 := by omega
  have a2 : b / 64 + 5 ≤ 15635 := by omega
  refine ⟨Int.mul_nonneg h0 a1, ?_⟩
  have : b * (b / 64 + 5) ≤ 1000002 * 15635 := Int.mul_le_mul h1 a2 a1 (by omega)
  omega
set_option maxHeartbeats 1000000 in
theorem Clone_any (a : Option Addr) (n c : Nat) (l : List Int) (w : World) (h : Ints w a n c l) (hs : n ≤ 10000000) :
    Calls Tryz.prog 73 #[.slice a n c] w fun e w' => ∃ a' c', e = .returned (.slice a' n c') ∧ Own w' w.heap.size a' n c' l ∧ Below w.heap.size w w' := by
  have hnil := fun (W : World) => Lib.run_eql_slice_nil W 23 3 a n c 0 0 Tryz.underlying23
  have hn := h.le
  cases a with
  | none =>
    have hc : c = 0 := h.2.2.2.1 rfl
    have hn0 : n = 0 := by have := h.2.1; omega
    subst hc; subst hn0
    have hl : l = [] := List.eq_nil_of_length_eq_zero h.len.symm
    subst hl
    go_enter Tryz.func73, Tryz.ntmps73
    go_wp2
    go_ret
    exact ⟨_, _, rfl, Own.nil0 _ _ _, Below.refl _ _⟩
  | some y =>
    go_enter Tryz.func73, Tryz.ntmps73
    go_wp2_with (at_builtin; refine wpList_appI _ rfl _ _ rfl w.heap.size _ 0 0 [] rfl (Own.nil0 _ _ _) _ n c l rfl (h.alloc _) (by omega) (by simp) ?_)
    intro a2 c2 w1 own hb _
    try simp only [Nat.zero_add, List.nil_append] at own
    have hb1 := ((Below.refl _ w).alloc (Nat.le_refl _) _).trans hb
    clear hb
    go_wp2
    go_ret
    exact ⟨_, _, ret_slice (by omega), own, hb1⟩
set_option maxHeartbeats 1000000 in
theorem l1Own_any (a : Option Addr) (n c : Nat) (l : List Int) (w : World) (h : Ints w a n c l) (hs : n ≤ 10000000) :
    Calls Tryz.prog 140 #[.slice a n c] w fun e w' => ∃ a' c', e = .returned (.slice a' n c') ∧ Own w' w.heap.size a' n c' l ∧ Below w.heap.size w w' := by
  have hn := h.le
  go_enter Tryz.func140, Tryz.ntmps140
  go_wp2_with (at_builtin; refine wpList_appI _ rfl _ _ rfl w.heap.size _ 0 0 [] rfl (Own.nil0 _ _ _) _ n c l rfl (h.alloc _) (by omega) (by simp) ?_)
  intro a2 c2 w1 own hb _
  try simp only [Nat.zero_add, List.nil_append] at own
  have hb1 := ((Below.refl _ w).alloc (Nat.le_refl _) _).trans hb
  clear hb
  go_wp2
  go_ret
  exact ⟨_, _, ret_slice (by omega), own, hb1⟩
set_option maxHeartbeats 400000 in
theorem btMod_same (n p : Int) (w : World) (h1 : 1 ≤ p) (h2 : p ≤ 1000000000) :
    Calls Tryz.prog 70 #[.int .i64 n, .int .i64 p] w fun e w' => e = .returned (.int .i64 (n % p)) ∧ w' = w := by
  have b1 := Int.tmod_lt_of_pos n (by omega : 0 < p)
  have b2 := Int.lt_tmod_of_pos n (by omega : 0 < p)
  have E2 := Lib.hid (mod_core p n h1)
  go_enter Tryz.func70, Tryz.ntmps70
  go_wp2
  go_ret
  exact ⟨ret_int E2.out, rfl⟩
theorem btMod_any (n p : Int) (w : World) (h1 : 1 ≤ p) (h2 : p ≤ 1000000000) :
    Calls Tryz.prog 70 #[.int .i64 n, .int .i64 p] w fun e w' => e = .returned (.int .i64 (n % p)) ∧ ∃ m, w' = w.drewN m :=
  (btMod_same n p w h1 h2).mono fun _ _ ⟨he, hw⟩ => ⟨he, 0, hw⟩
theorem snoc_getD (l l' : List Int) (k : Nat) (h : k < l.length) : (l ++ l').getD k 0 = l.getD k 0 := by simp [List.getD, List.getElem?_append_left h]
theorem mem_range {l : List Int} (h : WB l) (k : Nat) (hk : k < l.length) : -4000000000 ≤ l.getD k 0 ∧ l.getD k 0 ≤ 4000000000 := h _ (getD_mem l k hk)
theorem WB_end : WB [8, 1] := WB.two (by omega) (by omega)
set_option maxHeartbeats 2000000 in
theorem digest_any (a : Option Addr) (n c : Nat) (l : List Int) (w : World) (h : Ints w a n c l) (hs : n ≤ 1000000) (hw : WB l) :
    Calls Tryz.prog 138 #[.slice a n c] w fun e w' => e = .returned (.int .i64 (digI l)) ∧ Below w.heap.size w w' := by
  have hn := h.le
  have HL := Lib.hid h.len
  have HW := Lib.hid (WB.app hw WB_end)
  clear hw
  go_enter Tryz.func138, Tryz.ntmps138
  go_wp2_with fail
  refine (Clone_any _ _ _ l _ h (by omega)).mono ?_; rintro e w1 ⟨a1, c1, rfl, o1, u1⟩
  go_wp2_with (at_builtin; refine wpList_appI _ rfl _ _ rfl w.heap.size a1 n c1 l rfl (o1.alloc _) _ 2 2 [8, 1] rfl (Ints.lit2 _ _ _ _) (by omega) (by have := u1.size; simp; omega) ?_)
  intro a2 c2 w2 o2 u2 _
  have v2 := (u1.alloc u1.size (.cells #[.int .i64 8, .int .i64 1] 3)).trans u2
  have h2 := o2.ints
  clear u1 u2 o1 o2
  go_wp2
  go_loopw [3, 14] (fun u v wr => ∃ k : Nat, k ≤ n + 2 ∧ v = .int .i64 k ∧ u = .int .i64 (digA ((l ++ [8, 1]).take k) (40503 + l.length)) ∧ ∃ m, wr = w2.drewN m) (fun _ v _ => n + 2 - (intOf v).toNat)
  case atStart => exact ⟨0, Nat.zero_le _, rfl, v_int (by rw [HL.out]; simp [digA]), 0, rfl⟩
  case round =>
    obtain ⟨k, hk, rfl, rfl, m, rfl⟩ := hrel
    have hzr := digA_range ((l ++ [8, 1]).take k) (40503 + l.length) (by omega) (by have := HL.out; omega)
    by_cases hlt : k < n + 2
    · obtain ⟨g, o, rfl, hcell⟩ := h2.at k hlt
      have hkl : k < (l ++ [8, 1]).length := by have := HL.out; simp; omega
      have hs := digA_snoc (l ++ [8, 1]) (40503 + l.length) k hkl
      have hx := mem_range HW.out k hkl
      obtain ⟨x, hxe⟩ : ∃ x, x = (l ++ [8, 1]).getD k 0 := ⟨_, rfl⟩
      rw [← hxe] at hcell hs hx
      clear hxe
      obtain ⟨z, hze⟩ : ∃ z, z = digA ((l ++ [8, 1]).take k) (40503 + l.length) := ⟨_, rfl⟩
      rw [← hze] at hs hzr
      rw [← hze]
      clear hze
      unfold digStep at hs
      have HS := Lib.hid hs
      clear hs
      obtain ⟨hz1, hz2⟩ := hzr
      obtain ⟨hx1, hx2⟩ := hx
      obtain ⟨b, hb⟩ : ∃ b, b = (25214 * z + x + 17) % 1000003 := ⟨_, rfl⟩
      have hb1 : 0 ≤ b := by rw [hb]; exact Int.emod_nonneg _ (by decide)
      have hb2 : b ≤ 1000002 := by rw [hb]; have := Int.emod_lt_of_pos (25214 * z + x + 17) (by decide : (0 : Int) < 1000003); omega
      obtain ⟨hs1, hs2⟩ := sq_range hb1 hb2
      · have b1 := Int.tmod_lt_of_pos (25214 * z + x + 17) (by decide : (0 : Int) < 1000003)
        have b2 := Int.lt_tmod_of_pos (25214 * z + x + 17) (by decide : (0 : Int) < 1000003)
        have he : ((25214 * z + x + 17).tmod 1000003 + 1000003) % 1000003 = b := by rw [hb]; exact mod_core 1000003 _ (by decide)
        have HB := Lib.hid hb
        clear hb
        go_wp2
        go_roundw
        case rel => exact ⟨k + 1, by omega, by go_num, v_int (by rw [HS.out, HB.out]), _, rfl⟩
        case measure => simp [intOf]; omega
    · obtain rfl : k = n + 2 := by omega
      have HE := Lib.hid (show digI l = digA ((l ++ [8, 1]).take (n + 2)) (40503 + l.length) % 65536 by
        unfold digI
        rw [List.take_of_length_le (by have := HL.out; simp; omega)])
      obtain ⟨z, hze⟩ : ∃ z, z = digA ((l ++ [8, 1]).take (n + 2)) (40503 + l.length) := ⟨_, rfl⟩
      rw [← hze] at HE hzr
      rw [← hze]
      clear hze
      obtain ⟨hz1, hz2⟩ := hzr
      go_wp2
      go_ret
      exact ⟨ret_int HE.out.symm, below_drewN v2 _⟩
set_option maxHeartbeats 2000000 in
theorem dgMix_any (a : Option Addr) (n c : Nat) (l : List Int) (w : World) (h : Ints w a n c l) (hs : n ≤ 1000000) (hw : WB l) :
    Calls Tryz.prog 139 #[.slice a n c] w fun e w' => e = .returned (.int .i64 (digI l)) ∧ Below w.heap.size w w' := by
  have hn := h.le
  have HL := Lib.hid h.len
  have HW := Lib.hid (WB.app hw WB_end)
  clear hw
  go_enter Tryz.func139, Tryz.ntmps139
  go_wp2_with fail
  refine (l1Own_any _ _ _ l _ h (by omega)).mono ?_; rintro e w1 ⟨a1, c1, rfl, o1, u1⟩
  go_wp2_with (at_builtin; refine wpList_appI _ rfl _ _ rfl w.heap.size a1 n c1 l rfl (o1.alloc _) _ 2 2 [8, 1] rfl (Ints.lit2 _ _ _ _) (by omega) (by have := u1.size; simp; omega) ?_)
  intro a2 c2 w2 o2 u2 _
  have v2 := (u1.alloc u1.size (.cells #[.int .i64 8, .int .i64 1] 3)).trans u2
  have h2 := o2.ints
  clear u1 u2 o1 o2
  go_wp2
  go_loopw [3, 14] (fun u v wr => ∃ k : Nat, k ≤ n + 2 ∧ v = .int .i64 k ∧ u = .int .i64 (digA ((l ++ [8, 1]).take k) (40503 + l.length)) ∧ ∃ m, wr = w2.drewN m) (fun _ v _ => n + 2 - (intOf v).toNat)
  case atStart => exact ⟨0, Nat.zero_le _, rfl, v_int (by rw [HL.out]; simp [digA]), 0, rfl⟩
  case round =>
    obtain ⟨k, hk, rfl, rfl, m, rfl⟩ := hrel
    have hzr := digA_range ((l ++ [8, 1]).take k) (40503 + l.length) (by omega) (by have := HL.out; omega)
    by_cases hlt : k < n + 2
    · obtain ⟨g, o, rfl, hcell⟩ := h2.at k hlt
      have hkl : k < (l ++ [8, 1]).length := by have := HL.out; simp; omega
      have hs := digA_snoc (l ++ [8, 1]) (40503 + l.length) k hkl
      have hx := mem_range HW.out k hkl
      obtain ⟨x, hxe⟩ : ∃ x, x = (l ++ [8, 1]).getD k 0 := ⟨_, rfl⟩
      rw [← hxe] at hcell hs hx
      clear hxe
      obtain ⟨z, hze⟩ : ∃ z, z = digA ((l ++ [8, 1]).take k) (40503 + l.length) := ⟨_, rfl⟩
      rw [← hze] at hs hzr
      rw [← hze]
      clear hze
      unfold digStep at hs
      have HS := Lib.hid hs
      clear hs
      obtain ⟨hz1, hz2⟩ := hzr
      obtain ⟨hx1, hx2⟩ := hx
      obtain ⟨b, hb⟩ : ∃ b, b = (25214 * z + x + 17) % 1000003 := ⟨_, rfl⟩
      have hb1 : 0 ≤ b := by rw [hb]; exact Int.emod_nonneg _ (by decide)
      have hb2 : b ≤ 1000002 := by rw [hb]; have := Int.emod_lt_of_pos (25214 * z + x + 17) (by decide : (0 : Int) < 1000003); omega
      obtain ⟨hs1, hs2⟩ := sq_range hb1 hb2
      · have HB := Lib.hid hb
        go_wp2_with fail
        refine (btMod_any _ _ _ (by omega) (by omega)).mono ?_; rintro e w4 ⟨rfl, q4⟩
        rw [← hb]
        clear hb
        obtain ⟨m4, rfl⟩ := q4
        go_wp2
        go_roundw
        case rel => exact ⟨k + 1, by omega, by go_num, v_int (by rw [HS.out, HB.out]), _, rfl⟩
        case measure => simp [intOf]; omega
    · obtain rfl : k = n + 2 := by omega
      have HE := Lib.hid (show digI l = digA ((l ++ [8, 1]).take (n + 2)) (40503 + l.length) % 65536 by
        unfold digI
        rw [List.take_of_length_le (by have := HL.out; simp; omega)])
      obtain ⟨z, hze⟩ : ∃ z, z = digA ((l ++ [8, 1]).take (n + 2)) (40503 + l.length) := ⟨_, rfl⟩
      rw [← hze] at HE hzr
      rw [← hze]
      clear hze
      obtain ⟨hz1, hz2⟩ := hzr
      go_wp2
      go_ret
      exact ⟨ret_int HE.out.symm, below_drewN v2 _⟩
set_option maxHeartbeats 1000000 in
theorem with_any (a : Option Addr) (n c : Nat) (l : List Int) (a' : Option Addr) (n' c' : Nat) (l' : List Int) (w : World) (h : Ints w a n c l) (h' : Ints w a' n' c' l') (hs : n ≤ 10000000) (hs' : n' ≤ 10000000) :
    Calls Tryz.prog 81 #[.slice a n c, .slice a' n' c'] w fun e w' => ∃ a2 c2, e = .returned (.slice a2 (n + n') c2) ∧ Own w' w.heap.size a2 (n + n') c2 (l ++ l') ∧ Below w.heap.size w w' := by
  go_enter Tryz.func81, Tryz.ntmps81
  go_wp2_with fail
  refine (Clone_any _ _ _ l _ h hs).mono ?_; rintro e w1 ⟨a1, c1, rfl, o1, u1⟩
  go_wp2_with (at_builtin; refine wpList_appI _ rfl _ _ rfl w.heap.size a1 n c1 l rfl o1 _ n' c' l' rfl (h'.below u1) (by omega) u1.size ?_)
  intro a2 c2 w2 o2 u2 _
  have v2 := u1.trans u2
  clear u1 u2
  go_wp2
  go_ret
  exact ⟨_, _, rfl, o2, v2⟩
set_option maxHeartbeats 1000000 in
theorem dgWith_any (a : Option Addr) (n c : Nat) (l : List Int) (x : Int) (w : World) (h : Ints w a n c l) (hs : n ≤ 10000000) :
    Calls Tryz.prog 141 #[.slice a n c, .int .i64 x] w fun e w' => ∃ a2 c2, e = .returned (.slice a2 (n + 1) c2) ∧ Own w' w.heap.size a2 (n + 1) c2 (l ++ [x]) ∧ Below w.heap.size w w' := by
  go_enter Tryz.func141, Tryz.ntmps141
  go_wp2_with fail
  refine (l1Own_any _ _ _ l _ h hs).mono ?_; rintro e w1 ⟨a1, c1, rfl, o1, u1⟩
  go_wp2_with (at_builtin; refine wpList_appI _ rfl _ _ rfl w.heap.size a1 n c1 l rfl (o1.alloc _) _ 1 1 [x] rfl (Ints.lit1 _ _ _) (by omega) (by have := u1.size; simp; omega) ?_)
  intro a2 c2 w2 o2 u2 _
  have v2 := (u1.alloc u1.size (.cells #[.int .i64 x] 3)).trans u2
  clear u1 u2
  go_wp2
  go_ret
  exact ⟨_, _, rfl, o2, v2⟩
def numI (l : List Int) (n : Int) : Int := digI (l ++ [n]) % n
theorem numI_range (l : List Int) (n : Int) (h : 1 ≤ n) : 0 ≤ numI l n ∧ numI l n ≤ n - 1 := by
  unfold numI
  exact ⟨Int.emod_nonneg _ (by omega), by have := Int.emod_lt_of_pos (digI (l ++ [n])) (by omega : 0 < n); omega⟩
set_option maxHeartbeats 1000000 in
theorem numberFrom_any (a : Option Addr) (m c : Nat) (l : List Int) (n : Int) (w : World) (h : Ints w a m c l) (hs : m ≤ 900000) (hw : WB l) (h1 : 1 ≤ n) (h2 : n ≤ 2000000000) :
    Calls Tryz.prog 111 #[.slice a m c, .int .i64 n] w fun e w' => e = .returned (.int .i64 (numI l n)) ∧ Below w.heap.size w w' := by
  have hd := digI_range (l ++ [n])
  obtain ⟨d1, d2⟩ := hd
  go_enter Tryz.func111, Tryz.ntmps111
  go_wp2_with fail
  refine (with_any _ _ _ l _ _ _ [n] _ (h.alloc _) (Ints.lit1 _ _ _) (by omega) (by omega)).mono ?_; rintro e w1 ⟨a1, c1, rfl, o1, u1⟩
  have v1 := below_a1 u1
  clear u1
  go_wp2_with fail
  refine (digest_any _ _ _ (l ++ [n]) _ o1.ints (by omega) (WB.app hw (WB.one (by omega)))).mono ?_; rintro e w2 ⟨rfl, u2⟩
  have v2 := v1.trans (u2.mono v1.size)
  clear u2 v1 o1
  go_wp2
  go_ret
  exact ⟨rfl, v2⟩
set_option maxHeartbeats 1000000 in
theorem dgBelow_any (a : Option Addr) (m c : Nat) (l : List Int) (n : Int) (w : World) (h : Ints w a m c l) (hs : m ≤ 900000) (hw : WB l) (h1 : 1 ≤ n) (h2 : n ≤ 2000000000) :
    Calls Tryz.prog 113 #[.slice a m c, .int .i64 n] w fun e w' => e = .returned (.int .i64 (numI l n)) ∧ Below w.heap.size w w' := by
  have hd := digI_range (l ++ [n])
  obtain ⟨d1, d2⟩ := hd
  go_enter Tryz.func113, Tryz.ntmps113
  go_wp2_with fail
  refine (dgWith_any _ _ _ l _ _ h (by omega)).mono ?_; rintro e w1 ⟨a1, c1, rfl, o1, v1⟩
  go_wp2_with fail
  refine (dgMix_any _ _ _ (l ++ [n]) _ o1.ints (by omega) (WB.app hw (WB.one (by omega)))).mono ?_; rintro e w2 ⟨rfl, u2⟩
  have v2 := v1.trans (u2.mono v1.size)
  clear u2 v1 o1
  go_wp2
  go_ret
  exact ⟨rfl, v2⟩
def bitsI (l : List Int) (n : Nat) : List Int := (List.range n).map fun (i : Nat) => digI (l ++ [(i : Int), 2]) / 8 % 2
theorem bitsI_succ (l : List Int) (n : Nat) : bitsI l (n + 1) = bitsI l n ++ [digI (l ++ [(n : Int), 2]) / 8 % 2] := by unfold bitsI; rw [List.range_succ, List.map_append]; rfl
theorem bitsI_len (l : List Int) (n : Nat) : (bitsI l n).length = n := by simp [bitsI]
theorem bitsI_bit (l : List Int) (n k : Nat) (h : k < n) : (bitsI l n).getD k 0 = 0 ∨ (bitsI l n).getD k 0 = 1 := by
  unfold bitsI
  simp [List.getD, h]
  omega
set_option maxHeartbeats 2000000 in
theorem bitsFrom_any (a : Option Addr) (m c : Nat) (l : List Int) (N : Int) (w : World) (h : Ints w a m c l) (hs : m ≤ 900000) (hw : WB l) (hN : 0 ≤ N) (hN2 : N ≤ 1000000) :
    Calls Tryz.prog 110 #[.slice a m c, .int .i64 N] w fun e w' => ∃ a' c', e = .returned (.slice a' N.toNat c') ∧ Own w' w.heap.size a' N.toNat c' (bitsI l N.toNat) ∧ Below w.heap.size w w' := by
  have HW := Lib.hid hw
  clear hw
  go_enter Tryz.func110, Tryz.ntmps110
  go_wp2
  have own0 : Own (w.alloc (.cells #[] 3)) w.heap.size (some ⟨w.heap.size, 0, none⟩) 0 0 (bitsI l 0) := Own.nil0 _ _ _
  have bel0 : Below w.heap.size w (w.alloc (.cells #[] 3)) := (Below.refl _ _).alloc (Nat.le_refl _) _
  go_loopw [5, 9] (fun u v wr => ∃ k : Nat, (k : Int) ≤ N ∧ v = .int .i64 k ∧ Below w.heap.size w wr ∧ ∃ a1 c1, u = .slice a1 k c1 ∧ Own wr w.heap.size a1 k c1 (bitsI l k)) (fun _ v _ => N.toNat - (intOf v).toNat)
  case atStart => exact ⟨0, by omega, rfl, bel0, _, _, rfl, own0⟩
  case round =>
    obtain ⟨k, hk, rfl, hbel, a1, c1, rfl, own⟩ := hrel
    have h1 := h.below hbel
    by_cases hlt : (k : Int) < N
    · have hd := digI_range (l ++ [(k : Int), 2])
      obtain ⟨d1, d2⟩ := hd
      have HS := Lib.hid (bitsI_succ l k)
      go_wp2_with fail
      refine (with_any _ _ _ l _ _ _ [(k : Int), 2] _ (h1.alloc _) (Ints.lit2 _ _ _ _) (by omega) (by omega)).mono ?_; rintro e w1 ⟨a3, c3, rfl, o3, u3⟩
      have v3 := below_a1 u3
      clear u3
      have own1 := own.below v3
      have b1 := hbel.trans (v3.mono hbel.size)
      clear own v3 h1 hbel
      go_wp2_with fail
      refine (digest_any _ _ _ (l ++ [(k : Int), 2]) _ o3.ints (by omega) (WB.app HW.out (WB.two (by omega) (by omega)))).mono ?_; rintro e w2 ⟨rfl, u5⟩
      have own2 := own1.below u5
      have b2 := b1.trans (u5.mono b1.size)
      clear own1 u5 b1 o3
      go_wp2_with (at_builtin; refine wpList_appI _ rfl _ _ rfl w.heap.size a1 k c1 (bitsI l k) rfl (own2.alloc _) _ 1 1 [digI (l ++ [(k : Int), 2]) / 8 % 2] rfl (Ints.lit1 _ _ _) (by omega) (by have := b2.size; simp; omega) ?_)
      intro a5 c5 w3 o5 u5 _
      have b3 := (b2.alloc b2.size (.cells #[.int .i64 (digI (l ++ [(k : Int), 2]) / 8 % 2)] 3)).trans u5
      clear u5 b2 own2
      go_wp2
      go_roundw
      case rel => exact ⟨k + 1, by omega, by go_num, b3, a5, c5, rfl, by rw [HS.out]; exact o5⟩
      case measure => simp [intOf]; omega
    · have HE := Lib.hid (show N.toNat = k by omega)
      go_wp2
      go_ret
      refine ⟨a1, c1, ?_, ?_, hbel⟩
      · rw [HE.out]; rfl
      · rw [HE.out]; exact own
set_option maxHeartbeats 2000000 in
theorem dgBits_any (a : Option Addr) (m c : Nat) (l : List Int) (N : Int) (w : World) (h : Ints w a m c l) (hs : m ≤ 900000) (hw : WB l) (hN : 0 ≤ N) (hN2 : N ≤ 1000000) :
    Calls Tryz.prog 112 #[.slice a m c, .int .i64 N] w fun e w' => ∃ a' c', e = .returned (.slice a' N.toNat c') ∧ Own w' w.heap.size a' N.toNat c' (bitsI l N.toNat) ∧ Below w.heap.size w w' := by
  have HW := Lib.hid hw
  clear hw
  go_enter Tryz.func112, Tryz.ntmps112
  go_wp2
  have own0 : Own w w.heap.size none 0 0 (bitsI l 0) := Own.nil0 _ _ _
  have bel0 := Below.refl w.heap.size w
  go_loopw [5, 6] (fun u v wr => ∃ k : Nat, (k : Int) ≤ N ∧ v = .int .i64 k ∧ Below w.heap.size w wr ∧ ∃ a1 c1, u = .slice a1 k c1 ∧ Own wr w.heap.size a1 k c1 (bitsI l k)) (fun _ v _ => N.toNat - (intOf v).toNat)
  case atStart => exact ⟨0, by omega, rfl, bel0, _, _, rfl, own0⟩
  case round =>
    obtain ⟨k, hk, rfl, hbel, a1, c1, rfl, own⟩ := hrel
    have h1 := h.below hbel
    by_cases hlt : (k : Int) < N
    · have hd := digI_range (l ++ [(k : Int), 2])
      obtain ⟨d1, d2⟩ := hd
      have HS := Lib.hid (bitsI_succ l k)
      go_wp2_with fail
      refine (l1Own_any _ _ _ l _ h1 (by omega)).mono ?_; rintro e w0 ⟨a4, c4, rfl, o4, u4⟩
      go_wp2_with (at_builtin; refine wpList_appI _ rfl _ _ rfl wr.heap.size a4 m c4 l rfl (o4.alloc _) _ 2 2 [(k : Int), 2] rfl (Ints.lit2 _ _ _ _) (by omega) (by have := u4.size; simp; omega) ?_)
      intro a3 c3 w1 o3 u3 _
      have v3 := (u4.alloc u4.size (.cells #[.int .i64 k, .int .i64 2] 3)).trans u3
      clear u4 u3 o4
      have own1 := own.below v3
      have b1 := hbel.trans (v3.mono hbel.size)
      clear own v3 h1 hbel
      go_wp2_with fail
      refine (dgMix_any _ _ _ (l ++ [(k : Int), 2]) _ o3.ints (by omega) (WB.app HW.out (WB.two (by omega) (by omega)))).mono ?_; rintro e w2 ⟨rfl, u5⟩
      have own2 := own1.below u5
      have b2 := b1.trans (u5.mono b1.size)
      clear own1 u5 b1 o3
      go_wp2_with (at_builtin; refine wpList_appI _ rfl _ _ rfl w.heap.size a1 k c1 (bitsI l k) rfl (own2.alloc _) _ 1 1 [digI (l ++ [(k : Int), 2]) / 8 % 2] rfl (Ints.lit1 _ _ _) (by omega) (by have := b2.size; simp; omega) ?_)
      intro a5 c5 w3 o5 u5 _
      have b3 := (b2.alloc b2.size (.cells #[.int .i64 (digI (l ++ [(k : Int), 2]) / 8 % 2)] 3)).trans u5
      clear u5 b2 own2
      go_wp2
      go_roundw
      case rel => exact ⟨k + 1, by omega, by go_num, b3, a5, c5, rfl, by rw [HS.out]; exact o5⟩
      case measure => simp [intOf]; omega
    · have HE := Lib.hid (show N.toNat = k by omega)
      go_wp2
      go_ret
      refine ⟨a1, c1, ?_, ?_, hbel⟩
      · rw [HE.out]; rfl
      · rw [HE.out]; exact own
end Go.Proofs.YtchmakepglaijaaGreat
namespace Go.Proofs.YtchmakepglaijaaGreat
open Go.RowKit
set_option maxHeartbeats 400000 in
theorem isKey_any (k : Int) (w : World) : Calls Tryz.prog 37 #[.int .i64 k] w fun e w' => e = .returned (.bool (inB k 0 1000000000)) ∧ w = w' := by
  go_enter Tryz.func37, Tryz.ntmps37
  go_wp2_with (go_at_call 62; refine (within_any _ _ _ _).mono ?_; rintro e w' ⟨rfl, rfl⟩)
  go_ret
  exact ⟨rfl, rfl⟩
set_option maxHeartbeats 400000 in
theorem otKey_any (k : Int) (w : World) : Calls Tryz.prog 43 #[.int .i64 k] w fun e w' => e = .returned (.bool (inB k 0 1000000000)) ∧ w = w' := by
  go_enter Tryz.func43, Tryz.ntmps43
  go_wp2_with (go_at_call 76; refine (l1In_any _ _ _ _).mono ?_; rintro e w' ⟨rfl, rfl⟩)
  go_ret
  exact ⟨rfl, rfl⟩
end Go.Proofs.YtchmakepglaijaaGreat
namespace Go.Proofs.YtchmakepglaijaaGreat
open Go.RowKit
def xorI (a b : Int) : Int := bits BinOp.xor IntKind.i64 a b
theorem xorI_bit {a b : Int} (ha : a = 0 ∨ a = 1) (hb : b = 0 ∨ b = 1) : xorI a b = 0 ∨ xorI a b = 1 := by
  rcases ha with rfl | rfl <;> rcases hb with rfl | rfl
  · exact Or.inl (by decide +kernel)
  · exact Or.inr (by decide +kernel)
  · exact Or.inr (by decide +kernel)
  · exact Or.inl (by decide +kernel)
def dbB (key i : Int) (k : Nat) : Int := (bitsI [key, i, 24] 2).getD k 0
def dbN (p key i : Int) : Int := numI [key, i, 25] p
theorem dbB_bit (key i : Int) (k : Nat) (h : k < 2) : dbB key i k = 0 ∨ dbB key i k = 1 := bitsI_bit _ _ _ h
theorem bitsI_two (key i : Int) : bitsI [key, i, 24] 2 = [dbB key i 0, dbB key i 1] := rfl
def db1 (key i : Int) : List Int := [dbB key i 1, xorI (dbB key i 0) (dbB key i 1)]
def db2 (p key i : Int) : List Int := [dbN p key i, (dbB key i 0 - dbN p key i) % p]
theorem Own.lit2 (w : World) (b : Nat) (x y : Int) (hb : b ≤ w.heap.size) : Own (w.alloc (.cells #[.int .i64 x, .int .i64 y] 3)) b (some ⟨w.heap.size, 0, none⟩) 2 2 [x, y] := Own.lit w b [x, y] hb (by simp [maxLen])
theorem two_lits {w0 w : World} {B : Nat} (x y u v : Int) (hB : B ≤ w.heap.size) (hb : Below B w0 w) :
    Own ((w.alloc (.cells #[.int .i64 x, .int .i64 y] 3)).alloc (.cells #[.int .i64 u, .int .i64 v] 3)).drew B (some ⟨w.heap.size, 0, none⟩) 2 2 [x, y] ∧
    Own ((w.alloc (.cells #[.int .i64 x, .int .i64 y] 3)).alloc (.cells #[.int .i64 u, .int .i64 v] 3)).drew B (some ⟨w.heap.size + 1, 0, none⟩) 2 2 [u, v] ∧
    Apart (some ⟨w.heap.size, 0, none⟩) 2 (some ⟨w.heap.size + 1, 0, none⟩) 2 ∧
    Below B w0 ((w.alloc (.cells #[.int .i64 x, .int .i64 y] 3)).alloc (.cells #[.int .i64 u, .int .i64 v] 3)).drew := by
  refine ⟨((Own.lit2 w B x y hB).alloc _).drew, ?_, ?_, ((hb.alloc hB _).alloc (by simp; omega) _).drew⟩
  · have := Own.lit2 (w.alloc (.cells #[.int .i64 x, .int .i64 y] 3)) B u v (by simp; omega)
    simp only [World.size_alloc] at this
    exact this.drew
  · intro p q _ _ hp hq
    cases hp; cases hq
    show w.heap.size ≠ w.heap.size + 1
    omega
set_option maxHeartbeats 4000000 in
set_option maxRecDepth 100000 in
theorem doubleBit_any (p key i : Int) (w : World) (hp : 1 ≤ p) (hp2 : p ≤ 1000) (hk : 0 ≤ key) (hk2 : key ≤ 1000000000) (hi : 0 ≤ i) (hi2 : i ≤ 1000000) :
    Calls Tryz.prog 67 #[.int .i64 p, .int .i64 key, .int .i64 i] w fun e w' => ∃ a c a' c', e = .returned (.tuple #[.slice a 2 c, .slice a' 2 c']) ∧ Own w' w.heap.size a 2 c (db1 key i) ∧ Own w' w.heap.size a' 2 c' (db2 p key i) ∧ Apart a c a' c' ∧ Below w.heap.size w w' := by
  have hb := bitsI_two key i
  have d0 := dbB_bit key i 0 (by omega)
  have d1 := dbB_bit key i 1 (by omega)
  have dn := numI_range [key, i, 25] p hp
  have H1 : Hid (db1 key i = [dbB key i 1, xorI (dbB key i 0) (dbB key i 1)]) := rfl
  have H2 : Hid (db2 p key i = [numI [key, i, 25] p, (dbB key i 0 - numI [key, i, 25] p) % p]) := rfl
  generalize dbB key i 0 = b0 at *
  generalize dbB key i 1 = b1 at *
  have r0 : 0 ≤ b0 := by omega
  have r1 : b0 ≤ 1 := by omega
  obtain ⟨dn1, dn2⟩ := dn
  have HB := Lib.hid hb
  clear hb d0 d1
  go_enter Tryz.func67, Tryz.ntmps67
  go_wp2_with fail
  refine (bitsFrom_any _ _ _ [key, i, 24] 2 _ (Ints.lit _ [key, i, 24] _ (by simp [maxLen])) (by simp) (WB.cons (by omega) (WB.two (by omega) (by omega))) (by omega) (by omega)).mono ?_; rintro e w1 ⟨a1, c1, rfl, o1, u1⟩
  have v1 := below_a1 u1
  have o1' : Own w1 w.heap.size a1 2 c1 [b0, b1] := by rw [← HB.out]; exact o1.lower (by simp)
  clear u1 o1
  go_wp2_with fail
  refine (numberFrom_any _ _ _ [key, i, 25] _ _ (Ints.lit _ [key, i, 25] _ (by simp [maxLen])) (by simp) (WB.cons (by omega) (WB.two (by omega) (by omega))) hp (by omega)).mono ?_; rintro e w2 ⟨rfl, u2⟩
  have v2 := below_a1 u2
  have o2 := o1'.below v2
  have b2 := v1.trans (v2.mono v1.size)
  clear u2 v1 v2 o1'
  obtain ⟨g, o, rfl, hcells⟩ := o2.ints.cells (by omega)
  have e0 : w2.cell? ⟨g, o, none⟩ = some (.int .i64 b0) := hcells 0 (by omega)
  have e1 : w2.cell? ⟨g, o + 1, none⟩ = some (.int .i64 b1) := hcells 1 (by omega)
  clear hcells o2
  generalize hnn : numI [key, i, 25] p = nn at *
  clear hnn
  have hx : bits BinOp.xor IntKind.i64 b0 b1 = xorI b0 b1 := rfl
  have s1 : IntKind.i64.wrap (b0 - nn) = b0 - nn := IntWalk.i64_in _ (by omega)
  go_wp2
  go_region_held3 (fun W => W.cell? ⟨g, o, none⟩ = some (.int .i64 b0) ∧ W.cell? ⟨g, o + 1, none⟩ = some (.int .i64 b1))
    (go_keep)
    (first | (go_at_call 41; refine (mod_same _ _ _ hp (by omega)).mono ?_; rintro e w' ⟨rfl, rfl⟩))
  all_goals go_wp2
  all_goals go_ret2
  all_goals first
    | (obtain ⟨t1, t2, t3, t4⟩ := two_lits b1 (xorI b0 b1) nn ((b0 - nn) % p) b2.size b2; exact ⟨_, _, _, _, rfl, by rw [H1.out]; exact t1, by rw [H2.out]; exact t2, t3, t4⟩)
    | (obtain ⟨t1, t2, t3, t4⟩ := two_lits nn ((b0 - nn) % p) b1 (xorI b0 b1) b2.size b2; exact ⟨_, _, _, _, rfl, by rw [H1.out]; exact t2, by rw [H2.out]; exact t1, t3.symm, t4⟩)
set_option maxHeartbeats 4000000 in
set_option maxRecDepth 100000 in
theorem cvDouble_any (p key i : Int) (w : World) (hp : 1 ≤ p) (hp2 : p ≤ 1000) (hk : 0 ≤ key) (hk2 : key ≤ 1000000000) (hi : 0 ≤ i) (hi2 : i ≤ 1000000) :
    Calls Tryz.prog 68 #[.int .i64 p, .int .i64 key, .int .i64 i] w fun e w' => ∃ a c a' c', e = .returned (.tuple #[.slice a 2 c, .slice a' 2 c']) ∧ Own w' w.heap.size a 2 c (db1 key i) ∧ Own w' w.heap.size a' 2 c' (db2 p key i) ∧ Apart a c a' c' ∧ Below w.heap.size w w' := by
  have hb := bitsI_two key i
  have d0 := dbB_bit key i 0 (by omega)
  have d1 := dbB_bit key i 1 (by omega)
  have dn := numI_range [key, i, 25] p hp
  have H1 : Hid (db1 key i = [dbB key i 1, xorI (dbB key i 0) (dbB key i 1)]) := rfl
  have H2 : Hid (db2 p key i = [numI [key, i, 25] p, (dbB key i 0 - numI [key, i, 25] p) % p]) := rfl
  generalize dbB key i 0 = b0 at *
  generalize dbB key i 1 = b1 at *
  have r0 : 0 ≤ b0 := by omega
  have r1 : b0 ≤ 1 := by omega
  obtain ⟨dn1, dn2⟩ := dn
  have HB := Lib.hid hb
  clear hb d0 d1
  go_enter Tryz.func68, Tryz.ntmps68
  go_wp2_with fail
  refine (dgBits_any _ _ _ [key, i, 24] 2 _ (Ints.lit _ [key, i, 24] _ (by simp [maxLen])) (by simp) (WB.cons (by omega) (WB.two (by omega) (by omega))) (by omega) (by omega)).mono ?_; rintro e w1 ⟨a1, c1, rfl, o1, u1⟩
  have v1 := below_a1 u1
  have o1' : Own w1 w.heap.size a1 2 c1 [b0, b1] := by rw [← HB.out]; exact o1.lower (by simp)
  clear u1 o1
  go_wp2_with fail
  refine (dgBelow_any _ _ _ [key, i, 25] _ _ (Ints.lit _ [key, i, 25] _ (by simp [maxLen])) (by simp) (WB.cons (by omega) (WB.two (by omega) (by omega))) hp (by omega)).mono ?_; rintro e w2 ⟨rfl, u2⟩
  have v2 := below_a1 u2
  have o2 := o1'.below v2
  have b2 := v1.trans (v2.mono v1.size)
  clear u2 v1 v2 o1'
  obtain ⟨g, o, rfl, hcells⟩ := o2.ints.cells (by omega)
  have e0 : w2.cell? ⟨g, o, none⟩ = some (.int .i64 b0) := hcells 0 (by omega)
  have e1 : w2.cell? ⟨g, o + 1, none⟩ = some (.int .i64 b1) := hcells 1 (by omega)
  clear hcells o2
  generalize hnn : numI [key, i, 25] p = nn at *
  clear hnn
  have hx : bits BinOp.xor IntKind.i64 b0 b1 = xorI b0 b1 := rfl
  have s1 : IntKind.i64.wrap (b0 - nn) = b0 - nn := IntWalk.i64_in _ (by omega)
  go_wp2
  go_region_held3 (fun W => W.cell? ⟨g, o, none⟩ = some (.int .i64 b0) ∧ W.cell? ⟨g, o + 1, none⟩ = some (.int .i64 b1))
    (go_keep)
    (first | (go_at_call 70; refine (btMod_same _ _ _ hp (by omega)).mono ?_; rintro e w' ⟨rfl, rfl⟩))
  all_goals go_wp2
  all_goals go_ret2
  all_goals first
    | (obtain ⟨t1, t2, t3, t4⟩ := two_lits b1 (xorI b0 b1) nn ((b0 - nn) % p) b2.size b2; exact ⟨_, _, _, _, rfl, by rw [H1.out]; exact t1, by rw [H2.out]; exact t2, t3, t4⟩)
    | (obtain ⟨t1, t2, t3, t4⟩ := two_lits nn ((b0 - nn) % p) b1 (xorI b0 b1) b2.size b2; exact ⟨_, _, _, _, rfl, by rw [H1.out]; exact t2, by rw [H2.out]; exact t1, t3.symm, t4⟩)
def cvB (p key k : Int) : Bool := isPr p && inB key 0 1000000000 && inB k 0 1000
theorem cvB_true {p key k : Int} (h : cvB p key k = true) : (2 ≤ p ∧ p ≤ 251) ∧ (0 ≤ key ∧ key ≤ 1000000000) ∧ 0 ≤ k ∧ k ≤ 1000 := by
  unfold cvB at h
  simp only [Bool.and_eq_true] at h
  exact ⟨isPr_range h.1.1, inB_true h.1.2, inB_true h.2⟩
def dbO1 (p key k : Int) : List Int := if cvB p key k then db1 key k else []
def dbO2 (p key k : Int) : List Int := if cvB p key k then db2 p key k else []
set_option maxHeartbeats 1000000 in
theorem cvKey_any (p key k : Int) (w : World) :
    Calls Tryz.prog 64 #[.int .i64 p, .int .i64 key, .int .i64 k] w fun e w' => e = .returned (.bool (cvB p key k)) ∧ ∃ m, w' = w.drewN m := by
  unfold cvB
  cases h1 : isPr p <;> cases h2 : inB key 0 1000000000
  all_goals
    simp only [Bool.false_and, Bool.and_false, Bool.true_and]
    go_enter Tryz.func64, Tryz.ntmps64
    go_wp2_with (first | (go_at_call 42; refine (fpGood_any _ _).mono ?_; rintro e w' ⟨rfl, m, rfl⟩) | (go_at_call 43; refine (otKey_any _ _).mono ?_; rintro e w' ⟨rfl, rfl⟩) | (go_at_call 76; refine (l1In_any _ _ _ _).mono ?_; rintro e w' ⟨rfl, rfl⟩))
    go_ret
    exact ⟨rfl, _, rfl⟩
set_option maxHeartbeats 2000000 in
theorem DoubleBit_any (p key k : Int) (w : World) :
    Calls Tryz.prog 15 #[.int .i64 p, .int .i64 key, .int .i64 k] w fun e w' => ∃ a n c a' n' c', e = .returned (.tuple #[.slice a n c, .slice a' n' c', .bool (cvB p key k)]) ∧ Own w' w.heap.size a n c (dbO1 p key k) ∧ Own w' w.heap.size a' n' c' (dbO2 p key k) ∧ Apart a c a' c' ∧ Below w.heap.size w w' := by
  unfold dbO1 dbO2 cvB
  cases h1 : isPr p
  · simp only [Bool.false_and, Bool.false_eq_true, if_false]
    go_enter Tryz.func15, Tryz.ntmps15
    go_wp2_with (first | (go_at_call 36; refine (IsPrime_any _ _).mono ?_; rintro e w' ⟨rfl, m, rfl⟩) | (go_at_call 37; refine (isKey_any _ _).mono ?_; rintro e w' ⟨rfl, rfl⟩) | (go_at_call 62; refine (within_any _ _ _ _).mono ?_; rintro e w' ⟨rfl, rfl⟩))
    go_ret3
    exact ⟨_, _, _, _, _, _, rfl, Own.nil0 _ _ _, Own.nil0 _ _ _, fun x y h _ _ _ => absurd h (by omega), below_of_drewN _⟩
  · cases h2 : inB key 0 1000000000
    · simp only [Bool.false_and, Bool.and_false, Bool.false_eq_true, if_false]
      go_enter Tryz.func15, Tryz.ntmps15
      go_wp2_with (first | (go_at_call 36; refine (IsPrime_any _ _).mono ?_; rintro e w' ⟨rfl, m, rfl⟩) | (go_at_call 37; refine (isKey_any _ _).mono ?_; rintro e w' ⟨rfl, rfl⟩) | (go_at_call 62; refine (within_any _ _ _ _).mono ?_; rintro e w' ⟨rfl, rfl⟩))
      go_ret3
      exact ⟨_, _, _, _, _, _, rfl, Own.nil0 _ _ _, Own.nil0 _ _ _, fun x y h _ _ _ => absurd h (by omega), below_of_drewN _⟩
    · cases h3 : inB k 0 1000
      · simp only [Bool.and_false, Bool.false_eq_true, if_false]
        go_enter Tryz.func15, Tryz.ntmps15
        go_wp2_with (first | (go_at_call 36; refine (IsPrime_any _ _).mono ?_; rintro e w' ⟨rfl, m, rfl⟩) | (go_at_call 37; refine (isKey_any _ _).mono ?_; rintro e w' ⟨rfl, rfl⟩) | (go_at_call 62; refine (within_any _ _ _ _).mono ?_; rintro e w' ⟨rfl, rfl⟩))
        go_ret3
        exact ⟨_, _, _, _, _, _, rfl, Own.nil0 _ _ _, Own.nil0 _ _ _, fun x y h _ _ _ => absurd h (by omega), below_of_drewN _⟩
      · simp only [Bool.and_self, if_true]
        obtain ⟨p1, p2⟩ := isPr_range h1
        obtain ⟨k1, k2⟩ := inB_true h2
        obtain ⟨j1, j2⟩ := inB_true h3
        go_enter Tryz.func15, Tryz.ntmps15
        go_wp2_with (first | (go_at_call 36; refine (IsPrime_any _ _).mono ?_; rintro e w' ⟨rfl, m, rfl⟩) | (go_at_call 37; refine (isKey_any _ _).mono ?_; rintro e w' ⟨rfl, rfl⟩) | (go_at_call 62; refine (within_any _ _ _ _).mono ?_; rintro e w' ⟨rfl, rfl⟩) | (go_at_call 67; refine (doubleBit_any _ _ _ _ (by omega) (by omega) k1 k2 j1 (by omega)).mono ?_; rintro e w' ⟨a1, c1, a2, c2, rfl, o1, o2, ap, u1⟩))
        go_ret3
        have q1 : Own _ w.heap.size a1 2 c1 _ := ‹Own _ _ a1 2 c1 _›
        have q2 : Own _ w.heap.size a2 2 c2 _ := ‹Own _ _ a2 2 c2 _›
        have u2 := ‹Below _ (w.drewN _) _›
        exact ⟨_, _, _, _, _, _, rfl, q1, q2, ‹Apart _ _ _ _›, (below_of_drewN _).trans (u2.mono (by simp))⟩
set_option maxHeartbeats 2000000 in
theorem spec_DoubleBit_any (p key k : Int) (w : World) :
    Calls Tryz.prog 16 #[.int .i64 p, .int .i64 key, .int .i64 k] w fun e w' => ∃ a n c a' n' c', e = .returned (.tuple #[.slice a n c, .slice a' n' c', .bool (cvB p key k)]) ∧ Own w' w.heap.size a n c (dbO1 p key k) ∧ Own w' w.heap.size a' n' c' (dbO2 p key k) ∧ Apart a c a' c' ∧ Below w.heap.size w w' := by
  unfold dbO1 dbO2
  cases h1 : cvB p key k
  · simp only [Bool.false_eq_true, if_false]
    go_enter Tryz.func16, Tryz.ntmps16
    go_wp2_with (first | (go_at_call 42; refine (fpGood_any _ _).mono ?_; rintro e w' ⟨rfl, m, rfl⟩) | (go_at_call 43; refine (otKey_any _ _).mono ?_; rintro e w' ⟨rfl, rfl⟩) | (go_at_call 76; refine (l1In_any _ _ _ _).mono ?_; rintro e w' ⟨rfl, rfl⟩) | (go_at_call 64; refine (cvKey_any _ _ _ _).mono ?_; rintro e w' ⟨rfl, m, rfl⟩))
    go_ret3
    exact ⟨_, _, _, _, _, _, rfl, Own.nil0 _ _ _, Own.nil0 _ _ _, fun x y h _ _ _ => absurd h (by omega), below_of_drewN _⟩
  · simp only [if_true]
    obtain ⟨⟨p1, p2⟩, ⟨k1, k2⟩, j1, j2⟩ := cvB_true h1
    go_enter Tryz.func16, Tryz.ntmps16
    go_wp2_with (first | (go_at_call 42; refine (fpGood_any _ _).mono ?_; rintro e w' ⟨rfl, m, rfl⟩) | (go_at_call 43; refine (otKey_any _ _).mono ?_; rintro e w' ⟨rfl, rfl⟩) | (go_at_call 76; refine (l1In_any _ _ _ _).mono ?_; rintro e w' ⟨rfl, rfl⟩) | (go_at_call 64; refine (cvKey_any _ _ _ _).mono ?_; rintro e w' ⟨rfl, m, rfl⟩) | (go_at_call 68; refine (cvDouble_any _ _ _ _ (by omega) (by omega) k1 k2 j1 (by omega)).mono ?_; rintro e w' ⟨a1, c1, a2, c2, rfl, o1, o2, ap, u1⟩))
    go_ret3
    have q1 : Own _ w.heap.size a1 2 c1 _ := ‹Own _ _ a1 2 c1 _›
    have q2 : Own _ w.heap.size a2 2 c2 _ := ‹Own _ _ a2 2 c2 _›
    have u2 := ‹Below _ (w.drewN _) _›
    exact ⟨_, _, _, _, _, _, rfl, q1, q2, ‹Apart _ _ _ _›, (below_of_drewN _).trans (u2.mono (by simp))⟩
end Go.Proofs.YtchmakepglaijaaGreat
namespace Go.Proofs.YtchmakepglaijaaGreat
open Go.RowKit
end Go.Proofs.YtchmakepglaijaaGreat
