/- Tagged values: which are valid, whose tags hold, their sums. -/
import Derived.Test.YtjgbhokilagmoaaFindB
import Derived.Test.YtjgbhokilagmoaaDigest
import Derived.Test.YtjgbhokilagmoaaKinds
namespace Go.Proofs.Ytjgbhokilagmoaa
open Go.RowKit
def tagB (p v t : Int) : Bool := elB p v && elB p t
theorem tagB_els (p v t : Int) : tagB p v t = elsB p [v, t] := by
  unfold tagB elB elsB allB; cases isPr p <;> simp
set_option maxHeartbeats 4000000 in
set_option maxRecDepth 100000 in
theorem isTagged_any (p v t : Int) (w : World) :
    Calls Try.prog 106 #[.int .i64 p, .agg #[.int .i64 v, .int .i64 t]] w fun e w' => e = .returned (.bool (tagB p v t)) ∧ Below w.heap.size w w' := by
  have V0 : Below w.heap.size w (w.alloc (.cells #[.int .i64 v, .int .i64 t] 52)) := (Below.refl _ _).alloc (Nat.le_refl _) _
  unfold tagB
  cases h1 : elB p v
  · simp only [Bool.false_and]
    go_enter Try.func106, Try.ntmps106
    go_wp2_with fail
    refine (isElement_any _ _ _).mono ?_; rintro e w' ⟨rfl, m, rfl⟩
    rw [h1]
    go_wp2
    go_ret
    exact ⟨rfl, below_drewN V0 _⟩
  · simp only [Bool.true_and]
    go_enter Try.func106, Try.ntmps106
    go_wp2_with fail
    refine (isElement_any _ _ _).mono ?_; rintro e w' ⟨rfl, m, rfl⟩
    rw [h1]
    go_wp2_with fail
    refine (isElement_any _ _ _).mono ?_; rintro e w' ⟨rfl, m', rfl⟩
    go_wp2
    go_ret
    exact ⟨rfl, by rw [← World.drewN_drewN]; exact below_drewN (below_drewN V0 _) _⟩
set_option maxHeartbeats 4000000 in
set_option maxRecDepth 100000 in
theorem tgGood_any (p v t : Int) (w : World) :
    Calls Try.prog 107 #[.int .i64 p, .agg #[.int .i64 v, .int .i64 t]] w fun e w' => e = .returned (.bool (tagB p v t)) ∧ Below w.heap.size w w' := by
  rw [tagB_els]
  have hI : Ints ((w.alloc (.cells #[.int .i64 v, .int .i64 t] 52)).alloc (.cells #[.int .i64 v, .int .i64 t] 3)) (some ⟨w.heap.size + 1, 0, none⟩) 2 2 [v, t] := by simpa using Ints.lit2 (w.alloc (.cells #[.int .i64 v, .int .i64 t] 52)) v t 3
  have V0 : Below w.heap.size w ((w.alloc (.cells #[.int .i64 v, .int .i64 t] 52)).alloc (.cells #[.int .i64 v, .int .i64 t] 3)) := ((Below.refl _ _).alloc (Nat.le_refl _) _).alloc (by simp) _
  go_enter Try.func107, Try.ntmps107
  go_wp2_with fail
  refine (fpIn_any _ _ 2 2 [v, t] _ hI).mono ?_; rintro e w' ⟨rfl, m, rfl⟩
  go_wp2
  go_ret
  exact ⟨rfl, below_drewN V0 _⟩
/-- Whether a tag holds. -/
def holdB (p delta key v t : Int) : Bool := decide ((v * delta + key - t) % p = 0)
set_option maxHeartbeats 4000000 in
set_option maxRecDepth 100000 in
theorem holds_any (p delta key v t : Int) (w : World) (hp : 1 ≤ p) (hp2 : p ≤ 1000) (hd : 0 ≤ delta ∧ delta ≤ p - 1) (hk : 0 ≤ key ∧ key ≤ p - 1) (hv : 0 ≤ v ∧ v ≤ p - 1) (ht : 0 ≤ t ∧ t ≤ p - 1) :
    Calls Try.prog 96 #[.int .i64 p, .int .i64 delta, .int .i64 key, .agg #[.int .i64 v, .int .i64 t]] w fun e w' => e = .returned (.bool (holdB p delta key v t)) ∧ Below w.heap.size w w' := by
  have V0 : Below w.heap.size w (w.alloc (.cells #[.int .i64 v, .int .i64 t] 52)) := (Below.refl _ _).alloc (Nat.le_refl _) _
  have m1 : 0 ≤ v * delta := Int.mul_nonneg hv.1 hd.1
  have m2 : v * delta ≤ 1000 * 1000 := Int.mul_le_mul (by omega) (by omega) hd.1 (by omega)
  have t1 : IntKind.i64.wrap (v * delta) = v * delta := IntWalk.i64_in _ (by omega)
  have t2 : IntKind.i64.wrap (v * delta + key) = v * delta + key := IntWalk.i64_in _ (by omega)
  have t3 : IntKind.i64.wrap (v * delta + key - t) = v * delta + key - t := IntWalk.i64_in _ (by omega)
  unfold holdB
  go_enter Try.func96, Try.ntmps96
  go_wp2_with fail
  refine (mod_same _ _ _ hp (by omega)).mono ?_; rintro e w' ⟨rfl, rfl⟩
  go_wp2
  go_ret
  exact ⟨ret_bool (by rw [Bool.eq_iff_iff]; simp), V0⟩
theorem hold_eq {p x t : Int} (_hp : 1 ≤ p) (ht : 0 ≤ t ∧ t ≤ p - 1) : ((x - t) % p = 0) ↔ (x % p = t) := by
  constructor
  · intro h
    have h1 := Int.emod_emod_of_dvd x (Int.dvd_refl p)
    have h2 : x % p = t % p := (Int.emod_eq_emod_iff_emod_sub_eq_zero).2 h
    rw [h2, Int.emod_eq_of_lt ht.1 (by omega)]
  · intro h
    have h2 : x % p = t % p := by rw [h, Int.emod_eq_of_lt ht.1 (by omega)]
    exact (Int.emod_eq_emod_iff_emod_sub_eq_zero).1 h2
set_option maxHeartbeats 4000000 in
set_option maxRecDepth 100000 in
theorem tgHolds_any (p delta key v t : Int) (w : World) (hp : 1 ≤ p) (hp2 : p ≤ 1000) (hd : 0 ≤ delta ∧ delta ≤ p - 1) (hk : 0 ≤ key ∧ key ≤ p - 1) (hv : 0 ≤ v ∧ v ≤ p - 1) (ht : 0 ≤ t ∧ t ≤ p - 1) :
    Calls Try.prog 99 #[.int .i64 p, .int .i64 delta, .int .i64 key, .agg #[.int .i64 v, .int .i64 t]] w fun e w' => e = .returned (.bool (holdB p delta key v t)) ∧ Below w.heap.size w w' := by
  have V0 : Below w.heap.size w (w.alloc (.cells #[.int .i64 v, .int .i64 t] 52)) := (Below.refl _ _).alloc (Nat.le_refl _) _
  have m1 : 0 ≤ v * delta := Int.mul_nonneg hv.1 hd.1
  have m2 : v * delta ≤ 1000 * 1000 := Int.mul_le_mul (by omega) (by omega) hd.1 (by omega)
  have HE := Lib.hid (hold_eq (p := p) (x := v * delta + key) (t := t) hp ht)
  have t3 : (v * delta + key).tmod p = (v * delta + key) % p := Int.tmod_eq_emod_of_nonneg (by omega)
  have t1 : IntKind.i64.wrap (v * delta) = v * delta := IntWalk.i64_in _ (by omega)
  have t2 : IntKind.i64.wrap (v * delta + key) = v * delta + key := IntWalk.i64_in _ (by omega)
  have t4 : IntKind.i64.wrap ((v * delta + key) % p) = (v * delta + key) % p := IntWalk.i64_in _ (by have := Int.emod_nonneg (v * delta + key) (by omega : p ≠ 0); have := Int.emod_lt_of_pos (v * delta + key) (by omega : 0 < p); omega)
  unfold holdB
  go_enter Try.func99, Try.ntmps99
  go_wp2
  go_quiet (fail)
  go_wp2
  go_ret
  exact ⟨ret_bool (by rw [Bool.eq_iff_iff]; simp; exact HE.out.symm), below_drewN V0 _⟩
set_option maxHeartbeats 4000000 in
set_option maxRecDepth 100000 in
theorem tgAdd_any (p v t v' t' k : Int) (w : World) (hp : 1 ≤ p) (hp2 : p ≤ 1000) (hv : 0 ≤ v ∧ v ≤ p - 1) (ht : 0 ≤ t ∧ t ≤ p - 1) (hv' : 0 ≤ v' ∧ v' ≤ p - 1) (ht' : 0 ≤ t' ∧ t' ≤ p - 1) (hk : 0 ≤ k ∧ k ≤ p - 1) :
    Calls Try.prog 98 #[.int .i64 p, .agg #[.int .i64 v, .int .i64 t], .agg #[.int .i64 v', .int .i64 t'], .int .i64 k] w fun e w' => e = .returned (.agg #[.int .i64 ((v + k * v') % p), .int .i64 ((t + k * t') % p)]) ∧ Below w.heap.size w w' := by
  have m1 : 0 ≤ k * v' := Int.mul_nonneg hk.1 hv'.1
  have m2 : k * v' ≤ 1000 * 1000 := Int.mul_le_mul (by omega) (by omega) hv'.1 (by omega)
  have m3 : 0 ≤ k * t' := Int.mul_nonneg hk.1 ht'.1
  have m4 : k * t' ≤ 1000 * 1000 := Int.mul_le_mul (by omega) (by omega) ht'.1 (by omega)
  have t3 : (v + k * v').tmod p = (v + k * v') % p := Int.tmod_eq_emod_of_nonneg (by omega)
  have t4 : (t + k * t').tmod p = (t + k * t') % p := Int.tmod_eq_emod_of_nonneg (by omega)
  have s1 : IntKind.i64.wrap (k * v') = k * v' := IntWalk.i64_in _ (by omega)
  have s2 : IntKind.i64.wrap (v + k * v') = v + k * v' := IntWalk.i64_in _ (by omega)
  have s3 : IntKind.i64.wrap (k * t') = k * t' := IntWalk.i64_in _ (by omega)
  have s4 : IntKind.i64.wrap (t + k * t') = t + k * t' := IntWalk.i64_in _ (by omega)
  have s5 : IntKind.i64.wrap ((v + k * v') % p) = (v + k * v') % p := IntWalk.i64_in _ (by have := Int.emod_nonneg (v + k * v') (by omega : p ≠ 0); have := Int.emod_lt_of_pos (v + k * v') (by omega : 0 < p); omega)
  have s6 : IntKind.i64.wrap ((t + k * t') % p) = (t + k * t') % p := IntWalk.i64_in _ (by have := Int.emod_nonneg (t + k * t') (by omega : p ≠ 0); have := Int.emod_lt_of_pos (t + k * t') (by omega : 0 < p); omega)
  have t7 : (p == 0) = false := by simp; omega
  have t8 : (p = 0) = False := by simp; omega
  go_enter Try.func98, Try.ntmps98
  go_wp2
  go_region_held3 (fun W => W.cell? ⟨w.heap.size, 0, none⟩ = some (.int .i64 v) ∧ W.cell? ⟨w.heap.size, 1, none⟩ = some (.int .i64 t) ∧ W.cell? ⟨w.heap.size + 1, 0, none⟩ = some (.int .i64 v') ∧ W.cell? ⟨w.heap.size + 1, 1, none⟩ = some (.int .i64 t')) (go_keep) (fail)
  go_wp2
  exact bodyPost_ret (v := .agg #[.int .i64 ((v + k * v') % p), .int .i64 ((t + k * t') % p)]) (by simp [results, Try.results98, go_sem]) rfl ⟨rfl, by go_grown⟩
def tagAt (p : Int) (L : List Int) (i : Nat) : Bool := tagB p (L.getD (i * 2) 0) (L.getD (i * 2 + 1) 0)
def tagsB (p : Int) (L : List Int) (n : Nat) : Bool := (List.range n).all (tagAt p L)
theorem rangeAll_no {q : Nat → Bool} {n k : Nat} (hk : k < n) (h : q k = false) : (List.range n).all q = false := by
  rw [Bool.eq_false_iff]
  intro H
  have := List.all_eq_true.1 H k (List.mem_range.2 hk)
  rw [h] at this
  cases this
theorem rangeAll_yes {q : Nat → Bool} {n : Nat} (h : ∀ k, k < n → q k = true) : (List.range n).all q = true :=
  List.all_eq_true.2 fun k hk => h k (List.mem_range.1 hk)
theorem rangeAll_at {q : Nat → Bool} {n : Nat} (h : (List.range n).all q = true) (k : Nat) (hk : k < n) : q k = true := List.all_eq_true.1 h k (List.mem_range.2 hk)
set_option maxHeartbeats 4000000 in
set_option maxRecDepth 100000 in
theorem IndexFuncT (a : Option Addr) (n c : Nat) (l : List Int) (f : Nat) (cap : Array Value) (q : Nat → Bool) (w : World) (h : Flat 2 w a n c l)
    (hf : ∀ args W, (callFunc f args).run Try.prog W = .ok (.enter f args) W)
    (hq : ∀ W i, Below w.heap.size w W → i < n → Calls Try.prog f (#[.agg #[.int .i64 (l.getD (i * 2) 0), .int .i64 (l.getD (i * 2 + 1) 0)]] ++ cap) W fun e w' => e = .returned (.bool (!q i)) ∧ Below W.heap.size W w') :
    Calls Try.prog 152 #[.slice a n c, .func (.func f) #[] cap] w fun e w' => ∃ i : Int, e = .returned (.int .i64 i) ∧ Hid (decide (0 ≤ i) = !(List.range n).all q) ∧ Below w.heap.size w w' := by
  have hn := h.le
  have HQ := Lib.hid hq
  clear hq
  go_enter Try.func152, Try.ntmps152
  go_wp2
  go_loopw [8] (fun v wr => ∃ k : Nat, k ≤ n ∧ v = .int .i64 k ∧ (∀ i, i < k → q i = true) ∧ Below w.heap.size w wr) (fun v _ => n - (intOf v).toNat)
  case atStart => exact ⟨0, Nat.zero_le _, rfl, fun i hi => absurd hi (by omega), Below.refl _ _⟩
  case round =>
    obtain ⟨k, hk, rfl, hj, hbel⟩ := hrel
    have HJ := Lib.hid hj
    clear hj
    by_cases hlt : k < n
    · obtain ⟨g, o, rfl, hc⟩ := (h.below hbel).at (by omega)
      have c0 : wr.cell? ⟨g, o + k * 2, none⟩ = some (.int .i64 (l.getD (k * 2) 0)) := hc _ (by omega)
      have c1 : wr.cell? ⟨g, o + k * 2 + 1, none⟩ = some (.int .i64 (l.getD (k * 2 + 1) 0)) := by have := hc (k * 2 + 1) (by omega); simpa only [Nat.add_assoc] using this
      have HC := Lib.hid (HQ.out wr k hbel hlt)
      generalize l.getD (k * 2) 0 = x0 at *
      generalize l.getD (k * 2 + 1) 0 = x1 at *
      clear hc
      cases hb : q k
      · rw [hb] at HC
        have HB := Lib.hid (rangeAll_no hlt hb)
        clear hb
        go_wp2_with (refine HC.out.mono ?_; rintro e w' ⟨rfl, u⟩)
        have hbel' := hbel.trans (‹Below wr.heap.size wr _›.mono hbel.size)
        go_ret
        exact ⟨k, rfl, by unfold Hid; rw [HB.out]; simp, hbel'⟩
      · rw [hb] at HC
        have HB := Lib.hid hb
        clear hb
        go_wp2_with (refine HC.out.mono ?_; rintro e w' ⟨rfl, u⟩)
        have hbel' := hbel.trans (‹Below wr.heap.size wr _›.mono hbel.size)
        go_roundw
        case rel => exact ⟨k + 1, by omega, by go_num, fun i hi => by
          by_cases e : i = k
          · subst e; exact HB.out
          · exact HJ.out i (by omega), hbel'⟩
        case measure => simp [intOf]; omega
    · have HB := Lib.hid (rangeAll_yes (q := q) (n := n) (fun i hi => HJ.out i (by omega)))
      go_wp2
      go_ret
      exact ⟨-1, rfl, by unfold Hid; rw [HB.out]; decide, hbel⟩
set_option maxHeartbeats 1000000 in
theorem ContainsFuncT (a : Option Addr) (n c : Nat) (l : List Int) (f : Nat) (cap : Array Value) (q : Nat → Bool) (w : World) (h : Flat 2 w a n c l)
    (hf : ∀ args W, (callFunc f args).run Try.prog W = .ok (.enter f args) W)
    (hq : ∀ W i, Below w.heap.size w W → i < n → Calls Try.prog f (#[.agg #[.int .i64 (l.getD (i * 2) 0), .int .i64 (l.getD (i * 2 + 1) 0)]] ++ cap) W fun e w' => e = .returned (.bool (!q i)) ∧ Below W.heap.size W w') :
    Calls Try.prog 129 #[.slice a n c, .func (.func f) #[] cap] w fun e w' => e = .returned (.bool (!(List.range n).all q)) ∧ Below w.heap.size w w' := by
  have HQ := Lib.hid hq
  have HF := Lib.hid hf
  clear hq hf
  go_enter Try.func129, Try.ntmps129
  go_wp2_with fail
  refine (IndexFuncT _ _ _ l _ _ q _ h HF.out HQ.out).mono ?_; rintro e w' ⟨i, rfl, hi, u⟩
  go_wp2
  go_ret
  exact ⟨ret_bool hi.out, u⟩
end Go.Proofs.Ytjgbhokilagmoaa
