/- Shares of a product. -/
import Derived.Test.YthpcmbdkboajcaaAreAll
import Derived.Test.YthpcmbdkboajcaaDigest
import Derived.Test.YthpcmbdkboajcaaSums
import Derived.Test.YthpcmbdkboajcaaDouble
namespace Go.Proofs.Ythpcmbdkboajcaa
open Go.RowKit

theorem mod_rng (x p : Int) (h : 1 ≤ p) : 0 ≤ x % p ∧ x % p ≤ p - 1 := ⟨Int.emod_nonneg _ (by omega), by have := Int.emod_lt_of_pos x (by omega : 0 < p); omega⟩
theorem mul_rng {a b : Int} (h0 : 0 ≤ a) (h1 : a ≤ 1000) (h2 : 0 ≤ b) (h3 : b ≤ 1000) : 0 ≤ a * b ∧ a * b ≤ 1000000 :=
  ⟨Int.mul_nonneg h0 h2, Int.le_trans (Int.mul_le_mul h1 h3 h2 (by omega)) (by decide)⟩
/-- The kth number, and the first k. -/
def tnI (p key i : Int) (k : Nat) : Int := numI [key, i, 20, (k : Int)] p
theorem tnI_range (p key i : Int) (k : Nat) (h : 1 ≤ p) : 0 ≤ tnI p key i k ∧ tnI p key i k ≤ p - 1 := numI_range _ _ h
def tnL (p key i : Int) (k : Nat) : List Int := (List.range k).map (tnI p key i)
theorem tnL_succ (p key i : Int) (k : Nat) : tnL p key i (k + 1) = tnL p key i k ++ [tnI p key i k] := by simp [tnL, List.range_succ]
theorem tnL_five (p key i : Int) : tnL p key i 5 = [tnI p key i 0, tnI p key i 1, tnI p key i 2, tnI p key i 3, tnI p key i 4] := rfl
/-- The triple's two shares. -/
def tpA (p key i : Int) : List Int := [tnI p key i 2, tnI p key i 3, tnI p key i 4]
def tpB (p key i : Int) : List Int := [(tnI p key i 0 - tnI p key i 2) % p, (tnI p key i 1 - tnI p key i 3) % p, (tnI p key i 0 * tnI p key i 1 - tnI p key i 4) % p]
theorem sub_mod2 (a b p : Int) : (a % p - b) % p = (a - b) % p := by
  rw [Int.sub_eq_add_neg, Int.sub_eq_add_neg, Int.add_emod, Int.emod_emod_of_dvd _ (Int.dvd_refl _), ← Int.add_emod]
/-- A player's share of the product. -/
def shareI (p party s0 s1 s2 d e : Int) : Int := (s2 + d * s1 + e * s0 + (if party = 0 then d * e else 0)) % p
theorem Ints.from {w g o n c l} (h : Ints w (some ⟨g, o, none⟩) n c l) (j : Nat) (hj : j ≤ n) : Ints w (some ⟨g, o + j, none⟩) (n - j) (c - j) (l.drop j) := by
  have hl := h.len
  have hc := h.cellsAt
  obtain ⟨_, h2, h3, h4, _⟩ := h
  exact ⟨by simp; omega, by omega, by omega, by simp, g, o + j, fun _ => rfl, fun i hi => by
    have := hc (j + i) (by omega)
    rw [show o + j + i = o + (j + i) by omega, this]; simp [List.getD_eq_getElem?_getD, List.getElem?_drop]⟩
theorem mul_mod_eq (a b c p : Int) : (a * b - c) % p = (a * b % p - c) % p := (sub_mod2 _ _ _).symm
set_option maxHeartbeats 4000000 in
set_option maxRecDepth 100000 in
theorem productShare_any (p party : Int) (a : Option Addr) (c : Nat) (s0 s1 s2 d e : Int) (w : World) (h : Ints w a 3 c [s0, s1, s2]) (hp : 1 ≤ p) (hp2 : p ≤ 1000) (r0 : 0 ≤ s0 ∧ s0 ≤ 1000) (r1 : 0 ≤ s1 ∧ s1 ≤ 1000) (r2 : 0 ≤ s2 ∧ s2 ≤ 1000) (rd : 0 ≤ d ∧ d ≤ 1000) (re : 0 ≤ e ∧ e ≤ 1000) :
    Calls Try.prog 91 #[.int .i64 p, .int .i64 party, .slice a 3 c, .int .i64 d, .int .i64 e] w fun e' w' => e' = .returned (.int .i64 (shareI p party s0 s1 s2 d e)) ∧ ∃ m, w' = w.drewN m := by
  have m1 := mul_rng rd.1 rd.2 r1.1 r1.2
  have m2 := mul_rng re.1 re.2 r0.1 r0.2
  have m3 := mul_rng rd.1 rd.2 re.1 re.2
  have HS : Hid (shareI p party s0 s1 s2 d e = (s2 + d * s1 + e * s0 + (if party = 0 then d * e else 0)) % p) := rfl
  obtain ⟨r2, r2'⟩ := r2
  obtain ⟨m1, m1'⟩ := m1
  obtain ⟨m2, m2'⟩ := m2
  obtain ⟨m3, m3'⟩ := m3
  obtain ⟨X1, hX1⟩ : ∃ X, X = d * s1 := ⟨_, rfl⟩
  obtain ⟨X2, hX2⟩ : ∃ X, X = e * s0 := ⟨_, rfl⟩
  obtain ⟨X3, hX3⟩ : ∃ X, X = d * e := ⟨_, rfl⟩
  rw [← hX1, ← hX2, ← hX3] at HS
  rw [← hX1] at m1 m1'
  rw [← hX2] at m2 m2'
  rw [← hX3] at m3 m3'
  have t1 : IntKind.i64.wrap (d * s1) = X1 := by rw [← hX1]; exact IntWalk.i64_in _ (by omega)
  have t2 : IntKind.i64.wrap (e * s0) = X2 := by rw [← hX2]; exact IntWalk.i64_in _ (by omega)
  have t3 : IntKind.i64.wrap (d * e) = X3 := by rw [← hX3]; exact IntWalk.i64_in _ (by omega)
  have t3' : wrap64 (d * e) = X3 := by rw [← hX3]; exact IntWalk.wrap64_in (by omega) (by omega)
  have t4 : IntKind.i64.wrap (s2 + X1) = s2 + X1 := IntWalk.i64_in _ (by omega)
  have t5 : IntKind.i64.wrap (s2 + X1 + X2) = s2 + X1 + X2 := IntWalk.i64_in _ (by omega)
  clear hX1 hX2 hX3 r0 r1 rd re
  obtain ⟨g, o, rfl, hc⟩ := h.cells (by omega)
  have e0 : w.cell? ⟨g, o, none⟩ = some (.int .i64 s0) := hc 0 (by omega)
  have e1 : w.cell? ⟨g, o + 1, none⟩ = some (.int .i64 s1) := hc 1 (by omega)
  have e2 : w.cell? ⟨g, o + 2, none⟩ = some (.int .i64 s2) := hc 2 (by omega)
  clear hc h
  by_cases hb : party = 0
  · have hb' : (party == 0) = true := by simp [hb]
    rw [if_pos hb] at HS
    clear hb
    go_enter Try.func91, Try.ntmps91
    go_wp2
    go_quiet (fail)
    go_wp2_with (first | (go_at_call 59; refine (mod_same _ _ _ hp (by omega)).mono ?_; rintro e w' ⟨rfl, rfl⟩))
    go_ret
    exact ⟨ret_int (by rw [HS.out]), _, rfl⟩
  · have hb' : (party == 0) = false := by simp [hb]
    rw [if_neg hb, Int.add_zero] at HS
    clear hb t3 t3' m3 m3'
    go_enter Try.func91, Try.ntmps91
    go_wp2
    go_quiet (fail)
    go_wp2_with (first | (go_at_call 59; refine (mod_same _ _ _ hp (by omega)).mono ?_; rintro e w' ⟨rfl, rfl⟩))
    go_ret
    exact ⟨ret_int (by rw [HS.out]), _, rfl⟩
def tkL (p : Int) (al nl : List Int) (k : Nat) : List Int := (List.range k).map fun i => (al.getD i 0 - nl.getD (2 + i) 0) % p
theorem tkL_succ (p : Int) (al nl : List Int) (k : Nat) : tkL p al nl (k + 1) = tkL p al nl k ++ [(al.getD k 0 - nl.getD (2 + k) 0) % p] := by simp [tkL, List.range_succ]
theorem tpA_eq (p key i : Int) : tpA p key i = [tnI p key i 2, tnI p key i 3, tnI p key i 4] := rfl
/-- What is opened, and the shares of the product. -/
def opD (p key i x0 x1 : Int) : Int := (x0 + x1 - (tnI p key i 2 + (tnI p key i 0 - tnI p key i 2) % p)) % p
def opE (p key i y0 y1 : Int) : Int := (y0 + y1 - (tnI p key i 3 + (tnI p key i 1 - tnI p key i 3) % p)) % p
def timesL (p key i x0 x1 y0 y1 : Int) : List Int :=
  [shareI p 0 (tnI p key i 2) (tnI p key i 3) (tnI p key i 4) (opD p key i x0 x1) (opE p key i y0 y1),
   shareI p 1 ((tnI p key i 0 - tnI p key i 2) % p) ((tnI p key i 1 - tnI p key i 3) % p) ((tnI p key i 0 * tnI p key i 1 - tnI p key i 4) % p) (opD p key i x0 x1) (opE p key i y0 y1)]
theorem open_eq (x0 x1 a b p : Int) : ((x0 - a) % p + (x1 - b) % p) % p = (x0 + x1 - (a + b)) % p := by
  rw [← Int.add_emod]; congr 1; omega
end Go.Proofs.Ythpcmbdkboajcaa
