/- Lemmas and walks that the claim's proof rests on, part 5. -/
import Derived.Test.YtchmakepglaijaaGreatK1
import Derived.Test.YtchmakepglaijaaGreatK3
import Derived.Test.YtchmakepglaijaaGreatK4
namespace Go.Proofs.YtchmakepglaijaaGreat
open Go.RowKit
theorem mod_rng (x p : Int) (h : 1 ≤ p) : 0 ≤ x % p ∧ x % p ≤ p - 1 := ⟨Int.emod_nonneg _ (by omega), by have := Int.emod_lt_of_pos x (by omega : 0 < p); omega⟩
theorem mul_rng {a b : Int} (h0 : 0 ≤ a) (h1 : a ≤ 1000) (h2 : 0 ≤ b) (h3 : b ≤ 1000) : 0 ≤ a * b ∧ a * b ≤ 1000000 :=
  ⟨Int.mul_nonneg h0 h2, Int.le_trans (Int.mul_le_mul h1 h3 h2 (by omega)) (by decide)⟩
def tnI (p key i : Int) (k : Nat) : Int := numI [key, i, 20, (k : Int)] p
theorem tnI_range (p key i : Int) (k : Nat) (h : 1 ≤ p) : 0 ≤ tnI p key i k ∧ tnI p key i k ≤ p - 1 := numI_range _ _ h
def tnL (p key i : Int) (k : Nat) : List Int := (List.range k).map (tnI p key i)
theorem tnL_succ (p key i : Int) (k : Nat) : tnL p key i (k + 1) = tnL p key i k ++ [tnI p key i k] := by simp [tnL, List.range_succ]
def tpA (p key i : Int) : List Int := [tnI p key i 2, tnI p key i 3, tnI p key i 4]
def tpB (p key i : Int) : List Int := [(tnI p key i 0 - tnI p key i 2) % p, (tnI p key i 1 - tnI p key i 3) % p, (tnI p key i 0 * tnI p key i 1 - tnI p key i 4) % p]
theorem sub_mod2 (a b p : Int) : (a % p - b) % p = (a - b) % p := by
  rw [Int.sub_eq_add_neg, Int.sub_eq_add_neg, Int.add_emod, Int.emod_emod_of_dvd _ (Int.dvd_refl _), ← Int.add_emod]
def shareI (p party s0 s1 s2 d e : Int) : Int := (s2 + d * s1 + e * s0 + (if party = 0 then d * e else 0)) % p
theorem Ints.from {w g o n c l} (h : Ints w (some ⟨g, o, none⟩) n c l) (j : Nat) (hj : j ≤ n) : Ints w (some ⟨g, o + j, none⟩) (n - j) (c - j) (l.drop j) := by
  have hl := h.len
  have hc := h.cellsAt
  obtain ⟨_, h2, h3, h4, _⟩ := h
  exact ⟨by simp; omega, by omega, by omega, by simp, g, o + j, fun _ => rfl, fun i hi => by
    have := hc (j + i) (by omega)
    rw [show o + j + i = o + (j + i) by omega, this]; simp [List.getD_eq_getElem?_getD, List.getElem?_drop]⟩
set_option maxHeartbeats 4000000 in
set_option maxRecDepth 100000 in
theorem productShare_any (p party : Int) (a : Option Addr) (c : Nat) (s0 s1 s2 d e : Int) (w : World) (h : Ints w a 3 c [s0, s1, s2]) (hp : 1 ≤ p) (hp2 : p ≤ 1000) (r0 : 0 ≤ s0 ∧ s0 ≤ 1000) (r1 : 0 ≤ s1 ∧ s1 ≤ 1000) (r2 : 0 ≤ s2 ∧ s2 ≤ 1000) (rd : 0 ≤ d ∧ d ≤ 1000) (re : 0 ≤ e ∧ e ≤ 1000) :
    Calls Tryz.prog 116 #[.int .i64 p, .int .i64 party, .slice a 3 c, .int .i64 d, .int .i64 e] w fun e' w' => e' = .returned (.int .i64 (shareI p party s0 s1 s2 d e)) ∧ ∃ m, w' = w.drewN m := by
  have m1 := mul_rng rd.1 rd.2 r1.1 r1.2
  have m2 := mul_rng re.1 re.2 r0.1 r0.2
  have m3 := mul_rng rd.1 rd.2 re.1 re.2
  have HS : Hid (shareI p party s0 s1 s2 d e = (s2 + d * s1 + e * s0 + (if party = 0 then d * e else 0)) % p) := rfl
  obtain ⟨r2, r2'⟩ := r2
  obtain ⟨m1, m1'⟩ := m1
  obtain ⟨m2, m2'⟩ := m2
  obtain ⟨m3, m3'⟩ := m3
  obtain ⟨X1, hX1⟩ : ∃ X, X = d * s1 := ⟨_, rfl⟩
  obtain ⟨X2, hX2⟩ : ∃ X, X = e * s0 := ⟨_, rfl⟩
  obtain ⟨X3, hX3⟩ : ∃ X, X = d * e := ⟨_, rfl⟩
  rw [← hX1, ← hX2, ← hX3] at HS
  rw [← hX1] at m1 m1'
  rw [← hX2] at m2 m2'
  rw [← hX3] at m3 m3'
  have t1 : IntKind.i64.wrap (d * s1) = X1 := by rw [← hX1]; exact IntWalk.i64_in _ (by omega)
  have t2 : IntKind.i64.wrap (e * s0) = X2 := by rw [← hX2]; exact IntWalk.i64_in _ (by omega)
  have t3 : IntKind.i64.wrap (d * e) = X3 := by rw [← hX3]; exact IntWalk.i64_in _ (by omega)
  have t3' : wrap64 (d * e) = X3 := by rw [← hX3]; exact IntWalk.wrap64_in (by omega) (by omega)
  have t4 : IntKind.i64.wrap (s2 + X1) = s2 + X1 := IntWalk.i64_in _ (by omega)
  have t5 : IntKind.i64.wrap (s2 + X1 + X2) = s2 + X1 + X2 := IntWalk.i64_in _ (by omega)
  clear hX1 hX2 hX3 r0 r1 rd re
  obtain ⟨g, o, rfl, hc⟩ := h.cells (by omega)
  have e0 : w.cell? ⟨g, o, none⟩ = some (.int .i64 s0) := hc 0 (by omega)
  have e1 : w.cell? ⟨g, o + 1, none⟩ = some (.int .i64 s1) := hc 1 (by omega)
  have e2 : w.cell? ⟨g, o + 2, none⟩ = some (.int .i64 s2) := hc 2 (by omega)
  clear hc h
  by_cases hb : party = 0
  · have hb' : (party == 0) = true := by simp [hb]
    rw [if_pos hb] at HS
    clear hb
    go_enter Tryz.func116, Tryz.ntmps116
    go_wp2
    go_quiet (fail)
    go_wp2_with (first | (go_at_call 41; refine (mod_same _ _ _ hp (by omega)).mono ?_; rintro e w' ⟨rfl, rfl⟩))
    go_ret
    exact ⟨ret_int (by rw [HS.out]), _, rfl⟩
  · have hb' : (party == 0) = false := by simp [hb]
    rw [if_neg hb, Int.add_zero] at HS
    clear hb t3 t3' m3 m3'
    go_enter Tryz.func116, Tryz.ntmps116
    go_wp2
    go_quiet (fail)
    go_wp2_with (first | (go_at_call 41; refine (mod_same _ _ _ hp (by omega)).mono ?_; rintro e w' ⟨rfl, rfl⟩))
    go_ret
    exact ⟨ret_int (by rw [HS.out]), _, rfl⟩
set_option maxHeartbeats 4000000 in
set_option maxRecDepth 100000 in
theorem trShare_any (p party : Int) (a : Option Addr) (c : Nat) (s0 s1 s2 d e : Int) (w : World) (h : Ints w a 3 c [s0, s1, s2]) (hp : 1 ≤ p) (hp2 : p ≤ 1000) (r0 : 0 ≤ s0 ∧ s0 ≤ 1000) (r1 : 0 ≤ s1 ∧ s1 ≤ 1000) (r2 : 0 ≤ s2 ∧ s2 ≤ 1000) (rd : 0 ≤ d ∧ d ≤ 1000) (re : 0 ≤ e ∧ e ≤ 1000) :
    Calls Tryz.prog 119 #[.int .i64 p, .int .i64 party, .slice a 3 c, .int .i64 d, .int .i64 e] w fun e' w' => e' = .returned (.int .i64 (shareI p party s0 s1 s2 d e)) ∧ ∃ m, w' = w.drewN m := by
  have m1 := mul_rng rd.1 rd.2 r1.1 r1.2
  have m2 := mul_rng re.1 re.2 r0.1 r0.2
  have m3 := mul_rng rd.1 rd.2 re.1 re.2
  have HS : Hid (shareI p party s0 s1 s2 d e = (s2 + d * s1 + e * s0 + (if party = 0 then d * e else 0)) % p) := rfl
  obtain ⟨r2, r2'⟩ := r2
  obtain ⟨m1, m1'⟩ := m1
  obtain ⟨m2, m2'⟩ := m2
  obtain ⟨m3, m3'⟩ := m3
  obtain ⟨X1, hX1⟩ : ∃ X, X = d * s1 := ⟨_, rfl⟩
  obtain ⟨X2, hX2⟩ : ∃ X, X = e * s0 := ⟨_, rfl⟩
  obtain ⟨X3, hX3⟩ : ∃ X, X = d * e := ⟨_, rfl⟩
  rw [← hX1, ← hX2, ← hX3] at HS
  rw [← hX1] at m1 m1'
  rw [← hX2] at m2 m2'
  rw [← hX3] at m3 m3'
  have t1 : IntKind.i64.wrap (d * s1) = X1 := by rw [← hX1]; exact IntWalk.i64_in _ (by omega)
  have t2 : IntKind.i64.wrap (e * s0) = X2 := by rw [← hX2]; exact IntWalk.i64_in _ (by omega)
  have t3 : IntKind.i64.wrap (d * e) = X3 := by rw [← hX3]; exact IntWalk.i64_in _ (by omega)
  have t3' : wrap64 (d * e) = X3 := by rw [← hX3]; exact IntWalk.wrap64_in (by omega) (by omega)
  have t4 : IntKind.i64.wrap (s2 + X1) = s2 + X1 := IntWalk.i64_in _ (by omega)
  have t5 : IntKind.i64.wrap (s2 + X1 + X2) = s2 + X1 + X2 := IntWalk.i64_in _ (by omega)
  clear hX1 hX2 hX3 r0 r1 rd re
  obtain ⟨g, o, rfl, hc⟩ := h.cells (by omega)
  have e0 : w.cell? ⟨g, o, none⟩ = some (.int .i64 s0) := hc 0 (by omega)
  have e1 : w.cell? ⟨g, o + 1, none⟩ = some (.int .i64 s1) := hc 1 (by omega)
  have e2 : w.cell? ⟨g, o + 2, none⟩ = some (.int .i64 s2) := hc 2 (by omega)
  clear hc h
  by_cases hb : party = 0
  · have hb' : (party == 0) = true := by simp [hb]
    rw [if_pos hb] at HS
    clear hb
    go_enter Tryz.func119, Tryz.ntmps119
    go_wp2
    go_quiet (fail)
    go_wp2
    go_ret
    exact ⟨ret_int (by rw [HS.out]), _, rfl⟩
  · have hb' : (party == 0) = false := by simp [hb]
    rw [if_neg hb, Int.add_zero] at HS
    clear hb t3 t3' m3 m3'
    go_enter Tryz.func119, Tryz.ntmps119
    go_wp2
    go_quiet (fail)
    go_wp2
    go_ret
    exact ⟨ret_int (by rw [HS.out]), _, rfl⟩
set_option maxHeartbeats 4000000 in
set_option maxRecDepth 100000 in
theorem sums_any (a : Option Addr) (c : Nat) (s0 s1 s2 : Int) (a' : Option Addr) (c' : Nat) (t0 t1 t2 : Int) (w : World) (h : Ints w a 3 c [s0, s1, s2]) (h' : Ints w a' 3 c' [t0, t1, t2]) (r0 : 0 ≤ s0 ∧ s0 ≤ 1000) (r1 : 0 ≤ s1 ∧ s1 ≤ 1000) (r2 : 0 ≤ s2 ∧ s2 ≤ 1000) (q0 : 0 ≤ t0 ∧ t0 ≤ 1000) (q1 : 0 ≤ t1 ∧ t1 ≤ 1000) (q2 : 0 ≤ t2 ∧ t2 ≤ 1000) :
    Calls Tryz.prog 115 #[.slice a 3 c, .slice a' 3 c'] w fun e' w' => e' = .returned (.tuple #[.int .i64 (s0 + t0), .int .i64 (s1 + t1), .int .i64 (s2 + t2)]) ∧ ∃ m, w' = w.drewN m := by
  have w0 : IntKind.i64.wrap (s0 + t0) = s0 + t0 := IntWalk.i64_in _ (by omega)
  have w1 : IntKind.i64.wrap (s1 + t1) = s1 + t1 := IntWalk.i64_in _ (by omega)
  have w2 : IntKind.i64.wrap (s2 + t2) = s2 + t2 := IntWalk.i64_in _ (by omega)
  clear r0 r1 r2 q0 q1 q2
  obtain ⟨g, o, rfl, hc⟩ := h.cells (by omega)
  have e0 : w.cell? ⟨g, o, none⟩ = some (.int .i64 s0) := hc 0 (by omega)
  have e1 : w.cell? ⟨g, o + 1, none⟩ = some (.int .i64 s1) := hc 1 (by omega)
  have e2 : w.cell? ⟨g, o + 2, none⟩ = some (.int .i64 s2) := hc 2 (by omega)
  obtain ⟨g', o', rfl, hc'⟩ := h'.cells (by omega)
  have f0 : w.cell? ⟨g', o', none⟩ = some (.int .i64 t0) := hc' 0 (by omega)
  have f1 : w.cell? ⟨g', o' + 1, none⟩ = some (.int .i64 t1) := hc' 1 (by omega)
  have f2 : w.cell? ⟨g', o' + 2, none⟩ = some (.int .i64 t2) := hc' 2 (by omega)
  clear hc h hc' h'
  go_enter Tryz.func115, Tryz.ntmps115
  go_wp2
  go_quiet (fail)
  go_wp2
  go_ret3
  exact ⟨rfl, _, rfl⟩
set_option maxHeartbeats 4000000 in
set_option maxRecDepth 100000 in
theorem trMask_any (p : Int) (a : Option Addr) (c : Nat) (s0 s1 s2 x y : Int) (w : World) (h : Ints w a 3 c [s0, s1, s2]) (hp : 1 ≤ p) (hp2 : p ≤ 1000) (r0 : 0 ≤ s0 ∧ s0 ≤ 1000) (r1 : 0 ≤ s1 ∧ s1 ≤ 1000) (rx : 0 ≤ x ∧ x ≤ 1000) (ry : 0 ≤ y ∧ y ≤ 1000) :
    Calls Tryz.prog 118 #[.int .i64 p, .slice a 3 c, .int .i64 x, .int .i64 y] w fun e' w' => ∃ a1 c1, e' = .returned (.slice a1 2 c1) ∧ Own w' w.heap.size a1 2 c1 [(x - s0) % p, (y - s1) % p] ∧ Below w.heap.size w w' := by
  have w0 : IntKind.i64.wrap (x - s0) = x - s0 := IntWalk.i64_in _ (by omega)
  have w1 : IntKind.i64.wrap (y - s1) = y - s1 := IntWalk.i64_in _ (by omega)
  obtain ⟨g, o, rfl, hc⟩ := h.cells (by omega)
  have e0 : w.cell? ⟨g, o, none⟩ = some (.int .i64 s0) := hc 0 (by omega)
  have e1 : w.cell? ⟨g, o + 1, none⟩ = some (.int .i64 s1) := hc 1 (by omega)
  clear hc h
  go_enter Tryz.func118, Tryz.ntmps118
  go_wp2
  go_region_held3 (fun W => W.cell? ⟨g, o, none⟩ = some (.int .i64 s0) ∧ W.cell? ⟨g, o + 1, none⟩ = some (.int .i64 s1))
    (go_keep)
    (first | (go_at_call 70; refine (btMod_same _ _ _ hp (by omega)).mono ?_; rintro e w' ⟨rfl, rfl⟩))
  all_goals go_wp2
  all_goals go_ret
  all_goals exact ⟨_, _, rfl, (Own.lit2 _ _ _ _ (Nat.le_refl _)).drew, ((Below.refl _ _).alloc (Nat.le_refl _) _).drew⟩
set_option maxHeartbeats 4000000 in
set_option maxRecDepth 100000 in
theorem tripleFor_any (p key i : Int) (w : World) (hp : 1 ≤ p) (hp2 : p ≤ 1000) (hk : 0 ≤ key) (hk2 : key ≤ 1000000000) (hi : 0 ≤ i) (hi2 : i ≤ 1000000) :
    Calls Tryz.prog 114 #[.int .i64 p, .int .i64 key, .int .i64 i] w fun e w' => ∃ a c a' c', e = .returned (.tuple #[.slice a 3 c, .slice a' 3 c']) ∧ Ints w' a 3 c (tpA p key i) ∧ Ints w' a' 3 c' (tpB p key i) ∧ Below w.heap.size w w' := by
  go_enter Tryz.func114, Tryz.ntmps114
  go_wp2
  have own0 : Own (w.alloc (.cells #[] 3)) w.heap.size (some ⟨w.heap.size, 0, none⟩) 0 0 (tnL p key i 0) := Own.lit w _ [] (Nat.le_refl _) (by simp)
  have bel0 := (Below.refl w.heap.size w).alloc (Nat.le_refl _) (.cells #[] 3)
  go_loopw [8, 12] (fun u v wr => ∃ k : Nat, k ≤ 5 ∧ v = .int .i64 k ∧ Below w.heap.size w wr ∧ ∃ a1 c1, u = .slice a1 k c1 ∧ Own wr w.heap.size a1 k c1 (tnL p key i k)) (fun _ v _ => 5 - (intOf v).toNat)
  case atStart => exact ⟨0, by omega, rfl, bel0, _, _, rfl, own0⟩
  case round =>
    obtain ⟨k, hk5, rfl, hbel, a1, c1, rfl, own⟩ := hrel
    by_cases hlt : k < 5
    · have HS := Lib.hid (tnL_succ p key i k)
      have HN : Hid (numI [key, i, 20, (k : Int)] p = tnI p key i k) := rfl
      go_wp2_with fail
      refine (numberFrom_any _ _ _ [key, i, 20, (k : Int)] _ _ (Ints.lit _ [key, i, 20, (k : Int)] _ (by simp [maxLen])) (by simp) (WB.cons (by omega) (WB.cons (by omega) (WB.two (by omega) (by omega)))) hp (by omega)).mono ?_; rintro e w2 ⟨rfl, u2⟩
      rw [HN.out]
      have v2 := below_a1 u2
      have own1 := own.below v2
      have b2 := hbel.trans (v2.mono hbel.size)
      clear u2 v2 own hbel
      go_wp2_with (at_builtin; refine wpList_appI _ rfl _ _ rfl w.heap.size a1 k c1 (tnL p key i k) rfl (own1.alloc _) _ 1 1 [tnI p key i k] rfl (Ints.lit1 _ _ _) (by omega) (by have := b2.size; simp; omega) ?_)
      intro a5 c5 w3 o5 u5 _
      rw [← HS.out] at o5
      have b3 := (b2.alloc b2.size _).trans u5
      clear u5 b2 own1
      go_wp2
      go_roundw
      case rel => exact ⟨k + 1, by omega, by go_num, b3, a5, c5, rfl, o5⟩
      case measure => simp [intOf]; omega
    · have hk : k = 5 := by omega
      subst hk
      clear own0 bel0
      have hc5 := own.cap.1
      have hd : Ints wr (match a1 with | some ⟨g, o, x⟩ => some ⟨g, o + 2, x⟩ | none => none) 3 (c1 - 2) (tpA p key i) := by
        obtain ⟨g, o, rfl, _⟩ := own.ints.cells (by omega)
        exact own.ints.from 2 (by omega)
      obtain ⟨g, o, rfl, hc⟩ := own.ints.cells (by omega)
      have HA : Hid (tpA p key i = [tnI p key i 2, tnI p key i 3, tnI p key i 4]) := rfl
      have HB : Hid (tpB p key i = [(tnI p key i 0 - tnI p key i 2) % p, (tnI p key i 1 - tnI p key i 3) % p, (tnI p key i 0 * tnI p key i 1 - tnI p key i 4) % p]) := rfl
      have e0 : wr.cell? ⟨g, o, none⟩ = some (.int .i64 (tnI p key i 0)) := hc 0 (by omega)
      have e1 : wr.cell? ⟨g, o + 1, none⟩ = some (.int .i64 (tnI p key i 1)) := hc 1 (by omega)
      have r0 := tnI_range p key i 0 hp
      have r1 := tnI_range p key i 1 hp
      have r2 := tnI_range p key i 2 hp
      have r3 := tnI_range p key i 3 hp
      have r4 := tnI_range p key i 4 hp
      generalize tnI p key i 0 = n0 at *
      generalize tnI p key i 1 = n1 at *
      generalize tnI p key i 2 = n2 at *
      generalize tnI p key i 3 = n3 at *
      generalize tnI p key i 4 = n4 at *
      obtain ⟨r0, r0'⟩ := r0
      obtain ⟨r1, r1'⟩ := r1
      obtain ⟨r2, r2'⟩ := r2
      obtain ⟨r3, r3'⟩ := r3
      obtain ⟨r4, r4'⟩ := r4
      have m0 := mul_rng r0 (by omega) r1 (by omega)
      obtain ⟨m0, m0'⟩ := m0
      obtain ⟨X, hX⟩ : ∃ X, X = n0 * n1 := ⟨_, rfl⟩
      rw [← hX] at m0 m0' HB
      have t0 : IntKind.i64.wrap (n0 * n1) = X := by rw [← hX]; exact IntWalk.i64_in _ (by omega)
      clear hX
      have t1 : IntKind.i64.wrap (X - n4) = X - n4 := IntWalk.i64_in _ (by omega)
      have t2 : IntKind.i64.wrap (n0 - n2) = n0 - n2 := IntWalk.i64_in _ (by omega)
      have t3 : IntKind.i64.wrap (n1 - n3) = n1 - n3 := IntWalk.i64_in _ (by omega)
      clear hc
      go_wp2_with fail
      refine (Clone_any _ 3 _ _ _ hd (by omega)).mono ?_; rintro e w2 ⟨a7, c7, rfl, o7, u7⟩
      have v7 := hbel.trans (u7.mono hbel.size)
      have f0 := keepC u7 e0
      have f1 := keepC u7 e1
      clear e0 e1 hd hbel u7
      rw [HA.out] at o7
      obtain ⟨g7, q7, rfl, hc7⟩ := o7.ints.cells (by omega)
      have k0 : w2.cell? ⟨g7, q7, none⟩ = some (.int .i64 n2) := hc7 0 (by omega)
      have k1 : w2.cell? ⟨g7, q7 + 1, none⟩ = some (.int .i64 n3) := hc7 1 (by omega)
      have k2 : w2.cell? ⟨g7, q7 + 2, none⟩ = some (.int .i64 n4) := hc7 2 (by omega)
      clear hc7
      go_wp2
      go_region_held3 (fun W => W.cell? ⟨g, o, none⟩ = some (.int .i64 n0) ∧ W.cell? ⟨g, o + 1, none⟩ = some (.int .i64 n1) ∧ W.cell? ⟨g7, q7, none⟩ = some (.int .i64 n2) ∧ W.cell? ⟨g7, q7 + 1, none⟩ = some (.int .i64 n3) ∧ W.cell? ⟨g7, q7 + 2, none⟩ = some (.int .i64 n4))
        (go_keep)
        (first | (go_at_call 41; refine (mod_same _ _ _ hp (by omega)).mono ?_; rintro e w' ⟨rfl, rfl⟩))
      all_goals go_wp2
      all_goals go_ret2
      all_goals exact ⟨_, _, _, _, rfl, by rw [HA.out]; exact ((o7.alloc _).drew).ints, by rw [HB.out]; exact ((Ints.lit _ [(n0 - n2) % p, (n1 - n3) % p, (X - n4) % p] _ (by simp [maxLen]))).drew, (v7.alloc v7.size _).drew⟩
def tkL (p : Int) (al nl : List Int) (k : Nat) : List Int := (List.range k).map fun i => (al.getD i 0 - nl.getD (2 + i) 0) % p
theorem tkL_succ (p : Int) (al nl : List Int) (k : Nat) : tkL p al nl (k + 1) = tkL p al nl k ++ [(al.getD k 0 - nl.getD (2 + k) 0) % p] := by simp [tkL, List.range_succ]
set_option maxHeartbeats 4000000 in
set_option maxRecDepth 100000 in
theorem trFor_any (p key i : Int) (w : World) (hp : 1 ≤ p) (hp2 : p ≤ 1000) (hk : 0 ≤ key) (hk2 : key ≤ 1000000000) (hi : 0 ≤ i) (hi2 : i ≤ 1000000) :
    Calls Tryz.prog 117 #[.int .i64 p, .int .i64 key, .int .i64 i] w fun e w' => ∃ a c a' c', e = .returned (.tuple #[.slice a 3 c, .slice a' 3 c']) ∧ Ints w' a 3 c (tpA p key i) ∧ Ints w' a' 3 c' (tpB p key i) ∧ Below w.heap.size w w' := by
  go_enter Tryz.func117, Tryz.ntmps117
  go_wp2
  have own0 : Own w w.heap.size none 0 0 (tnL p key i 0) := Own.nil0 _ _ _
  have bel0 := Below.refl w.heap.size w
  go_loopw [8, 9] (fun u v wr => ∃ k : Nat, k ≤ 5 ∧ v = .int .i64 k ∧ Below w.heap.size w wr ∧ ∃ a1 c1, u = .slice a1 k c1 ∧ Own wr w.heap.size a1 k c1 (tnL p key i k)) (fun _ v _ => 5 - (intOf v).toNat)
  case atStart => exact ⟨0, by omega, rfl, bel0, _, _, rfl, own0⟩
  case round =>
    obtain ⟨k, hk5, rfl, hbel, a1, c1, rfl, own⟩ := hrel
    by_cases hlt : k < 5
    · have HS := Lib.hid (tnL_succ p key i k)
      have HN : Hid (numI [key, i, 20, (k : Int)] p = tnI p key i k) := rfl
      go_wp2_with fail
      refine (dgBelow_any _ _ _ [key, i, 20, (k : Int)] _ _ (Ints.lit _ [key, i, 20, (k : Int)] _ (by simp [maxLen])) (by simp) (WB.cons (by omega) (WB.cons (by omega) (WB.two (by omega) (by omega)))) hp (by omega)).mono ?_; rintro e w2 ⟨rfl, u2⟩
      rw [HN.out]
      have v2 := below_a1 u2
      have own1 := own.below v2
      have b2 := hbel.trans (v2.mono hbel.size)
      clear u2 v2 own hbel
      go_wp2_with (at_builtin; refine wpList_appI _ rfl _ _ rfl w.heap.size a1 k c1 (tnL p key i k) rfl (own1.alloc _) _ 1 1 [tnI p key i k] rfl (Ints.lit1 _ _ _) (by omega) (by have := b2.size; simp; omega) ?_)
      intro a5 c5 w3 o5 u5 _
      rw [← HS.out] at o5
      have b3 := (b2.alloc b2.size _).trans u5
      clear u5 b2 own1
      go_wp2
      go_roundw
      case rel => exact ⟨k + 1, by omega, by go_num, b3, a5, c5, rfl, o5⟩
      case measure => simp [intOf]; omega
    · have hk : k = 5 := by omega
      subst hk
      clear own0 bel0
      have hc5 := own.cap.1
      obtain ⟨g, o, rfl, hc⟩ := own.ints.cells (by omega)
      have HA : Hid (tpA p key i = [tnI p key i 2, tnI p key i 3, tnI p key i 4]) := rfl
      have hd : Ints wr (some ⟨g, o + 2, none⟩) 3 (c1 - 2) (tpA p key i) := own.ints.from 2 (by omega)
      have HB : Hid (tpB p key i = [(tnI p key i 0 - tnI p key i 2) % p, (tnI p key i 1 - tnI p key i 3) % p, (tnI p key i 0 * tnI p key i 1 - tnI p key i 4) % p]) := rfl
      have e0 : wr.cell? ⟨g, o, none⟩ = some (.int .i64 (tnI p key i 0)) := hc 0 (by omega)
      have e1 : wr.cell? ⟨g, o + 1, none⟩ = some (.int .i64 (tnI p key i 1)) := hc 1 (by omega)
      have r0 := tnI_range p key i 0 hp
      have r1 := tnI_range p key i 1 hp
      have r2 := tnI_range p key i 2 hp
      have r3 := tnI_range p key i 3 hp
      have r4 := tnI_range p key i 4 hp
      have HI : Hid (Ints wr (some ⟨g, o, none⟩) 5 c1 [tnI p key i 0, tnI p key i 1, tnI p key i 2, tnI p key i 3, tnI p key i 4]) := Lib.hid own.ints
      generalize tnI p key i 0 = n0 at *
      generalize tnI p key i 1 = n1 at *
      generalize tnI p key i 2 = n2 at *
      generalize tnI p key i 3 = n3 at *
      generalize tnI p key i 4 = n4 at *
      obtain ⟨r0, r0'⟩ := r0
      obtain ⟨r1, r1'⟩ := r1
      obtain ⟨r2, r2'⟩ := r2
      obtain ⟨r3, r3'⟩ := r3
      obtain ⟨r4, r4'⟩ := r4
      have m0 := mul_rng r0 (by omega) r1 (by omega)
      obtain ⟨m0, m0'⟩ := m0
      obtain ⟨X, hX⟩ : ∃ X, X = n0 * n1 := ⟨_, rfl⟩
      rw [← hX] at m0 m0' HB
      have t0 : IntKind.i64.wrap (n0 * n1) = X := by rw [← hX]; exact IntWalk.i64_in _ (by omega)
      have t5 : X.tmod p = X % p := Int.tmod_eq_emod_of_nonneg m0
      have t6 : IntKind.i64.wrap (X % p) = X % p := IntWalk.i64_in _ (by have := mod_rng X p hp; omega)
      have t7 : (p == 0) = false := by simp; omega
      have t8 : (p = 0) = False := by simp; omega
      clear hX hc
      go_wp2
      go_region_held3 (fun W => W.cell? ⟨g, o, none⟩ = some (.int .i64 n0) ∧ W.cell? ⟨g, o + 1, none⟩ = some (.int .i64 n1))
        (go_keep)
        (fail)
      obtain ⟨w2, hw2⟩ : ∃ w2, w2 = (wr.alloc (.cells #[.int .i64 n0, .int .i64 n1, .int .i64 (X % p)] 3)).drew := ⟨_, rfl⟩
      rw [← hw2]
      have z2 : Ints w2 (some ⟨wr.heap.size, 0, none⟩) 3 3 [n0, n1, X % p] := by rw [hw2]; exact ((Ints.lit wr [n0, n1, X % p] 3 (by simp [maxLen]))).drew
      have v2 : Below w.heap.size w w2 := by rw [hw2]; exact (hbel.alloc hbel.size _).drew
      have HI2 : Hid (Ints w2 (some ⟨g, o, none⟩) 5 c1 [n0, n1, n2, n3, n4]) := Lib.hid (by rw [hw2]; exact (HI.out.alloc _).drew)
      have hd2 : Ints w2 (some ⟨g, o + 2, none⟩) 3 (c1 - 2) (tpA p key i) := by rw [hw2]; exact (hd.alloc _).drew
      have HZ : Hid ([(n0 - n2) % p, (n1 - n3) % p, (X - n4) % p] = tkL p [n0, n1, X % p] [n0, n1, n2, n3, n4] 3) := Lib.hid (by rw [← sub_mod2 X]; rfl)
      have HR1 : Hid (∀ x ∈ [n0, n1, X % p], 0 ≤ x ∧ x ≤ 1000) := Lib.hid (by
        have := mod_rng X p hp
        intro x hx; simp only [List.mem_cons, List.not_mem_nil, or_false] at hx; rcases hx with rfl | rfl | rfl <;> omega)
      have HR2 : Hid (∀ x ∈ [n0, n1, n2, n3, n4], 0 ≤ x ∧ x ≤ 1000) := Lib.hid (by
        intro x hx; simp only [List.mem_cons, List.not_mem_nil, or_false] at hx; rcases hx with rfl | rfl | rfl | rfl | rfl <;> omega)
      have hL1 : [n0, n1, X % p].length = 3 := rfl
      have hL2 : [n0, n1, n2, n3, n4].length = 5 := rfl
      rw [HZ.out] at HB
      generalize hal : [n0, n1, X % p] = al at *
      generalize hnl : [n0, n1, n2, n3, n4] = nl at *
      clear hw2 hal hnl e0 e1 t0 t5 t6 t7 t8 HI hbel own HZ
      go_wp2
      have own0 : Own w2 w2.heap.size none 0 0 (tkL p al nl 0) := Own.nil0 _ _ _
      have bel0 := Below.refl w2.heap.size w2
      go_loopw [11, 45] (fun u v wr => ∃ k : Nat, k ≤ 3 ∧ v = .int .i64 k ∧ Below w2.heap.size w2 wr ∧ ∃ a1 c1, u = .slice a1 k c1 ∧ Own wr w2.heap.size a1 k c1 (tkL p al nl k)) (fun _ v _ => 3 - (intOf v).toNat)
      case atStart => exact ⟨0, by omega, rfl, bel0, _, _, rfl, own0⟩
      case round =>
        obtain ⟨k, hk3, rfl, hbel, a1, c2, rfl, own⟩ := hrel
        have z3 := z2.below hbel
        have z4 := HI2.out.below hbel
        by_cases hlt : k < 3
        · have r1 := getD_range al _ _ HR1.out k (by omega)
          have r2 := getD_range nl _ _ HR2.out (2 + k) (by omega)
          have HS := Lib.hid (tkL_succ p al nl k)
          obtain ⟨g3, o3, hg3, hc3⟩ := z3.at k hlt
          obtain ⟨g4, o4, hg4, hc4⟩ := z4.at (2 + k) (by omega)
          cases hg3
          cases hg4
          rw [Nat.zero_add] at hc3
          generalize al.getD k 0 = x at *
          generalize nl.getD (2 + k) 0 = y at *
          obtain ⟨r1, r1'⟩ := r1
          obtain ⟨r2, r2'⟩ := r2
          clear z3 z4
          go_wp2_with fail
          refine (btMod_same _ _ _ hp (by omega)).mono ?_; rintro e w' ⟨rfl, rfl⟩
          go_wp2_with (at_builtin; refine wpList_appI _ rfl _ _ rfl w2.heap.size a1 k c2 (tkL p al nl k) rfl (own.alloc _) _ 1 1 [(x - y) % p] rfl (Ints.lit1 _ _ _) (by omega) (by have := hbel.size; simp; omega) ?_)
          intro a5 c5 w3 o5 u5 _
          rw [← HS.out] at o5
          have b3 := (hbel.alloc hbel.size _).trans u5
          clear u5 hbel own
          go_wp2
          go_roundw
          case rel => exact ⟨k + 1, by omega, by go_num, b3, a5, c5, rfl, o5⟩
          case measure => simp [intOf]; omega
        · have hk : k = 3 := by omega
          subst hk
          go_wp2
          go_ret2
          exact ⟨_, _, _, _, rfl, hd2.below hbel, by rw [HB.out]; exact own.ints, v2.trans (hbel.mono v2.size)⟩
def opD (p key i x0 x1 : Int) : Int := (x0 + x1 - (tnI p key i 2 + (tnI p key i 0 - tnI p key i 2) % p)) % p
def opE (p key i y0 y1 : Int) : Int := (y0 + y1 - (tnI p key i 3 + (tnI p key i 1 - tnI p key i 3) % p)) % p
def timesL (p key i x0 x1 y0 y1 : Int) : List Int :=
  [shareI p 0 (tnI p key i 2) (tnI p key i 3) (tnI p key i 4) (opD p key i x0 x1) (opE p key i y0 y1),
   shareI p 1 ((tnI p key i 0 - tnI p key i 2) % p) ((tnI p key i 1 - tnI p key i 3) % p) ((tnI p key i 0 * tnI p key i 1 - tnI p key i 4) % p) (opD p key i x0 x1) (opE p key i y0 y1)]
theorem open_eq (x0 x1 a b p : Int) : ((x0 - a) % p + (x1 - b) % p) % p = (x0 + x1 - (a + b)) % p := by
  rw [← Int.add_emod]; congr 1; omega
set_option maxHeartbeats 4000000 in
set_option maxRecDepth 100000 in
theorem multiplyPairs_any (p key i : Int) (a : Option Addr) (c : Nat) (x0 x1 : Int) (a' : Option Addr) (c' : Nat) (y0 y1 : Int) (w : World) (h : Ints w a 2 c [x0, x1]) (h' : Ints w a' 2 c' [y0, y1])
    (hp : 1 ≤ p) (hp2 : p ≤ 1000) (hk : 0 ≤ key) (hk2 : key ≤ 1000000000) (hi : 0 ≤ i) (hi2 : i ≤ 1000000) (r0 : 0 ≤ x0 ∧ x0 ≤ 1000) (r1 : 0 ≤ x1 ∧ x1 ≤ 1000) (q0 : 0 ≤ y0 ∧ y0 ≤ 1000) (q1 : 0 ≤ y1 ∧ y1 ≤ 1000) :
    Calls Tryz.prog 69 #[.int .i64 p, .int .i64 key, .int .i64 i, .slice a 2 c, .slice a' 2 c'] w fun e w' => ∃ a1 c1, e = .returned (.slice a1 2 c1) ∧ Own w' w.heap.size a1 2 c1 (timesL p key i x0 x1 y0 y1) ∧ Below w.heap.size w w' := by
  have HL : Hid (timesL p key i x0 x1 y0 y1 = [shareI p 0 (tnI p key i 2) (tnI p key i 3) (tnI p key i 4) (opD p key i x0 x1) (opE p key i y0 y1),
   shareI p 1 ((tnI p key i 0 - tnI p key i 2) % p) ((tnI p key i 1 - tnI p key i 3) % p) ((tnI p key i 0 * tnI p key i 1 - tnI p key i 4) % p) (opD p key i x0 x1) (opE p key i y0 y1)]) := rfl
  have HA : Hid (tpA p key i = [tnI p key i 2, tnI p key i 3, tnI p key i 4]) := rfl
  have HB : Hid (tpB p key i = [(tnI p key i 0 - tnI p key i 2) % p, (tnI p key i 1 - tnI p key i 3) % p, (tnI p key i 0 * tnI p key i 1 - tnI p key i 4) % p]) := rfl
  have HD : Hid (opD p key i x0 x1 = (x0 + x1 - (tnI p key i 2 + (tnI p key i 0 - tnI p key i 2) % p)) % p) := rfl
  have HE : Hid (opE p key i y0 y1 = (y0 + y1 - (tnI p key i 3 + (tnI p key i 1 - tnI p key i 3) % p)) % p) := rfl
  have s0 := tnI_range p key i 2 hp
  have s1 := tnI_range p key i 3 hp
  have s2 := tnI_range p key i 4 hp
  have b0 := mod_rng (tnI p key i 0 - tnI p key i 2) p hp
  have b1 := mod_rng (tnI p key i 1 - tnI p key i 3) p hp
  have b2 := mod_rng (tnI p key i 0 * tnI p key i 1 - tnI p key i 4) p hp
  generalize (tnI p key i 0 - tnI p key i 2) % p = v0 at *
  generalize (tnI p key i 1 - tnI p key i 3) % p = v1 at *
  generalize (tnI p key i 0 * tnI p key i 1 - tnI p key i 4) % p = v2 at *
  generalize tnI p key i 2 = n2 at *
  generalize tnI p key i 3 = n3 at *
  generalize tnI p key i 4 = n4 at *
  have d0 := mod_rng (x0 + x1 - (n2 + v0)) p hp
  have d1 := mod_rng (y0 + y1 - (n3 + v1)) p hp
  rw [HD.out, HE.out] at HL
  have R2 : 0 ≤ n2 ∧ n2 ≤ 1000 := by omega
  have R3 : 0 ≤ n3 ∧ n3 ≤ 1000 := by omega
  have R4 : 0 ≤ n4 ∧ n4 ≤ 1000 := by omega
  have V0 : 0 ≤ v0 ∧ v0 ≤ 1000 := by omega
  have V1 : 0 ≤ v1 ∧ v1 ≤ 1000 := by omega
  have V2 : 0 ≤ v2 ∧ v2 ≤ 1000 := by omega
  have RD : 0 ≤ (x0 + x1 - (n2 + v0)) % p ∧ (x0 + x1 - (n2 + v0)) % p ≤ 1000 := by omega
  have RE : 0 ≤ (y0 + y1 - (n3 + v1)) % p ∧ (y0 + y1 - (n3 + v1)) % p ≤ 1000 := by omega
  have t0 : IntKind.i64.wrap (x0 + x1) = x0 + x1 := IntWalk.i64_in _ (by omega)
  have t1 : IntKind.i64.wrap (y0 + y1) = y0 + y1 := IntWalk.i64_in _ (by omega)
  have t2 : IntKind.i64.wrap (x0 + x1 - (n2 + v0)) = x0 + x1 - (n2 + v0) := IntWalk.i64_in _ (by omega)
  have t3 : IntKind.i64.wrap (y0 + y1 - (n3 + v1)) = y0 + y1 - (n3 + v1) := IntWalk.i64_in _ (by omega)
  clear s0 s1 s2 b0 b1 b2 d0 d1 r0 r1 q0 q1
  go_enter Tryz.func69, Tryz.ntmps69
  go_wp2_with fail
  refine (tripleFor_any p key i _ hp hp2 hk hk2 hi hi2).mono ?_; rintro e w1 ⟨a1, c1, a2, c2, rfl, o1, o2, u1⟩
  rw [HA.out] at o1
  rw [HB.out] at o2
  go_wp2_with fail
  refine (sums_any _ _ _ _ _ _ _ _ _ _ _ o1 o2 R2 R3 R4 V0 V1 V2).mono ?_; rintro e w2 ⟨rfl, q⟩
  have u := below_of_quiet q
  have u2 := u1.trans (u.mono u1.size)
  have p1 := o1.below u
  have p2 := o2.below u
  clear q u o1 o2 u1
  obtain ⟨g, o, rfl, hc⟩ := (h.below u2).cells (by omega)
  have e0 : w2.cell? ⟨g, o, none⟩ = some (.int .i64 x0) := hc 0 (by omega)
  have e1 : w2.cell? ⟨g, o + 1, none⟩ = some (.int .i64 x1) := hc 1 (by omega)
  obtain ⟨g', o', rfl, hc'⟩ := (h'.below u2).cells (by omega)
  have f0 : w2.cell? ⟨g', o', none⟩ = some (.int .i64 y0) := hc' 0 (by omega)
  have f1 : w2.cell? ⟨g', o' + 1, none⟩ = some (.int .i64 y1) := hc' 1 (by omega)
  clear hc hc'
  go_wp2
  go_region_held3 (fun W => W.cell? ⟨g, o, none⟩ = some (.int .i64 x0) ∧ W.cell? ⟨g, o + 1, none⟩ = some (.int .i64 x1) ∧ W.cell? ⟨g', o', none⟩ = some (.int .i64 y0) ∧ W.cell? ⟨g', o' + 1, none⟩ = some (.int .i64 y1))
    (go_keep)
    (first | (go_at_call 41; refine (mod_same _ _ _ hp (by omega)).mono ?_; rintro e w' ⟨rfl, rfl⟩))
  all_goals have v3 := u2.drew
  all_goals generalize hw3 : w2.drew = w3 at *
  all_goals have p3 : Ints w3 a1 3 c1 _ := hw3 ▸ p1.drew
  all_goals have p4 : Ints w3 a2 3 c2 _ := hw3 ▸ p2.drew
  all_goals clear hw3 p1 p2 e0 e1 f0 f1 u2
  all_goals go_wp2_with fail
  refine (productShare_any p 0 _ _ _ _ _ _ _ _ p3 hp hp2 R2 R3 R4 RD RE).mono ?_; rintro e w4 ⟨rfl, q⟩
  have u := below_of_quiet q
  have v4 := v3.trans (u.mono v3.size)
  have p5 := p4.below u
  clear q u p3 p4 v3
  go_wp2_with fail
  refine (productShare_any p 1 _ _ _ _ _ _ _ _ p5 hp hp2 V0 V1 V2 RD RE).mono ?_; rintro e w5 ⟨rfl, q⟩
  have u := below_of_quiet q
  have v5 := v4.trans (u.mono v4.size)
  clear q u p5 v4
  go_wp2
  go_ret
  exact ⟨_, _, rfl, by rw [HL.out]; exact Own.lit2 _ _ _ _ v5.size, v5.alloc v5.size _⟩
end Go.Proofs.YtchmakepglaijaaGreat
namespace Go.Proofs.YtchmakepglaijaaGreat
open Go.RowKit
set_option maxHeartbeats 4000000 in
set_option maxRecDepth 100000 in
theorem trTimes_any (p key i : Int) (a : Option Addr) (c : Nat) (x0 x1 : Int) (a' : Option Addr) (c' : Nat) (y0 y1 : Int) (w : World) (h : Ints w a 2 c [x0, x1]) (h' : Ints w a' 2 c' [y0, y1])
    (hp : 1 ≤ p) (hp2 : p ≤ 1000) (hk : 0 ≤ key) (hk2 : key ≤ 1000000000) (hi : 0 ≤ i) (hi2 : i ≤ 1000000) (r0 : 0 ≤ x0 ∧ x0 ≤ 1000) (r1 : 0 ≤ x1 ∧ x1 ≤ 1000) (q0 : 0 ≤ y0 ∧ y0 ≤ 1000) (q1 : 0 ≤ y1 ∧ y1 ≤ 1000) :
    Calls Tryz.prog 72 #[.int .i64 p, .int .i64 key, .int .i64 i, .slice a 2 c, .slice a' 2 c'] w fun e w' => ∃ a1 c1, e = .returned (.slice a1 2 c1) ∧ Own w' w.heap.size a1 2 c1 (timesL p key i x0 x1 y0 y1) ∧ Below w.heap.size w w' := by
  have HL : Hid (timesL p key i x0 x1 y0 y1 = [shareI p 0 (tnI p key i 2) (tnI p key i 3) (tnI p key i 4) (opD p key i x0 x1) (opE p key i y0 y1),
   shareI p 1 ((tnI p key i 0 - tnI p key i 2) % p) ((tnI p key i 1 - tnI p key i 3) % p) ((tnI p key i 0 * tnI p key i 1 - tnI p key i 4) % p) (opD p key i x0 x1) (opE p key i y0 y1)]) := rfl
  have HA : Hid (tpA p key i = [tnI p key i 2, tnI p key i 3, tnI p key i 4]) := rfl
  have HB : Hid (tpB p key i = [(tnI p key i 0 - tnI p key i 2) % p, (tnI p key i 1 - tnI p key i 3) % p, (tnI p key i 0 * tnI p key i 1 - tnI p key i 4) % p]) := rfl
  have HD : Hid (opD p key i x0 x1 = (x0 + x1 - (tnI p key i 2 + (tnI p key i 0 - tnI p key i 2) % p)) % p) := rfl
  have HE : Hid (opE p key i y0 y1 = (y0 + y1 - (tnI p key i 3 + (tnI p key i 1 - tnI p key i 3) % p)) % p) := rfl
  have s0 := tnI_range p key i 2 hp
  have s1 := tnI_range p key i 3 hp
  have s2 := tnI_range p key i 4 hp
  have b0 := mod_rng (tnI p key i 0 - tnI p key i 2) p hp
  have b1 := mod_rng (tnI p key i 1 - tnI p key i 3) p hp
  have b2 := mod_rng (tnI p key i 0 * tnI p key i 1 - tnI p key i 4) p hp
  generalize (tnI p key i 0 - tnI p key i 2) % p = v0 at *
  generalize (tnI p key i 1 - tnI p key i 3) % p = v1 at *
  generalize (tnI p key i 0 * tnI p key i 1 - tnI p key i 4) % p = v2 at *
  generalize tnI p key i 2 = n2 at *
  generalize tnI p key i 3 = n3 at *
  generalize tnI p key i 4 = n4 at *
  have d0 := mod_rng (x0 + x1 - (n2 + v0)) p hp
  have d1 := mod_rng (y0 + y1 - (n3 + v1)) p hp
  rw [← HD.out] at d0
  rw [← HE.out] at d1
  have HS : Hid (sumK p [(x0 - n2) % p, (y0 - n3) % p] [(x1 - v0) % p, (y1 - v1) % p] 2 = [opD p key i x0 x1, opE p key i y0 y1]) := Lib.hid (by rw [HD.out, HE.out, ← open_eq, ← open_eq]; rfl)
  generalize opD p key i x0 x1 = D at *
  generalize opE p key i y0 y1 = E at *
  have R2 : 0 ≤ n2 ∧ n2 ≤ 1000 := by omega
  have R3 : 0 ≤ n3 ∧ n3 ≤ 1000 := by omega
  have R4 : 0 ≤ n4 ∧ n4 ≤ 1000 := by omega
  have V0 : 0 ≤ v0 ∧ v0 ≤ 1000 := by omega
  have V1 : 0 ≤ v1 ∧ v1 ≤ 1000 := by omega
  have V2 : 0 ≤ v2 ∧ v2 ≤ 1000 := by omega
  have RD : 0 ≤ D ∧ D ≤ 1000 := by omega
  have RE : 0 ≤ E ∧ E ≤ 1000 := by omega
  have HT1 : Hid (∀ y ∈ [(x0 - n2) % p, (y0 - n3) % p], 0 ≤ y ∧ y ≤ 1000000) := Lib.hid (by
    have := mod_rng (x0 - n2) p hp; have := mod_rng (y0 - n3) p hp
    intro y hy; simp only [List.mem_cons, List.not_mem_nil, or_false] at hy; rcases hy with rfl | rfl <;> omega)
  have HT2 : Hid (∀ y ∈ [(x1 - v0) % p, (y1 - v1) % p], 0 ≤ y ∧ y ≤ 1000000) := Lib.hid (by
    have := mod_rng (x1 - v0) p hp; have := mod_rng (y1 - v1) p hp
    intro y hy; simp only [List.mem_cons, List.not_mem_nil, or_false] at hy; rcases hy with rfl | rfl <;> omega)
  clear s0 s1 s2 b0 b1 b2 d0 d1
  go_enter Tryz.func72, Tryz.ntmps72
  go_wp2_with fail
  refine (trFor_any p key i _ hp hp2 hk hk2 hi hi2).mono ?_; rintro e w1 ⟨a1, c1, a2, c2, rfl, o1, o2, u1⟩
  rw [HA.out] at o1
  rw [HB.out] at o2
  obtain ⟨g, o, rfl, hc⟩ := (h.below u1).cells (by omega)
  have e0 : w1.cell? ⟨g, o, none⟩ = some (.int .i64 x0) := hc 0 (by omega)
  have e1 : w1.cell? ⟨g, o + 1, none⟩ = some (.int .i64 x1) := hc 1 (by omega)
  obtain ⟨g', o', rfl, hc'⟩ := (h'.below u1).cells (by omega)
  have f0 : w1.cell? ⟨g', o', none⟩ = some (.int .i64 y0) := hc' 0 (by omega)
  have f1 : w1.cell? ⟨g', o' + 1, none⟩ = some (.int .i64 y1) := hc' 1 (by omega)
  clear hc hc'
  go_wp2
  go_region_held3 (fun W => W.cell? ⟨g, o, none⟩ = some (.int .i64 x0) ∧ W.cell? ⟨g, o + 1, none⟩ = some (.int .i64 x1) ∧ W.cell? ⟨g', o', none⟩ = some (.int .i64 y0) ∧ W.cell? ⟨g', o' + 1, none⟩ = some (.int .i64 y1))
    (first | go_keep | (exact ⟨keepC um3 (keepC um2 (keepC um1 e0)), keepC um3 (keepC um2 (keepC um1 e1)), keepC um3 (keepC um2 (keepC um1 f0)), keepC um3 (keepC um2 (keepC um1 f1))⟩) | (exact ⟨keepC um2 (keepC um1 e0), keepC um2 (keepC um1 e1), keepC um2 (keepC um1 f0), keepC um2 (keepC um1 f1)⟩) | (exact ⟨keepC um1 e0, keepC um1 e1, keepC um1 f0, keepC um1 f1⟩))
    (first | (go_at_call 118; have _ := um1; refine (trMask_any p a2 c2 v0 v1 v2 x1 y1 _ (o2.drew.below um1) hp hp2 V0 V1 r1 q1).mono ?_; rintro e wb ⟨b2, d2, rfl, m2, um2⟩) | (go_at_call 118; refine (trMask_any p a1 c1 n2 n3 n4 x0 y0 _ o1.drew hp hp2 R2 R3 r0 q0).mono ?_; rintro e wa ⟨b1, d1, rfl, m1, um1⟩) | (go_at_call 71; refine (trSum_any p b1 2 d1 _ b2 2 d2 _ _ (m1.below um2).ints m2.ints hp (by omega) (by omega) (by omega) HT1.out HT2.out).mono ?_; rintro e wc ⟨b3, d3, rfl, m3, um3⟩))
  rw [HS.out] at m3
  have v3 : Below w.heap.size w wc := ((u1.drew.trans (um1.mono u1.size)).trans (um2.mono (by have := u1.size; have := um1.size; simp at *; omega))).trans (um3.mono (by have := u1.size; have := um1.size; have := um2.size; simp at *; omega))
  have o3 := ((o1.drew.below um1).below um2).below um3
  have o4 := ((o2.drew.below um1).below um2).below um3
  obtain ⟨g3, q3, rfl, hc3⟩ := m3.ints.cells (by omega)
  have k0 : wc.cell? ⟨g3, q3, none⟩ = some (.int .i64 D) := hc3 0 (by omega)
  have k1 : wc.cell? ⟨g3, q3 + 1, none⟩ = some (.int .i64 E) := hc3 1 (by omega)
  clear hc3 m3 m2 m1 um1 um2 um3 u1 o1 o2 e0 e1 f0 f1
  go_wp2
  go_region_held3 (fun W => W.cell? ⟨g3, q3, none⟩ = some (.int .i64 D) ∧ W.cell? ⟨g3, q3 + 1, none⟩ = some (.int .i64 E))
    (first | go_keep | (exact ⟨keepC uq2 (keepC uq1 k0), keepC uq2 (keepC uq1 k1)⟩) | (exact ⟨keepC uq1 k0, keepC uq1 k1⟩))
    (first | (go_at_call 119; have _ := uq1; refine (trShare_any p 1 a2 c2 v0 v1 v2 D E _ (o4.drew.below uq1) hp hp2 V0 V1 V2 RD RE).mono ?_; rintro e w' ⟨rfl, uq2⟩; replace uq2 := below_of_quiet uq2) | (go_at_call 119; refine (trShare_any p 0 a1 c1 n2 n3 n4 D E _ o3.drew hp hp2 R2 R3 R4 RD RE).mono ?_; rintro e wq ⟨rfl, uq1⟩; replace uq1 := below_of_quiet uq1))
  have v5 : Below w.heap.size w w' := (v3.drew.trans (uq1.mono v3.size)).trans (uq2.mono (Nat.le_trans v3.size uq1.size))
  go_wp2
  go_ret
  exact ⟨_, _, rfl, by rw [HL.out]; exact (Own.lit2 _ _ _ _ v5.size), v5.alloc v5.size _⟩
end Go.Proofs.YtchmakepglaijaaGreat
namespace Go.Proofs.YtchmakepglaijaaGreat
open Go.RowKit
def csB (p key : Int) (b x y : List Int) : Bool := pairB p x && pairB p y && inB key 0 1000000000 && bpairB b
def csT (p key b0 b1 x0 x1 y0 y1 : Int) : List Int := timesL p key 0 (sh0 p key 0 (xorI b0 b1)) (sh1 p key 0 (xorI b0 b1)) ((x0 - y0) % p) ((x1 - y1) % p)
def csR (p key b0 b1 x0 x1 y0 y1 : Int) : List Int := [(y0 + (csT p key b0 b1 x0 x1 y0 y1).getD 0 0) % p, (y1 + (csT p key b0 b1 x0 x1 y0 y1).getD 1 0) % p]
def csL (p key : Int) (b x y : List Int) : List Int := if csB p key b x y then csR p key (b.getD 0 0) (b.getD 1 0) (x.getD 0 0) (x.getD 1 0) (y.getD 0 0) (y.getD 1 0) else []
theorem shareI_rng (p party s0 s1 s2 d e : Int) (h : 1 ≤ p) : 0 ≤ shareI p party s0 s1 s2 d e ∧ shareI p party s0 s1 s2 d e ≤ p - 1 := mod_rng _ _ h
theorem timesL_two (p key i x0 x1 y0 y1 : Int) (h : 1 ≤ p) : ∃ T0 T1, timesL p key i x0 x1 y0 y1 = [T0, T1] ∧ (0 ≤ T0 ∧ T0 ≤ p - 1) ∧ (0 ≤ T1 ∧ T1 ≤ p - 1) :=
  ⟨_, _, rfl, shareI_rng _ _ _ _ _ _ _ h, shareI_rng _ _ _ _ _ _ _ h⟩
set_option maxHeartbeats 4000000 in
set_option maxRecDepth 100000 in
theorem ChooseShared_any (p key : Int) (a0 : Option Addr) (n0 c0 : Nat) (b : List Int) (a1 : Option Addr) (n1 c1 : Nat) (x : List Int) (a2 : Option Addr) (n2 c2 : Nat) (y : List Int) (w : World) (hb : Ints w a0 n0 c0 b) (hx : Ints w a1 n1 c1 x) (hy : Ints w a2 n2 c2 y) :
    Calls Tryz.prog 20 #[.int .i64 p, .int .i64 key, .slice a0 n0 c0, .slice a1 n1 c1, .slice a2 n2 c2] w fun e w' => ∃ a n c, e = .returned (.tuple #[.slice a n c, .bool (csB p key b x y)]) ∧ Own w' w.heap.size a n c (csL p key b x y) ∧ Below w.heap.size w w' := by
  unfold csL csB
  cases h1 : pairB p x
  · simp only [Bool.false_and, Bool.false_eq_true, if_false]
    go_enter Tryz.func20, Tryz.ntmps20
    go_wp2_with fail
    refine (isPair_any _ _ _ _ x _ hx).mono ?_; rintro e w2 ⟨rfl, u2⟩
    rw [h1]
    go_wp2
    go_ret2
    exact ⟨_, _, _, rfl, Own.nil0 _ _ _, u2⟩
  cases h2 : pairB p y
  · simp only [Bool.false_and, Bool.and_false, Bool.false_eq_true, if_false]
    go_enter Tryz.func20, Tryz.ntmps20
    go_wp2_with fail
    refine (isPair_any _ _ _ _ x _ hx).mono ?_; rintro e w2 ⟨rfl, u2⟩
    rw [h1]
    go_wp2_with fail
    refine (isPair_any _ _ _ _ y _ (hy.below u2)).mono ?_; rintro e w3 ⟨rfl, u3⟩
    rw [h2]
    have v3 := u2.trans (u3.mono u2.size)
    go_wp2
    go_ret2
    exact ⟨_, _, _, rfl, Own.nil0 _ _ _, v3⟩
  cases h3 : inB key 0 1000000000
  · simp only [Bool.false_and, Bool.and_false, Bool.false_eq_true, if_false]
    go_enter Tryz.func20, Tryz.ntmps20
    go_wp2_with fail
    refine (isPair_any _ _ _ _ x _ hx).mono ?_; rintro e w2 ⟨rfl, u2⟩
    rw [h1]
    go_wp2_with fail
    refine (isPair_any _ _ _ _ y _ (hy.below u2)).mono ?_; rintro e w3 ⟨rfl, u3⟩
    rw [h2]
    have v3 := u2.trans (u3.mono u2.size)
    go_wp2_with (first | (go_at_call 37; refine (isKey_any _ _).mono ?_; rintro e w' ⟨rfl, rfl⟩))
    go_ret2
    exact ⟨_, _, _, rfl, Own.nil0 _ _ _, v3⟩
  cases h4 : bpairB b
  · simp only [Bool.and_false, Bool.false_eq_true, if_false]
    go_enter Tryz.func20, Tryz.ntmps20
    go_wp2_with fail
    refine (isPair_any _ _ _ _ x _ hx).mono ?_; rintro e w2 ⟨rfl, u2⟩
    rw [h1]
    go_wp2_with fail
    refine (isPair_any _ _ _ _ y _ (hy.below u2)).mono ?_; rintro e w3 ⟨rfl, u3⟩
    rw [h2]
    have v3 := u2.trans (u3.mono u2.size)
    go_wp2_with (first | (go_at_call 37; refine (isKey_any _ _).mono ?_; rintro e w' ⟨rfl, rfl⟩))
    refine (isBitPair_any _ _ _ b _ (hb.below v3)).mono ?_; rintro e w4 ⟨rfl, u⟩
    rw [h4]
    have v4 := v3.trans (u.mono v3.size)
    go_wp2
    go_ret2
    exact ⟨_, _, _, rfl, Own.nil0 _ _ _, v4⟩
  · simp only [Bool.and_self, if_true]
    obtain ⟨x0, x1, rfl, ⟨r0, r0'⟩, ⟨r1, r1'⟩, hp⟩ := pairB_true h1
    obtain ⟨y0, y1, rfl, ⟨s0, s0'⟩, ⟨s1, s1'⟩, _⟩ := pairB_true h2
    obtain ⟨b0, b1, rfl, hb0, hb1⟩ := bpairB_true h4
    obtain ⟨p1, p2⟩ := isPr_range hp
    obtain ⟨k1, k2⟩ := inB_true h3
    have hxb := xorI_bit hb0 hb1
    have x0' : bits BinOp.xor IntKind.i64 b0 b1 = xorI b0 b1 := rfl
    simp only [List.getD_cons_zero, List.getD_cons_succ]
    unfold csR csT
    obtain rfl : n0 = 2 := hb.len
    obtain rfl : n1 = 2 := hx.len
    obtain rfl : n2 = 2 := hy.len
    have HSL := Lib.hid (tsL_sh p key 0 (xorI b0 b1))
    have g0 := sh0_range p key 0 (xorI b0 b1) (by omega)
    have g1 := sh1_range p key 0 (xorI b0 b1) (by omega)
    generalize xorI b0 b1 = m at *
    generalize sh0 p key 0 m = S0 at *
    generalize sh1 p key 0 m = S1 at *
    have d0 := mod_rng (x0 - y0) p (by omega)
    have d1 := mod_rng (x1 - y1) p (by omega)
    have t1 : IntKind.i64.wrap (x0 - y0) = x0 - y0 := IntWalk.i64_in _ (by omega)
    have t2 : IntKind.i64.wrap (x1 - y1) = x1 - y1 := IntWalk.i64_in _ (by omega)
    generalize hD0 : (x0 - y0) % p = D0 at *
    generalize hD1 : (x1 - y1) % p = D1 at *
    obtain ⟨T0, T1, hT, ⟨G0, G0'⟩, ⟨G1, G1'⟩⟩ := timesL_two p key 0 S0 S1 D0 D1 (by omega)
    have HM := fun W (a : Option Addr) (c : Nat) (a' : Option Addr) (c' : Nat) hW hW' => multiplyPairs_any p key 0 a c S0 S1 a' c' D0 D1 W hW hW' (by omega) (by omega) k1 k2 (by omega) (by omega) (by omega) (by omega) (by omega) (by omega)
    rw [hT] at HM ⊢
    simp only [List.getD_cons_zero, List.getD_cons_succ]
    have t3 : IntKind.i64.wrap (y0 + T0) = y0 + T0 := IntWalk.i64_in _ (by omega)
    have t4 : IntKind.i64.wrap (y1 + T1) = y1 + T1 := IntWalk.i64_in _ (by omega)
    have HM' := Lib.hid HM
    have HD0 := Lib.hid hD0
    have HD1 := Lib.hid hD1
    clear HM hT hD0 hD1 g0 g1 d0 d1 hb0 hb1
    go_enter Tryz.func20, Tryz.ntmps20
    go_wp2_with fail
    refine (isPair_any _ _ _ _ [x0, x1] _ hx).mono ?_; rintro e w2 ⟨rfl, u2⟩
    rw [h1]
    go_wp2_with fail
    refine (isPair_any _ _ _ _ [y0, y1] _ (hy.below u2)).mono ?_; rintro e w3 ⟨rfl, u3⟩
    rw [h2]
    have v3 := u2.trans (u3.mono u2.size)
    clear u2 u3
    go_wp2_with (first | (go_at_call 37; refine (isKey_any _ _).mono ?_; rintro e w' ⟨rfl, rfl⟩))
    refine (isBitPair_any _ _ _ [b0, b1] _ (hb.below v3)).mono ?_; rintro e w4 ⟨rfl, u⟩
    rw [h4]
    have v4 := v3.trans (u.mono v3.size)
    clear u v3
    obtain ⟨gb, ob, rfl, hcb⟩ := (hb.below v4).cells (by omega)
    have eb0 : w4.cell? ⟨gb, ob, none⟩ = some (.int .i64 b0) := hcb 0 (by omega)
    have eb1 : w4.cell? ⟨gb, ob + 1, none⟩ = some (.int .i64 b1) := hcb 1 (by omega)
    clear hcb
    go_wp2
    go_region_held3 (fun W => W.cell? ⟨gb, ob, none⟩ = some (.int .i64 b0) ∧ W.cell? ⟨gb, ob + 1, none⟩ = some (.int .i64 b1))
      (first | go_keep | exact ⟨keepC u5 eb0, keepC u5 eb1⟩)
      (first | (go_at_call 40; refine (bitToSum_any _ _ _ _ _ (by omega) (by omega) k1 k2 (by omega) (by omega) hxb).mono ?_; rintro e w5 ⟨a5, c5, rfl, o5, u5⟩))
    rw [HSL.out] at o5
    have v5 := v4.drew.trans (u5.mono (by have := v4.size; simpa using this))
    clear u5 v4 eb0 eb1
    obtain ⟨gx, ox, rfl, hcx⟩ := (hx.below v5).cells (by omega)
    have ex0 : w5.cell? ⟨gx, ox, none⟩ = some (.int .i64 x0) := hcx 0 (by omega)
    have ex1 : w5.cell? ⟨gx, ox + 1, none⟩ = some (.int .i64 x1) := hcx 1 (by omega)
    obtain ⟨gy, oy, rfl, hcy⟩ := (hy.below v5).cells (by omega)
    have ey0 : w5.cell? ⟨gy, oy, none⟩ = some (.int .i64 y0) := hcy 0 (by omega)
    have ey1 : w5.cell? ⟨gy, oy + 1, none⟩ = some (.int .i64 y1) := hcy 1 (by omega)
    clear hcx hcy
    go_wp2
    have hlit := Ints.lit2 w5 D0 D1 3
    go_region_held3 (fun W => W.cell? ⟨gx, ox, none⟩ = some (.int .i64 x0) ∧ W.cell? ⟨gx, ox + 1, none⟩ = some (.int .i64 x1) ∧ W.cell? ⟨gy, oy, none⟩ = some (.int .i64 y0) ∧ W.cell? ⟨gy, oy + 1, none⟩ = some (.int .i64 y1))
      (first | go_keep | exact ⟨keepC u6 (keepA _ ex0), keepC u6 (keepA _ ex1), keepC u6 (keepA _ ey0), keepC u6 (keepA _ ey1)⟩)
      (first | (go_at_call 41; refine (mod_same _ _ _ (by omega) (by omega)).mono ?_; rintro e w' ⟨rfl, rfl⟩; (first | rw [HD0.out] | rw [HD1.out])) | (go_at_call 69; refine (HM'.out _ _ _ _ _ (o5.ints.alloc _).drew hlit.drew).mono ?_; rintro e w6 ⟨a6, c6, rfl, o6, u6⟩))
    have v6 := (v5.alloc v5.size (.cells #[.int .i64 D0, .int .i64 D1] 3)).drew.trans (u6.mono (by have := v5.size; simp; omega))
    obtain ⟨gt, ot, rfl, hct⟩ := o6.ints.cells (by omega)
    have et0 : w6.cell? ⟨gt, ot, none⟩ = some (.int .i64 T0) := hct 0 (by omega)
    have et1 : w6.cell? ⟨gt, ot + 1, none⟩ = some (.int .i64 T1) := hct 1 (by omega)
    have fy0 := keepC u6 (keepA (.cells #[.int .i64 D0, .int .i64 D1] 3) ey0 : (w5.alloc _).drew.cell? _ = _)
    have fy1 := keepC u6 (keepA (.cells #[.int .i64 D0, .int .i64 D1] 3) ey1 : (w5.alloc _).drew.cell? _ = _)
    clear hct u6 o6 o5 ex0 ex1 ey0 ey1 hlit v5
    go_wp2
    go_region_held3 (fun W => W.cell? ⟨gt, ot, none⟩ = some (.int .i64 T0) ∧ W.cell? ⟨gt, ot + 1, none⟩ = some (.int .i64 T1) ∧ W.cell? ⟨gy, oy, none⟩ = some (.int .i64 y0) ∧ W.cell? ⟨gy, oy + 1, none⟩ = some (.int .i64 y1))
      (go_keep)
      (first | (go_at_call 41; refine (mod_same _ _ _ (by omega) (by omega)).mono ?_; rintro e w' ⟨rfl, rfl⟩))
    all_goals go_wp2
    all_goals go_ret2
    all_goals exact ⟨_, _, _, rfl, (Own.lit2 _ _ _ _ v6.size).drew, (v6.alloc v6.size _).drew⟩
set_option maxHeartbeats 4000000 in
set_option maxRecDepth 100000 in
theorem spec_ChooseShared_any (p key : Int) (a0 : Option Addr) (n0 c0 : Nat) (b : List Int) (a1 : Option Addr) (n1 c1 : Nat) (x : List Int) (a2 : Option Addr) (n2 c2 : Nat) (y : List Int) (w : World) (hb : Ints w a0 n0 c0 b) (hx : Ints w a1 n1 c1 x) (hy : Ints w a2 n2 c2 y) :
    Calls Tryz.prog 21 #[.int .i64 p, .int .i64 key, .slice a0 n0 c0, .slice a1 n1 c1, .slice a2 n2 c2] w fun e w' => ∃ a n c, e = .returned (.tuple #[.slice a n c, .bool (csB p key b x y)]) ∧ Own w' w.heap.size a n c (csL p key b x y) ∧ Below w.heap.size w w' := by
  unfold csL csB
  cases h1 : pairB p x
  · simp only [Bool.false_and, Bool.false_eq_true, if_false]
    go_enter Tryz.func21, Tryz.ntmps21
    go_wp2_with fail
    refine (trPair_any _ _ _ _ x _ hx).mono ?_; rintro e w2 ⟨rfl, u2⟩
    rw [h1]
    go_wp2
    go_ret2
    exact ⟨_, _, _, rfl, Own.nil0 _ _ _, u2⟩
  cases h2 : pairB p y
  · simp only [Bool.false_and, Bool.and_false, Bool.false_eq_true, if_false]
    go_enter Tryz.func21, Tryz.ntmps21
    go_wp2_with fail
    refine (trPair_any _ _ _ _ x _ hx).mono ?_; rintro e w2 ⟨rfl, u2⟩
    rw [h1]
    go_wp2_with fail
    refine (trPair_any _ _ _ _ y _ (hy.below u2)).mono ?_; rintro e w3 ⟨rfl, u3⟩
    rw [h2]
    have v3 := u2.trans (u3.mono u2.size)
    go_wp2
    go_ret2
    exact ⟨_, _, _, rfl, Own.nil0 _ _ _, v3⟩
  cases h3 : inB key 0 1000000000
  · simp only [Bool.false_and, Bool.and_false, Bool.false_eq_true, if_false]
    go_enter Tryz.func21, Tryz.ntmps21
    go_wp2_with fail
    refine (trPair_any _ _ _ _ x _ hx).mono ?_; rintro e w2 ⟨rfl, u2⟩
    rw [h1]
    go_wp2_with fail
    refine (trPair_any _ _ _ _ y _ (hy.below u2)).mono ?_; rintro e w3 ⟨rfl, u3⟩
    rw [h2]
    have v3 := u2.trans (u3.mono u2.size)
    go_wp2_with (first | (go_at_call 43; refine (otKey_any _ _).mono ?_; rintro e w' ⟨rfl, rfl⟩))
    go_ret2
    exact ⟨_, _, _, rfl, Own.nil0 _ _ _, v3⟩
  cases h4 : bpairB b
  · simp only [Bool.and_false, Bool.false_eq_true, if_false]
    go_enter Tryz.func21, Tryz.ntmps21
    go_wp2_with fail
    refine (trPair_any _ _ _ _ x _ hx).mono ?_; rintro e w2 ⟨rfl, u2⟩
    rw [h1]
    go_wp2_with fail
    refine (trPair_any _ _ _ _ y _ (hy.below u2)).mono ?_; rintro e w3 ⟨rfl, u3⟩
    rw [h2]
    have v3 := u2.trans (u3.mono u2.size)
    go_wp2_with (first | (go_at_call 43; refine (otKey_any _ _).mono ?_; rintro e w' ⟨rfl, rfl⟩))
    refine (cvBit_any _ _ _ b _ (hb.below v3)).mono ?_; rintro e w4 ⟨rfl, u⟩
    rw [h4]
    have v4 := v3.trans (u.mono v3.size)
    go_wp2
    go_ret2
    exact ⟨_, _, _, rfl, Own.nil0 _ _ _, v4⟩
  · simp only [Bool.and_self, if_true]
    obtain ⟨x0, x1, rfl, ⟨r0, r0'⟩, ⟨r1, r1'⟩, hp⟩ := pairB_true h1
    obtain ⟨y0, y1, rfl, ⟨s0, s0'⟩, ⟨s1, s1'⟩, _⟩ := pairB_true h2
    obtain ⟨b0, b1, rfl, hb0, hb1⟩ := bpairB_true h4
    obtain ⟨p1, p2⟩ := isPr_range hp
    obtain ⟨k1, k2⟩ := inB_true h3
    have hxb := xorI_bit hb0 hb1
    simp only [List.getD_cons_zero, List.getD_cons_succ]
    unfold csR csT
    obtain rfl : n0 = 2 := hb.len
    obtain rfl : n1 = 2 := hx.len
    obtain rfl : n2 = 2 := hy.len
    have HSL := Lib.hid (tsL_sh p key 0 (xorI b0 b1))
    have HCT := fun W hW => cvToSum_any p key 0 a0 c0 b0 b1 W (by omega) (by omega) k1 k2 (by omega) (by omega) hW hxb
    have HCT' := Lib.hid HCT
    have g0 := sh0_range p key 0 (xorI b0 b1) (by omega)
    have g1 := sh1_range p key 0 (xorI b0 b1) (by omega)
    generalize hS0 : sh0 p key 0 (xorI b0 b1) = S0 at *
    generalize hS1 : sh1 p key 0 (xorI b0 b1) = S1 at *
    have d0 := mod_rng (x0 - y0) p (by omega)
    have d1 := mod_rng (x1 - y1) p (by omega)
    have t1 : IntKind.i64.wrap (x0 - y0) = x0 - y0 := IntWalk.i64_in _ (by omega)
    have t2 : IntKind.i64.wrap (x1 - y1) = x1 - y1 := IntWalk.i64_in _ (by omega)
    generalize hD0 : (x0 - y0) % p = D0 at *
    generalize hD1 : (x1 - y1) % p = D1 at *
    obtain ⟨T0, T1, hT, ⟨G0, G0'⟩, ⟨G1, G1'⟩⟩ := timesL_two p key 0 S0 S1 D0 D1 (by omega)
    have HM := fun W (a : Option Addr) (c : Nat) (a' : Option Addr) (c' : Nat) hW hW' => trTimes_any p key 0 a c S0 S1 a' c' D0 D1 W hW hW' (by omega) (by omega) k1 k2 (by omega) (by omega) (by omega) (by omega) (by omega) (by omega)
    rw [hT] at HM ⊢
    simp only [List.getD_cons_zero, List.getD_cons_succ]
    have HM' := Lib.hid HM
    have HD0 := Lib.hid hD0
    have HD1 := Lib.hid hD1
    have HR1 : Hid (∀ z ∈ [y0, y1], 0 ≤ z ∧ z ≤ 1000000) := Lib.hid (by intro z hz; simp only [List.mem_cons, List.not_mem_nil, or_false] at hz; rcases hz with rfl | rfl <;> omega)
    have HR2 : Hid (∀ z ∈ [T0, T1], 0 ≤ z ∧ z ≤ 1000000) := Lib.hid (by intro z hz; simp only [List.mem_cons, List.not_mem_nil, or_false] at hz; rcases hz with rfl | rfl <;> omega)
    have HSU : Hid (sumK p [y0, y1] [T0, T1] 2 = [(y0 + T0) % p, (y1 + T1) % p]) := rfl
    clear HM hT hD0 hD1 g0 g1 d0 d1 hb0 hb1 HCT hS0 hS1
    go_enter Tryz.func21, Tryz.ntmps21
    go_wp2_with fail
    refine (trPair_any _ _ _ _ [x0, x1] _ hx).mono ?_; rintro e w2 ⟨rfl, u2⟩
    rw [h1]
    go_wp2_with fail
    refine (trPair_any _ _ _ _ [y0, y1] _ (hy.below u2)).mono ?_; rintro e w3 ⟨rfl, u3⟩
    rw [h2]
    have v3 := u2.trans (u3.mono u2.size)
    clear u2 u3
    go_wp2_with (first | (go_at_call 43; refine (otKey_any _ _).mono ?_; rintro e w' ⟨rfl, rfl⟩))
    refine (cvBit_any _ _ _ [b0, b1] _ (hb.below v3)).mono ?_; rintro e w4 ⟨rfl, u⟩
    rw [h4]
    have v4 := v3.trans (u.mono v3.size)
    clear u v3
    go_wp2_with fail
    refine (HCT'.out _ (hb.below v4)).mono ?_; rintro e w5 ⟨a5, c5, rfl, o5, u5⟩
    rw [HSL.out] at o5
    have v5 := v4.trans (u5.mono v4.size)
    clear u5 v4
    obtain ⟨gx, ox, rfl, hcx⟩ := (hx.below v5).cells (by omega)
    have ex0 : w5.cell? ⟨gx, ox, none⟩ = some (.int .i64 x0) := hcx 0 (by omega)
    have ex1 : w5.cell? ⟨gx, ox + 1, none⟩ = some (.int .i64 x1) := hcx 1 (by omega)
    obtain ⟨gy, oy, rfl, hcy⟩ := (hy.below v5).cells (by omega)
    have ey0 : w5.cell? ⟨gy, oy, none⟩ = some (.int .i64 y0) := hcy 0 (by omega)
    have ey1 : w5.cell? ⟨gy, oy + 1, none⟩ = some (.int .i64 y1) := hcy 1 (by omega)
    clear hcx hcy
    go_wp2
    go_region_held3 (fun W => W.cell? ⟨gx, ox, none⟩ = some (.int .i64 x0) ∧ W.cell? ⟨gx, ox + 1, none⟩ = some (.int .i64 x1) ∧ W.cell? ⟨gy, oy, none⟩ = some (.int .i64 y0) ∧ W.cell? ⟨gy, oy + 1, none⟩ = some (.int .i64 y1))
      (first | go_keep)
      (first | (go_at_call 70; refine (btMod_same _ _ _ (by omega) (by omega)).mono ?_; rintro e w' ⟨rfl, rfl⟩; (first | rw [HD0.out] | rw [HD1.out])))
    all_goals have hlit := Ints.lit2 w5 D0 D1 3
    all_goals have v6 := (v5.alloc v5.size (.cells #[.int .i64 D0, .int .i64 D1] 3)).drew
    all_goals have hS := (o5.ints.alloc (.cells #[.int .i64 D0, .int .i64 D1] 3)).drew
    all_goals clear ex0 ex1 ey0 ey1 v5
    all_goals go_wp2_with fail
    refine (HM'.out _ _ _ _ _ hS hlit.drew).mono ?_; rintro e w6 ⟨a6, c6, rfl, o6, u6⟩
    have v7 := v6.trans (u6.mono v6.size)
    go_wp2_with fail
    refine (trSum_any p _ 2 c2 [y0, y1] a6 2 c6 [T0, T1] _ (hy.below v7) o6.ints (by omega) (by omega) (by omega) (by omega) HR1.out HR2.out).mono ?_; rintro e w8 ⟨a8, c8, rfl, o8, u8⟩
    rw [HSU.out] at o8
    go_wp2
    go_ret2
    exact ⟨_, _, _, rfl, o8.lower v7.size, v7.trans (u8.mono v7.size)⟩
end Go.Proofs.YtchmakepglaijaaGreat
namespace Go.Proofs.YtchmakepglaijaaGreat
open Go.RowKit
theorem times_cg (p key i x0 x1 y0 y1 : Int) : ∃ T0 T1, timesL p key i x0 x1 y0 y1 = [T0, T1] ∧ Cg p (T0 + T1) ((x0 + x1) * (y0 + y1)) := by
  refine ⟨_, _, rfl, ?_⟩
  have ha : Cg p (tnI p key i 2 + (tnI p key i 0 - tnI p key i 2) % p) (tnI p key i 0) := ((Cg.refl p _).add (Cg.emod p _)).trans (Cg.of_eq (by omega))
  have hb : Cg p (tnI p key i 3 + (tnI p key i 1 - tnI p key i 3) % p) (tnI p key i 1) := ((Cg.refl p _).add (Cg.emod p _)).trans (Cg.of_eq (by omega))
  have hc : Cg p (tnI p key i 4 + (tnI p key i 0 * tnI p key i 1 - tnI p key i 4) % p) (tnI p key i 0 * tnI p key i 1) := ((Cg.refl p _).add (Cg.emod p _)).trans (Cg.of_eq (by omega))
  have hD : Cg p (opD p key i x0 x1) (x0 + x1 - tnI p key i 0) := (Cg.emod p _).trans ((Cg.refl p _).sub ha)
  have hE : Cg p (opE p key i y0 y1) (y0 + y1 - tnI p key i 1) := (Cg.emod p _).trans ((Cg.refl p _).sub hb)
  unfold shareI
  rw [if_pos rfl, if_neg (by decide)]
  refine ((Cg.emod p _).add (Cg.emod p _)).trans ?_
  generalize opD p key i x0 x1 = D at *
  generalize opE p key i y0 y1 = E at *
  generalize tnI p key i 2 = a0 at *
  generalize tnI p key i 3 = b0 at *
  generalize tnI p key i 4 = c0 at *
  generalize (tnI p key i 0 - a0) % p = a1 at *
  generalize (tnI p key i 1 - b0) % p = b1 at *
  generalize (tnI p key i 0 * tnI p key i 1 - c0) % p = c1 at *
  generalize tnI p key i 0 = t0 at *
  generalize tnI p key i 1 = t1 at *
  have e : c0 + D * b0 + E * a0 + D * E + (c1 + D * b1 + E * a1 + 0) = (c0 + c1) + D * (b0 + b1) + E * (a0 + a1) + D * E := by grind
  rw [e]
  refine (((hc.add (hD.mul hb)).add (hE.mul ha)).add (hD.mul hE)).trans (Cg.of_eq ?_)
  grind
theorem cs_law {p key : Int} {b x y : List Int} (h : csB p key b x y = true) : ∃ b0 b1 x0 x1 y0 y1 z0 z1, b = [b0, b1] ∧ x = [x0, x1] ∧ y = [y0, y1] ∧ csL p key b x y = [z0, z1] ∧ (2 ≤ p ∧ p ≤ 251) ∧ (b0 = 0 ∨ b0 = 1) ∧ (b1 = 0 ∨ b1 = 1) ∧ (0 ≤ x0 ∧ x0 ≤ p - 1) ∧ (0 ≤ x1 ∧ x1 ≤ p - 1) ∧ (0 ≤ y0 ∧ y0 ≤ p - 1) ∧ (0 ≤ y1 ∧ y1 ≤ p - 1) ∧ (0 ≤ z0 ∧ z0 ≤ p - 1) ∧ (0 ≤ z1 ∧ z1 ≤ p - 1) ∧
    (xorI b0 b1 = 1 → (z0 + z1) % p = (x0 + x1) % p) ∧ (xorI b0 b1 ≠ 1 → (z0 + z1) % p = (y0 + y1) % p) := by
  have e : csL p key b x y = _ := if_pos h
  unfold csB at h
  simp only [Bool.and_eq_true] at h
  obtain ⟨⟨⟨h1, h2⟩, _⟩, h4⟩ := h
  obtain ⟨x0, x1, rfl, hx0, hx1, hp⟩ := pairB_true h1
  obtain ⟨y0, y1, rfl, hy0, hy1, _⟩ := pairB_true h2
  obtain ⟨b0, b1, rfl, hb0, hb1⟩ := bpairB_true h4
  have hr := isPr_range hp
  have hz : csL p key [b0, b1] [x0, x1] [y0, y1] = csR p key b0 b1 x0 x1 y0 y1 := e
  unfold csR csT at hz
  have hs := ts_cg p key 0 _ (xorI_bit hb0 hb1)
  obtain ⟨T0, T1, eT, hT⟩ := times_cg p key 0 (sh0 p key 0 (xorI b0 b1)) (sh1 p key 0 (xorI b0 b1)) ((x0 - y0) % p) ((x1 - y1) % p)
  rw [eT] at hz
  have hz' : csL p key [b0, b1] [x0, x1] [y0, y1] = [(y0 + T0) % p, (y1 + T1) % p] := hz
  have hd : Cg p ((x0 - y0) % p + (x1 - y1) % p) (x0 + x1 - (y0 + y1)) := ((Cg.emod p _).add (Cg.emod p _)).trans (Cg.of_eq (by omega))
  have hz2 : Cg p ((y0 + T0) % p + (y1 + T1) % p) (y0 + y1 + xorI b0 b1 * (x0 + x1 - (y0 + y1))) := by
    refine ((Cg.emod p _).add (Cg.emod p _)).trans ((Cg.of_eq (show y0 + T0 + (y1 + T1) = (y0 + y1) + (T0 + T1) by omega)).trans ?_)
    exact (Cg.refl p _).add (hT.trans (hs.mul hd))
  refine ⟨b0, b1, x0, x1, y0, y1, _, _, rfl, rfl, rfl, hz', hr, hb0, hb1, hx0, hx1, hy0, hy1, mod_range _ _ (by omega), mod_range _ _ (by omega), fun hb => ?_, fun hb => ?_⟩
  · rw [hb] at hz2
    exact (hz2.trans (Cg.of_eq (by omega))).eq
  · have hb' : xorI b0 b1 = 0 := by rcases xorI_bit hb0 hb1 with q | q
                                    · exact q
                                    · exact absurd q hb
    rw [hb'] at hz2
    exact (hz2.trans (Cg.of_eq (by omega))).eq
theorem mx_law {p key : Int} {u v x : List Int} (h : msB p key u v x = true) : ∃ x0 x1 z0 z1, x = [x0, x1] ∧ msL p key u v x = [z0, z1] ∧ u.length = v.length ∧ u.length ≤ 16 ∧ Bt' u ∧ Bt' v ∧ (2 ≤ p ∧ p ≤ 251) ∧ (0 ≤ x0 ∧ x0 ≤ p - 1) ∧ (0 ≤ x1 ∧ x1 ≤ p - 1) ∧ (0 ≤ z0 ∧ z0 ≤ p - 1) ∧ (0 ≤ z1 ∧ z1 ≤ p - 1) ∧ (x0 + x1 + vb u v u.length) % p = (z0 + z1) % p := by
  have e : msL p key u v x = _ := if_pos h
  unfold msB at h
  rw [Bool.and_eq_true] at h
  obtain ⟨h1, h2, hu, hv, _, hp, a0, a1, hvb⟩ := bs_law h.1
  obtain ⟨x0, x1, rfl, hx0, hx1, _⟩ := pairB_true h.2
  have e2 : msL p key u v [x0, x1] = [(x0 + acc0 p key u v u.length) % p, (x1 + acc1 p key u v u.length) % p] := e
  refine ⟨x0, x1, _, _, rfl, e2, h1, h2, hu, hv, hp, hx0, hx1, mod_range _ _ (by omega), mod_range _ _ (by omega), ?_⟩
  refine Cg.eq (Cg.symm ?_)
  refine ((Cg.emod p _).add (Cg.emod p _)).trans ((Cg.of_eq (show x0 + acc0 p key u v u.length + (x1 + acc1 p key u v u.length) = (x0 + x1) + (acc0 p key u v u.length + acc1 p key u v u.length) by omega)).trans ?_)
  exact (Cg.refl p _).add (acc_cg p key hu hv _)
end Go.Proofs.YtchmakepglaijaaGreat
