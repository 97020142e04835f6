/- A party's share of a gate that is no product. -/
import Derived.Test.YtjnblfnfegjbfaaIsAr
import Derived.Test.YtjnblfnfegjbfaaTriple

namespace Go.Proofs.Ytjnblfnfegjbfaa
open Go.RowKit

def localI (P kd a b party : Int) (S : List Int) : Int :=
  if kd = 0 then (S.getD a.toNat 0 + S.getD b.toNat 0) % P else if kd = 2 then (S.getD a.toNat 0 * b) % P else a * (1 - party)
theorem gateB_add {P kd a b own : Int} (h : gateB P kd a b own = true) (hk : kd = 0) : (0 ≤ a ∧ a ≤ own - 1) ∧ (0 ≤ b ∧ b ≤ own - 1) := by
  unfold gateB at h
  rw [if_pos (Or.inl hk), Bool.and_eq_true] at h
  exact ⟨inB_true h.1, inB_true h.2⟩
theorem gateB_mul {P kd a b own : Int} (h : gateB P kd a b own = true) (hk : kd = 1) : (0 ≤ a ∧ a ≤ own - 1) ∧ (0 ≤ b ∧ b ≤ own - 1) := by
  unfold gateB at h
  rw [if_pos (Or.inr hk), Bool.and_eq_true] at h
  exact ⟨inB_true h.1, inB_true h.2⟩
theorem gateB_scale {P kd a b own : Int} (h : gateB P kd a b own = true) (hk : kd = 2) : (0 ≤ a ∧ a ≤ own - 1) ∧ (0 ≤ b ∧ b ≤ P - 1) := by
  unfold gateB at h
  rw [if_neg (by omega), if_pos hk, Bool.and_eq_true] at h
  exact ⟨inB_true h.1, inB_true h.2⟩
theorem gateB_const {P kd a b own : Int} (h : gateB P kd a b own = true) (h0 : kd ≠ 0) (h1 : kd ≠ 1) (h2 : kd ≠ 2) : kd = 3 ∧ (0 ≤ a ∧ a ≤ P - 1) ∧ b = 0 := by
  unfold gateB at h
  rw [if_neg (by omega), if_neg h2] at h
  split at h
  · rename_i h3
    simp only [Bool.and_eq_true, beq_iff_eq] at h
    exact ⟨h3, inB_true h.1, h.2⟩
  · cases h
theorem getD_rng {S : List Int} {P : Int} (h : ∀ x ∈ S, 0 ≤ x ∧ x ≤ P - 1) (q : Nat) (hq : q < S.length) : 0 ≤ S.getD q 0 ∧ S.getD q 0 ≤ P - 1 := h _ (getD_mem S q hq)
set_option maxHeartbeats 4000000 in
set_option maxRecDepth 100000 in
theorem localGate_any (P kd a b party own : Int) (sa : Option Addr) (sn sc : Nat) (S : List Int) (w : World) (hS : Ints w sa sn sc S) (hp : 1 ≤ P) (hp2 : P ≤ 1000) (hs : ∀ x ∈ S, 0 ≤ x ∧ x ≤ P - 1) (hg : gateB P kd a b own = true) (hk : kd ≠ 1) (ho : own ≤ sn) (q0 : 0 ≤ party) (q1 : party ≤ 1) :
    Calls Try.prog 68 #[.int .i64 P, .agg #[.int .i64 kd, .int .i64 a, .int .i64 b], .int .i64 party, .slice sa sn sc] w fun e w' => e = .returned (.int .i64 (localI P kd a b party S)) ∧ Below w.heap.size w w' := by
  have V0 : Below w.heap.size w (w.alloc (.cells #[.int .i64 kd, .int .i64 a, .int .i64 b] 77)) := (Below.refl _ _).alloc (Nat.le_refl _) _
  have B0 : Blk (w.alloc (.cells #[.int .i64 kd, .int .i64 a, .int .i64 b] 77)) w.heap.size 77 #[.int .i64 kd, .int .i64 a, .int .i64 b] := Blk.new w _ _
  have h1 := hS.below V0
  have hl := hS.len
  unfold localI
  by_cases k0 : kd = 0
  · obtain ⟨⟨a0, a1⟩, b0, b1⟩ := gateB_add hg k0
    subst k0
    rw [if_pos rfl]
    obtain ⟨an, rfl⟩ : ∃ n : Nat, a = n := ⟨a.toNat, by omega⟩
    obtain ⟨bn, rfl⟩ : ∃ n : Nat, b = n := ⟨b.toNat, by omega⟩
    simp only [Int.toNat_natCast]
    have ra := getD_rng hs an (by omega)
    have rb := getD_rng hs bn (by omega)
    obtain ⟨g, o, rfl, hc⟩ := h1.cells (by omega)
    have ca := hc an (by omega)
    have cb := hc bn (by omega)
    have la : an < sn := by omega
    have lb : bn < sn := by omega
    clear hc
    generalize S.getD an 0 = xa at *
    generalize S.getD bn 0 = xb at *
    have t1 : IntKind.i64.wrap (xa + xb) = xa + xb := IntWalk.i64_in _ (by omega)
    clear hs hg hk h1 hS ra rb hl
    go_enter Try.func68, Try.ntmps68
    go_wp2
    generalize (w.alloc (.cells #[.int .i64 0, .int .i64 (an : Int), .int .i64 (bn : Int)] 77)) = w1 at *
    have e0 : w1.cell? ⟨w.heap.size, 0, none⟩ = some (.int .i64 0) := B0.cell 0
    have e1 : w1.cell? ⟨w.heap.size, 1, none⟩ = some (.int .i64 an) := B0.cell 1
    have e2 : w1.cell? ⟨w.heap.size, 2, none⟩ = some (.int .i64 bn) := B0.cell 2
    go_region_held3 (fun W => W.cell? ⟨w.heap.size, 1, none⟩ = some (.int .i64 an) ∧ W.cell? ⟨w.heap.size, 2, none⟩ = some (.int .i64 bn) ∧ W.cell? ⟨g, o + an, none⟩ = some (.int .i64 xa) ∧ W.cell? ⟨g, o + bn, none⟩ = some (.int .i64 xb))
      (go_keep)
      (first | (go_at_call 96; refine (mod_same _ _ _ hp (by omega)).mono ?_; rintro e w' ⟨rfl, rfl⟩))
    all_goals go_wp2
    all_goals go_ret
    all_goals exact ⟨rfl, V0.drew⟩
  rw [if_neg k0]
  by_cases k2 : kd = 2
  · obtain ⟨⟨a0, a1⟩, b0, b1⟩ := gateB_scale hg k2
    subst k2
    rw [if_pos rfl]
    obtain ⟨an, rfl⟩ : ∃ n : Nat, a = n := ⟨a.toNat, by omega⟩
    simp only [Int.toNat_natCast]
    have ra := getD_rng hs an (by omega)
    obtain ⟨g, o, rfl, hc⟩ := h1.cells (by omega)
    have ca := hc an (by omega)
    have la : an < sn := by omega
    clear hc
    generalize S.getD an 0 = xa at *
    obtain ⟨m0, m1⟩ := mul_rng (a := xa) (b := b) (by omega) (by omega) (by omega) (by omega)
    have t1 : IntKind.i64.wrap (xa * b) = xa * b := IntWalk.i64_in _ (by omega)
    clear hs hg hk h1 hS ra hl k0
    go_enter Try.func68, Try.ntmps68
    go_wp2
    generalize (w.alloc (.cells #[.int .i64 2, .int .i64 (an : Int), .int .i64 b] 77)) = w1 at *
    have e1 : w1.cell? ⟨w.heap.size, 1, none⟩ = some (.int .i64 an) := B0.cell 1
    have e2 : w1.cell? ⟨w.heap.size, 2, none⟩ = some (.int .i64 b) := B0.cell 2
    go_region_held3 (fun W => W.cell? ⟨w.heap.size, 1, none⟩ = some (.int .i64 an) ∧ W.cell? ⟨w.heap.size, 2, none⟩ = some (.int .i64 b) ∧ W.cell? ⟨g, o + an, none⟩ = some (.int .i64 xa))
      (go_keep)
      (first | (go_at_call 96; refine (mod_same _ _ _ hp (by omega)).mono ?_; rintro e w' ⟨rfl, rfl⟩))
    all_goals go_wp2
    all_goals go_ret
    all_goals exact ⟨rfl, V0.drew⟩
  · obtain ⟨k3, ⟨a0, a1⟩, rfl⟩ := gateB_const hg k0 hk k2
    subst k3
    rw [if_neg k2]
    obtain ⟨m0, m1⟩ := mul_rng (a := a) (b := 1 - party) (by omega) (by omega) (by omega) (by omega)
    obtain ⟨X, hX⟩ : ∃ X, X = a * (1 - party) := ⟨_, rfl⟩
    rw [← hX] at m0 m1
    have HX := Lib.hid hX
    have t1 : wrap64 (a * (1 - party)) = X := by rw [← hX]; exact IntWalk.wrap64_in (by omega) (by omega)
    have t2 : IntKind.i64.wrap (a * (1 - party)) = X := by rw [← hX]; exact IntWalk.i64_in _ (by omega)
    rw [← hX]
    clear hX hs hg hk h1 hS hl k0 k2
    go_enter Try.func68, Try.ntmps68
    go_wp2
    go_ret
    exact ⟨rfl, V0⟩
set_option maxHeartbeats 4000000 in
set_option maxRecDepth 100000 in
theorem smLocal_any (P i0 i1 : Int) (ga : Option Addr) (gn gc : Nat) (G : List Int) (oa : Option Addr) (on oc : Nat) (party own : Int) (k : Nat) (sa : Option Addr) (sn sc : Nat) (S : List Int) (w : World) (hG : Flat 3 w ga gn gc G) (hS : Ints w sa sn sc S) (hp : 1 ≤ P) (hp2 : P ≤ 1000) (hs : ∀ x ∈ S, 0 ≤ x ∧ x ≤ P - 1)
    (hkn : k < gn) (hg : gateB P (G.getD (k * 3) 0) (G.getD (k * 3 + 1) 0) (G.getD (k * 3 + 2) 0) own = true) (hk : G.getD (k * 3) 0 ≠ 1) (ho : own ≤ sn) (q0 : 0 ≤ party) (q1 : party ≤ 1) :
    Calls Try.prog 61 #[.agg #[.int .i64 P, .int .i64 i0, .int .i64 i1, .slice ga gn gc, .slice oa on oc], .int .i64 party, .int .i64 k, .slice sa sn sc] w fun e w' => e = .returned (.int .i64 (localI P (G.getD (k * 3) 0) (G.getD (k * 3 + 1) 0) (G.getD (k * 3 + 2) 0) party S)) ∧ Below w.heap.size w w' := by
  have hgl := hG.le
  obtain ⟨g, o, rfl, hc⟩ := hG.at (by omega)
  have c0 : w.cell? ⟨g, o + k * 3, none⟩ = some (.int .i64 (G.getD (k * 3) 0)) := hc (k * 3) (by omega)
  have c1 : w.cell? ⟨g, o + k * 3 + 1, none⟩ = some (.int .i64 (G.getD (k * 3 + 1) 0)) := by have := hc (k * 3 + 1) (by omega); simpa only [Nat.add_assoc] using this
  have c2 : w.cell? ⟨g, o + k * 3 + 2, none⟩ = some (.int .i64 (G.getD (k * 3 + 2) 0)) := by have := hc (k * 3 + 2) (by omega); simpa only [Nat.add_assoc] using this
  clear hc hG
  generalize G.getD (k * 3) 0 = kd at *
  generalize G.getD (k * 3 + 1) 0 = a at *
  generalize G.getD (k * 3 + 2) 0 = b at *
  replace c0 := keepA (.cells #[.int .i64 P, .int .i64 i0, .int .i64 i1, .slice (some ⟨g, o, none⟩) gn gc, .slice oa on oc] 31) c0
  replace c1 := keepA (.cells #[.int .i64 P, .int .i64 i0, .int .i64 i1, .slice (some ⟨g, o, none⟩) gn gc, .slice oa on oc] 31) c1
  replace c2 := keepA (.cells #[.int .i64 P, .int .i64 i0, .int .i64 i1, .slice (some ⟨g, o, none⟩) gn gc, .slice oa on oc] 31) c2
  have V0 : Below w.heap.size w ((w.alloc (.cells #[.int .i64 P, .int .i64 i0, .int .i64 i1, .slice (some ⟨g, o, none⟩) gn gc, .slice oa on oc] 31)).alloc (.cells #[.int .i64 kd, .int .i64 a, .int .i64 b] 77)) := ((Below.refl _ _).alloc (Nat.le_refl _) _).alloc (by simp) _
  have B0 : Blk ((w.alloc (.cells #[.int .i64 P, .int .i64 i0, .int .i64 i1, .slice (some ⟨g, o, none⟩) gn gc, .slice oa on oc] 31)).alloc (.cells #[.int .i64 kd, .int .i64 a, .int .i64 b] 77)) w.heap.size 31 #[.int .i64 P, .int .i64 i0, .int .i64 i1, .slice (some ⟨g, o, none⟩) gn gc, .slice oa on oc] := (Blk.new w _ _).alloc _
  have B1 : Blk ((w.alloc (.cells #[.int .i64 P, .int .i64 i0, .int .i64 i1, .slice (some ⟨g, o, none⟩) gn gc, .slice oa on oc] 31)).alloc (.cells #[.int .i64 kd, .int .i64 a, .int .i64 b] 77)) (w.heap.size + 1) 77 #[.int .i64 kd, .int .i64 a, .int .i64 b] := by simpa using (Blk.new (w.alloc _) 77 #[.int .i64 kd, .int .i64 a, .int .i64 b] : Blk ((w.alloc (.cells #[.int .i64 P, .int .i64 i0, .int .i64 i1, .slice (some ⟨g, o, none⟩) gn gc, .slice oa on oc] 31)).alloc (.cells #[.int .i64 kd, .int .i64 a, .int .i64 b] 77)) _ _ _)
  have h1 := hS.below V0
  have hl := hS.len
  have t7 : (P == 0) = false := by simp; omega
  have t8 : (P = 0) = False := by simp; omega
  unfold localI
  by_cases k0 : kd = 0
  · obtain ⟨⟨a0, a1⟩, b0, b1⟩ := gateB_add hg k0
    subst k0
    rw [if_pos rfl]
    obtain ⟨an, rfl⟩ : ∃ n : Nat, a = n := ⟨a.toNat, by omega⟩
    obtain ⟨bn, rfl⟩ : ∃ n : Nat, b = n := ⟨b.toNat, by omega⟩
    simp only [Int.toNat_natCast]
    have ra := getD_rng hs an (by omega)
    have rb := getD_rng hs bn (by omega)
    obtain ⟨gs, os, rfl, hc⟩ := h1.cells (by omega)
    have ca := hc an (by omega)
    have cb := hc bn (by omega)
    have la : an < sn := by omega
    have lb : bn < sn := by omega
    clear hc
    generalize S.getD an 0 = xa at *
    generalize S.getD bn 0 = xb at *
    have t1 : IntKind.i64.wrap (xa + xb) = xa + xb := IntWalk.i64_in _ (by omega)
    have t2 : (xa + xb).tmod P = (xa + xb) % P := Int.tmod_eq_emod_of_nonneg (by omega)
    have t3 : IntKind.i64.wrap ((xa + xb) % P) = (xa + xb) % P := IntWalk.i64_in _ (by have := mod_rng (xa + xb) P hp; omega)
    clear hs hg hk h1 hS ra rb hl
    go_enter Try.func61, Try.ntmps61
    go_wp2
    generalize ((w.alloc (.cells #[.int .i64 P, .int .i64 i0, .int .i64 i1, .slice (some ⟨g, o, none⟩) gn gc, .slice oa on oc] 31)).alloc (.cells #[.int .i64 0, .int .i64 (an : Int), .int .i64 (bn : Int)] 77)) = w1 at *
    have e0 : w1.cell? ⟨w.heap.size, 0, none⟩ = some (.int .i64 P) := B0.cell 0
    have e1 : w1.cell? ⟨w.heap.size + 1, 1, none⟩ = some (.int .i64 an) := B1.cell 1
    have e2 : w1.cell? ⟨w.heap.size + 1, 2, none⟩ = some (.int .i64 bn) := B1.cell 2
    go_region_held3 (fun W => W.cell? ⟨w.heap.size, 0, none⟩ = some (.int .i64 P) ∧ W.cell? ⟨w.heap.size + 1, 1, none⟩ = some (.int .i64 an) ∧ W.cell? ⟨w.heap.size + 1, 2, none⟩ = some (.int .i64 bn) ∧ W.cell? ⟨gs, os + an, none⟩ = some (.int .i64 xa) ∧ W.cell? ⟨gs, os + bn, none⟩ = some (.int .i64 xb))
      (go_keep)
      (fail)
    all_goals go_wp2
    all_goals go_ret
    all_goals exact ⟨rfl, V0.drew⟩
  rw [if_neg k0]
  by_cases k2 : kd = 2
  · obtain ⟨⟨a0, a1⟩, b0, b1⟩ := gateB_scale hg k2
    subst k2
    rw [if_pos rfl]
    obtain ⟨an, rfl⟩ : ∃ n : Nat, a = n := ⟨a.toNat, by omega⟩
    simp only [Int.toNat_natCast]
    have ra := getD_rng hs an (by omega)
    obtain ⟨gs, os, rfl, hc⟩ := h1.cells (by omega)
    have ca := hc an (by omega)
    have la : an < sn := by omega
    clear hc
    generalize S.getD an 0 = xa at *
    obtain ⟨m0, m1⟩ := mul_rng (a := xa) (b := b) (by omega) (by omega) (by omega) (by omega)
    obtain ⟨X, hX⟩ : ∃ X, X = xa * b := ⟨_, rfl⟩
    rw [← hX] at m0 m1
    have t1 : IntKind.i64.wrap (xa * b) = X := by rw [← hX]; exact IntWalk.i64_in _ (by omega)
    have t2 : X.tmod P = X % P := Int.tmod_eq_emod_of_nonneg m0
    have t3 : IntKind.i64.wrap (X % P) = X % P := IntWalk.i64_in _ (by have := mod_rng X P hp; omega)
    rw [← hX]
    clear hX hs hg hk h1 hS ra hl k0
    go_enter Try.func61, Try.ntmps61
    go_wp2
    generalize ((w.alloc (.cells #[.int .i64 P, .int .i64 i0, .int .i64 i1, .slice (some ⟨g, o, none⟩) gn gc, .slice oa on oc] 31)).alloc (.cells #[.int .i64 2, .int .i64 (an : Int), .int .i64 b] 77)) = w1 at *
    have e0 : w1.cell? ⟨w.heap.size, 0, none⟩ = some (.int .i64 P) := B0.cell 0
    have e1 : w1.cell? ⟨w.heap.size + 1, 1, none⟩ = some (.int .i64 an) := B1.cell 1
    have e2 : w1.cell? ⟨w.heap.size + 1, 2, none⟩ = some (.int .i64 b) := B1.cell 2
    go_region_held3 (fun W => W.cell? ⟨w.heap.size, 0, none⟩ = some (.int .i64 P) ∧ W.cell? ⟨w.heap.size + 1, 1, none⟩ = some (.int .i64 an) ∧ W.cell? ⟨w.heap.size + 1, 2, none⟩ = some (.int .i64 b) ∧ W.cell? ⟨gs, os + an, none⟩ = some (.int .i64 xa))
      (go_keep)
      (fail)
    all_goals go_wp2
    all_goals go_ret
    all_goals exact ⟨rfl, V0.drew⟩
  · obtain ⟨k3, ⟨a0, a1⟩, rfl⟩ := gateB_const hg k0 hk k2
    subst k3
    rw [if_neg k2, Int.mul_comm]
    obtain ⟨m0, m1⟩ := mul_rng (a := 1 - party) (b := a) (by omega) (by omega) (by omega) (by omega)
    obtain ⟨X, hX⟩ : ∃ X, X = (1 - party) * a := ⟨_, rfl⟩
    rw [← hX] at m0 m1
    have t1 : wrap64 ((1 - party) * a) = X := by rw [← hX]; exact IntWalk.wrap64_in (by omega) (by omega)
    have t2 : IntKind.i64.wrap ((1 - party) * a) = X := by rw [← hX]; exact IntWalk.i64_in _ (by omega)
    rw [← hX]
    clear hX hs hg hk h1 hS hl k0 k2
    go_enter Try.func61, Try.ntmps61
    go_wp2
    go_ret
    exact ⟨rfl, V0⟩
/-- The arguments of LocalGate are valid. -/
def lgB (P i0 i1 : Int) (gn : Nat) (G O : List Int) (party k : Int) (S : List Int) : Bool :=
  arB P i0 i1 gn G O && inB party 0 1 && inB k 0 (gn - 1) && !(G.getD (k.toNat * 3) 0 == 1) && elsB P S && decide ((S.length : Int) = i0 + i1 + k)
def lgV (P i0 i1 : Int) (gn : Nat) (G O : List Int) (party k : Int) (S : List Int) : Int :=
  if lgB P i0 i1 gn G O party k S then localI P (G.getD (k.toNat * 3) 0) (G.getD (k.toNat * 3 + 1) 0) (G.getD (k.toNat * 3 + 2) 0) party S else 0
theorem arB_rng {P i0 i1 : Int} {gn : Nat} {G O : List Int} {k : Nat} (h : arB P i0 i1 gn G O = true) (hk : k < gn) : (0 ≤ i0 ∧ i0 ≤ 8) ∧ (0 ≤ i1 ∧ i1 ≤ 8) ∧ gn ≤ 100 ∧ isPr P = true ∧ gateAt P (i0 + i1) G k = true := by
  simp only [arB, Bool.and_eq_true, decide_eq_true_eq] at h
  obtain ⟨⟨⟨⟨⟨⟨h1, h2⟩, h3⟩, h4⟩, _⟩, h6⟩, _⟩ := h
  exact ⟨inB_true h2, inB_true h3, h4, h1, List.all_eq_true.1 h6 k (List.mem_range.2 hk)⟩
set_option maxHeartbeats 8000000 in
set_option maxRecDepth 100000 in
theorem LocalGate_any (P i0 i1 : Int) (ga : Option Addr) (gn gc : Nat) (G : List Int) (oa : Option Addr) (on oc : Nat) (O : List Int) (party k : Int) (sa : Option Addr) (sn sc : Nat) (S : List Int) (w : World) (hG : Flat 3 w ga gn gc G) (hO : Ints w oa on oc O) (hS : Ints w sa sn sc S) :
    Calls Try.prog 16 #[.agg #[.int .i64 P, .int .i64 i0, .int .i64 i1, .slice ga gn gc, .slice oa on oc], .int .i64 party, .int .i64 k, .slice sa sn sc] w fun e w' => e = .returned (.tuple #[.int .i64 (lgV P i0 i1 gn G O party k S), .bool (lgB P i0 i1 gn G O party k S)]) ∧ Below w.heap.size w w' := by
  have hgl := hG.le
  have hsl := hS.le
  unfold lgV
  cases h1 : arB P i0 i1 gn G O
  · skip
    have HB : Hid (lgB P i0 i1 gn G O party k S = false) := Lib.hid (by unfold lgB; rw [h1]; simp only [Bool.false_and])
    rw [HB.out]
    simp only [Bool.false_eq_true, if_false]
    have V0 : Below w.heap.size w (w.alloc (.cells #[.int .i64 P, .int .i64 i0, .int .i64 i1, .slice ga gn gc, .slice oa on oc] 31)) := (Below.refl _ _).alloc (Nat.le_refl _) _
    have B0 : Blk (w.alloc (.cells #[.int .i64 P, .int .i64 i0, .int .i64 i1, .slice ga gn gc, .slice oa on oc] 31)) w.heap.size 31 #[.int .i64 P, .int .i64 i0, .int .i64 i1, .slice ga gn gc, .slice oa on oc] := Blk.new w _ _
    go_enter Try.func16, Try.ntmps16
    go_wp2_with fail
    generalize (w.alloc (.cells #[.int .i64 P, .int .i64 i0, .int .i64 i1, .slice ga gn gc, .slice oa on oc] 31)) = w0 at *
    refine (IsArith_any _ _ _ _ _ _ G _ _ _ O _ (hG.below V0) (hO.below V0)).mono ?_; rintro e w1 ⟨rfl, u⟩
    rw [h1]
    have V1 := V0.trans (u.mono V0.size)
    have B1 := B0.below u
    clear u
    go_wp2
    go_ret2
    exact ⟨rfl, V1⟩
  cases h2 : inB party 0 1
  · skip
    have HB : Hid (lgB P i0 i1 gn G O party k S = false) := Lib.hid (by unfold lgB; rw [h2]; simp only [Bool.false_and, Bool.and_false])
    rw [HB.out]
    simp only [Bool.false_eq_true, if_false]
    have V0 : Below w.heap.size w (w.alloc (.cells #[.int .i64 P, .int .i64 i0, .int .i64 i1, .slice ga gn gc, .slice oa on oc] 31)) := (Below.refl _ _).alloc (Nat.le_refl _) _
    have B0 : Blk (w.alloc (.cells #[.int .i64 P, .int .i64 i0, .int .i64 i1, .slice ga gn gc, .slice oa on oc] 31)) w.heap.size 31 #[.int .i64 P, .int .i64 i0, .int .i64 i1, .slice ga gn gc, .slice oa on oc] := Blk.new w _ _
    go_enter Try.func16, Try.ntmps16
    go_wp2_with fail
    generalize (w.alloc (.cells #[.int .i64 P, .int .i64 i0, .int .i64 i1, .slice ga gn gc, .slice oa on oc] 31)) = w0 at *
    refine (IsArith_any _ _ _ _ _ _ G _ _ _ O _ (hG.below V0) (hO.below V0)).mono ?_; rintro e w1 ⟨rfl, u⟩
    rw [h1]
    have V1 := V0.trans (u.mono V0.size)
    have B1 := B0.below u
    clear u
    go_wp2_with fail
    refine (isBit_any _ _).mono ?_; rintro e w2 ⟨rfl, q⟩
    have u := below_of_quiet q
    clear q
    rw [show bitB party = inB party 0 1 from rfl, h2]
    have V2 := V1.trans (u.mono V1.size)
    have B2 := B1.below u
    clear u
    go_wp2
    go_ret2
    exact ⟨rfl, V2⟩
  cases h3 : inB k 0 (gn - 1)
  · skip
    have HB : Hid (lgB P i0 i1 gn G O party k S = false) := Lib.hid (by unfold lgB; rw [h3]; simp only [Bool.false_and, Bool.and_false])
    rw [HB.out]
    simp only [Bool.false_eq_true, if_false]
    have V0 : Below w.heap.size w (w.alloc (.cells #[.int .i64 P, .int .i64 i0, .int .i64 i1, .slice ga gn gc, .slice oa on oc] 31)) := (Below.refl _ _).alloc (Nat.le_refl _) _
    have B0 : Blk (w.alloc (.cells #[.int .i64 P, .int .i64 i0, .int .i64 i1, .slice ga gn gc, .slice oa on oc] 31)) w.heap.size 31 #[.int .i64 P, .int .i64 i0, .int .i64 i1, .slice ga gn gc, .slice oa on oc] := Blk.new w _ _
    go_enter Try.func16, Try.ntmps16
    go_wp2_with fail
    generalize (w.alloc (.cells #[.int .i64 P, .int .i64 i0, .int .i64 i1, .slice ga gn gc, .slice oa on oc] 31)) = w0 at *
    refine (IsArith_any _ _ _ _ _ _ G _ _ _ O _ (hG.below V0) (hO.below V0)).mono ?_; rintro e w1 ⟨rfl, u⟩
    rw [h1]
    have V1 := V0.trans (u.mono V0.size)
    have B1 := B0.below u
    clear u
    go_wp2_with fail
    refine (isBit_any _ _).mono ?_; rintro e w2 ⟨rfl, q⟩
    have u := below_of_quiet q
    clear q
    rw [show bitB party = inB party 0 1 from rfl, h2]
    have V2 := V1.trans (u.mono V1.size)
    have B2 := B1.below u
    clear u
    have x3 : w2.cell? ⟨w.heap.size, 3, none⟩ = some (.slice ga gn gc) := B2.cell 3
    go_wp2_with fail
    refine (within_any _ _ _ _).mono ?_; rintro e w' ⟨rfl, rfl⟩
    rw [h3]
    clear x3
    go_wp2
    go_ret2
    exact ⟨rfl, V2⟩
  obtain ⟨k0, k1⟩ := inB_true h3
  obtain ⟨kn, rfl⟩ : ∃ n : Nat, k = n := ⟨k.toNat, by omega⟩
  have hkn : kn < gn := by omega
  obtain ⟨g, o, rfl, _⟩ := hG.at (by omega)
  by_cases h4 : G.getD (kn * 3) 0 = 1
  · skip
    have HB : Hid (lgB P i0 i1 gn G O party kn S = false) := Lib.hid (by unfold lgB; rw [Int.toNat_natCast, h4]; simp)
    rw [HB.out]
    simp only [Bool.false_eq_true, if_false]
    have V0 : Below w.heap.size w (w.alloc (.cells #[.int .i64 P, .int .i64 i0, .int .i64 i1, .slice (some ⟨g, o, none⟩) gn gc, .slice oa on oc] 31)) := (Below.refl _ _).alloc (Nat.le_refl _) _
    have B0 : Blk (w.alloc (.cells #[.int .i64 P, .int .i64 i0, .int .i64 i1, .slice (some ⟨g, o, none⟩) gn gc, .slice oa on oc] 31)) w.heap.size 31 #[.int .i64 P, .int .i64 i0, .int .i64 i1, .slice (some ⟨g, o, none⟩) gn gc, .slice oa on oc] := Blk.new w _ _
    go_enter Try.func16, Try.ntmps16
    go_wp2_with fail
    generalize (w.alloc (.cells #[.int .i64 P, .int .i64 i0, .int .i64 i1, .slice (some ⟨g, o, none⟩) gn gc, .slice oa on oc] 31)) = w0 at *
    refine (IsArith_any _ _ _ _ _ _ G _ _ _ O _ (hG.below V0) (hO.below V0)).mono ?_; rintro e w1 ⟨rfl, u⟩
    rw [h1]
    have V1 := V0.trans (u.mono V0.size)
    have B1 := B0.below u
    clear u
    go_wp2_with fail
    refine (isBit_any _ _).mono ?_; rintro e w2 ⟨rfl, q⟩
    have u := below_of_quiet q
    clear q
    rw [show bitB party = inB party 0 1 from rfl, h2]
    have V2 := V1.trans (u.mono V1.size)
    have B2 := B1.below u
    clear u
    have x3 : w2.cell? ⟨w.heap.size, 3, none⟩ = some (.slice (some ⟨g, o, none⟩) gn gc) := B2.cell 3
    go_wp2_with fail
    refine (within_any _ _ _ _).mono ?_; rintro e w' ⟨rfl, rfl⟩
    rw [h3]
    clear x3
    obtain ⟨_, _, E, hc⟩ := (hG.below V2).at (by omega)
    cases E
    have d0 : w2.cell? ⟨g, o + kn * 3, none⟩ = some (.int .i64 (G.getD (kn * 3) 0)) := hc (kn * 3) (by omega)
    have d1 : w2.cell? ⟨g, o + kn * 3 + 1, none⟩ = some (.int .i64 (G.getD (kn * 3 + 1) 0)) := by have := hc (kn * 3 + 1) (by omega); simpa only [Nat.add_assoc] using this
    have d2 : w2.cell? ⟨g, o + kn * 3 + 2, none⟩ = some (.int .i64 (G.getD (kn * 3 + 2) 0)) := by have := hc (kn * 3 + 2) (by omega); simpa only [Nat.add_assoc] using this
    clear hc
    rw [h4] at d0
    clear h4
    have x3 : w2.cell? ⟨w.heap.size, 3, none⟩ = some (.slice (some ⟨g, o, none⟩) gn gc) := B2.cell 3
    go_wp2
    go_ret2
    exact ⟨rfl, V2⟩
  have f4 : ((G.getD (kn * 3) 0 == 1) : Bool) = false := by simpa using h4
  obtain ⟨kd, hkd⟩ : ∃ x, G.getD (kn * 3) 0 = x := ⟨_, rfl⟩
  rw [hkd] at f4 h4
  have HKD := Lib.hid hkd
  clear hkd
  cases h5 : elsB P S
  · skip
    have HB : Hid (lgB P i0 i1 gn G O party kn S = false) := Lib.hid (by unfold lgB; rw [h5]; simp)
    rw [HB.out]
    simp only [Bool.false_eq_true, if_false]
    clear h4
    have V0 : Below w.heap.size w (w.alloc (.cells #[.int .i64 P, .int .i64 i0, .int .i64 i1, .slice (some ⟨g, o, none⟩) gn gc, .slice oa on oc] 31)) := (Below.refl _ _).alloc (Nat.le_refl _) _
    have B0 : Blk (w.alloc (.cells #[.int .i64 P, .int .i64 i0, .int .i64 i1, .slice (some ⟨g, o, none⟩) gn gc, .slice oa on oc] 31)) w.heap.size 31 #[.int .i64 P, .int .i64 i0, .int .i64 i1, .slice (some ⟨g, o, none⟩) gn gc, .slice oa on oc] := Blk.new w _ _
    go_enter Try.func16, Try.ntmps16
    go_wp2_with fail
    generalize (w.alloc (.cells #[.int .i64 P, .int .i64 i0, .int .i64 i1, .slice (some ⟨g, o, none⟩) gn gc, .slice oa on oc] 31)) = w0 at *
    refine (IsArith_any _ _ _ _ _ _ G _ _ _ O _ (hG.below V0) (hO.below V0)).mono ?_; rintro e w1 ⟨rfl, u⟩
    rw [h1]
    have V1 := V0.trans (u.mono V0.size)
    have B1 := B0.below u
    clear u
    go_wp2_with fail
    refine (isBit_any _ _).mono ?_; rintro e w2 ⟨rfl, q⟩
    have u := below_of_quiet q
    clear q
    rw [show bitB party = inB party 0 1 from rfl, h2]
    have V2 := V1.trans (u.mono V1.size)
    have B2 := B1.below u
    clear u
    have x3 : w2.cell? ⟨w.heap.size, 3, none⟩ = some (.slice (some ⟨g, o, none⟩) gn gc) := B2.cell 3
    go_wp2_with fail
    refine (within_any _ _ _ _).mono ?_; rintro e w' ⟨rfl, rfl⟩
    rw [h3]
    clear x3
    obtain ⟨_, _, E, hc⟩ := (hG.below V2).at (by omega)
    cases E
    have d0 : w2.cell? ⟨g, o + kn * 3, none⟩ = some (.int .i64 (G.getD (kn * 3) 0)) := hc (kn * 3) (by omega)
    have d1 : w2.cell? ⟨g, o + kn * 3 + 1, none⟩ = some (.int .i64 (G.getD (kn * 3 + 1) 0)) := by have := hc (kn * 3 + 1) (by omega); simpa only [Nat.add_assoc] using this
    have d2 : w2.cell? ⟨g, o + kn * 3 + 2, none⟩ = some (.int .i64 (G.getD (kn * 3 + 2) 0)) := by have := hc (kn * 3 + 2) (by omega); simpa only [Nat.add_assoc] using this
    clear hc
    have x0 : w2.cell? ⟨w.heap.size, 0, none⟩ = some (.int .i64 P) := B2.cell 0
    have x1 : w2.cell? ⟨w.heap.size, 1, none⟩ = some (.int .i64 i0) := B2.cell 1
    have x2 : w2.cell? ⟨w.heap.size, 2, none⟩ = some (.int .i64 i1) := B2.cell 2
    have x3 : w2.cell? ⟨w.heap.size, 3, none⟩ = some (.slice (some ⟨g, o, none⟩) gn gc) := B2.cell 3
    have x4 : w2.cell? ⟨w.heap.size, 4, none⟩ = some (.slice oa on oc) := B2.cell 4
    rw [HKD.out] at d0
    go_wp2_with fail
    refine (areElements_any _ _ _ _ S _ (hS.below V2)).mono ?_; rintro e w3 ⟨rfl, u⟩
    rw [h5]
    clear d0 d1 d2 x0 x1 x2 x3 x4
    have V3 := V2.trans (u.mono V2.size)
    have B3 := B2.below u
    clear u
    go_wp2
    go_ret2
    exact ⟨rfl, V3⟩
  have hr : (0 ≤ i0 ∧ i0 ≤ 8) ∧ (0 ≤ i1 ∧ i1 ≤ 8) ∧ gn ≤ 100 ∧ isPr P = true ∧ gateAt P (i0 + i1) G kn = true := arB_rng h1 hkn
  obtain ⟨⟨r0, r0'⟩, ⟨r1, r1'⟩, r2, hpr, hga⟩ := hr
  have HGA := Lib.hid hga
  clear hga
  have hsz := hS.len
  have t1 : IntKind.i64.wrap (i0 + i1 + (kn : Int)) = i0 + i1 + kn := IntWalk.i64_in _ (by omega)
  by_cases h6 : (sn : Int) = i0 + i1 + kn
  case neg =>
    have f6 : (((sn : Int) != i0 + i1 + (kn : Int)) : Bool) = true := by simp; omega
    have h6' : ¬ ((S.length : Nat) : Int) = i0 + i1 + kn := by omega
    have HB : Hid (lgB P i0 i1 gn G O party kn S = false) := Lib.hid (by unfold lgB; rw [decide_eq_false h6']; simp)
    rw [HB.out]
    simp only [Bool.false_eq_true, if_false]
    clear h4 h6' hsz h6
    have V0 : Below w.heap.size w (w.alloc (.cells #[.int .i64 P, .int .i64 i0, .int .i64 i1, .slice (some ⟨g, o, none⟩) gn gc, .slice oa on oc] 31)) := (Below.refl _ _).alloc (Nat.le_refl _) _
    have B0 : Blk (w.alloc (.cells #[.int .i64 P, .int .i64 i0, .int .i64 i1, .slice (some ⟨g, o, none⟩) gn gc, .slice oa on oc] 31)) w.heap.size 31 #[.int .i64 P, .int .i64 i0, .int .i64 i1, .slice (some ⟨g, o, none⟩) gn gc, .slice oa on oc] := Blk.new w _ _
    go_enter Try.func16, Try.ntmps16
    go_wp2_with fail
    generalize (w.alloc (.cells #[.int .i64 P, .int .i64 i0, .int .i64 i1, .slice (some ⟨g, o, none⟩) gn gc, .slice oa on oc] 31)) = w0 at *
    refine (IsArith_any _ _ _ _ _ _ G _ _ _ O _ (hG.below V0) (hO.below V0)).mono ?_; rintro e w1 ⟨rfl, u⟩
    rw [h1]
    have V1 := V0.trans (u.mono V0.size)
    have B1 := B0.below u
    clear u
    go_wp2_with fail
    refine (isBit_any _ _).mono ?_; rintro e w2 ⟨rfl, q⟩
    have u := below_of_quiet q
    clear q
    rw [show bitB party = inB party 0 1 from rfl, h2]
    have V2 := V1.trans (u.mono V1.size)
    have B2 := B1.below u
    clear u
    have x3 : w2.cell? ⟨w.heap.size, 3, none⟩ = some (.slice (some ⟨g, o, none⟩) gn gc) := B2.cell 3
    go_wp2_with fail
    refine (within_any _ _ _ _).mono ?_; rintro e w' ⟨rfl, rfl⟩
    rw [h3]
    clear x3
    obtain ⟨_, _, E, hc⟩ := (hG.below V2).at (by omega)
    cases E
    have d0 : w2.cell? ⟨g, o + kn * 3, none⟩ = some (.int .i64 (G.getD (kn * 3) 0)) := hc (kn * 3) (by omega)
    have d1 : w2.cell? ⟨g, o + kn * 3 + 1, none⟩ = some (.int .i64 (G.getD (kn * 3 + 1) 0)) := by have := hc (kn * 3 + 1) (by omega); simpa only [Nat.add_assoc] using this
    have d2 : w2.cell? ⟨g, o + kn * 3 + 2, none⟩ = some (.int .i64 (G.getD (kn * 3 + 2) 0)) := by have := hc (kn * 3 + 2) (by omega); simpa only [Nat.add_assoc] using this
    clear hc
    have x0 : w2.cell? ⟨w.heap.size, 0, none⟩ = some (.int .i64 P) := B2.cell 0
    have x1 : w2.cell? ⟨w.heap.size, 1, none⟩ = some (.int .i64 i0) := B2.cell 1
    have x2 : w2.cell? ⟨w.heap.size, 2, none⟩ = some (.int .i64 i1) := B2.cell 2
    have x3 : w2.cell? ⟨w.heap.size, 3, none⟩ = some (.slice (some ⟨g, o, none⟩) gn gc) := B2.cell 3
    have x4 : w2.cell? ⟨w.heap.size, 4, none⟩ = some (.slice oa on oc) := B2.cell 4
    rw [HKD.out] at d0
    go_wp2_with fail
    refine (areElements_any _ _ _ _ S _ (hS.below V2)).mono ?_; rintro e w3 ⟨rfl, u⟩
    rw [h5]
    clear d0 d1 d2 x0 x1 x2 x3 x4
    have V3 := V2.trans (u.mono V2.size)
    have B3 := B2.below u
    clear u
    have x0 : w3.cell? ⟨w.heap.size, 0, none⟩ = some (.int .i64 P) := B3.cell 0
    have x1 : w3.cell? ⟨w.heap.size, 1, none⟩ = some (.int .i64 i0) := B3.cell 1
    have x2 : w3.cell? ⟨w.heap.size, 2, none⟩ = some (.int .i64 i1) := B3.cell 2
    have x3 : w3.cell? ⟨w.heap.size, 3, none⟩ = some (.slice (some ⟨g, o, none⟩) gn gc) := B3.cell 3
    have x4 : w3.cell? ⟨w.heap.size, 4, none⟩ = some (.slice oa on oc) := B3.cell 4
    go_wp2_with fail
    refine (inputs_any _ _ _ _ _ _ (by omega) (by omega) rfl rfl).mono ?_; rintro e w4 ⟨rfl, u⟩
    clear x0 x1 x2 x3 x4
    have V4 := V3.trans (u.mono V3.size)
    have B4 := B3.below u
    clear u
    go_wp2
    go_ret2
    exact ⟨rfl, V4⟩
  have f6 : (((sn : Int) != i0 + i1 + (kn : Int)) : Bool) = false := by simp; omega
  have h6' : ((S.length : Nat) : Int) = i0 + i1 + kn := by omega
  have HB : Hid (lgB P i0 i1 gn G O party kn S = true) := Lib.hid (by unfold lgB; rw [h1, h2, h3, h5, Int.toNat_natCast, HKD.out, f4, decide_eq_true h6']; rfl)
  obtain ⟨ka, hka⟩ : ∃ x, G.getD (kn * 3 + 1) 0 = x := ⟨_, rfl⟩
  obtain ⟨kb, hkb⟩ : ∃ x, G.getD (kn * 3 + 2) 0 = x := ⟨_, rfl⟩
  rw [HB.out, if_pos rfl, Int.toNat_natCast, HKD.out, hka, hkb]
  obtain ⟨p1, p2⟩ := isPr_range hpr
  obtain ⟨q1, q2⟩ := inB_true h2
  have hes := (elsB_true h5).2.2.2
  rw [allB_iff] at hes
  have HES := Lib.hid hes
  have HG' := HGA.out
  unfold gateAt at HG'
  rw [HKD.out, hka, hkb] at HG'
  have HKA := Lib.hid hka
  have HKB := Lib.hid hkb
  clear hka hkb
  have HLG := Lib.hid (fun W (hW : Ints W sa sn sc S) => localGate_any P kd ka kb party (i0 + i1 + kn) sa sn sc S W hW (by omega) (by omega) HES.out HG' h4 (by omega) q1 q2)
  clear h4 h6 h6' hsz hes HG'
  have V0 : Below w.heap.size w (w.alloc (.cells #[.int .i64 P, .int .i64 i0, .int .i64 i1, .slice (some ⟨g, o, none⟩) gn gc, .slice oa on oc] 31)) := (Below.refl _ _).alloc (Nat.le_refl _) _
  have B0 : Blk (w.alloc (.cells #[.int .i64 P, .int .i64 i0, .int .i64 i1, .slice (some ⟨g, o, none⟩) gn gc, .slice oa on oc] 31)) w.heap.size 31 #[.int .i64 P, .int .i64 i0, .int .i64 i1, .slice (some ⟨g, o, none⟩) gn gc, .slice oa on oc] := Blk.new w _ _
  go_enter Try.func16, Try.ntmps16
  go_wp2_with fail
  generalize (w.alloc (.cells #[.int .i64 P, .int .i64 i0, .int .i64 i1, .slice (some ⟨g, o, none⟩) gn gc, .slice oa on oc] 31)) = w0 at *
  refine (IsArith_any _ _ _ _ _ _ G _ _ _ O _ (hG.below V0) (hO.below V0)).mono ?_; rintro e w1 ⟨rfl, u⟩
  rw [h1]
  have V1 := V0.trans (u.mono V0.size)
  have B1 := B0.below u
  clear u
  go_wp2_with fail
  refine (isBit_any _ _).mono ?_; rintro e w2 ⟨rfl, q⟩
  have u := below_of_quiet q
  clear q
  rw [show bitB party = inB party 0 1 from rfl, h2]
  have V2 := V1.trans (u.mono V1.size)
  have B2 := B1.below u
  clear u
  have x3 : w2.cell? ⟨w.heap.size, 3, none⟩ = some (.slice (some ⟨g, o, none⟩) gn gc) := B2.cell 3
  go_wp2_with fail
  refine (within_any _ _ _ _).mono ?_; rintro e w' ⟨rfl, rfl⟩
  rw [h3]
  clear x3
  obtain ⟨_, _, E, hc⟩ := (hG.below V2).at (by omega)
  cases E
  have d0 : w2.cell? ⟨g, o + kn * 3, none⟩ = some (.int .i64 (G.getD (kn * 3) 0)) := hc (kn * 3) (by omega)
  have d1 : w2.cell? ⟨g, o + kn * 3 + 1, none⟩ = some (.int .i64 (G.getD (kn * 3 + 1) 0)) := by have := hc (kn * 3 + 1) (by omega); simpa only [Nat.add_assoc] using this
  have d2 : w2.cell? ⟨g, o + kn * 3 + 2, none⟩ = some (.int .i64 (G.getD (kn * 3 + 2) 0)) := by have := hc (kn * 3 + 2) (by omega); simpa only [Nat.add_assoc] using this
  clear hc
  have x0 : w2.cell? ⟨w.heap.size, 0, none⟩ = some (.int .i64 P) := B2.cell 0
  have x1 : w2.cell? ⟨w.heap.size, 1, none⟩ = some (.int .i64 i0) := B2.cell 1
  have x2 : w2.cell? ⟨w.heap.size, 2, none⟩ = some (.int .i64 i1) := B2.cell 2
  have x3 : w2.cell? ⟨w.heap.size, 3, none⟩ = some (.slice (some ⟨g, o, none⟩) gn gc) := B2.cell 3
  have x4 : w2.cell? ⟨w.heap.size, 4, none⟩ = some (.slice oa on oc) := B2.cell 4
  rw [HKD.out] at d0
  go_wp2_with fail
  refine (areElements_any _ _ _ _ S _ (hS.below V2)).mono ?_; rintro e w3 ⟨rfl, u⟩
  rw [h5]
  clear d0 d1 d2 x0 x1 x2 x3 x4
  have V3 := V2.trans (u.mono V2.size)
  have B3 := B2.below u
  clear u
  have x0 : w3.cell? ⟨w.heap.size, 0, none⟩ = some (.int .i64 P) := B3.cell 0
  have x1 : w3.cell? ⟨w.heap.size, 1, none⟩ = some (.int .i64 i0) := B3.cell 1
  have x2 : w3.cell? ⟨w.heap.size, 2, none⟩ = some (.int .i64 i1) := B3.cell 2
  have x3 : w3.cell? ⟨w.heap.size, 3, none⟩ = some (.slice (some ⟨g, o, none⟩) gn gc) := B3.cell 3
  have x4 : w3.cell? ⟨w.heap.size, 4, none⟩ = some (.slice oa on oc) := B3.cell 4
  go_wp2_with fail
  refine (inputs_any _ _ _ _ _ _ (by omega) (by omega) rfl rfl).mono ?_; rintro e w4 ⟨rfl, u⟩
  clear x0 x1 x2 x3 x4
  have V4 := V3.trans (u.mono V3.size)
  have B4 := B3.below u
  clear u
  obtain ⟨_, _, E, hc⟩ := (hG.below V4).at (by omega)
  cases E
  have d0 : w4.cell? ⟨g, o + kn * 3, none⟩ = some (.int .i64 (G.getD (kn * 3) 0)) := hc (kn * 3) (by omega)
  have d1 : w4.cell? ⟨g, o + kn * 3 + 1, none⟩ = some (.int .i64 (G.getD (kn * 3 + 1) 0)) := by have := hc (kn * 3 + 1) (by omega); simpa only [Nat.add_assoc] using this
  have d2 : w4.cell? ⟨g, o + kn * 3 + 2, none⟩ = some (.int .i64 (G.getD (kn * 3 + 2) 0)) := by have := hc (kn * 3 + 2) (by omega); simpa only [Nat.add_assoc] using this
  clear hc
  have x0 : w4.cell? ⟨w.heap.size, 0, none⟩ = some (.int .i64 P) := B4.cell 0
  have x3 : w4.cell? ⟨w.heap.size, 3, none⟩ = some (.slice (some ⟨g, o, none⟩) gn gc) := B4.cell 3
  rw [HKD.out] at d0
  rw [HKA.out] at d1
  rw [HKB.out] at d2
  go_wp2
  go_region_held3 (fun W => W.cell? ⟨w.heap.size, 0, none⟩ = some (.int .i64 P) ∧ W.cell? ⟨w.heap.size, 3, none⟩ = some (.slice (some ⟨g, o, none⟩) gn gc) ∧ W.cell? ⟨g, o + kn * 3, none⟩ = some (.int .i64 kd) ∧ W.cell? ⟨g, o + kn * 3 + 1, none⟩ = some (.int .i64 ka) ∧ W.cell? ⟨g, o + kn * 3 + 2, none⟩ = some (.int .i64 kb))
    (first | go_keep | exact ⟨keepC u x0, keepC u x3, keepC u d0, keepC u d1, keepC u d2⟩)
    (first | (go_at_call 68; refine (HLG.out _ (hS.below V4).drew).mono ?_; rintro e w5 ⟨rfl, u⟩))
  all_goals have u' : Below w4.heap.size w4 w5 := (Below.refl _ _).drew.trans u
  all_goals go_wp2
  all_goals go_ret2
  all_goals exact ⟨rfl, V4.trans (u'.mono V4.size)⟩
set_option maxHeartbeats 8000000 in
set_option maxRecDepth 100000 in
theorem spec_LocalGate_any (P i0 i1 : Int) (ga : Option Addr) (gn gc : Nat) (G : List Int) (oa : Option Addr) (on oc : Nat) (O : List Int) (party k : Int) (sa : Option Addr) (sn sc : Nat) (S : List Int) (w : World) (hG : Flat 3 w ga gn gc G) (hO : Ints w oa on oc O) (hS : Ints w sa sn sc S) :
    Calls Try.prog 13 #[.agg #[.int .i64 P, .int .i64 i0, .int .i64 i1, .slice ga gn gc, .slice oa on oc], .int .i64 party, .int .i64 k, .slice sa sn sc] w fun e w' => e = .returned (.tuple #[.int .i64 (lgV P i0 i1 gn G O party k S), .bool (lgB P i0 i1 gn G O party k S)]) ∧ Below w.heap.size w w' := by
  have hgl := hG.le
  have hsl := hS.le
  unfold lgV
  cases h1 : arB P i0 i1 gn G O
  · skip
    have HB : Hid (lgB P i0 i1 gn G O party k S = false) := Lib.hid (by unfold lgB; rw [h1]; simp only [Bool.false_and])
    rw [HB.out]
    simp only [Bool.false_eq_true, if_false]
    have V0 : Below w.heap.size w (w.alloc (.cells #[.int .i64 P, .int .i64 i0, .int .i64 i1, .slice ga gn gc, .slice oa on oc] 31)) := (Below.refl _ _).alloc (Nat.le_refl _) _
    have B0 : Blk (w.alloc (.cells #[.int .i64 P, .int .i64 i0, .int .i64 i1, .slice ga gn gc, .slice oa on oc] 31)) w.heap.size 31 #[.int .i64 P, .int .i64 i0, .int .i64 i1, .slice ga gn gc, .slice oa on oc] := Blk.new w _ _
    go_enter Try.func13, Try.ntmps13
    go_wp2_with fail
    generalize (w.alloc (.cells #[.int .i64 P, .int .i64 i0, .int .i64 i1, .slice ga gn gc, .slice oa on oc] 31)) = w0 at *
    refine (arGood_any _ _ _ _ _ _ G _ _ _ O _ (hG.below V0) (hO.below V0)).mono ?_; rintro e w1 ⟨rfl, u⟩
    rw [h1]
    have V1 := V0.trans (u.mono V0.size)
    have B1 := B0.below u
    clear u
    go_wp2
    go_ret2
    exact ⟨rfl, V1⟩
  cases h2 : inB party 0 1
  · skip
    have HB : Hid (lgB P i0 i1 gn G O party k S = false) := Lib.hid (by unfold lgB; rw [h2]; simp only [Bool.false_and, Bool.and_false])
    rw [HB.out]
    simp only [Bool.false_eq_true, if_false]
    have V0 : Below w.heap.size w (w.alloc (.cells #[.int .i64 P, .int .i64 i0, .int .i64 i1, .slice ga gn gc, .slice oa on oc] 31)) := (Below.refl _ _).alloc (Nat.le_refl _) _
    have B0 : Blk (w.alloc (.cells #[.int .i64 P, .int .i64 i0, .int .i64 i1, .slice ga gn gc, .slice oa on oc] 31)) w.heap.size 31 #[.int .i64 P, .int .i64 i0, .int .i64 i1, .slice ga gn gc, .slice oa on oc] := Blk.new w _ _
    go_enter Try.func13, Try.ntmps13
    go_wp2_with fail
    generalize (w.alloc (.cells #[.int .i64 P, .int .i64 i0, .int .i64 i1, .slice ga gn gc, .slice oa on oc] 31)) = w0 at *
    refine (arGood_any _ _ _ _ _ _ G _ _ _ O _ (hG.below V0) (hO.below V0)).mono ?_; rintro e w1 ⟨rfl, u⟩
    rw [h1]
    have V1 := V0.trans (u.mono V0.size)
    have B1 := B0.below u
    clear u
    go_wp2_with fail
    refine (l1In_any _ _ _ _).mono ?_; rintro e w2 ⟨rfl, hw⟩
    have u : Below w1.heap.size w1 w2 := hw ▸ Below.refl w1.heap.size w1
    clear hw
    rw [h2]
    have V2 := V1.trans (u.mono V1.size)
    have B2 := B1.below u
    clear u
    go_wp2
    go_ret2
    exact ⟨rfl, V2⟩
  cases h3 : inB k 0 (gn - 1)
  · skip
    have HB : Hid (lgB P i0 i1 gn G O party k S = false) := Lib.hid (by unfold lgB; rw [h3]; simp only [Bool.false_and, Bool.and_false])
    rw [HB.out]
    simp only [Bool.false_eq_true, if_false]
    have V0 : Below w.heap.size w (w.alloc (.cells #[.int .i64 P, .int .i64 i0, .int .i64 i1, .slice ga gn gc, .slice oa on oc] 31)) := (Below.refl _ _).alloc (Nat.le_refl _) _
    have B0 : Blk (w.alloc (.cells #[.int .i64 P, .int .i64 i0, .int .i64 i1, .slice ga gn gc, .slice oa on oc] 31)) w.heap.size 31 #[.int .i64 P, .int .i64 i0, .int .i64 i1, .slice ga gn gc, .slice oa on oc] := Blk.new w _ _
    go_enter Try.func13, Try.ntmps13
    go_wp2_with fail
    generalize (w.alloc (.cells #[.int .i64 P, .int .i64 i0, .int .i64 i1, .slice ga gn gc, .slice oa on oc] 31)) = w0 at *
    refine (arGood_any _ _ _ _ _ _ G _ _ _ O _ (hG.below V0) (hO.below V0)).mono ?_; rintro e w1 ⟨rfl, u⟩
    rw [h1]
    have V1 := V0.trans (u.mono V0.size)
    have B1 := B0.below u
    clear u
    go_wp2_with fail
    refine (l1In_any _ _ _ _).mono ?_; rintro e w2 ⟨rfl, hw⟩
    have u : Below w1.heap.size w1 w2 := hw ▸ Below.refl w1.heap.size w1
    clear hw
    rw [h2]
    have V2 := V1.trans (u.mono V1.size)
    have B2 := B1.below u
    clear u
    have x3 : w2.cell? ⟨w.heap.size, 3, none⟩ = some (.slice ga gn gc) := B2.cell 3
    go_wp2_with fail
    refine (l1In_any _ _ _ _).mono ?_; rintro e w' ⟨rfl, rfl⟩
    rw [h3]
    clear x3
    go_wp2
    go_ret2
    exact ⟨rfl, V2⟩
  obtain ⟨k0, k1⟩ := inB_true h3
  obtain ⟨kn, rfl⟩ : ∃ n : Nat, k = n := ⟨k.toNat, by omega⟩
  have hkn : kn < gn := by omega
  obtain ⟨g, o, rfl, _⟩ := hG.at (by omega)
  by_cases h4 : G.getD (kn * 3) 0 = 1
  · skip
    have HB : Hid (lgB P i0 i1 gn G O party kn S = false) := Lib.hid (by unfold lgB; rw [Int.toNat_natCast, h4]; simp)
    rw [HB.out]
    simp only [Bool.false_eq_true, if_false]
    have V0 : Below w.heap.size w (w.alloc (.cells #[.int .i64 P, .int .i64 i0, .int .i64 i1, .slice (some ⟨g, o, none⟩) gn gc, .slice oa on oc] 31)) := (Below.refl _ _).alloc (Nat.le_refl _) _
    have B0 : Blk (w.alloc (.cells #[.int .i64 P, .int .i64 i0, .int .i64 i1, .slice (some ⟨g, o, none⟩) gn gc, .slice oa on oc] 31)) w.heap.size 31 #[.int .i64 P, .int .i64 i0, .int .i64 i1, .slice (some ⟨g, o, none⟩) gn gc, .slice oa on oc] := Blk.new w _ _
    go_enter Try.func13, Try.ntmps13
    go_wp2_with fail
    generalize (w.alloc (.cells #[.int .i64 P, .int .i64 i0, .int .i64 i1, .slice (some ⟨g, o, none⟩) gn gc, .slice oa on oc] 31)) = w0 at *
    refine (arGood_any _ _ _ _ _ _ G _ _ _ O _ (hG.below V0) (hO.below V0)).mono ?_; rintro e w1 ⟨rfl, u⟩
    rw [h1]
    have V1 := V0.trans (u.mono V0.size)
    have B1 := B0.below u
    clear u
    go_wp2_with fail
    refine (l1In_any _ _ _ _).mono ?_; rintro e w2 ⟨rfl, hw⟩
    have u : Below w1.heap.size w1 w2 := hw ▸ Below.refl w1.heap.size w1
    clear hw
    rw [h2]
    have V2 := V1.trans (u.mono V1.size)
    have B2 := B1.below u
    clear u
    have x3 : w2.cell? ⟨w.heap.size, 3, none⟩ = some (.slice (some ⟨g, o, none⟩) gn gc) := B2.cell 3
    go_wp2_with fail
    refine (l1In_any _ _ _ _).mono ?_; rintro e w' ⟨rfl, rfl⟩
    rw [h3]
    clear x3
    obtain ⟨_, _, E, hc⟩ := (hG.below V2).at (by omega)
    cases E
    have d0 : w2.cell? ⟨g, o + kn * 3, none⟩ = some (.int .i64 (G.getD (kn * 3) 0)) := hc (kn * 3) (by omega)
    have d1 : w2.cell? ⟨g, o + kn * 3 + 1, none⟩ = some (.int .i64 (G.getD (kn * 3 + 1) 0)) := by have := hc (kn * 3 + 1) (by omega); simpa only [Nat.add_assoc] using this
    have d2 : w2.cell? ⟨g, o + kn * 3 + 2, none⟩ = some (.int .i64 (G.getD (kn * 3 + 2) 0)) := by have := hc (kn * 3 + 2) (by omega); simpa only [Nat.add_assoc] using this
    clear hc
    rw [h4] at d0
    clear h4
    have x3 : w2.cell? ⟨w.heap.size, 3, none⟩ = some (.slice (some ⟨g, o, none⟩) gn gc) := B2.cell 3
    go_wp2
    go_ret2
    exact ⟨rfl, V2⟩
  have f4 : ((G.getD (kn * 3) 0 == 1) : Bool) = false := by simpa using h4
  obtain ⟨kd, hkd⟩ : ∃ x, G.getD (kn * 3) 0 = x := ⟨_, rfl⟩
  rw [hkd] at f4 h4
  have HKD := Lib.hid hkd
  clear hkd
  have hr : (0 ≤ i0 ∧ i0 ≤ 8) ∧ (0 ≤ i1 ∧ i1 ≤ 8) ∧ gn ≤ 100 ∧ isPr P = true ∧ gateAt P (i0 + i1) G kn = true := arB_rng h1 hkn
  obtain ⟨⟨r0, r0'⟩, ⟨r1, r1'⟩, r2, hpr, hga⟩ := hr
  have HGA := Lib.hid hga
  clear hga
  obtain ⟨p1, p2⟩ := isPr_range hpr
  have hsz := hS.len
  have t1 : IntKind.i64.wrap (i0 + i1 + (kn : Int)) = i0 + i1 + kn := IntWalk.i64_in _ (by omega)
  have HEL : Hid (elsB P S = allB S 0 (P - 1)) := Lib.hid (by unfold elsB; rw [hpr, Bool.true_and])
  by_cases h6 : (sn : Int) = i0 + i1 + kn
  case neg =>
    have f6 : (((sn : Int) != i0 + i1 + (kn : Int)) : Bool) = true := by simp; omega
    have h6' : ¬ ((S.length : Nat) : Int) = i0 + i1 + kn := by omega
    have HB : Hid (lgB P i0 i1 gn G O party kn S = false) := Lib.hid (by unfold lgB; rw [decide_eq_false h6']; simp)
    rw [HB.out]
    simp only [Bool.false_eq_true, if_false]
    clear h4 h6' hsz h6
    have V0 : Below w.heap.size w (w.alloc (.cells #[.int .i64 P, .int .i64 i0, .int .i64 i1, .slice (some ⟨g, o, none⟩) gn gc, .slice oa on oc] 31)) := (Below.refl _ _).alloc (Nat.le_refl _) _
    have B0 : Blk (w.alloc (.cells #[.int .i64 P, .int .i64 i0, .int .i64 i1, .slice (some ⟨g, o, none⟩) gn gc, .slice oa on oc] 31)) w.heap.size 31 #[.int .i64 P, .int .i64 i0, .int .i64 i1, .slice (some ⟨g, o, none⟩) gn gc, .slice oa on oc] := Blk.new w _ _
    go_enter Try.func13, Try.ntmps13
    go_wp2_with fail
    generalize (w.alloc (.cells #[.int .i64 P, .int .i64 i0, .int .i64 i1, .slice (some ⟨g, o, none⟩) gn gc, .slice oa on oc] 31)) = w0 at *
    refine (arGood_any _ _ _ _ _ _ G _ _ _ O _ (hG.below V0) (hO.below V0)).mono ?_; rintro e w1 ⟨rfl, u⟩
    rw [h1]
    have V1 := V0.trans (u.mono V0.size)
    have B1 := B0.below u
    clear u
    go_wp2_with fail
    refine (l1In_any _ _ _ _).mono ?_; rintro e w2 ⟨rfl, hw⟩
    have u : Below w1.heap.size w1 w2 := hw ▸ Below.refl w1.heap.size w1
    clear hw
    rw [h2]
    have V2 := V1.trans (u.mono V1.size)
    have B2 := B1.below u
    clear u
    have x3 : w2.cell? ⟨w.heap.size, 3, none⟩ = some (.slice (some ⟨g, o, none⟩) gn gc) := B2.cell 3
    go_wp2_with fail
    refine (l1In_any _ _ _ _).mono ?_; rintro e w' ⟨rfl, rfl⟩
    rw [h3]
    clear x3
    obtain ⟨_, _, E, hc⟩ := (hG.below V2).at (by omega)
    cases E
    have d0 : w2.cell? ⟨g, o + kn * 3, none⟩ = some (.int .i64 (G.getD (kn * 3) 0)) := hc (kn * 3) (by omega)
    have d1 : w2.cell? ⟨g, o + kn * 3 + 1, none⟩ = some (.int .i64 (G.getD (kn * 3 + 1) 0)) := by have := hc (kn * 3 + 1) (by omega); simpa only [Nat.add_assoc] using this
    have d2 : w2.cell? ⟨g, o + kn * 3 + 2, none⟩ = some (.int .i64 (G.getD (kn * 3 + 2) 0)) := by have := hc (kn * 3 + 2) (by omega); simpa only [Nat.add_assoc] using this
    clear hc
    have x0 : w2.cell? ⟨w.heap.size, 0, none⟩ = some (.int .i64 P) := B2.cell 0
    have x1 : w2.cell? ⟨w.heap.size, 1, none⟩ = some (.int .i64 i0) := B2.cell 1
    have x2 : w2.cell? ⟨w.heap.size, 2, none⟩ = some (.int .i64 i1) := B2.cell 2
    have x3 : w2.cell? ⟨w.heap.size, 3, none⟩ = some (.slice (some ⟨g, o, none⟩) gn gc) := B2.cell 3
    have x4 : w2.cell? ⟨w.heap.size, 4, none⟩ = some (.slice oa on oc) := B2.cell 4
    rw [HKD.out] at d0
    go_wp2
    go_ret2
    exact ⟨rfl, V2⟩
  have f6 : (((sn : Int) != i0 + i1 + (kn : Int)) : Bool) = false := by simp; omega
  have h6' : ((S.length : Nat) : Int) = i0 + i1 + kn := by omega
  clear hsz
  cases h5 : allB S 0 (P - 1)
  · skip
    have HB : Hid (lgB P i0 i1 gn G O party kn S = false) := Lib.hid (by unfold lgB; rw [HEL.out, h5]; simp)
    rw [HB.out]
    simp only [Bool.false_eq_true, if_false]
    clear h4 h6 h6'
    have V0 : Below w.heap.size w (w.alloc (.cells #[.int .i64 P, .int .i64 i0, .int .i64 i1, .slice (some ⟨g, o, none⟩) gn gc, .slice oa on oc] 31)) := (Below.refl _ _).alloc (Nat.le_refl _) _
    have B0 : Blk (w.alloc (.cells #[.int .i64 P, .int .i64 i0, .int .i64 i1, .slice (some ⟨g, o, none⟩) gn gc, .slice oa on oc] 31)) w.heap.size 31 #[.int .i64 P, .int .i64 i0, .int .i64 i1, .slice (some ⟨g, o, none⟩) gn gc, .slice oa on oc] := Blk.new w _ _
    go_enter Try.func13, Try.ntmps13
    go_wp2_with fail
    generalize (w.alloc (.cells #[.int .i64 P, .int .i64 i0, .int .i64 i1, .slice (some ⟨g, o, none⟩) gn gc, .slice oa on oc] 31)) = w0 at *
    refine (arGood_any _ _ _ _ _ _ G _ _ _ O _ (hG.below V0) (hO.below V0)).mono ?_; rintro e w1 ⟨rfl, u⟩
    rw [h1]
    have V1 := V0.trans (u.mono V0.size)
    have B1 := B0.below u
    clear u
    go_wp2_with fail
    refine (l1In_any _ _ _ _).mono ?_; rintro e w2 ⟨rfl, hw⟩
    have u : Below w1.heap.size w1 w2 := hw ▸ Below.refl w1.heap.size w1
    clear hw
    rw [h2]
    have V2 := V1.trans (u.mono V1.size)
    have B2 := B1.below u
    clear u
    have x3 : w2.cell? ⟨w.heap.size, 3, none⟩ = some (.slice (some ⟨g, o, none⟩) gn gc) := B2.cell 3
    go_wp2_with fail
    refine (l1In_any _ _ _ _).mono ?_; rintro e w' ⟨rfl, rfl⟩
    rw [h3]
    clear x3
    obtain ⟨_, _, E, hc⟩ := (hG.below V2).at (by omega)
    cases E
    have d0 : w2.cell? ⟨g, o + kn * 3, none⟩ = some (.int .i64 (G.getD (kn * 3) 0)) := hc (kn * 3) (by omega)
    have d1 : w2.cell? ⟨g, o + kn * 3 + 1, none⟩ = some (.int .i64 (G.getD (kn * 3 + 1) 0)) := by have := hc (kn * 3 + 1) (by omega); simpa only [Nat.add_assoc] using this
    have d2 : w2.cell? ⟨g, o + kn * 3 + 2, none⟩ = some (.int .i64 (G.getD (kn * 3 + 2) 0)) := by have := hc (kn * 3 + 2) (by omega); simpa only [Nat.add_assoc] using this
    clear hc
    have x0 : w2.cell? ⟨w.heap.size, 0, none⟩ = some (.int .i64 P) := B2.cell 0
    have x1 : w2.cell? ⟨w.heap.size, 1, none⟩ = some (.int .i64 i0) := B2.cell 1
    have x2 : w2.cell? ⟨w.heap.size, 2, none⟩ = some (.int .i64 i1) := B2.cell 2
    have x3 : w2.cell? ⟨w.heap.size, 3, none⟩ = some (.slice (some ⟨g, o, none⟩) gn gc) := B2.cell 3
    have x4 : w2.cell? ⟨w.heap.size, 4, none⟩ = some (.slice oa on oc) := B2.cell 4
    rw [HKD.out] at d0
    go_wp2_with fail
    refine (l1All_any _ _ _ S _ _ _ (hS.below V2)).mono ?_; rintro e w3 ⟨rfl, q⟩
    have u := below_of_quiet q
    clear q
    rw [h5]
    clear d0 d1 d2 x0 x1 x2 x3 x4
    have V3 := V2.trans (u.mono V2.size)
    have B3 := B2.below u
    clear u
    go_wp2
    go_ret2
    exact ⟨rfl, V3⟩
  have HB : Hid (lgB P i0 i1 gn G O party kn S = true) := Lib.hid (by unfold lgB; rw [h1, h2, h3, HEL.out, h5, Int.toNat_natCast, HKD.out, f4, decide_eq_true h6']; rfl)
  rw [HB.out, if_pos rfl, Int.toNat_natCast]
  obtain ⟨q1, q2⟩ := inB_true h2
  have hes := (allB_iff ..).1 h5
  have HES := Lib.hid hes
  have HG' := HGA.out
  unfold gateAt at HG'
  have HLG := Lib.hid (fun W (hGW : Flat 3 W (some ⟨g, o, none⟩) gn gc G) (hW : Ints W sa sn sc S) => smLocal_any P i0 i1 (some ⟨g, o, none⟩) gn gc G oa on oc party (i0 + i1 + kn) kn sa sn sc S W hGW hW (by omega) (by omega) HES.out hkn HG' (by rw [HKD.out]; exact h4) (by omega) q1 q2)
  clear h4 h6 h6' hes HG'
  have V0 : Below w.heap.size w (w.alloc (.cells #[.int .i64 P, .int .i64 i0, .int .i64 i1, .slice (some ⟨g, o, none⟩) gn gc, .slice oa on oc] 31)) := (Below.refl _ _).alloc (Nat.le_refl _) _
  have B0 : Blk (w.alloc (.cells #[.int .i64 P, .int .i64 i0, .int .i64 i1, .slice (some ⟨g, o, none⟩) gn gc, .slice oa on oc] 31)) w.heap.size 31 #[.int .i64 P, .int .i64 i0, .int .i64 i1, .slice (some ⟨g, o, none⟩) gn gc, .slice oa on oc] := Blk.new w _ _
  go_enter Try.func13, Try.ntmps13
  go_wp2_with fail
  generalize (w.alloc (.cells #[.int .i64 P, .int .i64 i0, .int .i64 i1, .slice (some ⟨g, o, none⟩) gn gc, .slice oa on oc] 31)) = w0 at *
  refine (arGood_any _ _ _ _ _ _ G _ _ _ O _ (hG.below V0) (hO.below V0)).mono ?_; rintro e w1 ⟨rfl, u⟩
  rw [h1]
  have V1 := V0.trans (u.mono V0.size)
  have B1 := B0.below u
  clear u
  go_wp2_with fail
  refine (l1In_any _ _ _ _).mono ?_; rintro e w2 ⟨rfl, hw⟩
  have u : Below w1.heap.size w1 w2 := hw ▸ Below.refl w1.heap.size w1
  clear hw
  rw [h2]
  have V2 := V1.trans (u.mono V1.size)
  have B2 := B1.below u
  clear u
  have x3 : w2.cell? ⟨w.heap.size, 3, none⟩ = some (.slice (some ⟨g, o, none⟩) gn gc) := B2.cell 3
  go_wp2_with fail
  refine (l1In_any _ _ _ _).mono ?_; rintro e w' ⟨rfl, rfl⟩
  rw [h3]
  clear x3
  obtain ⟨_, _, E, hc⟩ := (hG.below V2).at (by omega)
  cases E
  have d0 : w2.cell? ⟨g, o + kn * 3, none⟩ = some (.int .i64 (G.getD (kn * 3) 0)) := hc (kn * 3) (by omega)
  have d1 : w2.cell? ⟨g, o + kn * 3 + 1, none⟩ = some (.int .i64 (G.getD (kn * 3 + 1) 0)) := by have := hc (kn * 3 + 1) (by omega); simpa only [Nat.add_assoc] using this
  have d2 : w2.cell? ⟨g, o + kn * 3 + 2, none⟩ = some (.int .i64 (G.getD (kn * 3 + 2) 0)) := by have := hc (kn * 3 + 2) (by omega); simpa only [Nat.add_assoc] using this
  clear hc
  have x0 : w2.cell? ⟨w.heap.size, 0, none⟩ = some (.int .i64 P) := B2.cell 0
  have x1 : w2.cell? ⟨w.heap.size, 1, none⟩ = some (.int .i64 i0) := B2.cell 1
  have x2 : w2.cell? ⟨w.heap.size, 2, none⟩ = some (.int .i64 i1) := B2.cell 2
  have x3 : w2.cell? ⟨w.heap.size, 3, none⟩ = some (.slice (some ⟨g, o, none⟩) gn gc) := B2.cell 3
  have x4 : w2.cell? ⟨w.heap.size, 4, none⟩ = some (.slice oa on oc) := B2.cell 4
  rw [HKD.out] at d0
  go_wp2_with fail
  refine (l1All_any _ _ _ S _ _ _ (hS.below V2)).mono ?_; rintro e w3 ⟨rfl, q⟩
  have u := below_of_quiet q
  clear q
  rw [h5]
  clear d0 d1 d2 x0 x1 x2 x3 x4
  have V3 := V2.trans (u.mono V2.size)
  have B3 := B2.below u
  clear u
  have x0 : w3.cell? ⟨w.heap.size, 0, none⟩ = some (.int .i64 P) := B3.cell 0
  have x1 : w3.cell? ⟨w.heap.size, 1, none⟩ = some (.int .i64 i0) := B3.cell 1
  have x2 : w3.cell? ⟨w.heap.size, 2, none⟩ = some (.int .i64 i1) := B3.cell 2
  have x3 : w3.cell? ⟨w.heap.size, 3, none⟩ = some (.slice (some ⟨g, o, none⟩) gn gc) := B3.cell 3
  have x4 : w3.cell? ⟨w.heap.size, 4, none⟩ = some (.slice oa on oc) := B3.cell 4
  go_wp2_with fail
  refine (HLG.out _ (hG.below V3) (hS.below V3)).mono ?_; rintro e w4 ⟨rfl, u⟩
  go_wp2
  go_ret2
  exact ⟨rfl, V3.trans (u.mono V3.size)⟩
set_option maxHeartbeats 8000000 in
set_option maxRecDepth 100000 in
theorem FnExactLocalGate_walk (a0_0 : Int) (a0_1 : Int) (a0_2 : Int) (a0_3 : Option Addr) (n0_3 c0_3 : Nat) (l0_3 : List Int) (a0_4 : Option Addr) (n0_4 c0_4 : Nat) (l0_4 : List Int) (a1 : Int) (a2 : Int) (a3 : Option Addr) (n3 c3 : Nat) (l3 : List Int) (w : World) (_w0_0 : -9223372036854775808 ≤ a0_0 ∧ a0_0 ≤ 9223372036854775807) (_w0_1 : -9223372036854775808 ≤ a0_1 ∧ a0_1 ≤ 9223372036854775807) (_w0_2 : -9223372036854775808 ≤ a0_2 ∧ a0_2 ≤ 9223372036854775807) (z0_3 : Flat 3 w a0_3 n0_3 c0_3 l0_3) (_wf0_3 : Wf l0_3) (z0_4 : Ints w a0_4 n0_4 c0_4 l0_4) (_wf0_4 : Wf l0_4) (_w1 : -9223372036854775808 ≤ a1 ∧ a1 ≤ 9223372036854775807) (_w2 : -9223372036854775808 ≤ a2 ∧ a2 ≤ 9223372036854775807) (z3 : Ints w a3 n3 c3 l3) (_wf3 : Wf l3) :
    Calls Try.prog 3 #[.agg #[.int .i64 a0_0, .int .i64 a0_1, .int .i64 a0_2, .slice a0_3 n0_3 c0_3, .slice a0_4 n0_4 c0_4], .int .i64 a1, .int .i64 a2, .slice a3 n3 c3] w fun e w' => e = .returned (.bool true) ∧ Below w.heap.size w w' := by
  by_cases hs3 : n3 ≤ 1048576
  · skip
    have hn0_3 : (n0_3 : Int) ≤ 9223372036854775807 := z0_3.le
    have hn0_4 : (n0_4 : Int) ≤ 9223372036854775807 := z0_4.le
    by_cases ht0 : (n0_3 : Int) + (n0_4 : Int) ≤ 1048576
    · skip
      go_enter Try.func3, Try.ntmps3
      go_wp2_with fail
      have V_w1' : Below w.heap.size w (w.alloc (.cells #[.int .i64 a0_0, .int .i64 a0_1, .int .i64 a0_2, .slice a0_3 n0_3 c0_3, .slice a0_4 n0_4 c0_4] 25)) := (((Below.refl w.heap.size w)).alloc (by have := ((Below.refl w.heap.size w)).size; first | exact this | (simp; omega) | simp) _)
      have B_p0 : Blk (w.alloc (.cells #[.int .i64 a0_0, .int .i64 a0_1, .int .i64 a0_2, .slice a0_3 n0_3 c0_3, .slice a0_4 n0_4 c0_4] 25)) (w.heap.size) 25 #[.int .i64 a0_0, .int .i64 a0_1, .int .i64 a0_2, .slice a0_3 n0_3 c0_3, .slice a0_4 n0_4 c0_4] := Blk.new w 25 #[.int .i64 a0_0, .int .i64 a0_1, .int .i64 a0_2, .slice a0_3 n0_3 c0_3, .slice a0_4 n0_4 c0_4]
      have S_w1' : w.heap.size + 1 ≤ (w.alloc (.cells #[.int .i64 a0_0, .int .i64 a0_1, .int .i64 a0_2, .slice a0_3 n0_3 c0_3, .slice a0_4 n0_4 c0_4] 25)).heap.size := by simp
      generalize (w.alloc (.cells #[.int .i64 a0_0, .int .i64 a0_1, .int .i64 a0_2, .slice a0_3 n0_3 c0_3, .slice a0_4 n0_4 c0_4] 25)) = w1' at *
      refine (szArith_yes _ _ _ _ _ _ _ _ _ _ _ hn0_3 hn0_4 (by omega) (by omega)).mono ?_
      rintro e w2' ⟨rfl, u_w2'⟩
      replace B_p0 := B_p0.below u_w2'
      have V_w2' := V_w1'.trans (u_w2'.mono (V_w1').size)
      have S_w2' := u_w2'.size
      clear u_w2' V_w1'
      have e_p0_0 : w2'.cell? ⟨w.heap.size, 0, none⟩ = some (.int .i64 a0_0) := B_p0.cell 0
      have e_p0_1 : w2'.cell? ⟨w.heap.size, 1, none⟩ = some (.int .i64 a0_1) := B_p0.cell 1
      have e_p0_2 : w2'.cell? ⟨w.heap.size, 2, none⟩ = some (.int .i64 a0_2) := B_p0.cell 2
      have e_p0_3 : w2'.cell? ⟨w.heap.size, 3, none⟩ = some (.slice a0_3 n0_3 c0_3) := B_p0.cell 3
      have e_p0_4 : w2'.cell? ⟨w.heap.size, 4, none⟩ = some (.slice a0_4 n0_4 c0_4) := B_p0.cell 4
      go_wp2_with fail
      clear e_p0_0 e_p0_1 e_p0_2 e_p0_3 e_p0_4
      refine (toArith_any _ _ _ _ _ _ l0_3 _ _ _ l0_4 _ (z0_3.below V_w2') (z0_4.below V_w2') (by omega) (by omega)).mono ?_
      rintro e w3' ⟨y_a0_3, y_c0_3, y_a0_4, y_c0_4, rfl, y0_3, y0_4, dj_y0_3_0_4, u_w3'⟩
      replace B_p0 := B_p0.below u_w3'
      have V_w3' := V_w2'.trans (u_w3'.mono (V_w2').size)
      have S_w3' := u_w3'.size
      clear u_w3' V_w2'
      have Q_y0_3 := Lib.hid y0_3.feet
      have Q_y0_4 := Lib.hid y0_4.feet
      go_wp2_with fail
      refine (toIntS_any _ _ _ l3 _ (z3.below V_w3') hs3).mono ?_
      rintro e w4' ⟨y_a3, y_c3, rfl, y3, u_w4'⟩
      replace B_p0 := B_p0.below u_w4'
      replace y0_3 := y0_3.below u_w4'
      replace y0_4 := y0_4.below u_w4'
      have V_w4' := V_w3'.trans (u_w4'.mono (V_w3').size)
      have S_w4' := u_w4'.size
      clear u_w4' V_w3'
      have Q_y3 := Lib.hid y3.feet
      go_wp2_with fail
      refine (spec_LocalGate_any _ _ _ _ _ _ l0_3 _ _ _ l0_4 _ _ _ _ _ l3 _ y0_3.flat y0_4.ints y3.ints).mono ?_
      rintro e w5' ⟨rfl, u_w5'⟩
      replace B_p0 := B_p0.below u_w5'
      replace y0_3 := y0_3.below u_w5'
      replace y0_4 := y0_4.below u_w5'
      replace y3 := y3.below u_w5'
      have V_w5' := V_w4'.trans (u_w5'.mono (V_w4').size)
      have S_w5' := u_w5'.size
      clear u_w5' V_w4'
      clear y0_3
      clear y0_4
      clear y3
      have e_p0_0 : w5'.cell? ⟨w.heap.size, 0, none⟩ = some (.int .i64 a0_0) := B_p0.cell 0
      have e_p0_1 : w5'.cell? ⟨w.heap.size, 1, none⟩ = some (.int .i64 a0_1) := B_p0.cell 1
      have e_p0_2 : w5'.cell? ⟨w.heap.size, 2, none⟩ = some (.int .i64 a0_2) := B_p0.cell 2
      have e_p0_3 : w5'.cell? ⟨w.heap.size, 3, none⟩ = some (.slice a0_3 n0_3 c0_3) := B_p0.cell 3
      have e_p0_4 : w5'.cell? ⟨w.heap.size, 4, none⟩ = some (.slice a0_4 n0_4 c0_4) := B_p0.cell 4
      go_wp2_with fail
      clear e_p0_0 e_p0_1 e_p0_2 e_p0_3 e_p0_4
      refine (toArith_any _ _ _ _ _ _ l0_3 _ _ _ l0_4 _ (z0_3.below V_w5') (z0_4.below V_w5') (by omega) (by omega)).mono ?_
      rintro e w6' ⟨x_a0_3, x_c0_3, x_a0_4, x_c0_4, rfl, x0_3, x0_4, dj_x0_3_0_4, u_w6'⟩
      replace B_p0 := B_p0.below u_w6'
      have V_w6' := V_w5'.trans (u_w6'.mono (V_w5').size)
      have S_w6' := u_w6'.size
      clear u_w6' V_w5'
      have Q_x0_3 := Lib.hid x0_3.feet
      have Q_x0_4 := Lib.hid x0_4.feet
      go_wp2_with fail
      have V_w7' : Below w.heap.size w (w6'.alloc (.cells #[.int .i64 a0_0, .int .i64 a0_1, .int .i64 a0_2, .slice x_a0_3 n0_3 x_c0_3, .slice x_a0_4 n0_4 x_c0_4] 31)) := ((V_w6').alloc (by have := (V_w6').size; first | exact this | (simp; omega) | simp) _)
      replace B_p0 := B_p0.alloc (.cells #[.int .i64 a0_0, .int .i64 a0_1, .int .i64 a0_2, .slice x_a0_3 n0_3 x_c0_3, .slice x_a0_4 n0_4 x_c0_4] 31)
      replace x0_3 := x0_3.alloc (.cells #[.int .i64 a0_0, .int .i64 a0_1, .int .i64 a0_2, .slice x_a0_3 n0_3 x_c0_3, .slice x_a0_4 n0_4 x_c0_4] 31)
      replace x0_4 := x0_4.alloc (.cells #[.int .i64 a0_0, .int .i64 a0_1, .int .i64 a0_2, .slice x_a0_3 n0_3 x_c0_3, .slice x_a0_4 n0_4 x_c0_4] 31)
      have B_x0 : Blk (w6'.alloc (.cells #[.int .i64 a0_0, .int .i64 a0_1, .int .i64 a0_2, .slice x_a0_3 n0_3 x_c0_3, .slice x_a0_4 n0_4 x_c0_4] 31)) (w6'.heap.size) 31 #[.int .i64 a0_0, .int .i64 a0_1, .int .i64 a0_2, .slice x_a0_3 n0_3 x_c0_3, .slice x_a0_4 n0_4 x_c0_4] := Blk.new w6' 31 #[.int .i64 a0_0, .int .i64 a0_1, .int .i64 a0_2, .slice x_a0_3 n0_3 x_c0_3, .slice x_a0_4 n0_4 x_c0_4]
      have S_w7' : w6'.heap.size + 1 ≤ (w6'.alloc (.cells #[.int .i64 a0_0, .int .i64 a0_1, .int .i64 a0_2, .slice x_a0_3 n0_3 x_c0_3, .slice x_a0_4 n0_4 x_c0_4] 31)).heap.size := by simp
      generalize (w6'.alloc (.cells #[.int .i64 a0_0, .int .i64 a0_1, .int .i64 a0_2, .slice x_a0_3 n0_3 x_c0_3, .slice x_a0_4 n0_4 x_c0_4] 31)) = w7' at *
      clear V_w6'
      refine (toIntS_any _ _ _ l3 _ (z3.below V_w7') hs3).mono ?_
      rintro e w8' ⟨x_a3, x_c3, rfl, x3, u_w8'⟩
      replace B_p0 := B_p0.below u_w8'
      replace B_x0 := B_x0.below u_w8'
      replace x0_3 := x0_3.below u_w8'
      replace x0_4 := x0_4.below u_w8'
      have V_w8' := V_w7'.trans (u_w8'.mono (V_w7').size)
      have S_w8' := u_w8'.size
      clear u_w8' V_w7'
      have Q_x3 := Lib.hid x3.feet
      have e_x0_0 : w8'.cell? ⟨w6'.heap.size, 0, none⟩ = some (.int .i64 a0_0) := B_x0.cell 0
      have e_x0_1 : w8'.cell? ⟨w6'.heap.size, 1, none⟩ = some (.int .i64 a0_1) := B_x0.cell 1
      have e_x0_2 : w8'.cell? ⟨w6'.heap.size, 2, none⟩ = some (.int .i64 a0_2) := B_x0.cell 2
      have e_x0_3 : w8'.cell? ⟨w6'.heap.size, 3, none⟩ = some (.slice x_a0_3 n0_3 x_c0_3) := B_x0.cell 3
      have e_x0_4 : w8'.cell? ⟨w6'.heap.size, 4, none⟩ = some (.slice x_a0_4 n0_4 x_c0_4) := B_x0.cell 4
      go_wp2_with fail
      clear e_x0_0 e_x0_1 e_x0_2 e_x0_3 e_x0_4
      refine (LocalGate_any _ _ _ _ _ _ l0_3 _ _ _ l0_4 _ _ _ _ _ l3 _ x0_3.flat x0_4.ints x3.ints).mono ?_
      rintro e w9' ⟨rfl, u_w9'⟩
      replace B_p0 := B_p0.below u_w9'
      replace B_x0 := B_x0.below u_w9'
      replace x0_3 := x0_3.below u_w9'
      replace x0_4 := x0_4.below u_w9'
      replace x3 := x3.below u_w9'
      have V_w9' := V_w8'.trans (u_w9'.mono (V_w8').size)
      have S_w9' := u_w9'.size
      clear u_w9' V_w8'
      have e_x0_0 : w9'.cell? ⟨w6'.heap.size, 0, none⟩ = some (.int .i64 a0_0) := B_x0.cell 0
      have e_x0_1 : w9'.cell? ⟨w6'.heap.size, 1, none⟩ = some (.int .i64 a0_1) := B_x0.cell 1
      have e_x0_2 : w9'.cell? ⟨w6'.heap.size, 2, none⟩ = some (.int .i64 a0_2) := B_x0.cell 2
      have e_x0_3 : w9'.cell? ⟨w6'.heap.size, 3, none⟩ = some (.slice x_a0_3 n0_3 x_c0_3) := B_x0.cell 3
      have e_x0_4 : w9'.cell? ⟨w6'.heap.size, 4, none⟩ = some (.slice x_a0_4 n0_4 x_c0_4) := B_x0.cell 4
      have e_p0_0 : w9'.cell? ⟨w.heap.size, 0, none⟩ = some (.int .i64 a0_0) := B_p0.cell 0
      have e_p0_1 : w9'.cell? ⟨w.heap.size, 1, none⟩ = some (.int .i64 a0_1) := B_p0.cell 1
      have e_p0_2 : w9'.cell? ⟨w.heap.size, 2, none⟩ = some (.int .i64 a0_2) := B_p0.cell 2
      have e_p0_3 : w9'.cell? ⟨w.heap.size, 3, none⟩ = some (.slice a0_3 n0_3 c0_3) := B_p0.cell 3
      have e_p0_4 : w9'.cell? ⟨w.heap.size, 4, none⟩ = some (.slice a0_4 n0_4 c0_4) := B_p0.cell 4
      go_wp2
      go_region_held3 (fun W => W.cell? ⟨w6'.heap.size, 0, none⟩ = some (.int .i64 a0_0) ∧ W.cell? ⟨w6'.heap.size, 1, none⟩ = some (.int .i64 a0_1) ∧ W.cell? ⟨w6'.heap.size, 2, none⟩ = some (.int .i64 a0_2) ∧ W.cell? ⟨w6'.heap.size, 3, none⟩ = some (.slice x_a0_3 n0_3 x_c0_3) ∧ W.cell? ⟨w6'.heap.size, 4, none⟩ = some (.slice x_a0_4 n0_4 x_c0_4) ∧ W.cell? ⟨w.heap.size, 0, none⟩ = some (.int .i64 a0_0) ∧ W.cell? ⟨w.heap.size, 1, none⟩ = some (.int .i64 a0_1) ∧ W.cell? ⟨w.heap.size, 2, none⟩ = some (.int .i64 a0_2) ∧ W.cell? ⟨w.heap.size, 3, none⟩ = some (.slice a0_3 n0_3 c0_3) ∧ W.cell? ⟨w.heap.size, 4, none⟩ = some (.slice a0_4 n0_4 c0_4))
        (first | go_keep | exact ⟨keepC tv (keepC tu e_x0_0), keepC tv (keepC tu e_x0_1), keepC tv (keepC tu e_x0_2), keepC tv (keepC tu e_x0_3), keepC tv (keepC tu e_x0_4), keepC tv (keepC tu e_p0_0), keepC tv (keepC tu e_p0_1), keepC tv (keepC tu e_p0_2), keepC tv (keepC tu e_p0_3), keepC tv (keepC tu e_p0_4)⟩ | exact ⟨keepC tu e_x0_0, keepC tu e_x0_1, keepC tu e_x0_2, keepC tu e_x0_3, keepC tu e_x0_4, keepC tu e_p0_0, keepC tu e_p0_1, keepC tu e_p0_2, keepC tu e_p0_3, keepC tu e_p0_4⟩)
        (first | (go_at_call 14; refine (toArith_any _ _ _ _ _ _ l0_3 _ _ _ l0_4 _ (z0_3.below V_w9'.drew) (z0_4.below V_w9'.drew) (by omega) (by omega)).mono ?_; rintro e wt ⟨t_a0_3, t_c0_3, t_a0_4, t_c0_4, rfl, t0_3, t0_4, _, tu⟩) | (go_at_call 17; refine (eqArith_same _ _ _ _ _ _ _ _ _ l0_3 _ _ _ _ _ _ l0_4 _ (x0_3.drew.below tu).flat t0_3.flat (x0_4.drew.below tu).ints t0_4.ints).mono ?_; rintro e wq ⟨rfl, tv⟩))
      have u_w10' : Below w9'.heap.size w9' wq := (Below.refl _ _).drew.trans (tu.trans (tv.mono tu.size))
      clear tu tv e_x0_0 e_x0_1 e_x0_2 e_x0_3 e_x0_4 e_p0_0 e_p0_1 e_p0_2 e_p0_3 e_p0_4 t0_3 t0_4
      replace B_p0 := B_p0.below u_w10'
      replace B_x0 := B_x0.below u_w10'
      replace x0_3 := x0_3.below u_w10'
      replace x0_4 := x0_4.below u_w10'
      replace x3 := x3.below u_w10'
      have V_wq := V_w9'.trans (u_w10'.mono (V_w9').size)
      have S_wq := u_w10'.size
      clear u_w10' V_w9'
      generalize wq = w10' at *
      have V_w10' := V_wq
      clear V_wq
      have S_w10' := S_wq
      clear S_wq
      go_wp2_with fail
      refine (toIntS_any _ _ _ l3 _ (z3.below V_w10') hs3).mono ?_
      rintro e w11' ⟨t_a3, t_c3, rfl, t3, u_w11'⟩
      replace B_p0 := B_p0.below u_w11'
      replace B_x0 := B_x0.below u_w11'
      replace x0_3 := x0_3.below u_w11'
      replace x0_4 := x0_4.below u_w11'
      replace x3 := x3.below u_w11'
      have V_w11' := V_w10'.trans (u_w11'.mono (V_w10').size)
      have S_w11' := u_w11'.size
      clear u_w11' V_w10'
      have Q_t3 := Lib.hid t3.feet
      go_wp2_with fail
      refine (eqIntS_b _ _ _ _ _ _ _ _ x3.ints t3.ints).mono ?_
      rintro e w12' ⟨rfl, u_w12'⟩
      replace B_p0 := B_p0.below u_w12'
      replace B_x0 := B_x0.below u_w12'
      replace x0_3 := x0_3.below u_w12'
      replace x0_4 := x0_4.below u_w12'
      replace x3 := x3.below u_w12'
      replace t3 := t3.below u_w12'
      have V_w12' := V_w11'.trans (u_w12'.mono (V_w11').size)
      have S_w12' := u_w12'.size
      clear u_w12' V_w11'
      clear t3
      go_wp2
      go_ret
      exact ⟨rfl, V_w12'⟩
    · skip
      go_enter Try.func3, Try.ntmps3
      go_wp2_with fail
      have V_w13' : Below w.heap.size w (w.alloc (.cells #[.int .i64 a0_0, .int .i64 a0_1, .int .i64 a0_2, .slice a0_3 n0_3 c0_3, .slice a0_4 n0_4 c0_4] 25)) := (((Below.refl w.heap.size w)).alloc (by have := ((Below.refl w.heap.size w)).size; first | exact this | (simp; omega) | simp) _)
      have B_p0 : Blk (w.alloc (.cells #[.int .i64 a0_0, .int .i64 a0_1, .int .i64 a0_2, .slice a0_3 n0_3 c0_3, .slice a0_4 n0_4 c0_4] 25)) (w.heap.size) 25 #[.int .i64 a0_0, .int .i64 a0_1, .int .i64 a0_2, .slice a0_3 n0_3 c0_3, .slice a0_4 n0_4 c0_4] := Blk.new w 25 #[.int .i64 a0_0, .int .i64 a0_1, .int .i64 a0_2, .slice a0_3 n0_3 c0_3, .slice a0_4 n0_4 c0_4]
      have S_w13' : w.heap.size + 1 ≤ (w.alloc (.cells #[.int .i64 a0_0, .int .i64 a0_1, .int .i64 a0_2, .slice a0_3 n0_3 c0_3, .slice a0_4 n0_4 c0_4] 25)).heap.size := by simp
      generalize (w.alloc (.cells #[.int .i64 a0_0, .int .i64 a0_1, .int .i64 a0_2, .slice a0_3 n0_3 c0_3, .slice a0_4 n0_4 c0_4] 25)) = w13' at *
      refine (szArith_no _ _ _ _ _ _ _ _ _ _ _ hn0_3 hn0_4 (by omega) (by omega) (by omega)).mono ?_
      rintro e w14' ⟨rfl, u_w14'⟩
      replace B_p0 := B_p0.below u_w14'
      have V_w14' := V_w13'.trans (u_w14'.mono (V_w13').size)
      have S_w14' := u_w14'.size
      clear u_w14' V_w13'
      go_wp2
      go_ret
      exact ⟨rfl, V_w14'⟩
  · skip
    go_enter Try.func3, Try.ntmps3
    go_wp2
    go_ret
    exact ⟨rfl, ((Below.refl w.heap.size w).alloc (by simp) _)⟩
end Go.Proofs.Ytjnblfnfegjbfaa
