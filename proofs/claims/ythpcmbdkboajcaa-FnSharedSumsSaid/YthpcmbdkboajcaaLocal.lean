/- A party's share of a gate that is no product. -/
import Derived.Test.YthpcmbdkboajcaaIsAr
import Derived.Test.YthpcmbdkboajcaaTriple

namespace Go.Proofs.Ythpcmbdkboajcaa
open Go.RowKit

def localI (P kd a b party : Int) (S : List Int) : Int :=
  if kd = 0 then (S.getD a.toNat 0 + S.getD b.toNat 0) % P else if kd = 2 then (S.getD a.toNat 0 * b) % P else a * (1 - party)
theorem gateB_add {P kd a b own : Int} (h : gateB P kd a b own = true) (hk : kd = 0) : (0 ≤ a ∧ a ≤ own - 1) ∧ (0 ≤ b ∧ b ≤ own - 1) := by
  unfold gateB at h
  rw [if_pos (Or.inl hk), Bool.and_eq_true] at h
  exact ⟨inB_true h.1, inB_true h.2⟩
theorem gateB_mul {P kd a b own : Int} (h : gateB P kd a b own = true) (hk : kd = 1) : (0 ≤ a ∧ a ≤ own - 1) ∧ (0 ≤ b ∧ b ≤ own - 1) := by
  unfold gateB at h
  rw [if_pos (Or.inr hk), Bool.and_eq_true] at h
  exact ⟨inB_true h.1, inB_true h.2⟩
theorem gateB_scale {P kd a b own : Int} (h : gateB P kd a b own = true) (hk : kd = 2) : (0 ≤ a ∧ a ≤ own - 1) ∧ (0 ≤ b ∧ b ≤ P - 1) := by
  unfold gateB at h
  rw [if_neg (by omega), if_pos hk, Bool.and_eq_true] at h
  exact ⟨inB_true h.1, inB_true h.2⟩
theorem gateB_const {P kd a b own : Int} (h : gateB P kd a b own = true) (h0 : kd ≠ 0) (h1 : kd ≠ 1) (h2 : kd ≠ 2) : kd = 3 ∧ (0 ≤ a ∧ a ≤ P - 1) ∧ b = 0 := by
  unfold gateB at h
  rw [if_neg (by omega), if_neg h2] at h
  split at h
  · rename_i h3
    simp only [Bool.and_eq_true, beq_iff_eq] at h
    exact ⟨h3, inB_true h.1, h.2⟩
  · cases h
theorem getD_rng {S : List Int} {P : Int} (h : ∀ x ∈ S, 0 ≤ x ∧ x ≤ P - 1) (q : Nat) (hq : q < S.length) : 0 ≤ S.getD q 0 ∧ S.getD q 0 ≤ P - 1 := h _ (getD_mem S q hq)
set_option maxHeartbeats 4000000 in
set_option maxRecDepth 100000 in
theorem localGate_any (P kd a b party own : Int) (sa : Option Addr) (sn sc : Nat) (S : List Int) (w : World) (hS : Ints w sa sn sc S) (hp : 1 ≤ P) (hp2 : P ≤ 1000) (hs : ∀ x ∈ S, 0 ≤ x ∧ x ≤ P - 1) (hg : gateB P kd a b own = true) (hk : kd ≠ 1) (ho : own ≤ sn) (q0 : 0 ≤ party) (q1 : party ≤ 1) :
    Calls Try.prog 67 #[.int .i64 P, .agg #[.int .i64 kd, .int .i64 a, .int .i64 b], .int .i64 party, .slice sa sn sc] w fun e w' => e = .returned (.int .i64 (localI P kd a b party S)) ∧ Below w.heap.size w w' := by
  have V0 : Below w.heap.size w (w.alloc (.cells #[.int .i64 kd, .int .i64 a, .int .i64 b] 78)) := (Below.refl _ _).alloc (Nat.le_refl _) _
  have B0 : Blk (w.alloc (.cells #[.int .i64 kd, .int .i64 a, .int .i64 b] 78)) w.heap.size 78 #[.int .i64 kd, .int .i64 a, .int .i64 b] := Blk.new w _ _
  have h1 := hS.below V0
  have hl := hS.len
  unfold localI
  by_cases k0 : kd = 0
  · obtain ⟨⟨a0, a1⟩, b0, b1⟩ := gateB_add hg k0
    subst k0
    rw [if_pos rfl]
    obtain ⟨an, rfl⟩ : ∃ n : Nat, a = n := ⟨a.toNat, by omega⟩
    obtain ⟨bn, rfl⟩ : ∃ n : Nat, b = n := ⟨b.toNat, by omega⟩
    simp only [Int.toNat_natCast]
    have ra := getD_rng hs an (by omega)
    have rb := getD_rng hs bn (by omega)
    obtain ⟨g, o, rfl, hc⟩ := h1.cells (by omega)
    have ca := hc an (by omega)
    have cb := hc bn (by omega)
    have la : an < sn := by omega
    have lb : bn < sn := by omega
    clear hc
    generalize S.getD an 0 = xa at *
    generalize S.getD bn 0 = xb at *
    have t1 : IntKind.i64.wrap (xa + xb) = xa + xb := IntWalk.i64_in _ (by omega)
    clear hs hg hk h1 hS ra rb hl
    go_enter Try.func67, Try.ntmps67
    go_wp2
    generalize (w.alloc (.cells #[.int .i64 0, .int .i64 (an : Int), .int .i64 (bn : Int)] 78)) = w1 at *
    have e0 : w1.cell? ⟨w.heap.size, 0, none⟩ = some (.int .i64 0) := B0.cell 0
    have e1 : w1.cell? ⟨w.heap.size, 1, none⟩ = some (.int .i64 an) := B0.cell 1
    have e2 : w1.cell? ⟨w.heap.size, 2, none⟩ = some (.int .i64 bn) := B0.cell 2
    go_region_held3 (fun W => W.cell? ⟨w.heap.size, 1, none⟩ = some (.int .i64 an) ∧ W.cell? ⟨w.heap.size, 2, none⟩ = some (.int .i64 bn) ∧ W.cell? ⟨g, o + an, none⟩ = some (.int .i64 xa) ∧ W.cell? ⟨g, o + bn, none⟩ = some (.int .i64 xb))
      (go_keep)
      (first | (go_at_call 59; refine (mod_same _ _ _ hp (by omega)).mono ?_; rintro e w' ⟨rfl, rfl⟩))
    all_goals go_wp2
    all_goals go_ret
    all_goals exact ⟨rfl, V0.drew⟩
  rw [if_neg k0]
  by_cases k2 : kd = 2
  · obtain ⟨⟨a0, a1⟩, b0, b1⟩ := gateB_scale hg k2
    subst k2
    rw [if_pos rfl]
    obtain ⟨an, rfl⟩ : ∃ n : Nat, a = n := ⟨a.toNat, by omega⟩
    simp only [Int.toNat_natCast]
    have ra := getD_rng hs an (by omega)
    obtain ⟨g, o, rfl, hc⟩ := h1.cells (by omega)
    have ca := hc an (by omega)
    have la : an < sn := by omega
    clear hc
    generalize S.getD an 0 = xa at *
    obtain ⟨m0, m1⟩ := mul_rng (a := xa) (b := b) (by omega) (by omega) (by omega) (by omega)
    have t1 : IntKind.i64.wrap (xa * b) = xa * b := IntWalk.i64_in _ (by omega)
    clear hs hg hk h1 hS ra hl k0
    go_enter Try.func67, Try.ntmps67
    go_wp2
    generalize (w.alloc (.cells #[.int .i64 2, .int .i64 (an : Int), .int .i64 b] 78)) = w1 at *
    have e1 : w1.cell? ⟨w.heap.size, 1, none⟩ = some (.int .i64 an) := B0.cell 1
    have e2 : w1.cell? ⟨w.heap.size, 2, none⟩ = some (.int .i64 b) := B0.cell 2
    go_region_held3 (fun W => W.cell? ⟨w.heap.size, 1, none⟩ = some (.int .i64 an) ∧ W.cell? ⟨w.heap.size, 2, none⟩ = some (.int .i64 b) ∧ W.cell? ⟨g, o + an, none⟩ = some (.int .i64 xa))
      (go_keep)
      (first | (go_at_call 59; refine (mod_same _ _ _ hp (by omega)).mono ?_; rintro e w' ⟨rfl, rfl⟩))
    all_goals go_wp2
    all_goals go_ret
    all_goals exact ⟨rfl, V0.drew⟩
  · obtain ⟨k3, ⟨a0, a1⟩, rfl⟩ := gateB_const hg k0 hk k2
    subst k3
    rw [if_neg k2]
    obtain ⟨m0, m1⟩ := mul_rng (a := a) (b := 1 - party) (by omega) (by omega) (by omega) (by omega)
    obtain ⟨X, hX⟩ : ∃ X, X = a * (1 - party) := ⟨_, rfl⟩
    rw [← hX] at m0 m1
    have HX := Lib.hid hX
    have t1 : wrap64 (a * (1 - party)) = X := by rw [← hX]; exact IntWalk.wrap64_in (by omega) (by omega)
    have t2 : IntKind.i64.wrap (a * (1 - party)) = X := by rw [← hX]; exact IntWalk.i64_in _ (by omega)
    rw [← hX]
    clear hX hs hg hk h1 hS hl k0 k2
    go_enter Try.func67, Try.ntmps67
    go_wp2
    go_ret
    exact ⟨rfl, V0⟩
set_option maxHeartbeats 4000000 in
set_option maxRecDepth 100000 in
theorem smLocal_any (P i0 i1 : Int) (ga : Option Addr) (gn gc : Nat) (G : List Int) (oa : Option Addr) (on oc : Nat) (party own : Int) (k : Nat) (sa : Option Addr) (sn sc : Nat) (S : List Int) (w : World) (hG : Flat 3 w ga gn gc G) (hS : Ints w sa sn sc S) (hp : 1 ≤ P) (hp2 : P ≤ 1000) (hs : ∀ x ∈ S, 0 ≤ x ∧ x ≤ P - 1)
    (hkn : k < gn) (hg : gateB P (G.getD (k * 3) 0) (G.getD (k * 3 + 1) 0) (G.getD (k * 3 + 2) 0) own = true) (hk : G.getD (k * 3) 0 ≠ 1) (ho : own ≤ sn) (q0 : 0 ≤ party) (q1 : party ≤ 1) :
    Calls Try.prog 69 #[.agg #[.int .i64 P, .int .i64 i0, .int .i64 i1, .slice ga gn gc, .slice oa on oc], .int .i64 party, .int .i64 k, .slice sa sn sc] w fun e w' => e = .returned (.int .i64 (localI P (G.getD (k * 3) 0) (G.getD (k * 3 + 1) 0) (G.getD (k * 3 + 2) 0) party S)) ∧ Below w.heap.size w w' := by
  have hgl := hG.le
  obtain ⟨g, o, rfl, hc⟩ := hG.at (by omega)
  have c0 : w.cell? ⟨g, o + k * 3, none⟩ = some (.int .i64 (G.getD (k * 3) 0)) := hc (k * 3) (by omega)
  have c1 : w.cell? ⟨g, o + k * 3 + 1, none⟩ = some (.int .i64 (G.getD (k * 3 + 1) 0)) := by have := hc (k * 3 + 1) (by omega); simpa only [Nat.add_assoc] using this
  have c2 : w.cell? ⟨g, o + k * 3 + 2, none⟩ = some (.int .i64 (G.getD (k * 3 + 2) 0)) := by have := hc (k * 3 + 2) (by omega); simpa only [Nat.add_assoc] using this
  clear hc hG
  generalize G.getD (k * 3) 0 = kd at *
  generalize G.getD (k * 3 + 1) 0 = a at *
  generalize G.getD (k * 3 + 2) 0 = b at *
  replace c0 := keepA (.cells #[.int .i64 P, .int .i64 i0, .int .i64 i1, .slice (some ⟨g, o, none⟩) gn gc, .slice oa on oc] 41) c0
  replace c1 := keepA (.cells #[.int .i64 P, .int .i64 i0, .int .i64 i1, .slice (some ⟨g, o, none⟩) gn gc, .slice oa on oc] 41) c1
  replace c2 := keepA (.cells #[.int .i64 P, .int .i64 i0, .int .i64 i1, .slice (some ⟨g, o, none⟩) gn gc, .slice oa on oc] 41) c2
  have V0 : Below w.heap.size w ((w.alloc (.cells #[.int .i64 P, .int .i64 i0, .int .i64 i1, .slice (some ⟨g, o, none⟩) gn gc, .slice oa on oc] 41)).alloc (.cells #[.int .i64 kd, .int .i64 a, .int .i64 b] 78)) := ((Below.refl _ _).alloc (Nat.le_refl _) _).alloc (by simp) _
  have B0 : Blk ((w.alloc (.cells #[.int .i64 P, .int .i64 i0, .int .i64 i1, .slice (some ⟨g, o, none⟩) gn gc, .slice oa on oc] 41)).alloc (.cells #[.int .i64 kd, .int .i64 a, .int .i64 b] 78)) w.heap.size 41 #[.int .i64 P, .int .i64 i0, .int .i64 i1, .slice (some ⟨g, o, none⟩) gn gc, .slice oa on oc] := (Blk.new w _ _).alloc _
  have B1 : Blk ((w.alloc (.cells #[.int .i64 P, .int .i64 i0, .int .i64 i1, .slice (some ⟨g, o, none⟩) gn gc, .slice oa on oc] 41)).alloc (.cells #[.int .i64 kd, .int .i64 a, .int .i64 b] 78)) (w.heap.size + 1) 78 #[.int .i64 kd, .int .i64 a, .int .i64 b] := by simpa using (Blk.new (w.alloc _) 78 #[.int .i64 kd, .int .i64 a, .int .i64 b] : Blk ((w.alloc (.cells #[.int .i64 P, .int .i64 i0, .int .i64 i1, .slice (some ⟨g, o, none⟩) gn gc, .slice oa on oc] 41)).alloc (.cells #[.int .i64 kd, .int .i64 a, .int .i64 b] 78)) _ _ _)
  have h1 := hS.below V0
  have hl := hS.len
  have t7 : (P == 0) = false := by simp; omega
  have t8 : (P = 0) = False := by simp; omega
  unfold localI
  by_cases k0 : kd = 0
  · obtain ⟨⟨a0, a1⟩, b0, b1⟩ := gateB_add hg k0
    subst k0
    rw [if_pos rfl]
    obtain ⟨an, rfl⟩ : ∃ n : Nat, a = n := ⟨a.toNat, by omega⟩
    obtain ⟨bn, rfl⟩ : ∃ n : Nat, b = n := ⟨b.toNat, by omega⟩
    simp only [Int.toNat_natCast]
    have ra := getD_rng hs an (by omega)
    have rb := getD_rng hs bn (by omega)
    obtain ⟨gs, os, rfl, hc⟩ := h1.cells (by omega)
    have ca := hc an (by omega)
    have cb := hc bn (by omega)
    have la : an < sn := by omega
    have lb : bn < sn := by omega
    clear hc
    generalize S.getD an 0 = xa at *
    generalize S.getD bn 0 = xb at *
    have t1 : IntKind.i64.wrap (xa + xb) = xa + xb := IntWalk.i64_in _ (by omega)
    have t2 : (xa + xb).tmod P = (xa + xb) % P := Int.tmod_eq_emod_of_nonneg (by omega)
    have t3 : IntKind.i64.wrap ((xa + xb) % P) = (xa + xb) % P := IntWalk.i64_in _ (by have := mod_rng (xa + xb) P hp; omega)
    clear hs hg hk h1 hS ra rb hl
    go_enter Try.func69, Try.ntmps69
    go_wp2
    generalize ((w.alloc (.cells #[.int .i64 P, .int .i64 i0, .int .i64 i1, .slice (some ⟨g, o, none⟩) gn gc, .slice oa on oc] 41)).alloc (.cells #[.int .i64 0, .int .i64 (an : Int), .int .i64 (bn : Int)] 78)) = w1 at *
    have e0 : w1.cell? ⟨w.heap.size, 0, none⟩ = some (.int .i64 P) := B0.cell 0
    have e1 : w1.cell? ⟨w.heap.size + 1, 1, none⟩ = some (.int .i64 an) := B1.cell 1
    have e2 : w1.cell? ⟨w.heap.size + 1, 2, none⟩ = some (.int .i64 bn) := B1.cell 2
    go_region_held3 (fun W => W.cell? ⟨w.heap.size, 0, none⟩ = some (.int .i64 P) ∧ W.cell? ⟨w.heap.size + 1, 1, none⟩ = some (.int .i64 an) ∧ W.cell? ⟨w.heap.size + 1, 2, none⟩ = some (.int .i64 bn) ∧ W.cell? ⟨gs, os + an, none⟩ = some (.int .i64 xa) ∧ W.cell? ⟨gs, os + bn, none⟩ = some (.int .i64 xb))
      (go_keep)
      (fail)
    all_goals go_wp2
    all_goals go_ret
    all_goals exact ⟨rfl, V0.drew⟩
  rw [if_neg k0]
  by_cases k2 : kd = 2
  · obtain ⟨⟨a0, a1⟩, b0, b1⟩ := gateB_scale hg k2
    subst k2
    rw [if_pos rfl]
    obtain ⟨an, rfl⟩ : ∃ n : Nat, a = n := ⟨a.toNat, by omega⟩
    simp only [Int.toNat_natCast]
    have ra := getD_rng hs an (by omega)
    obtain ⟨gs, os, rfl, hc⟩ := h1.cells (by omega)
    have ca := hc an (by omega)
    have la : an < sn := by omega
    clear hc
    generalize S.getD an 0 = xa at *
    obtain ⟨m0, m1⟩ := mul_rng (a := xa) (b := b) (by omega) (by omega) (by omega) (by omega)
    obtain ⟨X, hX⟩ : ∃ X, X = xa * b := ⟨_, rfl⟩
    rw [← hX] at m0 m1
    have t1 : IntKind.i64.wrap (xa * b) = X := by rw [← hX]; exact IntWalk.i64_in _ (by omega)
    have t2 : X.tmod P = X % P := Int.tmod_eq_emod_of_nonneg m0
    have t3 : IntKind.i64.wrap (X % P) = X % P := IntWalk.i64_in _ (by have := mod_rng X P hp; omega)
    rw [← hX]
    clear hX hs hg hk h1 hS ra hl k0
    go_enter Try.func69, Try.ntmps69
    go_wp2
    generalize ((w.alloc (.cells #[.int .i64 P, .int .i64 i0, .int .i64 i1, .slice (some ⟨g, o, none⟩) gn gc, .slice oa on oc] 41)).alloc (.cells #[.int .i64 2, .int .i64 (an : Int), .int .i64 b] 78)) = w1 at *
    have e0 : w1.cell? ⟨w.heap.size, 0, none⟩ = some (.int .i64 P) := B0.cell 0
    have e1 : w1.cell? ⟨w.heap.size + 1, 1, none⟩ = some (.int .i64 an) := B1.cell 1
    have e2 : w1.cell? ⟨w.heap.size + 1, 2, none⟩ = some (.int .i64 b) := B1.cell 2
    go_region_held3 (fun W => W.cell? ⟨w.heap.size, 0, none⟩ = some (.int .i64 P) ∧ W.cell? ⟨w.heap.size + 1, 1, none⟩ = some (.int .i64 an) ∧ W.cell? ⟨w.heap.size + 1, 2, none⟩ = some (.int .i64 b) ∧ W.cell? ⟨gs, os + an, none⟩ = some (.int .i64 xa))
      (go_keep)
      (fail)
    all_goals go_wp2
    all_goals go_ret
    all_goals exact ⟨rfl, V0.drew⟩
  · obtain ⟨k3, ⟨a0, a1⟩, rfl⟩ := gateB_const hg k0 hk k2
    subst k3
    rw [if_neg k2, Int.mul_comm]
    obtain ⟨m0, m1⟩ := mul_rng (a := 1 - party) (b := a) (by omega) (by omega) (by omega) (by omega)
    obtain ⟨X, hX⟩ : ∃ X, X = (1 - party) * a := ⟨_, rfl⟩
    rw [← hX] at m0 m1
    have t1 : wrap64 ((1 - party) * a) = X := by rw [← hX]; exact IntWalk.wrap64_in (by omega) (by omega)
    have t2 : IntKind.i64.wrap ((1 - party) * a) = X := by rw [← hX]; exact IntWalk.i64_in _ (by omega)
    rw [← hX]
    clear hX hs hg hk h1 hS hl k0 k2
    go_enter Try.func69, Try.ntmps69
    go_wp2
    go_ret
    exact ⟨rfl, V0⟩
/-- The arguments of LocalGate are valid. -/
def lgB (P i0 i1 : Int) (gn : Nat) (G O : List Int) (party k : Int) (S : List Int) : Bool :=
  arB P i0 i1 gn G O && inB party 0 1 && inB k 0 (gn - 1) && !(G.getD (k.toNat * 3) 0 == 1) && elsB P S && decide ((S.length : Int) = i0 + i1 + k)
def lgV (P i0 i1 : Int) (gn : Nat) (G O : List Int) (party k : Int) (S : List Int) : Int :=
  if lgB P i0 i1 gn G O party k S then localI P (G.getD (k.toNat * 3) 0) (G.getD (k.toNat * 3 + 1) 0) (G.getD (k.toNat * 3 + 2) 0) party S else 0
theorem arB_rng {P i0 i1 : Int} {gn : Nat} {G O : List Int} {k : Nat} (h : arB P i0 i1 gn G O = true) (hk : k < gn) : (0 ≤ i0 ∧ i0 ≤ 8) ∧ (0 ≤ i1 ∧ i1 ≤ 8) ∧ gn ≤ 100 ∧ isPr P = true ∧ gateAt P (i0 + i1) G k = true := by
  simp only [arB, Bool.and_eq_true, decide_eq_true_eq] at h
  obtain ⟨⟨⟨⟨⟨⟨h1, h2⟩, h3⟩, h4⟩, _⟩, h6⟩, _⟩ := h
  exact ⟨inB_true h2, inB_true h3, h4, h1, List.all_eq_true.1 h6 k (List.mem_range.2 hk)⟩
set_option maxHeartbeats 8000000 in
set_option maxRecDepth 100000 in
theorem LocalGate_any (P i0 i1 : Int) (ga : Option Addr) (gn gc : Nat) (G : List Int) (oa : Option Addr) (on oc : Nat) (O : List Int) (party k : Int) (sa : Option Addr) (sn sc : Nat) (S : List Int) (w : World) (hG : Flat 3 w ga gn gc G) (hO : Ints w oa on oc O) (hS : Ints w sa sn sc S) :
    Calls Try.prog 18 #[.agg #[.int .i64 P, .int .i64 i0, .int .i64 i1, .slice ga gn gc, .slice oa on oc], .int .i64 party, .int .i64 k, .slice sa sn sc] w fun e w' => e = .returned (.tuple #[.int .i64 (lgV P i0 i1 gn G O party k S), .bool (lgB P i0 i1 gn G O party k S)]) ∧ Below w.heap.size w w' := by
  have hgl := hG.le
  have hsl := hS.le
  unfold lgV
  cases h1 : arB P i0 i1 gn G O
  · skip
    have HB : Hid (lgB P i0 i1 gn G O party k S = false) := Lib.hid (by unfold lgB; rw [h1]; simp only [Bool.false_and])
    rw [HB.out]
    simp only [Bool.false_eq_true, if_false]
    have V0 : Below w.heap.size w (w.alloc (.cells #[.int .i64 P, .int .i64 i0, .int .i64 i1, .slice ga gn gc, .slice oa on oc] 41)) := (Below.refl _ _).alloc (Nat.le_refl _) _
    have B0 : Blk (w.alloc (.cells #[.int .i64 P, .int .i64 i0, .int .i64 i1, .slice ga gn gc, .slice oa on oc] 41)) w.heap.size 41 #[.int .i64 P, .int .i64 i0, .int .i64 i1, .slice ga gn gc, .slice oa on oc] := Blk.new w _ _
    go_enter Try.func18, Try.ntmps18
    go_wp2_with fail
    generalize (w.alloc (.cells #[.int .i64 P, .int .i64 i0, .int .i64 i1, .slice ga gn gc, .slice oa on oc] 41)) = w0 at *
    refine (IsArith_any _ _ _ _ _ _ G _ _ _ O _ (hG.below V0) (hO.below V0)).mono ?_; rintro e w1 ⟨rfl, u⟩
    rw [h1]
    have V1 := V0.trans (u.mono V0.size)
    have B1 := B0.below u
    clear u
    go_wp2
    go_ret2
    exact ⟨rfl, V1⟩
  cases h2 : inB party 0 1
  · skip
    have HB : Hid (lgB P i0 i1 gn G O party k S = false) := Lib.hid (by unfold lgB; rw [h2]; simp only [Bool.false_and, Bool.and_false])
    rw [HB.out]
    simp only [Bool.false_eq_true, if_false]
    have V0 : Below w.heap.size w (w.alloc (.cells #[.int .i64 P, .int .i64 i0, .int .i64 i1, .slice ga gn gc, .slice oa on oc] 41)) := (Below.refl _ _).alloc (Nat.le_refl _) _
    have B0 : Blk (w.alloc (.cells #[.int .i64 P, .int .i64 i0, .int .i64 i1, .slice ga gn gc, .slice oa on oc] 41)) w.heap.size 41 #[.int .i64 P, .int .i64 i0, .int .i64 i1, .slice ga gn gc, .slice oa on oc] := Blk.new w _ _
    go_enter Try.func18, Try.ntmps18
    go_wp2_with fail
    generalize (w.alloc (.cells #[.int .i64 P, .int .i64 i0, .int .i64 i1, .slice ga gn gc, .slice oa on oc] 41)) = w0 at *
    refine (IsArith_any _ _ _ _ _ _ G _ _ _ O _ (hG.below V0) (hO.below V0)).mono ?_; rintro e w1 ⟨rfl, u⟩
    rw [h1]
    have V1 := V0.trans (u.mono V0.size)
    have B1 := B0.below u
    clear u
    go_wp2_with fail
    refine (isBit_any _ _).mono ?_; rintro e w2 ⟨rfl, q⟩
    have u := below_of_quiet q
    clear q
    rw [show bitB party = inB party 0 1 from rfl, h2]
    have V2 := V1.trans (u.mono V1.size)
    have B2 := B1.below u
    clear u
    go_wp2
    go_ret2
    exact ⟨rfl, V2⟩
  cases h3 : inB k 0 (gn - 1)
  · skip
    have HB : Hid (lgB P i0 i1 gn G O party k S = false) := Lib.hid (by unfold lgB; rw [h3]; simp only [Bool.false_and, Bool.and_false])
    rw [HB.out]
    simp only [Bool.false_eq_true, if_false]
    have V0 : Below w.heap.size w (w.alloc (.cells #[.int .i64 P, .int .i64 i0, .int .i64 i1, .slice ga gn gc, .slice oa on oc] 41)) := (Below.refl _ _).alloc (Nat.le_refl _) _
    have B0 : Blk (w.alloc (.cells #[.int .i64 P, .int .i64 i0, .int .i64 i1, .slice ga gn gc, .slice oa on oc] 41)) w.heap.size 41 #[.int .i64 P, .int .i64 i0, .int .i64 i1, .slice ga gn gc, .slice oa on oc] := Blk.new w _ _
    go_enter Try.func18, Try.ntmps18
    go_wp2_with fail
    generalize (w.alloc (.cells #[.int .i64 P, .int .i64 i0, .int .i64 i1, .slice ga gn gc, .slice oa on oc] 41)) = w0 at *
    refine (IsArith_any _ _ _ _ _ _ G _ _ _ O _ (hG.below V0) (hO.below V0)).mono ?_; rintro e w1 ⟨rfl, u⟩
    rw [h1]
    have V1 := V0.trans (u.mono V0.size)
    have B1 := B0.below u
    clear u
    go_wp2_with fail
    refine (isBit_any _ _).mono ?_; rintro e w2 ⟨rfl, q⟩
    have u := below_of_quiet q
    clear q
    rw [show bitB party = inB party 0 1 from rfl, h2]
    have V2 := V1.trans (u.mono V1.size)
    have B2 := B1.below u
    clear u
    have x3 : w2.cell? ⟨w.heap.size, 3, none⟩ = some (.slice ga gn gc) := B2.cell 3
    go_wp2_with fail
    refine (within_any _ _ _ _).mono ?_; rintro e w' ⟨rfl, rfl⟩
    rw [h3]
    clear x3
    go_wp2
    go_ret2
    exact ⟨rfl, V2⟩
  obtain ⟨k0, k1⟩ := inB_true h3
  obtain ⟨kn, rfl⟩ : ∃ n : Nat, k = n := ⟨k.toNat, by omega⟩
  have hkn : kn < gn := by omega
  obtain ⟨g, o, rfl, _⟩ := hG.at (by omega)
  by_cases h4 : G.getD (kn * 3) 0 = 1
  · skip
    have HB : Hid (lgB P i0 i1 gn G O party kn S = false) := Lib.hid (by unfold lgB; rw [Int.toNat_natCast, h4]; simp)
    rw [HB.out]
    simp only [Bool.false_eq_true, if_false]
    have V0 : Below w.heap.size w (w.alloc (.cells #[.int .i64 P, .int .i64 i0, .int .i64 i1, .slice (some ⟨g, o, none⟩) gn gc, .slice oa on oc] 41)) := (Below.refl _ _).alloc (Nat.le_refl _) _
    have B0 : Blk (w.alloc (.cells #[.int .i64 P, .int .i64 i0, .int .i64 i1, .slice (some ⟨g, o, none⟩) gn gc, .slice oa on oc] 41)) w.heap.size 41 #[.int .i64 P, .int .i64 i0, .int .i64 i1, .slice (some ⟨g, o, none⟩) gn gc, .slice oa on oc] := Blk.new w _ _
    go_enter Try.func18, Try.ntmps18
    go_wp2_with fail
    generalize (w.alloc (.cells #[.int .i64 P, .int .i64 i0, .int .i64 i1, .slice (some ⟨g, o, none⟩) gn gc, .slice oa on oc] 41)) = w0 at *
    refine (IsArith_any _ _ _ _ _ _ G _ _ _ O _ (hG.below V0) (hO.below V0)).mono ?_; rintro e w1 ⟨rfl, u⟩
    rw [h1]
    have V1 := V0.trans (u.mono V0.size)
    have B1 := B0.below u
    clear u
    go_wp2_with fail
    refine (isBit_any _ _).mono ?_; rintro e w2 ⟨rfl, q⟩
    have u := below_of_quiet q
    clear q
    rw [show bitB party = inB party 0 1 from rfl, h2]
    have V2 := V1.trans (u.mono V1.size)
    have B2 := B1.below u
    clear u
    have x3 : w2.cell? ⟨w.heap.size, 3, none⟩ = some (.slice (some ⟨g, o, none⟩) gn gc) := B2.cell 3
    go_wp2_with fail
    refine (within_any _ _ _ _).mono ?_; rintro e w' ⟨rfl, rfl⟩
    rw [h3]
    clear x3
    obtain ⟨_, _, E, hc⟩ := (hG.below V2).at (by omega)
    cases E
    have d0 : w2.cell? ⟨g, o + kn * 3, none⟩ = some (.int .i64 (G.getD (kn * 3) 0)) := hc (kn * 3) (by omega)
    have d1 : w2.cell? ⟨g, o + kn * 3 + 1, none⟩ = some (.int .i64 (G.getD (kn * 3 + 1) 0)) := by have := hc (kn * 3 + 1) (by omega); simpa only [Nat.add_assoc] using this
    have d2 : w2.cell? ⟨g, o + kn * 3 + 2, none⟩ = some (.int .i64 (G.getD (kn * 3 + 2) 0)) := by have := hc (kn * 3 + 2) (by omega); simpa only [Nat.add_assoc] using this
    clear hc
    rw [h4] at d0
    clear h4
    have x3 : w2.cell? ⟨w.heap.size, 3, none⟩ = some (.slice (some ⟨g, o, none⟩) gn gc) := B2.cell 3
    go_wp2
    go_ret2
    exact ⟨rfl, V2⟩
  have f4 : ((G.getD (kn * 3) 0 == 1) : Bool) = false := by simpa using h4
  obtain ⟨kd, hkd⟩ : ∃ x, G.getD (kn * 3) 0 = x := ⟨_, rfl⟩
  rw [hkd] at f4 h4
  have HKD := Lib.hid hkd
  clear hkd
  cases h5 : elsB P S
  · skip
    have HB : Hid (lgB P i0 i1 gn G O party kn S = false) := Lib.hid (by unfold lgB; rw [h5]; simp)
    rw [HB.out]
    simp only [Bool.false_eq_true, if_false]
    clear h4
    have V0 : Below w.heap.size w (w.alloc (.cells #[.int .i64 P, .int .i64 i0, .int .i64 i1, .slice (some ⟨g, o, none⟩) gn gc, .slice oa on oc] 41)) := (Below.refl _ _).alloc (Nat.le_refl _) _
    have B0 : Blk (w.alloc (.cells #[.int .i64 P, .int .i64 i0, .int .i64 i1, .slice (some ⟨g, o, none⟩) gn gc, .slice oa on oc] 41)) w.heap.size 41 #[.int .i64 P, .int .i64 i0, .int .i64 i1, .slice (some ⟨g, o, none⟩) gn gc, .slice oa on oc] := Blk.new w _ _
    go_enter Try.func18, Try.ntmps18
    go_wp2_with fail
    generalize (w.alloc (.cells #[.int .i64 P, .int .i64 i0, .int .i64 i1, .slice (some ⟨g, o, none⟩) gn gc, .slice oa on oc] 41)) = w0 at *
    refine (IsArith_any _ _ _ _ _ _ G _ _ _ O _ (hG.below V0) (hO.below V0)).mono ?_; rintro e w1 ⟨rfl, u⟩
    rw [h1]
    have V1 := V0.trans (u.mono V0.size)
    have B1 := B0.below u
    clear u
    go_wp2_with fail
    refine (isBit_any _ _).mono ?_; rintro e w2 ⟨rfl, q⟩
    have u := below_of_quiet q
    clear q
    rw [show bitB party = inB party 0 1 from rfl, h2]
    have V2 := V1.trans (u.mono V1.size)
    have B2 := B1.below u
    clear u
    have x3 : w2.cell? ⟨w.heap.size, 3, none⟩ = some (.slice (some ⟨g, o, none⟩) gn gc) := B2.cell 3
    go_wp2_with fail
    refine (within_any _ _ _ _).mono ?_; rintro e w' ⟨rfl, rfl⟩
    rw [h3]
    clear x3
    obtain ⟨_, _, E, hc⟩ := (hG.below V2).at (by omega)
    cases E
    have d0 : w2.cell? ⟨g, o + kn * 3, none⟩ = some (.int .i64 (G.getD (kn * 3) 0)) := hc (kn * 3) (by omega)
    have d1 : w2.cell? ⟨g, o + kn * 3 + 1, none⟩ = some (.int .i64 (G.getD (kn * 3 + 1) 0)) := by have := hc (kn * 3 + 1) (by omega); simpa only [Nat.add_assoc] using this
    have d2 : w2.cell? ⟨g, o + kn * 3 + 2, none⟩ = some (.int .i64 (G.getD (kn * 3 + 2) 0)) := by have := hc (kn * 3 + 2) (by omega); simpa only [Nat.add_assoc] using this
    clear hc
    have x0 : w2.cell? ⟨w.heap.size, 0, none⟩ = some (.int .i64 P) := B2.cell 0
    have x1 : w2.cell? ⟨w.heap.size, 1, none⟩ = some (.int .i64 i0) := B2.cell 1
    have x2 : w2.cell? ⟨w.heap.size, 2, none⟩ = some (.int .i64 i1) := B2.cell 2
    have x3 : w2.cell? ⟨w.heap.size, 3, none⟩ = some (.slice (some ⟨g, o, none⟩) gn gc) := B2.cell 3
    have x4 : w2.cell? ⟨w.heap.size, 4, none⟩ = some (.slice oa on oc) := B2.cell 4
    rw [HKD.out] at d0
    go_wp2_with fail
    refine (areElements_any _ _ _ _ S _ (hS.below V2)).mono ?_; rintro e w3 ⟨rfl, u⟩
    rw [h5]
    clear d0 d1 d2 x0 x1 x2 x3 x4
    have V3 := V2.trans (u.mono V2.size)
    have B3 := B2.below u
    clear u
    go_wp2
    go_ret2
    exact ⟨rfl, V3⟩
  have hr : (0 ≤ i0 ∧ i0 ≤ 8) ∧ (0 ≤ i1 ∧ i1 ≤ 8) ∧ gn ≤ 100 ∧ isPr P = true ∧ gateAt P (i0 + i1) G kn = true := arB_rng h1 hkn
  obtain ⟨⟨r0, r0'⟩, ⟨r1, r1'⟩, r2, hpr, hga⟩ := hr
  have HGA := Lib.hid hga
  clear hga
  have hsz := hS.len
  have t1 : IntKind.i64.wrap (i0 + i1 + (kn : Int)) = i0 + i1 + kn := IntWalk.i64_in _ (by omega)
  by_cases h6 : (sn : Int) = i0 + i1 + kn
  case neg =>
    have f6 : (((sn : Int) != i0 + i1 + (kn : Int)) : Bool) = true := by simp; omega
    have h6' : ¬ ((S.length : Nat) : Int) = i0 + i1 + kn := by omega
    have HB : Hid (lgB P i0 i1 gn G O party kn S = false) := Lib.hid (by unfold lgB; rw [decide_eq_false h6']; simp)
    rw [HB.out]
    simp only [Bool.false_eq_true, if_false]
    clear h4 h6' hsz h6
    have V0 : Below w.heap.size w (w.alloc (.cells #[.int .i64 P, .int .i64 i0, .int .i64 i1, .slice (some ⟨g, o, none⟩) gn gc, .slice oa on oc] 41)) := (Below.refl _ _).alloc (Nat.le_refl _) _
    have B0 : Blk (w.alloc (.cells #[.int .i64 P, .int .i64 i0, .int .i64 i1, .slice (some ⟨g, o, none⟩) gn gc, .slice oa on oc] 41)) w.heap.size 41 #[.int .i64 P, .int .i64 i0, .int .i64 i1, .slice (some ⟨g, o, none⟩) gn gc, .slice oa on oc] := Blk.new w _ _
    go_enter Try.func18, Try.ntmps18
    go_wp2_with fail
    generalize (w.alloc (.cells #[.int .i64 P, .int .i64 i0, .int .i64 i1, .slice (some ⟨g, o, none⟩) gn gc, .slice oa on oc] 41)) = w0 at *
    refine (IsArith_any _ _ _ _ _ _ G _ _ _ O _ (hG.below V0) (hO.below V0)).mono ?_; rintro e w1 ⟨rfl, u⟩
    rw [h1]
    have V1 := V0.trans (u.mono V0.size)
    have B1 := B0.below u
    clear u
    go_wp2_with fail
    refine (isBit_any _ _).mono ?_; rintro e w2 ⟨rfl, q⟩
    have u := below_of_quiet q
    clear q
    rw [show bitB party = inB party 0 1 from rfl, h2]
    have V2 := V1.trans (u.mono V1.size)
    have B2 := B1.below u
    clear u
    have x3 : w2.cell? ⟨w.heap.size, 3, none⟩ = some (.slice (some ⟨g, o, none⟩) gn gc) := B2.cell 3
    go_wp2_with fail
    refine (within_any _ _ _ _).mono ?_; rintro e w' ⟨rfl, rfl⟩
    rw [h3]
    clear x3
    obtain ⟨_, _, E, hc⟩ := (hG.below V2).at (by omega)
    cases E
    have d0 : w2.cell? ⟨g, o + kn * 3, none⟩ = some (.int .i64 (G.getD (kn * 3) 0)) := hc (kn * 3) (by omega)
    have d1 : w2.cell? ⟨g, o + kn * 3 + 1, none⟩ = some (.int .i64 (G.getD (kn * 3 + 1) 0)) := by have := hc (kn * 3 + 1) (by omega); simpa only [Nat.add_assoc] using this
    have d2 : w2.cell? ⟨g, o + kn * 3 + 2, none⟩ = some (.int .i64 (G.getD (kn * 3 + 2) 0)) := by have := hc (kn * 3 + 2) (by omega); simpa only [Nat.add_assoc] using this
    clear hc
    have x0 : w2.cell? ⟨w.heap.size, 0, none⟩ = some (.int .i64 P) := B2.cell 0
    have x1 : w2.cell? ⟨w.heap.size, 1, none⟩ = some (.int .i64 i0) := B2.cell 1
    have x2 : w2.cell? ⟨w.heap.size, 2, none⟩ = some (.int .i64 i1) := B2.cell 2
    have x3 : w2.cell? ⟨w.heap.size, 3, none⟩ = some (.slice (some ⟨g, o, none⟩) gn gc) := B2.cell 3
    have x4 : w2.cell? ⟨w.heap.size, 4, none⟩ = some (.slice oa on oc) := B2.cell 4
    rw [HKD.out] at d0
    go_wp2_with fail
    refine (areElements_any _ _ _ _ S _ (hS.below V2)).mono ?_; rintro e w3 ⟨rfl, u⟩
    rw [h5]
    clear d0 d1 d2 x0 x1 x2 x3 x4
    have V3 := V2.trans (u.mono V2.size)
    have B3 := B2.below u
    clear u
    have x0 : w3.cell? ⟨w.heap.size, 0, none⟩ = some (.int .i64 P) := B3.cell 0
    have x1 : w3.cell? ⟨w.heap.size, 1, none⟩ = some (.int .i64 i0) := B3.cell 1
    have x2 : w3.cell? ⟨w.heap.size, 2, none⟩ = some (.int .i64 i1) := B3.cell 2
    have x3 : w3.cell? ⟨w.heap.size, 3, none⟩ = some (.slice (some ⟨g, o, none⟩) gn gc) := B3.cell 3
    have x4 : w3.cell? ⟨w.heap.size, 4, none⟩ = some (.slice oa on oc) := B3.cell 4
    go_wp2_with fail
    refine (inputs_any _ _ _ _ _ _ (by omega) (by omega) rfl rfl).mono ?_; rintro e w4 ⟨rfl, u⟩
    clear x0 x1 x2 x3 x4
    have V4 := V3.trans (u.mono V3.size)
    have B4 := B3.below u
    clear u
    go_wp2
    go_ret2
    exact ⟨rfl, V4⟩
  have f6 : (((sn : Int) != i0 + i1 + (kn : Int)) : Bool) = false := by simp; omega
  have h6' : ((S.length : Nat) : Int) = i0 + i1 + kn := by omega
  have HB : Hid (lgB P i0 i1 gn G O party kn S = true) := Lib.hid (by unfold lgB; rw [h1, h2, h3, h5, Int.toNat_natCast, HKD.out, f4, decide_eq_true h6']; rfl)
  obtain ⟨ka, hka⟩ : ∃ x, G.getD (kn * 3 + 1) 0 = x := ⟨_, rfl⟩
  obtain ⟨kb, hkb⟩ : ∃ x, G.getD (kn * 3 + 2) 0 = x := ⟨_, rfl⟩
  rw [HB.out, if_pos rfl, Int.toNat_natCast, HKD.out, hka, hkb]
  obtain ⟨p1, p2⟩ := isPr_range hpr
  obtain ⟨q1, q2⟩ := inB_true h2
  have hes := (elsB_true h5).2.2.2
  rw [allB_iff] at hes
  have HES := Lib.hid hes
  have HG' := HGA.out
  unfold gateAt at HG'
  rw [HKD.out, hka, hkb] at HG'
  have HKA := Lib.hid hka
  have HKB := Lib.hid hkb
  clear hka hkb
  have HLG := Lib.hid (fun W (hW : Ints W sa sn sc S) => localGate_any P kd ka kb party (i0 + i1 + kn) sa sn sc S W hW (by omega) (by omega) HES.out HG' h4 (by omega) q1 q2)
  clear h4 h6 h6' hsz hes HG'
  have V0 : Below w.heap.size w (w.alloc (.cells #[.int .i64 P, .int .i64 i0, .int .i64 i1, .slice (some ⟨g, o, none⟩) gn gc, .slice oa on oc] 41)) := (Below.refl _ _).alloc (Nat.le_refl _) _
  have B0 : Blk (w.alloc (.cells #[.int .i64 P, .int .i64 i0, .int .i64 i1, .slice (some ⟨g, o, none⟩) gn gc, .slice oa on oc] 41)) w.heap.size 41 #[.int .i64 P, .int .i64 i0, .int .i64 i1, .slice (some ⟨g, o, none⟩) gn gc, .slice oa on oc] := Blk.new w _ _
  go_enter Try.func18, Try.ntmps18
  go_wp2_with fail
  generalize (w.alloc (.cells #[.int .i64 P, .int .i64 i0, .int .i64 i1, .slice (some ⟨g, o, none⟩) gn gc, .slice oa on oc] 41)) = w0 at *
  refine (IsArith_any _ _ _ _ _ _ G _ _ _ O _ (hG.below V0) (hO.below V0)).mono ?_; rintro e w1 ⟨rfl, u⟩
  rw [h1]
  have V1 := V0.trans (u.mono V0.size)
  have B1 := B0.below u
  clear u
  go_wp2_with fail
  refine (isBit_any _ _).mono ?_; rintro e w2 ⟨rfl, q⟩
  have u := below_of_quiet q
  clear q
  rw [show bitB party = inB party 0 1 from rfl, h2]
  have V2 := V1.trans (u.mono V1.size)
  have B2 := B1.below u
  clear u
  have x3 : w2.cell? ⟨w.heap.size, 3, none⟩ = some (.slice (some ⟨g, o, none⟩) gn gc) := B2.cell 3
  go_wp2_with fail
  refine (within_any _ _ _ _).mono ?_; rintro e w' ⟨rfl, rfl⟩
  rw [h3]
  clear x3
  obtain ⟨_, _, E, hc⟩ := (hG.below V2).at (by omega)
  cases E
  have d0 : w2.cell? ⟨g, o + kn * 3, none⟩ = some (.int .i64 (G.getD (kn * 3) 0)) := hc (kn * 3) (by omega)
  have d1 : w2.cell? ⟨g, o + kn * 3 + 1, none⟩ = some (.int .i64 (G.getD (kn * 3 + 1) 0)) := by have := hc (kn * 3 + 1) (by omega); simpa only [Nat.add_assoc] using this
  have d2 : w2.cell? ⟨g, o + kn * 3 + 2, none⟩ = some (.int .i64 (G.getD (kn * 3 + 2) 0)) := by have := hc (kn * 3 + 2) (by omega); simpa only [Nat.add_assoc] using this
  clear hc
  have x0 : w2.cell? ⟨w.heap.size, 0, none⟩ = some (.int .i64 P) := B2.cell 0
  have x1 : w2.cell? ⟨w.heap.size, 1, none⟩ = some (.int .i64 i0) := B2.cell 1
  have x2 : w2.cell? ⟨w.heap.size, 2, none⟩ = some (.int .i64 i1) := B2.cell 2
  have x3 : w2.cell? ⟨w.heap.size, 3, none⟩ = some (.slice (some ⟨g, o, none⟩) gn gc) := B2.cell 3
  have x4 : w2.cell? ⟨w.heap.size, 4, none⟩ = some (.slice oa on oc) := B2.cell 4
  rw [HKD.out] at d0
  go_wp2_with fail
  refine (areElements_any _ _ _ _ S _ (hS.below V2)).mono ?_; rintro e w3 ⟨rfl, u⟩
  rw [h5]
  clear d0 d1 d2 x0 x1 x2 x3 x4
  have V3 := V2.trans (u.mono V2.size)
  have B3 := B2.below u
  clear u
  have x0 : w3.cell? ⟨w.heap.size, 0, none⟩ = some (.int .i64 P) := B3.cell 0
  have x1 : w3.cell? ⟨w.heap.size, 1, none⟩ = some (.int .i64 i0) := B3.cell 1
  have x2 : w3.cell? ⟨w.heap.size, 2, none⟩ = some (.int .i64 i1) := B3.cell 2
  have x3 : w3.cell? ⟨w.heap.size, 3, none⟩ = some (.slice (some ⟨g, o, none⟩) gn gc) := B3.cell 3
  have x4 : w3.cell? ⟨w.heap.size, 4, none⟩ = some (.slice oa on oc) := B3.cell 4
  go_wp2_with fail
  refine (inputs_any _ _ _ _ _ _ (by omega) (by omega) rfl rfl).mono ?_; rintro e w4 ⟨rfl, u⟩
  clear x0 x1 x2 x3 x4
  have V4 := V3.trans (u.mono V3.size)
  have B4 := B3.below u
  clear u
  obtain ⟨_, _, E, hc⟩ := (hG.below V4).at (by omega)
  cases E
  have d0 : w4.cell? ⟨g, o + kn * 3, none⟩ = some (.int .i64 (G.getD (kn * 3) 0)) := hc (kn * 3) (by omega)
  have d1 : w4.cell? ⟨g, o + kn * 3 + 1, none⟩ = some (.int .i64 (G.getD (kn * 3 + 1) 0)) := by have := hc (kn * 3 + 1) (by omega); simpa only [Nat.add_assoc] using this
  have d2 : w4.cell? ⟨g, o + kn * 3 + 2, none⟩ = some (.int .i64 (G.getD (kn * 3 + 2) 0)) := by have := hc (kn * 3 + 2) (by omega); simpa only [Nat.add_assoc] using this
  clear hc
  have x0 : w4.cell? ⟨w.heap.size, 0, none⟩ = some (.int .i64 P) := B4.cell 0
  have x3 : w4.cell? ⟨w.heap.size, 3, none⟩ = some (.slice (some ⟨g, o, none⟩) gn gc) := B4.cell 3
  rw [HKD.out] at d0
  rw [HKA.out] at d1
  rw [HKB.out] at d2
  go_wp2
  go_region_held3 (fun W => W.cell? ⟨w.heap.size, 0, none⟩ = some (.int .i64 P) ∧ W.cell? ⟨w.heap.size, 3, none⟩ = some (.slice (some ⟨g, o, none⟩) gn gc) ∧ W.cell? ⟨g, o + kn * 3, none⟩ = some (.int .i64 kd) ∧ W.cell? ⟨g, o + kn * 3 + 1, none⟩ = some (.int .i64 ka) ∧ W.cell? ⟨g, o + kn * 3 + 2, none⟩ = some (.int .i64 kb))
    (first | go_keep | exact ⟨keepC u x0, keepC u x3, keepC u d0, keepC u d1, keepC u d2⟩)
    (first | (go_at_call 67; refine (HLG.out _ (hS.below V4).drew).mono ?_; rintro e w5 ⟨rfl, u⟩))
  all_goals have u' : Below w4.heap.size w4 w5 := (Below.refl _ _).drew.trans u
  all_goals go_wp2
  all_goals go_ret2
  all_goals exact ⟨rfl, V4.trans (u'.mono V4.size)⟩
set_option maxHeartbeats 8000000 in
set_option maxRecDepth 100000 in
theorem spec_LocalGate_any (P i0 i1 : Int) (ga : Option Addr) (gn gc : Nat) (G : List Int) (oa : Option Addr) (on oc : Nat) (O : List Int) (party k : Int) (sa : Option Addr) (sn sc : Nat) (S : List Int) (w : World) (hG : Flat 3 w ga gn gc G) (hO : Ints w oa on oc O) (hS : Ints w sa sn sc S) :
    Calls Try.prog 19 #[.agg #[.int .i64 P, .int .i64 i0, .int .i64 i1, .slice ga gn gc, .slice oa on oc], .int .i64 party, .int .i64 k, .slice sa sn sc] w fun e w' => e = .returned (.tuple #[.int .i64 (lgV P i0 i1 gn G O party k S), .bool (lgB P i0 i1 gn G O party k S)]) ∧ Below w.heap.size w w' := by
  have hgl := hG.le
  have hsl := hS.le
  unfold lgV
  cases h1 : arB P i0 i1 gn G O
  · skip
    have HB : Hid (lgB P i0 i1 gn G O party k S = false) := Lib.hid (by unfold lgB; rw [h1]; simp only [Bool.false_and])
    rw [HB.out]
    simp only [Bool.false_eq_true, if_false]
    have V0 : Below w.heap.size w (w.alloc (.cells #[.int .i64 P, .int .i64 i0, .int .i64 i1, .slice ga gn gc, .slice oa on oc] 41)) := (Below.refl _ _).alloc (Nat.le_refl _) _
    have B0 : Blk (w.alloc (.cells #[.int .i64 P, .int .i64 i0, .int .i64 i1, .slice ga gn gc, .slice oa on oc] 41)) w.heap.size 41 #[.int .i64 P, .int .i64 i0, .int .i64 i1, .slice ga gn gc, .slice oa on oc] := Blk.new w _ _
    go_enter Try.func19, Try.ntmps19
    go_wp2_with fail
    generalize (w.alloc (.cells #[.int .i64 P, .int .i64 i0, .int .i64 i1, .slice ga gn gc, .slice oa on oc] 41)) = w0 at *
    refine (arGood_any _ _ _ _ _ _ G _ _ _ O _ (hG.below V0) (hO.below V0)).mono ?_; rintro e w1 ⟨rfl, u⟩
    rw [h1]
    have V1 := V0.trans (u.mono V0.size)
    have B1 := B0.below u
    clear u
    go_wp2
    go_ret2
    exact ⟨rfl, V1⟩
  cases h2 : inB party 0 1
  · skip
    have HB : Hid (lgB P i0 i1 gn G O party k S = false) := Lib.hid (by unfold lgB; rw [h2]; simp only [Bool.false_and, Bool.and_false])
    rw [HB.out]
    simp only [Bool.false_eq_true, if_false]
    have V0 : Below w.heap.size w (w.alloc (.cells #[.int .i64 P, .int .i64 i0, .int .i64 i1, .slice ga gn gc, .slice oa on oc] 41)) := (Below.refl _ _).alloc (Nat.le_refl _) _
    have B0 : Blk (w.alloc (.cells #[.int .i64 P, .int .i64 i0, .int .i64 i1, .slice ga gn gc, .slice oa on oc] 41)) w.heap.size 41 #[.int .i64 P, .int .i64 i0, .int .i64 i1, .slice ga gn gc, .slice oa on oc] := Blk.new w _ _
    go_enter Try.func19, Try.ntmps19
    go_wp2_with fail
    generalize (w.alloc (.cells #[.int .i64 P, .int .i64 i0, .int .i64 i1, .slice ga gn gc, .slice oa on oc] 41)) = w0 at *
    refine (arGood_any _ _ _ _ _ _ G _ _ _ O _ (hG.below V0) (hO.below V0)).mono ?_; rintro e w1 ⟨rfl, u⟩
    rw [h1]
    have V1 := V0.trans (u.mono V0.size)
    have B1 := B0.below u
    clear u
    go_wp2_with fail
    refine (l1In_any _ _ _ _).mono ?_; rintro e w2 ⟨rfl, hw⟩
    have u : Below w1.heap.size w1 w2 := hw ▸ Below.refl w1.heap.size w1
    clear hw
    rw [h2]
    have V2 := V1.trans (u.mono V1.size)
    have B2 := B1.below u
    clear u
    go_wp2
    go_ret2
    exact ⟨rfl, V2⟩
  cases h3 : inB k 0 (gn - 1)
  · skip
    have HB : Hid (lgB P i0 i1 gn G O party k S = false) := Lib.hid (by unfold lgB; rw [h3]; simp only [Bool.false_and, Bool.and_false])
    rw [HB.out]
    simp only [Bool.false_eq_true, if_false]
    have V0 : Below w.heap.size w (w.alloc (.cells #[.int .i64 P, .int .i64 i0, .int .i64 i1, .slice ga gn gc, .slice oa on oc] 41)) := (Below.refl _ _).alloc (Nat.le_refl _) _
    have B0 : Blk (w.alloc (.cells #[.int .i64 P, .int .i64 i0, .int .i64 i1, .slice ga gn gc, .slice oa on oc] 41)) w.heap.size 41 #[.int .i64 P, .int .i64 i0, .int .i64 i1, .slice ga gn gc, .slice oa on oc] := Blk.new w _ _
    go_enter Try.func19, Try.ntmps19
    go_wp2_with fail
    generalize (w.alloc (.cells #[.int .i64 P, .int .i64 i0, .int .i64 i1, .slice ga gn gc, .slice oa on oc] 41)) = w0 at *
    refine (arGood_any _ _ _ _ _ _ G _ _ _ O _ (hG.below V0) (hO.below V0)).mono ?_; rintro e w1 ⟨rfl, u⟩
    rw [h1]
    have V1 := V0.trans (u.mono V0.size)
    have B1 := B0.below u
    clear u
    go_wp2_with fail
    refine (l1In_any _ _ _ _).mono ?_; rintro e w2 ⟨rfl, hw⟩
    have u : Below w1.heap.size w1 w2 := hw ▸ Below.refl w1.heap.size w1
    clear hw
    rw [h2]
    have V2 := V1.trans (u.mono V1.size)
    have B2 := B1.below u
    clear u
    have x3 : w2.cell? ⟨w.heap.size, 3, none⟩ = some (.slice ga gn gc) := B2.cell 3
    go_wp2_with fail
    refine (l1In_any _ _ _ _).mono ?_; rintro e w' ⟨rfl, rfl⟩
    rw [h3]
    clear x3
    go_wp2
    go_ret2
    exact ⟨rfl, V2⟩
  obtain ⟨k0, k1⟩ := inB_true h3
  obtain ⟨kn, rfl⟩ : ∃ n : Nat, k = n := ⟨k.toNat, by omega⟩
  have hkn : kn < gn := by omega
  obtain ⟨g, o, rfl, _⟩ := hG.at (by omega)
  by_cases h4 : G.getD (kn * 3) 0 = 1
  · skip
    have HB : Hid (lgB P i0 i1 gn G O party kn S = false) := Lib.hid (by unfold lgB; rw [Int.toNat_natCast, h4]; simp)
    rw [HB.out]
    simp only [Bool.false_eq_true, if_false]
    have V0 : Below w.heap.size w (w.alloc (.cells #[.int .i64 P, .int .i64 i0, .int .i64 i1, .slice (some ⟨g, o, none⟩) gn gc, .slice oa on oc] 41)) := (Below.refl _ _).alloc (Nat.le_refl _) _
    have B0 : Blk (w.alloc (.cells #[.int .i64 P, .int .i64 i0, .int .i64 i1, .slice (some ⟨g, o, none⟩) gn gc, .slice oa on oc] 41)) w.heap.size 41 #[.int .i64 P, .int .i64 i0, .int .i64 i1, .slice (some ⟨g, o, none⟩) gn gc, .slice oa on oc] := Blk.new w _ _
    go_enter Try.func19, Try.ntmps19
    go_wp2_with fail
    generalize (w.alloc (.cells #[.int .i64 P, .int .i64 i0, .int .i64 i1, .slice (some ⟨g, o, none⟩) gn gc, .slice oa on oc] 41)) = w0 at *
    refine (arGood_any _ _ _ _ _ _ G _ _ _ O _ (hG.below V0) (hO.below V0)).mono ?_; rintro e w1 ⟨rfl, u⟩
    rw [h1]
    have V1 := V0.trans (u.mono V0.size)
    have B1 := B0.below u
    clear u
    go_wp2_with fail
    refine (l1In_any _ _ _ _).mono ?_; rintro e w2 ⟨rfl, hw⟩
    have u : Below w1.heap.size w1 w2 := hw ▸ Below.refl w1.heap.size w1
    clear hw
    rw [h2]
    have V2 := V1.trans (u.mono V1.size)
    have B2 := B1.below u
    clear u
    have x3 : w2.cell? ⟨w.heap.size, 3, none⟩ = some (.slice (some ⟨g, o, none⟩) gn gc) := B2.cell 3
    go_wp2_with fail
    refine (l1In_any _ _ _ _).mono ?_; rintro e w' ⟨rfl, rfl⟩
    rw [h3]
    clear x3
    obtain ⟨_, _, E, hc⟩ := (hG.below V2).at (by omega)
    cases E
    have d0 : w2.cell? ⟨g, o + kn * 3, none⟩ = some (.int .i64 (G.getD (kn * 3) 0)) := hc (kn * 3) (by omega)
    have d1 : w2.cell? ⟨g, o + kn * 3 + 1, none⟩ = some (.int .i64 (G.getD (kn * 3 + 1) 0)) := by have := hc (kn * 3 + 1) (by omega); simpa only [Nat.add_assoc] using this
    have d2 : w2.cell? ⟨g, o + kn * 3 + 2, none⟩ = some (.int .i64 (G.getD (kn * 3 + 2) 0)) := by have := hc (kn * 3 + 2) (by omega); simpa only [Nat.add_assoc] using this
    clear hc
    rw [h4] at d0
    clear h4
    have x3 : w2.cell? ⟨w.heap.size, 3, none⟩ = some (.slice (some ⟨g, o, none⟩) gn gc) := B2.cell 3
    go_wp2
    go_ret2
    exact ⟨rfl, V2⟩
  have f4 : ((G.getD (kn * 3) 0 == 1) : Bool) = false := by simpa using h4
  obtain ⟨kd, hkd⟩ : ∃ x, G.getD (kn * 3) 0 = x := ⟨_, rfl⟩
  rw [hkd] at f4 h4
  have HKD := Lib.hid hkd
  clear hkd
  have hr : (0 ≤ i0 ∧ i0 ≤ 8) ∧ (0 ≤ i1 ∧ i1 ≤ 8) ∧ gn ≤ 100 ∧ isPr P = true ∧ gateAt P (i0 + i1) G kn = true := arB_rng h1 hkn
  obtain ⟨⟨r0, r0'⟩, ⟨r1, r1'⟩, r2, hpr, hga⟩ := hr
  have HGA := Lib.hid hga
  clear hga
  obtain ⟨p1, p2⟩ := isPr_range hpr
  have hsz := hS.len
  have t1 : IntKind.i64.wrap (i0 + i1 + (kn : Int)) = i0 + i1 + kn := IntWalk.i64_in _ (by omega)
  have HEL : Hid (elsB P S = allB S 0 (P - 1)) := Lib.hid (by unfold elsB; rw [hpr, Bool.true_and])
  by_cases h6 : (sn : Int) = i0 + i1 + kn
  case neg =>
    have f6 : (((sn : Int) != i0 + i1 + (kn : Int)) : Bool) = true := by simp; omega
    have h6' : ¬ ((S.length : Nat) : Int) = i0 + i1 + kn := by omega
    have HB : Hid (lgB P i0 i1 gn G O party kn S = false) := Lib.hid (by unfold lgB; rw [decide_eq_false h6']; simp)
    rw [HB.out]
    simp only [Bool.false_eq_true, if_false]
    clear h4 h6' hsz h6
    have V0 : Below w.heap.size w (w.alloc (.cells #[.int .i64 P, .int .i64 i0, .int .i64 i1, .slice (some ⟨g, o, none⟩) gn gc, .slice oa on oc] 41)) := (Below.refl _ _).alloc (Nat.le_refl _) _
    have B0 : Blk (w.alloc (.cells #[.int .i64 P, .int .i64 i0, .int .i64 i1, .slice (some ⟨g, o, none⟩) gn gc, .slice oa on oc] 41)) w.heap.size 41 #[.int .i64 P, .int .i64 i0, .int .i64 i1, .slice (some ⟨g, o, none⟩) gn gc, .slice oa on oc] := Blk.new w _ _
    go_enter Try.func19, Try.ntmps19
    go_wp2_with fail
    generalize (w.alloc (.cells #[.int .i64 P, .int .i64 i0, .int .i64 i1, .slice (some ⟨g, o, none⟩) gn gc, .slice oa on oc] 41)) = w0 at *
    refine (arGood_any _ _ _ _ _ _ G _ _ _ O _ (hG.below V0) (hO.below V0)).mono ?_; rintro e w1 ⟨rfl, u⟩
    rw [h1]
    have V1 := V0.trans (u.mono V0.size)
    have B1 := B0.below u
    clear u
    go_wp2_with fail
    refine (l1In_any _ _ _ _).mono ?_; rintro e w2 ⟨rfl, hw⟩
    have u : Below w1.heap.size w1 w2 := hw ▸ Below.refl w1.heap.size w1
    clear hw
    rw [h2]
    have V2 := V1.trans (u.mono V1.size)
    have B2 := B1.below u
    clear u
    have x3 : w2.cell? ⟨w.heap.size, 3, none⟩ = some (.slice (some ⟨g, o, none⟩) gn gc) := B2.cell 3
    go_wp2_with fail
    refine (l1In_any _ _ _ _).mono ?_; rintro e w' ⟨rfl, rfl⟩
    rw [h3]
    clear x3
    obtain ⟨_, _, E, hc⟩ := (hG.below V2).at (by omega)
    cases E
    have d0 : w2.cell? ⟨g, o + kn * 3, none⟩ = some (.int .i64 (G.getD (kn * 3) 0)) := hc (kn * 3) (by omega)
    have d1 : w2.cell? ⟨g, o + kn * 3 + 1, none⟩ = some (.int .i64 (G.getD (kn * 3 + 1) 0)) := by have := hc (kn * 3 + 1) (by omega); simpa only [Nat.add_assoc] using this
    have d2 : w2.cell? ⟨g, o + kn * 3 + 2, none⟩ = some (.int .i64 (G.getD (kn * 3 + 2) 0)) := by have := hc (kn * 3 + 2) (by omega); simpa only [Nat.add_assoc] using this
    clear hc
    have x0 : w2.cell? ⟨w.heap.size, 0, none⟩ = some (.int .i64 P) := B2.cell 0
    have x1 : w2.cell? ⟨w.heap.size, 1, none⟩ = some (.int .i64 i0) := B2.cell 1
    have x2 : w2.cell? ⟨w.heap.size, 2, none⟩ = some (.int .i64 i1) := B2.cell 2
    have x3 : w2.cell? ⟨w.heap.size, 3, none⟩ = some (.slice (some ⟨g, o, none⟩) gn gc) := B2.cell 3
    have x4 : w2.cell? ⟨w.heap.size, 4, none⟩ = some (.slice oa on oc) := B2.cell 4
    rw [HKD.out] at d0
    go_wp2
    go_ret2
    exact ⟨rfl, V2⟩
  have f6 : (((sn : Int) != i0 + i1 + (kn : Int)) : Bool) = false := by simp; omega
  have h6' : ((S.length : Nat) : Int) = i0 + i1 + kn := by omega
  clear hsz
  cases h5 : allB S 0 (P - 1)
  · skip
    have HB : Hid (lgB P i0 i1 gn G O party kn S = false) := Lib.hid (by unfold lgB; rw [HEL.out, h5]; simp)
    rw [HB.out]
    simp only [Bool.false_eq_true, if_false]
    clear h4 h6 h6'
    have V0 : Below w.heap.size w (w.alloc (.cells #[.int .i64 P, .int .i64 i0, .int .i64 i1, .slice (some ⟨g, o, none⟩) gn gc, .slice oa on oc] 41)) := (Below.refl _ _).alloc (Nat.le_refl _) _
    have B0 : Blk (w.alloc (.cells #[.int .i64 P, .int .i64 i0, .int .i64 i1, .slice (some ⟨g, o, none⟩) gn gc, .slice oa on oc] 41)) w.heap.size 41 #[.int .i64 P, .int .i64 i0, .int .i64 i1, .slice (some ⟨g, o, none⟩) gn gc, .slice oa on oc] := Blk.new w _ _
    go_enter Try.func19, Try.ntmps19
    go_wp2_with fail
    generalize (w.alloc (.cells #[.int .i64 P, .int .i64 i0, .int .i64 i1, .slice (some ⟨g, o, none⟩) gn gc, .slice oa on oc] 41)) = w0 at *
    refine (arGood_any _ _ _ _ _ _ G _ _ _ O _ (hG.below V0) (hO.below V0)).mono ?_; rintro e w1 ⟨rfl, u⟩
    rw [h1]
    have V1 := V0.trans (u.mono V0.size)
    have B1 := B0.below u
    clear u
    go_wp2_with fail
    refine (l1In_any _ _ _ _).mono ?_; rintro e w2 ⟨rfl, hw⟩
    have u : Below w1.heap.size w1 w2 := hw ▸ Below.refl w1.heap.size w1
    clear hw
    rw [h2]
    have V2 := V1.trans (u.mono V1.size)
    have B2 := B1.below u
    clear u
    have x3 : w2.cell? ⟨w.heap.size, 3, none⟩ = some (.slice (some ⟨g, o, none⟩) gn gc) := B2.cell 3
    go_wp2_with fail
    refine (l1In_any _ _ _ _).mono ?_; rintro e w' ⟨rfl, rfl⟩
    rw [h3]
    clear x3
    obtain ⟨_, _, E, hc⟩ := (hG.below V2).at (by omega)
    cases E
    have d0 : w2.cell? ⟨g, o + kn * 3, none⟩ = some (.int .i64 (G.getD (kn * 3) 0)) := hc (kn * 3) (by omega)
    have d1 : w2.cell? ⟨g, o + kn * 3 + 1, none⟩ = some (.int .i64 (G.getD (kn * 3 + 1) 0)) := by have := hc (kn * 3 + 1) (by omega); simpa only [Nat.add_assoc] using this
    have d2 : w2.cell? ⟨g, o + kn * 3 + 2, none⟩ = some (.int .i64 (G.getD (kn * 3 + 2) 0)) := by have := hc (kn * 3 + 2) (by omega); simpa only [Nat.add_assoc] using this
    clear hc
    have x0 : w2.cell? ⟨w.heap.size, 0, none⟩ = some (.int .i64 P) := B2.cell 0
    have x1 : w2.cell? ⟨w.heap.size, 1, none⟩ = some (.int .i64 i0) := B2.cell 1
    have x2 : w2.cell? ⟨w.heap.size, 2, none⟩ = some (.int .i64 i1) := B2.cell 2
    have x3 : w2.cell? ⟨w.heap.size, 3, none⟩ = some (.slice (some ⟨g, o, none⟩) gn gc) := B2.cell 3
    have x4 : w2.cell? ⟨w.heap.size, 4, none⟩ = some (.slice oa on oc) := B2.cell 4
    rw [HKD.out] at d0
    go_wp2_with fail
    refine (l1All_any _ _ _ S _ _ _ (hS.below V2)).mono ?_; rintro e w3 ⟨rfl, q⟩
    have u := below_of_quiet q
    clear q
    rw [h5]
    clear d0 d1 d2 x0 x1 x2 x3 x4
    have V3 := V2.trans (u.mono V2.size)
    have B3 := B2.below u
    clear u
    go_wp2
    go_ret2
    exact ⟨rfl, V3⟩
  have HB : Hid (lgB P i0 i1 gn G O party kn S = true) := Lib.hid (by unfold lgB; rw [h1, h2, h3, HEL.out, h5, Int.toNat_natCast, HKD.out, f4, decide_eq_true h6']; rfl)
  rw [HB.out, if_pos rfl, Int.toNat_natCast]
  obtain ⟨q1, q2⟩ := inB_true h2
  have hes := (allB_iff ..).1 h5
  have HES := Lib.hid hes
  have HG' := HGA.out
  unfold gateAt at HG'
  have HLG := Lib.hid (fun W (hGW : Flat 3 W (some ⟨g, o, none⟩) gn gc G) (hW : Ints W sa sn sc S) => smLocal_any P i0 i1 (some ⟨g, o, none⟩) gn gc G oa on oc party (i0 + i1 + kn) kn sa sn sc S W hGW hW (by omega) (by omega) HES.out hkn HG' (by rw [HKD.out]; exact h4) (by omega) q1 q2)
  clear h4 h6 h6' hes HG'
  have V0 : Below w.heap.size w (w.alloc (.cells #[.int .i64 P, .int .i64 i0, .int .i64 i1, .slice (some ⟨g, o, none⟩) gn gc, .slice oa on oc] 41)) := (Below.refl _ _).alloc (Nat.le_refl _) _
  have B0 : Blk (w.alloc (.cells #[.int .i64 P, .int .i64 i0, .int .i64 i1, .slice (some ⟨g, o, none⟩) gn gc, .slice oa on oc] 41)) w.heap.size 41 #[.int .i64 P, .int .i64 i0, .int .i64 i1, .slice (some ⟨g, o, none⟩) gn gc, .slice oa on oc] := Blk.new w _ _
  go_enter Try.func19, Try.ntmps19
  go_wp2_with fail
  generalize (w.alloc (.cells #[.int .i64 P, .int .i64 i0, .int .i64 i1, .slice (some ⟨g, o, none⟩) gn gc, .slice oa on oc] 41)) = w0 at *
  refine (arGood_any _ _ _ _ _ _ G _ _ _ O _ (hG.below V0) (hO.below V0)).mono ?_; rintro e w1 ⟨rfl, u⟩
  rw [h1]
  have V1 := V0.trans (u.mono V0.size)
  have B1 := B0.below u
  clear u
  go_wp2_with fail
  refine (l1In_any _ _ _ _).mono ?_; rintro e w2 ⟨rfl, hw⟩
  have u : Below w1.heap.size w1 w2 := hw ▸ Below.refl w1.heap.size w1
  clear hw
  rw [h2]
  have V2 := V1.trans (u.mono V1.size)
  have B2 := B1.below u
  clear u
  have x3 : w2.cell? ⟨w.heap.size, 3, none⟩ = some (.slice (some ⟨g, o, none⟩) gn gc) := B2.cell 3
  go_wp2_with fail
  refine (l1In_any _ _ _ _).mono ?_; rintro e w' ⟨rfl, rfl⟩
  rw [h3]
  clear x3
  obtain ⟨_, _, E, hc⟩ := (hG.below V2).at (by omega)
  cases E
  have d0 : w2.cell? ⟨g, o + kn * 3, none⟩ = some (.int .i64 (G.getD (kn * 3) 0)) := hc (kn * 3) (by omega)
  have d1 : w2.cell? ⟨g, o + kn * 3 + 1, none⟩ = some (.int .i64 (G.getD (kn * 3 + 1) 0)) := by have := hc (kn * 3 + 1) (by omega); simpa only [Nat.add_assoc] using this
  have d2 : w2.cell? ⟨g, o + kn * 3 + 2, none⟩ = some (.int .i64 (G.getD (kn * 3 + 2) 0)) := by have := hc (kn * 3 + 2) (by omega); simpa only [Nat.add_assoc] using this
  clear hc
  have x0 : w2.cell? ⟨w.heap.size, 0, none⟩ = some (.int .i64 P) := B2.cell 0
  have x1 : w2.cell? ⟨w.heap.size, 1, none⟩ = some (.int .i64 i0) := B2.cell 1
  have x2 : w2.cell? ⟨w.heap.size, 2, none⟩ = some (.int .i64 i1) := B2.cell 2
  have x3 : w2.cell? ⟨w.heap.size, 3, none⟩ = some (.slice (some ⟨g, o, none⟩) gn gc) := B2.cell 3
  have x4 : w2.cell? ⟨w.heap.size, 4, none⟩ = some (.slice oa on oc) := B2.cell 4
  rw [HKD.out] at d0
  go_wp2_with fail
  refine (l1All_any _ _ _ S _ _ _ (hS.below V2)).mono ?_; rintro e w3 ⟨rfl, q⟩
  have u := below_of_quiet q
  clear q
  rw [h5]
  clear d0 d1 d2 x0 x1 x2 x3 x4
  have V3 := V2.trans (u.mono V2.size)
  have B3 := B2.below u
  clear u
  have x0 : w3.cell? ⟨w.heap.size, 0, none⟩ = some (.int .i64 P) := B3.cell 0
  have x1 : w3.cell? ⟨w.heap.size, 1, none⟩ = some (.int .i64 i0) := B3.cell 1
  have x2 : w3.cell? ⟨w.heap.size, 2, none⟩ = some (.int .i64 i1) := B3.cell 2
  have x3 : w3.cell? ⟨w.heap.size, 3, none⟩ = some (.slice (some ⟨g, o, none⟩) gn gc) := B3.cell 3
  have x4 : w3.cell? ⟨w.heap.size, 4, none⟩ = some (.slice oa on oc) := B3.cell 4
  go_wp2_with fail
  refine (HLG.out _ (hG.below V3) (hS.below V3)).mono ?_; rintro e w4 ⟨rfl, u⟩
  go_wp2
  go_ret2
  exact ⟨rfl, V3.trans (u.mono V3.size)⟩
end Go.Proofs.Ythpcmbdkboajcaa
