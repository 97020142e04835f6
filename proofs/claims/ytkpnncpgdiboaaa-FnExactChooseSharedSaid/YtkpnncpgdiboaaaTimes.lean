/- A product of pairs by the reference. -/
import Derived.Test.YtkpnncpgdiboaaaTriple
namespace Go.Proofs.Ytkpnncpgdiboaaa
open Go.RowKit

set_option maxHeartbeats 4000000 in
set_option maxRecDepth 100000 in
theorem trTimes_any (p key i : Int) (a : Option Addr) (c : Nat) (x0 x1 : Int) (a' : Option Addr) (c' : Nat) (y0 y1 : Int) (w : World) (h : Ints w a 2 c [x0, x1]) (h' : Ints w a' 2 c' [y0, y1])
    (hp : 1 ≤ p) (hp2 : p ≤ 1000) (hk : 0 ≤ key) (hk2 : key ≤ 1000000000) (hi : 0 ≤ i) (hi2 : i ≤ 1000000) (r0 : 0 ≤ x0 ∧ x0 ≤ 1000) (r1 : 0 ≤ x1 ∧ x1 ≤ 1000) (q0 : 0 ≤ y0 ∧ y0 ≤ 1000) (q1 : 0 ≤ y1 ∧ y1 ≤ 1000) :
    Calls Try.prog 90 #[.int .i64 p, .int .i64 key, .int .i64 i, .slice a 2 c, .slice a' 2 c'] w fun e w' => ∃ a1 c1, e = .returned (.slice a1 2 c1) ∧ Own w' w.heap.size a1 2 c1 (timesL p key i x0 x1 y0 y1) ∧ Below w.heap.size w w' := by
  have HL : Hid (timesL p key i x0 x1 y0 y1 = [shareI p 0 (tnI p key i 2) (tnI p key i 3) (tnI p key i 4) (opD p key i x0 x1) (opE p key i y0 y1),
   shareI p 1 ((tnI p key i 0 - tnI p key i 2) % p) ((tnI p key i 1 - tnI p key i 3) % p) ((tnI p key i 0 * tnI p key i 1 - tnI p key i 4) % p) (opD p key i x0 x1) (opE p key i y0 y1)]) := rfl
  have HA : Hid (tpA p key i = [tnI p key i 2, tnI p key i 3, tnI p key i 4]) := rfl
  have HB : Hid (tpB p key i = [(tnI p key i 0 - tnI p key i 2) % p, (tnI p key i 1 - tnI p key i 3) % p, (tnI p key i 0 * tnI p key i 1 - tnI p key i 4) % p]) := rfl
  have HD : Hid (opD p key i x0 x1 = (x0 + x1 - (tnI p key i 2 + (tnI p key i 0 - tnI p key i 2) % p)) % p) := rfl
  have HE : Hid (opE p key i y0 y1 = (y0 + y1 - (tnI p key i 3 + (tnI p key i 1 - tnI p key i 3) % p)) % p) := rfl
  have s0 := tnI_range p key i 2 hp
  have s1 := tnI_range p key i 3 hp
  have s2 := tnI_range p key i 4 hp
  have b0 := mod_rng (tnI p key i 0 - tnI p key i 2) p hp
  have b1 := mod_rng (tnI p key i 1 - tnI p key i 3) p hp
  have b2 := mod_rng (tnI p key i 0 * tnI p key i 1 - tnI p key i 4) p hp
  generalize (tnI p key i 0 - tnI p key i 2) % p = v0 at *
  generalize (tnI p key i 1 - tnI p key i 3) % p = v1 at *
  generalize (tnI p key i 0 * tnI p key i 1 - tnI p key i 4) % p = v2 at *
  generalize tnI p key i 2 = n2 at *
  generalize tnI p key i 3 = n3 at *
  generalize tnI p key i 4 = n4 at *
  have d0 := mod_rng (x0 + x1 - (n2 + v0)) p hp
  have d1 := mod_rng (y0 + y1 - (n3 + v1)) p hp
  rw [← HD.out] at d0
  rw [← HE.out] at d1
  have HS : Hid (sumK p [(x0 - n2) % p, (y0 - n3) % p] [(x1 - v0) % p, (y1 - v1) % p] 2 = [opD p key i x0 x1, opE p key i y0 y1]) := Lib.hid (by rw [HD.out, HE.out, ← open_eq, ← open_eq]; rfl)
  generalize opD p key i x0 x1 = D at *
  generalize opE p key i y0 y1 = E at *
  have R2 : 0 ≤ n2 ∧ n2 ≤ 1000 := by omega
  have R3 : 0 ≤ n3 ∧ n3 ≤ 1000 := by omega
  have R4 : 0 ≤ n4 ∧ n4 ≤ 1000 := by omega
  have V0 : 0 ≤ v0 ∧ v0 ≤ 1000 := by omega
  have V1 : 0 ≤ v1 ∧ v1 ≤ 1000 := by omega
  have V2 : 0 ≤ v2 ∧ v2 ≤ 1000 := by omega
  have RD : 0 ≤ D ∧ D ≤ 1000 := by omega
  have RE : 0 ≤ E ∧ E ≤ 1000 := by omega
  have HT1 : Hid (∀ y ∈ [(x0 - n2) % p, (y0 - n3) % p], 0 ≤ y ∧ y ≤ 1000000) := Lib.hid (by
    have := mod_rng (x0 - n2) p hp; have := mod_rng (y0 - n3) p hp
    intro y hy; simp only [List.mem_cons, List.not_mem_nil, or_false] at hy; rcases hy with rfl | rfl <;> omega)
  have HT2 : Hid (∀ y ∈ [(x1 - v0) % p, (y1 - v1) % p], 0 ≤ y ∧ y ≤ 1000000) := Lib.hid (by
    have := mod_rng (x1 - v0) p hp; have := mod_rng (y1 - v1) p hp
    intro y hy; simp only [List.mem_cons, List.not_mem_nil, or_false] at hy; rcases hy with rfl | rfl <;> omega)
  clear s0 s1 s2 b0 b1 b2 d0 d1
  go_enter Try.func90, Try.ntmps90
  go_wp2_with fail
  refine (trFor_any p key i _ hp hp2 hk hk2 hi hi2).mono ?_; rintro e w1 ⟨a1, c1, a2, c2, rfl, o1, o2, u1⟩
  rw [HA.out] at o1
  rw [HB.out] at o2
  obtain ⟨g, o, rfl, hc⟩ := (h.below u1).cells (by omega)
  have e0 : w1.cell? ⟨g, o, none⟩ = some (.int .i64 x0) := hc 0 (by omega)
  have e1 : w1.cell? ⟨g, o + 1, none⟩ = some (.int .i64 x1) := hc 1 (by omega)
  obtain ⟨g', o', rfl, hc'⟩ := (h'.below u1).cells (by omega)
  have f0 : w1.cell? ⟨g', o', none⟩ = some (.int .i64 y0) := hc' 0 (by omega)
  have f1 : w1.cell? ⟨g', o' + 1, none⟩ = some (.int .i64 y1) := hc' 1 (by omega)
  clear hc hc'
  go_wp2
  go_region_held3 (fun W => W.cell? ⟨g, o, none⟩ = some (.int .i64 x0) ∧ W.cell? ⟨g, o + 1, none⟩ = some (.int .i64 x1) ∧ W.cell? ⟨g', o', none⟩ = some (.int .i64 y0) ∧ W.cell? ⟨g', o' + 1, none⟩ = some (.int .i64 y1))
    (first | go_keep | (exact ⟨keepC um3 (keepC um2 (keepC um1 e0)), keepC um3 (keepC um2 (keepC um1 e1)), keepC um3 (keepC um2 (keepC um1 f0)), keepC um3 (keepC um2 (keepC um1 f1))⟩) | (exact ⟨keepC um2 (keepC um1 e0), keepC um2 (keepC um1 e1), keepC um2 (keepC um1 f0), keepC um2 (keepC um1 f1)⟩) | (exact ⟨keepC um1 e0, keepC um1 e1, keepC um1 f0, keepC um1 f1⟩))
    (first | (go_at_call 109; have _ := um1; refine (trMask_any p a2 c2 v0 v1 v2 x1 y1 _ (o2.drew.below um1) hp hp2 V0 V1 r1 q1).mono ?_; rintro e wb ⟨b2, d2, rfl, m2, um2⟩) | (go_at_call 109; refine (trMask_any p a1 c1 n2 n3 n4 x0 y0 _ o1.drew hp hp2 R2 R3 r0 q0).mono ?_; rintro e wa ⟨b1, d1, rfl, m1, um1⟩) | (go_at_call 87; refine (trSum_any p b1 2 d1 _ b2 2 d2 _ _ (m1.below um2).ints m2.ints hp (by omega) (by omega) (by omega) HT1.out HT2.out).mono ?_; rintro e wc ⟨b3, d3, rfl, m3, um3⟩))
  rw [HS.out] at m3
  have v3 : Below w.heap.size w wc := ((u1.drew.trans (um1.mono u1.size)).trans (um2.mono (by have := u1.size; have := um1.size; simp at *; omega))).trans (um3.mono (by have := u1.size; have := um1.size; have := um2.size; simp at *; omega))
  have o3 := ((o1.drew.below um1).below um2).below um3
  have o4 := ((o2.drew.below um1).below um2).below um3
  obtain ⟨g3, q3, rfl, hc3⟩ := m3.ints.cells (by omega)
  have k0 : wc.cell? ⟨g3, q3, none⟩ = some (.int .i64 D) := hc3 0 (by omega)
  have k1 : wc.cell? ⟨g3, q3 + 1, none⟩ = some (.int .i64 E) := hc3 1 (by omega)
  clear hc3 m3 m2 m1 um1 um2 um3 u1 o1 o2 e0 e1 f0 f1
  go_wp2
  go_region_held3 (fun W => W.cell? ⟨g3, q3, none⟩ = some (.int .i64 D) ∧ W.cell? ⟨g3, q3 + 1, none⟩ = some (.int .i64 E))
    (first | go_keep | (exact ⟨keepC uq2 (keepC uq1 k0), keepC uq2 (keepC uq1 k1)⟩) | (exact ⟨keepC uq1 k0, keepC uq1 k1⟩))
    (first | (go_at_call 110; have _ := uq1; refine (trShare_any p 1 a2 c2 v0 v1 v2 D E _ (o4.drew.below uq1) hp hp2 V0 V1 V2 RD RE).mono ?_; rintro e w' ⟨rfl, uq2⟩; replace uq2 := below_of_quiet uq2) | (go_at_call 110; refine (trShare_any p 0 a1 c1 n2 n3 n4 D E _ o3.drew hp hp2 R2 R3 R4 RD RE).mono ?_; rintro e wq ⟨rfl, uq1⟩; replace uq1 := below_of_quiet uq1))
  have v5 : Below w.heap.size w w' := (v3.drew.trans (uq1.mono v3.size)).trans (uq2.mono (Nat.le_trans v3.size uq1.size))
  go_wp2
  go_ret
  exact ⟨_, _, rfl, by rw [HL.out]; exact (Own.lit2 _ _ _ _ v5.size), v5.alloc v5.size _⟩
end Go.Proofs.Ytkpnncpgdiboaaa
