/- The law on TurnCircuit. -/
import Derived.Test.YtkbhigdciokfkaaMeI
import Derived.Test.YtkbhigdciokfkaaCik
namespace Go.Proofs.Ytkbhigdciokfkaa
open Go.RowKit
set_option maxHeartbeats 8000000 in
set_option maxRecDepth 100000 in
theorem FnExactTurnCircuit_walk (a0 : Int) (a1 : Int) (w : World) (_w0 : -9223372036854775808 ≤ a0 ∧ a0 ≤ 9223372036854775807) (_w1 : -9223372036854775808 ≤ a1 ∧ a1 ≤ 9223372036854775807) :
    Calls Try.prog 8 #[.int .i64 a0, .int .i64 a1] w fun e w' => e = .returned (.bool true) ∧ Below w.heap.size w w' := by
  go_enter Try.func8, Try.ntmps8
  go_wp2_with fail
  refine (spec_TurnCircuit_any _ _ _ ).mono ?_
  rintro e w1' ⟨r_a0_2, r_n0_2, r_c0_2, r_a0_3, r_n0_3, r_c0_3, rfl, r0_2, r0_3, dj_r0_2_0_3, u_w1'⟩
  have V_w1' := (Below.refl w.heap.size w).trans (u_w1'.mono ((Below.refl w.heap.size w)).size)
  have S_w1' := u_w1'.size
  clear u_w1'
  have Q_r0_2 := Lib.hid r0_2.feet
  have Q_r0_3 := Lib.hid r0_3.feet
  go_wp2_with fail
  have V_w2' : Below w.heap.size w (w1'.alloc (.cells #[.int .i64 (mS0 a0 a1), .int .i64 (mS1 3 a0 a1), .slice r_a0_2 r_n0_2 r_c0_2, .slice r_a0_3 r_n0_3 r_c0_3] 25)) := ((V_w1').alloc (by have := (V_w1').size; first | exact this | (simp; omega) | simp) _)
  replace r0_2 := r0_2.alloc (.cells #[.int .i64 (mS0 a0 a1), .int .i64 (mS1 3 a0 a1), .slice r_a0_2 r_n0_2 r_c0_2, .slice r_a0_3 r_n0_3 r_c0_3] 25)
  replace r0_3 := r0_3.alloc (.cells #[.int .i64 (mS0 a0 a1), .int .i64 (mS1 3 a0 a1), .slice r_a0_2 r_n0_2 r_c0_2, .slice r_a0_3 r_n0_3 r_c0_3] 25)
  have B_r0 : Blk (w1'.alloc (.cells #[.int .i64 (mS0 a0 a1), .int .i64 (mS1 3 a0 a1), .slice r_a0_2 r_n0_2 r_c0_2, .slice r_a0_3 r_n0_3 r_c0_3] 25)) (w1'.heap.size) 25 #[.int .i64 (mS0 a0 a1), .int .i64 (mS1 3 a0 a1), .slice r_a0_2 r_n0_2 r_c0_2, .slice r_a0_3 r_n0_3 r_c0_3] := Blk.new w1' 25 #[.int .i64 (mS0 a0 a1), .int .i64 (mS1 3 a0 a1), .slice r_a0_2 r_n0_2 r_c0_2, .slice r_a0_3 r_n0_3 r_c0_3]
  have S_w2' : w1'.heap.size + 1 ≤ (w1'.alloc (.cells #[.int .i64 (mS0 a0 a1), .int .i64 (mS1 3 a0 a1), .slice r_a0_2 r_n0_2 r_c0_2, .slice r_a0_3 r_n0_3 r_c0_3] 25)).heap.size := by simp
  generalize (w1'.alloc (.cells #[.int .i64 (mS0 a0 a1), .int .i64 (mS1 3 a0 a1), .slice r_a0_2 r_n0_2 r_c0_2, .slice r_a0_3 r_n0_3 r_c0_3] 25)) = w2' at *
  clear V_w1'
  refine (TurnCircuit_any _ _ _ ).mono ?_
  rintro e w3' ⟨g_a0_2, g_n0_2, g_c0_2, g_a0_3, g_n0_3, g_c0_3, rfl, g0_2, g0_3, dj_g0_2_0_3, u_w3'⟩
  replace B_r0 := B_r0.below u_w3'
  replace r0_2 := r0_2.below u_w3'
  replace r0_3 := r0_3.below u_w3'
  have V_w3' := V_w2'.trans (u_w3'.mono (V_w2').size)
  have S_w3' := u_w3'.size
  clear u_w3' V_w2'
  have Q_g0_2 := Lib.hid g0_2.feet
  have Q_g0_3 := Lib.hid g0_3.feet
  have e_r0_0 : w3'.cell? ⟨w1'.heap.size, 0, none⟩ = some (.int .i64 (mS0 a0 a1)) := B_r0.cell 0
  have e_r0_0_0 : (w3'.alloc (.cells #[.int .i64 (mS0 a0 a1), .int .i64 (mS1 3 a0 a1), .slice g_a0_2 g_n0_2 g_c0_2, .slice g_a0_3 g_n0_3 g_c0_3] 25)).cell? ⟨w1'.heap.size, 0, none⟩ = some (.int .i64 (mS0 a0 a1)) := keepA _ e_r0_0
  have e_r0_1 : w3'.cell? ⟨w1'.heap.size, 1, none⟩ = some (.int .i64 (mS1 3 a0 a1)) := B_r0.cell 1
  have e_r0_1_0 : (w3'.alloc (.cells #[.int .i64 (mS0 a0 a1), .int .i64 (mS1 3 a0 a1), .slice g_a0_2 g_n0_2 g_c0_2, .slice g_a0_3 g_n0_3 g_c0_3] 25)).cell? ⟨w1'.heap.size, 1, none⟩ = some (.int .i64 (mS1 3 a0 a1)) := keepA _ e_r0_1
  have e_r0_2 : w3'.cell? ⟨w1'.heap.size, 2, none⟩ = some (.slice r_a0_2 r_n0_2 r_c0_2) := B_r0.cell 2
  have e_r0_2_0 : (w3'.alloc (.cells #[.int .i64 (mS0 a0 a1), .int .i64 (mS1 3 a0 a1), .slice g_a0_2 g_n0_2 g_c0_2, .slice g_a0_3 g_n0_3 g_c0_3] 25)).cell? ⟨w1'.heap.size, 2, none⟩ = some (.slice r_a0_2 r_n0_2 r_c0_2) := keepA _ e_r0_2
  have e_r0_3 : w3'.cell? ⟨w1'.heap.size, 3, none⟩ = some (.slice r_a0_3 r_n0_3 r_c0_3) := B_r0.cell 3
  have e_r0_3_0 : (w3'.alloc (.cells #[.int .i64 (mS0 a0 a1), .int .i64 (mS1 3 a0 a1), .slice g_a0_2 g_n0_2 g_c0_2, .slice g_a0_3 g_n0_3 g_c0_3] 25)).cell? ⟨w1'.heap.size, 3, none⟩ = some (.slice r_a0_3 r_n0_3 r_c0_3) := keepA _ e_r0_3
  go_wp2_with fail
  clear e_r0_0 e_r0_0_0 e_r0_1 e_r0_1_0 e_r0_2 e_r0_2_0 e_r0_3 e_r0_3_0
  have V_w4' : Below w.heap.size w (w3'.alloc (.cells #[.int .i64 (mS0 a0 a1), .int .i64 (mS1 3 a0 a1), .slice g_a0_2 g_n0_2 g_c0_2, .slice g_a0_3 g_n0_3 g_c0_3] 25)) := ((V_w3').alloc (by have := (V_w3').size; first | exact this | (simp; omega) | simp) _)
  replace B_r0 := B_r0.alloc (.cells #[.int .i64 (mS0 a0 a1), .int .i64 (mS1 3 a0 a1), .slice g_a0_2 g_n0_2 g_c0_2, .slice g_a0_3 g_n0_3 g_c0_3] 25)
  replace r0_2 := r0_2.alloc (.cells #[.int .i64 (mS0 a0 a1), .int .i64 (mS1 3 a0 a1), .slice g_a0_2 g_n0_2 g_c0_2, .slice g_a0_3 g_n0_3 g_c0_3] 25)
  replace r0_3 := r0_3.alloc (.cells #[.int .i64 (mS0 a0 a1), .int .i64 (mS1 3 a0 a1), .slice g_a0_2 g_n0_2 g_c0_2, .slice g_a0_3 g_n0_3 g_c0_3] 25)
  replace g0_2 := g0_2.alloc (.cells #[.int .i64 (mS0 a0 a1), .int .i64 (mS1 3 a0 a1), .slice g_a0_2 g_n0_2 g_c0_2, .slice g_a0_3 g_n0_3 g_c0_3] 25)
  replace g0_3 := g0_3.alloc (.cells #[.int .i64 (mS0 a0 a1), .int .i64 (mS1 3 a0 a1), .slice g_a0_2 g_n0_2 g_c0_2, .slice g_a0_3 g_n0_3 g_c0_3] 25)
  have B_g0 : Blk (w3'.alloc (.cells #[.int .i64 (mS0 a0 a1), .int .i64 (mS1 3 a0 a1), .slice g_a0_2 g_n0_2 g_c0_2, .slice g_a0_3 g_n0_3 g_c0_3] 25)) (w3'.heap.size) 25 #[.int .i64 (mS0 a0 a1), .int .i64 (mS1 3 a0 a1), .slice g_a0_2 g_n0_2 g_c0_2, .slice g_a0_3 g_n0_3 g_c0_3] := Blk.new w3' 25 #[.int .i64 (mS0 a0 a1), .int .i64 (mS1 3 a0 a1), .slice g_a0_2 g_n0_2 g_c0_2, .slice g_a0_3 g_n0_3 g_c0_3]
  have S_w4' : w3'.heap.size + 1 ≤ (w3'.alloc (.cells #[.int .i64 (mS0 a0 a1), .int .i64 (mS1 3 a0 a1), .slice g_a0_2 g_n0_2 g_c0_2, .slice g_a0_3 g_n0_3 g_c0_3] 25)).heap.size := by simp
  generalize (w3'.alloc (.cells #[.int .i64 (mS0 a0 a1), .int .i64 (mS1 3 a0 a1), .slice g_a0_2 g_n0_2 g_c0_2, .slice g_a0_3 g_n0_3 g_c0_3] 25)) = w4' at *
  clear V_w3'
  refine (eqCircuit_same _ _ _ _ _ _ _ _ _ _ _ _ _ _ _ _ _ g0_2.flat r0_2.flat g0_3.ints r0_3.ints).mono ?_
  rintro e w5' ⟨rfl, u_w5'⟩
  replace B_r0 := B_r0.below u_w5'
  replace B_g0 := B_g0.below u_w5'
  replace r0_2 := r0_2.below u_w5'
  replace r0_3 := r0_3.below u_w5'
  replace g0_2 := g0_2.below u_w5'
  replace g0_3 := g0_3.below u_w5'
  have V_w5' := V_w4'.trans (u_w5'.mono (V_w4').size)
  have S_w5' := u_w5'.size
  clear u_w5' V_w4'
  have hlg0_2 : g_n0_2 ≤ 1000000 := by have h1 := g0_2.len; have h2 := (m_len 3 a0 a1).1; omega
  have hlg0_3 : g_n0_3 ≤ 1000000 := by rw [g0_3.len]; exact Nat.le_trans (m_len 3 a0 a1).2 (by omega)
  have e_g0_0 : w5'.cell? ⟨w3'.heap.size, 0, none⟩ = some (.int .i64 (mS0 a0 a1)) := B_g0.cell 0
  have e_g0_1 : w5'.cell? ⟨w3'.heap.size, 1, none⟩ = some (.int .i64 (mS1 3 a0 a1)) := B_g0.cell 1
  have e_g0_2 : w5'.cell? ⟨w3'.heap.size, 2, none⟩ = some (.slice g_a0_2 g_n0_2 g_c0_2) := B_g0.cell 2
  have e_g0_3 : w5'.cell? ⟨w3'.heap.size, 3, none⟩ = some (.slice g_a0_3 g_n0_3 g_c0_3) := B_g0.cell 3
  go_wp2_with fail
  clear e_g0_0 e_g0_1 e_g0_2 e_g0_3
  refine (markCircuit_any _ _ _ _ _ _ _ _ _ _ _ _ _ _ g0_2 g0_3 dj_g0_2_0_3 (by omega) (by omega)).mono ?_
  rintro e w6' ⟨rfl, ⟨L_g0_2, g0_2, U_g0_2⟩, ⟨L_g0_3, g0_3, U_g0_3⟩, G⟩
  replace U_g0_2 := Lib.hid U_g0_2
  replace U_g0_3 := Lib.hid U_g0_3
  have RG : ∀ k ∈ foot g_a0_2 g_c0_2 ++ foot g_a0_3 g_c0_3, k ∈ foot g_a0_2 g_c0_2 ∨ k ∈ foot g_a0_3 g_c0_3 := fun k hk => by
    simpa [or_assoc] using hk
  replace r0_2 := r0_2.only G (Disj.app (fun k hk hk' => by have := Q_r0_2.out k hk; have := Q_g0_2.out k hk'; omega) (fun k hk hk' => by have := Q_r0_2.out k hk; have := Q_g0_3.out k hk'; omega))
  replace r0_3 := r0_3.only G (Disj.app (fun k hk hk' => by have := Q_r0_3.out k hk; have := Q_g0_2.out k hk'; omega) (fun k hk hk' => by have := Q_r0_3.out k hk; have := Q_g0_3.out k hk'; omega))
  replace B_r0 := B_r0.only G (fun hm => by rcases RG _ hm with h | h <;> first | (have := Q_g0_2.out _ h; omega) | (have := Q_g0_3.out _ h; omega))
  replace B_g0 := B_g0.only G (fun hm => by rcases RG _ hm with h | h <;> first | (have := Q_g0_2.out _ h; omega) | (have := Q_g0_3.out _ h; omega))
  have V_w6' := V_w5'.trans (G.below V_w5'.size (fun k hm => by have := V_w5'.size; rcases RG _ hm with h | h <;> first | (have := Q_g0_2.out _ h; omega) | (have := Q_g0_3.out _ h; omega)))
  have S_w6' := G.size
  clear G RG V_w5'
  have e_g0_0 : w6'.cell? ⟨w3'.heap.size, 0, none⟩ = some (.int .i64 (mS0 a0 a1)) := B_g0.cell 0
  have e_g0_1 : w6'.cell? ⟨w3'.heap.size, 1, none⟩ = some (.int .i64 (mS1 3 a0 a1)) := B_g0.cell 1
  have e_g0_2 : w6'.cell? ⟨w3'.heap.size, 2, none⟩ = some (.slice g_a0_2 g_n0_2 g_c0_2) := B_g0.cell 2
  have e_g0_3 : w6'.cell? ⟨w3'.heap.size, 3, none⟩ = some (.slice g_a0_3 g_n0_3 g_c0_3) := B_g0.cell 3
  go_wp2_with fail
  clear e_g0_0 e_g0_1 e_g0_2 e_g0_3
  refine (heldCircuit_any _ _ _ _ _ _ _ _ _ _ _ _ g0_2.flat g0_3.ints U_g0_2.out U_g0_3.out (by omega) (by omega)).mono ?_
  rintro e w7' ⟨rfl, u_w7'⟩
  replace B_r0 := B_r0.below u_w7'
  replace B_g0 := B_g0.below u_w7'
  replace r0_2 := r0_2.below u_w7'
  replace r0_3 := r0_3.below u_w7'
  replace g0_2 := g0_2.below u_w7'
  replace g0_3 := g0_3.below u_w7'
  have V_w7' := V_w6'.trans (u_w7'.mono (V_w6').size)
  have S_w7' := u_w7'.size
  clear u_w7' V_w6'
  go_wp2_with fail
  refine (TurnCircuit_any _ _ _ ).mono ?_
  rintro e w8' ⟨h_a0_2, h_n0_2, h_c0_2, h_a0_3, h_n0_3, h_c0_3, rfl, h0_2, h0_3, dj_h0_2_0_3, u_w8'⟩
  replace B_r0 := B_r0.below u_w8'
  replace B_g0 := B_g0.below u_w8'
  replace r0_2 := r0_2.below u_w8'
  replace r0_3 := r0_3.below u_w8'
  replace g0_2 := g0_2.below u_w8'
  replace g0_3 := g0_3.below u_w8'
  have V_w8' := V_w7'.trans (u_w8'.mono (V_w7').size)
  have S_w8' := u_w8'.size
  clear u_w8' V_w7'
  have Q_h0_2 := Lib.hid h0_2.feet
  have Q_h0_3 := Lib.hid h0_3.feet
  have e_r0_0 : w8'.cell? ⟨w1'.heap.size, 0, none⟩ = some (.int .i64 (mS0 a0 a1)) := B_r0.cell 0
  have e_r0_0_0 : (w8'.alloc (.cells #[.int .i64 (mS0 a0 a1), .int .i64 (mS1 3 a0 a1), .slice h_a0_2 h_n0_2 h_c0_2, .slice h_a0_3 h_n0_3 h_c0_3] 25)).cell? ⟨w1'.heap.size, 0, none⟩ = some (.int .i64 (mS0 a0 a1)) := keepA _ e_r0_0
  have e_r0_1 : w8'.cell? ⟨w1'.heap.size, 1, none⟩ = some (.int .i64 (mS1 3 a0 a1)) := B_r0.cell 1
  have e_r0_1_0 : (w8'.alloc (.cells #[.int .i64 (mS0 a0 a1), .int .i64 (mS1 3 a0 a1), .slice h_a0_2 h_n0_2 h_c0_2, .slice h_a0_3 h_n0_3 h_c0_3] 25)).cell? ⟨w1'.heap.size, 1, none⟩ = some (.int .i64 (mS1 3 a0 a1)) := keepA _ e_r0_1
  have e_r0_2 : w8'.cell? ⟨w1'.heap.size, 2, none⟩ = some (.slice r_a0_2 r_n0_2 r_c0_2) := B_r0.cell 2
  have e_r0_2_0 : (w8'.alloc (.cells #[.int .i64 (mS0 a0 a1), .int .i64 (mS1 3 a0 a1), .slice h_a0_2 h_n0_2 h_c0_2, .slice h_a0_3 h_n0_3 h_c0_3] 25)).cell? ⟨w1'.heap.size, 2, none⟩ = some (.slice r_a0_2 r_n0_2 r_c0_2) := keepA _ e_r0_2
  have e_r0_3 : w8'.cell? ⟨w1'.heap.size, 3, none⟩ = some (.slice r_a0_3 r_n0_3 r_c0_3) := B_r0.cell 3
  have e_r0_3_0 : (w8'.alloc (.cells #[.int .i64 (mS0 a0 a1), .int .i64 (mS1 3 a0 a1), .slice h_a0_2 h_n0_2 h_c0_2, .slice h_a0_3 h_n0_3 h_c0_3] 25)).cell? ⟨w1'.heap.size, 3, none⟩ = some (.slice r_a0_3 r_n0_3 r_c0_3) := keepA _ e_r0_3
  go_wp2_with fail
  clear e_r0_0 e_r0_0_0 e_r0_1 e_r0_1_0 e_r0_2 e_r0_2_0 e_r0_3 e_r0_3_0
  have V_w9' : Below w.heap.size w (w8'.alloc (.cells #[.int .i64 (mS0 a0 a1), .int .i64 (mS1 3 a0 a1), .slice h_a0_2 h_n0_2 h_c0_2, .slice h_a0_3 h_n0_3 h_c0_3] 25)) := ((V_w8').alloc (by have := (V_w8').size; first | exact this | (simp; omega) | simp) _)
  replace B_r0 := B_r0.alloc (.cells #[.int .i64 (mS0 a0 a1), .int .i64 (mS1 3 a0 a1), .slice h_a0_2 h_n0_2 h_c0_2, .slice h_a0_3 h_n0_3 h_c0_3] 25)
  replace B_g0 := B_g0.alloc (.cells #[.int .i64 (mS0 a0 a1), .int .i64 (mS1 3 a0 a1), .slice h_a0_2 h_n0_2 h_c0_2, .slice h_a0_3 h_n0_3 h_c0_3] 25)
  replace r0_2 := r0_2.alloc (.cells #[.int .i64 (mS0 a0 a1), .int .i64 (mS1 3 a0 a1), .slice h_a0_2 h_n0_2 h_c0_2, .slice h_a0_3 h_n0_3 h_c0_3] 25)
  replace r0_3 := r0_3.alloc (.cells #[.int .i64 (mS0 a0 a1), .int .i64 (mS1 3 a0 a1), .slice h_a0_2 h_n0_2 h_c0_2, .slice h_a0_3 h_n0_3 h_c0_3] 25)
  replace g0_2 := g0_2.alloc (.cells #[.int .i64 (mS0 a0 a1), .int .i64 (mS1 3 a0 a1), .slice h_a0_2 h_n0_2 h_c0_2, .slice h_a0_3 h_n0_3 h_c0_3] 25)
  replace g0_3 := g0_3.alloc (.cells #[.int .i64 (mS0 a0 a1), .int .i64 (mS1 3 a0 a1), .slice h_a0_2 h_n0_2 h_c0_2, .slice h_a0_3 h_n0_3 h_c0_3] 25)
  replace h0_2 := h0_2.alloc (.cells #[.int .i64 (mS0 a0 a1), .int .i64 (mS1 3 a0 a1), .slice h_a0_2 h_n0_2 h_c0_2, .slice h_a0_3 h_n0_3 h_c0_3] 25)
  replace h0_3 := h0_3.alloc (.cells #[.int .i64 (mS0 a0 a1), .int .i64 (mS1 3 a0 a1), .slice h_a0_2 h_n0_2 h_c0_2, .slice h_a0_3 h_n0_3 h_c0_3] 25)
  have B_h0 : Blk (w8'.alloc (.cells #[.int .i64 (mS0 a0 a1), .int .i64 (mS1 3 a0 a1), .slice h_a0_2 h_n0_2 h_c0_2, .slice h_a0_3 h_n0_3 h_c0_3] 25)) (w8'.heap.size) 25 #[.int .i64 (mS0 a0 a1), .int .i64 (mS1 3 a0 a1), .slice h_a0_2 h_n0_2 h_c0_2, .slice h_a0_3 h_n0_3 h_c0_3] := Blk.new w8' 25 #[.int .i64 (mS0 a0 a1), .int .i64 (mS1 3 a0 a1), .slice h_a0_2 h_n0_2 h_c0_2, .slice h_a0_3 h_n0_3 h_c0_3]
  have S_w9' : w8'.heap.size + 1 ≤ (w8'.alloc (.cells #[.int .i64 (mS0 a0 a1), .int .i64 (mS1 3 a0 a1), .slice h_a0_2 h_n0_2 h_c0_2, .slice h_a0_3 h_n0_3 h_c0_3] 25)).heap.size := by simp
  generalize (w8'.alloc (.cells #[.int .i64 (mS0 a0 a1), .int .i64 (mS1 3 a0 a1), .slice h_a0_2 h_n0_2 h_c0_2, .slice h_a0_3 h_n0_3 h_c0_3] 25)) = w9' at *
  clear V_w8'
  refine (eqCircuit_same _ _ _ _ _ _ _ _ _ _ _ _ _ _ _ _ _ h0_2.flat r0_2.flat h0_3.ints r0_3.ints).mono ?_
  rintro e w10' ⟨rfl, u_w10'⟩
  replace B_r0 := B_r0.below u_w10'
  replace B_g0 := B_g0.below u_w10'
  replace B_h0 := B_h0.below u_w10'
  replace r0_2 := r0_2.below u_w10'
  replace r0_3 := r0_3.below u_w10'
  replace g0_2 := g0_2.below u_w10'
  replace g0_3 := g0_3.below u_w10'
  replace h0_2 := h0_2.below u_w10'
  replace h0_3 := h0_3.below u_w10'
  have V_w10' := V_w9'.trans (u_w10'.mono (V_w9').size)
  have S_w10' := u_w10'.size
  clear u_w10' V_w9'
  have e_g0_0 : w10'.cell? ⟨w3'.heap.size, 0, none⟩ = some (.int .i64 (mS0 a0 a1)) := B_g0.cell 0
  have e_g0_1 : w10'.cell? ⟨w3'.heap.size, 1, none⟩ = some (.int .i64 (mS1 3 a0 a1)) := B_g0.cell 1
  have e_g0_2 : w10'.cell? ⟨w3'.heap.size, 2, none⟩ = some (.slice g_a0_2 g_n0_2 g_c0_2) := B_g0.cell 2
  have e_g0_3 : w10'.cell? ⟨w3'.heap.size, 3, none⟩ = some (.slice g_a0_3 g_n0_3 g_c0_3) := B_g0.cell 3
  go_wp2_with fail
  clear e_g0_0 e_g0_1 e_g0_2 e_g0_3
  refine (heldCircuit_any _ _ _ _ _ _ _ _ _ _ _ _ g0_2.flat g0_3.ints U_g0_2.out U_g0_3.out (by omega) (by omega)).mono ?_
  rintro e w11' ⟨rfl, u_w11'⟩
  replace B_r0 := B_r0.below u_w11'
  replace B_g0 := B_g0.below u_w11'
  replace B_h0 := B_h0.below u_w11'
  replace r0_2 := r0_2.below u_w11'
  replace r0_3 := r0_3.below u_w11'
  replace g0_2 := g0_2.below u_w11'
  replace g0_3 := g0_3.below u_w11'
  replace h0_2 := h0_2.below u_w11'
  replace h0_3 := h0_3.below u_w11'
  have V_w11' := V_w10'.trans (u_w11'.mono (V_w10').size)
  have S_w11' := u_w11'.size
  clear u_w11' V_w10'
  go_wp2
  go_ret
  exact ⟨rfl, V_w11'⟩
end Go.Proofs.Ytkbhigdciokfkaa
