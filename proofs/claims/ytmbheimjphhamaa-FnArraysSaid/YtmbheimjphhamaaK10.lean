/- Lemmas and walks that the claim's proof rests on, part 10. -/
import Derived.Deep.DeepCutAuto
import Derived.Test.YtmbheimjphhamaaK1
import Derived.Test.YtmbheimjphhamaaK9
namespace Go.Proofs.Ytmbheimjphhamaa
open Go.RowKit
theorem am_tree {n wd : Int} (h : memB n wd = true) : amN 1 n wd = (n - 1) * wd ∧ amN 1 n wd ≤ amN 0 n wd ∧ amB 1 n wd = true ∧ amB 0 n wd = true ∧ amN 1 n wd = (cntL (mG 1 n wd) ((mG 1 n wd).length / 3)).getD 1 0 := by
  obtain ⟨⟨h1, h8⟩, ⟨h3, h4⟩, _⟩ := memB_true h
  obtain ⟨n, rfl⟩ : ∃ k : Nat, n = k := ⟨n.toNat, by omega⟩
  obtain ⟨w, rfl⟩ : ∃ k : Nat, wd = k := ⟨wd.toNat, by omega⟩
  have e1 : mG 1 (n : Int) (w : Int) = (meG 1 n w).1 := by unfold mG; rw [if_pos h]; rfl
  have e0 : mG 0 (n : Int) (w : Int) = (meG 0 n w).1 := by unfold mG; rw [if_pos h]; rfl
  obtain ⟨b1, a1⟩ := am_yes 1 (by decide) h
  obtain ⟨b0, a0⟩ := am_yes 0 (by decide) h
  have b1' : amB 1 (n : Int) (w : Int) = true := b1
  have b0' : amB 0 (n : Int) (w : Int) = true := b0
  have a1' : amN 1 (n : Int) (w : Int) = (cntL (mG 1 n w) ((mG 1 n w).length / 3)).getD 1 0 := a1
  have a0' : amN 0 (n : Int) (w : Int) = (cntL (mG 0 n w) ((mG 0 n w).length / 3)).getD 1 0 := a0
  refine ⟨?_, ?_, b1', b0', a1'⟩
  · rw [a1', e1]; exact anN_tree n w (by omega) (by omega) (by omega) (by omega)
  · rw [a1', a0', e1, e0]; exact anN_scan n w (by omega) (by omega) (by omega) (by omega)
theorem m_circ (k : Nat) {n wd : Int} (h : memB n wd = true) : ciB (mS0 n wd) (mS1 k n wd) ((mG k n wd).length / 3) (mG k n wd) (mO k n wd) = true := by
  obtain ⟨⟨h1, h8⟩, ⟨h3, h4⟩, _⟩ := memB_true h
  obtain ⟨n, rfl⟩ : ∃ k : Nat, n = k := ⟨n.toNat, by omega⟩
  obtain ⟨w, rfl⟩ : ∃ k : Nat, wd = k := ⟨wd.toNat, by omega⟩
  have := m_ok k n w h
  unfold mS0 mS1 mG mO
  rw [if_pos h, if_pos h, if_pos h, if_pos h]
  simpa using this
set_option maxHeartbeats 16000000 in
set_option maxRecDepth 100000 in
theorem FnArrays_walk (a0 : Option Addr) (n0 c0 : Nat) (a1 : Option Addr) (n1 c1 : Nat) (w : World) (z0 : Cod w w.heap.size a0 n0 c0) (z1 : Cod w w.heap.size a1 n1 c1) :
    Calls Try.prog 3 #[.slice a0 n0 c0, .slice a1 n1 c1] w fun e w' => e = .returned (.bool true) ∧ Below w.heap.size w w' := by
  have m1 := z0.1
  have m2 := z0.2.1
  have m3 := z1.1
  have m4 := z1.2.1
  unfold maxLen at m2 m4
  have hn : (n0 : Int) ≤ 9223372036854775807 := by omega
  have hn' : (n1 : Int) ≤ 9223372036854775807 := by omega
  clear m1 m2 m3 m4
  have Z1 := Lib.hid z1
  clear z1
  obtain ⟨sm, hsm⟩ : ∃ s, wrap64 ((n0 : Int) + (n1 : Int)) = s := ⟨_, rfl⟩
  by_cases hbig : sm > 1048576
  · go_enter Try.func3, Try.ntmps3
    go_wp2
    go_ret
    exact ⟨rfl, Below.refl _ _⟩
  have hbig2 : decide (sm > 1048576) = false := decide_eq_false hbig
  go_enter Try.func3, Try.ntmps3
  go_wp2_with fail
  clear hsm hbig hbig2 hn hn'
  refine (DrawScanReadCircuit_any _ _ _ _ z0).mono ?_
  rintro e w1' ⟨n, wd, rfl, u_w1'⟩
  have S_w1' := u_w1'.size
  have V_w1' : Below w.heap.size w w1' := (Below.refl w.heap.size w).trans (u_w1'.mono (Below.refl w.heap.size w).size)
  clear u_w1'
  clear z0
  go_wp2_with fail
  refine (ScanReadCircuit_any n wd _).mono ?_
  rintro e w2' ⟨ga_i0, gn_i0, gc_i0, oa_i0, on_i0, oc_i0, rfl, og_i0, oo_i0, dd_i0, u_w2'⟩
  have S_w2' := u_w2'.size
  have V_w2' : Below w.heap.size w w2' := V_w1'.trans (u_w2'.mono V_w1'.size)
  clear V_w1'
  clear u_w2'
  clear dd_i0
  go_upto_region 5 with fail
  have V_w3'_1 : Below w.heap.size w (w2'.alloc (.cells #[.int .i64 (mS0 n wd), .int .i64 (mS1 0 n wd), .slice ga_i0 gn_i0 gc_i0, .slice oa_i0 on_i0 oc_i0] 28)) := (V_w2').alloc (by have := (V_w2').size; first | exact this | (simp at *; omega)) _
  replace og_i0 := og_i0.alloc (.cells #[.int .i64 (mS0 n wd), .int .i64 (mS1 0 n wd), .slice ga_i0 gn_i0 gc_i0, .slice oa_i0 on_i0 oc_i0] 28)
  replace oo_i0 := oo_i0.alloc (.cells #[.int .i64 (mS0 n wd), .int .i64 (mS1 0 n wd), .slice ga_i0 gn_i0 gc_i0, .slice oa_i0 on_i0 oc_i0] 28)
  have B_i0 : Blk (w2'.alloc (.cells #[.int .i64 (mS0 n wd), .int .i64 (mS1 0 n wd), .slice ga_i0 gn_i0 gc_i0, .slice oa_i0 on_i0 oc_i0] 28)) (w2'.heap.size) 28 #[.int .i64 (mS0 n wd), .int .i64 (mS1 0 n wd), .slice ga_i0 gn_i0 gc_i0, .slice oa_i0 on_i0 oc_i0] := by exact Blk.new w2' 28 #[.int .i64 (mS0 n wd), .int .i64 (mS1 0 n wd), .slice ga_i0 gn_i0 gc_i0, .slice oa_i0 on_i0 oc_i0]
  have S_w3' : w2'.heap.size + 1 ≤ (w2'.alloc (.cells #[.int .i64 (mS0 n wd), .int .i64 (mS1 0 n wd), .slice ga_i0 gn_i0 gc_i0, .slice oa_i0 on_i0 oc_i0] 28)).heap.size := by first | (simp; done) | (simp; omega) | (simp [World.setCell]; done) | (simp [World.setCell]; omega)
  generalize (w2'.alloc (.cells #[.int .i64 (mS0 n wd), .int .i64 (mS1 0 n wd), .slice ga_i0 gn_i0 gc_i0, .slice oa_i0 on_i0 oc_i0] 28)) = w3' at *
  have V_w3' : Below w.heap.size w w3' := V_w3'_1
  clear V_w2'
  clear V_w3'_1
  go_wp2_with fail
  refine (spec_ScanReadCircuit_any n wd _).mono ?_
  rintro e w4' ⟨ga_s0, gn_s0, gc_s0, oa_s0, on_s0, oc_s0, rfl, og_s0, oo_s0, dd_s0, u_w4'⟩
  replace B_i0 := B_i0.below u_w4'
  replace og_i0 := og_i0.below u_w4'
  replace oo_i0 := oo_i0.below u_w4'
  have S_w4' := u_w4'.size
  have V_w4' : Below w.heap.size w w4' := V_w3'.trans (u_w4'.mono V_w3'.size)
  clear V_w3'
  clear u_w4'
  clear dd_s0
  go_upto_region 6 with fail
  have V_w5'_1 : Below w.heap.size w (w4'.alloc (.cells #[.int .i64 (mS0 n wd), .int .i64 (mS1 0 n wd), .slice ga_s0 gn_s0 gc_s0, .slice oa_s0 on_s0 oc_s0] 28)) := (V_w4').alloc (by have := (V_w4').size; first | exact this | (simp at *; omega)) _
  replace B_i0 := B_i0.alloc (.cells #[.int .i64 (mS0 n wd), .int .i64 (mS1 0 n wd), .slice ga_s0 gn_s0 gc_s0, .slice oa_s0 on_s0 oc_s0] 28)
  replace og_i0 := og_i0.alloc (.cells #[.int .i64 (mS0 n wd), .int .i64 (mS1 0 n wd), .slice ga_s0 gn_s0 gc_s0, .slice oa_s0 on_s0 oc_s0] 28)
  replace oo_i0 := oo_i0.alloc (.cells #[.int .i64 (mS0 n wd), .int .i64 (mS1 0 n wd), .slice ga_s0 gn_s0 gc_s0, .slice oa_s0 on_s0 oc_s0] 28)
  replace og_s0 := og_s0.alloc (.cells #[.int .i64 (mS0 n wd), .int .i64 (mS1 0 n wd), .slice ga_s0 gn_s0 gc_s0, .slice oa_s0 on_s0 oc_s0] 28)
  replace oo_s0 := oo_s0.alloc (.cells #[.int .i64 (mS0 n wd), .int .i64 (mS1 0 n wd), .slice ga_s0 gn_s0 gc_s0, .slice oa_s0 on_s0 oc_s0] 28)
  have B_s0 : Blk (w4'.alloc (.cells #[.int .i64 (mS0 n wd), .int .i64 (mS1 0 n wd), .slice ga_s0 gn_s0 gc_s0, .slice oa_s0 on_s0 oc_s0] 28)) (w4'.heap.size) 28 #[.int .i64 (mS0 n wd), .int .i64 (mS1 0 n wd), .slice ga_s0 gn_s0 gc_s0, .slice oa_s0 on_s0 oc_s0] := by exact Blk.new w4' 28 #[.int .i64 (mS0 n wd), .int .i64 (mS1 0 n wd), .slice ga_s0 gn_s0 gc_s0, .slice oa_s0 on_s0 oc_s0]
  have S_w5' : w4'.heap.size + 1 ≤ (w4'.alloc (.cells #[.int .i64 (mS0 n wd), .int .i64 (mS1 0 n wd), .slice ga_s0 gn_s0 gc_s0, .slice oa_s0 on_s0 oc_s0] 28)).heap.size := by first | (simp; done) | (simp; omega) | (simp [World.setCell]; done) | (simp [World.setCell]; omega)
  generalize (w4'.alloc (.cells #[.int .i64 (mS0 n wd), .int .i64 (mS1 0 n wd), .slice ga_s0 gn_s0 gc_s0, .slice oa_s0 on_s0 oc_s0] 28)) = w5' at *
  have V_w5' : Below w.heap.size w w5' := V_w5'_1
  clear V_w4'
  clear V_w5'_1
  go_wp2_with fail
  refine (TreeReadCircuit_any n wd _).mono ?_
  rintro e w6' ⟨ga_i1, gn_i1, gc_i1, oa_i1, on_i1, oc_i1, rfl, og_i1, oo_i1, dd_i1, u_w6'⟩
  replace B_i0 := B_i0.below u_w6'
  replace B_s0 := B_s0.below u_w6'
  replace og_i0 := og_i0.below u_w6'
  replace oo_i0 := oo_i0.below u_w6'
  replace og_s0 := og_s0.below u_w6'
  replace oo_s0 := oo_s0.below u_w6'
  have S_w6' := u_w6'.size
  have V_w6' : Below w.heap.size w w6' := V_w5'.trans (u_w6'.mono V_w5'.size)
  clear V_w5'
  clear u_w6'
  clear dd_i1
  go_upto_region 7 with fail
  have V_w7'_1 : Below w.heap.size w (w6'.alloc (.cells #[.int .i64 (mS0 n wd), .int .i64 (mS1 1 n wd), .slice ga_i1 gn_i1 gc_i1, .slice oa_i1 on_i1 oc_i1] 28)) := (V_w6').alloc (by have := (V_w6').size; first | exact this | (simp at *; omega)) _
  replace B_i0 := B_i0.alloc (.cells #[.int .i64 (mS0 n wd), .int .i64 (mS1 1 n wd), .slice ga_i1 gn_i1 gc_i1, .slice oa_i1 on_i1 oc_i1] 28)
  replace B_s0 := B_s0.alloc (.cells #[.int .i64 (mS0 n wd), .int .i64 (mS1 1 n wd), .slice ga_i1 gn_i1 gc_i1, .slice oa_i1 on_i1 oc_i1] 28)
  replace og_i0 := og_i0.alloc (.cells #[.int .i64 (mS0 n wd), .int .i64 (mS1 1 n wd), .slice ga_i1 gn_i1 gc_i1, .slice oa_i1 on_i1 oc_i1] 28)
  replace oo_i0 := oo_i0.alloc (.cells #[.int .i64 (mS0 n wd), .int .i64 (mS1 1 n wd), .slice ga_i1 gn_i1 gc_i1, .slice oa_i1 on_i1 oc_i1] 28)
  replace og_s0 := og_s0.alloc (.cells #[.int .i64 (mS0 n wd), .int .i64 (mS1 1 n wd), .slice ga_i1 gn_i1 gc_i1, .slice oa_i1 on_i1 oc_i1] 28)
  replace oo_s0 := oo_s0.alloc (.cells #[.int .i64 (mS0 n wd), .int .i64 (mS1 1 n wd), .slice ga_i1 gn_i1 gc_i1, .slice oa_i1 on_i1 oc_i1] 28)
  replace og_i1 := og_i1.alloc (.cells #[.int .i64 (mS0 n wd), .int .i64 (mS1 1 n wd), .slice ga_i1 gn_i1 gc_i1, .slice oa_i1 on_i1 oc_i1] 28)
  replace oo_i1 := oo_i1.alloc (.cells #[.int .i64 (mS0 n wd), .int .i64 (mS1 1 n wd), .slice ga_i1 gn_i1 gc_i1, .slice oa_i1 on_i1 oc_i1] 28)
  have B_i1 : Blk (w6'.alloc (.cells #[.int .i64 (mS0 n wd), .int .i64 (mS1 1 n wd), .slice ga_i1 gn_i1 gc_i1, .slice oa_i1 on_i1 oc_i1] 28)) (w6'.heap.size) 28 #[.int .i64 (mS0 n wd), .int .i64 (mS1 1 n wd), .slice ga_i1 gn_i1 gc_i1, .slice oa_i1 on_i1 oc_i1] := by exact Blk.new w6' 28 #[.int .i64 (mS0 n wd), .int .i64 (mS1 1 n wd), .slice ga_i1 gn_i1 gc_i1, .slice oa_i1 on_i1 oc_i1]
  have S_w7' : w6'.heap.size + 1 ≤ (w6'.alloc (.cells #[.int .i64 (mS0 n wd), .int .i64 (mS1 1 n wd), .slice ga_i1 gn_i1 gc_i1, .slice oa_i1 on_i1 oc_i1] 28)).heap.size := by first | (simp; done) | (simp; omega) | (simp [World.setCell]; done) | (simp [World.setCell]; omega)
  generalize (w6'.alloc (.cells #[.int .i64 (mS0 n wd), .int .i64 (mS1 1 n wd), .slice ga_i1 gn_i1 gc_i1, .slice oa_i1 on_i1 oc_i1] 28)) = w7' at *
  have V_w7' : Below w.heap.size w w7' := V_w7'_1
  clear V_w6'
  clear V_w7'_1
  go_wp2_with fail
  refine (spec_TreeReadCircuit_any n wd _).mono ?_
  rintro e w8' ⟨ga_s1, gn_s1, gc_s1, oa_s1, on_s1, oc_s1, rfl, og_s1, oo_s1, dd_s1, u_w8'⟩
  replace B_i0 := B_i0.below u_w8'
  replace B_s0 := B_s0.below u_w8'
  replace B_i1 := B_i1.below u_w8'
  replace og_i0 := og_i0.below u_w8'
  replace oo_i0 := oo_i0.below u_w8'
  replace og_s0 := og_s0.below u_w8'
  replace oo_s0 := oo_s0.below u_w8'
  replace og_i1 := og_i1.below u_w8'
  replace oo_i1 := oo_i1.below u_w8'
  have S_w8' := u_w8'.size
  have V_w8' : Below w.heap.size w w8' := V_w7'.trans (u_w8'.mono V_w7'.size)
  clear V_w7'
  clear u_w8'
  clear dd_s1
  go_upto_region 8 with fail
  have V_w9'_1 : Below w.heap.size w (w8'.alloc (.cells #[.int .i64 (mS0 n wd), .int .i64 (mS1 1 n wd), .slice ga_s1 gn_s1 gc_s1, .slice oa_s1 on_s1 oc_s1] 28)) := (V_w8').alloc (by have := (V_w8').size; first | exact this | (simp at *; omega)) _
  replace B_i0 := B_i0.alloc (.cells #[.int .i64 (mS0 n wd), .int .i64 (mS1 1 n wd), .slice ga_s1 gn_s1 gc_s1, .slice oa_s1 on_s1 oc_s1] 28)
  replace B_s0 := B_s0.alloc (.cells #[.int .i64 (mS0 n wd), .int .i64 (mS1 1 n wd), .slice ga_s1 gn_s1 gc_s1, .slice oa_s1 on_s1 oc_s1] 28)
  replace B_i1 := B_i1.alloc (.cells #[.int .i64 (mS0 n wd), .int .i64 (mS1 1 n wd), .slice ga_s1 gn_s1 gc_s1, .slice oa_s1 on_s1 oc_s1] 28)
  replace og_i0 := og_i0.alloc (.cells #[.int .i64 (mS0 n wd), .int .i64 (mS1 1 n wd), .slice ga_s1 gn_s1 gc_s1, .slice oa_s1 on_s1 oc_s1] 28)
  replace oo_i0 := oo_i0.alloc (.cells #[.int .i64 (mS0 n wd), .int .i64 (mS1 1 n wd), .slice ga_s1 gn_s1 gc_s1, .slice oa_s1 on_s1 oc_s1] 28)
  replace og_s0 := og_s0.alloc (.cells #[.int .i64 (mS0 n wd), .int .i64 (mS1 1 n wd), .slice ga_s1 gn_s1 gc_s1, .slice oa_s1 on_s1 oc_s1] 28)
  replace oo_s0 := oo_s0.alloc (.cells #[.int .i64 (mS0 n wd), .int .i64 (mS1 1 n wd), .slice ga_s1 gn_s1 gc_s1, .slice oa_s1 on_s1 oc_s1] 28)
  replace og_i1 := og_i1.alloc (.cells #[.int .i64 (mS0 n wd), .int .i64 (mS1 1 n wd), .slice ga_s1 gn_s1 gc_s1, .slice oa_s1 on_s1 oc_s1] 28)
  replace oo_i1 := oo_i1.alloc (.cells #[.int .i64 (mS0 n wd), .int .i64 (mS1 1 n wd), .slice ga_s1 gn_s1 gc_s1, .slice oa_s1 on_s1 oc_s1] 28)
  replace og_s1 := og_s1.alloc (.cells #[.int .i64 (mS0 n wd), .int .i64 (mS1 1 n wd), .slice ga_s1 gn_s1 gc_s1, .slice oa_s1 on_s1 oc_s1] 28)
  replace oo_s1 := oo_s1.alloc (.cells #[.int .i64 (mS0 n wd), .int .i64 (mS1 1 n wd), .slice ga_s1 gn_s1 gc_s1, .slice oa_s1 on_s1 oc_s1] 28)
  have B_s1 : Blk (w8'.alloc (.cells #[.int .i64 (mS0 n wd), .int .i64 (mS1 1 n wd), .slice ga_s1 gn_s1 gc_s1, .slice oa_s1 on_s1 oc_s1] 28)) (w8'.heap.size) 28 #[.int .i64 (mS0 n wd), .int .i64 (mS1 1 n wd), .slice ga_s1 gn_s1 gc_s1, .slice oa_s1 on_s1 oc_s1] := by exact Blk.new w8' 28 #[.int .i64 (mS0 n wd), .int .i64 (mS1 1 n wd), .slice ga_s1 gn_s1 gc_s1, .slice oa_s1 on_s1 oc_s1]
  have S_w9' : w8'.heap.size + 1 ≤ (w8'.alloc (.cells #[.int .i64 (mS0 n wd), .int .i64 (mS1 1 n wd), .slice ga_s1 gn_s1 gc_s1, .slice oa_s1 on_s1 oc_s1] 28)).heap.size := by first | (simp; done) | (simp; omega) | (simp [World.setCell]; done) | (simp [World.setCell]; omega)
  generalize (w8'.alloc (.cells #[.int .i64 (mS0 n wd), .int .i64 (mS1 1 n wd), .slice ga_s1 gn_s1 gc_s1, .slice oa_s1 on_s1 oc_s1] 28)) = w9' at *
  have V_w9' : Below w.heap.size w w9' := V_w9'_1
  clear V_w8'
  clear V_w9'_1
  go_wp2_with fail
  refine (WriteCircuit_any n wd _).mono ?_
  rintro e w10' ⟨ga_i2, gn_i2, gc_i2, oa_i2, on_i2, oc_i2, rfl, og_i2, oo_i2, dd_i2, u_w10'⟩
  replace B_i0 := B_i0.below u_w10'
  replace B_s0 := B_s0.below u_w10'
  replace B_i1 := B_i1.below u_w10'
  replace B_s1 := B_s1.below u_w10'
  replace og_i0 := og_i0.below u_w10'
  replace oo_i0 := oo_i0.below u_w10'
  replace og_s0 := og_s0.below u_w10'
  replace oo_s0 := oo_s0.below u_w10'
  replace og_i1 := og_i1.below u_w10'
  replace oo_i1 := oo_i1.below u_w10'
  replace og_s1 := og_s1.below u_w10'
  replace oo_s1 := oo_s1.below u_w10'
  have S_w10' := u_w10'.size
  have V_w10' : Below w.heap.size w w10' := V_w9'.trans (u_w10'.mono V_w9'.size)
  clear V_w9'
  clear u_w10'
  clear dd_i2
  go_upto_region 9 with fail
  have V_w11'_1 : Below w.heap.size w (w10'.alloc (.cells #[.int .i64 (mS0 n wd), .int .i64 (mS1 2 n wd), .slice ga_i2 gn_i2 gc_i2, .slice oa_i2 on_i2 oc_i2] 28)) := (V_w10').alloc (by have := (V_w10').size; first | exact this | (simp at *; omega)) _
  replace B_i0 := B_i0.alloc (.cells #[.int .i64 (mS0 n wd), .int .i64 (mS1 2 n wd), .slice ga_i2 gn_i2 gc_i2, .slice oa_i2 on_i2 oc_i2] 28)
  replace B_s0 := B_s0.alloc (.cells #[.int .i64 (mS0 n wd), .int .i64 (mS1 2 n wd), .slice ga_i2 gn_i2 gc_i2, .slice oa_i2 on_i2 oc_i2] 28)
  replace B_i1 := B_i1.alloc (.cells #[.int .i64 (mS0 n wd), .int .i64 (mS1 2 n wd), .slice ga_i2 gn_i2 gc_i2, .slice oa_i2 on_i2 oc_i2] 28)
  replace B_s1 := B_s1.alloc (.cells #[.int .i64 (mS0 n wd), .int .i64 (mS1 2 n wd), .slice ga_i2 gn_i2 gc_i2, .slice oa_i2 on_i2 oc_i2] 28)
  replace og_i0 := og_i0.alloc (.cells #[.int .i64 (mS0 n wd), .int .i64 (mS1 2 n wd), .slice ga_i2 gn_i2 gc_i2, .slice oa_i2 on_i2 oc_i2] 28)
  replace oo_i0 := oo_i0.alloc (.cells #[.int .i64 (mS0 n wd), .int .i64 (mS1 2 n wd), .slice ga_i2 gn_i2 gc_i2, .slice oa_i2 on_i2 oc_i2] 28)
  replace og_s0 := og_s0.alloc (.cells #[.int .i64 (mS0 n wd), .int .i64 (mS1 2 n wd), .slice ga_i2 gn_i2 gc_i2, .slice oa_i2 on_i2 oc_i2] 28)
  replace oo_s0 := oo_s0.alloc (.cells #[.int .i64 (mS0 n wd), .int .i64 (mS1 2 n wd), .slice ga_i2 gn_i2 gc_i2, .slice oa_i2 on_i2 oc_i2] 28)
  replace og_i1 := og_i1.alloc (.cells #[.int .i64 (mS0 n wd), .int .i64 (mS1 2 n wd), .slice ga_i2 gn_i2 gc_i2, .slice oa_i2 on_i2 oc_i2] 28)
  replace oo_i1 := oo_i1.alloc (.cells #[.int .i64 (mS0 n wd), .int .i64 (mS1 2 n wd), .slice ga_i2 gn_i2 gc_i2, .slice oa_i2 on_i2 oc_i2] 28)
  replace og_s1 := og_s1.alloc (.cells #[.int .i64 (mS0 n wd), .int .i64 (mS1 2 n wd), .slice ga_i2 gn_i2 gc_i2, .slice oa_i2 on_i2 oc_i2] 28)
  replace oo_s1 := oo_s1.alloc (.cells #[.int .i64 (mS0 n wd), .int .i64 (mS1 2 n wd), .slice ga_i2 gn_i2 gc_i2, .slice oa_i2 on_i2 oc_i2] 28)
  replace og_i2 := og_i2.alloc (.cells #[.int .i64 (mS0 n wd), .int .i64 (mS1 2 n wd), .slice ga_i2 gn_i2 gc_i2, .slice oa_i2 on_i2 oc_i2] 28)
  replace oo_i2 := oo_i2.alloc (.cells #[.int .i64 (mS0 n wd), .int .i64 (mS1 2 n wd), .slice ga_i2 gn_i2 gc_i2, .slice oa_i2 on_i2 oc_i2] 28)
  have B_i2 : Blk (w10'.alloc (.cells #[.int .i64 (mS0 n wd), .int .i64 (mS1 2 n wd), .slice ga_i2 gn_i2 gc_i2, .slice oa_i2 on_i2 oc_i2] 28)) (w10'.heap.size) 28 #[.int .i64 (mS0 n wd), .int .i64 (mS1 2 n wd), .slice ga_i2 gn_i2 gc_i2, .slice oa_i2 on_i2 oc_i2] := by exact Blk.new w10' 28 #[.int .i64 (mS0 n wd), .int .i64 (mS1 2 n wd), .slice ga_i2 gn_i2 gc_i2, .slice oa_i2 on_i2 oc_i2]
  have S_w11' : w10'.heap.size + 1 ≤ (w10'.alloc (.cells #[.int .i64 (mS0 n wd), .int .i64 (mS1 2 n wd), .slice ga_i2 gn_i2 gc_i2, .slice oa_i2 on_i2 oc_i2] 28)).heap.size := by first | (simp; done) | (simp; omega) | (simp [World.setCell]; done) | (simp [World.setCell]; omega)
  generalize (w10'.alloc (.cells #[.int .i64 (mS0 n wd), .int .i64 (mS1 2 n wd), .slice ga_i2 gn_i2 gc_i2, .slice oa_i2 on_i2 oc_i2] 28)) = w11' at *
  have V_w11' : Below w.heap.size w w11' := V_w11'_1
  clear V_w10'
  clear V_w11'_1
  go_wp2_with fail
  refine (spec_WriteCircuit_any n wd _).mono ?_
  rintro e w12' ⟨ga_s2, gn_s2, gc_s2, oa_s2, on_s2, oc_s2, rfl, og_s2, oo_s2, dd_s2, u_w12'⟩
  replace B_i0 := B_i0.below u_w12'
  replace B_s0 := B_s0.below u_w12'
  replace B_i1 := B_i1.below u_w12'
  replace B_s1 := B_s1.below u_w12'
  replace B_i2 := B_i2.below u_w12'
  replace og_i0 := og_i0.below u_w12'
  replace oo_i0 := oo_i0.below u_w12'
  replace og_s0 := og_s0.below u_w12'
  replace oo_s0 := oo_s0.below u_w12'
  replace og_i1 := og_i1.below u_w12'
  replace oo_i1 := oo_i1.below u_w12'
  replace og_s1 := og_s1.below u_w12'
  replace oo_s1 := oo_s1.below u_w12'
  replace og_i2 := og_i2.below u_w12'
  replace oo_i2 := oo_i2.below u_w12'
  have S_w12' := u_w12'.size
  have V_w12' : Below w.heap.size w w12' := V_w11'.trans (u_w12'.mono V_w11'.size)
  clear V_w11'
  clear u_w12'
  clear dd_s2
  go_upto_region 10 with fail
  have V_w13'_1 : Below w.heap.size w (w12'.alloc (.cells #[.int .i64 (mS0 n wd), .int .i64 (mS1 2 n wd), .slice ga_s2 gn_s2 gc_s2, .slice oa_s2 on_s2 oc_s2] 28)) := (V_w12').alloc (by have := (V_w12').size; first | exact this | (simp at *; omega)) _
  replace B_i0 := B_i0.alloc (.cells #[.int .i64 (mS0 n wd), .int .i64 (mS1 2 n wd), .slice ga_s2 gn_s2 gc_s2, .slice oa_s2 on_s2 oc_s2] 28)
  replace B_s0 := B_s0.alloc (.cells #[.int .i64 (mS0 n wd), .int .i64 (mS1 2 n wd), .slice ga_s2 gn_s2 gc_s2, .slice oa_s2 on_s2 oc_s2] 28)
  replace B_i1 := B_i1.alloc (.cells #[.int .i64 (mS0 n wd), .int .i64 (mS1 2 n wd), .slice ga_s2 gn_s2 gc_s2, .slice oa_s2 on_s2 oc_s2] 28)
  replace B_s1 := B_s1.alloc (.cells #[.int .i64 (mS0 n wd), .int .i64 (mS1 2 n wd), .slice ga_s2 gn_s2 gc_s2, .slice oa_s2 on_s2 oc_s2] 28)
  replace B_i2 := B_i2.alloc (.cells #[.int .i64 (mS0 n wd), .int .i64 (mS1 2 n wd), .slice ga_s2 gn_s2 gc_s2, .slice oa_s2 on_s2 oc_s2] 28)
  replace og_i0 := og_i0.alloc (.cells #[.int .i64 (mS0 n wd), .int .i64 (mS1 2 n wd), .slice ga_s2 gn_s2 gc_s2, .slice oa_s2 on_s2 oc_s2] 28)
  replace oo_i0 := oo_i0.alloc (.cells #[.int .i64 (mS0 n wd), .int .i64 (mS1 2 n wd), .slice ga_s2 gn_s2 gc_s2, .slice oa_s2 on_s2 oc_s2] 28)
  replace og_s0 := og_s0.alloc (.cells #[.int .i64 (mS0 n wd), .int .i64 (mS1 2 n wd), .slice ga_s2 gn_s2 gc_s2, .slice oa_s2 on_s2 oc_s2] 28)
  replace oo_s0 := oo_s0.alloc (.cells #[.int .i64 (mS0 n wd), .int .i64 (mS1 2 n wd), .slice ga_s2 gn_s2 gc_s2, .slice oa_s2 on_s2 oc_s2] 28)
  replace og_i1 := og_i1.alloc (.cells #[.int .i64 (mS0 n wd), .int .i64 (mS1 2 n wd), .slice ga_s2 gn_s2 gc_s2, .slice oa_s2 on_s2 oc_s2] 28)
  replace oo_i1 := oo_i1.alloc (.cells #[.int .i64 (mS0 n wd), .int .i64 (mS1 2 n wd), .slice ga_s2 gn_s2 gc_s2, .slice oa_s2 on_s2 oc_s2] 28)
  replace og_s1 := og_s1.alloc (.cells #[.int .i64 (mS0 n wd), .int .i64 (mS1 2 n wd), .slice ga_s2 gn_s2 gc_s2, .slice oa_s2 on_s2 oc_s2] 28)
  replace oo_s1 := oo_s1.alloc (.cells #[.int .i64 (mS0 n wd), .int .i64 (mS1 2 n wd), .slice ga_s2 gn_s2 gc_s2, .slice oa_s2 on_s2 oc_s2] 28)
  replace og_i2 := og_i2.alloc (.cells #[.int .i64 (mS0 n wd), .int .i64 (mS1 2 n wd), .slice ga_s2 gn_s2 gc_s2, .slice oa_s2 on_s2 oc_s2] 28)
  replace oo_i2 := oo_i2.alloc (.cells #[.int .i64 (mS0 n wd), .int .i64 (mS1 2 n wd), .slice ga_s2 gn_s2 gc_s2, .slice oa_s2 on_s2 oc_s2] 28)
  replace og_s2 := og_s2.alloc (.cells #[.int .i64 (mS0 n wd), .int .i64 (mS1 2 n wd), .slice ga_s2 gn_s2 gc_s2, .slice oa_s2 on_s2 oc_s2] 28)
  replace oo_s2 := oo_s2.alloc (.cells #[.int .i64 (mS0 n wd), .int .i64 (mS1 2 n wd), .slice ga_s2 gn_s2 gc_s2, .slice oa_s2 on_s2 oc_s2] 28)
  have B_s2 : Blk (w12'.alloc (.cells #[.int .i64 (mS0 n wd), .int .i64 (mS1 2 n wd), .slice ga_s2 gn_s2 gc_s2, .slice oa_s2 on_s2 oc_s2] 28)) (w12'.heap.size) 28 #[.int .i64 (mS0 n wd), .int .i64 (mS1 2 n wd), .slice ga_s2 gn_s2 gc_s2, .slice oa_s2 on_s2 oc_s2] := by exact Blk.new w12' 28 #[.int .i64 (mS0 n wd), .int .i64 (mS1 2 n wd), .slice ga_s2 gn_s2 gc_s2, .slice oa_s2 on_s2 oc_s2]
  have S_w13' : w12'.heap.size + 1 ≤ (w12'.alloc (.cells #[.int .i64 (mS0 n wd), .int .i64 (mS1 2 n wd), .slice ga_s2 gn_s2 gc_s2, .slice oa_s2 on_s2 oc_s2] 28)).heap.size := by first | (simp; done) | (simp; omega) | (simp [World.setCell]; done) | (simp [World.setCell]; omega)
  generalize (w12'.alloc (.cells #[.int .i64 (mS0 n wd), .int .i64 (mS1 2 n wd), .slice ga_s2 gn_s2 gc_s2, .slice oa_s2 on_s2 oc_s2] 28)) = w13' at *
  have V_w13' : Below w.heap.size w w13' := V_w13'_1
  clear V_w12'
  clear V_w13'_1
  go_wp2_with fail
  refine (TurnCircuit_any n wd _).mono ?_
  rintro e w14' ⟨ga_i3, gn_i3, gc_i3, oa_i3, on_i3, oc_i3, rfl, og_i3, oo_i3, dd_i3, u_w14'⟩
  replace B_i0 := B_i0.below u_w14'
  replace B_s0 := B_s0.below u_w14'
  replace B_i1 := B_i1.below u_w14'
  replace B_s1 := B_s1.below u_w14'
  replace B_i2 := B_i2.below u_w14'
  replace B_s2 := B_s2.below u_w14'
  replace og_i0 := og_i0.below u_w14'
  replace oo_i0 := oo_i0.below u_w14'
  replace og_s0 := og_s0.below u_w14'
  replace oo_s0 := oo_s0.below u_w14'
  replace og_i1 := og_i1.below u_w14'
  replace oo_i1 := oo_i1.below u_w14'
  replace og_s1 := og_s1.below u_w14'
  replace oo_s1 := oo_s1.below u_w14'
  replace og_i2 := og_i2.below u_w14'
  replace oo_i2 := oo_i2.below u_w14'
  replace og_s2 := og_s2.below u_w14'
  replace oo_s2 := oo_s2.below u_w14'
  have S_w14' := u_w14'.size
  have V_w14' : Below w.heap.size w w14' := V_w13'.trans (u_w14'.mono V_w13'.size)
  clear V_w13'
  clear u_w14'
  clear dd_i3
  go_upto_region 11 with fail
  have V_w15'_1 : Below w.heap.size w (w14'.alloc (.cells #[.int .i64 (mS0 n wd), .int .i64 (mS1 3 n wd), .slice ga_i3 gn_i3 gc_i3, .slice oa_i3 on_i3 oc_i3] 28)) := (V_w14').alloc (by have := (V_w14').size; first | exact this | (simp at *; omega)) _
  replace B_i0 := B_i0.alloc (.cells #[.int .i64 (mS0 n wd), .int .i64 (mS1 3 n wd), .slice ga_i3 gn_i3 gc_i3, .slice oa_i3 on_i3 oc_i3] 28)
  replace B_s0 := B_s0.alloc (.cells #[.int .i64 (mS0 n wd), .int .i64 (mS1 3 n wd), .slice ga_i3 gn_i3 gc_i3, .slice oa_i3 on_i3 oc_i3] 28)
  replace B_i1 := B_i1.alloc (.cells #[.int .i64 (mS0 n wd), .int .i64 (mS1 3 n wd), .slice ga_i3 gn_i3 gc_i3, .slice oa_i3 on_i3 oc_i3] 28)
  replace B_s1 := B_s1.alloc (.cells #[.int .i64 (mS0 n wd), .int .i64 (mS1 3 n wd), .slice ga_i3 gn_i3 gc_i3, .slice oa_i3 on_i3 oc_i3] 28)
  replace B_i2 := B_i2.alloc (.cells #[.int .i64 (mS0 n wd), .int .i64 (mS1 3 n wd), .slice ga_i3 gn_i3 gc_i3, .slice oa_i3 on_i3 oc_i3] 28)
  replace B_s2 := B_s2.alloc (.cells #[.int .i64 (mS0 n wd), .int .i64 (mS1 3 n wd), .slice ga_i3 gn_i3 gc_i3, .slice oa_i3 on_i3 oc_i3] 28)
  replace og_i0 := og_i0.alloc (.cells #[.int .i64 (mS0 n wd), .int .i64 (mS1 3 n wd), .slice ga_i3 gn_i3 gc_i3, .slice oa_i3 on_i3 oc_i3] 28)
  replace oo_i0 := oo_i0.alloc (.cells #[.int .i64 (mS0 n wd), .int .i64 (mS1 3 n wd), .slice ga_i3 gn_i3 gc_i3, .slice oa_i3 on_i3 oc_i3] 28)
  replace og_s0 := og_s0.alloc (.cells #[.int .i64 (mS0 n wd), .int .i64 (mS1 3 n wd), .slice ga_i3 gn_i3 gc_i3, .slice oa_i3 on_i3 oc_i3] 28)
  replace oo_s0 := oo_s0.alloc (.cells #[.int .i64 (mS0 n wd), .int .i64 (mS1 3 n wd), .slice ga_i3 gn_i3 gc_i3, .slice oa_i3 on_i3 oc_i3] 28)
  replace og_i1 := og_i1.alloc (.cells #[.int .i64 (mS0 n wd), .int .i64 (mS1 3 n wd), .slice ga_i3 gn_i3 gc_i3, .slice oa_i3 on_i3 oc_i3] 28)
  replace oo_i1 := oo_i1.alloc (.cells #[.int .i64 (mS0 n wd), .int .i64 (mS1 3 n wd), .slice ga_i3 gn_i3 gc_i3, .slice oa_i3 on_i3 oc_i3] 28)
  replace og_s1 := og_s1.alloc (.cells #[.int .i64 (mS0 n wd), .int .i64 (mS1 3 n wd), .slice ga_i3 gn_i3 gc_i3, .slice oa_i3 on_i3 oc_i3] 28)
  replace oo_s1 := oo_s1.alloc (.cells #[.int .i64 (mS0 n wd), .int .i64 (mS1 3 n wd), .slice ga_i3 gn_i3 gc_i3, .slice oa_i3 on_i3 oc_i3] 28)
  replace og_i2 := og_i2.alloc (.cells #[.int .i64 (mS0 n wd), .int .i64 (mS1 3 n wd), .slice ga_i3 gn_i3 gc_i3, .slice oa_i3 on_i3 oc_i3] 28)
  replace oo_i2 := oo_i2.alloc (.cells #[.int .i64 (mS0 n wd), .int .i64 (mS1 3 n wd), .slice ga_i3 gn_i3 gc_i3, .slice oa_i3 on_i3 oc_i3] 28)
  replace og_s2 := og_s2.alloc (.cells #[.int .i64 (mS0 n wd), .int .i64 (mS1 3 n wd), .slice ga_i3 gn_i3 gc_i3, .slice oa_i3 on_i3 oc_i3] 28)
  replace oo_s2 := oo_s2.alloc (.cells #[.int .i64 (mS0 n wd), .int .i64 (mS1 3 n wd), .slice ga_i3 gn_i3 gc_i3, .slice oa_i3 on_i3 oc_i3] 28)
  replace og_i3 := og_i3.alloc (.cells #[.int .i64 (mS0 n wd), .int .i64 (mS1 3 n wd), .slice ga_i3 gn_i3 gc_i3, .slice oa_i3 on_i3 oc_i3] 28)
  replace oo_i3 := oo_i3.alloc (.cells #[.int .i64 (mS0 n wd), .int .i64 (mS1 3 n wd), .slice ga_i3 gn_i3 gc_i3, .slice oa_i3 on_i3 oc_i3] 28)
  have B_i3 : Blk (w14'.alloc (.cells #[.int .i64 (mS0 n wd), .int .i64 (mS1 3 n wd), .slice ga_i3 gn_i3 gc_i3, .slice oa_i3 on_i3 oc_i3] 28)) (w14'.heap.size) 28 #[.int .i64 (mS0 n wd), .int .i64 (mS1 3 n wd), .slice ga_i3 gn_i3 gc_i3, .slice oa_i3 on_i3 oc_i3] := by exact Blk.new w14' 28 #[.int .i64 (mS0 n wd), .int .i64 (mS1 3 n wd), .slice ga_i3 gn_i3 gc_i3, .slice oa_i3 on_i3 oc_i3]
  have S_w15' : w14'.heap.size + 1 ≤ (w14'.alloc (.cells #[.int .i64 (mS0 n wd), .int .i64 (mS1 3 n wd), .slice ga_i3 gn_i3 gc_i3, .slice oa_i3 on_i3 oc_i3] 28)).heap.size := by first | (simp; done) | (simp; omega) | (simp [World.setCell]; done) | (simp [World.setCell]; omega)
  generalize (w14'.alloc (.cells #[.int .i64 (mS0 n wd), .int .i64 (mS1 3 n wd), .slice ga_i3 gn_i3 gc_i3, .slice oa_i3 on_i3 oc_i3] 28)) = w15' at *
  have V_w15' : Below w.heap.size w w15' := V_w15'_1
  clear V_w14'
  clear V_w15'_1
  go_wp2_with fail
  refine (spec_TurnCircuit_any n wd _).mono ?_
  rintro e w16' ⟨ga_s3, gn_s3, gc_s3, oa_s3, on_s3, oc_s3, rfl, og_s3, oo_s3, dd_s3, u_w16'⟩
  replace B_i0 := B_i0.below u_w16'
  replace B_s0 := B_s0.below u_w16'
  replace B_i1 := B_i1.below u_w16'
  replace B_s1 := B_s1.below u_w16'
  replace B_i2 := B_i2.below u_w16'
  replace B_s2 := B_s2.below u_w16'
  replace B_i3 := B_i3.below u_w16'
  replace og_i0 := og_i0.below u_w16'
  replace oo_i0 := oo_i0.below u_w16'
  replace og_s0 := og_s0.below u_w16'
  replace oo_s0 := oo_s0.below u_w16'
  replace og_i1 := og_i1.below u_w16'
  replace oo_i1 := oo_i1.below u_w16'
  replace og_s1 := og_s1.below u_w16'
  replace oo_s1 := oo_s1.below u_w16'
  replace og_i2 := og_i2.below u_w16'
  replace oo_i2 := oo_i2.below u_w16'
  replace og_s2 := og_s2.below u_w16'
  replace oo_s2 := oo_s2.below u_w16'
  replace og_i3 := og_i3.below u_w16'
  replace oo_i3 := oo_i3.below u_w16'
  have S_w16' := u_w16'.size
  have V_w16' : Below w.heap.size w w16' := V_w15'.trans (u_w16'.mono V_w15'.size)
  clear V_w15'
  clear u_w16'
  clear dd_s3
  go_upto_region 12 with fail
  have V_w17'_1 : Below w.heap.size w (w16'.alloc (.cells #[.int .i64 (mS0 n wd), .int .i64 (mS1 3 n wd), .slice ga_s3 gn_s3 gc_s3, .slice oa_s3 on_s3 oc_s3] 28)) := (V_w16').alloc (by have := (V_w16').size; first | exact this | (simp at *; omega)) _
  replace B_i0 := B_i0.alloc (.cells #[.int .i64 (mS0 n wd), .int .i64 (mS1 3 n wd), .slice ga_s3 gn_s3 gc_s3, .slice oa_s3 on_s3 oc_s3] 28)
  replace B_s0 := B_s0.alloc (.cells #[.int .i64 (mS0 n wd), .int .i64 (mS1 3 n wd), .slice ga_s3 gn_s3 gc_s3, .slice oa_s3 on_s3 oc_s3] 28)
  replace B_i1 := B_i1.alloc (.cells #[.int .i64 (mS0 n wd), .int .i64 (mS1 3 n wd), .slice ga_s3 gn_s3 gc_s3, .slice oa_s3 on_s3 oc_s3] 28)
  replace B_s1 := B_s1.alloc (.cells #[.int .i64 (mS0 n wd), .int .i64 (mS1 3 n wd), .slice ga_s3 gn_s3 gc_s3, .slice oa_s3 on_s3 oc_s3] 28)
  replace B_i2 := B_i2.alloc (.cells #[.int .i64 (mS0 n wd), .int .i64 (mS1 3 n wd), .slice ga_s3 gn_s3 gc_s3, .slice oa_s3 on_s3 oc_s3] 28)
  replace B_s2 := B_s2.alloc (.cells #[.int .i64 (mS0 n wd), .int .i64 (mS1 3 n wd), .slice ga_s3 gn_s3 gc_s3, .slice oa_s3 on_s3 oc_s3] 28)
  replace B_i3 := B_i3.alloc (.cells #[.int .i64 (mS0 n wd), .int .i64 (mS1 3 n wd), .slice ga_s3 gn_s3 gc_s3, .slice oa_s3 on_s3 oc_s3] 28)
  replace og_i0 := og_i0.alloc (.cells #[.int .i64 (mS0 n wd), .int .i64 (mS1 3 n wd), .slice ga_s3 gn_s3 gc_s3, .slice oa_s3 on_s3 oc_s3] 28)
  replace oo_i0 := oo_i0.alloc (.cells #[.int .i64 (mS0 n wd), .int .i64 (mS1 3 n wd), .slice ga_s3 gn_s3 gc_s3, .slice oa_s3 on_s3 oc_s3] 28)
  replace og_s0 := og_s0.alloc (.cells #[.int .i64 (mS0 n wd), .int .i64 (mS1 3 n wd), .slice ga_s3 gn_s3 gc_s3, .slice oa_s3 on_s3 oc_s3] 28)
  replace oo_s0 := oo_s0.alloc (.cells #[.int .i64 (mS0 n wd), .int .i64 (mS1 3 n wd), .slice ga_s3 gn_s3 gc_s3, .slice oa_s3 on_s3 oc_s3] 28)
  replace og_i1 := og_i1.alloc (.cells #[.int .i64 (mS0 n wd), .int .i64 (mS1 3 n wd), .slice ga_s3 gn_s3 gc_s3, .slice oa_s3 on_s3 oc_s3] 28)
  replace oo_i1 := oo_i1.alloc (.cells #[.int .i64 (mS0 n wd), .int .i64 (mS1 3 n wd), .slice ga_s3 gn_s3 gc_s3, .slice oa_s3 on_s3 oc_s3] 28)
  replace og_s1 := og_s1.alloc (.cells #[.int .i64 (mS0 n wd), .int .i64 (mS1 3 n wd), .slice ga_s3 gn_s3 gc_s3, .slice oa_s3 on_s3 oc_s3] 28)
  replace oo_s1 := oo_s1.alloc (.cells #[.int .i64 (mS0 n wd), .int .i64 (mS1 3 n wd), .slice ga_s3 gn_s3 gc_s3, .slice oa_s3 on_s3 oc_s3] 28)
  replace og_i2 := og_i2.alloc (.cells #[.int .i64 (mS0 n wd), .int .i64 (mS1 3 n wd), .slice ga_s3 gn_s3 gc_s3, .slice oa_s3 on_s3 oc_s3] 28)
  replace oo_i2 := oo_i2.alloc (.cells #[.int .i64 (mS0 n wd), .int .i64 (mS1 3 n wd), .slice ga_s3 gn_s3 gc_s3, .slice oa_s3 on_s3 oc_s3] 28)
  replace og_s2 := og_s2.alloc (.cells #[.int .i64 (mS0 n wd), .int .i64 (mS1 3 n wd), .slice ga_s3 gn_s3 gc_s3, .slice oa_s3 on_s3 oc_s3] 28)
  replace oo_s2 := oo_s2.alloc (.cells #[.int .i64 (mS0 n wd), .int .i64 (mS1 3 n wd), .slice ga_s3 gn_s3 gc_s3, .slice oa_s3 on_s3 oc_s3] 28)
  replace og_i3 := og_i3.alloc (.cells #[.int .i64 (mS0 n wd), .int .i64 (mS1 3 n wd), .slice ga_s3 gn_s3 gc_s3, .slice oa_s3 on_s3 oc_s3] 28)
  replace oo_i3 := oo_i3.alloc (.cells #[.int .i64 (mS0 n wd), .int .i64 (mS1 3 n wd), .slice ga_s3 gn_s3 gc_s3, .slice oa_s3 on_s3 oc_s3] 28)
  replace og_s3 := og_s3.alloc (.cells #[.int .i64 (mS0 n wd), .int .i64 (mS1 3 n wd), .slice ga_s3 gn_s3 gc_s3, .slice oa_s3 on_s3 oc_s3] 28)
  replace oo_s3 := oo_s3.alloc (.cells #[.int .i64 (mS0 n wd), .int .i64 (mS1 3 n wd), .slice ga_s3 gn_s3 gc_s3, .slice oa_s3 on_s3 oc_s3] 28)
  have B_s3 : Blk (w16'.alloc (.cells #[.int .i64 (mS0 n wd), .int .i64 (mS1 3 n wd), .slice ga_s3 gn_s3 gc_s3, .slice oa_s3 on_s3 oc_s3] 28)) (w16'.heap.size) 28 #[.int .i64 (mS0 n wd), .int .i64 (mS1 3 n wd), .slice ga_s3 gn_s3 gc_s3, .slice oa_s3 on_s3 oc_s3] := by exact Blk.new w16' 28 #[.int .i64 (mS0 n wd), .int .i64 (mS1 3 n wd), .slice ga_s3 gn_s3 gc_s3, .slice oa_s3 on_s3 oc_s3]
  have S_w17' : w16'.heap.size + 1 ≤ (w16'.alloc (.cells #[.int .i64 (mS0 n wd), .int .i64 (mS1 3 n wd), .slice ga_s3 gn_s3 gc_s3, .slice oa_s3 on_s3 oc_s3] 28)).heap.size := by first | (simp; done) | (simp; omega) | (simp [World.setCell]; done) | (simp [World.setCell]; omega)
  generalize (w16'.alloc (.cells #[.int .i64 (mS0 n wd), .int .i64 (mS1 3 n wd), .slice ga_s3 gn_s3 gc_s3, .slice oa_s3 on_s3 oc_s3] 28)) = w17' at *
  have V_w17' : Below w.heap.size w w17' := V_w17'_1
  clear V_w16'
  clear V_w17'_1
  go_wp2_with fail
  refine (DrawAndsOfMemory_any _ _ _ _ (Z1.out.belowAll V_w17')).mono ?_
  rintro e w18' ⟨kd, kn, kw, rfl, u_w18'⟩
  replace B_i0 := B_i0.below u_w18'
  replace B_s0 := B_s0.below u_w18'
  replace B_i1 := B_i1.below u_w18'
  replace B_s1 := B_s1.below u_w18'
  replace B_i2 := B_i2.below u_w18'
  replace B_s2 := B_s2.below u_w18'
  replace B_i3 := B_i3.below u_w18'
  replace B_s3 := B_s3.below u_w18'
  replace og_i0 := og_i0.below u_w18'
  replace oo_i0 := oo_i0.below u_w18'
  replace og_s0 := og_s0.below u_w18'
  replace oo_s0 := oo_s0.below u_w18'
  replace og_i1 := og_i1.below u_w18'
  replace oo_i1 := oo_i1.below u_w18'
  replace og_s1 := og_s1.below u_w18'
  replace oo_s1 := oo_s1.below u_w18'
  replace og_i2 := og_i2.below u_w18'
  replace oo_i2 := oo_i2.below u_w18'
  replace og_s2 := og_s2.below u_w18'
  replace oo_s2 := oo_s2.below u_w18'
  replace og_i3 := og_i3.below u_w18'
  replace oo_i3 := oo_i3.below u_w18'
  replace og_s3 := og_s3.below u_w18'
  replace oo_s3 := oo_s3.below u_w18'
  have S_w18' := u_w18'.size
  have V_w18' : Below w.heap.size w w18' := V_w17'.trans (u_w18'.mono V_w17'.size)
  clear V_w17'
  clear u_w18'
  go_wp2_with fail
  refine (AndsOfMemory_any kd kn kw _).mono ?_
  rintro e w19' ⟨rfl, u_w19'⟩
  replace B_i0 := B_i0.below u_w19'
  replace B_s0 := B_s0.below u_w19'
  replace B_i1 := B_i1.below u_w19'
  replace B_s1 := B_s1.below u_w19'
  replace B_i2 := B_i2.below u_w19'
  replace B_s2 := B_s2.below u_w19'
  replace B_i3 := B_i3.below u_w19'
  replace B_s3 := B_s3.below u_w19'
  replace og_i0 := og_i0.below u_w19'
  replace oo_i0 := oo_i0.below u_w19'
  replace og_s0 := og_s0.below u_w19'
  replace oo_s0 := oo_s0.below u_w19'
  replace og_i1 := og_i1.below u_w19'
  replace oo_i1 := oo_i1.below u_w19'
  replace og_s1 := og_s1.below u_w19'
  replace oo_s1 := oo_s1.below u_w19'
  replace og_i2 := og_i2.below u_w19'
  replace oo_i2 := oo_i2.below u_w19'
  replace og_s2 := og_s2.below u_w19'
  replace oo_s2 := oo_s2.below u_w19'
  replace og_i3 := og_i3.below u_w19'
  replace oo_i3 := oo_i3.below u_w19'
  replace og_s3 := og_s3.below u_w19'
  replace oo_s3 := oo_s3.below u_w19'
  have S_w19' := u_w19'.size
  have V_w19' : Below w.heap.size w w19' := V_w18'.trans (u_w19'.mono V_w18'.size)
  clear V_w18'
  clear u_w19'
  go_wp2_with fail
  refine (spec_AndsOfMemory_any kd kn kw _).mono ?_
  rintro e w20' ⟨rfl, u_w20'⟩
  replace B_i0 := B_i0.below u_w20'
  replace B_s0 := B_s0.below u_w20'
  replace B_i1 := B_i1.below u_w20'
  replace B_s1 := B_s1.below u_w20'
  replace B_i2 := B_i2.below u_w20'
  replace B_s2 := B_s2.below u_w20'
  replace B_i3 := B_i3.below u_w20'
  replace B_s3 := B_s3.below u_w20'
  replace og_i0 := og_i0.below u_w20'
  replace oo_i0 := oo_i0.below u_w20'
  replace og_s0 := og_s0.below u_w20'
  replace oo_s0 := oo_s0.below u_w20'
  replace og_i1 := og_i1.below u_w20'
  replace oo_i1 := oo_i1.below u_w20'
  replace og_s1 := og_s1.below u_w20'
  replace oo_s1 := oo_s1.below u_w20'
  replace og_i2 := og_i2.below u_w20'
  replace oo_i2 := oo_i2.below u_w20'
  replace og_s2 := og_s2.below u_w20'
  replace oo_s2 := oo_s2.below u_w20'
  replace og_i3 := og_i3.below u_w20'
  replace oo_i3 := oo_i3.below u_w20'
  replace og_s3 := og_s3.below u_w20'
  replace oo_s3 := oo_s3.below u_w20'
  have S_w20' := u_w20'.size
  have V_w20' : Below w.heap.size w w20' := V_w19'.trans (u_w20'.mono V_w19'.size)
  clear V_w19'
  clear u_w20'
  generalize amN kd kn kw = av at *
  generalize amB kd kn kw = ab at *
  go_wp2_with fail
  refine (DrawIndexWidth_any _ _ _ _ (Z1.out.belowAll V_w20')).mono ?_
  rintro e w21' ⟨z, rfl, u_w21'⟩
  replace B_i0 := B_i0.below u_w21'
  replace B_s0 := B_s0.below u_w21'
  replace B_i1 := B_i1.below u_w21'
  replace B_s1 := B_s1.below u_w21'
  replace B_i2 := B_i2.below u_w21'
  replace B_s2 := B_s2.below u_w21'
  replace B_i3 := B_i3.below u_w21'
  replace B_s3 := B_s3.below u_w21'
  replace og_i0 := og_i0.below u_w21'
  replace oo_i0 := oo_i0.below u_w21'
  replace og_s0 := og_s0.below u_w21'
  replace oo_s0 := oo_s0.below u_w21'
  replace og_i1 := og_i1.below u_w21'
  replace oo_i1 := oo_i1.below u_w21'
  replace og_s1 := og_s1.below u_w21'
  replace oo_s1 := oo_s1.below u_w21'
  replace og_i2 := og_i2.below u_w21'
  replace oo_i2 := oo_i2.below u_w21'
  replace og_s2 := og_s2.below u_w21'
  replace oo_s2 := oo_s2.below u_w21'
  replace og_i3 := og_i3.below u_w21'
  replace oo_i3 := oo_i3.below u_w21'
  replace og_s3 := og_s3.below u_w21'
  replace oo_s3 := oo_s3.below u_w21'
  have S_w21' := u_w21'.size
  have V_w21' : Below w.heap.size w w21' := V_w20'.trans (u_w21'.mono V_w20'.size)
  clear V_w20'
  clear u_w21'
  go_wp2_with fail
  refine (IndexWidth_any z _).mono ?_; rintro e w' ⟨rfl, rfl⟩
  go_wp2_with fail
  refine (spec_IndexWidth_any z _).mono ?_; rintro e w' ⟨rfl, rfl⟩
  have HIW := Lib.hid (fun (h : iwB z = true) => iw_yes h)
  generalize iwV z = iv at *
  generalize iwB z = ib at *
  have HMB := Lib.hid (fun (h : memB n wd = true) => am_tree h)
  have HMC := Lib.hid (fun (h : memB n wd = true) => m_circ 1 h)
  have HML := Lib.hid (m_len 1 n wd).1
  generalize hmb : memB n wd = mb at *
  have HMM := Lib.hid hmb
  clear hmb
  generalize mS0 n wd = s0 at *
  generalize mS1 0 n wd = s10 at *
  generalize mG 0 n wd = G0 at *
  generalize mO 0 n wd = O0 at *
  generalize mS1 1 n wd = s11 at *
  generalize mG 1 n wd = G1 at *
  generalize mO 1 n wd = O1 at *
  generalize mS1 2 n wd = s12 at *
  generalize mG 2 n wd = G2 at *
  generalize mO 2 n wd = O2 at *
  generalize mS1 3 n wd = s13 at *
  generalize mG 3 n wd = G3 at *
  generalize mO 3 n wd = O3 at *
  go_upto_region 18 with fail
  go_cut [195] (fun q wx => q = .bool false ∧ Below w21'.heap.size w21' wx)
  case first => as_aux_lemma =>
    have U0 : Below w21'.heap.size w21' w21' := Below.refl _ _
    have ei0_0 : w21'.cell? ⟨(w2'.heap.size), 0, none⟩ = some (.int .i64 s0) := (B_i0.below U0).cell 0
    have ei0_1 : w21'.cell? ⟨(w2'.heap.size), 1, none⟩ = some (.int .i64 s10) := (B_i0.below U0).cell 1
    have ei0_2 : w21'.cell? ⟨(w2'.heap.size), 2, none⟩ = some (.slice ga_i0 gn_i0 gc_i0) := (B_i0.below U0).cell 2
    have ei0_3 : w21'.cell? ⟨(w2'.heap.size), 3, none⟩ = some (.slice oa_i0 on_i0 oc_i0) := (B_i0.below U0).cell 3
    have es0_0 : w21'.cell? ⟨(w4'.heap.size), 0, none⟩ = some (.int .i64 s0) := (B_s0.below U0).cell 0
    have es0_1 : w21'.cell? ⟨(w4'.heap.size), 1, none⟩ = some (.int .i64 s10) := (B_s0.below U0).cell 1
    have es0_2 : w21'.cell? ⟨(w4'.heap.size), 2, none⟩ = some (.slice ga_s0 gn_s0 gc_s0) := (B_s0.below U0).cell 2
    have es0_3 : w21'.cell? ⟨(w4'.heap.size), 3, none⟩ = some (.slice oa_s0 on_s0 oc_s0) := (B_s0.below U0).cell 3
    go_wp2_with fail
    refine (qCircuit_same s0 s10 ga_i0 gn_i0 gc_i0 oa_i0 on_i0 oc_i0 ga_s0 gn_s0 gc_s0 oa_s0 on_s0 oc_s0 G0 O0 _ (og_i0.below U0).flat (oo_i0.below U0).ints (og_s0.below U0).flat (oo_s0.below U0).ints).mono ?_; rintro e wq1 ⟨rfl, uq⟩
    have U1 := U0.trans (uq.mono U0.size)
    clear uq U0 ei0_0 ei0_1 ei0_2 ei0_3 es0_0 es0_1 es0_2 es0_3
    have ei1_0 : wq1.cell? ⟨(w6'.heap.size), 0, none⟩ = some (.int .i64 s0) := (B_i1.below U1).cell 0
    have ei1_1 : wq1.cell? ⟨(w6'.heap.size), 1, none⟩ = some (.int .i64 s11) := (B_i1.below U1).cell 1
    have ei1_2 : wq1.cell? ⟨(w6'.heap.size), 2, none⟩ = some (.slice ga_i1 gn_i1 gc_i1) := (B_i1.below U1).cell 2
    have ei1_3 : wq1.cell? ⟨(w6'.heap.size), 3, none⟩ = some (.slice oa_i1 on_i1 oc_i1) := (B_i1.below U1).cell 3
    have es1_0 : wq1.cell? ⟨(w8'.heap.size), 0, none⟩ = some (.int .i64 s0) := (B_s1.below U1).cell 0
    have es1_1 : wq1.cell? ⟨(w8'.heap.size), 1, none⟩ = some (.int .i64 s11) := (B_s1.below U1).cell 1
    have es1_2 : wq1.cell? ⟨(w8'.heap.size), 2, none⟩ = some (.slice ga_s1 gn_s1 gc_s1) := (B_s1.below U1).cell 2
    have es1_3 : wq1.cell? ⟨(w8'.heap.size), 3, none⟩ = some (.slice oa_s1 on_s1 oc_s1) := (B_s1.below U1).cell 3
    go_wp2_with fail
    refine (qCircuit_same s0 s11 ga_i1 gn_i1 gc_i1 oa_i1 on_i1 oc_i1 ga_s1 gn_s1 gc_s1 oa_s1 on_s1 oc_s1 G1 O1 _ (og_i1.below U1).flat (oo_i1.below U1).ints (og_s1.below U1).flat (oo_s1.below U1).ints).mono ?_; rintro e wq2 ⟨rfl, uq⟩
    have U2 := U1.trans (uq.mono U1.size)
    clear uq U1 ei1_0 ei1_1 ei1_2 ei1_3 es1_0 es1_1 es1_2 es1_3
    have ei2_0 : wq2.cell? ⟨(w10'.heap.size), 0, none⟩ = some (.int .i64 s0) := (B_i2.below U2).cell 0
    have ei2_1 : wq2.cell? ⟨(w10'.heap.size), 1, none⟩ = some (.int .i64 s12) := (B_i2.below U2).cell 1
    have ei2_2 : wq2.cell? ⟨(w10'.heap.size), 2, none⟩ = some (.slice ga_i2 gn_i2 gc_i2) := (B_i2.below U2).cell 2
    have ei2_3 : wq2.cell? ⟨(w10'.heap.size), 3, none⟩ = some (.slice oa_i2 on_i2 oc_i2) := (B_i2.below U2).cell 3
    have es2_0 : wq2.cell? ⟨(w12'.heap.size), 0, none⟩ = some (.int .i64 s0) := (B_s2.below U2).cell 0
    have es2_1 : wq2.cell? ⟨(w12'.heap.size), 1, none⟩ = some (.int .i64 s12) := (B_s2.below U2).cell 1
    have es2_2 : wq2.cell? ⟨(w12'.heap.size), 2, none⟩ = some (.slice ga_s2 gn_s2 gc_s2) := (B_s2.below U2).cell 2
    have es2_3 : wq2.cell? ⟨(w12'.heap.size), 3, none⟩ = some (.slice oa_s2 on_s2 oc_s2) := (B_s2.below U2).cell 3
    go_wp2_with fail
    refine (qCircuit_same s0 s12 ga_i2 gn_i2 gc_i2 oa_i2 on_i2 oc_i2 ga_s2 gn_s2 gc_s2 oa_s2 on_s2 oc_s2 G2 O2 _ (og_i2.below U2).flat (oo_i2.below U2).ints (og_s2.below U2).flat (oo_s2.below U2).ints).mono ?_; rintro e wq3 ⟨rfl, uq⟩
    have U3 := U2.trans (uq.mono U2.size)
    clear uq U2 ei2_0 ei2_1 ei2_2 ei2_3 es2_0 es2_1 es2_2 es2_3
    have ei3_0 : wq3.cell? ⟨(w14'.heap.size), 0, none⟩ = some (.int .i64 s0) := (B_i3.below U3).cell 0
    have ei3_1 : wq3.cell? ⟨(w14'.heap.size), 1, none⟩ = some (.int .i64 s13) := (B_i3.below U3).cell 1
    have ei3_2 : wq3.cell? ⟨(w14'.heap.size), 2, none⟩ = some (.slice ga_i3 gn_i3 gc_i3) := (B_i3.below U3).cell 2
    have ei3_3 : wq3.cell? ⟨(w14'.heap.size), 3, none⟩ = some (.slice oa_i3 on_i3 oc_i3) := (B_i3.below U3).cell 3
    have es3_0 : wq3.cell? ⟨(w16'.heap.size), 0, none⟩ = some (.int .i64 s0) := (B_s3.below U3).cell 0
    have es3_1 : wq3.cell? ⟨(w16'.heap.size), 1, none⟩ = some (.int .i64 s13) := (B_s3.below U3).cell 1
    have es3_2 : wq3.cell? ⟨(w16'.heap.size), 2, none⟩ = some (.slice ga_s3 gn_s3 gc_s3) := (B_s3.below U3).cell 2
    have es3_3 : wq3.cell? ⟨(w16'.heap.size), 3, none⟩ = some (.slice oa_s3 on_s3 oc_s3) := (B_s3.below U3).cell 3
    go_wp2_with fail
    refine (qCircuit_same s0 s13 ga_i3 gn_i3 gc_i3 oa_i3 on_i3 oc_i3 ga_s3 gn_s3 gc_s3 oa_s3 on_s3 oc_s3 G3 O3 _ (og_i3.below U3).flat (oo_i3.below U3).ints (og_s3.below U3).flat (oo_s3.below U3).ints).mono ?_; rintro e wq4 ⟨rfl, uq⟩
    have U4 := U3.trans (uq.mono U3.size)
    clear uq U3 ei3_0 ei3_1 ei3_2 ei3_3 es3_0 es3_1 es3_2 es3_3
    go_wp2_with fail
    go_meet
    exact ⟨rfl, U4⟩
  case rest => as_aux_lemma =>
    obtain ⟨rfl, uc⟩ := hcut
    rename World => wz
    replace B_i0 := B_i0.below uc
    replace B_s0 := B_s0.below uc
    replace B_i1 := B_i1.below uc
    replace B_s1 := B_s1.below uc
    replace B_i2 := B_i2.below uc
    replace B_s2 := B_s2.below uc
    replace B_i3 := B_i3.below uc
    replace B_s3 := B_s3.below uc
    replace og_i0 := og_i0.below uc
    replace oo_i0 := oo_i0.below uc
    replace og_s0 := og_s0.below uc
    replace oo_s0 := oo_s0.below uc
    replace og_i1 := og_i1.below uc
    replace oo_i1 := oo_i1.below uc
    replace og_s1 := og_s1.below uc
    replace oo_s1 := oo_s1.below uc
    replace og_i2 := og_i2.below uc
    replace oo_i2 := oo_i2.below uc
    replace og_s2 := og_s2.below uc
    replace oo_s2 := oo_s2.below uc
    replace og_i3 := og_i3.below uc
    replace oo_i3 := oo_i3.below uc
    replace og_s3 := og_s3.below uc
    replace oo_s3 := oo_s3.below uc
    have S_wz := uc.size
    have V_wz : Below w.heap.size w wz := V_w21'.trans (uc.mono V_w21'.size)
    clear V_w21'
    clear uc
    clear B_i0
    clear B_s0
    clear og_i0
    clear oo_i0
    clear og_s0
    clear oo_s0
    clear B_i2
    clear B_s2
    clear og_i2
    clear oo_i2
    clear og_s2
    clear oo_s2
    clear B_i3
    clear B_s3
    clear og_i3
    clear oo_i3
    clear og_s3
    clear oo_s3
    go_upto_region 20 with fail
    go_cut [215] (fun q wx => q = .bool false ∧ wx = wz)
    case first => as_aux_lemma =>
      cases ib
      · go_wp2_with fail
        go_meet
        exact ⟨rfl, rfl⟩
      · obtain ⟨e1, e2, e3⟩ := HIW.out rfl
        rcases (by omega : z = 1 ∨ z = 2 ∨ z = 3 ∨ z = 4 ∨ z = 5 ∨ z = 6 ∨ z = 7 ∨ z = 8) with rfl | rfl | rfl | rfl | rfl | rfl | rfl | rfl
        · obtain rfl : iv = 0 := e1
          clear e2 e3 HIW
          go_wp2_with fail
          go_meet
          exact ⟨rfl, rfl⟩
        · obtain rfl : iv = 1 := e1
          clear e2 e3 HIW
          go_wp2_with fail
          go_meet
          exact ⟨rfl, rfl⟩
        · obtain rfl : iv = 2 := e1
          clear e2 e3 HIW
          go_wp2_with fail
          go_meet
          exact ⟨rfl, rfl⟩
        · obtain rfl : iv = 2 := e1
          clear e2 e3 HIW
          go_wp2_with fail
          go_meet
          exact ⟨rfl, rfl⟩
        · obtain rfl : iv = 3 := e1
          clear e2 e3 HIW
          go_wp2_with fail
          go_meet
          exact ⟨rfl, rfl⟩
        · obtain rfl : iv = 3 := e1
          clear e2 e3 HIW
          go_wp2_with fail
          go_meet
          exact ⟨rfl, rfl⟩
        · obtain rfl : iv = 3 := e1
          clear e2 e3 HIW
          go_wp2_with fail
          go_meet
          exact ⟨rfl, rfl⟩
        · obtain rfl : iv = 3 := e1
          clear e2 e3 HIW
          go_wp2_with fail
          go_meet
          exact ⟨rfl, rfl⟩
    case rest => as_aux_lemma =>
      obtain ⟨rfl, rfl⟩ := hcut
      cases mb
      · go_wp2
        go_ret
        exact ⟨rfl, V_wz⟩
      · obtain ⟨t1, t2, t3, t4, t5⟩ := HMB.out rfl
        have HC := Lib.hid (HMC.out rfl)
        obtain ⟨⟨r1, r2⟩, ⟨r3, r4⟩, _⟩ := memB_true HMM.out
        clear HMB HMC
        have T5 := Lib.hid t5
        have A1 := Lib.hid t3
        have A0 := Lib.hid t4
        have hpr : 0 ≤ (n - 1) * wd ∧ (n - 1) * wd ≤ 7 * 4 := ⟨Int.mul_nonneg (by omega) (by omega), Int.mul_le_mul (by omega) r4 (by omega) (by omega)⟩
        clear t3 t4 t5
        obtain ⟨q, hq⟩ : ∃ q, q = amN 1 n wd := ⟨_, rfl⟩
        obtain ⟨p, hp⟩ : ∃ p, p = amN 0 n wd := ⟨_, rfl⟩
        rw [← hq] at t1 t2 T5
        rw [← hp] at t2
        have HQ := Lib.hid hq
        have HP := Lib.hid hp
        have T1 := Lib.hid t1
        clear hq hp t1
        go_wp2_with fail
        refine (AndsOfMemory_any 0 n wd _).mono ?_
        rintro e w22' ⟨rfl, u_w22'⟩
        replace B_i1 := B_i1.below u_w22'
        replace B_s1 := B_s1.below u_w22'
        replace og_i1 := og_i1.below u_w22'
        replace oo_i1 := oo_i1.below u_w22'
        replace og_s1 := og_s1.below u_w22'
        replace oo_s1 := oo_s1.below u_w22'
        have S_w22' := u_w22'.size
        have V_w22' : Below w.heap.size w w22' := V_wz.trans (u_w22'.mono V_wz.size)
        clear V_wz
        clear u_w22'
        rw [← HP.out, A0.out]
        go_wp2_with fail
        refine (AndsOfMemory_any 1 n wd _).mono ?_
        rintro e w23' ⟨rfl, u_w23'⟩
        replace B_i1 := B_i1.below u_w23'
        replace B_s1 := B_s1.below u_w23'
        replace og_i1 := og_i1.below u_w23'
        replace oo_i1 := oo_i1.below u_w23'
        replace og_s1 := og_s1.below u_w23'
        replace oo_s1 := oo_s1.below u_w23'
        have S_w23' := u_w23'.size
        have V_w23' : Below w.heap.size w w23' := V_w22'.trans (u_w23'.mono V_w22'.size)
        clear V_w22'
        clear u_w23'
        rw [← HQ.out, A1.out]
        have hg1 : gn_i1 = G1.length / 3 := by have := og_i1.len; omega
        have hg2 : gn_s1 = G1.length / 3 := by have := og_s1.len; omega
        have HG1 := Lib.hid hg1
        have HG2 := Lib.hid hg2
        have hl1 := HML.out
        have hl2 : gn_i1 ≤ 1000 := by omega
        have hl3 : gn_s1 ≤ 1000 := by omega
        clear hg1 hg2 hl1
        have e_i1_0 : w23'.cell? ⟨w6'.heap.size, 0, none⟩ = some (.int .i64 s0) := B_i1.cell 0
        have e_i1_1 : w23'.cell? ⟨w6'.heap.size, 1, none⟩ = some (.int .i64 s11) := B_i1.cell 1
        have e_i1_2 : w23'.cell? ⟨w6'.heap.size, 2, none⟩ = some (.slice ga_i1 gn_i1 gc_i1) := B_i1.cell 2
        have e_i1_3 : w23'.cell? ⟨w6'.heap.size, 3, none⟩ = some (.slice oa_i1 on_i1 oc_i1) := B_i1.cell 3
        go_wp2_with fail
        refine (CountGates_ok s0 s11 ga_i1 gn_i1 gc_i1 G1 oa_i1 on_i1 oc_i1 O1 _ og_i1.flat oo_i1.ints (by rw [HG1.out]; exact HC.out) hl2).mono ?_
        rintro e w24' ⟨ka, kc, rfl, ok1, u_w24'⟩
        replace B_i1 := B_i1.below u_w24'
        replace B_s1 := B_s1.below u_w24'
        replace og_i1 := og_i1.below u_w24'
        replace oo_i1 := oo_i1.below u_w24'
        replace og_s1 := og_s1.below u_w24'
        replace oo_s1 := oo_s1.below u_w24'
        have S_w24' := u_w24'.size
        have V_w24' : Below w.heap.size w w24' := V_w23'.trans (u_w24'.mono V_w23'.size)
        clear V_w23'
        clear u_w24'
        clear e_i1_0 e_i1_1 e_i1_2 e_i1_3
        have e_s1_0 : w24'.cell? ⟨w8'.heap.size, 0, none⟩ = some (.int .i64 s0) := B_s1.cell 0
        have e_s1_1 : w24'.cell? ⟨w8'.heap.size, 1, none⟩ = some (.int .i64 s11) := B_s1.cell 1
        have e_s1_2 : w24'.cell? ⟨w8'.heap.size, 2, none⟩ = some (.slice ga_s1 gn_s1 gc_s1) := B_s1.cell 2
        have e_s1_3 : w24'.cell? ⟨w8'.heap.size, 3, none⟩ = some (.slice oa_s1 on_s1 oc_s1) := B_s1.cell 3
        go_wp2_with fail
        refine (spec_CountGates_ok s0 s11 ga_s1 gn_s1 gc_s1 G1 oa_s1 on_s1 oc_s1 O1 _ og_s1.flat oo_s1.ints (by rw [HG2.out]; exact HC.out) hl3).mono ?_
        rintro e w25' ⟨ua, uc, rfl, ok2, u_w25'⟩
        replace B_i1 := B_i1.below u_w25'
        replace B_s1 := B_s1.below u_w25'
        replace og_i1 := og_i1.below u_w25'
        replace oo_i1 := oo_i1.below u_w25'
        replace og_s1 := og_s1.below u_w25'
        replace oo_s1 := oo_s1.below u_w25'
        replace ok1 := ok1.below u_w25'
        have S_w25' := u_w25'.size
        have V_w25' : Below w.heap.size w w25' := V_w24'.trans (u_w25'.mono V_w24'.size)
        clear V_w24'
        clear u_w25'
        clear e_s1_0 e_s1_1 e_s1_2 e_s1_3
        rw [HG1.out] at ok1
        rw [HG2.out] at ok2
        go_wp2_with fail
        refine (qInts_same _ _ _ _ _ _ _ _ ok1.ints ok2.ints).mono ?_; rintro e wq ⟨rfl, hq⟩
        have uq := below_of_quiet hq
        clear hq
        replace B_i1 := B_i1.below uq
        replace B_s1 := B_s1.below uq
        replace og_i1 := og_i1.below uq
        replace oo_i1 := oo_i1.below uq
        replace og_s1 := og_s1.below uq
        replace oo_s1 := oo_s1.below uq
        replace ok1 := ok1.below uq
        replace ok2 := ok2.below uq
        have S_wq := uq.size
        have V_wq : Below w.heap.size w wq := V_w25'.trans (uq.mono V_w25'.size)
        clear V_w25'
        clear uq
        obtain ⟨gk, pk, rfl, cx⟩ := ok2.ints.at 1 (by omega)
        rw [← T5.out] at cx
        have hb : (1 : Int) < ((4 : Nat) : Int) := by omega
        have w3 : (n - 1) * wd = q := T1.out.symm
        rw [w3] at hpr
        have w1 : IntKind.i64.wrap q = q := IntWalk.i64_in _ (by omega)
        have w2 : wrap64 q = q := IntWalk.wrap64_in _ (by omega)
        have w4 : ((q == q) : Bool) = true := by simp
        clear hpr
        go_wp2
        go_ret
        exact ⟨rfl, V_wq⟩
end Go.Proofs.Ytmbheimjphhamaa
