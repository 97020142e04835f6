/- The outs of a circuit over a field: EvalArith on valid inputs. -/
import Derived.Test.YthpcmbdkboajcaaAv
import Derived.Test.YthpcmbdkboajcaaOuts
namespace Go.Proofs.Ythpcmbdkboajcaa
open Go.RowKit
set_option maxHeartbeats 4000000 in
set_option maxRecDepth 100000 in
theorem at_any (a : Option Addr) (n c : Nat) (F : List Int) (oa : Option Addr) (on oc : Nat) (O : List Int) (w : World) (h : Ints w a n c F) (hO : Ints w oa on oc O) (_hn : n ≤ 100000) (hon : on ≤ 100000) (hr : ∀ x ∈ O, 0 ≤ x ∧ x ≤ (n : Int) - 1) :
    Calls Try.prog 75 #[.slice a n c, .slice oa on oc] w fun e w' => ∃ a1 c1, e = .returned (.slice a1 on c1) ∧ Own w' w.heap.size a1 on c1 (pickL F O on) ∧ Below w.heap.size w w' := by
  have HR := Lib.hid hr
  have HL := Lib.hid hO.len
  clear hr
  go_enter Try.func75, Try.ntmps75
  go_wp2
  have own0 : Own (w.alloc (.cells #[] 3)) w.heap.size (some ⟨w.heap.size, 0, none⟩) 0 0 (pickL F O 0) := Own.nil0 _ _ _
  have bel0 : Below w.heap.size w (w.alloc (.cells #[] 3)) := (Below.refl _ _).alloc (Nat.le_refl _) _
  go_loopw [11, 5] (fun v u wr => ∃ k : Nat, k ≤ on ∧ v = .int .i64 k ∧ Below w.heap.size w wr ∧ ∃ a1 c1, u = .slice a1 k c1 ∧ Own wr w.heap.size a1 k c1 (pickL F O k)) (fun v _ _ => on - (intOf v).toNat)
  case atStart => exact ⟨0, Nat.zero_le _, rfl, bel0, _, _, rfl, own0⟩
  case round =>
    obtain ⟨k, hkn, rfl, hbel, a1, c1, rfl, own⟩ := hrel
    by_cases hlt : k < on
    · have ro := HR.out _ (getD_mem O k (by rw [← HL.out]; exact hlt))
      have HS := Lib.hid (pickL_succ F O k)
      obtain ⟨g, o, rfl, e0⟩ := (hO.below hbel).at k hlt
      generalize O.getD k 0 = q at *
      obtain ⟨j, rfl⟩ : ∃ j : Nat, q = j := ⟨q.toNat, by omega⟩
      simp only [Int.toNat_natCast] at HS
      have hj : j < n := by omega
      obtain ⟨g', o', rfl, e1⟩ := (h.below hbel).at j hj
      generalize F.getD j 0 = x at *
      go_wp2_with (at_builtin; refine wpList_appI _ rfl _ _ rfl w.heap.size a1 k c1 (pickL F O k) rfl (own.alloc _) _ 1 1 [x] rfl (Ints.lit1 _ _ _) (by omega) (by have := hbel.size; simp; omega) ?_)
      intro a5 c5 w3 o5 u5 _
      rw [← HS.out] at o5
      have b3 := (hbel.alloc hbel.size _).trans u5
      clear u5 hbel own e0 e1
      go_wp2
      go_roundw
      case rel => exact ⟨k + 1, by omega, by go_num, b3, a5, c5, rfl, o5⟩
      case measure => simp [intOf]; omega
    · obtain rfl : k = on := by omega
      go_wp2
      go_ret
      exact ⟨_, _, rfl, own, hbel⟩
set_option maxHeartbeats 8000000 in
set_option maxRecDepth 100000 in
theorem EvalArith_ok (P i0 i1 : Int) (ga : Option Addr) (gn gc : Nat) (G : List Int) (oa : Option Addr) (on oc : Nat) (O : List Int) (key : Int) (aa : Option Addr) (an ac : Nat) (A : List Int) (ba : Option Addr) (bn bc : Nat) (B : List Int) (w : World) (hG : Flat 3 w ga gn gc G) (hO : Ints w oa on oc O) (hA : Ints w aa an ac A) (hB : Ints w ba bn bc B) (h1 : asB P i0 i1 gn G O key A B = true) :
    Calls Try.prog 23 #[.agg #[.int .i64 P, .int .i64 i0, .int .i64 i1, .slice ga gn gc, .slice oa on oc], .slice aa an ac, .slice ba bn bc] w fun e w' => ∃ a' c', e = .returned (.tuple #[.slice a' on c', .bool true]) ∧ Own w' w.heap.size a' on c' (pickL (avR P G (A ++ B) gn) O on) ∧ Below w.heap.size w w' := by

  obtain ⟨g1, g2, g3⟩ := asB_gn h1
  have hla := hA.len
  have hlb := hB.len
  have hlo := hO.len
  rw [← hla, ← hlb] at g3
  have H3 := Lib.hid g3
  have HB8 : Hid (an ≤ 8 ∧ bn ≤ 8) := Lib.hid (by
    obtain ⟨har, _, _, _, e0, e1, _⟩ := asB_true h1
    obtain ⟨⟨r0, r0'⟩, ⟨r1, r1'⟩, _⟩ := arB_all har
    omega)
  have CA := Lib.hid (fun (W : World) (hu : Below w.heap.size w W) => ArithValues_ok P i0 i1 ga gn gc G oa on oc O key aa an ac A ba bn bc B W (hG.below hu) (hO.below hu) (hA.below hu) (hB.below hu) h1)
  have LO := Lib.hid hO
  rw [← hlo] at g2
  clear g3 h1 hla hlb hlo hG hO hA hB
  go_enter Try.func23, Try.ntmps23
  go_wp2_with fail
  refine Exists.elim (Blk.new_ w (b := w.heap.size) rfl 41 #[.int .i64 P, .int .i64 i0, .int .i64 i1, .slice ga gn gc, .slice oa on oc]) (fun w1' q => ?_)
  rw [q.1]; have B_x := q.2.1; have s_w1' := q.2.2.1; have u_w1' := q.2.2.2; clear q
  have S_w1' : w.heap.size + 1 ≤ w1'.heap.size := Nat.le_of_eq s_w1'.symm
  have V_w1' := (Below.refl w.heap.size w).trans (u_w1'.mono ((Below.refl w.heap.size w)).size)
  clear u_w1' s_w1'
  refine (CA.out _ V_w1').mono ?_
  rintro e w2' ⟨a1, c1, rfl, o1, u_w2'⟩
  replace B_x := B_x.below u_w2'
  have S_w2' := u_w2'.size
  have V_w2' : Below w.heap.size w w2' := V_w1'.trans (u_w2'.mono V_w1'.size)
  clear V_w1'
  clear u_w2'

  have e_x_0 : w2'.cell? ⟨w.heap.size, 0, none⟩ = some (.int .i64 P) := B_x.cell 0
  have e_x_1 : w2'.cell? ⟨w.heap.size, 1, none⟩ = some (.int .i64 i0) := B_x.cell 1
  have e_x_2 : w2'.cell? ⟨w.heap.size, 2, none⟩ = some (.int .i64 i1) := B_x.cell 2
  have e_x_3 : w2'.cell? ⟨w.heap.size, 3, none⟩ = some (.slice ga gn gc) := B_x.cell 3
  have e_x_4 : w2'.cell? ⟨w.heap.size, 4, none⟩ = some (.slice oa on oc) := B_x.cell 4
  go_wp2_with fail
  clear e_x_0 e_x_1 e_x_2 e_x_3 e_x_4
  have h8 := HB8.out
  refine (at_any _ _ _ _ _ _ _ O _ o1.ints (LO.out.below V_w2') (by omega) (by omega) H3.out).mono ?_
  rintro e w3' ⟨a2, c2, rfl, o2, u_w3'⟩
  replace B_x := B_x.below u_w3'
  replace o1 := o1.below u_w3'
  have S_w3' := u_w3'.size
  have V_w3' : Below w.heap.size w w3' := V_w2'.trans (u_w3'.mono V_w2'.size)
  clear V_w2'
  clear u_w3'
  go_wp2
  go_ret2
  exact ⟨_, _, rfl, o2.lower (by omega), V_w3'⟩
end Go.Proofs.Ythpcmbdkboajcaa
