/- AreMeddles: the law's walk. -/
import Derived.Test.YtjndhgjmnoiegaaDoorMed
namespace Go.Proofs.YtjndhgjmnoiegaaDoor
open Go.RowKit
set_option maxHeartbeats 4000000 in
set_option maxRecDepth 100000 in
theorem FnExactAreMeddles_walk (a0 : Int) (p1 : Option Addr) (pn1 pc1 : Nat) (l1 : List Int) (w : World) (_w0 : -9223372036854775808 ≤ a0 ∧ a0 ≤ 9223372036854775807) (z1 : Flat 4 w p1 pn1 pc1 l1) (hT : Tbl w) :
    Calls Tryd.prog 3 #[.int .i64 a0, .slice p1 pn1 pc1] w fun e w' => e = .returned (.bool true) ∧ Below w.heap.size w w' := by
  have hn := z1.le4
  by_cases hlt : (pn1 : Int) ≤ 1048576
  · have hm : pn1 ≤ 1048576 := by omega
    have LZ := Lib.hid z1
    have LT := Lib.hid hT
    clear z1 hT

    go_enter Tryd.func3, Tryd.ntmps3
    go_wp2_with fail
    refine (szMeddleS_yes _ _ _ _ _ hn (by omega) hlt).mono ?_; rintro e w' ⟨rfl, rfl⟩
    have d0 : decide ((1048576 : Int) - (pn1 : Int) < 0) = false := by simp; omega
    go_wp2_with fail
    clear d0
    refine (toMeddleS_any _ _ _ _ _ (LZ.out.below (Below.refl w.heap.size w)) hm).mono ?_
    rintro e w1' ⟨b1, d1, rfl, o1, u_w1'⟩
    have S_w1' := u_w1'.size
    have V_w1' : Below w.heap.size w w1' := (Below.refl w.heap.size w).trans (u_w1'.mono (Below.refl w.heap.size w).size)
    clear u_w1'

    go_wp2_with fail
    refine (spec_AreMeddles_any _ _ _ _ _ _ o1.flat).mono ?_
    rintro e w2' ⟨rfl, u_w2'⟩
    replace o1 := o1.below u_w2'
    have S_w2' := u_w2'.size
    have V_w2' : Below w.heap.size w w2' := V_w1'.trans (u_w2'.mono V_w1'.size)
    clear V_w1'
    clear u_w2'
    clear o1
    go_wp2_with fail
    refine (toMeddleS_any _ _ _ _ _ (LZ.out.below V_w2') hm).mono ?_
    rintro e w3' ⟨b2, d2, rfl, o2, u_w3'⟩
    have S_w3' := u_w3'.size
    have V_w3' : Below w.heap.size w w3' := V_w2'.trans (u_w3'.mono V_w2'.size)
    clear V_w2'
    clear u_w3'

    go_wp2_with fail
    refine (AreMeddles_any _ _ _ _ _ _ o2.flat (LT.out.below V_w3')).mono ?_
    rintro e w4' ⟨rfl, u_w4'⟩
    replace o2 := o2.below u_w4'
    have S_w4' := u_w4'.size
    have V_w4' : Below w.heap.size w w4' := V_w3'.trans (u_w4'.mono V_w3'.size)
    clear V_w3'
    clear u_w4'
    generalize amV a0 l1 pn1 = b5 at *
    generalize isPr a0 = b6 at *
    go_wp2_with fail
    refine (toMeddleS_any _ _ _ _ _ (LZ.out.below V_w4') hm).mono ?_
    rintro e w5' ⟨b3, d3, rfl, o3, u_w5'⟩
    replace o2 := o2.below u_w5'
    have S_w5' := u_w5'.size
    have V_w5' : Below w.heap.size w w5' := V_w4'.trans (u_w5'.mono V_w4'.size)
    clear V_w4'
    clear u_w5'

    go_wp2_with fail
    refine (eqMeddleS_b _ _ _ _ _ _ _ _ o2.flat o3.flat).mono ?_
    rintro e w6' ⟨rfl, u_w6'⟩
    replace o2 := o2.below u_w6'
    replace o3 := o3.below u_w6'
    have S_w6' := u_w6'.size
    have V_w6' : Below w.heap.size w w6' := V_w5'.trans (u_w6'.mono V_w5'.size)
    clear V_w5'
    clear u_w6'
    go_wp2
    go_ret
    exact ⟨rfl, V_w6'⟩
  · go_enter Tryd.func3, Tryd.ntmps3
    go_wp2_with fail
    refine (szMeddleS_no _ _ _ _ _ hn (by omega) (by omega)).mono ?_; rintro e w' ⟨rfl, rfl⟩
    go_wp2
    go_ret
    exact ⟨rfl, Below.refl _ _⟩
end Go.Proofs.YtjndhgjmnoiegaaDoor
