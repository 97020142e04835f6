/- Lemmas and walks that the claim's proof rests on, part 17. -/
import Derived.StillTailTactics
import Derived.Test.YtlmdckcohoddnaaDoorK2
import Derived.Test.YtlmdckcohoddnaaDoorK3
import Derived.Test.YtlmdckcohoddnaaDoorK14
import Derived.Test.YtlmdckcohoddnaaDoorK16
namespace Go.Proofs.YtlmdckcohoddnaaDoor
open Go.RowKit
theorem two_runS {a b : Pl} (h : twoB a b = true) : RunS 0 a b := by
  obtain ⟨h1, h2, _, _, _, h3, h4, h5, h6⟩ := twoB_parts h
  exact ⟨PlN.of h1, PlN.of h2, h3, h4, h5, h6⟩
end Go.Proofs.YtlmdckcohoddnaaDoor
namespace Go.Proofs.YtlmdckcohoddnaaDoor
open Go.RowKit
theorem emod_rng' (x p : Int) (hp : 1 ≤ p) : 0 ≤ x % p ∧ x % p ≤ p - 1 := ⟨Int.emod_nonneg _ (by omega), by have := Int.emod_lt_of_pos x (by omega : 0 < p); omega⟩
def dlQ (p key : Int) (n : Nat) : List Int := (List.range n).map fun (i : Nat) => numI [key, 0, (i : Int), 61] p
theorem dlQ_succ (p key : Int) (n : Nat) : dlQ p key (n + 1) = dlQ p key n ++ [numI [key, 0, (n : Int), 61] p] := by unfold dlQ; rw [List.range_succ, List.map_append]; rfl
def dlL (p key : Int) : List Int := dlQ p key 4 ++ [numI [key, 0, 2, 61] p * numI [key, 0, 3, 61] p % p]
def dlD (p key party : Int) : Int := 1 + numI [key, 2, party, 61] (p - 1)
def dlK (p key party : Int) (n : Nat) : List Int := (List.range n).map fun (i : Nat) => numI [key, 3 + party, (i : Int), 61] p
theorem dlK_succ (p key party : Int) (n : Nat) : dlK p key party (n + 1) = dlK p key party n ++ [numI [key, 3 + party, (n : Int), 61] p] := by unfold dlK; rw [List.range_succ, List.map_append]; rfl
theorem dlK_at (p key party : Int) (n i : Nat) (h : i < n) : (dlK p key party n).getD i 0 = numI [key, 3 + party, (i : Int), 61] p := by simp [dlK, List.getD, h]
theorem dlD_rng (p key party : Int) (h : 2 ≤ p) : 1 ≤ dlD p key party ∧ dlD p key party ≤ p - 1 := by
  have := numI_range [key, 2, party, 61] (p - 1) (by omega)
  unfold dlD; omega
theorem WB.key {key a b : Int} (hk : 0 ≤ key ∧ key ≤ 1000000000) (ha : 0 ≤ a ∧ a ≤ 1000) (hb : 0 ≤ b ∧ b ≤ 1000) : WB [key, a, b, 61] :=
  WB.cons (by omega) (WB.cons (by omega) (WB.two (by omega) (by omega)))
theorem dlL_at (p key : Int) (h : 2 ≤ p) (i : Nat) (hi : i < 5) : 0 ≤ (dlL p key).getD i 0 ∧ (dlL p key).getD i 0 ≤ p - 1 := by
  have hm := emod_rng' (numI [key, 0, 2, 61] p * numI [key, 0, 3, 61] p) p (by omega)
  have : i = 0 ∨ i = 1 ∨ i = 2 ∨ i = 3 ∨ i = 4 := by omega
  rcases this with rfl | rfl | rfl | rfl | rfl
  · exact numI_range [key, 0, 0, 61] p (by omega)
  · exact numI_range [key, 0, 1, 61] p (by omega)
  · exact numI_range [key, 0, 2, 61] p (by omega)
  · exact numI_range [key, 0, 3, 61] p (by omega)
  · exact hm
set_option maxHeartbeats 4000000 in
set_option maxRecDepth 100000 in
theorem dealt_any (p key : Int) (w : World) (hp : 2 ≤ p) (hp2 : p ≤ 251) (hk : 0 ≤ key ∧ key ≤ 1000000000) :
    Calls Tryd.prog 76 #[.int .i64 p, .int .i64 key] w fun e w' => ∃ a c, e = .returned (.slice a 5 c) ∧ Own w' w.heap.size a 5 c (dlL p key) ∧ Below w.heap.size w w' := by
  have HKR := Lib.hid hk
  clear hk
  go_enter Tryd.func76, Tryd.ntmps76
  go_wp2
  have own0 : Own (w.alloc (.cells #[] 3)) w.heap.size (some ⟨w.heap.size, 0, none⟩) 0 0 (dlQ p key 0) := Own.nil0 _ _ _
  have bel0 : Below w.heap.size w (w.alloc (.cells #[] 3)) := (Below.refl _ _).alloc (Nat.le_refl _) _
  go_loopw [5, 8] (fun u v wr => ∃ k : Nat, k ≤ 4 ∧ v = .int .i64 k ∧ Below w.heap.size w wr ∧ ∃ a1 c1, u = .slice a1 k c1 ∧ Own wr w.heap.size a1 k c1 (dlQ p key k)) (fun _ v _ => 4 - (intOf v).toNat)
  case atStart => exact ⟨0, by omega, rfl, bel0, _, _, rfl, own0⟩
  case round =>
    obtain ⟨k, hk, rfl, hbel, a1, c1, rfl, own⟩ := hrel
    by_cases hlt : k < 4
    · have hlt' : (k : Int) < 4 := by omega
      have HS := Lib.hid (dlQ_succ p key k)
      have HW := Lib.hid (WB.key (a := 0) (b := (k : Int)) HKR.out (by omega) (by omega))
      go_wp2_with fail
      refine (numberFrom_any _ _ _ [key, 0, (k : Int), 61] p _ (Own.lit wr wr.heap.size [key, 0, (k : Int), 61] (Nat.le_refl _) (by simp [maxLen])).ints (by simp) HW.out (by omega) (by omega)).mono ?_; rintro e w2 ⟨rfl, u5⟩
      have v5 := below_a1 u5
      have own2 := own.below v5
      have b2 := hbel.trans (v5.mono hbel.size)
      clear own u5 v5 hbel
      generalize numI [key, 0, (k : Int), 61] p = X at *
      go_wp2_with (at_builtin; refine wpList_appI _ rfl _ _ rfl w.heap.size a1 k c1 (dlQ p key k) rfl (own2.alloc _) _ 1 1 [X] rfl (Ints.lit1 _ _ _) (by omega) (by have := b2.size; simp; omega) ?_)
      intro a5 c5 w3 o5 u5 _
      have b3 := (b2.alloc b2.size (.cells #[.int .i64 X] 3)).trans u5
      clear u5 b2 own2
      go_wp2
      go_roundw
      case rel => exact ⟨k + 1, by omega, by go_num, b3, a5, c5, rfl, by rw [HS.out]; exact o5⟩
      case measure => simp [intOf]; omega
    · obtain rfl : k = 4 := by omega
      have rx := numI_range [key, 0, 2, 61] p (by omega)
      have ry := numI_range [key, 0, 3, 61] p (by omega)
      obtain ⟨g, rfl, g0, g1, y0, _, _⟩ := own.at 2 (by omega)
      obtain ⟨g', hg', _, _, y1, _, _⟩ := own.at 3 (by omega)
      cases hg'
      have HL : Hid (dlL p key = dlQ p key 4 ++ [numI [key, 0, 2, 61] p * numI [key, 0, 3, 61] p % p]) := Lib.hid rfl
      rw [show (dlQ p key 4).getD 2 0 = numI [key, 0, 2, 61] p from rfl] at y0
      rw [show (dlQ p key 4).getD 3 0 = numI [key, 0, 3, 61] p from rfl] at y1
      generalize numI [key, 0, 2, 61] p = X at *
      generalize numI [key, 0, 3, 61] p = Y at *
      have m0 : 0 ≤ X * Y := Int.mul_nonneg rx.1 ry.1
      have m1 : X * Y ≤ 250 * 250 := Int.mul_le_mul (by omega) (by omega) (by omega) (by omega)
      have t1 : IntKind.i64.wrap (X * Y) = X * Y := IntWalk.i64_in _ (by omega)
      have t2 : (X * Y).tmod p = X * Y % p := Int.tmod_eq_emod_of_nonneg m0
      have rz := emod_rng' (X * Y) p (by omega)
      have t3 : IntKind.i64.wrap (X * Y % p) = X * Y % p := IntWalk.i64_in _ (by omega)
      have z1 : (p = 0) = False := by simp; omega
      have z2 : ((p == 0) : Bool) = false := by simp; omega
      go_wp2
      refine wp_region_noPanic ?_
      refine wp_region_held_drew (S := (fun _ => True)) (by kernel_rfl) ?hS1 (fun hHeld => ?go1)
      case hS1 => trivial
      refine tk (i := 0) (oi := ⟨some 20, _, _, _, _, _⟩) (v := ?v0_2) hHeld rfl ?y0_2 ?r0_2
      case y0_2 => (intro w _; first | (go_simp; first | done | with_reducible rfl) | with_reducible rfl)
      (try simp only [pt_])
      refine tk (i := 1) (oi := ⟨some 21, _, _, _, _, _⟩) (v := ?v1_3) hHeld rfl ?y1_3 ?r1_3
      case y1_3 => (intro w _; first | (go_simp; first | done | with_reducible rfl) | with_reducible rfl)
      (try simp only [pt_])
      refine tk (i := 2) (oi := ⟨some 22, _, _, _, _, _⟩) (v := ?v2_4) hHeld rfl ?y2_4 ?r2_4
      case y2_4 => (intro w _; first | (go_simp; first | done | with_reducible rfl) | with_reducible rfl)
      (try simp only [pt_])
      refine tk (i := 4) (oi := ⟨some 24, _, _, _, _, _⟩) (v := ?v4_5) hHeld rfl ?y4_5 ?r4_5
      case y4_5 => (intro w _; first | (go_simp; first | done | with_reducible rfl) | with_reducible rfl)
      (try simp only [pt_])
      refine tk (i := 5) (oi := ⟨some 25, _, _, _, _, _⟩) (v := ?v5_6) hHeld rfl ?y5_6 ?r5_6
      case y5_6 => (intro w _; first | (go_simp; first | done | with_reducible rfl) | with_reducible rfl)
      (try simp only [pt_])
      refine tk (i := 8) (oi := ⟨some 28, _, _, _, _, _⟩) (v := ?v8_7) hHeld rfl ?y8_7 ?r8_7
      case y8_7 => (intro w _; first | (go_simp; first | done | with_reducible rfl) | with_reducible rfl)
      (try simp only [pt_])
      refine wpAnyH_ready (rs := [3, 6]) (by kernel_rfl) (by simp) ?_
      refine AllReadyH.cons (o := ⟨some 23, _, _, _, _, _⟩) rfl (fun K hK => ?_) ?_
      go_simp
      refine hK.out _ _ trivial (fun hHeld => ?_)
      clear hK K
      (try simp only [pt_])
      refine wpAnyH_ready (rs := [6]) (by kernel_rfl) (by simp) ?_
      refine AllReadyH.cons (o := ⟨some 26, _, _, _, _, _⟩) rfl (fun K hK => ?_) ?_
      go_simp
      refine hK.out _ _ trivial (fun hHeld => ?_)
      clear hK K
      (try simp only [pt_])
      refine tk (i := 7) (oi := ⟨some 27, _, _, _, _, _⟩) (v := ?v7_8) hHeld rfl ?y7_8 ?r7_8
      case y7_8 => (intro w _; first | (go_simp; first | done | with_reducible rfl) | with_reducible rfl)
      (try simp only [pt_])
      refine tk (i := 9) (oi := ⟨some 29, _, _, _, _, _⟩) (v := ?v9_9) hHeld rfl ?y9_9 ?r9_9
      case y9_9 => (intro w _; first | (go_simp; first | done | with_reducible rfl) | with_reducible rfl)
      (try simp only [pt_])
      refine wpAnyH_ready (rs := [10]) (by kernel_rfl) (by simp) ?_
      refine AllReadyH.cons (o := ⟨some 30, _, _, _, _, _⟩) rfl (fun K hK => ?_) ?_
      go_simp
      refine hK.out _ _ trivial (fun hHeld => ?_)
      clear hK K
      (try simp only [pt_])
      refine wpAnyH_ready (rs := [11]) (by kernel_rfl) (by simp) ?_
      refine AllReadyH.cons (o := ⟨some 31, _, _, _, _, _⟩) rfl (fun K hK => ?_) ?_
      have b2 := (hbel.drew).alloc hbel.drew.size (.cells #[.int .i64 (X * Y % p)] 3)
      refine step_appI _ rfl _ _ rfl w.heap.size _ 4 c1 (dlQ p key 4) rfl (own.drew.alloc _) _ 1 1 [X * Y % p] rfl (Ints.lit1 _ _ _) (by omega) b2.size ?_
      intro a5 c5 w3 o5 u5 g5 i5
      have b3 := b2.trans u5
      clear b2 u5 g5 i5
      refine hK.out _ _ trivial (fun hHeld => ?_)
      clear hK K
      (try simp only [pt_])
      refine tk (i := 12) (oi := ⟨some 4, _, _, _, _, _⟩) (v := ?v12_10) hHeld rfl ?y12_10 ?r12_10
      case y12_10 => (intro w _; first | (go_simp; first | done | with_reducible rfl) | with_reducible rfl)
      (try simp only [pt_])
      refine wpAnyH_done (by kernel_rfl) ?_ _
      refine NoPanic.normal ?_
      rotate_left 1
      exact AllReadyH.nil
      exact AllReadyH.nil
      exact AllReadyH.nil
      refine AllReadyH.cons (o := ⟨some 26, _, _, _, _, _⟩) rfl (fun K hK => ?_) ?_
      go_simp
      refine hK.out _ _ trivial (fun hHeld => ?_)
      clear hK K
      (try simp only [pt_])
      refine wpAnyH_ready (rs := [3]) (by kernel_rfl) (by simp) ?_
      refine AllReadyH.cons (o := ⟨some 23, _, _, _, _, _⟩) rfl (fun K hK => ?_) ?_
      go_simp
      refine hK.out _ _ trivial (fun hHeld => ?_)
      clear hK K
      (try simp only [pt_])
      refine tk (i := 7) (oi := ⟨some 27, _, _, _, _, _⟩) (v := ?v7_11) hHeld rfl ?y7_11 ?r7_11
      case y7_11 => (intro w _; first | (go_simp; first | done | with_reducible rfl) | with_reducible rfl)
      (try simp only [pt_])
      refine tk (i := 9) (oi := ⟨some 29, _, _, _, _, _⟩) (v := ?v9_12) hHeld rfl ?y9_12 ?r9_12
      case y9_12 => (intro w _; first | (go_simp; first | done | with_reducible rfl) | with_reducible rfl)
      (try simp only [pt_])
      refine wpAnyH_ready (rs := [10]) (by kernel_rfl) (by simp) ?_
      refine AllReadyH.cons (o := ⟨some 30, _, _, _, _, _⟩) rfl (fun K hK => ?_) ?_
      go_simp
      refine hK.out _ _ trivial (fun hHeld => ?_)
      clear hK K
      (try simp only [pt_])
      refine wpAnyH_ready (rs := [11]) (by kernel_rfl) (by simp) ?_
      refine AllReadyH.cons (o := ⟨some 31, _, _, _, _, _⟩) rfl (fun K hK => ?_) ?_
      have b2 := (hbel.drew).alloc hbel.drew.size (.cells #[.int .i64 (X * Y % p)] 3)
      refine step_appI _ rfl _ _ rfl w.heap.size _ 4 c1 (dlQ p key 4) rfl (own.drew.alloc _) _ 1 1 [X * Y % p] rfl (Ints.lit1 _ _ _) (by omega) b2.size ?_
      intro a5 c5 w3 o5 u5 g5 i5
      have b3 := b2.trans u5
      clear b2 u5 g5 i5
      refine hK.out _ _ trivial (fun hHeld => ?_)
      clear hK K
      (try simp only [pt_])
      refine tk (i := 12) (oi := ⟨some 4, _, _, _, _, _⟩) (v := ?v12_13) hHeld rfl ?y12_13 ?r12_13
      case y12_13 => (intro w _; first | (go_simp; first | done | with_reducible rfl) | with_reducible rfl)
      (try simp only [pt_])
      refine wpAnyH_done (by kernel_rfl) ?_ _
      refine NoPanic.normal ?_
      rotate_left 1
      exact AllReadyH.nil
      exact AllReadyH.nil
      exact AllReadyH.nil
      exact AllReadyH.nil
      all_goals
        go_wp2
        go_ret
        exact ⟨a5, c5, rfl, by rw [HL.out]; exact o5, b3⟩
set_option maxHeartbeats 1000000 in
theorem deltaOf_any (p key party : Int) (w : World) (hp : 2 ≤ p) (hp2 : p ≤ 251) (hk : 0 ≤ key ∧ key ≤ 1000000000) (hq : 0 ≤ party ∧ party ≤ 1) :
    Calls Tryd.prog 77 #[.int .i64 p, .int .i64 key, .int .i64 party] w fun e w' => e = .returned (.int .i64 (dlD p key party)) ∧ Below w.heap.size w w' := by
  have HW := Lib.hid (WB.key (a := 2) (b := party) hk (by omega) (by omega))
  have hr := numI_range [key, 2, party, 61] (p - 1) (by omega)
  have t1 : IntKind.i64.wrap (p - 1) = p - 1 := IntWalk.i64_in _ (by omega)
  have t2 : IntKind.i64.wrap (1 + numI [key, 2, party, 61] (p - 1)) = 1 + numI [key, 2, party, 61] (p - 1) := IntWalk.i64_in _ (by omega)
  unfold dlD
  go_enter Tryd.func77, Tryd.ntmps77
  go_wp2_with fail
  refine (numberFrom_any _ _ _ [key, 2, party, 61] (p - 1) _ (Own.lit w w.heap.size [key, 2, party, 61] (Nat.le_refl _) (by simp [maxLen])).ints (by simp) HW.out (by omega) (by omega)).mono ?_; rintro e w2 ⟨rfl, u5⟩
  have v5 := below_a1 u5
  clear u5
  go_wp2
  go_ret
  exact ⟨rfl, v5⟩
set_option maxHeartbeats 1000000 in
theorem ptDraw_any (key kind i n : Int) (w : World) (hw : WB [key, kind, i, 61]) (h1 : 1 ≤ n) (h2 : n ≤ 2000000000) :
    Calls Tryd.prog 114 #[.int .i64 key, .int .i64 kind, .int .i64 i, .int .i64 n] w fun e w' => e = .returned (.int .i64 (numI [key, kind, i, 61] n)) ∧ Below w.heap.size w w' := by
  have HW := Lib.hid hw
  clear hw
  go_enter Tryd.func114, Tryd.ntmps114
  go_wp2_with fail
  refine (dgBelow_any _ _ _ [key, kind, i, 61] n _ (Own.lit w w.heap.size [key, kind, i, 61] (Nat.le_refl _) (by simp [maxLen])).ints (by simp) HW.out (by omega) (by omega)).mono ?_; rintro e w2 ⟨rfl, u5⟩
  have v5 := below_a1 u5
  clear u5
  go_wp2
  go_ret
  exact ⟨rfl, v5⟩
set_option maxHeartbeats 1000000 in
theorem ptDelta_any (p key party : Int) (w : World) (hp : 2 ≤ p) (hp2 : p ≤ 251) (hk : 0 ≤ key ∧ key ≤ 1000000000) (hq : 0 ≤ party ∧ party ≤ 1) :
    Calls Tryd.prog 115 #[.int .i64 p, .int .i64 key, .int .i64 party] w fun e w' => e = .returned (.int .i64 (dlD p key party)) ∧ Below w.heap.size w w' := by
  have HW := Lib.hid (WB.key (a := 2) (b := party) hk (by omega) (by omega))
  have hr := numI_range [key, 2, party, 61] (p - 1) (by omega)
  have t1 : IntKind.i64.wrap (p - 1) = p - 1 := IntWalk.i64_in _ (by omega)
  have t2 : IntKind.i64.wrap (1 + numI [key, 2, party, 61] (p - 1)) = 1 + numI [key, 2, party, 61] (p - 1) := IntWalk.i64_in _ (by omega)
  unfold dlD
  by_cases h : 1 < p - 1
  · have h' : decide (1 < p - 1) = true := decide_eq_true h
    go_enter Tryd.func115, Tryd.ntmps115
    go_wp2_with (first | (go_at_call 137; go_in))
    refine (ptDraw_any key 2 party (p - 1) _ HW.out (by omega) (by omega)).mono ?_; rintro e w2 ⟨rfl, u5⟩
    go_wp2
    go_ret
    exact ⟨rfl, u5⟩
  · have h' : decide (1 < p - 1) = false := decide_eq_false h
    obtain rfl : p = 2 := by omega
    clear t1 h h'
    rw [show ((2 : Int) - 1) = 1 from rfl] at hr t2 ⊢
    go_enter Tryd.func115, Tryd.ntmps115
    go_wp2_with (first | (go_at_call 137; go_in))
    refine (ptDraw_any key 2 party 1 _ HW.out (by omega) (by omega)).mono ?_; rintro e w2 ⟨rfl, u5⟩
    go_wp2
    go_ret
    exact ⟨rfl, u5⟩
set_option maxHeartbeats 4000000 in
theorem ptKeys_any (p key party : Int) (w : World) (hp : 2 ≤ p) (hp2 : p ≤ 251) (hk : 0 ≤ key ∧ key ≤ 1000000000) (hq : 0 ≤ party ∧ party ≤ 1) :
    Calls Tryd.prog 116 #[.int .i64 p, .int .i64 key, .int .i64 party] w fun e w' => ∃ a c, e = .returned (.slice a 5 c) ∧ Own w' w.heap.size a 5 c (dlK p key party 5) ∧ Below w.heap.size w w' := by
  have HKR := Lib.hid hk
  clear hk
  have t1 : IntKind.i64.wrap (3 + party) = 3 + party := IntWalk.i64_in _ (by omega)
  go_enter Tryd.func116, Tryd.ntmps116
  go_wp2
  go_loopw [7, 8] (fun u v wr => ∃ k : Nat, k ≤ 5 ∧ v = .int .i64 k ∧ Below w.heap.size w wr ∧ ∃ a1 c1, u = .slice a1 k c1 ∧ Own wr w.heap.size a1 k c1 (dlK p key party k)) (fun _ v _ => 5 - (intOf v).toNat)
  case atStart => exact ⟨0, by omega, rfl, Below.refl _ _, _, _, rfl, Own.nil0 _ _ _⟩
  case round =>
    obtain ⟨k, hk, rfl, hbel, a1, c1, rfl, own⟩ := hrel
    by_cases hlt : k < 5
    · have hlt' : (k : Int) < 5 := by omega
      have HS := Lib.hid (dlK_succ p key party k)
      have HW := Lib.hid (WB.key (a := 3 + party) (b := (k : Int)) HKR.out (by omega) (by omega))
      go_wp2_with fail
      refine (ptDraw_any key (3 + party) k p _ HW.out (by omega) (by omega)).mono ?_; rintro e w2 ⟨rfl, u5⟩
      have own2 := own.below u5
      have b2 := hbel.trans (u5.mono hbel.size)
      clear own u5 hbel
      generalize numI [key, 3 + party, (k : Int), 61] p = X at *
      go_wp2_with (at_builtin; refine wpList_appI _ rfl _ _ rfl w.heap.size a1 k c1 (dlK p key party k) rfl (own2.alloc _) _ 1 1 [X] rfl (Ints.lit1 _ _ _) (by omega) (by have := b2.size; simp; omega) ?_)
      intro a5 c5 w3 o5 u5 _
      have b3 := (b2.alloc b2.size (.cells #[.int .i64 X] 3)).trans u5
      clear u5 b2 own2
      go_wp2
      go_roundw
      case rel => exact ⟨k + 1, by omega, by go_num, b3, a5, c5, rfl, by rw [HS.out]; exact o5⟩
      case measure => simp [intOf]; omega
    · obtain rfl : k = 5 := by omega
      go_wp2
      go_ret
      exact ⟨a1, c1, rfl, own, hbel⟩
end Go.Proofs.YtlmdckcohoddnaaDoor
namespace Go.Proofs.YtlmdckcohoddnaaDoor
open Go.RowKit
theorem bend_same {P : Int} {l : List Int} {i : Nat} (hi : i < l.length) (hl : ∀ v ∈ l, 0 ≤ v ∧ v ≤ P - 1) : bendI P l i 0 = l := by
  have h := hl _ (getD_mem l i hi)
  unfold bendI
  rw [Int.add_zero, Int.emod_eq_of_lt h.1 (by omega)]
  apply List.ext_getElem?
  intro j
  rw [List.getElem?_set]
  split
  · rename_i e; subst e
    simp [List.getD, hi]
  · rfl
theorem mes0 {a : Pl} (h : New a) (fr : Int) : mesP fr a = (fr, 0, [mkI a]) := by
  unfold mesP bodyL; rw [h.s, if_pos rfl]
theorem mes1 (a : Pl) (n fr : Int) : mesP fr (pl1 a n) = (fr, 1, bodyL (pl1 a n)) := rfl
structure Con (R : Pl × Pl × List MsD) (z k : Int) : Prop where
  a : R.1.status = 1 → R.1.out = z
  b : R.2.1.status = 1 → R.2.1.out = z
  both : k = 0 → R.1.status = 1 ∧ R.2.1.status = 1
  notb : k ≠ 0 → ¬ (R.1.status = 1 ∧ R.2.1.status = 1)
section
variable {a b : Pl} {v : Nat → Int} (hF : Fit a b v) (hA : New a) (hB : New b) {chg : Int → MsD → MsD}
include hF hA hB
theorem run1 {n m : Int} (h1 : chg 1 (1, 0, [mkI b]) = (1, 0, [n])) (h0 : chg 0 (0, 0, [mkI a]) = (0, 0, [m])) (hn : 0 ≤ n ∧ n ≤ a.P - 1) (hm : 0 ≤ m ∧ m ≤ a.P - 1) :
    runP chg 3 a b [] = runP chg 2 (pl1 a n) (pl1 b m) [(0, 0, [mkI a]), (1, 0, [mkI b])] := by
  have e1 : takeM a (chg 1 (mesP 1 b)) = pl1 a n := by rw [mes0 hB, h1]; exact take1 hA (by rw [hF.pa]; rfl) hn
  have e2 : takeM b (chg 0 (mesP 0 a)) = pl1 b m := by rw [mes0 hA, h0]; exact take1 hB (by rw [hF.pb]; rfl) (by rw [hF.bP]; exact hm)
  have : runP chg 3 a b [] = if (takeM a (chg 1 (mesP 1 b))).status = 2 ∨ (takeM b (chg 0 (mesP 0 a))).status = 2 then (takeM a (chg 1 (mesP 1 b)), takeM b (chg 0 (mesP 0 a)), [mesP 0 a, mesP 1 b]) else runP chg 2 (takeM a (chg 1 (mesP 1 b))) (takeM b (chg 0 (mesP 0 a))) [mesP 0 a, mesP 1 b] := rfl
  rw [this, e1, e2, if_neg (by
    rintro (h | h)
    · have : a.status = 2 := h
      rw [hA.t] at this; exact absurd this (by decide)
    · have : b.status = 2 := h
      rw [hB.t] at this; exact absurd this (by decide)), mes0 hA, mes0 hB]
omit hF hA hB in
theorem run2 (a b : Pl) (l : List MsD) (hl : l.length = 2) : runP chg 2 a b l = if (takeM a (chg 3 (mesP 1 b))).status = 2 ∨ (takeM b (chg 2 (mesP 0 a))).status = 2 then (takeM a (chg 3 (mesP 1 b)), takeM b (chg 2 (mesP 0 a)), l ++ [mesP 0 a, mesP 1 b]) else runP chg 1 (takeM a (chg 3 (mesP 1 b))) (takeM b (chg 2 (mesP 0 a))) (l ++ [mesP 0 a, mesP 1 b]) := by
  show (if (takeM a (chg ((l.length : Int) + 1) (mesP 1 b))).status = 2 ∨ (takeM b (chg (l.length : Int) (mesP 0 a))).status = 2 then _ else _) = _
  rw [hl]
  rfl
omit hF hA hB in
theorem run3 (a b : Pl) (l : List MsD) (hl : l.length = 4) : (runP chg 1 a b l).1 = takeM a (chg 5 (mesP 1 b)) ∧ (runP chg 1 a b l).2.1 = takeM b (chg 4 (mesP 0 a)) := by
  have : runP chg 1 a b l = if (takeM a (chg ((l.length : Int) + 1) (mesP 1 b))).status = 2 ∨ (takeM b (chg (l.length : Int) (mesP 0 a))).status = 2 then (takeM a (chg ((l.length : Int) + 1) (mesP 1 b)), takeM b (chg (l.length : Int) (mesP 0 a)), l ++ [mesP 0 a, mesP 1 b]) else runP chg 0 (takeM a (chg ((l.length : Int) + 1) (mesP 1 b))) (takeM b (chg (l.length : Int) (mesP 0 a))) (l ++ [mesP 0 a, mesP 1 b]) := rfl
  rw [this, hl]
  split <;> exact ⟨rfl, rfl⟩
omit hA in
theorem two_a (n m : Int) (hm : 0 ≤ m ∧ m ≤ a.P - 1) : takeM (pl1 a n) (1, 1, bodyL (pl1 b m)) = pl2 a n (bodyL (pl1 b m)) := by
  have hr := body_rng hB (n := m) (by rw [hF.bP]; exact hm)
  rw [body1] at hr ⊢
  obtain ⟨h1, h2⟩ := ok1_a hF n m
  exact take2 (by rw [hF.pa]; rfl) (by rw [hF.bP] at hr; exact hr) (by rw [accT1, h1, h2]; rfl)
theorem two_b : takeM (pl1 b (mkI a)) (0, 1, bodyL (pl1 a (mkI b))) = pl2 b (mkI a) (bodyL (pl1 a (mkI b))) := by
  have hr := body_rng hA (n := mkI b) (by have := mkI_rng hB.n; rw [hF.bP] at this; exact this)
  rw [body1] at hr ⊢
  obtain ⟨h1, h2⟩ := off1_b hF (mkI b) (mkI a)
  rw [Int.sub_self, Int.zero_mul] at h1 h2
  exact take2 (by rw [hF.pb]; rfl) (by rw [hF.bP]; exact hr) (by rw [accT1, hF.bP, holdB_yes h1, holdB_yes h2]; rfl)
end
end Go.Proofs.YtlmdckcohoddnaaDoor
namespace Go.Proofs.YtlmdckcohoddnaaDoor
open Go.RowKit
theorem thV_rng (a : Pl) (h : 1 ≤ a.P) : 0 ≤ thV a ∧ thV a ≤ a.P - 1 := cmb_rng _ _ _ _ _ _ _ _ h
theorem thT_rng (a : Pl) (h : 1 ≤ a.P) : 0 ≤ thT a ∧ thT a ≤ a.P - 1 := cmb_rng _ _ _ _ _ _ _ _ h
theorem two_rng {x y lo hi : Int} (h : lo ≤ x ∧ x ≤ hi) (h' : lo ≤ y ∧ y ≤ hi) : ∀ v ∈ [x, y], lo ≤ v ∧ v ≤ hi := by
  intro v hv
  simp at hv
  rcases hv with rfl | rfl
  · exact h
  · exact h'
theorem four_rng {x y z u lo hi : Int} (h : lo ≤ x ∧ x ≤ hi) (h' : lo ≤ y ∧ y ≤ hi) (h2 : lo ≤ z ∧ z ≤ hi) (h3 : lo ≤ u ∧ u ≤ hi) : ∀ v ∈ [x, y, z, u], lo ≤ v ∧ v ≤ hi := by
  intro v hv
  simp at hv
  rcases hv with rfl | rfl | rfl | rfl
  · exact h
  · exact h'
  · exact h2
  · exact h3
theorem chgP_no (P at_ : Int) (i : Nat) (k j : Int) (m : MsD) (h : j ≠ at_) : chgP P at_ i k j m = m := by unfold chgP; rw [if_neg h]
theorem chgP_yes (P at_ : Int) (i : Nat) (k : Int) (x y : Int) (l : List Int) : chgP P at_ i k at_ (x, y, l) = (x, y, bendI P l i k) := by unfold chgP; rw [if_pos rfl]
theorem bent_ne {P x k : Int} (hx : 0 ≤ x ∧ x ≤ P - 1) (hk : 1 ≤ k ∧ k ≤ P - 1) : x ≠ (x + k) % P := by
  intro h
  rcases Int.lt_or_le (x + k) P with hlt | hge
  · rw [Int.emod_eq_of_lt (by omega) hlt] at h; omega
  · have : (x + k) % P = x + k - P := by
      rw [show x + k = (x + k - P) + P from by omega, Int.add_emod_right, Int.emod_eq_of_lt (by omega) (by omega)]
      omega
    omega
section
variable {a b : Pl} {v : Nat → Int} (hF : Fit a b v) (hA : New a) (hB : New b) {chg : Int → MsD → MsD}
include hF hA hB
omit hB in
theorem fin_a : (takeM (finA a b) (1, 2, bodyL (finB a b))).status = 1 ∧ (takeM (finA a b) (1, 2, bodyL (finB a b))).out = a.input * b.input % a.P := by
  have hp := hA.n.p1
  have hP : (finB a b).P = a.P := hF.bP
  have r1 := thV_rng (finB a b) (by rw [hP]; omega)
  have r2 := thT_rng (finB a b) (by rw [hP]; omega)
  rw [hP] at r1 r2
  have hb : bodyL (finB a b) = [thV (finB a b), thT (finB a b)] := body2 _ _ _
  rw [hb]
  have := take3 (a := a) (n := mkI b) (fr := 1) (x := thV (finB a b)) (t := thT (finB a b)) (l := bodyL (pl1 b (mkI a))) (by rw [hF.pa]; rfl) (two_rng r1 r2) (by rw [accT2]; exact holdB_yes (ok2_a hF))
  exact ⟨this.1, this.2.trans (out_xy hF)⟩
omit hB in
theorem fin_b : (takeM (finB a b) (0, 2, bodyL (finA a b))).status = 1 ∧ (takeM (finB a b) (0, 2, bodyL (finA a b))).out = a.input * b.input % a.P := by
  have hp := hA.n.p1
  have r1 := thV_rng (finA a b) (show 1 ≤ a.P by omega)
  have r2 := thT_rng (finA a b) (show 1 ≤ a.P by omega)
  have hb : bodyL (finA a b) = [thV (finA a b), thT (finA a b)] := body2 _ _ _
  rw [hb]
  have := take3 (a := b) (n := mkI a) (fr := 0) (x := thV (finA a b)) (t := thT (finA a b)) (l := bodyL (pl1 a (mkI b))) (by rw [hF.pb]; rfl) (by rw [hF.bP]; exact two_rng r1 r2) (by rw [accT2, hF.bP]; exact holdB_yes (ok2_b hF))
  refine ⟨this.1, this.2.trans ?_⟩
  rw [hF.bP, Int.add_comm]
  exact out_xy hF
theorem to2 (h1 : chg 1 (1, 0, [mkI b]) = (1, 0, [mkI b])) (h0 : chg 0 (0, 0, [mkI a]) = (0, 0, [mkI a])) :
    runP chg 3 a b [] = runP chg 2 (pl1 a (mkI b)) (pl1 b (mkI a)) [(0, 0, [mkI a]), (1, 0, [mkI b])] :=
  run1 hF hA hB h1 h0 (by have := mkI_rng hB.n; rw [hF.bP] at this; exact this) (mkI_rng hA.n)
theorem to3 (h1 : chg 1 (1, 0, [mkI b]) = (1, 0, [mkI b])) (h0 : chg 0 (0, 0, [mkI a]) = (0, 0, [mkI a])) (h3 : chg 3 (1, 1, bodyL (pl1 b (mkI a))) = (1, 1, bodyL (pl1 b (mkI a)))) (h2 : chg 2 (0, 1, bodyL (pl1 a (mkI b))) = (0, 1, bodyL (pl1 a (mkI b)))) :
    (runP chg 3 a b []).1 = takeM (finA a b) (chg 5 (1, 2, bodyL (finB a b))) ∧ (runP chg 3 a b []).2.1 = takeM (finB a b) (chg 4 (0, 2, bodyL (finA a b))) := by
  rw [to2 hF hA hB h1 h0, run2 _ _ _ rfl, mes1, mes1, h3, h2, two_a hF hB _ _ (mkI_rng hA.n), two_b hF hA hB, if_neg (by
    rintro (h | h)
    · have : a.status = 2 := h
      rw [hA.t] at this; exact absurd this (by decide)
    · have : b.status = 2 := h
      rw [hB.t] at this; exact absurd this (by decide))]
  exact run3 _ _ _ rfl
theorem run_ok (h1 : chg 1 (1, 0, [mkI b]) = (1, 0, [mkI b])) (h0 : chg 0 (0, 0, [mkI a]) = (0, 0, [mkI a])) (h3 : chg 3 (1, 1, bodyL (pl1 b (mkI a))) = (1, 1, bodyL (pl1 b (mkI a)))) (h2 : chg 2 (0, 1, bodyL (pl1 a (mkI b))) = (0, 1, bodyL (pl1 a (mkI b))))
    (h5 : chg 5 (1, 2, bodyL (finB a b)) = (1, 2, bodyL (finB a b))) (h4 : chg 4 (0, 2, bodyL (finA a b)) = (0, 2, bodyL (finA a b))) :
    Con (runP chg 3 a b []) (a.input * b.input % a.P) 0 := by
  obtain ⟨e1, e2⟩ := to3 hF hA hB h1 h0 h3 h2
  rw [h5] at e1
  rw [h4] at e2
  have f1 := fin_a hF hA
  have f2 := fin_b hF hA
  exact ⟨fun _ => by rw [e1]; exact f1.2, fun _ => by rw [e2]; exact f2.2, fun _ => ⟨by rw [e1]; exact f1.1, by rw [e2]; exact f2.1⟩, fun h => absurd rfl h⟩
end
end Go.Proofs.YtlmdckcohoddnaaDoor
namespace Go.Proofs.YtlmdckcohoddnaaDoor
open Go.RowKit
section
variable {a b : Pl} {v : Nat → Int} (hF : Fit a b v) (hA : New a) (hB : New b)
include hF hA hB
theorem bent1 {chg : Int → MsD → MsD} {n m z k : Int} (hk : k ≠ 0) (h1 : chg 1 (1, 0, [mkI b]) = (1, 0, [n])) (h0 : chg 0 (0, 0, [mkI a]) = (0, 0, [m])) (hn : 0 ≤ n ∧ n ≤ a.P - 1) (hm : 0 ≤ m ∧ m ≤ a.P - 1) (hne : mkI a ≠ m ∨ n ≠ mkI b)
    (h3 : chg 3 (1, 1, bodyL (pl1 b m)) = (1, 1, bodyL (pl1 b m))) (h2 : chg 2 (0, 1, bodyL (pl1 a n)) = (0, 1, bodyL (pl1 a n))) :
    Con (runP chg 3 a b []) z k := by
  have hp := hA.n.p1
  have hmb := mkI_rng hB.n
  rw [hF.bP] at hmb
  have hs : (takeM (pl1 b m) (0, 1, bodyL (pl1 a n))).status = 2 := by
    have hr := body_rng hA (n := n) hn
    rw [body1] at hr ⊢
    obtain ⟨q1, q2⟩ := off1_b hF n m
    refine take2_no (by rw [hF.pb]; rfl) (by rw [hF.bP]; exact hr) ?_
    rw [accT1, hF.bP]
    rcases hne with h | h
    · have : holdB a.P b.delta (keyT (pl1 b m) 1 0 (-1) 0 0 (f0 (pl1 b m))) (seV0 (pl1 a n)) (seT0 (pl1 a n)) = false := by
        rw [Bool.eq_false_iff]
        exact fun hh => diff_no hF.pr (mkI_rng hA.n) hm hF.db h (q1.symm.trans (holdB_cg hh))
      rw [this]; rfl
    · have : holdB a.P b.delta (keyT (pl1 b m) 0 1 0 (-1) 0 (f1 (pl1 b m))) (seV1 (pl1 a n)) (seT1 (pl1 a n)) = false := by
        rw [Bool.eq_false_iff]
        exact fun hh => diff_no hF.pr hn hmb hF.db h (q2.symm.trans (holdB_cg hh))
      rw [this, Bool.and_false]
  have ht : (takeM (pl1 a n) (1, 1, bodyL (pl1 b m))).status = 0 := by
    rw [two_a hF hB n m hm]; exact hA.t
  have e : (runP chg 3 a b []).1.status = 0 ∧ (runP chg 3 a b []).2.1.status = 2 := by
    rw [run1 hF hA hB h1 h0 hn hm, run2 _ _ _ rfl, mes1, mes1, h3, h2, if_pos (Or.inr hs)]
    exact ⟨ht, hs⟩
  exact ⟨fun h => by rw [e.1] at h; exact absurd h (by decide), fun h => by rw [e.2] at h; exact absurd h (by decide), fun h => absurd h hk, fun _ h => by rw [e.1] at h; exact absurd h.1 (by decide)⟩
theorem rej2_a {i : Nat} {k : Int} (hi : i < 4) (hk : 1 ≤ k ∧ k ≤ a.P - 1) : (takeM (pl1 a (mkI b)) (1, 1, bendI a.P (bodyL (pl1 b (mkI a))) i k)).status = 2 := by
  have hp := hA.n.p1
  have hr := body_rng hB (n := mkI a) (by rw [hF.bP]; exact mkI_rng hA.n)
  obtain ⟨o1, o2⟩ := ok1_a hF (mkI b) (mkI a)
  rw [body1] at hr ⊢
  rw [hF.bP] at hr
  have g := fun x hx => hr x hx
  have r0 := g (seV0 (pl1 b (mkI a))) (by simp)
  have r1 := g (seT0 (pl1 b (mkI a))) (by simp)
  have r2 := g (seV1 (pl1 b (mkI a))) (by simp)
  have r3 := g (seT1 (pl1 b (mkI a))) (by simp)
  have : i = 0 ∨ i = 1 ∨ i = 2 ∨ i = 3 := by omega
  rcases this with rfl | rfl | rfl | rfl
  · exact take2_no (by rw [hF.pa]; rfl) (four_rng (emod_rng _ _ (by omega)) r1 r2 r3) (by rw [accT1, show ([seV0 (pl1 b (mkI a)), seT0 (pl1 b (mkI a)), seV1 (pl1 b (mkI a)), seT1 (pl1 b (mkI a))] : List Int).getD 0 0 = seV0 (pl1 b (mkI a)) from rfl, bent_v hF.pr hF.da (holdB_cg o1) hk]; rfl)
  · exact take2_no (by rw [hF.pa]; rfl) (four_rng r0 (emod_rng _ _ (by omega)) r2 r3) (by rw [accT1, show ([seV0 (pl1 b (mkI a)), seT0 (pl1 b (mkI a)), seV1 (pl1 b (mkI a)), seT1 (pl1 b (mkI a))] : List Int).getD 1 0 = seT0 (pl1 b (mkI a)) from rfl, bent_t (holdB_cg o1) hk]; rfl)
  · exact take2_no (by rw [hF.pa]; rfl) (four_rng r0 r1 (emod_rng _ _ (by omega)) r3) (by rw [accT1, show ([seV0 (pl1 b (mkI a)), seT0 (pl1 b (mkI a)), seV1 (pl1 b (mkI a)), seT1 (pl1 b (mkI a))] : List Int).getD 2 0 = seV1 (pl1 b (mkI a)) from rfl, bent_v hF.pr hF.da (holdB_cg o2) hk, Bool.and_false])
  · exact take2_no (by rw [hF.pa]; rfl) (four_rng r0 r1 r2 (emod_rng _ _ (by omega))) (by rw [accT1, show ([seV0 (pl1 b (mkI a)), seT0 (pl1 b (mkI a)), seV1 (pl1 b (mkI a)), seT1 (pl1 b (mkI a))] : List Int).getD 3 0 = seT1 (pl1 b (mkI a)) from rfl, bent_t (holdB_cg o2) hk, Bool.and_false])
theorem rej2_b {i : Nat} {k : Int} (hi : i < 4) (hk : 1 ≤ k ∧ k ≤ a.P - 1) : (takeM (pl1 b (mkI a)) (0, 1, bendI a.P (bodyL (pl1 a (mkI b))) i k)).status = 2 := by
  have hp := hA.n.p1
  have hmb := mkI_rng hB.n
  rw [hF.bP] at hmb
  have hr := body_rng hA (n := mkI b) hmb
  obtain ⟨q1, q2⟩ := off1_b hF (mkI b) (mkI a)
  rw [Int.sub_self, Int.zero_mul] at q1 q2
  rw [body1] at hr ⊢
  have g := fun x hx => hr x hx
  have r0 := g (seV0 (pl1 a (mkI b))) (by simp)
  have r1 := g (seT0 (pl1 a (mkI b))) (by simp)
  have r2 := g (seV1 (pl1 a (mkI b))) (by simp)
  have r3 := g (seT1 (pl1 a (mkI b))) (by simp)
  have : i = 0 ∨ i = 1 ∨ i = 2 ∨ i = 3 := by omega
  rcases this with rfl | rfl | rfl | rfl
  · exact take2_no (by rw [hF.pb]; rfl) (by rw [hF.bP]; exact four_rng (emod_rng _ _ (by omega)) r1 r2 r3) (by rw [accT1, hF.bP, show ([seV0 (pl1 a (mkI b)), seT0 (pl1 a (mkI b)), seV1 (pl1 a (mkI b)), seT1 (pl1 a (mkI b))] : List Int).getD 0 0 = seV0 (pl1 a (mkI b)) from rfl, bent_v hF.pr hF.db q1 hk]; rfl)
  · exact take2_no (by rw [hF.pb]; rfl) (by rw [hF.bP]; exact four_rng r0 (emod_rng _ _ (by omega)) r2 r3) (by rw [accT1, hF.bP, show ([seV0 (pl1 a (mkI b)), seT0 (pl1 a (mkI b)), seV1 (pl1 a (mkI b)), seT1 (pl1 a (mkI b))] : List Int).getD 1 0 = seT0 (pl1 a (mkI b)) from rfl, bent_t q1 hk]; rfl)
  · exact take2_no (by rw [hF.pb]; rfl) (by rw [hF.bP]; exact four_rng r0 r1 (emod_rng _ _ (by omega)) r3) (by rw [accT1, hF.bP, show ([seV0 (pl1 a (mkI b)), seT0 (pl1 a (mkI b)), seV1 (pl1 a (mkI b)), seT1 (pl1 a (mkI b))] : List Int).getD 2 0 = seV1 (pl1 a (mkI b)) from rfl, bent_v hF.pr hF.db q2 hk, Bool.and_false])
  · exact take2_no (by rw [hF.pb]; rfl) (by rw [hF.bP]; exact four_rng r0 r1 r2 (emod_rng _ _ (by omega))) (by rw [accT1, hF.bP, show ([seV0 (pl1 a (mkI b)), seT0 (pl1 a (mkI b)), seV1 (pl1 a (mkI b)), seT1 (pl1 a (mkI b))] : List Int).getD 3 0 = seT1 (pl1 a (mkI b)) from rfl, bent_t q2 hk, Bool.and_false])
omit hB in
theorem rej3_a {i : Nat} {k : Int} (hi : i < 2) (hk : 1 ≤ k ∧ k ≤ a.P - 1) : (takeM (finA a b) (1, 2, bendI a.P (bodyL (finB a b)) i k)).status = 2 := by
  have hp := hA.n.p1
  have hP : (finB a b).P = a.P := hF.bP
  have r1 := thV_rng (finB a b) (by rw [hP]; omega)
  have r2 := thT_rng (finB a b) (by rw [hP]; omega)
  rw [hP] at r1 r2
  have hb : bodyL (finB a b) = [thV (finB a b), thT (finB a b)] := body2 _ _ _
  rw [hb]
  have o := ok2_a hF
  have : i = 0 ∨ i = 1 := by omega
  rcases this with rfl | rfl
  · exact take3_no (a := a) (n := mkI b) (l := bodyL (pl1 b (mkI a))) (by rw [hF.pa]; rfl) (two_rng (emod_rng _ _ (by omega)) r2) (by rw [accT2]; exact bent_v hF.pr hF.da o hk)
  · exact take3_no (a := a) (n := mkI b) (l := bodyL (pl1 b (mkI a))) (by rw [hF.pa]; rfl) (two_rng r1 (emod_rng _ _ (by omega))) (by rw [accT2]; exact bent_t o hk)
omit hB in
theorem rej3_b {i : Nat} {k : Int} (hi : i < 2) (hk : 1 ≤ k ∧ k ≤ a.P - 1) : (takeM (finB a b) (0, 2, bendI a.P (bodyL (finA a b)) i k)).status = 2 := by
  have hp := hA.n.p1
  have r1 := thV_rng (finA a b) (show 1 ≤ a.P by omega)
  have r2 := thT_rng (finA a b) (show 1 ≤ a.P by omega)
  have hb : bodyL (finA a b) = [thV (finA a b), thT (finA a b)] := body2 _ _ _
  rw [hb]
  have o := ok2_b hF
  have : i = 0 ∨ i = 1 := by omega
  rcases this with rfl | rfl
  · exact take3_no (a := b) (n := mkI a) (l := bodyL (pl1 a (mkI b))) (by rw [hF.pb]; rfl) (by rw [hF.bP]; exact two_rng (emod_rng _ _ (by omega)) r2) (by rw [accT2, hF.bP]; exact bent_v hF.pr hF.db o hk)
  · exact take3_no (a := b) (n := mkI a) (l := bodyL (pl1 a (mkI b))) (by rw [hF.pb]; rfl) (by rw [hF.bP]; exact two_rng r1 (emod_rng _ _ (by omega))) (by rw [accT2, hF.bP]; exact bent_t o hk)
end
end Go.Proofs.YtlmdckcohoddnaaDoor
namespace Go.Proofs.YtlmdckcohoddnaaDoor
open Go.RowKit
theorem chg0 {P at_ j : Int} {i : Nat} {m : MsD} (hi : j = at_ → i < m.2.2.length) (hr : ∀ v ∈ m.2.2, 0 ≤ v ∧ v ≤ P - 1) : chgP P at_ i 0 j m = m := by
  unfold chgP
  split
  · rename_i h
    rw [bend_same (hi h) hr]
  · rfl
section
variable {a b : Pl} {v : Nat → Int} (hF : Fit a b v) (hA : New a) (hB : New b)
include hF hA hB
theorem bent_run {at_ k : Int} {i : Nat} (hat : 0 ≤ at_ ∧ at_ ≤ 5) (hi : i < blen (at_ / 2).toNat) (hk : 0 ≤ k ∧ k ≤ a.P - 1) :
    Con (runP (chgP a.P at_ i k) 3 a b []) (a.input * b.input % a.P) k := by
  have hp := hA.n.p1
  have hma := mkI_rng hA.n
  have hmb := mkI_rng hB.n
  rw [hF.bP] at hmb
  have ra1 := body_rng hA (n := mkI b) hmb
  have rb1 := body_rng hB (n := mkI a) (by rw [hF.bP]; exact hma)
  rw [hF.bP] at rb1
  have hPB : (finB a b).P = a.P := hF.bP
  have ba : bodyL (finA a b) = [thV (finA a b), thT (finA a b)] := body2 _ _ _
  have bb : bodyL (finB a b) = [thV (finB a b), thT (finB a b)] := body2 _ _ _
  have ra2 : ∀ v ∈ bodyL (finA a b), 0 ≤ v ∧ v ≤ a.P - 1 := by rw [ba]; exact two_rng (thV_rng (finA a b) (show 1 ≤ a.P by omega)) (thT_rng (finA a b) (show 1 ≤ a.P by omega))
  have rb2 : ∀ v ∈ bodyL (finB a b), 0 ≤ v ∧ v ≤ a.P - 1 := by
    rw [bb, ← hPB]; exact two_rng (thV_rng (finB a b) (by rw [hPB]; omega)) (thT_rng (finB a b) (by rw [hPB]; omega))
  by_cases h0 : k = 0
  · subst h0
    refine run_ok hF hA hB (chg0 (fun e => ?_) ?_) (chg0 (fun e => ?_) ?_) (chg0 (fun e => ?_) rb1) (chg0 (fun e => ?_) ra1) (chg0 (fun e => ?_) rb2) (chg0 (fun e => ?_) ra2)
    · subst e; exact hi
    · simpa using hmb
    · subst e; exact hi
    · simpa using hma
    · subst e; dsimp only; rw [body1]; exact hi
    · subst e; dsimp only; rw [body1]; exact hi
    · subst e; dsimp only; rw [bb]; exact hi
    · subst e; dsimp only; rw [ba]; exact hi
  · have hk1 : 1 ≤ k ∧ k ≤ a.P - 1 := by omega
    have : at_ = 0 ∨ at_ = 1 ∨ at_ = 2 ∨ at_ = 3 ∨ at_ = 4 ∨ at_ = 5 := by omega
    rcases this with rfl | rfl | rfl | rfl | rfl | rfl
    · obtain rfl : i = 0 := by have : i < 1 := hi; omega
      exact bent1 hF hA hB (n := mkI b) (m := (mkI a + k) % a.P) h0 (chgP_no _ _ _ _ _ _ (by decide)) (chgP_yes _ _ _ _ _ _ _) hmb (emod_rng _ _ (by omega)) (Or.inl (bent_ne hma hk1)) (chgP_no _ _ _ _ _ _ (by decide)) (chgP_no _ _ _ _ _ _ (by decide))
    · obtain rfl : i = 0 := by have : i < 1 := hi; omega
      exact bent1 hF hA hB (n := (mkI b + k) % a.P) (m := mkI a) h0 (chgP_yes _ _ _ _ _ _ _) (chgP_no _ _ _ _ _ _ (by decide)) (emod_rng _ _ (by omega)) hma (Or.inr (bent_ne hmb hk1).symm) (chgP_no _ _ _ _ _ _ (by decide)) (chgP_no _ _ _ _ _ _ (by decide))
    · have hi4 : i < 4 := hi
      have hs := rej2_b hF hA hB hi4 hk1
      have e : (runP (chgP a.P 2 i k) 3 a b []).1.status = 0 ∧ (runP (chgP a.P 2 i k) 3 a b []).2.1.status = 2 := by
        rw [to2 hF hA hB (chgP_no _ _ _ _ _ _ (by decide)) (chgP_no _ _ _ _ _ _ (by decide)), run2 _ _ _ rfl, mes1, mes1, chgP_no _ _ _ _ _ _ (by decide : (3 : Int) ≠ 2), chgP_yes, if_pos (Or.inr hs), two_a hF hB _ _ hma]
        exact ⟨hA.t, hs⟩
      exact ⟨fun h => by rw [e.1] at h; exact absurd h (by decide), fun h => by rw [e.2] at h; exact absurd h (by decide), fun h => absurd h h0, fun _ h => by rw [e.1] at h; exact absurd h.1 (by decide)⟩
    · have hi4 : i < 4 := hi
      have hs := rej2_a hF hA hB hi4 hk1
      have e : (runP (chgP a.P 3 i k) 3 a b []).1.status = 2 ∧ (runP (chgP a.P 3 i k) 3 a b []).2.1.status = 0 := by
        rw [to2 hF hA hB (chgP_no _ _ _ _ _ _ (by decide)) (chgP_no _ _ _ _ _ _ (by decide)), run2 _ _ _ rfl, mes1, mes1, chgP_no _ _ _ _ _ _ (by decide : (2 : Int) ≠ 3), chgP_yes, if_pos (Or.inl hs), two_b hF hA hB]
        exact ⟨hs, hB.t⟩
      exact ⟨fun h => by rw [e.1] at h; exact absurd h (by decide), fun h => by rw [e.2] at h; exact absurd h (by decide), fun h => absurd h h0, fun _ h => by rw [e.1] at h; exact absurd h.1 (by decide)⟩
    · have hi2 : i < 2 := hi
      have hs := rej3_b hF hA hi2 hk1
      obtain ⟨e1, e2⟩ := to3 hF hA hB (chg := chgP a.P 4 i k) (chgP_no _ _ _ _ _ _ (by decide)) (chgP_no _ _ _ _ _ _ (by decide)) (chgP_no _ _ _ _ _ _ (by decide)) (chgP_no _ _ _ _ _ _ (by decide))
      rw [chgP_no _ _ _ _ _ _ (by decide)] at e1
      rw [chgP_yes] at e2
      have f1 := fin_a hF hA
      exact ⟨fun _ => by rw [e1]; exact f1.2, fun h => by rw [e2, hs] at h; exact absurd h (by decide), fun h => absurd h h0, fun _ h => by rw [e2, hs] at h; exact absurd h.2 (by decide)⟩
    · have hi2 : i < 2 := hi
      have hs := rej3_a hF hA hi2 hk1
      obtain ⟨e1, e2⟩ := to3 hF hA hB (chg := chgP a.P 5 i k) (chgP_no _ _ _ _ _ _ (by decide)) (chgP_no _ _ _ _ _ _ (by decide)) (chgP_no _ _ _ _ _ _ (by decide)) (chgP_no _ _ _ _ _ _ (by decide))
      rw [chgP_no _ _ _ _ _ _ (by decide)] at e2
      rw [chgP_yes] at e1
      have f2 := fin_b hF hA
      exact ⟨fun h => by rw [e1, hs] at h; exact absurd h (by decide), fun _ => by rw [e2]; exact f2.2, fun h => absurd h h0, fun _ h => by rw [e1, hs] at h; exact absurd h.1 (by decide)⟩
end
end Go.Proofs.YtlmdckcohoddnaaDoor
