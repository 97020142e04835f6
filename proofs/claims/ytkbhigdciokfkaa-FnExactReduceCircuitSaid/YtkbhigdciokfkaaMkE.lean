/- Constants made by makers. -/
import Derived.Test.YtkbhigdciokfkaaMkD
namespace Go.Proofs.Ytkbhigdciokfkaa
open Go.RowKit
set_option maxHeartbeats 8000000 in
set_option maxRecDepth 100000 in
theorem constant_any (x : Int) (n : Nat) (b g : Nat) (i0 i1 : Int) (G : List Int) (F : List Nat) (w : World) (h : Mk 81 w b g i0 i1 G F) (hb : b ≤ w.heap.size) (h0 : 0 ≤ i0 ∧ i0 ≤ 1000) (h1 : 0 ≤ i1 ∧ i1 ≤ 1000) (hx : 0 ≤ x ∧ x ≤ 1000000000) (hn : n ≤ 60) (hl : G.length ≤ 20000) :
    Calls Try.prog 90 #[.pointer (some ⟨g, 0, none⟩), .int .i64 x, .int .i64 n] w fun e w' => ∃ a1 c1 F', e = .returned (.slice a1 n c1) ∧ Own w' w.heap.size a1 n c1 (coL (gW (i0 + i1) (gt G 3 0 0)) x n) ∧ Disj (foot a1 c1) F' ∧ Mk 81 w' b g i0 i1 (gt (gt G 3 0 0) 2 (gW (i0 + i1) G) 0) F' ∧ Stp F w F' w' := by
  have S0 := Stp.refl F w
  go_enter Try.func90, Try.ntmps90
  go_wp2_with fail
  refine (zero_any b g i0 i1 _ F _ h (Nat.le_trans hb S0.size) h0 h1 (by (try simp only [gt_len]); omega)).mono ?_; rintro e wm1 ⟨rfl, Fm1, Mm1, sm1⟩
  have Sm1 := S0.trans sm1
  clear h S0 sm1
  go_wp2_with fail
  refine (bitsOf_any x n _ hx hn).mono ?_; rintro e w2 ⟨ba, bc, rfl, ob, u2⟩
  have M2 := (Mm1.alloc (.cells #[] 3)).below u2
  have S2 := (Sm1.alloc (.cells #[] 3)).below u2
  have hz := gW_le (i0 + i1) G
  have hz' := gW_nn (G := G) (show 0 ≤ i0 + i1 by omega)
  have HZ := Lib.hid (gW_gt (i0 + i1) G 3 0 0)
  clear u2 Mm1 Sm1
  have HZ0 : ∃ z, gW (i0 + i1) G = z := ⟨_, rfl⟩
  obtain ⟨z, hz0⟩ := HZ0
  rw [hz0] at HZ hz hz' M2
  rw [HZ.out]
  try rw [hz0]
  have HZ0 := Lib.hid hz0
  clear hz0
  go_wp2
  have own0 : Own w2 w2.heap.size (some ⟨wm1.heap.size, 0, none⟩) 0 0 (coL (z + 1) x 0) := Own.nil0 _ _ _
  go_loopw [8, 18] (fun u v wr => ∃ k : Nat, k ≤ n ∧ v = .int .i64 k ∧ Below w2.heap.size w2 wr ∧ ∃ a1 c1, u = .slice a1 k c1 ∧ Own wr w2.heap.size a1 k c1 (coL (z + 1) x k)) (fun _ v _ => n - (intOf v).toNat)
  case atStart => exact ⟨0, Nat.zero_le _, rfl, Below.refl _ _, _, _, rfl, own0⟩
  case round =>
    obtain ⟨k, hk, rfl, hbel, a1, c1, rfl, own⟩ := hrel
    by_cases hlt : k < n
    · have HS := Lib.hid (coL_succ (z + 1) x k)
      obtain ⟨gb, oo, rfl, hc⟩ := (ob.ints.below hbel).at k hlt
      have hq : (btL x n).getD k 0 = x / 2 ^ k % 2 := by simp [btL, List.getD, hlt]
      have hr : 0 ≤ x / 2 ^ k % 2 ∧ x / 2 ^ k % 2 ≤ 1 := by omega
      rw [hq] at hc
      clear hq
      generalize x / 2 ^ k % 2 = y at *
      go_wp2_with (at_builtin; refine wpList_appI _ rfl _ _ rfl w2.heap.size a1 k c1 (coL (z + 1) x k) rfl (own.alloc _) _ 1 1 [z + 1 - y] rfl (Ints.lit1 _ _ _) (by omega) (by have := hbel.size; simp; omega) ?_)
      intro a5 c5 w3 o5 u5 _
      have b3 := (hbel.alloc hbel.size (.cells #[.int .i64 (z + 1 - y)] 3)).trans u5
      clear u5 hbel own hc
      go_wp2
      go_roundw
      case rel => exact ⟨k + 1, by omega, by go_num, b3, a5, c5, rfl, by rw [HS.out]; exact o5⟩
      case measure => simp [intOf]; omega
    · obtain rfl : k = n := by omega
      go_wp2
      go_ret
      exact ⟨_, _, Fm1, rfl, by rw [HZ.out]; exact own.lower S2.size, Disj.of_rng own.feet M2.feet (.inr (Nat.le_refl _)), by rw [HZ0.out]; exact M2.below hbel, S2.below hbel⟩
set_option maxHeartbeats 8000000 in
set_option maxRecDepth 100000 in
theorem gdConst_any (x : Int) (n : Nat) (b g : Nat) (i0 i1 : Int) (G : List Int) (F : List Nat) (w : World) (h : Mk 79 w b g i0 i1 G F) (hb : b ≤ w.heap.size) (h0 : 0 ≤ i0 ∧ i0 ≤ 1000) (h1 : 0 ≤ i1 ∧ i1 ≤ 1000) (hx : 0 ≤ x ∧ x ≤ 1000000000) (hn : n ≤ 60) (hl : G.length ≤ 20000) :
    Calls Try.prog 86 #[.pointer (some ⟨g, 0, none⟩), .int .i64 x, .int .i64 n] w fun e w' => ∃ a1 c1 F', e = .returned (.slice a1 n c1) ∧ Own w' w.heap.size a1 n c1 (coL (gW (i0 + i1) (gt G 3 0 0)) x n) ∧ Disj (foot a1 c1) F' ∧ Mk 79 w' b g i0 i1 (gt (gt G 3 0 0) 2 (gW (i0 + i1) G) 0) F' ∧ Stp F w F' w' := by
  have S0 := Stp.refl F w
  go_enter Try.func86, Try.ntmps86
  go_wp2_with fail
  refine (sone_any b g i0 i1 _ F _ h (Nat.le_trans hb S0.size) h0 h1 (by (try simp only [gt_len]); omega)).mono ?_; rintro e wm1 ⟨rfl, Fm1, Mm1, sm1⟩
  have Sm1 := S0.trans sm1
  clear h S0 sm1
  go_wp2_with fail
  refine (snot_any _ b g i0 i1 _ Fm1 _ Mm1 (Nat.le_trans hb Sm1.size) h0 h1 (by (try simp only [gt_len]); omega)).mono ?_; rintro e wm2 ⟨rfl, Fm2, Mm2, sm2⟩
  have Sm2 := Sm1.trans sm2
  clear Mm1 Sm1 sm2
  go_wp2_with fail
  refine (btOf_any x n _ hx hn).mono ?_; rintro e w2 ⟨ba, bc, rfl, ob, u2⟩
  have M2 := Mm2.below u2
  have S2 := Sm2.below u2
  have hz := gW_le (i0 + i1) G
  have hz' := gW_nn (G := G) (show 0 ≤ i0 + i1 by omega)
  have HZ := Lib.hid (gW_gt (i0 + i1) G 3 0 0)
  clear u2 Mm2 Sm2
  have HZ0 : ∃ z, gW (i0 + i1) G = z := ⟨_, rfl⟩
  obtain ⟨z, hz0⟩ := HZ0
  rw [hz0] at HZ hz hz' M2
  rw [HZ.out]
  try rw [hz0]
  have HZ0 := Lib.hid hz0
  clear hz0
  go_wp2
  have own0 : Own w2 w2.heap.size none 0 0 (coL (z + 1) x 0) := Own.nil0 _ _ _
  go_loopw [9, 21] (fun u v wr => ∃ k : Nat, k ≤ n ∧ v = .int .i64 k ∧ Below w2.heap.size w2 wr ∧ ∃ a1 c1, u = .slice a1 k c1 ∧ Own wr w2.heap.size a1 k c1 (coL (z + 1) x k)) (fun _ v _ => n - (intOf v).toNat)
  case atStart => exact ⟨0, Nat.zero_le _, rfl, Below.refl _ _, _, _, rfl, own0⟩
  case round =>
    obtain ⟨k, hk, rfl, hbel, a1, c1, rfl, own⟩ := hrel
    by_cases hlt : k < n
    · have HS := Lib.hid (coL_succ (z + 1) x k)
      obtain ⟨gb, oo, rfl, hc⟩ := (ob.ints.below hbel).at k hlt
      have hq : (btL x n).getD k 0 = x / 2 ^ k % 2 := by simp [btL, List.getD, hlt]
      have hr : 0 ≤ x / 2 ^ k % 2 ∧ x / 2 ^ k % 2 ≤ 1 := by omega
      rw [hq] at hc
      clear hq
      generalize x / 2 ^ k % 2 = y at *
      by_cases h1 : y = 1
      · subst h1
        go_wp2_with (at_builtin; refine wpList_appI _ rfl _ _ rfl w2.heap.size a1 k c1 (coL (z + 1) x k) rfl (own.alloc _) _ 1 1 [z] rfl (Ints.lit1 _ _ _) (by omega) (by have := hbel.size; simp; omega) ?_)
        intro a5 c5 w3 o5 u5 _
        have b3 := (hbel.alloc hbel.size (.cells #[.int .i64 (z)] 3)).trans u5
        clear u5 hbel own hc
        go_wp2
        go_roundw
        case rel => exact ⟨k + 1, by omega, by go_num, b3, a5, c5, rfl, by
          rw [HS.out]
          have e : z + 1 - 1 = z := by omega
          rw [e]; exact o5⟩
        case measure => simp [intOf]; omega
      · have h1' : (y == 1) = false := by simp [h1]
        go_wp2_with (at_builtin; refine wpList_appI _ rfl _ _ rfl w2.heap.size a1 k c1 (coL (z + 1) x k) rfl (own.alloc _) _ 1 1 [z + 1] rfl (Ints.lit1 _ _ _) (by omega) (by have := hbel.size; simp; omega) ?_)
        intro a5 c5 w3 o5 u5 _
        have b3 := (hbel.alloc hbel.size (.cells #[.int .i64 (z + 1)] 3)).trans u5
        clear u5 hbel own hc
        go_wp2
        go_roundw
        case rel => exact ⟨k + 1, by omega, by go_num, b3, a5, c5, rfl, by
          rw [HS.out]
          have e : y = 0 := by omega
          rw [e, Int.sub_zero]; exact o5⟩
        case measure => simp [intOf]; omega
    · obtain rfl : k = n := by omega
      go_wp2
      go_ret
      exact ⟨_, _, Fm2, rfl, by rw [HZ.out]; exact own.lower S2.size, Disj.of_rng own.feet M2.feet (.inr (Nat.le_refl _)), by rw [HZ0.out]; exact M2.below hbel, S2.below hbel⟩
end Go.Proofs.Ytkbhigdciokfkaa
