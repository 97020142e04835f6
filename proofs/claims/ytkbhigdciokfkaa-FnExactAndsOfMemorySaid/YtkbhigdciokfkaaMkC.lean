/- What makers make bit by bit. -/
import Derived.Test.YtkbhigdciokfkaaMkL
namespace Go.Proofs.Ytkbhigdciokfkaa
open Go.RowKit
set_option maxHeartbeats 8000000 in
set_option maxRecDepth 100000 in
theorem choose_any (s : Int) (xa : Option Addr) (n xc : Nat) (X : List Int) (ya : Option Addr) (m yc : Nat) (Y : List Int) {oa : Option Addr} {on oc : Nat} (b g : Nat) (i0 i1 : Int) (G : List Int) (F : List Nat) (w : World) (h : Mk 81 w b g i0 i1 G F oa on oc) (hb : b ≤ w.heap.size) (h0 : 0 ≤ i0 ∧ i0 ≤ 1000) (h1 : 0 ≤ i1 ∧ i1 ≤ 1000) (dx : IntD w xa n xc X F) (dy : IntD w ya m yc Y F) (hnm : n ≤ m) (hn : n ≤ 1000) (hl : G.length ≤ 20000) :
    Calls Try.prog 51 #[.pointer (some ⟨g, 0, none⟩), .int .i64 s, .slice xa n xc, .slice ya m yc] w fun e w' => ∃ a1 c1 F', e = .returned (.slice a1 n c1) ∧ Own w' w.heap.size a1 n c1 (chG (i0 + i1) s X Y G n).2 ∧ Disj (foot a1 c1) F' ∧ Mk 81 w' b g i0 i1 (chG (i0 + i1) s X Y G n).1 F' oa on oc ∧ Stp F w F' w' := by
  have hle := dx.ints.le
  go_enter Try.func51, Try.ntmps51
  go_wp2
  go_loopw [9, 15] (fun u v wr => ∃ k F1, k ≤ n ∧ v = .int .i64 (k : Nat) ∧ (∃ a1 c1, u = .slice a1 k c1 ∧ Own wr w.heap.size a1 k c1 (chG (i0 + i1) s X Y G k).2 ∧ Disj (foot a1 c1) F1) ∧ Mk 81 wr b g i0 i1 (chG (i0 + i1) s X Y G k).1 F1 oa on oc ∧ Stp F w F1 wr) (fun _ v _ => n - (intOf v).toNat)
  case atStart => exact ⟨0, F, Nat.zero_le _, rfl, ⟨_, _, rfl, Own.nil0 _ _ _, foot_nil _ _⟩, h.alloc _, (Stp.refl _ _).alloc _⟩
  case round =>
    obtain ⟨k, F1, hk, rfl, ⟨a1, c1, rfl, own, dd⟩, M1, S1⟩ := hrel
    by_cases hlt : k < n
    · have hx : k < n := hlt
      have hy : k < m := by omega
      have hG := (chG_len (i0 + i1) s X Y G k).1
      have HS := Lib.hid (chG_succ (i0 + i1) s X Y G k)
      obtain ⟨gx, ox, hgx, _⟩ := dx.ints.at k hx
      obtain ⟨gy, oy, hgy, _⟩ := dy.ints.at k hy
      subst hgx hgy
      obtain ⟨x, ex⟩ : ∃ x, x = X.getD k 0 := ⟨_, rfl⟩
      obtain ⟨y, ey⟩ : ∃ y, y = Y.getD k 0 := ⟨_, rfl⟩
      rw [← ex, ← ey] at HS
      have Ex := Lib.hid ex
      have Ey := Lib.hid ey
      clear ex ey
      obtain ⟨⟨G1, o1⟩, hr⟩ : ∃ r, r = chG (i0 + i1) s X Y G k := ⟨_, rfl⟩
      rw [← hr] at HS hG M1 own
      clear hr
      have cx := (dx.stp S1).ints.cellsAt k hx
      rw [← Ex.out] at cx
      have cy := (dy.stp S1).ints.cellsAt k hy
      rw [← Ey.out] at cy
      go_wp2
      have Md0 := M1.drew
      go_region_held3 (fun W => W.cell? ⟨gx, ox + k, none⟩ = some (.int .i64 x) ∧ W.cell? ⟨gy, oy + k, none⟩ = some (.int .i64 y))
        (first | go_keep | exact (by have fx := ((dx.stp (S1.drew.trans (sm1.trans sm2))).ints.cellsAt k hx); have fy := ((dy.stp (S1.drew.trans (sm1.trans sm2))).ints.cellsAt k hy); rw [← Ex.out] at fx; rw [← Ey.out] at fy; exact ⟨fx, fy⟩) | exact (by have fx := ((dx.stp (S1.drew.trans sm1)).ints.cellsAt k hx); have fy := ((dy.stp (S1.drew.trans sm1)).ints.cellsAt k hy); rw [← Ex.out] at fx; rw [← Ey.out] at fy; exact ⟨fx, fy⟩))
        (first | (go_at_call 58; refine (xor_any _ _ b g i0 i1 _ F1 _ Md0 (Nat.le_trans hb S1.size) h0 h1 (by (try simp only [gt_len]); omega)).mono ?_; rintro e wm1 ⟨rfl, Fm1, Mm1, sm1⟩) | (go_at_call 57; refine (and_any _ _ b g i0 i1 _ Fm1 _ Mm1 (Nat.le_trans hb (S1.drew.trans sm1).size) h0 h1 (by (try simp only [gt_len]); omega)).mono ?_; rintro e wm2 ⟨rfl, Fm2, Mm2, sm2⟩))
      all_goals have st2 : Stp F1 wr.drew Fm2 wm2 := (sm1.trans sm2)
      all_goals have Sm2 := S1.drew.trans st2
      all_goals obtain ⟨om2, dm2⟩ := (own.below ((Below.refl _ _).drew)).stp dd st2
      all_goals clear own dd
      all_goals clear st2 M1 S1 Md0
      clear cx cy
      have cy := (dy.stp Sm2).ints.cellsAt k hy
      rw [← Ey.out] at cy
      go_wp2_with fail
      refine (xor_any _ _ b g i0 i1 _ Fm2 _ Mm2 (Nat.le_trans hb Sm2.size) h0 h1 (by (try simp only [gt_len]); omega)).mono ?_; rintro e wm3 ⟨rfl, Fm3, Mm3, sm3⟩
      have Sm3 := Sm2.trans sm3
      obtain ⟨om3, dm3⟩ := om2.stp dm2 sm3
      clear Mm2 Sm2 sm3 om2 dm2
      go_wp2_with (at_builtin; refine wpList_appJ _ rfl _ _ rfl w.heap.size a1 k c1 o1 rfl (om3.alloc _) _ 1 1 [_] rfl (Ints.lit1 _ _ _) (by omega) (by have := Sm3.size; simp; omega) ?_)
      intro am4 cm4 wm4 om4 _ gm4 mm4
      have Om4 := Only.of_grown gm4
      have Mm4 := Mk.only (Mk.alloc Mm3 _) Om4 dm3
      have Sm4 := Stp.onto (Stp.alloc Sm3 _) Om4 (fun k hk => (om3.feet k hk).1)
      have dm4 : Disj (foot am4 cm4) Fm3 := mm4.disj dm3 (fun k hk => by have := (Mm3.feet k hk).2; simp; omega)
      clear Mm3 Sm3 om3 dm3 Om4 gm4 mm4
      go_wp2
      go_roundw
      case rel => exact ⟨k + 1, Fm3, by omega, by go_num, ⟨_, _, rfl, by rw [HS.out]; exact om4, dm4⟩, by rw [HS.out]; exact Mm4, Sm4⟩
      case measure => simp [intOf]; omega
    · obtain rfl : k = n := by omega
      go_wp2
      go_ret
      exact ⟨_, _, F1, rfl, own, dd, M1, S1⟩
set_option maxHeartbeats 8000000 in
set_option maxRecDepth 100000 in
theorem gdPick_any (s : Int) (xa : Option Addr) (n xc : Nat) (X : List Int) (ya : Option Addr) (m yc : Nat) (Y : List Int) {oa : Option Addr} {on oc : Nat} (b g : Nat) (i0 i1 : Int) (G : List Int) (F : List Nat) (w : World) (h : Mk 79 w b g i0 i1 G F oa on oc) (hb : b ≤ w.heap.size) (h0 : 0 ≤ i0 ∧ i0 ≤ 1000) (h1 : 0 ≤ i1 ∧ i1 ≤ 1000) (dx : IntD w xa n xc X F) (dy : IntD w ya m yc Y F) (hnm : n ≤ m) (hn : n ≤ 1000) (hl : G.length ≤ 20000) :
    Calls Try.prog 87 #[.pointer (some ⟨g, 0, none⟩), .int .i64 s, .slice xa n xc, .slice ya m yc] w fun e w' => ∃ a1 c1 F', e = .returned (.slice a1 n c1) ∧ Own w' w.heap.size a1 n c1 (chG (i0 + i1) s X Y G n).2 ∧ Disj (foot a1 c1) F' ∧ Mk 79 w' b g i0 i1 (chG (i0 + i1) s X Y G n).1 F' oa on oc ∧ Stp F w F' w' := by
  have hle := dx.ints.le
  go_enter Try.func87, Try.ntmps87
  go_wp2
  go_loopw [9, 16] (fun u v wr => ∃ k F1, k ≤ n ∧ v = .int .i64 (k : Nat) ∧ (∃ a1 c1, u = .slice a1 k c1 ∧ Own wr w.heap.size a1 k c1 (chG (i0 + i1) s X Y G k).2 ∧ Disj (foot a1 c1) F1) ∧ Mk 79 wr b g i0 i1 (chG (i0 + i1) s X Y G k).1 F1 oa on oc ∧ Stp F w F1 wr) (fun _ v _ => n - (intOf v).toNat)
  case atStart => exact ⟨0, F, Nat.zero_le _, rfl, ⟨_, _, rfl, Own.nil0 _ _ _, foot_nil _ _⟩, h, Stp.refl _ _⟩
  case round =>
    obtain ⟨k, F1, hk, rfl, ⟨a1, c1, rfl, own, dd⟩, M1, S1⟩ := hrel
    by_cases hlt : k < n
    · have hx : k < n := hlt
      have hy : k < m := by omega
      have hG := (chG_len (i0 + i1) s X Y G k).1
      have HS := Lib.hid (chG_succ (i0 + i1) s X Y G k)
      obtain ⟨gx, ox, hgx, _⟩ := dx.ints.at k hx
      obtain ⟨gy, oy, hgy, _⟩ := dy.ints.at k hy
      subst hgx hgy
      obtain ⟨x, ex⟩ : ∃ x, x = X.getD k 0 := ⟨_, rfl⟩
      obtain ⟨y, ey⟩ : ∃ y, y = Y.getD k 0 := ⟨_, rfl⟩
      rw [← ex, ← ey] at HS
      have Ex := Lib.hid ex
      have Ey := Lib.hid ey
      clear ex ey
      obtain ⟨⟨G1, o1⟩, hr⟩ : ∃ r, r = chG (i0 + i1) s X Y G k := ⟨_, rfl⟩
      rw [← hr] at HS hG M1 own
      clear hr
      have cx := (dx.stp S1).ints.cellsAt k hx
      rw [← Ex.out] at cx
      have cy := (dy.stp S1).ints.cellsAt k hy
      rw [← Ey.out] at cy
      go_wp2_with fail
      refine (sxor_any _ _ b g i0 i1 _ F1 _ M1 (Nat.le_trans hb S1.size) h0 h1 (by (try simp only [gt_len]); omega)).mono ?_; rintro e wm1 ⟨rfl, Fm1, Mm1, sm1⟩
      have Sm1 := S1.trans sm1
      obtain ⟨om1, dm1⟩ := own.stp dd sm1
      clear M1 S1 sm1 own dd
      clear cx cy
      go_wp2_with fail
      refine (sand_any _ _ b g i0 i1 _ Fm1 _ Mm1 (Nat.le_trans hb Sm1.size) h0 h1 (by (try simp only [gt_len]); omega)).mono ?_; rintro e wm2 ⟨rfl, Fm2, Mm2, sm2⟩
      have Sm2 := Sm1.trans sm2
      obtain ⟨om2, dm2⟩ := om1.stp dm1 sm2
      clear Mm1 Sm1 sm2 om1 dm1
      have cy := (dy.stp Sm2).ints.cellsAt k hy
      rw [← Ey.out] at cy
      go_wp2_with fail
      refine (sxor_any _ _ b g i0 i1 _ Fm2 _ Mm2 (Nat.le_trans hb Sm2.size) h0 h1 (by (try simp only [gt_len]); omega)).mono ?_; rintro e wm3 ⟨rfl, Fm3, Mm3, sm3⟩
      have Sm3 := Sm2.trans sm3
      obtain ⟨om3, dm3⟩ := om2.stp dm2 sm3
      clear Mm2 Sm2 sm3 om2 dm2
      go_wp2_with (at_builtin; refine wpList_appJ _ rfl _ _ rfl w.heap.size a1 k c1 o1 rfl (om3.alloc _) _ 1 1 [_] rfl (Ints.lit1 _ _ _) (by omega) (by have := Sm3.size; simp; omega) ?_)
      intro am4 cm4 wm4 om4 _ gm4 mm4
      have Om4 := Only.of_grown gm4
      have Mm4 := Mk.only (Mk.alloc Mm3 _) Om4 dm3
      have Sm4 := Stp.onto (Stp.alloc Sm3 _) Om4 (fun k hk => (om3.feet k hk).1)
      have dm4 : Disj (foot am4 cm4) Fm3 := mm4.disj dm3 (fun k hk => by have := (Mm3.feet k hk).2; simp; omega)
      clear Mm3 Sm3 om3 dm3 Om4 gm4 mm4
      go_wp2
      go_roundw
      case rel => exact ⟨k + 1, Fm3, by omega, by go_num, ⟨_, _, rfl, by rw [HS.out]; exact om4, dm4⟩, by rw [HS.out]; exact Mm4, Sm4⟩
      case measure => simp [intOf]; omega
    · obtain rfl : k = n := by omega
      go_wp2
      go_ret
      exact ⟨_, _, F1, rfl, own, dd, M1, S1⟩
end Go.Proofs.Ytkbhigdciokfkaa
