/- Lemmas and walks that the claim's proof rests on, part 8. -/
import Derived.Deep.QuietTactic
import Derived.BigQuiet
import Derived.Deep.DeepCutAuto
import Derived.Test.YtchmakepglaijaaGreatK2
import Derived.Test.YtchmakepglaijaaGreatK4
import Derived.Test.YtchmakepglaijaaGreatK6
import Derived.Test.YtchmakepglaijaaGreatK7
namespace Go.Proofs.YtchmakepglaijaaGreat
open Go.RowKit
end Go.Proofs.YtchmakepglaijaaGreat
namespace Go.Proofs.YtchmakepglaijaaGreat
open Go.RowKit
def InN (w : World) (B : Nat) (a : Option Addr) (n c : Nat) (l : List Int) : Prop := Ints w a n c l ∧ ∀ x, a = some x → B ≤ x.block
theorem InN.below {w w' : World} {B n c : Nat} {a : Option Addr} {l : List Int} (h : InN w B a n c l) (u : Below w.heap.size w w') : InN w' B a n c l := ⟨h.1.below u, h.2⟩
theorem InN.lower {w : World} {B B' n c : Nat} {a : Option Addr} {l : List Int} (h : InN w B a n c l) (hB : B' ≤ B) : InN w B' a n c l := ⟨h.1, fun x hx => Nat.le_trans hB (h.2 x hx)⟩
theorem InN.only {w w' : World} {B n c : Nat} {a : Option Addr} {l : List Int} {X : List Nat} (h : InN w B a n c l) (ho : Only X w w') (hX : ∀ q ∈ X, q < B) : InN w' B a n c l := by
  refine ⟨?_, h.2⟩
  obtain ⟨⟨h1, h2, h3, h4, g, o, h5, h6⟩, h7⟩ := h
  refine ⟨h1, h2, h3, h4, g, o, h5, fun i hi => ?_⟩
  have hc := h6 i hi
  have hg := h7 _ (h5 (by omega))
  unfold World.cell? at hc ⊢
  rw [ho.block g (World.block_lt_of_cell? w ⟨g, o + i, none⟩ (by unfold World.cell?; exact hc)) (fun hm => by have := hX g hm; simp at hg; omega)]
  exact hc
end Go.Proofs.YtchmakepglaijaaGreat
namespace Go.Proofs.YtchmakepglaijaaGreat
open Go.RowKit
end Go.Proofs.YtchmakepglaijaaGreat
namespace Go.Proofs.YtchmakepglaijaaGreat
open Go.RowKit
end Go.Proofs.YtchmakepglaijaaGreat
namespace Go.Proofs.YtchmakepglaijaaGreat
open Go.RowKit
end Go.Proofs.YtchmakepglaijaaGreat
namespace Go.Proofs.YtchmakepglaijaaGreat
open Go.RowKit
end Go.Proofs.YtchmakepglaijaaGreat
namespace Go.Proofs.YtchmakepglaijaaGreat
open Go.RowKit
end Go.Proofs.YtchmakepglaijaaGreat
namespace Go.Proofs.YtchmakepglaijaaGreat
open Go.RowKit
set_option maxHeartbeats 8000000 in
set_option maxRecDepth 100000 in
theorem choose_any (s : Int) (xa : Option Addr) (n xc : Nat) (X : List Int) (ya : Option Addr) (m yc : Nat) (Y : List Int) {oa : Option Addr} {on oc : Nat} (b g : Nat) (i0 i1 : Int) (G : List Int) (F : List Nat) (w : World) (h : Mk 94 w b g i0 i1 G F oa on oc) (hb : b ≤ w.heap.size) (h0 : 0 ≤ i0 ∧ i0 ≤ 1000) (h1 : 0 ≤ i1 ∧ i1 ≤ 1000) (dx : IntD w xa n xc X F) (dy : IntD w ya m yc Y F) (hnm : n ≤ m) (hn : n ≤ 1000) (hl : G.length ≤ 20000) :
    Calls Tryz.prog 93 #[.pointer (some ⟨g, 0, none⟩), .int .i64 s, .slice xa n xc, .slice ya m yc] w fun e w' => ∃ a1 c1 F', e = .returned (.slice a1 n c1) ∧ Own w' w.heap.size a1 n c1 (chG (i0 + i1) s X Y G n).2 ∧ Disj (foot a1 c1) F' ∧ Mk 94 w' b g i0 i1 (chG (i0 + i1) s X Y G n).1 F' oa on oc ∧ Stp F w F' w' := by
  have hle := dx.ints.le
  go_enter Tryz.func93, Tryz.ntmps93
  go_wp2
  go_loopw [9, 15] (fun u v wr => ∃ k F1, k ≤ n ∧ v = .int .i64 (k : Nat) ∧ (∃ a1 c1, u = .slice a1 k c1 ∧ Own wr w.heap.size a1 k c1 (chG (i0 + i1) s X Y G k).2 ∧ Disj (foot a1 c1) F1) ∧ Mk 94 wr b g i0 i1 (chG (i0 + i1) s X Y G k).1 F1 oa on oc ∧ Stp F w F1 wr) (fun _ v _ => n - (intOf v).toNat)
  case atStart => exact ⟨0, F, Nat.zero_le _, rfl, ⟨_, _, rfl, Own.nil0 _ _ _, foot_nil _ _⟩, h.alloc _, (Stp.refl _ _).alloc _⟩
  case round =>
    obtain ⟨k, F1, hk, rfl, ⟨a1, c1, rfl, own, dd⟩, M1, S1⟩ := hrel
    by_cases hlt : k < n
    · have hx : k < n := hlt
      have hy : k < m := by omega
      have hG := (chG_len (i0 + i1) s X Y G k).1
      have HS := Lib.hid (chG_succ (i0 + i1) s X Y G k)
      obtain ⟨gx, ox, hgx, _⟩ := dx.ints.at k hx
      obtain ⟨gy, oy, hgy, _⟩ := dy.ints.at k hy
      subst hgx hgy
      obtain ⟨x, ex⟩ : ∃ x, x = X.getD k 0 := ⟨_, rfl⟩
      obtain ⟨y, ey⟩ : ∃ y, y = Y.getD k 0 := ⟨_, rfl⟩
      rw [← ex, ← ey] at HS
      have Ex := Lib.hid ex
      have Ey := Lib.hid ey
      clear ex ey
      obtain ⟨⟨G1, o1⟩, hr⟩ : ∃ r, r = chG (i0 + i1) s X Y G k := ⟨_, rfl⟩
      rw [← hr] at HS hG M1 own
      clear hr
      have cx := (dx.stp S1).ints.cellsAt k hx
      rw [← Ex.out] at cx
      have cy := (dy.stp S1).ints.cellsAt k hy
      rw [← Ey.out] at cy
      go_wp2
      have Md0 := M1.drew
      go_region_held3 (fun W => W.cell? ⟨gx, ox + k, none⟩ = some (.int .i64 x) ∧ W.cell? ⟨gy, oy + k, none⟩ = some (.int .i64 y))
        (first | go_keep | exact (by have fx := ((dx.stp (S1.drew.trans (sm1.trans sm2))).ints.cellsAt k hx); have fy := ((dy.stp (S1.drew.trans (sm1.trans sm2))).ints.cellsAt k hy); rw [← Ex.out] at fx; rw [← Ey.out] at fy; exact ⟨fx, fy⟩) | exact (by have fx := ((dx.stp (S1.drew.trans sm1)).ints.cellsAt k hx); have fy := ((dy.stp (S1.drew.trans sm1)).ints.cellsAt k hy); rw [← Ex.out] at fx; rw [← Ey.out] at fy; exact ⟨fx, fy⟩))
        (first | (go_at_call 127; refine (xor_any _ _ b g i0 i1 _ F1 _ Md0 (Nat.le_trans hb S1.size) h0 h1 (by (try simp only [gt_len]); omega)).mono ?_; rintro e wm1 ⟨rfl, Fm1, Mm1, sm1⟩) | (go_at_call 128; refine (and_any _ _ b g i0 i1 _ Fm1 _ Mm1 (Nat.le_trans hb (S1.drew.trans sm1).size) h0 h1 (by (try simp only [gt_len]); omega)).mono ?_; rintro e wm2 ⟨rfl, Fm2, Mm2, sm2⟩))
      all_goals have st2 : Stp F1 wr.drew Fm2 wm2 := (sm1.trans sm2)
      all_goals have Sm2 := S1.drew.trans st2
      all_goals obtain ⟨om2, dm2⟩ := (own.below ((Below.refl _ _).drew)).stp dd st2
      all_goals clear own dd
      all_goals clear st2 M1 S1 Md0
      clear cx cy
      have cy := (dy.stp Sm2).ints.cellsAt k hy
      rw [← Ey.out] at cy
      go_wp2_with fail
      refine (xor_any _ _ b g i0 i1 _ Fm2 _ Mm2 (Nat.le_trans hb Sm2.size) h0 h1 (by (try simp only [gt_len]); omega)).mono ?_; rintro e wm3 ⟨rfl, Fm3, Mm3, sm3⟩
      have Sm3 := Sm2.trans sm3
      obtain ⟨om3, dm3⟩ := om2.stp dm2 sm3
      clear Mm2 Sm2 sm3 om2 dm2
      go_wp2_with (at_builtin; refine wpList_appJ _ rfl _ _ rfl w.heap.size a1 k c1 o1 rfl (om3.alloc _) _ 1 1 [_] rfl (Ints.lit1 _ _ _) (by omega) (by have := Sm3.size; simp; omega) ?_)
      intro am4 cm4 wm4 om4 _ gm4 mm4
      have Om4 := Only.of_grown gm4
      have Mm4 := Mk.only (Mk.alloc Mm3 _) Om4 dm3
      have Sm4 := Stp.onto (Stp.alloc Sm3 _) Om4 (fun k hk => (om3.feet k hk).1)
      have dm4 : Disj (foot am4 cm4) Fm3 := mm4.disj dm3 (fun k hk => by have := (Mm3.feet k hk).2; simp; omega)
      clear Mm3 Sm3 om3 dm3 Om4 gm4 mm4
      go_wp2
      go_roundw
      case rel => exact ⟨k + 1, Fm3, by omega, by go_num, ⟨_, _, rfl, by rw [HS.out]; exact om4, dm4⟩, by rw [HS.out]; exact Mm4, Sm4⟩
      case measure => simp [intOf]; omega
    · obtain rfl : k = n := by omega
      go_wp2
      go_ret
      exact ⟨_, _, F1, rfl, own, dd, M1, S1⟩
set_option maxHeartbeats 8000000 in
set_option maxRecDepth 100000 in
theorem gdPick_any (s : Int) (xa : Option Addr) (n xc : Nat) (X : List Int) (ya : Option Addr) (m yc : Nat) (Y : List Int) {oa : Option Addr} {on oc : Nat} (b g : Nat) (i0 i1 : Int) (G : List Int) (F : List Nat) (w : World) (h : Mk 110 w b g i0 i1 G F oa on oc) (hb : b ≤ w.heap.size) (h0 : 0 ≤ i0 ∧ i0 ≤ 1000) (h1 : 0 ≤ i1 ∧ i1 ≤ 1000) (dx : IntD w xa n xc X F) (dy : IntD w ya m yc Y F) (hnm : n ≤ m) (hn : n ≤ 1000) (hl : G.length ≤ 20000) :
    Calls Tryz.prog 104 #[.pointer (some ⟨g, 0, none⟩), .int .i64 s, .slice xa n xc, .slice ya m yc] w fun e w' => ∃ a1 c1 F', e = .returned (.slice a1 n c1) ∧ Own w' w.heap.size a1 n c1 (chG (i0 + i1) s X Y G n).2 ∧ Disj (foot a1 c1) F' ∧ Mk 110 w' b g i0 i1 (chG (i0 + i1) s X Y G n).1 F' oa on oc ∧ Stp F w F' w' := by
  have hle := dx.ints.le
  go_enter Tryz.func104, Tryz.ntmps104
  go_wp2
  go_loopw [9, 16] (fun u v wr => ∃ k F1, k ≤ n ∧ v = .int .i64 (k : Nat) ∧ (∃ a1 c1, u = .slice a1 k c1 ∧ Own wr w.heap.size a1 k c1 (chG (i0 + i1) s X Y G k).2 ∧ Disj (foot a1 c1) F1) ∧ Mk 110 wr b g i0 i1 (chG (i0 + i1) s X Y G k).1 F1 oa on oc ∧ Stp F w F1 wr) (fun _ v _ => n - (intOf v).toNat)
  case atStart => exact ⟨0, F, Nat.zero_le _, rfl, ⟨_, _, rfl, Own.nil0 _ _ _, foot_nil _ _⟩, h, Stp.refl _ _⟩
  case round =>
    obtain ⟨k, F1, hk, rfl, ⟨a1, c1, rfl, own, dd⟩, M1, S1⟩ := hrel
    by_cases hlt : k < n
    · have hx : k < n := hlt
      have hy : k < m := by omega
      have hG := (chG_len (i0 + i1) s X Y G k).1
      have HS := Lib.hid (chG_succ (i0 + i1) s X Y G k)
      obtain ⟨gx, ox, hgx, _⟩ := dx.ints.at k hx
      obtain ⟨gy, oy, hgy, _⟩ := dy.ints.at k hy
      subst hgx hgy
      obtain ⟨x, ex⟩ : ∃ x, x = X.getD k 0 := ⟨_, rfl⟩
      obtain ⟨y, ey⟩ : ∃ y, y = Y.getD k 0 := ⟨_, rfl⟩
      rw [← ex, ← ey] at HS
      have Ex := Lib.hid ex
      have Ey := Lib.hid ey
      clear ex ey
      obtain ⟨⟨G1, o1⟩, hr⟩ : ∃ r, r = chG (i0 + i1) s X Y G k := ⟨_, rfl⟩
      rw [← hr] at HS hG M1 own
      clear hr
      have cx := (dx.stp S1).ints.cellsAt k hx
      rw [← Ex.out] at cx
      have cy := (dy.stp S1).ints.cellsAt k hy
      rw [← Ey.out] at cy
      go_wp2_with fail
      refine (sxor_any _ _ b g i0 i1 _ F1 _ M1 (Nat.le_trans hb S1.size) h0 h1 (by (try simp only [gt_len]); omega)).mono ?_; rintro e wm1 ⟨rfl, Fm1, Mm1, sm1⟩
      have Sm1 := S1.trans sm1
      obtain ⟨om1, dm1⟩ := own.stp dd sm1
      clear M1 S1 sm1 own dd
      clear cx cy
      go_wp2_with fail
      refine (sand_any _ _ b g i0 i1 _ Fm1 _ Mm1 (Nat.le_trans hb Sm1.size) h0 h1 (by (try simp only [gt_len]); omega)).mono ?_; rintro e wm2 ⟨rfl, Fm2, Mm2, sm2⟩
      have Sm2 := Sm1.trans sm2
      obtain ⟨om2, dm2⟩ := om1.stp dm1 sm2
      clear Mm1 Sm1 sm2 om1 dm1
      have cy := (dy.stp Sm2).ints.cellsAt k hy
      rw [← Ey.out] at cy
      go_wp2_with fail
      refine (sxor_any _ _ b g i0 i1 _ Fm2 _ Mm2 (Nat.le_trans hb Sm2.size) h0 h1 (by (try simp only [gt_len]); omega)).mono ?_; rintro e wm3 ⟨rfl, Fm3, Mm3, sm3⟩
      have Sm3 := Sm2.trans sm3
      obtain ⟨om3, dm3⟩ := om2.stp dm2 sm3
      clear Mm2 Sm2 sm3 om2 dm2
      go_wp2_with (at_builtin; refine wpList_appJ _ rfl _ _ rfl w.heap.size a1 k c1 o1 rfl (om3.alloc _) _ 1 1 [_] rfl (Ints.lit1 _ _ _) (by omega) (by have := Sm3.size; simp; omega) ?_)
      intro am4 cm4 wm4 om4 _ gm4 mm4
      have Om4 := Only.of_grown gm4
      have Mm4 := Mk.only (Mk.alloc Mm3 _) Om4 dm3
      have Sm4 := Stp.onto (Stp.alloc Sm3 _) Om4 (fun k hk => (om3.feet k hk).1)
      have dm4 : Disj (foot am4 cm4) Fm3 := mm4.disj dm3 (fun k hk => by have := (Mm3.feet k hk).2; simp; omega)
      clear Mm3 Sm3 om3 dm3 Om4 gm4 mm4
      go_wp2
      go_roundw
      case rel => exact ⟨k + 1, Fm3, by omega, by go_num, ⟨_, _, rfl, by rw [HS.out]; exact om4, dm4⟩, by rw [HS.out]; exact Mm4, Sm4⟩
      case measure => simp [intOf]; omega
    · obtain rfl : k = n := by omega
      go_wp2
      go_ret
      exact ⟨_, _, F1, rfl, own, dd, M1, S1⟩
end Go.Proofs.YtchmakepglaijaaGreat
namespace Go.Proofs.YtchmakepglaijaaGreat
open Go.RowKit
set_option maxHeartbeats 8000000 in
set_option maxRecDepth 100000 in
theorem add_any (xa : Option Addr) (n xc : Nat) (X : List Int) (ya : Option Addr) (m yc : Nat) (Y : List Int) {oa : Option Addr} {on oc : Nat} (b g : Nat) (i0 i1 : Int) (G : List Int) (F : List Nat) (w : World) (h : Mk 94 w b g i0 i1 G F oa on oc) (hb : b ≤ w.heap.size) (h0 : 0 ≤ i0 ∧ i0 ≤ 1000) (h1 : 0 ≤ i1 ∧ i1 ≤ 1000) (dx : IntD w xa n xc X F) (dy : IntD w ya m yc Y F) (hnm : n ≤ m) (hn : n ≤ 500) (hl : G.length ≤ 20000) :
    Calls Tryz.prog 89 #[.pointer (some ⟨g, 0, none⟩), .slice xa n xc, .slice ya m yc] w fun e w' => ∃ a1 c1 F', e = .returned (.tuple #[.slice a1 n c1, .int .i64 (adG (i0 + i1) X Y G n).2.2]) ∧ Own w' w.heap.size a1 n c1 (adG (i0 + i1) X Y G n).2.1 ∧ Disj (foot a1 c1) F' ∧ Mk 94 w' b g i0 i1 (adG (i0 + i1) X Y G n).1 F' oa on oc ∧ Stp F w F' w' := by
  have hle := dx.ints.le
  go_enter Tryz.func89, Tryz.ntmps89
  go_wp2
  go_loopw [8, 9, 16] (fun u z v wr => ∃ k F1, k ≤ n ∧ v = .int .i64 (k : Nat) ∧ (∃ a1 c1, u = .slice a1 k c1 ∧ Own wr w.heap.size a1 k c1 (adG (i0 + i1) X Y G k).2.1 ∧ Disj (foot a1 c1) F1) ∧ Mk 94 wr b g i0 i1 (adG (i0 + i1) X Y G k).1 F1 oa on oc ∧ Stp F w F1 wr ∧ z = .int .i64 (adG (i0 + i1) X Y G k).2.2) (fun _ _ v _ => n - (intOf v).toNat)
  case atStart => exact ⟨0, F, Nat.zero_le _, rfl, ⟨_, _, rfl, Own.nil0 _ _ _, foot_nil _ _⟩, h.alloc _, (Stp.refl _ _).alloc _, rfl⟩
  case round =>
    obtain ⟨k, F1, hk, rfl, ⟨a1, c1, rfl, own, dd⟩, M1, S1, rfl⟩ := hrel
    by_cases hlt : k < n
    · have hx : k < n := hlt
      have hy : k < m := by omega
      have hG := (adG_len (i0 + i1) X Y G k).1
      have HS0 := adG_succ (i0 + i1) X Y G k
      obtain ⟨gx, ox, hgx, _⟩ := dx.ints.at k hx
      obtain ⟨gy, oy, hgy, _⟩ := dy.ints.at k hy
      subst hgx hgy
      obtain ⟨x, ex⟩ : ∃ x, x = X.getD k 0 := ⟨_, rfl⟩
      obtain ⟨y, ey⟩ : ∃ y, y = Y.getD k 0 := ⟨_, rfl⟩
      rw [← ex, ← ey] at HS0
      have Ex := Lib.hid ex
      have Ey := Lib.hid ey
      clear ex ey
      have hnn := adG_nn (show 0 ≤ i0 + i1 by omega) X Y G k
      have hz0 : k = 0 → (adG (i0 + i1) X Y G k).2.2 = -1 := fun e => by rw [e]; rfl
      obtain ⟨⟨G1, o1, cr⟩, hr⟩ : ∃ r, r = (adG (i0 + i1) X Y G k) := ⟨_, rfl⟩
      rw [← hr] at HS0 hG M1 own hnn hz0
      rw [← hr]
      clear hr
      simp only at hG hnn hz0
      by_cases hk0 : k = 0
      · have hb0 : (((k : Nat) : Int) == 0) = true := by simp [hk0]
        rw [show (k == 0) = true by simp [hk0]] at HS0
        simp only [adS, if_true] at HS0
        have HS := Lib.hid HS0
        clear HS0 hnn hz0 hk0
        have cx := (dx.stp S1).ints.cellsAt k hx
        rw [← Ex.out] at cx
        have cy := (dy.stp S1).ints.cellsAt k hy
        rw [← Ey.out] at cy
        go_wp2
        have Md0 := M1.drew
        go_region_held3 (fun W => W.cell? ⟨gx, ox + k, none⟩ = some (.int .i64 x) ∧ W.cell? ⟨gy, oy + k, none⟩ = some (.int .i64 y))
          (first | go_keep | exact (by have fx := ((dx.stp (Stp.onto (Stp.alloc (S1.drew.trans sm1) _) (Only.of_grown gm2) (fun k hk => (om1.feet k hk).1))).ints.cellsAt k hx); have fy := ((dy.stp (Stp.onto (Stp.alloc (S1.drew.trans sm1) _) (Only.of_grown gm2) (fun k hk => (om1.feet k hk).1))).ints.cellsAt k hy); rw [← Ex.out] at fx; rw [← Ey.out] at fy; exact ⟨fx, fy⟩) | exact (by have fx := ((dx.stp (S1.drew.trans sm1)).ints.cellsAt k hx); have fy := ((dy.stp (S1.drew.trans sm1)).ints.cellsAt k hy); rw [← Ex.out] at fx; rw [← Ey.out] at fy; exact ⟨fx, fy⟩))
          (first | (go_at_call 127; refine (xor_any _ _ b g i0 i1 _ F1 _ Md0 (Nat.le_trans hb S1.size) h0 h1 (by (try simp only [gt_len]); omega)).mono ?_; rintro e wm1 ⟨rfl, Fm1, Mm1, sm1⟩; obtain ⟨om1, dm1⟩ := (own.below ((Below.refl _ _).drew)).stp dd sm1) | (refine step_appJ _ (by rfl) _ _ (by rfl) w.heap.size a1 k c1 o1 (by rfl) (om1.alloc _) _ 1 1 [_] (by rfl) (Ints.lit1 _ _ _) (by omega) (by have := (S1.drew.trans sm1).size; simp; omega) ?_; intro am2 cm2 wm2 om2 _ gm2 _ mm2))
        all_goals have Om2 := Only.of_grown gm2
        all_goals have Mm2 := Mk.only (Mk.alloc Mm1 _) Om2 dm1
        all_goals have Sm2 := (Stp.onto (Stp.alloc (S1.drew.trans sm1) _) (Only.of_grown gm2) (fun k hk => (om1.feet k hk).1))
        all_goals have dm2 : Disj (foot am2 cm2) Fm1 := mm2.disj dm1 (fun k hk => by have := (Mm1.feet k hk).2; simp; omega)
        all_goals clear M1 S1 own dd Md0 Mm1 om1 dm1 sm1 Om2 gm2 mm2
        all_goals clear cx cy
        go_wp2
        have cx := (dx.stp Sm2).ints.cellsAt k hx
        rw [← Ex.out] at cx
        have cy := (dy.stp Sm2).ints.cellsAt k hy
        rw [← Ey.out] at cy
        have Md0 := Mm2.drew
        go_region_held3 (fun W => W.cell? ⟨gx, ox + k, none⟩ = some (.int .i64 x) ∧ W.cell? ⟨gy, oy + k, none⟩ = some (.int .i64 y))
          (first | go_keep | exact (by have fx := ((dx.stp (Sm2.drew.trans sm3)).ints.cellsAt k hx); have fy := ((dy.stp (Sm2.drew.trans sm3)).ints.cellsAt k hy); rw [← Ex.out] at fx; rw [← Ey.out] at fy; exact ⟨fx, fy⟩))
          (first | (go_at_call 128; refine (and_any _ _ b g i0 i1 _ Fm1 _ Md0 (Nat.le_trans hb Sm2.size) h0 h1 (by (try simp only [gt_len]); omega)).mono ?_; rintro e wm3 ⟨rfl, Fm3, Mm3, sm3⟩))
        all_goals have st3 : Stp Fm1 wm2.drew Fm3 wm3 := sm3
        all_goals have Sm3 := Sm2.drew.trans st3
        all_goals obtain ⟨om3, dm3⟩ := (om2.below ((Below.refl _ _).drew)).stp dm2 st3
        all_goals clear om2 dm2
        all_goals clear st3 Mm2 Sm2 Md0
        all_goals clear cx cy
        go_wp2
        go_roundw
        case rel => exact ⟨k + 1, Fm3, by omega, by go_num, ⟨_, _, rfl, by rw [HS.out]; exact om3, dm3⟩, by rw [HS.out]; exact Mm3, Sm3, by rw [HS.out]⟩
        case measure => simp [intOf]; omega
      · have hb0 : (((k : Nat) : Int) == 0) = false := by simp [hk0]
        rw [show (k == 0) = false by simp [hk0]] at HS0
        simp only [adS, Bool.false_eq_true, if_false] at HS0
        have HS := Lib.hid HS0
        clear HS0 hnn hz0 hk0
        have cx := (dx.stp S1).ints.cellsAt k hx
        rw [← Ex.out] at cx
        go_wp2_with fail
        clear cx
        refine (xor_any _ _ b g i0 i1 _ F1 _ M1 (Nat.le_trans hb S1.size) h0 h1 (by (try simp only [gt_len]); omega)).mono ?_; rintro e wm1 ⟨rfl, Fm1, Mm1, sm1⟩
        have Sm1 := S1.trans sm1
        obtain ⟨om1, dm1⟩ := own.stp dd sm1
        clear M1 S1 sm1 own dd
        have cy := (dy.stp Sm1).ints.cellsAt k hy
        rw [← Ey.out] at cy
        go_wp2_with fail
        clear cy
        refine (xor_any _ _ b g i0 i1 _ Fm1 _ Mm1 (Nat.le_trans hb Sm1.size) h0 h1 (by (try simp only [gt_len]); omega)).mono ?_; rintro e wm2 ⟨rfl, Fm2, Mm2, sm2⟩
        have Sm2 := Sm1.trans sm2
        obtain ⟨om2, dm2⟩ := om1.stp dm1 sm2
        clear Mm1 Sm1 sm2 om1 dm1
        have cy := (dy.stp Sm2).ints.cellsAt k hy
        rw [← Ey.out] at cy
        go_wp2_with fail
        clear cy
        refine (xor_any _ _ b g i0 i1 _ Fm2 _ Mm2 (Nat.le_trans hb Sm2.size) h0 h1 (by (try simp only [gt_len]); omega)).mono ?_; rintro e wm3 ⟨rfl, Fm3, Mm3, sm3⟩
        have Sm3 := Sm2.trans sm3
        obtain ⟨om3, dm3⟩ := om2.stp dm2 sm3
        clear Mm2 Sm2 sm3 om2 dm2
        go_wp2_with (at_builtin; refine wpList_appJ _ rfl _ _ rfl w.heap.size a1 k c1 o1 rfl (om3.alloc _) _ 1 1 [_] rfl (Ints.lit1 _ _ _) (by omega) (by have := Sm3.size; simp; omega) ?_)
        intro am4 cm4 wm4 om4 _ gm4 mm4
        have Om4 := Only.of_grown gm4
        have Mm4 := Mk.only (Mk.alloc Mm3 _) Om4 dm3
        have Sm4 := Stp.onto (Stp.alloc Sm3 _) Om4 (fun k hk => (om3.feet k hk).1)
        have dm4 : Disj (foot am4 cm4) Fm3 := mm4.disj dm3 (fun k hk => by have := (Mm3.feet k hk).2; simp; omega)
        clear Mm3 Sm3 om3 dm3 Om4 gm4 mm4
        go_wp2_with fail
        refine (and_any _ _ b g i0 i1 _ Fm3 _ Mm4 (Nat.le_trans hb Sm4.size) h0 h1 (by (try simp only [gt_len]); omega)).mono ?_; rintro e wm5 ⟨rfl, Fm5, Mm5, sm5⟩
        have Sm5 := Sm4.trans sm5
        obtain ⟨om5, dm5⟩ := om4.stp dm4 sm5
        clear Mm4 Sm4 sm5 om4 dm4
        go_wp2_with fail
        refine (xor_any _ _ b g i0 i1 _ Fm5 _ Mm5 (Nat.le_trans hb Sm5.size) h0 h1 (by (try simp only [gt_len]); omega)).mono ?_; rintro e wm6 ⟨rfl, Fm6, Mm6, sm6⟩
        have Sm6 := Sm5.trans sm6
        obtain ⟨om6, dm6⟩ := om5.stp dm5 sm6
        clear Mm5 Sm5 sm6 om5 dm5
        go_wp2
        go_roundw
        case rel => exact ⟨k + 1, Fm6, by omega, by go_num, ⟨_, _, rfl, by rw [HS.out]; exact om6, dm6⟩, by rw [HS.out]; exact Mm6, Sm6, by rw [HS.out]⟩
        case measure => simp [intOf]; omega
    · obtain rfl : k = n := by omega
      go_wp2
      go_ret2
      exact ⟨_, _, F1, rfl, own, dd, M1, S1⟩
set_option maxHeartbeats 8000000 in
set_option maxRecDepth 100000 in
theorem gdAdd_any (xa : Option Addr) (n xc : Nat) (X : List Int) (ya : Option Addr) (m yc : Nat) (Y : List Int) {oa : Option Addr} {on oc : Nat} (b g : Nat) (i0 i1 : Int) (G : List Int) (F : List Nat) (w : World) (h : Mk 110 w b g i0 i1 G F oa on oc) (hb : b ≤ w.heap.size) (h0 : 0 ≤ i0 ∧ i0 ≤ 1000) (h1 : 0 ≤ i1 ∧ i1 ≤ 1000) (dx : IntD w xa n xc X F) (dy : IntD w ya m yc Y F) (hnm : n ≤ m) (hn : n ≤ 500) (hl : G.length ≤ 20000) :
    Calls Tryz.prog 100 #[.pointer (some ⟨g, 0, none⟩), .slice xa n xc, .slice ya m yc] w fun e w' => ∃ a1 c1 F', e = .returned (.slice a1 (n + 1) c1) ∧ Own w' w.heap.size a1 (n + 1) c1 ((adG (i0 + i1) X Y G n).2.1 ++ [(adG (i0 + i1) X Y G n).2.2]) ∧ Disj (foot a1 c1) F' ∧ Mk 110 w' b g i0 i1 (adG (i0 + i1) X Y G n).1 F' oa on oc ∧ Stp F w F' w' := by
  have hle := dx.ints.le
  go_enter Tryz.func100, Tryz.ntmps100
  go_wp2
  go_loopw [7, 8, 17] (fun u z v wr => ∃ k F1, k ≤ n ∧ v = .int .i64 (k : Nat) ∧ (∃ a1 c1, u = .slice a1 k c1 ∧ Own wr w.heap.size a1 k c1 (adG (i0 + i1) X Y G k).2.1 ∧ Disj (foot a1 c1) F1) ∧ Mk 110 wr b g i0 i1 (adG (i0 + i1) X Y G k).1 F1 oa on oc ∧ Stp F w F1 wr ∧ z = .int .i64 (adG (i0 + i1) X Y G k).2.2) (fun _ _ v _ => n - (intOf v).toNat)
  case atStart => exact ⟨0, F, Nat.zero_le _, rfl, ⟨_, _, rfl, Own.nil0 _ _ _, foot_nil _ _⟩, h, Stp.refl _ _, rfl⟩
  case round =>
    obtain ⟨k, F1, hk, rfl, ⟨a1, c1, rfl, own, dd⟩, M1, S1, rfl⟩ := hrel
    by_cases hlt : k < n
    · have hx : k < n := hlt
      have hy : k < m := by omega
      have hG := (adG_len (i0 + i1) X Y G k).1
      have HS0 := adG_succ (i0 + i1) X Y G k
      obtain ⟨gx, ox, hgx, _⟩ := dx.ints.at k hx
      obtain ⟨gy, oy, hgy, _⟩ := dy.ints.at k hy
      subst hgx hgy
      obtain ⟨x, ex⟩ : ∃ x, x = X.getD k 0 := ⟨_, rfl⟩
      obtain ⟨y, ey⟩ : ∃ y, y = Y.getD k 0 := ⟨_, rfl⟩
      rw [← ex, ← ey] at HS0
      have Ex := Lib.hid ex
      have Ey := Lib.hid ey
      clear ex ey
      have hnn := adG_nn (show 0 ≤ i0 + i1 by omega) X Y G k
      have hz0 : k = 0 → (adG (i0 + i1) X Y G k).2.2 = -1 := fun e => by rw [e]; rfl
      obtain ⟨⟨G1, o1, cr⟩, hr⟩ : ∃ r, r = (adG (i0 + i1) X Y G k) := ⟨_, rfl⟩
      rw [← hr] at HS0 hG M1 own hnn hz0
      rw [← hr]
      clear hr
      simp only at hG hnn hz0
      by_cases hk0 : k = 0
      · have hneg : cr < 0 := by have := hz0 hk0; omega
        rw [show (k == 0) = true by simp [hk0]] at HS0
        simp only [adS, if_true] at HS0
        have HS := Lib.hid HS0
        clear HS0 hnn hz0 hk0
        have cx := (dx.stp S1).ints.cellsAt k hx
        rw [← Ex.out] at cx
        have cy := (dy.stp S1).ints.cellsAt k hy
        rw [← Ey.out] at cy
        go_wp2_with fail
        refine (sxor_any _ _ b g i0 i1 _ F1 _ M1 (Nat.le_trans hb S1.size) h0 h1 (by (try simp only [gt_len]); omega)).mono ?_; rintro e wm1 ⟨rfl, Fm1, Mm1, sm1⟩
        have Sm1 := S1.trans sm1
        obtain ⟨om1, dm1⟩ := own.stp dd sm1
        clear M1 S1 sm1 own dd
        clear cx cy
        go_wp2_with (at_builtin; refine wpList_appJ _ rfl _ _ rfl w.heap.size a1 k c1 o1 rfl (om1.alloc _) _ 1 1 [_] rfl (Ints.lit1 _ _ _) (by omega) (by have := Sm1.size; simp; omega) ?_)
        intro am2 cm2 wm2 om2 _ gm2 mm2
        have Om2 := Only.of_grown gm2
        have Mm2 := Mk.only (Mk.alloc Mm1 _) Om2 dm1
        have Sm2 := Stp.onto (Stp.alloc Sm1 _) Om2 (fun k hk => (om1.feet k hk).1)
        have dm2 : Disj (foot am2 cm2) Fm1 := mm2.disj dm1 (fun k hk => by have := (Mm1.feet k hk).2; simp; omega)
        clear Mm1 Sm1 om1 dm1 Om2 gm2 mm2
        go_wp2_with fail
        refine (sand_any _ _ b g i0 i1 _ Fm1 _ Mm2 (Nat.le_trans hb Sm2.size) h0 h1 (by (try simp only [gt_len]); omega)).mono ?_; rintro e wm3 ⟨rfl, Fm3, Mm3, sm3⟩
        have Sm3 := Sm2.trans sm3
        obtain ⟨om3, dm3⟩ := om2.stp dm2 sm3
        clear Mm2 Sm2 sm3 om2 dm2
        go_wp2
        go_roundw
        case rel => exact ⟨k + 1, Fm3, by omega, by go_num, ⟨_, _, rfl, by rw [HS.out]; exact om3, dm3⟩, by rw [HS.out]; exact Mm3, Sm3, by rw [HS.out]⟩
        case measure => simp [intOf]; omega
      · have hpos : ¬ cr < 0 := by have := hnn (by omega); omega
        rw [show (k == 0) = false by simp [hk0]] at HS0
        simp only [adS, Bool.false_eq_true, if_false] at HS0
        have HS := Lib.hid HS0
        clear HS0 hnn hz0 hk0
        have cx := (dx.stp S1).ints.cellsAt k hx
        rw [← Ex.out] at cx
        have cy := (dy.stp S1).ints.cellsAt k hy
        rw [← Ey.out] at cy
        go_wp2_with fail
        refine (sxor_any _ _ b g i0 i1 _ F1 _ M1 (Nat.le_trans hb S1.size) h0 h1 (by (try simp only [gt_len]); omega)).mono ?_; rintro e wm1 ⟨rfl, Fm1, Mm1, sm1⟩
        have Sm1 := S1.trans sm1
        obtain ⟨om1, dm1⟩ := own.stp dd sm1
        clear M1 S1 sm1 own dd
        clear cx cy
        go_wp2_with fail
        refine (sxor_any _ _ b g i0 i1 _ Fm1 _ Mm1 (Nat.le_trans hb Sm1.size) h0 h1 (by (try simp only [gt_len]); omega)).mono ?_; rintro e wm2 ⟨rfl, Fm2, Mm2, sm2⟩
        have Sm2 := Sm1.trans sm2
        obtain ⟨om2, dm2⟩ := om1.stp dm1 sm2
        clear Mm1 Sm1 sm2 om1 dm1
        go_wp2_with fail
        refine (sxor_any _ _ b g i0 i1 _ Fm2 _ Mm2 (Nat.le_trans hb Sm2.size) h0 h1 (by (try simp only [gt_len]); omega)).mono ?_; rintro e wm3 ⟨rfl, Fm3, Mm3, sm3⟩
        have Sm3 := Sm2.trans sm3
        obtain ⟨om3, dm3⟩ := om2.stp dm2 sm3
        clear Mm2 Sm2 sm3 om2 dm2
        go_wp2_with (at_builtin; refine wpList_appJ _ rfl _ _ rfl w.heap.size a1 k c1 o1 rfl (om3.alloc _) _ 1 1 [_] rfl (Ints.lit1 _ _ _) (by omega) (by have := Sm3.size; simp; omega) ?_)
        intro am4 cm4 wm4 om4 _ gm4 mm4
        have Om4 := Only.of_grown gm4
        have Mm4 := Mk.only (Mk.alloc Mm3 _) Om4 dm3
        have Sm4 := Stp.onto (Stp.alloc Sm3 _) Om4 (fun k hk => (om3.feet k hk).1)
        have dm4 : Disj (foot am4 cm4) Fm3 := mm4.disj dm3 (fun k hk => by have := (Mm3.feet k hk).2; simp; omega)
        clear Mm3 Sm3 om3 dm3 Om4 gm4 mm4
        go_wp2_with fail
        refine (sand_any _ _ b g i0 i1 _ Fm3 _ Mm4 (Nat.le_trans hb Sm4.size) h0 h1 (by (try simp only [gt_len]); omega)).mono ?_; rintro e wm5 ⟨rfl, Fm5, Mm5, sm5⟩
        have Sm5 := Sm4.trans sm5
        obtain ⟨om5, dm5⟩ := om4.stp dm4 sm5
        clear Mm4 Sm4 sm5 om4 dm4
        go_wp2_with fail
        refine (sxor_any _ _ b g i0 i1 _ Fm5 _ Mm5 (Nat.le_trans hb Sm5.size) h0 h1 (by (try simp only [gt_len]); omega)).mono ?_; rintro e wm6 ⟨rfl, Fm6, Mm6, sm6⟩
        have Sm6 := Sm5.trans sm6
        obtain ⟨om6, dm6⟩ := om5.stp dm5 sm6
        clear Mm5 Sm5 sm6 om5 dm5
        go_wp2
        go_roundw
        case rel => exact ⟨k + 1, Fm6, by omega, by go_num, ⟨_, _, rfl, by rw [HS.out]; exact om6, dm6⟩, by rw [HS.out]; exact Mm6, Sm6, by rw [HS.out]⟩
        case measure => simp [intOf]; omega
    · obtain rfl : k = n := by omega
      go_wp2_with (at_builtin; refine wpList_appJ _ rfl _ _ rfl w.heap.size a1 k c1 ((adG (i0 + i1) X Y G k)).2.1 rfl (own.alloc _) _ 1 1 [_] rfl (Ints.lit1 _ _ _) (by omega) (by have := S1.size; simp; omega) ?_)
      intro am1 cm1 wm1 om1 _ gm1 mm1
      have Om1 := Only.of_grown gm1
      have Mm1 := Mk.only (Mk.alloc M1 _) Om1 dd
      have Sm1 := Stp.onto (Stp.alloc S1 _) Om1 (fun k hk => (own.feet k hk).1)
      have dm1 : Disj (foot am1 cm1) F1 := mm1.disj dd (fun k hk => by have := (M1.feet k hk).2; simp; omega)
      clear M1 S1 own dd Om1 gm1 mm1
      go_wp2
      go_ret
      exact ⟨_, _, F1, rfl, om1, dm1, Mm1, Sm1⟩
set_option maxHeartbeats 8000000 in
set_option maxRecDepth 100000 in
theorem subtract_any (xa : Option Addr) (n xc : Nat) (X : List Int) (ya : Option Addr) (m yc : Nat) (Y : List Int) {oa : Option Addr} {on oc : Nat} (b g : Nat) (i0 i1 : Int) (G : List Int) (F : List Nat) (w : World) (h : Mk 94 w b g i0 i1 G F oa on oc) (hb : b ≤ w.heap.size) (h0 : 0 ≤ i0 ∧ i0 ≤ 1000) (h1 : 0 ≤ i1 ∧ i1 ≤ 1000) (dx : IntD w xa n xc X F) (dy : IntD w ya m yc Y F) (hnm : n ≤ m) (hn : n ≤ 500) (hl : G.length ≤ 20000) :
    Calls Tryz.prog 91 #[.pointer (some ⟨g, 0, none⟩), .slice xa n xc, .slice ya m yc] w fun e w' => ∃ a1 c1 F', e = .returned (.tuple #[.slice a1 n c1, .int .i64 (suG (i0 + i1) X Y G n).2.2]) ∧ Own w' w.heap.size a1 n c1 (suG (i0 + i1) X Y G n).2.1 ∧ Disj (foot a1 c1) F' ∧ Mk 94 w' b g i0 i1 (suG (i0 + i1) X Y G n).1 F' oa on oc ∧ Stp F w F' w' := by
  have hle := dx.ints.le
  go_enter Tryz.func91, Tryz.ntmps91
  go_wp2
  go_loopw [8, 9, 17] (fun u z v wr => ∃ k F1, k ≤ n ∧ v = .int .i64 (k : Nat) ∧ (∃ a1 c1, u = .slice a1 k c1 ∧ Own wr w.heap.size a1 k c1 (suG (i0 + i1) X Y G k).2.1 ∧ Disj (foot a1 c1) F1) ∧ Mk 94 wr b g i0 i1 (suG (i0 + i1) X Y G k).1 F1 oa on oc ∧ Stp F w F1 wr ∧ z = .int .i64 (suG (i0 + i1) X Y G k).2.2) (fun _ _ v _ => n - (intOf v).toNat)
  case atStart => exact ⟨0, F, Nat.zero_le _, rfl, ⟨_, _, rfl, Own.nil0 _ _ _, foot_nil _ _⟩, h.alloc _, (Stp.refl _ _).alloc _, rfl⟩
  case round =>
    obtain ⟨k, F1, hk, rfl, ⟨a1, c1, rfl, own, dd⟩, M1, S1, rfl⟩ := hrel
    by_cases hlt : k < n
    · have hx : k < n := hlt
      have hy : k < m := by omega
      have hG := (suG_len (i0 + i1) X Y G k).1
      have HS0 := suG_succ (i0 + i1) X Y G k
      obtain ⟨gx, ox, hgx, _⟩ := dx.ints.at k hx
      obtain ⟨gy, oy, hgy, _⟩ := dy.ints.at k hy
      subst hgx hgy
      obtain ⟨x, ex⟩ : ∃ x, x = X.getD k 0 := ⟨_, rfl⟩
      obtain ⟨y, ey⟩ : ∃ y, y = Y.getD k 0 := ⟨_, rfl⟩
      rw [← ex, ← ey] at HS0
      have Ex := Lib.hid ex
      have Ey := Lib.hid ey
      clear ex ey
      have hnn := suG_nn (show 0 ≤ i0 + i1 by omega) X Y G k
      have hz0 : k = 0 → (suG (i0 + i1) X Y G k).2.2 = -1 := fun e => by rw [e]; rfl
      obtain ⟨⟨G1, o1, cr⟩, hr⟩ : ∃ r, r = (suG (i0 + i1) X Y G k) := ⟨_, rfl⟩
      rw [← hr] at HS0 hG M1 own hnn hz0
      rw [← hr]
      clear hr
      simp only at hG hnn hz0
      by_cases hk0 : k = 0
      · have hb0 : (((k : Nat) : Int) == 0) = true := by simp [hk0]
        rw [show (k == 0) = true by simp [hk0]] at HS0
        simp only [suS, if_true] at HS0
        have HS := Lib.hid HS0
        clear HS0 hnn hz0 hk0
        have cx := (dx.stp S1).ints.cellsAt k hx
        rw [← Ex.out] at cx
        have cy := (dy.stp S1).ints.cellsAt k hy
        rw [← Ey.out] at cy
        go_wp2
        have Md0 := M1.drew
        go_region_held3 (fun W => W.cell? ⟨gx, ox + k, none⟩ = some (.int .i64 x) ∧ W.cell? ⟨gy, oy + k, none⟩ = some (.int .i64 y))
          (first | go_keep | exact (by have fx := ((dx.stp (Stp.onto (Stp.alloc (S1.drew.trans sm1) _) (Only.of_grown gm2) (fun k hk => (om1.feet k hk).1))).ints.cellsAt k hx); have fy := ((dy.stp (Stp.onto (Stp.alloc (S1.drew.trans sm1) _) (Only.of_grown gm2) (fun k hk => (om1.feet k hk).1))).ints.cellsAt k hy); rw [← Ex.out] at fx; rw [← Ey.out] at fy; exact ⟨fx, fy⟩) | exact (by have fx := ((dx.stp (S1.drew.trans sm1)).ints.cellsAt k hx); have fy := ((dy.stp (S1.drew.trans sm1)).ints.cellsAt k hy); rw [← Ex.out] at fx; rw [← Ey.out] at fy; exact ⟨fx, fy⟩))
          (first | (go_at_call 127; refine (xor_any _ _ b g i0 i1 _ F1 _ Md0 (Nat.le_trans hb S1.size) h0 h1 (by (try simp only [gt_len]); omega)).mono ?_; rintro e wm1 ⟨rfl, Fm1, Mm1, sm1⟩; obtain ⟨om1, dm1⟩ := (own.below ((Below.refl _ _).drew)).stp dd sm1) | (refine step_appJ _ (by rfl) _ _ (by rfl) w.heap.size a1 k c1 o1 (by rfl) (om1.alloc _) _ 1 1 [_] (by rfl) (Ints.lit1 _ _ _) (by omega) (by have := (S1.drew.trans sm1).size; simp; omega) ?_; intro am2 cm2 wm2 om2 _ gm2 _ mm2))
        all_goals have Om2 := Only.of_grown gm2
        all_goals have Mm2 := Mk.only (Mk.alloc Mm1 _) Om2 dm1
        all_goals have Sm2 := (Stp.onto (Stp.alloc (S1.drew.trans sm1) _) (Only.of_grown gm2) (fun k hk => (om1.feet k hk).1))
        all_goals have dm2 : Disj (foot am2 cm2) Fm1 := mm2.disj dm1 (fun k hk => by have := (Mm1.feet k hk).2; simp; omega)
        all_goals clear M1 S1 own dd Md0 Mm1 om1 dm1 sm1 Om2 gm2 mm2
        all_goals clear cx cy
        go_wp2
        have cx := (dx.stp Sm2).ints.cellsAt k hx
        rw [← Ex.out] at cx
        have cy := (dy.stp Sm2).ints.cellsAt k hy
        rw [← Ey.out] at cy
        have Md0 := Mm2.drew
        go_region_held3 (fun W => W.cell? ⟨gx, ox + k, none⟩ = some (.int .i64 x) ∧ W.cell? ⟨gy, oy + k, none⟩ = some (.int .i64 y))
          (first | go_keep | exact (by have fx := ((dx.stp (Sm2.drew.trans (sm3.trans sm4))).ints.cellsAt k hx); have fy := ((dy.stp (Sm2.drew.trans (sm3.trans sm4))).ints.cellsAt k hy); rw [← Ex.out] at fx; rw [← Ey.out] at fy; exact ⟨fx, fy⟩) | exact (by have fx := ((dx.stp (Sm2.drew.trans sm3)).ints.cellsAt k hx); have fy := ((dy.stp (Sm2.drew.trans sm3)).ints.cellsAt k hy); rw [← Ex.out] at fx; rw [← Ey.out] at fy; exact ⟨fx, fy⟩))
          (first | (go_at_call 129; refine (not_any _ b g i0 i1 _ Fm1 _ Md0 (Nat.le_trans hb Sm2.size) h0 h1 (by (try simp only [gt_len]); omega)).mono ?_; rintro e wm3 ⟨rfl, Fm3, Mm3, sm3⟩) | (go_at_call 128; refine (and_any _ _ b g i0 i1 _ Fm3 _ Mm3 (Nat.le_trans hb (Sm2.drew.trans sm3).size) h0 h1 (by (try simp only [gt_len]); omega)).mono ?_; rintro e wm4 ⟨rfl, Fm4, Mm4, sm4⟩))
        all_goals have st4 : Stp Fm1 wm2.drew Fm4 wm4 := (sm3.trans sm4)
        all_goals have Sm4 := Sm2.drew.trans st4
        all_goals obtain ⟨om4, dm4⟩ := (om2.below ((Below.refl _ _).drew)).stp dm2 st4
        all_goals clear om2 dm2
        all_goals clear st4 Mm2 Sm2 Md0
        all_goals clear cx cy
        go_wp2
        go_roundw
        case rel => exact ⟨k + 1, Fm4, by omega, by go_num, ⟨_, _, rfl, by rw [HS.out]; exact om4, dm4⟩, by rw [HS.out]; exact Mm4, Sm4, by rw [HS.out]⟩
        case measure => simp [intOf]; omega
      · have hb0 : (((k : Nat) : Int) == 0) = false := by simp [hk0]
        rw [show (k == 0) = false by simp [hk0]] at HS0
        simp only [suS, Bool.false_eq_true, if_false] at HS0
        have HS := Lib.hid HS0
        clear HS0 hnn hz0 hk0
        have cx := (dx.stp S1).ints.cellsAt k hx
        rw [← Ex.out] at cx
        go_wp2_with fail
        clear cx
        refine (xor_any _ _ b g i0 i1 _ F1 _ M1 (Nat.le_trans hb S1.size) h0 h1 (by (try simp only [gt_len]); omega)).mono ?_; rintro e wm1 ⟨rfl, Fm1, Mm1, sm1⟩
        have Sm1 := S1.trans sm1
        obtain ⟨om1, dm1⟩ := own.stp dd sm1
        clear M1 S1 sm1 own dd
        have cy := (dy.stp Sm1).ints.cellsAt k hy
        rw [← Ey.out] at cy
        go_wp2_with fail
        clear cy
        refine (xor_any _ _ b g i0 i1 _ Fm1 _ Mm1 (Nat.le_trans hb Sm1.size) h0 h1 (by (try simp only [gt_len]); omega)).mono ?_; rintro e wm2 ⟨rfl, Fm2, Mm2, sm2⟩
        have Sm2 := Sm1.trans sm2
        obtain ⟨om2, dm2⟩ := om1.stp dm1 sm2
        clear Mm1 Sm1 sm2 om1 dm1
        have cy := (dy.stp Sm2).ints.cellsAt k hy
        rw [← Ey.out] at cy
        go_wp2_with fail
        clear cy
        refine (xor_any _ _ b g i0 i1 _ Fm2 _ Mm2 (Nat.le_trans hb Sm2.size) h0 h1 (by (try simp only [gt_len]); omega)).mono ?_; rintro e wm3 ⟨rfl, Fm3, Mm3, sm3⟩
        have Sm3 := Sm2.trans sm3
        obtain ⟨om3, dm3⟩ := om2.stp dm2 sm3
        clear Mm2 Sm2 sm3 om2 dm2
        go_wp2_with (at_builtin; refine wpList_appJ _ rfl _ _ rfl w.heap.size a1 k c1 o1 rfl (om3.alloc _) _ 1 1 [_] rfl (Ints.lit1 _ _ _) (by omega) (by have := Sm3.size; simp; omega) ?_)
        intro am4 cm4 wm4 om4 _ gm4 mm4
        have Om4 := Only.of_grown gm4
        have Mm4 := Mk.only (Mk.alloc Mm3 _) Om4 dm3
        have Sm4 := Stp.onto (Stp.alloc Sm3 _) Om4 (fun k hk => (om3.feet k hk).1)
        have dm4 : Disj (foot am4 cm4) Fm3 := mm4.disj dm3 (fun k hk => by have := (Mm3.feet k hk).2; simp; omega)
        clear Mm3 Sm3 om3 dm3 Om4 gm4 mm4
        go_wp2_with fail
        refine (not_any _ b g i0 i1 _ Fm3 _ Mm4 (Nat.le_trans hb Sm4.size) h0 h1 (by (try simp only [gt_len]); omega)).mono ?_; rintro e wm5 ⟨rfl, Fm5, Mm5, sm5⟩
        have Sm5 := Sm4.trans sm5
        obtain ⟨om5, dm5⟩ := om4.stp dm4 sm5
        clear Mm4 Sm4 sm5 om4 dm4
        go_wp2_with fail
        refine (and_any _ _ b g i0 i1 _ Fm5 _ Mm5 (Nat.le_trans hb Sm5.size) h0 h1 (by (try simp only [gt_len]); omega)).mono ?_; rintro e wm6 ⟨rfl, Fm6, Mm6, sm6⟩
        have Sm6 := Sm5.trans sm6
        obtain ⟨om6, dm6⟩ := om5.stp dm5 sm6
        clear Mm5 Sm5 sm6 om5 dm5
        go_wp2_with fail
        refine (xor_any _ _ b g i0 i1 _ Fm6 _ Mm6 (Nat.le_trans hb Sm6.size) h0 h1 (by (try simp only [gt_len]); omega)).mono ?_; rintro e wm7 ⟨rfl, Fm7, Mm7, sm7⟩
        have Sm7 := Sm6.trans sm7
        obtain ⟨om7, dm7⟩ := om6.stp dm6 sm7
        clear Mm6 Sm6 sm7 om6 dm6
        go_wp2
        go_roundw
        case rel => exact ⟨k + 1, Fm7, by omega, by go_num, ⟨_, _, rfl, by rw [HS.out]; exact om7, dm7⟩, by rw [HS.out]; exact Mm7, Sm7, by rw [HS.out]⟩
        case measure => simp [intOf]; omega
    · obtain rfl : k = n := by omega
      go_wp2
      go_ret2
      exact ⟨_, _, F1, rfl, own, dd, M1, S1⟩
set_option maxHeartbeats 8000000 in
set_option maxRecDepth 100000 in
theorem gdSub_any (xa : Option Addr) (n xc : Nat) (X : List Int) (ya : Option Addr) (m yc : Nat) (Y : List Int) {oa : Option Addr} {on oc : Nat} (b g : Nat) (i0 i1 : Int) (G : List Int) (F : List Nat) (w : World) (h : Mk 110 w b g i0 i1 G F oa on oc) (hb : b ≤ w.heap.size) (h0 : 0 ≤ i0 ∧ i0 ≤ 1000) (h1 : 0 ≤ i1 ∧ i1 ≤ 1000) (dx : IntD w xa n xc X F) (dy : IntD w ya m yc Y F) (hnm : n ≤ m) (hn : n ≤ 500) (hl : G.length ≤ 20000) :
    Calls Tryz.prog 102 #[.pointer (some ⟨g, 0, none⟩), .slice xa n xc, .slice ya m yc] w fun e w' => ∃ a1 c1 F', e = .returned (.slice a1 (n + 1) c1) ∧ Own w' w.heap.size a1 (n + 1) c1 ((suG (i0 + i1) X Y G n).2.1 ++ [(suG (i0 + i1) X Y G n).2.2]) ∧ Disj (foot a1 c1) F' ∧ Mk 110 w' b g i0 i1 (suG (i0 + i1) X Y G n).1 F' oa on oc ∧ Stp F w F' w' := by
  have hle := dx.ints.le
  go_enter Tryz.func102, Tryz.ntmps102
  go_wp2
  go_loopw [7, 8, 19] (fun u z v wr => ∃ k F1, k ≤ n ∧ v = .int .i64 (k : Nat) ∧ (∃ a1 c1, u = .slice a1 k c1 ∧ Own wr w.heap.size a1 k c1 (suG (i0 + i1) X Y G k).2.1 ∧ Disj (foot a1 c1) F1) ∧ Mk 110 wr b g i0 i1 (suG (i0 + i1) X Y G k).1 F1 oa on oc ∧ Stp F w F1 wr ∧ z = .int .i64 (suG (i0 + i1) X Y G k).2.2) (fun _ _ v _ => n - (intOf v).toNat)
  case atStart => exact ⟨0, F, Nat.zero_le _, rfl, ⟨_, _, rfl, Own.nil0 _ _ _, foot_nil _ _⟩, h, Stp.refl _ _, rfl⟩
  case round =>
    obtain ⟨k, F1, hk, rfl, ⟨a1, c1, rfl, own, dd⟩, M1, S1, rfl⟩ := hrel
    by_cases hlt : k < n
    · have hx : k < n := hlt
      have hy : k < m := by omega
      have hG := (suG_len (i0 + i1) X Y G k).1
      have HS0 := suG_succ (i0 + i1) X Y G k
      obtain ⟨gx, ox, hgx, _⟩ := dx.ints.at k hx
      obtain ⟨gy, oy, hgy, _⟩ := dy.ints.at k hy
      subst hgx hgy
      obtain ⟨x, ex⟩ : ∃ x, x = X.getD k 0 := ⟨_, rfl⟩
      obtain ⟨y, ey⟩ : ∃ y, y = Y.getD k 0 := ⟨_, rfl⟩
      rw [← ex, ← ey] at HS0
      have Ex := Lib.hid ex
      have Ey := Lib.hid ey
      clear ex ey
      have hnn := suG_nn (show 0 ≤ i0 + i1 by omega) X Y G k
      have hz0 : k = 0 → (suG (i0 + i1) X Y G k).2.2 = -1 := fun e => by rw [e]; rfl
      obtain ⟨⟨G1, o1, cr⟩, hr⟩ : ∃ r, r = (suG (i0 + i1) X Y G k) := ⟨_, rfl⟩
      rw [← hr] at HS0 hG M1 own hnn hz0
      rw [← hr]
      clear hr
      simp only at hG hnn hz0
      by_cases hk0 : k = 0
      · have hneg : cr < 0 := by have := hz0 hk0; omega
        rw [show (k == 0) = true by simp [hk0]] at HS0
        simp only [suS, if_true] at HS0
        have HS := Lib.hid HS0
        clear HS0 hnn hz0 hk0
        have cx := (dx.stp S1).ints.cellsAt k hx
        rw [← Ex.out] at cx
        have cy := (dy.stp S1).ints.cellsAt k hy
        rw [← Ey.out] at cy
        go_wp2_with fail
        refine (sxor_any _ _ b g i0 i1 _ F1 _ M1 (Nat.le_trans hb S1.size) h0 h1 (by (try simp only [gt_len]); omega)).mono ?_; rintro e wm1 ⟨rfl, Fm1, Mm1, sm1⟩
        have Sm1 := S1.trans sm1
        obtain ⟨om1, dm1⟩ := own.stp dd sm1
        clear M1 S1 sm1 own dd
        clear cx cy
        go_wp2_with (at_builtin; refine wpList_appJ _ rfl _ _ rfl w.heap.size a1 k c1 o1 rfl (om1.alloc _) _ 1 1 [_] rfl (Ints.lit1 _ _ _) (by omega) (by have := Sm1.size; simp; omega) ?_)
        intro am2 cm2 wm2 om2 _ gm2 mm2
        have Om2 := Only.of_grown gm2
        have Mm2 := Mk.only (Mk.alloc Mm1 _) Om2 dm1
        have Sm2 := Stp.onto (Stp.alloc Sm1 _) Om2 (fun k hk => (om1.feet k hk).1)
        have dm2 : Disj (foot am2 cm2) Fm1 := mm2.disj dm1 (fun k hk => by have := (Mm1.feet k hk).2; simp; omega)
        clear Mm1 Sm1 om1 dm1 Om2 gm2 mm2
        go_wp2_with fail
        refine (snot_any _ b g i0 i1 _ Fm1 _ Mm2 (Nat.le_trans hb Sm2.size) h0 h1 (by (try simp only [gt_len]); omega)).mono ?_; rintro e wm3 ⟨rfl, Fm3, Mm3, sm3⟩
        have Sm3 := Sm2.trans sm3
        obtain ⟨om3, dm3⟩ := om2.stp dm2 sm3
        clear Mm2 Sm2 sm3 om2 dm2
        go_wp2_with fail
        refine (sand_any _ _ b g i0 i1 _ Fm3 _ Mm3 (Nat.le_trans hb Sm3.size) h0 h1 (by (try simp only [gt_len]); omega)).mono ?_; rintro e wm4 ⟨rfl, Fm4, Mm4, sm4⟩
        have Sm4 := Sm3.trans sm4
        obtain ⟨om4, dm4⟩ := om3.stp dm3 sm4
        clear Mm3 Sm3 sm4 om3 dm3
        go_wp2
        go_roundw
        case rel => exact ⟨k + 1, Fm4, by omega, by go_num, ⟨_, _, rfl, by rw [HS.out]; exact om4, dm4⟩, by rw [HS.out]; exact Mm4, Sm4, by rw [HS.out]⟩
        case measure => simp [intOf]; omega
      · have hpos : ¬ cr < 0 := by have := hnn (by omega); omega
        rw [show (k == 0) = false by simp [hk0]] at HS0
        simp only [suS, Bool.false_eq_true, if_false] at HS0
        have HS := Lib.hid HS0
        clear HS0 hnn hz0 hk0
        have cx := (dx.stp S1).ints.cellsAt k hx
        rw [← Ex.out] at cx
        have cy := (dy.stp S1).ints.cellsAt k hy
        rw [← Ey.out] at cy
        go_wp2_with fail
        refine (sxor_any _ _ b g i0 i1 _ F1 _ M1 (Nat.le_trans hb S1.size) h0 h1 (by (try simp only [gt_len]); omega)).mono ?_; rintro e wm1 ⟨rfl, Fm1, Mm1, sm1⟩
        have Sm1 := S1.trans sm1
        obtain ⟨om1, dm1⟩ := own.stp dd sm1
        clear M1 S1 sm1 own dd
        clear cx cy
        go_wp2_with fail
        refine (sxor_any _ _ b g i0 i1 _ Fm1 _ Mm1 (Nat.le_trans hb Sm1.size) h0 h1 (by (try simp only [gt_len]); omega)).mono ?_; rintro e wm2 ⟨rfl, Fm2, Mm2, sm2⟩
        have Sm2 := Sm1.trans sm2
        obtain ⟨om2, dm2⟩ := om1.stp dm1 sm2
        clear Mm1 Sm1 sm2 om1 dm1
        go_wp2_with fail
        refine (sxor_any _ _ b g i0 i1 _ Fm2 _ Mm2 (Nat.le_trans hb Sm2.size) h0 h1 (by (try simp only [gt_len]); omega)).mono ?_; rintro e wm3 ⟨rfl, Fm3, Mm3, sm3⟩
        have Sm3 := Sm2.trans sm3
        obtain ⟨om3, dm3⟩ := om2.stp dm2 sm3
        clear Mm2 Sm2 sm3 om2 dm2
        go_wp2_with (at_builtin; refine wpList_appJ _ rfl _ _ rfl w.heap.size a1 k c1 o1 rfl (om3.alloc _) _ 1 1 [_] rfl (Ints.lit1 _ _ _) (by omega) (by have := Sm3.size; simp; omega) ?_)
        intro am4 cm4 wm4 om4 _ gm4 mm4
        have Om4 := Only.of_grown gm4
        have Mm4 := Mk.only (Mk.alloc Mm3 _) Om4 dm3
        have Sm4 := Stp.onto (Stp.alloc Sm3 _) Om4 (fun k hk => (om3.feet k hk).1)
        have dm4 : Disj (foot am4 cm4) Fm3 := mm4.disj dm3 (fun k hk => by have := (Mm3.feet k hk).2; simp; omega)
        clear Mm3 Sm3 om3 dm3 Om4 gm4 mm4
        go_wp2_with fail
        refine (snot_any _ b g i0 i1 _ Fm3 _ Mm4 (Nat.le_trans hb Sm4.size) h0 h1 (by (try simp only [gt_len]); omega)).mono ?_; rintro e wm5 ⟨rfl, Fm5, Mm5, sm5⟩
        have Sm5 := Sm4.trans sm5
        obtain ⟨om5, dm5⟩ := om4.stp dm4 sm5
        clear Mm4 Sm4 sm5 om4 dm4
        go_wp2_with fail
        refine (sand_any _ _ b g i0 i1 _ Fm5 _ Mm5 (Nat.le_trans hb Sm5.size) h0 h1 (by (try simp only [gt_len]); omega)).mono ?_; rintro e wm6 ⟨rfl, Fm6, Mm6, sm6⟩
        have Sm6 := Sm5.trans sm6
        obtain ⟨om6, dm6⟩ := om5.stp dm5 sm6
        clear Mm5 Sm5 sm6 om5 dm5
        go_wp2_with fail
        refine (sxor_any _ _ b g i0 i1 _ Fm6 _ Mm6 (Nat.le_trans hb Sm6.size) h0 h1 (by (try simp only [gt_len]); omega)).mono ?_; rintro e wm7 ⟨rfl, Fm7, Mm7, sm7⟩
        have Sm7 := Sm6.trans sm7
        obtain ⟨om7, dm7⟩ := om6.stp dm6 sm7
        clear Mm6 Sm6 sm7 om6 dm6
        go_wp2
        go_roundw
        case rel => exact ⟨k + 1, Fm7, by omega, by go_num, ⟨_, _, rfl, by rw [HS.out]; exact om7, dm7⟩, by rw [HS.out]; exact Mm7, Sm7, by rw [HS.out]⟩
        case measure => simp [intOf]; omega
    · obtain rfl : k = n := by omega
      go_wp2_with (at_builtin; refine wpList_appJ _ rfl _ _ rfl w.heap.size a1 k c1 ((suG (i0 + i1) X Y G k)).2.1 rfl (own.alloc _) _ 1 1 [_] rfl (Ints.lit1 _ _ _) (by omega) (by have := S1.size; simp; omega) ?_)
      intro am1 cm1 wm1 om1 _ gm1 mm1
      have Om1 := Only.of_grown gm1
      have Mm1 := Mk.only (Mk.alloc M1 _) Om1 dd
      have Sm1 := Stp.onto (Stp.alloc S1 _) Om1 (fun k hk => (own.feet k hk).1)
      have dm1 : Disj (foot am1 cm1) F1 := mm1.disj dd (fun k hk => by have := (M1.feet k hk).2; simp; omega)
      clear M1 S1 own dd Om1 gm1 mm1
      go_wp2
      go_ret
      exact ⟨_, _, F1, rfl, om1, dm1, Mm1, Sm1⟩
end Go.Proofs.YtchmakepglaijaaGreat
namespace Go.Proofs.YtchmakepglaijaaGreat
open Go.RowKit
def ib (b : Bool) : Int := if b = true then 1 else 0
end Go.Proofs.YtchmakepglaijaaGreat
