/- The writing of a cell. -/
import Derived.Test.YtkbhigdciokfkaaMat
import Derived.Test.YtkbhigdciokfkaaMmA
namespace Go.Proofs.Ytkbhigdciokfkaa
open Go.RowKit
set_option maxHeartbeats 8000000 in
set_option maxRecDepth 100000 in
theorem writ_any (ca : Option Addr) (n cc : Nat) (rs : List RowD) (ia : Option Addr) (v ic : Nat) (I : List Int) (wd : Nat) {oa : Option Addr} {on oc : Nat} (b g : Nat) (i0 i1 : Int) (G : List Int) (F : List Nat) (w : World) (h : Mk 81 w b g i0 i1 G F oa on oc) (hb : b ≤ w.heap.size) (h0 : 0 ≤ i0 ∧ i0 ≤ 1000) (h1 : 0 ≤ i1 ∧ i1 ≤ 1000) (dc : RwD w ca n cc rs F) (dx : IntD w ia v ic I F) (hA : AllL wd (datas' rs)) (hn : 1 ≤ n ∧ n ≤ 8) (hv : v ≤ 8) (hw : wd ≤ 20) (hl : G.length ≤ 1000) (nb wb : Nat) (hnb : w.cell? ⟨nb, 0, none⟩ = some (.int .i64 n)) (hwb : w.cell? ⟨wb, 0, none⟩ = some (.int .i64 wd)) :
    Calls Try.prog 59 #[.pointer (some ⟨g, 0, none⟩), .slice ca n cc, .slice ia v ic, .pointer (some ⟨nb, 0, none⟩), .pointer (some ⟨wb, 0, none⟩)] w fun e w' => ∃ a1 m1 c1 F', e = .returned (.slice a1 m1 c1) ∧ Own w' w.heap.size a1 m1 c1 (wrG (i0 + i1) I (spL ((n * wd : Nat) + v : Int) wd) (datas' rs) G n).2 ∧ Disj (foot a1 c1) F' ∧ Mk 81 w' b g i0 i1 (wrG (i0 + i1) I (spL ((n * wd : Nat) + v : Int) wd) (datas' rs) G n).1 F' oa on oc ∧ Stp F w F' w' := by
  have HI := Lib.hid dx.ints.len
  have HAL := Lib.hid hA
  have HR := Lib.hid dc.len
  have hle := dc.le
  have hle2 := dx.ints.le
  clear hA
  have hp1 : 0 ≤ (n : Int) * (wd : Int) := Int.mul_nonneg (by omega) (by omega)
  have hp2 : (n : Int) * (wd : Int) ≤ 8 * 20 := Int.mul_le_mul (by omega) (by omega) (by omega) (by omega)
  obtain ⟨q, hq⟩ : ∃ q : Int, q = (n : Int) * (wd : Int) := ⟨_, rfl⟩
  have t1 : IntKind.i64.wrap ((n : Int) * (wd : Int)) = q := by rw [← hq]; exact IntWalk.i64_in _ (by omega)
  have HQ : Hid (((n * wd : Nat) : Int) = q) := Lib.hid (by rw [hq]; exact Int.natCast_mul _ _)
  rw [← hq] at hp1 hp2
  clear hq
  rw [HQ.out]
  go_enter Try.func59, Try.ntmps59
  go_wp2_with fail
  refine (span_any (q + v) wd _ (by omega) (by omega)).mono ?_; rintro e w1 ⟨va, vc, rfl, ov, u1⟩
  have M1 := h.below u1
  have dc1 := dc.below u1
  have dx1 := dx.below u1
  have dv := ov.intD (Disj.of_rng ov.feet h.feet (.inr (Nat.le_refl _)))
  have SB : Stp F w F w1 := (Stp.refl _ _).below u1
  have hb1 : b ≤ w1.heap.size := Nat.le_trans hb u1.size
  clear ov u1 h hb dc dx hnb hwb
  have hb := hb1
  clear hb1
  have hvl : (spL (q + v) wd).length = wd := spL_len _ _
  obtain ⟨V, hV⟩ : ∃ V, V = spL (q + v) wd := ⟨_, rfl⟩
  rw [← hV] at dv hvl
  have HV := Lib.hid hV
  clear hV
  have HVL := Lib.hid hvl
  clear hvl
  go_wp2
  go_loopw [10, 24] (fun y u wr => ∃ i F1, i ≤ n ∧ u = .int .i64 (i : Nat) ∧ (∃ a1 m c1, y = .slice a1 m c1 ∧ Own wr w1.heap.size a1 m c1 (wrG (i0 + i1) I V (datas' rs) G i).2 ∧ Disj (foot a1 c1) F1) ∧ Mk 81 wr b g i0 i1 (wrG (i0 + i1) I V (datas' rs) G i).1 F1 oa on oc ∧ Stp F w1 F1 wr) (fun _ u _ => n - (intOf u).toNat)
  case atStart => exact ⟨0, F, Nat.zero_le _, rfl, ⟨_, 0, _, rfl, Own.nil0 _ _ _, foot_nil _ _⟩, M1.alloc _, (Stp.refl _ _).alloc _⟩
  case round =>
    obtain ⟨i, F1, hk, rfl, ⟨a1, m, c1, rfl, own, dd⟩, M2, S2⟩ := hrel
    clear M1
    by_cases hlt : i < n
    · have hil : i < (datas' rs).length := by rw [datas_len, HR.out]; exact hlt
      obtain ⟨hG, hG2⟩ := wrG_len (i0 + i1) I V (datas' rs) G i
      rw [← HI.out, HVL.out] at hG
      rw [HVL.out] at hG2
      have hGb : (6 * v + 3 + 9 * wd) * i ≤ 250 * 8 := Nat.mul_le_mul (by omega) (by omega)
      have hOb : wd * i ≤ 20 * 8 := Nat.mul_le_mul hw (by omega)
      have hml : m ≤ 160 := by have := own.len; omega
      have HS0 := wrG_succ (i0 + i1) I V (datas' rs) G i
      rw [datas_getD _ _ (by rw [HR.out]; exact hlt)] at HS0
      have hcl := HAL.out.at i hil
      rw [datas_getD _ _ (by rw [HR.out]; exact hlt)] at hcl
      obtain ⟨gc, oc', hgc, _, dr⟩ := dc1.at i hlt
      subst hgc
      have ci := (dc1.stp S2).cellsAt i hlt
      generalize rowAt rs i = r at *
      obtain ⟨ra, rc, C⟩ := r
      simp only at HS0 hcl ci dr
      obtain ⟨⟨G1, O⟩, hr⟩ : ∃ r, r = (wrG (i0 + i1) I V (datas' rs) G i) := ⟨_, rfl⟩
      rw [← hr] at HS0 hG hG2 M2 own
      clear hr
      simp only at hG hG2 M2 own
      unfold wrS at HS0
      simp only at HS0
      have hm := maG_len (i0 + i1) i I G1
      rw [← HI.out] at hm
      rw [hcl] at ci dr
      rw [HVL.out] at HS0
      clear hcl
      go_wp2_with fail
      clear ci
      have dxs := dx1.stp S2
      refine (match_any _ _ _ _ _ b g i0 i1 _ F1 _ M2 (Nat.le_trans hb S2.size) h0 h1 dxs (by omega) (by omega) (by omega)).mono ?_; rintro e wm1 ⟨rfl, Fm1, Mm1, sm1⟩
      have Sm1 := S2.trans sm1
      obtain ⟨om1, dm1⟩ := own.stp dd sm1
      clear M2 S2 sm1 own dd
      obtain ⟨⟨G2, z⟩, hz⟩ : ∃ r, r = maG (i0 + i1) i I G1 := ⟨_, rfl⟩
      rw [← hz] at HS0 hm Mm1
      try rw [← hz]
      clear hz
      simp only at HS0 hm Mm1
      have hch := chG_len (i0 + i1) z V C G2 wd
      go_wp2_with fail
      refine (choose_any z _ wd _ V _ wd _ C b g i0 i1 G2 _ _ Mm1 (Nat.le_trans hb Sm1.size) h0 h1 (dv.stp Sm1) (dr.stp Sm1) (Nat.le_refl _) (by omega) (by omega)).mono ?_; rintro e w7 ⟨a7, c7, F7, rfl, o7, d7, M7, s7⟩
      obtain ⟨ow7, dw7⟩ := om1.stp dm1 s7
      have S7 := Sm1.trans s7
      clear Mm1 Sm1 om1 dm1 s7
      obtain ⟨⟨G3, L⟩, hr3⟩ : ∃ r, r = chG (i0 + i1) z V C G2 wd := ⟨_, rfl⟩
      rw [← hr3] at HS0 hch o7 M7
      clear hr3
      simp only at HS0 hch o7 M7
      have HS := Lib.hid HS0
      clear HS0
      go_wp2_with (at_builtin; refine wpList_appJ _ rfl _ _ rfl w1.heap.size a1 m c1 O rfl ow7 _ wd _ L rfl o7.ints (by omega) (by have := S7.size; omega) ?_)
      intro a8 c8 w8 o8 _ g8 m8
      have O8 := Only.of_grown g8
      have M8 := Mk.only M7 O8 dw7
      have S8 := Stp.onto S7 O8 (fun k hk => (ow7.feet k hk).1)
      have d8 : Disj (foot a8 c8) F7 := m8.disj dw7 (fun k hk => (M7.feet k hk).2)
      clear M7 S7 ow7 dw7 O8 g8 m8 o7 d7
      go_wp2
      go_roundw
      case rel => exact ⟨i + 1, F7, by omega, by go_num, ⟨_, _, _, rfl, by rw [HS.out]; exact o8, d8⟩, by rw [HS.out]; exact M8, S8⟩
      case measure => simp [intOf]; omega
    · obtain rfl : i = n := by omega
      go_wp2
      go_ret
      exact ⟨_, _, _, F1, rfl, by rw [← HV.out]; exact own.lower SB.size, dd, by rw [← HV.out]; exact M2, SB.trans S2⟩
end Go.Proofs.Ytkbhigdciokfkaa
