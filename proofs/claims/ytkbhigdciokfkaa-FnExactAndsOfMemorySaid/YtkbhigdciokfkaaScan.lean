/- The scan of cells. -/
import Derived.Test.YtkbhigdciokfkaaMat
import Derived.Test.YtkbhigdciokfkaaMmA
namespace Go.Proofs.Ytkbhigdciokfkaa
open Go.RowKit
set_option maxHeartbeats 8000000 in
set_option maxRecDepth 100000 in
theorem scan_any (ca : Option Addr) (n cc : Nat) (rs : List RowD) (ia : Option Addr) (v ic : Nat) (I : List Int) (wd : Nat) {oa : Option Addr} {on oc : Nat} (b g : Nat) (i0 i1 : Int) (G : List Int) (F : List Nat) (w : World) (h : Mk 81 w b g i0 i1 G F oa on oc) (hb : b ≤ w.heap.size) (h0 : 0 ≤ i0 ∧ i0 ≤ 1000) (h1 : 0 ≤ i1 ∧ i1 ≤ 1000) (dc : RwD w ca n cc rs F) (dx : IntD w ia v ic I F) (hA : AllL wd (datas' rs)) (hn : 1 ≤ n ∧ n ≤ 8) (hv : v ≤ 8) (hw : wd ≤ 20) (hl : G.length ≤ 1000) :
    Calls Try.prog 55 #[.pointer (some ⟨g, 0, none⟩), .slice ca n cc, .slice ia v ic] w fun e w' => ∃ a1 m1 c1 F', e = .returned (.slice a1 m1 c1) ∧ Own w' w.heap.size a1 m1 c1 (scG (i0 + i1) I (datas' rs) G n).2 ∧ Disj (foot a1 c1) F' ∧ Mk 81 w' b g i0 i1 (scG (i0 + i1) I (datas' rs) G n).1 F' oa on oc ∧ Stp F w F' w' := by
  have HI := Lib.hid dx.ints.len
  have HAL := Lib.hid hA
  have HR := Lib.hid dc.len
  have hle := dc.le
  clear hA
  go_enter Try.func55, Try.ntmps55
  go_wp2
  go_loopw [7, 17] (fun y u wr => ∃ i F1, i ≤ n ∧ u = .int .i64 (i : Nat) ∧ (∃ a1 m c1, y = .slice a1 m c1 ∧ Own wr w.heap.size a1 m c1 (scG (i0 + i1) I (datas' rs) G i).2 ∧ Disj (foot a1 c1) F1) ∧ Mk 81 wr b g i0 i1 (scG (i0 + i1) I (datas' rs) G i).1 F1 oa on oc ∧ Stp F w F1 wr) (fun _ u _ => n - (intOf u).toNat)
  case atStart => exact ⟨0, F, Nat.zero_le _, rfl, ⟨_, 0, _, rfl, Own.nil0 _ _ _, foot_nil _ _⟩, h.alloc _, (Stp.refl _ _).alloc _⟩
  case round =>
    obtain ⟨i, F1, hk, rfl, ⟨a1, m, c1, rfl, own, dd⟩, M1, S1⟩ := hrel
    by_cases hlt : i < n
    · have hil : i < (datas' rs).length := by rw [datas_len, HR.out]; exact hlt
      obtain ⟨hG, hG2⟩ := scG_len (B := i0 + i1) (idx := I) (G := G) HAL.out i (by omega)
      rw [← HI.out] at hG
      have hGb : (6 * v + 3 + 6 * wd) * i ≤ 200 * 8 := Nat.mul_le_mul (by omega) (by omega)
      have HS0 := scG_succ (i0 + i1) I (datas' rs) G i
      rw [datas_getD _ _ (by rw [HR.out]; exact hlt)] at HS0
      have hcl := HAL.out.at i hil
      rw [datas_getD _ _ (by rw [HR.out]; exact hlt)] at hcl
      obtain ⟨gc, oc', hgc, _, dr⟩ := dc.at i hlt
      subst hgc
      have ci := (dc.stp S1).cellsAt i hlt
      generalize rowAt rs i = r at *
      obtain ⟨ra, rc, C⟩ := r
      simp only at HS0 hcl ci dr
      have hO : (scG (i0 + i1) I (datas' rs) G i).2 = [] ∨ 0 < i := by cases i with | zero => exact .inl rfl | succ i => exact .inr (by omega)
      obtain ⟨⟨G1, O⟩, hr⟩ : ∃ r, r = (scG (i0 + i1) I (datas' rs) G i) := ⟨_, rfl⟩
      rw [← hr] at HS0 hG hG2 M1 own hO
      clear hr
      simp only at hG hG2 M1 own hO
      unfold scT at HS0
      simp only at HS0
      have hm := maG_len (i0 + i1) i I G1
      rw [← HI.out] at hm
      rw [hcl] at ci dr HS0
      go_wp2_with fail
      clear ci
      refine (match_any _ _ _ _ _ b g i0 i1 _ F1 _ M1 (Nat.le_trans hb S1.size) h0 h1 (dx.stp S1) (by omega) (by omega) (by omega)).mono ?_; rintro e wm1 ⟨rfl, Fm1, Mm1, sm1⟩
      have Sm1 := S1.trans sm1
      obtain ⟨om1, dm1⟩ := own.stp dd sm1
      clear M1 S1 sm1 own dd
      obtain ⟨⟨G2, z⟩, hz⟩ : ∃ r, r = maG (i0 + i1) i I G1 := ⟨_, rfl⟩
      rw [← hz] at HS0 hm Mm1
      try rw [← hz]
      clear hz
      simp only at HS0 hm Mm1
      by_cases hi0 : i = 0
      · have hbi : (((i : Nat) : Int) == 0) = true := by simp [hi0]
        have hOn : O = [] := by rcases hO with e | e; exact e; omega
        have hm0 : m = 0 := by have := om1.len; rw [hOn] at this; simpa using this
        have HB : Hid ((i == 0) = true) := Lib.hid (by simp [hi0])
        subst hm0 hOn
        clear hi0 hO
        go_wp2
        go_loopw [7, 28] (fun y u wx => ∃ k F2, k ≤ wd ∧ u = .int .i64 (k : Nat) ∧ (∃ a1 c1, y = .slice a1 k c1 ∧ Own wx w.heap.size a1 k c1 (scI (i0 + i1) z C [] (i == 0) G2 k).2 ∧ Disj (foot a1 c1) F2) ∧ Mk 81 wx b g i0 i1 (scI (i0 + i1) z C [] (i == 0) G2 k).1 F2 oa on oc ∧ Stp F w F2 wx) (fun _ u _ => wd - (intOf u).toNat)
        case atStart => exact ⟨0, Fm1, Nat.zero_le _, rfl, ⟨_, _, rfl, om1, dm1⟩, Mm1, Sm1⟩
        case round =>
          obtain ⟨k, F2, hkw, rfl, ⟨a2, c2, rfl, own2, dd2⟩, M2, S2⟩ := hrel
          clear om1 dm1 Mm1 Sm1
          by_cases hlt2 : k < wd
          · obtain ⟨hI1, hI2⟩ := scI_len (i0 + i1) z C [] (i == 0) G2 k
            have HI0 := scI_succ (i0 + i1) z C [] (i == 0) G2 k
            obtain ⟨gx, ox, hgx, _⟩ := dr.ints.at k hlt2
            subst hgx
            have cx := (dr.stp S2).ints.cellsAt k hlt2
            generalize C.getD k 0 = x at *
            obtain ⟨⟨G3, N⟩, hr3⟩ : ∃ r, r = (scI (i0 + i1) z C [] (i == 0) G2 k) := ⟨_, rfl⟩
            rw [← hr3] at HI0 hI1 hI2 M2 own2
            clear hr3
            simp only at hI1 hI2 M2 own2
            unfold scS at HI0
            rw [HB.out] at HI0
            simp only [if_true] at HI0
            have HS := Lib.hid HI0
            clear HI0
            go_wp2_with fail
            clear cx
            refine (and_any _ _ b g i0 i1 _ F2 _ M2 (Nat.le_trans hb S2.size) h0 h1 (by (try simp only [gt_len]); omega)).mono ?_; rintro e wm31 ⟨rfl, Fm31, Mm31, sm31⟩
            have Sm31 := S2.trans sm31
            obtain ⟨om31, dm31⟩ := own2.stp dd2 sm31
            clear M2 S2 sm31 own2 dd2
            go_wp2_with (at_builtin; refine wpList_appJ _ rfl _ _ rfl w.heap.size a2 k c2 N rfl (om31.alloc _) _ 1 1 [_] rfl (Ints.lit1 _ _ _) (by omega) (by have := Sm31.size; simp; omega) ?_)
            intro am32 cm32 wm32 om32 _ gm32 mm32
            have Om32 := Only.of_grown gm32
            have Mm32 := Mk.only (Mk.alloc Mm31 _) Om32 dm31
            have Sm32 := Stp.onto (Stp.alloc Sm31 _) Om32 (fun k hk => (om31.feet k hk).1)
            have dm32 : Disj (foot am32 cm32) Fm31 := mm32.disj dm31 (fun k hk => by have := (Mm31.feet k hk).2; simp; omega)
            clear Mm31 Sm31 om31 dm31 Om32 gm32 mm32
            go_wp2
            go_roundw
            case rel => exact ⟨k + 1, Fm31, by omega, by go_num, ⟨_, _, rfl, by rw [HB.out, HS.out]; exact om32, dm32⟩, by rw [HB.out, HS.out]; exact Mm32, Sm32⟩
            case measure => simp [intOf]; omega
          · obtain rfl : k = wd := by omega
            have HSS := Lib.hid HS0
            clear HS0
            go_wp2
            go_roundw
            case rel => exact ⟨i + 1, F2, by omega, by go_num, ⟨_, _, _, rfl, by rw [HSS.out]; exact own2, dd2⟩, by rw [HSS.out]; exact M2, S2⟩
            case measure => simp [intOf]; omega
      · have hbi : (((i : Nat) : Int) == 0) = false := by simp [hi0]
        have hOl : O.length = wd := hG2 (by omega)
        have hmw : m = wd := by rw [om1.len]; exact hOl
        have HB : Hid ((i == 0) = false) := Lib.hid (by simp [hi0])
        subst hmw
        clear hi0 hO
        go_wp2
        go_loopw [7, 28] (fun y u wx => ∃ k F2, k ≤ m ∧ u = .int .i64 (k : Nat) ∧ y = .slice a1 m c1 ∧ Own wx w.heap.size a1 m c1 ((scI (i0 + i1) z C O (i == 0) G2 k).2 ++ O.drop k) ∧ Disj (foot a1 c1) F2 ∧ Mk 81 wx b g i0 i1 (scI (i0 + i1) z C O (i == 0) G2 k).1 F2 oa on oc ∧ Stp F w F2 wx) (fun _ u _ => m - (intOf u).toNat)
        case atStart => exact ⟨0, Fm1, Nat.zero_le _, rfl, rfl, om1, dm1, Mm1, Sm1⟩
        case round =>
          obtain ⟨k, F2, hkw, rfl, rfl, own2, dd2, M2, S2⟩ := hrel
          clear om1 dm1 Mm1 Sm1
          by_cases hlt2 : k < m
          · obtain ⟨hI1, hI2⟩ := scI_len (i0 + i1) z C O (i == 0) G2 k
            have HI0 := scI_succ (i0 + i1) z C O (i == 0) G2 k
            obtain ⟨gx, ox, hgx, _⟩ := dr.ints.at k hlt2
            subst hgx
            have cx := (dr.stp S2).ints.cellsAt k hlt2
            have HT := fun x => set_mid (scI (i0 + i1) z C O (i == 0) G2 k).2 O k x hI2 (by omega)
            obtain ⟨ga, hga, hba, hga2, ca', fa, sa⟩ := own2.at k hlt2
            subst hga
            have eO : ((scI (i0 + i1) z C O (i == 0) G2 k).2 ++ O.drop k).getD k 0 = O.getD k 0 := by rw [List.getD_eq_getElem?_getD, List.getElem?_append_right (by omega), hI2, Nat.sub_self, List.getElem?_drop, Nat.add_zero, List.getD_eq_getElem?_getD]
            rw [eO] at ca'
            clear eO sa fa hba hga2
            obtain ⟨yo, hyo⟩ : ∃ yo, yo = O.getD k 0 := ⟨_, rfl⟩
            rw [← hyo] at ca' HI0
            have HYO := Lib.hid hyo
            clear hyo
            generalize C.getD k 0 = x at *
            obtain ⟨⟨G3, N⟩, hr3⟩ : ∃ r, r = (scI (i0 + i1) z C O (i == 0) G2 k) := ⟨_, rfl⟩
            rw [← hr3] at HI0 hI1 hI2 M2 own2 HT
            clear hr3
            simp only at hI1 hI2 M2 own2 HT
            unfold scS at HI0
            rw [HB.out] at HI0
            simp only [Bool.false_eq_true, if_false] at HI0
            have HS := Lib.hid HI0
            clear HI0
            go_wp2_with fail
            clear cx
            refine (and_any _ _ b g i0 i1 _ F2 _ M2 (Nat.le_trans hb S2.size) h0 h1 (by (try simp only [gt_len]); omega)).mono ?_; rintro e wm31 ⟨rfl, Fm31, Mm31, sm31⟩
            have Sm31 := S2.trans sm31
            obtain ⟨om31, dm31⟩ := own2.stp dd2 sm31
            clear M2 S2 sm31 own2 dd2
            have co := om31.ints.cellsAt k hlt2
            have eO2 : (N ++ O.drop k).getD k 0 = O.getD k 0 := by rw [List.getD_eq_getElem?_getD, List.getElem?_append_right (by omega), hI2, Nat.sub_self, List.getElem?_drop, Nat.add_zero, List.getD_eq_getElem?_getD]
            rw [eO2, ← HYO.out] at co
            clear eO2 ca'
            rw [Nat.zero_add] at co
            go_wp2_with fail
            clear co
            refine (xor_any _ _ b g i0 i1 _ Fm31 _ Mm31 (Nat.le_trans hb Sm31.size) h0 h1 (by (try simp only [gt_len]); omega)).mono ?_; rintro e wm32 ⟨rfl, Fm32, Mm32, sm32⟩
            have Sm32 := Sm31.trans sm32
            obtain ⟨om32, dm32⟩ := om31.stp dm31 sm32
            clear Mm31 Sm31 sm32 om31 dm31
            obtain ⟨ga', hga', _, _, ca', fa, sa⟩ := om32.at k hlt2
            cases hga'
            have ow3 := sa (gW (i0 + i1) (gt G3 1 z x))
            rw [HT] at ow3
            have O3 : Only (foot (some ⟨ga, 0, none⟩) c1) wm32 (wm32.setCell ⟨ga, k, none⟩ (.int .i64 (gW (i0 + i1) (gt G3 1 z x)))) := (Only.refl _ _).setCell _ _ (foot_mem (x := ⟨ga, 0, none⟩) (by have := om32.cap; omega))
            have M3 := Mk.only Mm32 O3 dm32
            have S3 := Stp.onto Sm32 O3 (fun q hq => (om32.feet q hq).1)
            have HW := Lib.hid ow3
            have HM := Lib.hid M3
            have HSt := Lib.hid S3
            clear ow3 M3 S3 O3 sa HT
            go_wp2
            go_roundw
            case rel => exact ⟨k + 1, Fm32, by omega, by go_num, rfl, by rw [HB.out, HS.out]; exact HW.out, dm32, by rw [HB.out, HS.out]; exact HM.out, HSt.out⟩
            case measure => simp [intOf]; omega
          · obtain rfl : k = m := by omega
            rw [List.drop_eq_nil_of_le (Nat.le_of_eq hOl), List.append_nil] at own2
            have HSS := Lib.hid HS0
            clear HS0
            go_wp2
            go_roundw
            case rel => exact ⟨i + 1, F2, by omega, by go_num, ⟨_, _, _, rfl, by rw [HSS.out]; exact own2, dd2⟩, by rw [HSS.out]; exact M2, S2⟩
            case measure => simp [intOf]; omega
    · obtain rfl : i = n := by omega
      go_wp2
      go_ret
      exact ⟨_, _, _, F1, rfl, own, dd, M1, S1⟩
end Go.Proofs.Ytkbhigdciokfkaa
