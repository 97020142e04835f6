/- The match of an index with a number. -/
import Derived.Test.YtkbhigdciokfkaaMkC
import Derived.Test.YtkbhigdciokfkaaMmM
import Derived.Test.YtkbhigdciokfkaaDigest
namespace Go.Proofs.Ytkbhigdciokfkaa
open Go.RowKit
theorem set_mid (l r : List Int) (k : Nat) (x : Int) (hl : l.length = k) (hk : k < r.length) : (l ++ r.drop k).set k x = l ++ [x] ++ r.drop (k + 1) := by
  subst hl
  rw [List.set_append_right _ _ (Nat.le_refl _), Nat.sub_self, List.drop_eq_getElem_cons hk, List.set_cons_zero, List.append_assoc]
  rfl
theorem keep_mid (l r : List Int) (k : Nat) (hk : k < r.length) : l ++ r.drop k = l ++ [r.getD k 0] ++ r.drop (k + 1) := by
  rw [List.drop_eq_getElem_cons hk, List.append_assoc]
  simp [List.getD, hk]
theorem Own.cellT {w b g n c l} (h : Own w b (some ⟨g, 0, none⟩) n c l) (j : Nat) (hj : j + 1 < n) : w.cell? ⟨g, 1 + j, none⟩ = some (.int .i64 (l.getD (j + 1) 0)) := by
  have := h.ints.cellsAt (j + 1) hj
  rw [Nat.zero_add, show j + 1 = 1 + j from Nat.add_comm _ _] at this
  rw [Nat.add_comm j 1]
  exact this
set_option maxHeartbeats 8000000 in
set_option maxRecDepth 100000 in
theorem match_any (i : Int) (ia : Option Addr) (v ic : Nat) (I : List Int) {oa : Option Addr} {on oc : Nat} (b g : Nat) (i0 i1 : Int) (G : List Int) (F : List Nat) (w : World) (h : Mk 81 w b g i0 i1 G F oa on oc) (hb : b ≤ w.heap.size) (h0 : 0 ≤ i0 ∧ i0 ≤ 1000) (h1 : 0 ≤ i1 ∧ i1 ≤ 1000) (dx : IntD w ia v ic I F) (hi : 0 ≤ i ∧ i ≤ 1000) (hv : v ≤ 50) (hl : G.length ≤ 20000) :
    Calls Try.prog 56 #[.pointer (some ⟨g, 0, none⟩), .slice ia v ic, .int .i64 i] w fun e w' => e = .returned (.int .i64 (maG (i0 + i1) i I G).2) ∧ ∃ F', Mk 81 w' b g i0 i1 (maG (i0 + i1) i I G).1 F' oa on oc ∧ Stp F w F' w' := by
  have HI := Lib.hid dx.ints.len
  have hle := dx.ints.le
  go_enter Try.func56, Try.ntmps56
  go_wp2_with fail
  refine (Clone_any _ _ _ I _ dx.ints (by omega)).mono ?_; rintro e w1 ⟨a1, c1, rfl, o1, u1⟩
  have M1 := h.below u1
  have S1 : Stp F w F w1 := (Stp.refl _ _).below u1
  have d1 : Disj (foot a1 c1) F := Disj.of_rng o1.feet h.feet (.inr (Nat.le_refl _))
  clear u1
  go_wp2
  go_loopw [17] (fun u wr => ∃ k F1, k ≤ v ∧ u = .int .i64 (k : Nat) ∧ Own wr w.heap.size a1 v c1 ((mnG (i0 + i1) i I G k).2 ++ I.drop k) ∧ Disj (foot a1 c1) F1 ∧ Mk 81 wr b g i0 i1 (mnG (i0 + i1) i I G k).1 F1 oa on oc ∧ Stp F w F1 wr) (fun u _ => v - (intOf u).toNat)
  case atStart => exact ⟨0, F, Nat.zero_le _, rfl, o1, d1, M1, S1⟩
  case round =>
    obtain ⟨k, F1, hk, rfl, own, dd, M2, S2⟩ := hrel
    clear o1 d1 M1 S1
    by_cases hlt : k < v
    · have hG := mnG_len (i0 + i1) i I G k
      have HS0 := mnG_succ (i0 + i1) i I G k
      obtain ⟨gx, ox, hgx, _⟩ := dx.ints.at k hlt
      subst hgx
      have cx := (dx.stp S2).ints.cellsAt k hlt
      have hkI : k < I.length := by rw [← HI.out]; exact hlt
      have HK := Lib.hid (keep_mid (mnG (i0 + i1) i I G k).2 I k hkI)
      have HT := fun x => set_mid (mnG (i0 + i1) i I G k).2 I k x hG.2 hkI
      obtain ⟨x, ex⟩ : ∃ x, x = I.getD k 0 := ⟨_, rfl⟩
      rw [← ex] at HS0 cx HK
      clear ex
      obtain ⟨⟨G1, o1⟩, hr⟩ : ∃ r, r = (mnG (i0 + i1) i I G k) := ⟨_, rfl⟩
      rw [← hr] at HS0 hG M2 own HK HT
      clear hr
      simp only at hG M2 own HK HT
      have t2 : IntKind.u64.wrap (k : Int) = (k : Int) := IntWalk.u64_in _ (by omega)
      obtain ⟨r0, r1⟩ := shr_rng i k (by omega) (by omega)
      have t3 : bits BinOp.and IntKind.i64 (i / 2 ^ k) 1 = i / 2 ^ k % 2 := and_one_i64 _ (by omega) (by omega)
      by_cases hb : i / 2 ^ k % 2 = 1
      · unfold mnS at HS0
        rw [if_pos hb] at HS0
        have HS := Lib.hid HS0
        clear HS0 HT
        have t4 : ((bits BinOp.and IntKind.i64 (i / 2 ^ k) 1 == 0) : Bool) = false := by rw [t3, hb]; rfl
        clear hb t3
        go_wp2
        go_roundw
        case rel => exact ⟨k + 1, F1, by omega, by go_num, by rw [HS.out, ← HK.out]; exact own, dd, by rw [HS.out]; exact M2, S2⟩
        case measure => simp [intOf]; omega
      · have hb0 : i / 2 ^ k % 2 = 0 := by omega
        unfold mnS at HS0
        rw [if_neg hb] at HS0
        have HS := Lib.hid HS0
        clear HS0 HK
        have t4 : ((bits BinOp.and IntKind.i64 (i / 2 ^ k) 1 == 0) : Bool) = true := by rw [t3, hb0]; rfl
        clear hb hb0 t3
        go_wp2_with fail
        refine (not_any _ b g i0 i1 _ F1 _ M2 (Nat.le_trans hb S2.size) h0 h1 (by (try simp only [gt_len]); omega)).mono ?_; rintro e wm1 ⟨rfl, Fm1, Mm1, sm1⟩
        have Sm1 := S2.trans sm1
        obtain ⟨om1, dm1⟩ := own.stp dd sm1
        clear M2 S2 sm1 own dd
        obtain ⟨ga, hga, hba, hga2, ca, fa, sa⟩ := om1.at k hlt
        subst hga
        have ow3 := sa (gW (i0 + i1) G1)
        rw [HT] at ow3
        have O3 : Only (foot (some ⟨ga, 0, none⟩) c1) wm1 (wm1.setCell ⟨ga, k, none⟩ (.int .i64 (gW (i0 + i1) G1))) := (Only.refl _ _).setCell _ _ (foot_mem (x := ⟨ga, 0, none⟩) (by have := om1.cap; omega))
        have M3 := Mk.only Mm1 O3 dm1
        have S3 := Stp.onto Sm1 O3 (fun q hq => (om1.feet q hq).1)
        have HW := Lib.hid ow3
        have HM := Lib.hid M3
        have HSt := Lib.hid S3
        clear ow3 M3 S3 O3 sa HT
        go_wp2
        go_roundw
        case rel => exact ⟨k + 1, Fm1, by omega, by go_num, by rw [HS.out]; exact HW.out, dm1, by rw [HS.out]; exact HM.out, HSt.out⟩
        case measure => simp [intOf]; omega
    · obtain rfl : k = v := by omega
      have hG := mnG_len (i0 + i1) i I G k
      have eL : I.drop k = [] := List.drop_eq_nil_of_le (by rw [← HI.out]; exact Nat.le_refl _)
      rw [eL, List.append_nil] at own
      have HM : Hid (maG (i0 + i1) i I G = if k = 0 then (gt G 3 0 0, gW (i0 + i1) G) else anG (i0 + i1) (mnG (i0 + i1) i I G k).2 (mnG (i0 + i1) i I G k).1 (k - 1)) := Lib.hid (by unfold maG; rw [← HI.out])
      have H0 : k = 0 → (mnG (i0 + i1) i I G k).1 = G := fun e => by rw [e]; rfl
      obtain ⟨⟨G1, l⟩, hr⟩ : ∃ r, r = (mnG (i0 + i1) i I G k) := ⟨_, rfl⟩
      rw [← hr] at hG M2 own HM H0
      clear hr
      simp only at hG M2 own HM H0
      by_cases hk0 : k = 0
      · have HM2 : Hid (maG (i0 + i1) i I G = (gt G 3 0 0, gW (i0 + i1) G)) := Lib.hid (by rw [HM.out, if_pos hk0])
        rw [H0 hk0] at M2
        have t5 : (((k : Nat) : Int) == 0) = true := by simp [hk0]
        have hge : ¬ (k : Int) < (k : Int) := by omega
        clear hk0 H0 HM
        go_wp2_with fail
        refine (gate_any _ _ _ b g i0 i1 _ F1 _ M2 (Nat.le_trans hb S2.size) h0 h1 (by omega)).mono ?_; rintro e w3 ⟨rfl, F3, M3, s3⟩
        go_wp2
        go_ret
        exact ⟨by rw [HM2.out]; rfl, F3, by rw [HM2.out]; exact M3, S2.trans s3⟩
      · have HM2 : Hid (maG (i0 + i1) i I G = anG (i0 + i1) l G1 (k - 1)) := Lib.hid (by rw [HM.out, if_neg hk0])
        have t5 : (((k : Nat) : Int) == 0) = false := by simp [hk0]
        have hge : ¬ (k : Int) < (k : Int) := by omega
        have hk1 : 1 ≤ k := by omega
        obtain ⟨n, hn⟩ : ∃ n, k = n + 1 := ⟨k - 1, by omega⟩
        have HN := Lib.hid hn
        clear hk0 H0 HM hn
        obtain ⟨ga, oo, hga, c0⟩ := own.ints.at 0 (by omega)
        obtain ⟨ga2, hga2, _⟩ := own.at 0 (by omega)
        rw [hga] at hga2
        simp only [Option.some.injEq, Addr.mk.injEq, and_true] at hga2
        obtain ⟨rfl, rfl⟩ := hga2
        subst hga
        have hcap := own.cap
        obtain ⟨hcap, hcap2⟩ := hcap
        by_cases hc1 : c1 = 1
        · go_wp2
          go_loopw [10, 46] (fun z u wx => ∃ j F2, j + 1 ≤ k ∧ u = .int .i64 (j : Nat) ∧ z = .int .i64 (anG (i0 + i1) l G1 j).2 ∧ Own wx w.heap.size (some ⟨ga, 0, none⟩) k c1 l ∧ Disj (foot (some ⟨ga, 0, none⟩) c1) F2 ∧ Mk 81 wx b g i0 i1 (anG (i0 + i1) l G1 j).1 F2 oa on oc ∧ Stp F w F2 wx) (fun _ u _ => k - (intOf u).toNat)
          case atStart => exact ⟨0, F1, by omega, rfl, rfl, own, dd, M2, S2⟩
          case round =>
            obtain ⟨j, F2, hj, rfl, rfl, own2, dd2, M9, S9⟩ := hrel
            clear own dd M2 S2 c0
            have hA := anG_len (i0 + i1) l G1 j
            have HS := Lib.hid (anG_succ (i0 + i1) l G1 j)
            by_cases hlt2 : j + 1 < k
            · exact absurd hlt2 (by omega)
            · obtain rfl : j = n := by have := HN.out; omega
              have HJ := Lib.hid (show k - 1 = j by have := HN.out; omega)
              have hlt3 : ¬ (j : Int) < ((k - 1 : Nat) : Int) := by omega
              go_wp2
              go_ret
              exact ⟨by rw [HM2.out, HJ.out]; rfl, F2, by rw [HM2.out, HJ.out]; exact M9, S9⟩
        · go_wp2
          go_loopw [10, 46] (fun z u wx => ∃ j F2, j + 1 ≤ k ∧ u = .int .i64 (j : Nat) ∧ z = .int .i64 (anG (i0 + i1) l G1 j).2 ∧ Own wx w.heap.size (some ⟨ga, 0, none⟩) k c1 l ∧ Disj (foot (some ⟨ga, 0, none⟩) c1) F2 ∧ Mk 81 wx b g i0 i1 (anG (i0 + i1) l G1 j).1 F2 oa on oc ∧ Stp F w F2 wx) (fun _ u _ => k - (intOf u).toNat)
          case atStart => exact ⟨0, F1, by omega, rfl, rfl, own, dd, M2, S2⟩
          case round =>
            obtain ⟨j, F2, hj, rfl, rfl, own2, dd2, M9, S9⟩ := hrel
            clear own dd M2 S2 c0
            have hA := anG_len (i0 + i1) l G1 j
            have HS := Lib.hid (anG_succ (i0 + i1) l G1 j)
            by_cases hlt2 : j + 1 < k
            · have cj := own2.cellT j hlt2
              generalize l.getD (j + 1) 0 = y at *
              obtain ⟨⟨G2, z2⟩, hr2⟩ : ∃ r, r = anG (i0 + i1) l G1 j := ⟨_, rfl⟩
              rw [← hr2] at HS hA M9
              rw [← hr2]
              clear hr2
              unfold anS at HS
              simp only at hA HS M9
              have hlt3 : (j : Int) < ((k - 1 : Nat) : Int) := by omega
              go_wp2_with fail
              clear cj
              refine (and_any _ _ b g i0 i1 _ F2 _ M9 (Nat.le_trans hb S9.size) h0 h1 (by (try simp only [gt_len]); omega)).mono ?_; rintro e wm1 ⟨rfl, Fm1, Mm1, sm1⟩
              have Sm1 := S9.trans sm1
              obtain ⟨om1, dm1⟩ := own2.stp dd2 sm1
              clear M9 S9 sm1 own2 dd2
              go_wp2
              go_roundw
              case rel => exact ⟨j + 1, Fm1, by omega, by go_num, by rw [HS.out], om1, dm1, by rw [HS.out]; exact Mm1, Sm1⟩
              case measure => simp [intOf]; omega
            · obtain rfl : j = n := by have := HN.out; omega
              have HJ := Lib.hid (show k - 1 = j by have := HN.out; omega)
              have hlt3 : ¬ (j : Int) < ((k - 1 : Nat) : Int) := by omega
              go_wp2
              go_ret
              exact ⟨by rw [HM2.out, HJ.out]; rfl, F2, by rw [HM2.out, HJ.out]; exact M9, S9⟩
set_option maxHeartbeats 8000000 in
set_option maxRecDepth 100000 in
theorem meMatch_any (i : Int) (ia : Option Addr) (v ic : Nat) (I : List Int) {oa : Option Addr} {on oc : Nat} (b g : Nat) (i0 i1 : Int) (G : List Int) (F : List Nat) (w : World) (h : Mk 79 w b g i0 i1 G F oa on oc) (hb : b ≤ w.heap.size) (h0 : 0 ≤ i0 ∧ i0 ≤ 1000) (h1 : 0 ≤ i1 ∧ i1 ≤ 1000) (dx : IntD w ia v ic I F) (hi : 0 ≤ i ∧ i ≤ 1000) (hv : v ≤ 50) (hl : G.length ≤ 20000) :
    Calls Try.prog 136 #[.pointer (some ⟨g, 0, none⟩), .slice ia v ic, .int .i64 i] w fun e w' => e = .returned (.int .i64 (maG (i0 + i1) i I G).2) ∧ ∃ F', Mk 79 w' b g i0 i1 (maG (i0 + i1) i I G).1 F' oa on oc ∧ Stp F w F' w' := by
  have HI := Lib.hid dx.ints.len
  have hle := dx.ints.le
  by_cases hv0 : v = 0
  · have HM2 : Hid (maG (i0 + i1) i I G = (gt G 3 0 0, gW (i0 + i1) G)) := Lib.hid (by unfold maG; rw [if_pos (by rw [← HI.out]; exact hv0)])
    have t5 : (((v : Nat) : Int) == 0) = true := by simp [hv0]
    clear hv0
    go_enter Try.func136, Try.ntmps136
    go_wp2_with fail
    refine (sone_any b g i0 i1 _ F _ h hb h0 h1 (by omega)).mono ?_; rintro e w3 ⟨rfl, F3, M3, s3⟩
    go_wp2
    go_ret
    exact ⟨by rw [HM2.out]; rfl, F3, by rw [HM2.out]; exact M3, s3⟩
  have t5 : (((v : Nat) : Int) == 0) = false := by simp [hv0]
  have HM : Hid (maG (i0 + i1) i I G = anG (i0 + i1) (mnG (i0 + i1) i I G v).2 (mnG (i0 + i1) i I G v).1 (v - 1)) := Lib.hid (by unfold maG; rw [← HI.out, if_neg hv0])
  obtain ⟨n, hn⟩ : ∃ n, v = n + 1 := ⟨v - 1, by omega⟩
  have HN := Lib.hid hn
  clear hn hv0
  go_enter Try.func136, Try.ntmps136
  go_wp2_with fail
  refine (btOf_any i v _ (by omega) (by omega)).mono ?_; rintro e w2 ⟨ba, bc, rfl, ob, u2⟩
  have M2 := h.below u2
  have dx2 := dx.below u2
  have dB := ob.intD (Disj.of_rng ob.feet h.feet (.inr (Nat.le_refl _)))
  have hb2 : b ≤ w2.heap.size := Nat.le_trans hb u2.size
  have SB : Stp F w F w2 := (Stp.refl _ _).below u2
  clear ob u2 dx h hb
  have hb := hb2
  clear hb2
  go_wp2
  go_loopw [7, 23] (fun y u wr => ∃ k F1, k ≤ v ∧ u = .int .i64 (k : Nat) ∧ (∃ a1 c1, y = .slice a1 k c1 ∧ Own wr w2.heap.size a1 k c1 (mnG (i0 + i1) i I G k).2 ∧ Disj (foot a1 c1) F1) ∧ Mk 79 wr b g i0 i1 (mnG (i0 + i1) i I G k).1 F1 oa on oc ∧ Stp F w2 F1 wr) (fun _ u _ => v - (intOf u).toNat)
  case atStart => exact ⟨0, F, Nat.zero_le _, rfl, ⟨_, _, rfl, Own.nil0 _ _ _, foot_nil _ _⟩, M2, Stp.refl _ _⟩
  case round =>
    obtain ⟨k, F1, hk, rfl, ⟨a1, c1, rfl, own, dd⟩, M3, S3⟩ := hrel
    clear M2
    by_cases hlt : k < v
    · have hG := mnG_len (i0 + i1) i I G k
      have HS0 := mnG_succ (i0 + i1) i I G k
      obtain ⟨gx, ox, hgx, _⟩ := dx2.ints.at k hlt
      subst hgx
      obtain ⟨gy, oy, hgy, _⟩ := dB.ints.at k hlt
      subst hgy
      have cx := (dx2.stp S3).ints.cellsAt k hlt
      have cy := (dB.stp S3).ints.cellsAt k hlt
      have hq : (btL i v).getD k 0 = i / 2 ^ k % 2 := by simp [btL, List.getD, hlt]
      rw [hq] at cy
      clear hq
      obtain ⟨x, ex⟩ : ∃ x, x = I.getD k 0 := ⟨_, rfl⟩
      rw [← ex] at HS0 cx
      clear ex
      obtain ⟨⟨G1, o1⟩, hr⟩ : ∃ r, r = (mnG (i0 + i1) i I G k) := ⟨_, rfl⟩
      rw [← hr] at HS0 hG M3 own
      clear hr
      simp only at hG M3 own
      unfold mnS at HS0
      by_cases hb1 : i / 2 ^ k % 2 = 1
      · rw [if_pos hb1] at HS0
        have HS := Lib.hid HS0
        clear HS0
        rw [hb1] at cy
        clear hb1
        go_wp2_with (at_builtin; refine wpList_appJ _ rfl _ _ rfl w2.heap.size a1 k c1 o1 rfl (own.alloc _) _ 1 1 [_] rfl (Ints.lit1 _ _ _) (by omega) (by have := S3.size; simp; omega) ?_)
        intro am1 cm1 wm1 om1 _ gm1 mm1
        have Om1 := Only.of_grown gm1
        have Mm1 := Mk.only (Mk.alloc M3 _) Om1 dd
        have Sm1 := Stp.onto (Stp.alloc S3 _) Om1 (fun k hk => (own.feet k hk).1)
        have dm1 : Disj (foot am1 cm1) F1 := mm1.disj dd (fun k hk => by have := (M3.feet k hk).2; simp; omega)
        clear M3 S3 own dd Om1 gm1 mm1
        clear cx cy
        go_wp2
        go_roundw
        case rel => exact ⟨k + 1, F1, by omega, by go_num, ⟨_, _, rfl, by rw [HS.out]; exact om1, dm1⟩, by rw [HS.out]; exact Mm1, Sm1⟩
        case measure => simp [intOf]; omega
      · rw [if_neg hb1] at HS0
        have HS := Lib.hid HS0
        clear HS0
        have e0 : i / 2 ^ k % 2 = 0 := by omega
        rw [e0] at cy
        clear hb1 e0
        go_wp2_with fail
        clear cx cy
        refine (snot_any _ b g i0 i1 _ F1 _ M3 (Nat.le_trans hb S3.size) h0 h1 (by (try simp only [gt_len]); omega)).mono ?_; rintro e wm1 ⟨rfl, Fm1, Mm1, sm1⟩
        have Sm1 := S3.trans sm1
        obtain ⟨om1, dm1⟩ := own.stp dd sm1
        clear M3 S3 sm1 own dd
        go_wp2_with (at_builtin; refine wpList_appJ _ rfl _ _ rfl w2.heap.size a1 k c1 o1 rfl (om1.alloc _) _ 1 1 [_] rfl (Ints.lit1 _ _ _) (by omega) (by have := Sm1.size; simp; omega) ?_)
        intro am2 cm2 wm2 om2 _ gm2 mm2
        have Om2 := Only.of_grown gm2
        have Mm2 := Mk.only (Mk.alloc Mm1 _) Om2 dm1
        have Sm2 := Stp.onto (Stp.alloc Sm1 _) Om2 (fun k hk => (om1.feet k hk).1)
        have dm2 : Disj (foot am2 cm2) Fm1 := mm2.disj dm1 (fun k hk => by have := (Mm1.feet k hk).2; simp; omega)
        clear Mm1 Sm1 om1 dm1 Om2 gm2 mm2
        go_wp2
        go_roundw
        case rel => exact ⟨k + 1, Fm1, by omega, by go_num, ⟨_, _, rfl, by rw [HS.out]; exact om2, dm2⟩, by rw [HS.out]; exact Mm2, Sm2⟩
        case measure => simp [intOf]; omega
    · obtain rfl : k = v := by omega
      have hG := mnG_len (i0 + i1) i I G k
      obtain ⟨⟨G1, l⟩, hr⟩ : ∃ r, r = (mnG (i0 + i1) i I G k) := ⟨_, rfl⟩
      rw [← hr] at hG M3 own HM
      clear hr
      simp only at hG M3 own HM
      have HM2 := HM
      clear HM
      have hge : ¬ (k : Int) < (k : Int) := by omega
      have hk1 : 1 ≤ k := by have := HN.out; omega
      obtain ⟨ga, oo, hga, c0⟩ := own.ints.at 0 (by omega)
      obtain ⟨ga2, hga2, _⟩ := own.at 0 (by omega)
      rw [hga] at hga2
      simp only [Option.some.injEq, Addr.mk.injEq, and_true] at hga2
      obtain ⟨rfl, rfl⟩ := hga2
      subst hga
      have hcap := own.cap
      obtain ⟨hcap, hcap2⟩ := hcap
      by_cases hc1 : c1 = 1
      · go_wp2
        go_loopw [10, 53] (fun z u wx => ∃ j F2, j + 1 ≤ k ∧ u = .int .i64 (j : Nat) ∧ z = .int .i64 (anG (i0 + i1) l G1 j).2 ∧ Own wx w2.heap.size (some ⟨ga, 0, none⟩) k c1 l ∧ Disj (foot (some ⟨ga, 0, none⟩) c1) F2 ∧ Mk 79 wx b g i0 i1 (anG (i0 + i1) l G1 j).1 F2 oa on oc ∧ Stp F w2 F2 wx) (fun _ u _ => k - (intOf u).toNat)
        case atStart => exact ⟨0, F1, by omega, rfl, rfl, own, dd, M3, S3⟩
        case round =>
          obtain ⟨j, F2, hj, rfl, rfl, own2, dd2, M9, S9⟩ := hrel
          clear own dd M3 S3 c0
          have hA := anG_len (i0 + i1) l G1 j
          have HS := Lib.hid (anG_succ (i0 + i1) l G1 j)
          by_cases hlt2 : j + 1 < k
          · exact absurd hlt2 (by omega)
          · obtain rfl : j = n := by have := HN.out; omega
            have HJ := Lib.hid (show k - 1 = j by have := HN.out; omega)
            have hlt3 : ¬ (j : Int) < ((k - 1 : Nat) : Int) := by omega
            go_wp2
            go_ret
            exact ⟨by rw [HM2.out, HJ.out]; rfl, F2, by rw [HM2.out, HJ.out]; exact M9, SB.trans S9⟩
      · go_wp2
        go_loopw [10, 53] (fun z u wx => ∃ j F2, j + 1 ≤ k ∧ u = .int .i64 (j : Nat) ∧ z = .int .i64 (anG (i0 + i1) l G1 j).2 ∧ Own wx w2.heap.size (some ⟨ga, 0, none⟩) k c1 l ∧ Disj (foot (some ⟨ga, 0, none⟩) c1) F2 ∧ Mk 79 wx b g i0 i1 (anG (i0 + i1) l G1 j).1 F2 oa on oc ∧ Stp F w2 F2 wx) (fun _ u _ => k - (intOf u).toNat)
        case atStart => exact ⟨0, F1, by omega, rfl, rfl, own, dd, M3, S3⟩
        case round =>
          obtain ⟨j, F2, hj, rfl, rfl, own2, dd2, M9, S9⟩ := hrel
          clear own dd M3 S3 c0
          have hA := anG_len (i0 + i1) l G1 j
          have HS := Lib.hid (anG_succ (i0 + i1) l G1 j)
          by_cases hlt2 : j + 1 < k
          · have cj := own2.cellT j hlt2
            generalize l.getD (j + 1) 0 = y at *
            obtain ⟨⟨G2, z2⟩, hr2⟩ : ∃ r, r = anG (i0 + i1) l G1 j := ⟨_, rfl⟩
            rw [← hr2] at HS hA M9
            rw [← hr2]
            clear hr2
            unfold anS at HS
            simp only at hA HS M9
            have hlt3 : (j : Int) < ((k - 1 : Nat) : Int) := by omega
            go_wp2_with fail
            clear cj
            refine (sand_any _ _ b g i0 i1 _ F2 _ M9 (Nat.le_trans hb S9.size) h0 h1 (by (try simp only [gt_len]); omega)).mono ?_; rintro e wm1 ⟨rfl, Fm1, Mm1, sm1⟩
            have Sm1 := S9.trans sm1
            obtain ⟨om1, dm1⟩ := own2.stp dd2 sm1
            clear M9 S9 sm1 own2 dd2
            go_wp2
            go_roundw
            case rel => exact ⟨j + 1, Fm1, by omega, by go_num, by rw [HS.out], om1, dm1, by rw [HS.out]; exact Mm1, Sm1⟩
            case measure => simp [intOf]; omega
          · obtain rfl : j = n := by have := HN.out; omega
            have HJ := Lib.hid (show k - 1 = j by have := HN.out; omega)
            have hlt3 : ¬ (j : Int) < ((k - 1 : Nat) : Int) := by omega
            go_wp2
            go_ret
            exact ⟨by rw [HM2.out, HJ.out]; rfl, F2, by rw [HM2.out, HJ.out]; exact M9, SB.trans S9⟩
end Go.Proofs.Ytkbhigdciokfkaa
