/- Lemmas and walks that the claim's proof rests on, part 4. -/
import Derived.Test.YtmbheimjphhamaaK2
import Derived.Test.YtmbheimjphhamaaK3
namespace Go.Proofs.Ytmbheimjphhamaa
open Go.RowKit
theorem set_mid (l r : List Int) (k : Nat) (x : Int) (hl : l.length = k) (hk : k < r.length) : (l ++ r.drop k).set k x = l ++ [x] ++ r.drop (k + 1) := by
  subst hl
  rw [List.set_append_right _ _ (Nat.le_refl _), Nat.sub_self, List.drop_eq_getElem_cons hk, List.set_cons_zero, List.append_assoc]
  rfl
theorem keep_mid (l r : List Int) (k : Nat) (hk : k < r.length) : l ++ r.drop k = l ++ [r.getD k 0] ++ r.drop (k + 1) := by
  rw [List.drop_eq_getElem_cons hk, List.append_assoc]
  simp [List.getD, hk]
theorem Own.cellT {w b g n c l} (h : Own w b (some ⟨g, 0, none⟩) n c l) (j : Nat) (hj : j + 1 < n) : w.cell? ⟨g, 1 + j, none⟩ = some (.int .i64 (l.getD (j + 1) 0)) := by
  have := h.ints.cellsAt (j + 1) hj
  rw [Nat.zero_add, show j + 1 = 1 + j from Nat.add_comm _ _] at this
  rw [Nat.add_comm j 1]
  exact this
set_option maxHeartbeats 8000000 in
set_option maxRecDepth 100000 in
theorem match_any (i : Int) (ia : Option Addr) (v ic : Nat) (I : List Int) {oa : Option Addr} {on oc : Nat} (b g : Nat) (i0 i1 : Int) (G : List Int) (F : List Nat) (w : World) (h : Mk 82 w b g i0 i1 G F oa on oc) (hb : b ≤ w.heap.size) (h0 : 0 ≤ i0 ∧ i0 ≤ 1000) (h1 : 0 ≤ i1 ∧ i1 ≤ 1000) (dx : IntD w ia v ic I F) (hi : 0 ≤ i ∧ i ≤ 1000) (hv : v ≤ 50) (hl : G.length ≤ 20000) :
    Calls Try.prog 36 #[.pointer (some ⟨g, 0, none⟩), .slice ia v ic, .int .i64 i] w fun e w' => e = .returned (.int .i64 (maG (i0 + i1) i I G).2) ∧ ∃ F', Mk 82 w' b g i0 i1 (maG (i0 + i1) i I G).1 F' oa on oc ∧ Stp F w F' w' := by
  have HI := Lib.hid dx.ints.len
  have hle := dx.ints.le
  go_enter Try.func36, Try.ntmps36
  go_wp2_with fail
  refine (Clone_any _ _ _ I _ dx.ints (by omega)).mono ?_; rintro e w1 ⟨a1, c1, rfl, o1, u1⟩
  have M1 := h.below u1
  have S1 : Stp F w F w1 := (Stp.refl _ _).below u1
  have d1 : Disj (foot a1 c1) F := Disj.of_rng o1.feet h.feet (.inr (Nat.le_refl _))
  clear u1
  go_wp2
  go_loopw [17] (fun u wr => ∃ k F1, k ≤ v ∧ u = .int .i64 (k : Nat) ∧ Own wr w.heap.size a1 v c1 ((mnG (i0 + i1) i I G k).2 ++ I.drop k) ∧ Disj (foot a1 c1) F1 ∧ Mk 82 wr b g i0 i1 (mnG (i0 + i1) i I G k).1 F1 oa on oc ∧ Stp F w F1 wr) (fun u _ => v - (intOf u).toNat)
  case atStart => exact ⟨0, F, Nat.zero_le _, rfl, o1, d1, M1, S1⟩
  case round =>
    obtain ⟨k, F1, hk, rfl, own, dd, M2, S2⟩ := hrel
    clear o1 d1 M1 S1
    by_cases hlt : k < v
    · have hG := mnG_len (i0 + i1) i I G k
      have HS0 := mnG_succ (i0 + i1) i I G k
      obtain ⟨gx, ox, hgx, _⟩ := dx.ints.at k hlt
      subst hgx
      have cx := (dx.stp S2).ints.cellsAt k hlt
      have hkI : k < I.length := by rw [← HI.out]; exact hlt
      have HK := Lib.hid (keep_mid (mnG (i0 + i1) i I G k).2 I k hkI)
      have HT := fun x => set_mid (mnG (i0 + i1) i I G k).2 I k x hG.2 hkI
      obtain ⟨x, ex⟩ : ∃ x, x = I.getD k 0 := ⟨_, rfl⟩
      rw [← ex] at HS0 cx HK
      clear ex
      obtain ⟨⟨G1, o1⟩, hr⟩ : ∃ r, r = (mnG (i0 + i1) i I G k) := ⟨_, rfl⟩
      rw [← hr] at HS0 hG M2 own HK HT
      clear hr
      simp only at hG M2 own HK HT
      have t2 : IntKind.u64.wrap (k : Int) = (k : Int) := IntWalk.u64_in _ (by omega)
      obtain ⟨r0, r1⟩ := shr_rng i k (by omega) (by omega)
      have t3 : bits BinOp.and IntKind.i64 (i / 2 ^ k) 1 = i / 2 ^ k % 2 := and_one_i64 _ (by omega) (by omega)
      by_cases hb : i / 2 ^ k % 2 = 1
      · unfold mnS at HS0
        rw [if_pos hb] at HS0
        have HS := Lib.hid HS0
        clear HS0 HT
        have t4 : ((bits BinOp.and IntKind.i64 (i / 2 ^ k) 1 == 0) : Bool) = false := by rw [t3, hb]; rfl
        clear hb t3
        go_wp2
        go_roundw
        case rel => exact ⟨k + 1, F1, by omega, by go_num, by rw [HS.out, ← HK.out]; exact own, dd, by rw [HS.out]; exact M2, S2⟩
        case measure => simp [intOf]; omega
      · have hb0 : i / 2 ^ k % 2 = 0 := by omega
        unfold mnS at HS0
        rw [if_neg hb] at HS0
        have HS := Lib.hid HS0
        clear HS0 HK
        have t4 : ((bits BinOp.and IntKind.i64 (i / 2 ^ k) 1 == 0) : Bool) = true := by rw [t3, hb0]; rfl
        clear hb hb0 t3
        go_wp2_with fail
        refine (not_any _ b g i0 i1 _ F1 _ M2 (Nat.le_trans hb S2.size) h0 h1 (by (try simp only [gt_len]); omega)).mono ?_; rintro e wm1 ⟨rfl, Fm1, Mm1, sm1⟩
        have Sm1 := S2.trans sm1
        obtain ⟨om1, dm1⟩ := own.stp dd sm1
        clear M2 S2 sm1 own dd
        obtain ⟨ga, hga, hba, hga2, ca, fa, sa⟩ := om1.at k hlt
        subst hga
        have ow3 := sa (gW (i0 + i1) G1)
        rw [HT] at ow3
        have O3 : Only (foot (some ⟨ga, 0, none⟩) c1) wm1 (wm1.setCell ⟨ga, k, none⟩ (.int .i64 (gW (i0 + i1) G1))) := (Only.refl _ _).setCell _ _ (foot_mem (x := ⟨ga, 0, none⟩) (by have := om1.cap; omega))
        have M3 := Mk.only Mm1 O3 dm1
        have S3 := Stp.onto Sm1 O3 (fun q hq => (om1.feet q hq).1)
        have HW := Lib.hid ow3
        have HM := Lib.hid M3
        have HSt := Lib.hid S3
        clear ow3 M3 S3 O3 sa HT
        go_wp2
        go_roundw
        case rel => exact ⟨k + 1, Fm1, by omega, by go_num, by rw [HS.out]; exact HW.out, dm1, by rw [HS.out]; exact HM.out, HSt.out⟩
        case measure => simp [intOf]; omega
    · obtain rfl : k = v := by omega
      have hG := mnG_len (i0 + i1) i I G k
      have eL : I.drop k = [] := List.drop_eq_nil_of_le (by rw [← HI.out]; exact Nat.le_refl _)
      rw [eL, List.append_nil] at own
      have HM : Hid (maG (i0 + i1) i I G = if k = 0 then (gt G 3 0 0, gW (i0 + i1) G) else anG (i0 + i1) (mnG (i0 + i1) i I G k).2 (mnG (i0 + i1) i I G k).1 (k - 1)) := Lib.hid (by unfold maG; rw [← HI.out])
      have H0 : k = 0 → (mnG (i0 + i1) i I G k).1 = G := fun e => by rw [e]; rfl
      obtain ⟨⟨G1, l⟩, hr⟩ : ∃ r, r = (mnG (i0 + i1) i I G k) := ⟨_, rfl⟩
      rw [← hr] at hG M2 own HM H0
      clear hr
      simp only at hG M2 own HM H0
      by_cases hk0 : k = 0
      · have HM2 : Hid (maG (i0 + i1) i I G = (gt G 3 0 0, gW (i0 + i1) G)) := Lib.hid (by rw [HM.out, if_pos hk0])
        rw [H0 hk0] at M2
        have t5 : (((k : Nat) : Int) == 0) = true := by simp [hk0]
        have hge : ¬ (k : Int) < (k : Int) := by omega
        clear hk0 H0 HM
        go_wp2_with fail
        refine (gate_any _ _ _ b g i0 i1 _ F1 _ M2 (Nat.le_trans hb S2.size) h0 h1 (by omega)).mono ?_; rintro e w3 ⟨rfl, F3, M3, s3⟩
        go_wp2
        go_ret
        exact ⟨by rw [HM2.out]; rfl, F3, by rw [HM2.out]; exact M3, S2.trans s3⟩
      · have HM2 : Hid (maG (i0 + i1) i I G = anG (i0 + i1) l G1 (k - 1)) := Lib.hid (by rw [HM.out, if_neg hk0])
        have t5 : (((k : Nat) : Int) == 0) = false := by simp [hk0]
        have hge : ¬ (k : Int) < (k : Int) := by omega
        have hk1 : 1 ≤ k := by omega
        obtain ⟨n, hn⟩ : ∃ n, k = n + 1 := ⟨k - 1, by omega⟩
        have HN := Lib.hid hn
        clear hk0 H0 HM hn
        obtain ⟨ga, oo, hga, c0⟩ := own.ints.at 0 (by omega)
        obtain ⟨ga2, hga2, _⟩ := own.at 0 (by omega)
        rw [hga] at hga2
        simp only [Option.some.injEq, Addr.mk.injEq, and_true] at hga2
        obtain ⟨rfl, rfl⟩ := hga2
        subst hga
        have hcap := own.cap
        obtain ⟨hcap, hcap2⟩ := hcap
        by_cases hc1 : c1 = 1
        · go_wp2
          go_loopw [10, 46] (fun z u wx => ∃ j F2, j + 1 ≤ k ∧ u = .int .i64 (j : Nat) ∧ z = .int .i64 (anG (i0 + i1) l G1 j).2 ∧ Own wx w.heap.size (some ⟨ga, 0, none⟩) k c1 l ∧ Disj (foot (some ⟨ga, 0, none⟩) c1) F2 ∧ Mk 82 wx b g i0 i1 (anG (i0 + i1) l G1 j).1 F2 oa on oc ∧ Stp F w F2 wx) (fun _ u _ => k - (intOf u).toNat)
          case atStart => exact ⟨0, F1, by omega, rfl, rfl, own, dd, M2, S2⟩
          case round =>
            obtain ⟨j, F2, hj, rfl, rfl, own2, dd2, M9, S9⟩ := hrel
            clear own dd M2 S2 c0
            have hA := anG_len (i0 + i1) l G1 j
            have HS := Lib.hid (anG_succ (i0 + i1) l G1 j)
            by_cases hlt2 : j + 1 < k
            · exact absurd hlt2 (by omega)
            · obtain rfl : j = n := by have := HN.out; omega
              have HJ := Lib.hid (show k - 1 = j by have := HN.out; omega)
              have hlt3 : ¬ (j : Int) < ((k - 1 : Nat) : Int) := by omega
              go_wp2
              go_ret
              exact ⟨by rw [HM2.out, HJ.out]; rfl, F2, by rw [HM2.out, HJ.out]; exact M9, S9⟩
        · go_wp2
          go_loopw [10, 46] (fun z u wx => ∃ j F2, j + 1 ≤ k ∧ u = .int .i64 (j : Nat) ∧ z = .int .i64 (anG (i0 + i1) l G1 j).2 ∧ Own wx w.heap.size (some ⟨ga, 0, none⟩) k c1 l ∧ Disj (foot (some ⟨ga, 0, none⟩) c1) F2 ∧ Mk 82 wx b g i0 i1 (anG (i0 + i1) l G1 j).1 F2 oa on oc ∧ Stp F w F2 wx) (fun _ u _ => k - (intOf u).toNat)
          case atStart => exact ⟨0, F1, by omega, rfl, rfl, own, dd, M2, S2⟩
          case round =>
            obtain ⟨j, F2, hj, rfl, rfl, own2, dd2, M9, S9⟩ := hrel
            clear own dd M2 S2 c0
            have hA := anG_len (i0 + i1) l G1 j
            have HS := Lib.hid (anG_succ (i0 + i1) l G1 j)
            by_cases hlt2 : j + 1 < k
            · have cj := own2.cellT j hlt2
              generalize l.getD (j + 1) 0 = y at *
              obtain ⟨⟨G2, z2⟩, hr2⟩ : ∃ r, r = anG (i0 + i1) l G1 j := ⟨_, rfl⟩
              rw [← hr2] at HS hA M9
              rw [← hr2]
              clear hr2
              unfold anS at HS
              simp only at hA HS M9
              have hlt3 : (j : Int) < ((k - 1 : Nat) : Int) := by omega
              go_wp2_with fail
              clear cj
              refine (and_any _ _ b g i0 i1 _ F2 _ M9 (Nat.le_trans hb S9.size) h0 h1 (by (try simp only [gt_len]); omega)).mono ?_; rintro e wm1 ⟨rfl, Fm1, Mm1, sm1⟩
              have Sm1 := S9.trans sm1
              obtain ⟨om1, dm1⟩ := own2.stp dd2 sm1
              clear M9 S9 sm1 own2 dd2
              go_wp2
              go_roundw
              case rel => exact ⟨j + 1, Fm1, by omega, by go_num, by rw [HS.out], om1, dm1, by rw [HS.out]; exact Mm1, Sm1⟩
              case measure => simp [intOf]; omega
            · obtain rfl : j = n := by have := HN.out; omega
              have HJ := Lib.hid (show k - 1 = j by have := HN.out; omega)
              have hlt3 : ¬ (j : Int) < ((k - 1 : Nat) : Int) := by omega
              go_wp2
              go_ret
              exact ⟨by rw [HM2.out, HJ.out]; rfl, F2, by rw [HM2.out, HJ.out]; exact M9, S9⟩
set_option maxHeartbeats 8000000 in
set_option maxRecDepth 100000 in
theorem meMatch_any (i : Int) (ia : Option Addr) (v ic : Nat) (I : List Int) {oa : Option Addr} {on oc : Nat} (b g : Nat) (i0 i1 : Int) (G : List Int) (F : List Nat) (w : World) (h : Mk 105 w b g i0 i1 G F oa on oc) (hb : b ≤ w.heap.size) (h0 : 0 ≤ i0 ∧ i0 ≤ 1000) (h1 : 0 ≤ i1 ∧ i1 ≤ 1000) (dx : IntD w ia v ic I F) (hi : 0 ≤ i ∧ i ≤ 1000) (hv : v ≤ 50) (hl : G.length ≤ 20000) :
    Calls Try.prog 100 #[.pointer (some ⟨g, 0, none⟩), .slice ia v ic, .int .i64 i] w fun e w' => e = .returned (.int .i64 (maG (i0 + i1) i I G).2) ∧ ∃ F', Mk 105 w' b g i0 i1 (maG (i0 + i1) i I G).1 F' oa on oc ∧ Stp F w F' w' := by
  have HI := Lib.hid dx.ints.len
  have hle := dx.ints.le
  by_cases hv0 : v = 0
  · have HM2 : Hid (maG (i0 + i1) i I G = (gt G 3 0 0, gW (i0 + i1) G)) := Lib.hid (by unfold maG; rw [if_pos (by rw [← HI.out]; exact hv0)])
    have t5 : (((v : Nat) : Int) == 0) = true := by simp [hv0]
    clear hv0
    go_enter Try.func100, Try.ntmps100
    go_wp2_with fail
    refine (sone_any b g i0 i1 _ F _ h hb h0 h1 (by omega)).mono ?_; rintro e w3 ⟨rfl, F3, M3, s3⟩
    go_wp2
    go_ret
    exact ⟨by rw [HM2.out]; rfl, F3, by rw [HM2.out]; exact M3, s3⟩
  have t5 : (((v : Nat) : Int) == 0) = false := by simp [hv0]
  have HM : Hid (maG (i0 + i1) i I G = anG (i0 + i1) (mnG (i0 + i1) i I G v).2 (mnG (i0 + i1) i I G v).1 (v - 1)) := Lib.hid (by unfold maG; rw [← HI.out, if_neg hv0])
  obtain ⟨n, hn⟩ : ∃ n, v = n + 1 := ⟨v - 1, by omega⟩
  have HN := Lib.hid hn
  clear hn hv0
  go_enter Try.func100, Try.ntmps100
  go_wp2_with fail
  refine (btOf_any i v _ (by omega) (by omega)).mono ?_; rintro e w2 ⟨ba, bc, rfl, ob, u2⟩
  have M2 := h.below u2
  have dx2 := dx.below u2
  have dB := ob.intD (Disj.of_rng ob.feet h.feet (.inr (Nat.le_refl _)))
  have hb2 : b ≤ w2.heap.size := Nat.le_trans hb u2.size
  have SB : Stp F w F w2 := (Stp.refl _ _).below u2
  clear ob u2 dx h hb
  have hb := hb2
  clear hb2
  go_wp2
  go_loopw [7, 23] (fun y u wr => ∃ k F1, k ≤ v ∧ u = .int .i64 (k : Nat) ∧ (∃ a1 c1, y = .slice a1 k c1 ∧ Own wr w2.heap.size a1 k c1 (mnG (i0 + i1) i I G k).2 ∧ Disj (foot a1 c1) F1) ∧ Mk 105 wr b g i0 i1 (mnG (i0 + i1) i I G k).1 F1 oa on oc ∧ Stp F w2 F1 wr) (fun _ u _ => v - (intOf u).toNat)
  case atStart => exact ⟨0, F, Nat.zero_le _, rfl, ⟨_, _, rfl, Own.nil0 _ _ _, foot_nil _ _⟩, M2, Stp.refl _ _⟩
  case round =>
    obtain ⟨k, F1, hk, rfl, ⟨a1, c1, rfl, own, dd⟩, M3, S3⟩ := hrel
    clear M2
    by_cases hlt : k < v
    · have hG := mnG_len (i0 + i1) i I G k
      have HS0 := mnG_succ (i0 + i1) i I G k
      obtain ⟨gx, ox, hgx, _⟩ := dx2.ints.at k hlt
      subst hgx
      obtain ⟨gy, oy, hgy, _⟩ := dB.ints.at k hlt
      subst hgy
      have cx := (dx2.stp S3).ints.cellsAt k hlt
      have cy := (dB.stp S3).ints.cellsAt k hlt
      have hq : (btL i v).getD k 0 = i / 2 ^ k % 2 := by simp [btL, List.getD, hlt]
      rw [hq] at cy
      clear hq
      obtain ⟨x, ex⟩ : ∃ x, x = I.getD k 0 := ⟨_, rfl⟩
      rw [← ex] at HS0 cx
      clear ex
      obtain ⟨⟨G1, o1⟩, hr⟩ : ∃ r, r = (mnG (i0 + i1) i I G k) := ⟨_, rfl⟩
      rw [← hr] at HS0 hG M3 own
      clear hr
      simp only at hG M3 own
      unfold mnS at HS0
      by_cases hb1 : i / 2 ^ k % 2 = 1
      · rw [if_pos hb1] at HS0
        have HS := Lib.hid HS0
        clear HS0
        rw [hb1] at cy
        clear hb1
        go_wp2_with (at_builtin; refine wpList_appJ _ rfl _ _ rfl w2.heap.size a1 k c1 o1 rfl (own.alloc _) _ 1 1 [_] rfl (Ints.lit1 _ _ _) (by omega) (by have := S3.size; simp; omega) ?_)
        intro am1 cm1 wm1 om1 _ gm1 mm1
        have Om1 := Only.of_grown gm1
        have Mm1 := Mk.only (Mk.alloc M3 _) Om1 dd
        have Sm1 := Stp.onto (Stp.alloc S3 _) Om1 (fun k hk => (own.feet k hk).1)
        have dm1 : Disj (foot am1 cm1) F1 := mm1.disj dd (fun k hk => by have := (M3.feet k hk).2; simp; omega)
        clear M3 S3 own dd Om1 gm1 mm1
        clear cx cy
        go_wp2
        go_roundw
        case rel => exact ⟨k + 1, F1, by omega, by go_num, ⟨_, _, rfl, by rw [HS.out]; exact om1, dm1⟩, by rw [HS.out]; exact Mm1, Sm1⟩
        case measure => simp [intOf]; omega
      · rw [if_neg hb1] at HS0
        have HS := Lib.hid HS0
        clear HS0
        have e0 : i / 2 ^ k % 2 = 0 := by omega
        rw [e0] at cy
        clear hb1 e0
        go_wp2_with fail
        clear cx cy
        refine (snot_any _ b g i0 i1 _ F1 _ M3 (Nat.le_trans hb S3.size) h0 h1 (by (try simp only [gt_len]); omega)).mono ?_; rintro e wm1 ⟨rfl, Fm1, Mm1, sm1⟩
        have Sm1 := S3.trans sm1
        obtain ⟨om1, dm1⟩ := own.stp dd sm1
        clear M3 S3 sm1 own dd
        go_wp2_with (at_builtin; refine wpList_appJ _ rfl _ _ rfl w2.heap.size a1 k c1 o1 rfl (om1.alloc _) _ 1 1 [_] rfl (Ints.lit1 _ _ _) (by omega) (by have := Sm1.size; simp; omega) ?_)
        intro am2 cm2 wm2 om2 _ gm2 mm2
        have Om2 := Only.of_grown gm2
        have Mm2 := Mk.only (Mk.alloc Mm1 _) Om2 dm1
        have Sm2 := Stp.onto (Stp.alloc Sm1 _) Om2 (fun k hk => (om1.feet k hk).1)
        have dm2 : Disj (foot am2 cm2) Fm1 := mm2.disj dm1 (fun k hk => by have := (Mm1.feet k hk).2; simp; omega)
        clear Mm1 Sm1 om1 dm1 Om2 gm2 mm2
        go_wp2
        go_roundw
        case rel => exact ⟨k + 1, Fm1, by omega, by go_num, ⟨_, _, rfl, by rw [HS.out]; exact om2, dm2⟩, by rw [HS.out]; exact Mm2, Sm2⟩
        case measure => simp [intOf]; omega
    · obtain rfl : k = v := by omega
      have hG := mnG_len (i0 + i1) i I G k
      obtain ⟨⟨G1, l⟩, hr⟩ : ∃ r, r = (mnG (i0 + i1) i I G k) := ⟨_, rfl⟩
      rw [← hr] at hG M3 own HM
      clear hr
      simp only at hG M3 own HM
      have HM2 := HM
      clear HM
      have hge : ¬ (k : Int) < (k : Int) := by omega
      have hk1 : 1 ≤ k := by have := HN.out; omega
      obtain ⟨ga, oo, hga, c0⟩ := own.ints.at 0 (by omega)
      obtain ⟨ga2, hga2, _⟩ := own.at 0 (by omega)
      rw [hga] at hga2
      simp only [Option.some.injEq, Addr.mk.injEq, and_true] at hga2
      obtain ⟨rfl, rfl⟩ := hga2
      subst hga
      have hcap := own.cap
      obtain ⟨hcap, hcap2⟩ := hcap
      by_cases hc1 : c1 = 1
      · go_wp2
        go_loopw [10, 53] (fun z u wx => ∃ j F2, j + 1 ≤ k ∧ u = .int .i64 (j : Nat) ∧ z = .int .i64 (anG (i0 + i1) l G1 j).2 ∧ Own wx w2.heap.size (some ⟨ga, 0, none⟩) k c1 l ∧ Disj (foot (some ⟨ga, 0, none⟩) c1) F2 ∧ Mk 105 wx b g i0 i1 (anG (i0 + i1) l G1 j).1 F2 oa on oc ∧ Stp F w2 F2 wx) (fun _ u _ => k - (intOf u).toNat)
        case atStart => exact ⟨0, F1, by omega, rfl, rfl, own, dd, M3, S3⟩
        case round =>
          obtain ⟨j, F2, hj, rfl, rfl, own2, dd2, M9, S9⟩ := hrel
          clear own dd M3 S3 c0
          have hA := anG_len (i0 + i1) l G1 j
          have HS := Lib.hid (anG_succ (i0 + i1) l G1 j)
          by_cases hlt2 : j + 1 < k
          · exact absurd hlt2 (by omega)
          · obtain rfl : j = n := by have := HN.out; omega
            have HJ := Lib.hid (show k - 1 = j by have := HN.out; omega)
            have hlt3 : ¬ (j : Int) < ((k - 1 : Nat) : Int) := by omega
            go_wp2
            go_ret
            exact ⟨by rw [HM2.out, HJ.out]; rfl, F2, by rw [HM2.out, HJ.out]; exact M9, SB.trans S9⟩
      · go_wp2
        go_loopw [10, 53] (fun z u wx => ∃ j F2, j + 1 ≤ k ∧ u = .int .i64 (j : Nat) ∧ z = .int .i64 (anG (i0 + i1) l G1 j).2 ∧ Own wx w2.heap.size (some ⟨ga, 0, none⟩) k c1 l ∧ Disj (foot (some ⟨ga, 0, none⟩) c1) F2 ∧ Mk 105 wx b g i0 i1 (anG (i0 + i1) l G1 j).1 F2 oa on oc ∧ Stp F w2 F2 wx) (fun _ u _ => k - (intOf u).toNat)
        case atStart => exact ⟨0, F1, by omega, rfl, rfl, own, dd, M3, S3⟩
        case round =>
          obtain ⟨j, F2, hj, rfl, rfl, own2, dd2, M9, S9⟩ := hrel
          clear own dd M3 S3 c0
          have hA := anG_len (i0 + i1) l G1 j
          have HS := Lib.hid (anG_succ (i0 + i1) l G1 j)
          by_cases hlt2 : j + 1 < k
          · have cj := own2.cellT j hlt2
            generalize l.getD (j + 1) 0 = y at *
            obtain ⟨⟨G2, z2⟩, hr2⟩ : ∃ r, r = anG (i0 + i1) l G1 j := ⟨_, rfl⟩
            rw [← hr2] at HS hA M9
            rw [← hr2]
            clear hr2
            unfold anS at HS
            simp only at hA HS M9
            have hlt3 : (j : Int) < ((k - 1 : Nat) : Int) := by omega
            go_wp2_with fail
            clear cj
            refine (sand_any _ _ b g i0 i1 _ F2 _ M9 (Nat.le_trans hb S9.size) h0 h1 (by (try simp only [gt_len]); omega)).mono ?_; rintro e wm1 ⟨rfl, Fm1, Mm1, sm1⟩
            have Sm1 := S9.trans sm1
            obtain ⟨om1, dm1⟩ := own2.stp dd2 sm1
            clear M9 S9 sm1 own2 dd2
            go_wp2
            go_roundw
            case rel => exact ⟨j + 1, Fm1, by omega, by go_num, by rw [HS.out], om1, dm1, by rw [HS.out]; exact Mm1, Sm1⟩
            case measure => simp [intOf]; omega
          · obtain rfl : j = n := by have := HN.out; omega
            have HJ := Lib.hid (show k - 1 = j by have := HN.out; omega)
            have hlt3 : ¬ (j : Int) < ((k - 1 : Nat) : Int) := by omega
            go_wp2
            go_ret
            exact ⟨by rw [HM2.out, HJ.out]; rfl, F2, by rw [HM2.out, HJ.out]; exact M9, SB.trans S9⟩
end Go.Proofs.Ytmbheimjphhamaa
namespace Go.Proofs.Ytmbheimjphhamaa
open Go.RowKit
abbrev RowD := Option Addr × Nat × List Int
def rowV (r : RowD) : Value := .slice r.1 r.2.2.length r.2.1
def rowsF (rs : List RowD) : List Nat := rs.flatMap fun r => foot r.1 r.2.1
def feetSS (a : Option Addr) (c : Nat) (rs : List RowD) : List Nat := foot a c ++ rowsF rs
structure OwnSS (w : World) (b : Nat) (a : Option Addr) (n c : Nat) (rs : List RowD) : Prop where
  out : OwnC w b a n c 26 1 (rs.map rowV)
  inn : ∀ r ∈ rs, Own w b r.1 r.2.2.length r.2.1 r.2.2
  dis : rs.Pairwise fun r s => Disj (foot r.1 r.2.1) (foot s.1 s.2.1)
  apart : Disj (foot a c) (rowsF rs)
theorem mem_rowsF {rs : List RowD} {r : RowD} {k : Nat} (hr : r ∈ rs) (hk : k ∈ foot r.1 r.2.1) : k ∈ rowsF rs := List.mem_flatMap.2 ⟨r, hr, hk⟩
theorem rowsF_app (rs rs' : List RowD) : rowsF (rs ++ rs') = rowsF rs ++ rowsF rs' := List.flatMap_append
theorem rowsF_one (r : RowD) : rowsF [r] = foot r.1 r.2.1 := by simp [rowsF]
theorem OwnSS.only {X : List Nat} {w w' : World} {b a n c rs} (h : OwnSS w b a n c rs) (ho : Only X w w') (hd : Disj (feetSS a c rs) X) : OwnSS w' b a n c rs :=
  ⟨h.out.only ho (fun k hk => hd k (List.mem_append_left _ hk)), fun r hr => (h.inn r hr).only ho (fun k hk => hd k (List.mem_append_right _ (mem_rowsF hr hk))), h.dis, h.apart⟩
theorem OwnSS.below {w w' : World} {b a n c rs} (h : OwnSS w b a n c rs) (hb : Below w.heap.size w w') : OwnSS w' b a n c rs :=
  ⟨h.out.below hb, fun r hr => (h.inn r hr).below hb, h.dis, h.apart⟩
theorem OwnSS.alloc {w : World} {b a n c rs} (h : OwnSS w b a n c rs) (o : Obj) : OwnSS (w.alloc o) b a n c rs := h.below ((Below.refl _ _).alloc (Nat.le_refl _) _)
theorem OwnSS.drew {w : World} {b a n c rs} (h : OwnSS w b a n c rs) : OwnSS w.drew b a n c rs := h.below ((Below.refl _ _).drew)
theorem OwnSS.lower {w : World} {b b' a n c rs} (h : OwnSS w b a n c rs) (hb : b' ≤ b) : OwnSS w b' a n c rs :=
  ⟨h.out.lower hb, fun r hr => (h.inn r hr).lower hb, h.dis, h.apart⟩
theorem OwnSS.feet {w : World} {b a n c rs} (h : OwnSS w b a n c rs) : ∀ k ∈ feetSS a c rs, b ≤ k ∧ k < w.heap.size := fun k hk => by
  rcases List.mem_append.1 hk with hk | hk
  · exact h.out.feet k hk
  · obtain ⟨r, hr, hk⟩ := List.mem_flatMap.1 hk
    exact (h.inn r hr).feet k hk
theorem OwnSS.nil0 (w : World) (b : Nat) (a : Option Addr) : OwnSS w b a 0 0 [] :=
  ⟨OwnC.nil0 w b 26 1 a, fun r hr => (by cases hr), List.Pairwise.nil, fun k hk => by simp [foot, rowOf] at hk⟩
theorem OwnSS.push {w w' : World} {b a n c rs} {r : RowD} {a5 : Option Addr} {c5 : Nat} (h : OwnSS w b a n c rs) (hr : Own w b r.1 r.2.2.length r.2.1 r.2.2) (hd : Disj (foot r.1 r.2.1) (feetSS a c rs))
    (o : OwnC w' b a5 (n + 1) c5 26 1 (rs.map rowV ++ [rowV r])) (g : w.grownBy w' (rowOf a c)) (m : Moved w a c a5 c5) : OwnSS w' b a5 (n + 1) c5 (rs ++ [r]) := by
  refine ⟨by rw [List.map_append]; exact o, fun s hs => ?_, ?_, ?_⟩
  · rcases List.mem_append.1 hs with hs | hs
    · exact (h.inn s hs).only (Only.of_grown g) (fun k hk hk' => h.apart k hk' (mem_rowsF hs hk))
    · rw [List.mem_singleton] at hs
      subst hs
      exact hr.only (Only.of_grown g) (fun k hk hk' => hd k hk (List.mem_append_left _ hk'))
  · refine List.pairwise_append.2 ⟨h.dis, List.pairwise_singleton _ _, fun x hx y hy => ?_⟩
    rw [List.mem_singleton] at hy
    subst hy
    exact fun k hk hk' => hd k hk' (List.mem_append_right _ (mem_rowsF hx hk))
  · rw [rowsF_app, rowsF_one]
    refine m.disj (h.apart.app fun k hk hk' => hd k hk' (List.mem_append_left _ hk)) (fun k hk => ?_)
    rcases List.mem_append.1 hk with hk | hk
    · exact (h.feet k (List.mem_append_right _ hk)).2
    · exact (hr.feet k hk).2
theorem info_ints : (Try.prog.info? 26).map (fun i => (i.zero, i.size, i.bytes)) = some (some (.slice none 0 0), 1, 24) := by kernel_rfl
theorem RowC.lit1 (w : World) (v : Value) (e : TypeId) : RowC (w.alloc (.cells #[v] e)) (some ⟨w.heap.size, 0, none⟩) 1 1 1 [v] := (OwnC.lit w 0 1 e 1 [v] (Nat.zero_le _) rfl (by simp [maxLen])).row
theorem RowC.drew {w a n c sz xs} (h : RowC w a n c sz xs) : RowC w.drew a n c sz xs := h.below ((Below.refl _ _).drew)
theorem wp_appR (w : World) {o : Oper} {act : Act} {K : Act → World → Prop} {Q : Exit → Act → World → Prop} (s x : Operand)
    (ho : o.op = .call { callee := .builtin .append, args := #[s, x], argTypes := #[59, 59] })
    (b : Nat) (a : Option Addr) (n c : Nat) (xs : List Value) (hs : act.eval s = .slice a n c) (hown : OwnC w b a n c 26 1 xs)
    (a' : Option Addr) (c' : Nat) (r : RowD) (hx : act.eval x = .slice a' 1 c') (hrow : RowC w a' 1 c' 1 [rowV r])
    (hlen : n + 1 ≤ 1000000) (hbase : b ≤ w.heap.size)
    (h : ∀ a2 c2 w', OwnC w' b a2 (n + 1) c2 26 1 (xs ++ [rowV r]) → Below b w w' → w.grownBy w' (rowOf a c) → Moved w a c a2 c2 → K (act.put o.dst (.slice a2 (n + 1) c2)) w') : o.wp Try.prog act w K Q := by
  obtain ⟨i0, hi, hz0, hz1, hz2⟩ := info_parts info_ints
  obtain ⟨a2, c2, w', hrun, h1, h2, _, h9⟩ := run_app2 w 59 o.type b 26 i0 (.slice none 0 0) 1 24 Try.underlying59 hi hz0 hz1 hz2 rfl (by decide) a n c _ hown a' 1 c' _ hrow (by
    intro u hu
    simp only [List.mem_singleton] at hu
    subst hu
    rfl) (by omega) (by unfold maxLen; omega) hbase
  unfold Oper.wp
  simp [execOp, ho, resolve, invoke, builtin, hs, hx, hrun, Result.andThen]
  exact h a2 c2 w' h1 (below_grownBy h2 hbase (fun x hc hx => (hown.range x hc hx).1)) h2 h9
theorem wpList_appR (w : World) {ops : Array Oper} {rest : List Oper} {o : Oper} {act : Act} {Q : Exit → Act → World → Prop} (hgd : o.guard = none) (s x : Operand)
    (ho : o.op = .call { callee := .builtin .append, args := #[s, x], argTypes := #[59, 59] })
    (b : Nat) (a : Option Addr) (n c : Nat) (xs : List Value) (hs : act.eval s = .slice a n c) (hown : OwnC w b a n c 26 1 xs)
    (a' : Option Addr) (c' : Nat) (r : RowD) (hx : act.eval x = .slice a' 1 c') (hrow : RowC w a' 1 c' 1 [rowV r])
    (hlen : n + 1 ≤ 1000000) (hbase : b ≤ w.heap.size)
    (h : ∀ a2 c2 w', OwnC w' b a2 (n + 1) c2 26 1 (xs ++ [rowV r]) → Below b w w' → w.grownBy w' (rowOf a c) → Moved w a c a2 c2 → wpList Try.prog ops Q rest (act.put o.dst (.slice a2 (n + 1) c2)) w') : wpList Try.prog ops Q (o :: rest) act w :=
  wpList_plain hgd fun _ hK => wp_appR w s x ho b a n c xs hs hown a' c' r hx hrow hlen hbase fun a2 c2 w' h1 h2 h3 h5 => hK _ _ (h a2 c2 w' h1 h2 h3 h5)
theorem step_appR (w : World) {ops : Array Oper} {o : Oper} {act : Act} {K : Act → World → Prop} {Q : Exit → Act → World → Prop} {E : Prop} (hgd : o.guard = none) (s x : Operand)
    (ho : o.op = .call { callee := .builtin .append, args := #[s, x], argTypes := #[59, 59] })
    (b : Nat) (a : Option Addr) (n c : Nat) (xs : List Value) (hs : act.eval s = .slice a n c) (hown : OwnC w b a n c 26 1 xs)
    (a' : Option Addr) (c' : Nat) (r : RowD) (hx : act.eval x = .slice a' 1 c') (hrow : RowC w a' 1 c' 1 [rowV r])
    (hlen : n + 1 ≤ 1000000) (hbase : b ≤ w.heap.size)
    (h : ∀ a2 c2 w', OwnC w' b a2 (n + 1) c2 26 1 (xs ++ [rowV r]) → Below b w w' → w.grownBy w' (rowOf a c) → Moved w a c a2 c2 → K (act.put o.dst (.slice a2 (n + 1) c2)) w') :
    if Region.wanted o (yielded ops act.tmps) = true then Oper.wp Try.prog o act w K Q else E := by
  rw [if_pos (by simp [Region.wanted, hgd])]
  exact wp_appR w s x ho b a n c xs hs hown a' c' r hx hrow hlen hbase h
/-- The shares of the wires, and what was opened: three families that stand apart. -/
structure WireM (w : World) (b : Nat) (a1 : Option Addr) (n1 c1 : Nat) (F : List Int) (a2 : Option Addr) (n2 c2 : Nat) (S : List Int) (a3 : Option Addr) (n3 c3 : Nat) (rs : List RowD) : Prop where
  f : Own w b a1 n1 c1 F
  s : Own w b a2 n2 c2 S
  o : OwnSS w b a3 n3 c3 rs
  fs : Disj (foot a1 c1) (foot a2 c2)
  fo : Disj (foot a1 c1) (feetSS a3 c3 rs)
  so : Disj (foot a2 c2) (feetSS a3 c3 rs)
section
variable {w w' : World} {b n1 c1 n2 c2 n3 c3 c5 : Nat} {a1 a2 a3 a5 : Option Addr} {F S : List Int} {rs : List RowD}
theorem WireM.below (h : WireM w b a1 n1 c1 F a2 n2 c2 S a3 n3 c3 rs) (hb : Below w.heap.size w w') : WireM w' b a1 n1 c1 F a2 n2 c2 S a3 n3 c3 rs :=
  ⟨h.f.below hb, h.s.below hb, h.o.below hb, h.fs, h.fo, h.so⟩
theorem WireM.alloc (h : WireM w b a1 n1 c1 F a2 n2 c2 S a3 n3 c3 rs) (o : Obj) : WireM (w.alloc o) b a1 n1 c1 F a2 n2 c2 S a3 n3 c3 rs := h.below ((Below.refl _ _).alloc (Nat.le_refl _) _)
theorem WireM.drew (h : WireM w b a1 n1 c1 F a2 n2 c2 S a3 n3 c3 rs) : WireM w.drew b a1 n1 c1 F a2 n2 c2 S a3 n3 c3 rs := h.below ((Below.refl _ _).drew)
end
end Go.Proofs.Ytmbheimjphhamaa
namespace Go.Proofs.Ytmbheimjphhamaa
open Go.RowKit
def rowAt (rs : List RowD) (j : Nat) : RowD := rs.getD j (none, 0, [])
theorem rowAt_mem {rs : List RowD} {j : Nat} (h : j < rs.length) : rowAt rs j ∈ rs := by
  unfold rowAt; simp [List.getD, h]
theorem rowAt_some {rs : List RowD} {j : Nat} (h : j < rs.length) : rs[j]? = some (rowAt rs j) := by
  unfold rowAt; simp [List.getD, h]
/-- The slice (a, n, c) of slices reads as the rows rs. -/
structure IntSS (w : World) (a : Option Addr) (n c : Nat) (rs : List RowD) : Prop where
  row : RowC w a n c 1 (rs.map rowV)
  inn : ∀ r ∈ rs, Ints w r.1 r.2.2.length r.2.1 r.2.2
theorem OwnSS.reads {w b a n c rs} (h : OwnSS w b a n c rs) : IntSS w a n c rs := ⟨h.out.row, fun r hr => (h.inn r hr).ints⟩
theorem IntSS.len {w a n c rs} (h : IntSS w a n c rs) : rs.length = n := by have := h.row.1; simpa using this
theorem IntSS.le {w a n c rs} (h : IntSS w a n c rs) : (n : Int) ≤ 9223372036854775807 := by
  have := h.row.2.1; have := h.row.2.2.1; unfold maxLen at this; omega
theorem IntSS.below {w w' a n c rs} (h : IntSS w a n c rs) (hb : Below w.heap.size w w') : IntSS w' a n c rs := ⟨h.row.below hb, fun r hr => (h.inn r hr).below hb⟩
theorem IntSS.alloc {w a n c rs} (h : IntSS w a n c rs) (o : Obj) : IntSS (w.alloc o) a n c rs := h.below ((Below.refl _ _).alloc (Nat.le_refl _) _)
theorem IntSS.drew {w a n c rs} (h : IntSS w a n c rs) : IntSS w.drew a n c rs := h.below ((Below.refl _ _).drew)
theorem IntSS.nil0 (w : World) : IntSS w none 0 0 [] := ⟨⟨rfl, Nat.le_refl _, Nat.zero_le _, fun _ => rfl, 0, 0, fun h => absurd h (by omega), fun i u hu => by simp at hu⟩, fun r hr => by cases hr⟩
theorem IntSS.at {w a n c rs} (h : IntSS w a n c rs) (k : Nat) (hk : k < n) : ∃ g o, a = some ⟨g, o, none⟩ ∧ w.cell? ⟨g, o + k, none⟩ = some (.slice (rowAt rs k).1 (rowAt rs k).2.2.length (rowAt rs k).2.1) ∧ Ints w (rowAt rs k).1 (rowAt rs k).2.2.length (rowAt rs k).2.1 (rowAt rs k).2.2 := by
  have hl := h.len
  obtain ⟨_, _, _, _, g, o, h1, h2⟩ := h.row
  refine ⟨g, o, h1 (by omega), ?_, h.inn _ (rowAt_mem (by omega))⟩
  have := h2 k (rowV (rowAt rs k)) (by rw [List.getElem?_map, rowAt_some (by omega)]; rfl)
  exact this
/-- The rows of numbers. -/
def datas' (rs : List RowD) : List (List Int) := rs.map fun r => r.2.2
theorem datas_len (rs : List RowD) : (datas' rs).length = rs.length := by simp [datas']
theorem set_key (rs : List RowD) (i : Nat) (l : List Int) (hl : l.length = (rowAt rs i).2.2.length) (hi : i < rs.length) :
    (rs.set i ((rowAt rs i).1, (rowAt rs i).2.1, l)).map (fun r => (r.1, r.2.1, r.2.2.length)) = rs.map (fun r => (r.1, r.2.1, r.2.2.length)) := by
  apply List.ext_getElem?
  intro j
  rw [List.getElem?_map, List.getElem?_map, List.getElem?_set]
  by_cases e : i = j
  · subst e; rw [if_pos rfl, if_pos hi, rowAt_some hi]; simp [hl]
  · rw [if_neg e]
theorem rowsF_key {rs rs' : List RowD} (h : rs'.map (fun r => (r.1, r.2.1, r.2.2.length)) = rs.map (fun r => (r.1, r.2.1, r.2.2.length))) : rowsF rs' = rowsF rs := by
  have e : ∀ q : List RowD, rowsF q = (q.map (fun r => (r.1, r.2.1, r.2.2.length))).flatMap fun t => foot t.1 t.2.1 := fun q => by simp [rowsF, List.flatMap_map]
  rw [e, e, h]
theorem OwnSS.cap {w b a n c rs} (h : OwnSS w b a n c rs) : n ≤ c ∧ c ≤ maxLen := ⟨h.out.row.2.1, h.out.row.2.2.1⟩
/-- A row is written. -/
theorem OwnSS.put {w w' : World} {b a n c rs} (h : OwnSS w b a n c rs) (i : Nat) (hi : i < rs.length) (l : List Int) (o : Own w' b (rowAt rs i).1 (rowAt rs i).2.2.length (rowAt rs i).2.1 l) (ho : Only (foot (rowAt rs i).1 (rowAt rs i).2.1) w w') :
    OwnSS w' b a n c (rs.set i ((rowAt rs i).1, (rowAt rs i).2.1, l)) := by
  have hl : l.length = (rowAt rs i).2.2.length := by have := o.len; omega
  have hk := set_key rs i l hl hi
  have hm := rowAt_mem hi
  refine ⟨?_, fun r hr => ?_, ?_, ?_⟩
  · have e : ∀ q : List RowD, q.map rowV = (q.map (fun r => (r.1, r.2.1, r.2.2.length))).map fun t => Value.slice t.1 t.2.2 t.2.1 := fun q => by simp [rowV]
    rw [e, hk, ← e]
    exact h.out.only ho (fun k hk hk' => h.apart k hk (mem_rowsF hm hk'))
  · obtain ⟨j, hj⟩ := List.getElem?_of_mem hr
    rw [List.getElem?_set] at hj
    by_cases e : i = j
    · subst e
      rw [if_pos rfl, if_pos hi, Option.some.injEq] at hj
      subst hj
      rw [← hl] at o
      exact o
    · rw [if_neg e] at hj
      have hjl := (List.getElem?_eq_some_iff.1 hj).1
      have hrr : rowAt rs j = r := by have := rowAt_some hjl; rw [hj] at this; exact (Option.some.inj this).symm
      have hmr : r ∈ rs := by rw [← hrr]; exact rowAt_mem hjl
      refine (h.inn r hmr).only ho ?_
      have hp := List.pairwise_iff_getElem.1 h.dis
      have ei : rs[i] = rowAt rs i := by simp [rowAt, List.getD, hi]
      have ej : rs[j] = r := by rw [← hrr]; simp [rowAt, List.getD, hjl]
      rcases Nat.lt_or_gt_of_ne e with hlt | hgt
      · have := hp i j hi hjl hlt; rw [ei, ej] at this; exact this.symm
      · have := hp j i hjl hi hgt; rw [ei, ej] at this; exact this
  · have e : ∀ q : List RowD, (q.Pairwise fun r s => Disj (foot r.1 r.2.1) (foot s.1 s.2.1)) ↔ ((q.map (fun r => (r.1, r.2.1, r.2.2.length))).Pairwise fun r s => Disj (foot r.1 r.2.1) (foot s.1 s.2.1)) := fun q => by rw [List.pairwise_map]
    rw [e, hk, ← e]
    exact h.dis
  · rw [rowsF_key hk]; exact h.apart
end Go.Proofs.Ytmbheimjphhamaa
namespace Go.Proofs.Ytmbheimjphhamaa
open Go.RowKit
theorem RowC.only {w w' : World} {X a n c sz xs} (h : RowC w a n c sz xs) (u : Only X w w') (hd : ∀ x, 0 < n → a = some x → x.block ∉ X) : RowC w' a n c sz xs := by
  obtain ⟨h1, h2, h3, hn, g, o, h4, h5⟩ := h
  refine ⟨h1, h2, h3, hn, g, o, h4, fun i v hv => ?_⟩
  have hi : i < xs.length := (List.getElem?_eq_some_iff.1 hv).1
  have h0 : 0 < n := by
    cases n with
    | zero => rw [h1, Nat.zero_mul] at hi; omega
    | succ n => omega
  have hc := h5 i v hv
  have hb : w'.heap[g]? = w.heap[g]? := u.block g (World.block_lt_of_cell? w _ hc) (hd _ h0 (h4 h0))
  simp only [World.cell?] at hc ⊢
  rw [hb]; exact hc
theorem RowC.lt {w : World} {a n c sz xs} (h : RowC w a n c sz xs) (hs : 0 < sz) : ∀ x, 0 < n → a = some x → x.block < w.heap.size := by
  obtain ⟨h1, _, _, _, g, o, h4, h5⟩ := h
  intro x h0 hx
  rw [h4 h0] at hx
  cases hx
  have hl : 0 < xs.length := by rw [h1]; exact Nat.mul_pos h0 hs
  exact World.block_lt_of_cell? w _ (h5 0 xs[0] (by simp [hl]))
/-- A slice of slices that lies outside the blocks F. -/
structure RwD (w : World) (a : Option Addr) (n c : Nat) (rs : List RowD) (F : List Nat) : Prop where
  row : RowC w a n c 1 (rs.map rowV)
  off : ∀ x, 0 < n → a = some x → x.block ∉ F
  inn : ∀ r ∈ rs, IntD w r.1 r.2.2.length r.2.1 r.2.2 F
theorem RwD.stp {w w' : World} {a n c rs F F'} (h : RwD w a n c rs F) (s : Stp F w F' w') : RwD w' a n c rs F' :=
  ⟨h.row.only s.only h.off, fun x hn hx hf => by
    rcases s.more _ hf with e | e
    · exact h.off x hn hx e
    · have := h.row.lt (by decide) x hn hx; omega, fun r hr => (h.inn r hr).stp s⟩
theorem RwD.below {w w' : World} {a n c rs F} (h : RwD w a n c rs F) (u : Below w.heap.size w w') : RwD w' a n c rs F := ⟨h.row.below u, h.off, fun r hr => (h.inn r hr).below u⟩
theorem RwD.len {w a n c rs F} (h : RwD w a n c rs F) : rs.length = n := by have := h.row.1; simpa using this
theorem RwD.le {w a n c rs F} (h : RwD w a n c rs F) : (n : Int) ≤ 9223372036854775807 := by
  have := h.row.2.1; have := h.row.2.2.1; unfold maxLen at this; omega
theorem RwD.at {w a n c rs F} (h : RwD w a n c rs F) (k : Nat) (hk : k < n) : ∃ g o, a = some ⟨g, o, none⟩ ∧ w.cell? ⟨g, o + k, none⟩ = some (.slice (rowAt rs k).1 (rowAt rs k).2.2.length (rowAt rs k).2.1) ∧ IntD w (rowAt rs k).1 (rowAt rs k).2.2.length (rowAt rs k).2.1 (rowAt rs k).2.2 F := by
  have hl := h.len
  obtain ⟨_, _, _, _, g, o, h1, h2⟩ := h.row
  refine ⟨g, o, h1 (by omega), ?_, h.inn _ (rowAt_mem (by omega))⟩
  exact h2 k (rowV (rowAt rs k)) (by rw [List.getElem?_map, rowAt_some (by omega)]; rfl)
theorem RwD.cellsAt {w g o n c rs F} (h : RwD w (some ⟨g, o, none⟩) n c rs F) (k : Nat) (hk : k < n) : w.cell? ⟨g, o + k, none⟩ = some (.slice (rowAt rs k).1 (rowAt rs k).2.2.length (rowAt rs k).2.1) := by
  obtain ⟨g', o', e, hc, _⟩ := h.at k hk
  cases e
  exact hc
theorem RwD.innAt {w a n c rs F} (h : RwD w a n c rs F) (k : Nat) (hk : k < n) : IntD w (rowAt rs k).1 (rowAt rs k).2.2.length (rowAt rs k).2.1 (rowAt rs k).2.2 F := h.inn _ (rowAt_mem (by rw [h.len]; exact hk))
theorem datas_getD (rs : List RowD) (k : Nat) (hk : k < rs.length) : (datas' rs).getD k [] = (rowAt rs k).2.2 := by
  simp [datas', rowAt, List.getD, hk]
/-- An outer row of the call's own; the rows in it are read. -/
structure RwO (w : World) (b : Nat) (a : Option Addr) (n c : Nat) (rs : List RowD) (F : List Nat) : Prop where
  out : OwnC w b a n c 26 1 (rs.map rowV)
  dis : Disj (foot a c) F
  inn : ∀ r ∈ rs, IntD w r.1 r.2.2.length r.2.1 r.2.2 F
  apart : ∀ r ∈ rs, ∀ x, 0 < r.2.2.length → r.1 = some x → x.block ∉ foot a c
theorem RwO.nil (w : World) (b : Nat) (a : Option Addr) (F : List Nat) : RwO w b a 0 0 [] F := ⟨OwnC.nil0 _ _ _ _ _, foot_nil _ _, fun r hr => (by cases hr), fun r hr => (by cases hr)⟩
theorem RwO.len {w b a n c rs F} (h : RwO w b a n c rs F) : rs.length = n := by have := h.out.1; simpa using this
theorem RwO.rwD {w b a n c rs F} (h : RwO w b a n c rs F) : RwD w a n c rs F :=
  ⟨h.out.row, fun x hn hx hf => h.dis x.block (by rw [hx]; exact foot_mem (by have := h.out.row.2.1; omega)) hf, h.inn⟩
theorem RwO.stp {w w' : World} {b a n c rs F F'} (h : RwO w b a n c rs F) (s : Stp F w F' w') : RwO w' b a n c rs F' :=
  ⟨h.out.only s.only h.dis, fun k hk hf => by
    rcases s.more k hf with e | e
    · exact h.dis k hk e
    · have := (h.out.feet k hk).2; omega, fun r hr => (h.inn r hr).stp s, h.apart⟩
theorem RwO.below {w w' : World} {b a n c rs F} (h : RwO w b a n c rs F) (u : Below w.heap.size w w') : RwO w' b a n c rs F := ⟨h.out.below u, h.dis, fun r hr => (h.inn r hr).below u, h.apart⟩
theorem RwO.alloc {w : World} {b a n c rs F} (h : RwO w b a n c rs F) (o : Obj) : RwO (w.alloc o) b a n c rs F := h.below ((Below.refl _ _).alloc (Nat.le_refl _) _)
theorem RwO.drew {w : World} {b a n c rs F} (h : RwO w b a n c rs F) : RwO w.drew b a n c rs F := h.below ((Below.refl _ _).drew)
theorem RwO.push {w w' : World} {b a n c rs F} {r : RowD} {a5 : Option Addr} {c5 : Nat} (h : RwO w b a n c rs F) (hF : ∀ k ∈ F, k < w.heap.size) (hr : IntD w r.1 r.2.2.length r.2.1 r.2.2 F) (hx : ∀ x, 0 < r.2.2.length → r.1 = some x → x.block ∉ foot a c)
    (o : OwnC w' b a5 (n + 1) c5 26 1 (rs.map rowV ++ [rowV r])) (g : w.grownBy w' (rowOf a c)) (m : Moved w a c a5 c5) : RwO w' b a5 (n + 1) c5 (rs ++ [r]) F := by
  have far : ∀ s : RowD, IntD w s.1 s.2.2.length s.2.1 s.2.2 F → (∀ x, 0 < s.2.2.length → s.1 = some x → x.block ∉ foot a c) → ∀ x, 0 < s.2.2.length → s.1 = some x → x.block ∉ foot a5 c5 := fun s hs hd x h0 hx => by
    have hlt := (hs.1.range x h0 hx).2
    have hne := hd x h0 hx
    intro hm
    exact m.disj (F := [x.block]) (fun k hk hk' => hne (by simp at hk'; subst hk'; exact hk)) (fun k hk => by simp at hk; subst hk; exact hlt) _ hm (by simp)
  refine ⟨by rw [List.map_append]; exact o, m.disj h.dis hF, fun s hs => ?_, fun s hs => ?_⟩
  · rcases List.mem_append.1 hs with hs | hs
    · exact (h.inn s hs).only (Only.of_grown g) (h.apart s hs)
    · rw [List.mem_singleton] at hs; subst hs; exact hr.only (Only.of_grown g) hx
  · rcases List.mem_append.1 hs with hs | hs
    · exact far s (h.inn s hs) (h.apart s hs)
    · rw [List.mem_singleton] at hs; subst hs; exact far s hr hx
theorem datas_push (rs : List RowD) (r : RowD) : datas' (rs ++ [r]) = datas' rs ++ [r.2.2] := by simp [datas']
end Go.Proofs.Ytmbheimjphhamaa
namespace Go.Proofs.Ytmbheimjphhamaa
open Go.RowKit
set_option maxHeartbeats 8000000 in
set_option maxRecDepth 100000 in
theorem scan_any (ca : Option Addr) (n cc : Nat) (rs : List RowD) (ia : Option Addr) (v ic : Nat) (I : List Int) (wd : Nat) {oa : Option Addr} {on oc : Nat} (b g : Nat) (i0 i1 : Int) (G : List Int) (F : List Nat) (w : World) (h : Mk 82 w b g i0 i1 G F oa on oc) (hb : b ≤ w.heap.size) (h0 : 0 ≤ i0 ∧ i0 ≤ 1000) (h1 : 0 ≤ i1 ∧ i1 ≤ 1000) (dc : RwD w ca n cc rs F) (dx : IntD w ia v ic I F) (hA : AllL wd (datas' rs)) (hn : 1 ≤ n ∧ n ≤ 8) (hv : v ≤ 8) (hw : wd ≤ 20) (hl : G.length ≤ 1000) :
    Calls Try.prog 35 #[.pointer (some ⟨g, 0, none⟩), .slice ca n cc, .slice ia v ic] w fun e w' => ∃ a1 m1 c1 F', e = .returned (.slice a1 m1 c1) ∧ Own w' w.heap.size a1 m1 c1 (scG (i0 + i1) I (datas' rs) G n).2 ∧ Disj (foot a1 c1) F' ∧ Mk 82 w' b g i0 i1 (scG (i0 + i1) I (datas' rs) G n).1 F' oa on oc ∧ Stp F w F' w' := by
  have HI := Lib.hid dx.ints.len
  have HAL := Lib.hid hA
  have HR := Lib.hid dc.len
  have hle := dc.le
  clear hA
  go_enter Try.func35, Try.ntmps35
  go_wp2
  go_loopw [7, 17] (fun y u wr => ∃ i F1, i ≤ n ∧ u = .int .i64 (i : Nat) ∧ (∃ a1 m c1, y = .slice a1 m c1 ∧ Own wr w.heap.size a1 m c1 (scG (i0 + i1) I (datas' rs) G i).2 ∧ Disj (foot a1 c1) F1) ∧ Mk 82 wr b g i0 i1 (scG (i0 + i1) I (datas' rs) G i).1 F1 oa on oc ∧ Stp F w F1 wr) (fun _ u _ => n - (intOf u).toNat)
  case atStart => exact ⟨0, F, Nat.zero_le _, rfl, ⟨_, 0, _, rfl, Own.nil0 _ _ _, foot_nil _ _⟩, h.alloc _, (Stp.refl _ _).alloc _⟩
  case round =>
    obtain ⟨i, F1, hk, rfl, ⟨a1, m, c1, rfl, own, dd⟩, M1, S1⟩ := hrel
    by_cases hlt : i < n
    · have hil : i < (datas' rs).length := by rw [datas_len, HR.out]; exact hlt
      obtain ⟨hG, hG2⟩ := scG_len (B := i0 + i1) (idx := I) (G := G) HAL.out i (by omega)
      rw [← HI.out] at hG
      have hGb : (6 * v + 3 + 6 * wd) * i ≤ 200 * 8 := Nat.mul_le_mul (by omega) (by omega)
      have HS0 := scG_succ (i0 + i1) I (datas' rs) G i
      rw [datas_getD _ _ (by rw [HR.out]; exact hlt)] at HS0
      have hcl := HAL.out.at i hil
      rw [datas_getD _ _ (by rw [HR.out]; exact hlt)] at hcl
      obtain ⟨gc, oc', hgc, _, dr⟩ := dc.at i hlt
      subst hgc
      have ci := (dc.stp S1).cellsAt i hlt
      generalize rowAt rs i = r at *
      obtain ⟨ra, rc, C⟩ := r
      simp only at HS0 hcl ci dr
      have hO : (scG (i0 + i1) I (datas' rs) G i).2 = [] ∨ 0 < i := by cases i with | zero => exact .inl rfl | succ i => exact .inr (by omega)
      obtain ⟨⟨G1, O⟩, hr⟩ : ∃ r, r = (scG (i0 + i1) I (datas' rs) G i) := ⟨_, rfl⟩
      rw [← hr] at HS0 hG hG2 M1 own hO
      clear hr
      simp only at hG hG2 M1 own hO
      unfold scT at HS0
      simp only at HS0
      have hm := maG_len (i0 + i1) i I G1
      rw [← HI.out] at hm
      rw [hcl] at ci dr HS0
      go_wp2_with fail
      clear ci
      refine (match_any _ _ _ _ _ b g i0 i1 _ F1 _ M1 (Nat.le_trans hb S1.size) h0 h1 (dx.stp S1) (by omega) (by omega) (by omega)).mono ?_; rintro e wm1 ⟨rfl, Fm1, Mm1, sm1⟩
      have Sm1 := S1.trans sm1
      obtain ⟨om1, dm1⟩ := own.stp dd sm1
      clear M1 S1 sm1 own dd
      obtain ⟨⟨G2, z⟩, hz⟩ : ∃ r, r = maG (i0 + i1) i I G1 := ⟨_, rfl⟩
      rw [← hz] at HS0 hm Mm1
      try rw [← hz]
      clear hz
      simp only at HS0 hm Mm1
      by_cases hi0 : i = 0
      · have hbi : (((i : Nat) : Int) == 0) = true := by simp [hi0]
        have hOn : O = [] := by rcases hO with e | e; exact e; omega
        have hm0 : m = 0 := by have := om1.len; rw [hOn] at this; simpa using this
        have HB : Hid ((i == 0) = true) := Lib.hid (by simp [hi0])
        subst hm0 hOn
        clear hi0 hO
        go_wp2
        go_loopw [7, 28] (fun y u wx => ∃ k F2, k ≤ wd ∧ u = .int .i64 (k : Nat) ∧ (∃ a1 c1, y = .slice a1 k c1 ∧ Own wx w.heap.size a1 k c1 (scI (i0 + i1) z C [] (i == 0) G2 k).2 ∧ Disj (foot a1 c1) F2) ∧ Mk 82 wx b g i0 i1 (scI (i0 + i1) z C [] (i == 0) G2 k).1 F2 oa on oc ∧ Stp F w F2 wx) (fun _ u _ => wd - (intOf u).toNat)
        case atStart => exact ⟨0, Fm1, Nat.zero_le _, rfl, ⟨_, _, rfl, om1, dm1⟩, Mm1, Sm1⟩
        case round =>
          obtain ⟨k, F2, hkw, rfl, ⟨a2, c2, rfl, own2, dd2⟩, M2, S2⟩ := hrel
          clear om1 dm1 Mm1 Sm1
          by_cases hlt2 : k < wd
          · obtain ⟨hI1, hI2⟩ := scI_len (i0 + i1) z C [] (i == 0) G2 k
            have HI0 := scI_succ (i0 + i1) z C [] (i == 0) G2 k
            obtain ⟨gx, ox, hgx, _⟩ := dr.ints.at k hlt2
            subst hgx
            have cx := (dr.stp S2).ints.cellsAt k hlt2
            generalize C.getD k 0 = x at *
            obtain ⟨⟨G3, N⟩, hr3⟩ : ∃ r, r = (scI (i0 + i1) z C [] (i == 0) G2 k) := ⟨_, rfl⟩
            rw [← hr3] at HI0 hI1 hI2 M2 own2
            clear hr3
            simp only at hI1 hI2 M2 own2
            unfold scS at HI0
            rw [HB.out] at HI0
            simp only [if_true] at HI0
            have HS := Lib.hid HI0
            clear HI0
            go_wp2_with fail
            clear cx
            refine (and_any _ _ b g i0 i1 _ F2 _ M2 (Nat.le_trans hb S2.size) h0 h1 (by (try simp only [gt_len]); omega)).mono ?_; rintro e wm31 ⟨rfl, Fm31, Mm31, sm31⟩
            have Sm31 := S2.trans sm31
            obtain ⟨om31, dm31⟩ := own2.stp dd2 sm31
            clear M2 S2 sm31 own2 dd2
            go_wp2_with (at_builtin; refine wpList_appJ _ rfl _ _ rfl w.heap.size a2 k c2 N rfl (om31.alloc _) _ 1 1 [_] rfl (Ints.lit1 _ _ _) (by omega) (by have := Sm31.size; simp; omega) ?_)
            intro am32 cm32 wm32 om32 _ gm32 mm32
            have Om32 := Only.of_grown gm32
            have Mm32 := Mk.only (Mk.alloc Mm31 _) Om32 dm31
            have Sm32 := Stp.onto (Stp.alloc Sm31 _) Om32 (fun k hk => (om31.feet k hk).1)
            have dm32 : Disj (foot am32 cm32) Fm31 := mm32.disj dm31 (fun k hk => by have := (Mm31.feet k hk).2; simp; omega)
            clear Mm31 Sm31 om31 dm31 Om32 gm32 mm32
            go_wp2
            go_roundw
            case rel => exact ⟨k + 1, Fm31, by omega, by go_num, ⟨_, _, rfl, by rw [HB.out, HS.out]; exact om32, dm32⟩, by rw [HB.out, HS.out]; exact Mm32, Sm32⟩
            case measure => simp [intOf]; omega
          · obtain rfl : k = wd := by omega
            have HSS := Lib.hid HS0
            clear HS0
            go_wp2
            go_roundw
            case rel => exact ⟨i + 1, F2, by omega, by go_num, ⟨_, _, _, rfl, by rw [HSS.out]; exact own2, dd2⟩, by rw [HSS.out]; exact M2, S2⟩
            case measure => simp [intOf]; omega
      · have hbi : (((i : Nat) : Int) == 0) = false := by simp [hi0]
        have hOl : O.length = wd := hG2 (by omega)
        have hmw : m = wd := by rw [om1.len]; exact hOl
        have HB : Hid ((i == 0) = false) := Lib.hid (by simp [hi0])
        subst hmw
        clear hi0 hO
        go_wp2
        go_loopw [7, 28] (fun y u wx => ∃ k F2, k ≤ m ∧ u = .int .i64 (k : Nat) ∧ y = .slice a1 m c1 ∧ Own wx w.heap.size a1 m c1 ((scI (i0 + i1) z C O (i == 0) G2 k).2 ++ O.drop k) ∧ Disj (foot a1 c1) F2 ∧ Mk 82 wx b g i0 i1 (scI (i0 + i1) z C O (i == 0) G2 k).1 F2 oa on oc ∧ Stp F w F2 wx) (fun _ u _ => m - (intOf u).toNat)
        case atStart => exact ⟨0, Fm1, Nat.zero_le _, rfl, rfl, om1, dm1, Mm1, Sm1⟩
        case round =>
          obtain ⟨k, F2, hkw, rfl, rfl, own2, dd2, M2, S2⟩ := hrel
          clear om1 dm1 Mm1 Sm1
          by_cases hlt2 : k < m
          · obtain ⟨hI1, hI2⟩ := scI_len (i0 + i1) z C O (i == 0) G2 k
            have HI0 := scI_succ (i0 + i1) z C O (i == 0) G2 k
            obtain ⟨gx, ox, hgx, _⟩ := dr.ints.at k hlt2
            subst hgx
            have cx := (dr.stp S2).ints.cellsAt k hlt2
            have HT := fun x => set_mid (scI (i0 + i1) z C O (i == 0) G2 k).2 O k x hI2 (by omega)
            obtain ⟨ga, hga, hba, hga2, ca', fa, sa⟩ := own2.at k hlt2
            subst hga
            have eO : ((scI (i0 + i1) z C O (i == 0) G2 k).2 ++ O.drop k).getD k 0 = O.getD k 0 := by rw [List.getD_eq_getElem?_getD, List.getElem?_append_right (by omega), hI2, Nat.sub_self, List.getElem?_drop, Nat.add_zero, List.getD_eq_getElem?_getD]
            rw [eO] at ca'
            clear eO sa fa hba hga2
            obtain ⟨yo, hyo⟩ : ∃ yo, yo = O.getD k 0 := ⟨_, rfl⟩
            rw [← hyo] at ca' HI0
            have HYO := Lib.hid hyo
            clear hyo
            generalize C.getD k 0 = x at *
            obtain ⟨⟨G3, N⟩, hr3⟩ : ∃ r, r = (scI (i0 + i1) z C O (i == 0) G2 k) := ⟨_, rfl⟩
            rw [← hr3] at HI0 hI1 hI2 M2 own2 HT
            clear hr3
            simp only at hI1 hI2 M2 own2 HT
            unfold scS at HI0
            rw [HB.out] at HI0
            simp only [Bool.false_eq_true, if_false] at HI0
            have HS := Lib.hid HI0
            clear HI0
            go_wp2_with fail
            clear cx
            refine (and_any _ _ b g i0 i1 _ F2 _ M2 (Nat.le_trans hb S2.size) h0 h1 (by (try simp only [gt_len]); omega)).mono ?_; rintro e wm31 ⟨rfl, Fm31, Mm31, sm31⟩
            have Sm31 := S2.trans sm31
            obtain ⟨om31, dm31⟩ := own2.stp dd2 sm31
            clear M2 S2 sm31 own2 dd2
            have co := om31.ints.cellsAt k hlt2
            have eO2 : (N ++ O.drop k).getD k 0 = O.getD k 0 := by rw [List.getD_eq_getElem?_getD, List.getElem?_append_right (by omega), hI2, Nat.sub_self, List.getElem?_drop, Nat.add_zero, List.getD_eq_getElem?_getD]
            rw [eO2, ← HYO.out] at co
            clear eO2 ca'
            rw [Nat.zero_add] at co
            go_wp2_with fail
            clear co
            refine (xor_any _ _ b g i0 i1 _ Fm31 _ Mm31 (Nat.le_trans hb Sm31.size) h0 h1 (by (try simp only [gt_len]); omega)).mono ?_; rintro e wm32 ⟨rfl, Fm32, Mm32, sm32⟩
            have Sm32 := Sm31.trans sm32
            obtain ⟨om32, dm32⟩ := om31.stp dm31 sm32
            clear Mm31 Sm31 sm32 om31 dm31
            obtain ⟨ga', hga', _, _, ca', fa, sa⟩ := om32.at k hlt2
            cases hga'
            have ow3 := sa (gW (i0 + i1) (gt G3 1 z x))
            rw [HT] at ow3
            have O3 : Only (foot (some ⟨ga, 0, none⟩) c1) wm32 (wm32.setCell ⟨ga, k, none⟩ (.int .i64 (gW (i0 + i1) (gt G3 1 z x)))) := (Only.refl _ _).setCell _ _ (foot_mem (x := ⟨ga, 0, none⟩) (by have := om32.cap; omega))
            have M3 := Mk.only Mm32 O3 dm32
            have S3 := Stp.onto Sm32 O3 (fun q hq => (om32.feet q hq).1)
            have HW := Lib.hid ow3
            have HM := Lib.hid M3
            have HSt := Lib.hid S3
            clear ow3 M3 S3 O3 sa HT
            go_wp2
            go_roundw
            case rel => exact ⟨k + 1, Fm32, by omega, by go_num, rfl, by rw [HB.out, HS.out]; exact HW.out, dm32, by rw [HB.out, HS.out]; exact HM.out, HSt.out⟩
            case measure => simp [intOf]; omega
          · obtain rfl : k = m := by omega
            rw [List.drop_eq_nil_of_le (Nat.le_of_eq hOl), List.append_nil] at own2
            have HSS := Lib.hid HS0
            clear HS0
            go_wp2
            go_roundw
            case rel => exact ⟨i + 1, F2, by omega, by go_num, ⟨_, _, _, rfl, by rw [HSS.out]; exact own2, dd2⟩, by rw [HSS.out]; exact M2, S2⟩
            case measure => simp [intOf]; omega
    · obtain rfl : i = n := by omega
      go_wp2
      go_ret
      exact ⟨_, _, _, F1, rfl, own, dd, M1, S1⟩
end Go.Proofs.Ytmbheimjphhamaa
namespace Go.Proofs.Ytmbheimjphhamaa
open Go.RowKit
set_option maxHeartbeats 8000000 in
set_option maxRecDepth 100000 in
theorem writ_any (ca : Option Addr) (n cc : Nat) (rs : List RowD) (ia : Option Addr) (v ic : Nat) (I : List Int) (wd : Nat) {oa : Option Addr} {on oc : Nat} (b g : Nat) (i0 i1 : Int) (G : List Int) (F : List Nat) (w : World) (h : Mk 82 w b g i0 i1 G F oa on oc) (hb : b ≤ w.heap.size) (h0 : 0 ≤ i0 ∧ i0 ≤ 1000) (h1 : 0 ≤ i1 ∧ i1 ≤ 1000) (dc : RwD w ca n cc rs F) (dx : IntD w ia v ic I F) (hA : AllL wd (datas' rs)) (hn : 1 ≤ n ∧ n ≤ 8) (hv : v ≤ 8) (hw : wd ≤ 20) (hl : G.length ≤ 1000) (nb wb : Nat) (hnb : w.cell? ⟨nb, 0, none⟩ = some (.int .i64 n)) (hwb : w.cell? ⟨wb, 0, none⟩ = some (.int .i64 wd)) :
    Calls Try.prog 43 #[.pointer (some ⟨g, 0, none⟩), .slice ca n cc, .slice ia v ic, .pointer (some ⟨nb, 0, none⟩), .pointer (some ⟨wb, 0, none⟩)] w fun e w' => ∃ a1 m1 c1 F', e = .returned (.slice a1 m1 c1) ∧ Own w' w.heap.size a1 m1 c1 (wrG (i0 + i1) I (spL ((n * wd : Nat) + v : Int) wd) (datas' rs) G n).2 ∧ Disj (foot a1 c1) F' ∧ Mk 82 w' b g i0 i1 (wrG (i0 + i1) I (spL ((n * wd : Nat) + v : Int) wd) (datas' rs) G n).1 F' oa on oc ∧ Stp F w F' w' := by
  have HI := Lib.hid dx.ints.len
  have HAL := Lib.hid hA
  have HR := Lib.hid dc.len
  have hle := dc.le
  have hle2 := dx.ints.le
  clear hA
  have hp1 : 0 ≤ (n : Int) * (wd : Int) := Int.mul_nonneg (by omega) (by omega)
  have hp2 : (n : Int) * (wd : Int) ≤ 8 * 20 := Int.mul_le_mul (by omega) (by omega) (by omega) (by omega)
  obtain ⟨q, hq⟩ : ∃ q : Int, q = (n : Int) * (wd : Int) := ⟨_, rfl⟩
  have t1 : IntKind.i64.wrap ((n : Int) * (wd : Int)) = q := by rw [← hq]; exact IntWalk.i64_in _ (by omega)
  have HQ : Hid (((n * wd : Nat) : Int) = q) := Lib.hid (by rw [hq]; exact Int.natCast_mul _ _)
  rw [← hq] at hp1 hp2
  clear hq
  rw [HQ.out]
  go_enter Try.func43, Try.ntmps43
  go_wp2_with fail
  refine (span_any (q + v) wd _ (by omega) (by omega)).mono ?_; rintro e w1 ⟨va, vc, rfl, ov, u1⟩
  have M1 := h.below u1
  have dc1 := dc.below u1
  have dx1 := dx.below u1
  have dv := ov.intD (Disj.of_rng ov.feet h.feet (.inr (Nat.le_refl _)))
  have SB : Stp F w F w1 := (Stp.refl _ _).below u1
  have hb1 : b ≤ w1.heap.size := Nat.le_trans hb u1.size
  clear ov u1 h hb dc dx hnb hwb
  have hb := hb1
  clear hb1
  have hvl : (spL (q + v) wd).length = wd := spL_len _ _
  obtain ⟨V, hV⟩ : ∃ V, V = spL (q + v) wd := ⟨_, rfl⟩
  rw [← hV] at dv hvl
  have HV := Lib.hid hV
  clear hV
  have HVL := Lib.hid hvl
  clear hvl
  go_wp2
  go_loopw [10, 24] (fun y u wr => ∃ i F1, i ≤ n ∧ u = .int .i64 (i : Nat) ∧ (∃ a1 m c1, y = .slice a1 m c1 ∧ Own wr w1.heap.size a1 m c1 (wrG (i0 + i1) I V (datas' rs) G i).2 ∧ Disj (foot a1 c1) F1) ∧ Mk 82 wr b g i0 i1 (wrG (i0 + i1) I V (datas' rs) G i).1 F1 oa on oc ∧ Stp F w1 F1 wr) (fun _ u _ => n - (intOf u).toNat)
  case atStart => exact ⟨0, F, Nat.zero_le _, rfl, ⟨_, 0, _, rfl, Own.nil0 _ _ _, foot_nil _ _⟩, M1.alloc _, (Stp.refl _ _).alloc _⟩
  case round =>
    obtain ⟨i, F1, hk, rfl, ⟨a1, m, c1, rfl, own, dd⟩, M2, S2⟩ := hrel
    clear M1
    by_cases hlt : i < n
    · have hil : i < (datas' rs).length := by rw [datas_len, HR.out]; exact hlt
      obtain ⟨hG, hG2⟩ := wrG_len (i0 + i1) I V (datas' rs) G i
      rw [← HI.out, HVL.out] at hG
      rw [HVL.out] at hG2
      have hGb : (6 * v + 3 + 9 * wd) * i ≤ 250 * 8 := Nat.mul_le_mul (by omega) (by omega)
      have hOb : wd * i ≤ 20 * 8 := Nat.mul_le_mul hw (by omega)
      have hml : m ≤ 160 := by have := own.len; omega
      have HS0 := wrG_succ (i0 + i1) I V (datas' rs) G i
      rw [datas_getD _ _ (by rw [HR.out]; exact hlt)] at HS0
      have hcl := HAL.out.at i hil
      rw [datas_getD _ _ (by rw [HR.out]; exact hlt)] at hcl
      obtain ⟨gc, oc', hgc, _, dr⟩ := dc1.at i hlt
      subst hgc
      have ci := (dc1.stp S2).cellsAt i hlt
      generalize rowAt rs i = r at *
      obtain ⟨ra, rc, C⟩ := r
      simp only at HS0 hcl ci dr
      obtain ⟨⟨G1, O⟩, hr⟩ : ∃ r, r = (wrG (i0 + i1) I V (datas' rs) G i) := ⟨_, rfl⟩
      rw [← hr] at HS0 hG hG2 M2 own
      clear hr
      simp only at hG hG2 M2 own
      unfold wrS at HS0
      simp only at HS0
      have hm := maG_len (i0 + i1) i I G1
      rw [← HI.out] at hm
      rw [hcl] at ci dr
      rw [HVL.out] at HS0
      clear hcl
      go_wp2_with fail
      clear ci
      have dxs := dx1.stp S2
      refine (match_any _ _ _ _ _ b g i0 i1 _ F1 _ M2 (Nat.le_trans hb S2.size) h0 h1 dxs (by omega) (by omega) (by omega)).mono ?_; rintro e wm1 ⟨rfl, Fm1, Mm1, sm1⟩
      have Sm1 := S2.trans sm1
      obtain ⟨om1, dm1⟩ := own.stp dd sm1
      clear M2 S2 sm1 own dd
      obtain ⟨⟨G2, z⟩, hz⟩ : ∃ r, r = maG (i0 + i1) i I G1 := ⟨_, rfl⟩
      rw [← hz] at HS0 hm Mm1
      try rw [← hz]
      clear hz
      simp only at HS0 hm Mm1
      have hch := chG_len (i0 + i1) z V C G2 wd
      go_wp2_with fail
      refine (choose_any z _ wd _ V _ wd _ C b g i0 i1 G2 _ _ Mm1 (Nat.le_trans hb Sm1.size) h0 h1 (dv.stp Sm1) (dr.stp Sm1) (Nat.le_refl _) (by omega) (by omega)).mono ?_; rintro e w7 ⟨a7, c7, F7, rfl, o7, d7, M7, s7⟩
      obtain ⟨ow7, dw7⟩ := om1.stp dm1 s7
      have S7 := Sm1.trans s7
      clear Mm1 Sm1 om1 dm1 s7
      obtain ⟨⟨G3, L⟩, hr3⟩ : ∃ r, r = chG (i0 + i1) z V C G2 wd := ⟨_, rfl⟩
      rw [← hr3] at HS0 hch o7 M7
      clear hr3
      simp only at HS0 hch o7 M7
      have HS := Lib.hid HS0
      clear HS0
      go_wp2_with (at_builtin; refine wpList_appJ _ rfl _ _ rfl w1.heap.size a1 m c1 O rfl ow7 _ wd _ L rfl o7.ints (by omega) (by have := S7.size; omega) ?_)
      intro a8 c8 w8 o8 _ g8 m8
      have O8 := Only.of_grown g8
      have M8 := Mk.only M7 O8 dw7
      have S8 := Stp.onto S7 O8 (fun k hk => (ow7.feet k hk).1)
      have d8 : Disj (foot a8 c8) F7 := m8.disj dw7 (fun k hk => (M7.feet k hk).2)
      clear M7 S7 ow7 dw7 O8 g8 m8 o7 d7
      go_wp2
      go_roundw
      case rel => exact ⟨i + 1, F7, by omega, by go_num, ⟨_, _, _, rfl, by rw [HS.out]; exact o8, d8⟩, by rw [HS.out]; exact M8, S8⟩
      case measure => simp [intOf]; omega
    · obtain rfl : i = n := by omega
      go_wp2
      go_ret
      exact ⟨_, _, _, F1, rfl, by rw [← HV.out]; exact own.lower SB.size, dd, by rw [← HV.out]; exact M2, SB.trans S2⟩
end Go.Proofs.Ytmbheimjphhamaa
