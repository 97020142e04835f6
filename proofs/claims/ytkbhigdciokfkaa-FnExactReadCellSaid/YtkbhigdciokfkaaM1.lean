/- Further lemmas and walks that the claim's proof rests on, part 1. -/
import Derived.Test.YtkbhigdciokfkaaK1
import Derived.Test.YtkbhigdciokfkaaK2
import Derived.Test.YtkbhigdciokfkaaK3
import Derived.Test.YtkbhigdciokfkaaK4
import Derived.Test.YtkbhigdciokfkaaK5
import Derived.Test.YtkbhigdciokfkaaK6
namespace Go.Proofs.Ytkbhigdciokfkaa
open Go.RowKit
set_option maxHeartbeats 4000000 in
theorem not_any (ka : Int) {oa : Option Addr} {on oc : Nat} (b g : Nat) (i0 i1 : Int) (G : List Int) (F : List Nat) (w : World) (h : Mk 81 w b g i0 i1 G F oa on oc) (hb : b ≤ w.heap.size) (h0 : 0 ≤ i0 ∧ i0 ≤ 1000) (h1 : 0 ≤ i1 ∧ i1 ≤ 1000) (hl : G.length ≤ 30000) :
    Calls Try.prog 100 #[.pointer (some ⟨g, 0, none⟩), .int .i64 ka] w fun e w' => e = .returned (.int .i64 (gW (i0 + i1) G)) ∧ ∃ F', Mk 81 w' b g i0 i1 (gt G 2 ka 0) F' oa on oc ∧ Stp F w F' w' := by
  go_enter Try.func100, Try.ntmps100
  go_wp2_with fail
  refine (gate_any 2 ka 0 b g i0 i1 G F _ h hb h0 h1 hl).mono ?_; rintro e w1 ⟨rfl, F1, m1, s1⟩
  go_wp2
  go_ret
  exact ⟨rfl, F1, m1, s1⟩
set_option maxHeartbeats 4000000 in
theorem snot_any (ka : Int) {oa : Option Addr} {on oc : Nat} (b g : Nat) (i0 i1 : Int) (G : List Int) (F : List Nat) (w : World) (h : Mk 79 w b g i0 i1 G F oa on oc) (hb : b ≤ w.heap.size) (h0 : 0 ≤ i0 ∧ i0 ≤ 1000) (h1 : 0 ≤ i1 ∧ i1 ≤ 1000) (hl : G.length ≤ 30000) :
    Calls Try.prog 127 #[.pointer (some ⟨g, 0, none⟩), .int .i64 ka] w fun e w' => e = .returned (.int .i64 (gW (i0 + i1) G)) ∧ ∃ F', Mk 79 w' b g i0 i1 (gt G 2 ka 0) F' oa on oc ∧ Stp F w F' w' := by
  go_enter Try.func127, Try.ntmps127
  go_wp2_with fail
  refine (sgate_any 2 ka 0 b g i0 i1 G F _ h hb h0 h1 hl).mono ?_; rintro e w1 ⟨rfl, F1, m1, s1⟩
  go_wp2
  go_ret
  exact ⟨rfl, F1, m1, s1⟩
set_option maxHeartbeats 4000000 in
theorem sone_any {oa : Option Addr} {on oc : Nat} (b g : Nat) (i0 i1 : Int) (G : List Int) (F : List Nat) (w : World) (h : Mk 79 w b g i0 i1 G F oa on oc) (hb : b ≤ w.heap.size) (h0 : 0 ≤ i0 ∧ i0 ≤ 1000) (h1 : 0 ≤ i1 ∧ i1 ≤ 1000) (hl : G.length ≤ 30000) :
    Calls Try.prog 128 #[.pointer (some ⟨g, 0, none⟩)] w fun e w' => e = .returned (.int .i64 (gW (i0 + i1) G)) ∧ ∃ F', Mk 79 w' b g i0 i1 (gt G 3 0 0) F' oa on oc ∧ Stp F w F' w' := by
  go_enter Try.func128, Try.ntmps128
  go_wp2_with fail
  refine (sgate_any 3 0 0 b g i0 i1 G F _ h hb h0 h1 hl).mono ?_; rintro e w1 ⟨rfl, F1, m1, s1⟩
  go_wp2
  go_ret
  exact ⟨rfl, F1, m1, s1⟩
end Go.Proofs.Ytkbhigdciokfkaa
namespace Go.Proofs.Ytkbhigdciokfkaa
open Go.RowKit
theorem set_mid (l r : List Int) (k : Nat) (x : Int) (hl : l.length = k) (hk : k < r.length) : (l ++ r.drop k).set k x = l ++ [x] ++ r.drop (k + 1) := by
  subst hl
  rw [List.set_append_right _ _ (Nat.le_refl _), Nat.sub_self, List.drop_eq_getElem_cons hk, List.set_cons_zero, List.append_assoc]
  rfl
theorem keep_mid (l r : List Int) (k : Nat) (hk : k < r.length) : l ++ r.drop k = l ++ [r.getD k 0] ++ r.drop (k + 1) := by
  rw [List.drop_eq_getElem_cons hk, List.append_assoc]
  simp [List.getD, hk]
theorem Own.cellT {w b g n c l} (h : Own w b (some ⟨g, 0, none⟩) n c l) (j : Nat) (hj : j + 1 < n) : w.cell? ⟨g, 1 + j, none⟩ = some (.int .i64 (l.getD (j + 1) 0)) := by
  have := h.ints.cellsAt (j + 1) hj
  rw [Nat.zero_add, show j + 1 = 1 + j from Nat.add_comm _ _] at this
  rw [Nat.add_comm j 1]
  exact this
set_option maxHeartbeats 8000000 in
set_option maxRecDepth 100000 in
theorem match_any (i : Int) (ia : Option Addr) (v ic : Nat) (I : List Int) {oa : Option Addr} {on oc : Nat} (b g : Nat) (i0 i1 : Int) (G : List Int) (F : List Nat) (w : World) (h : Mk 81 w b g i0 i1 G F oa on oc) (hb : b ≤ w.heap.size) (h0 : 0 ≤ i0 ∧ i0 ≤ 1000) (h1 : 0 ≤ i1 ∧ i1 ≤ 1000) (dx : IntD w ia v ic I F) (hi : 0 ≤ i ∧ i ≤ 1000) (hv : v ≤ 50) (hl : G.length ≤ 20000) :
    Calls Try.prog 56 #[.pointer (some ⟨g, 0, none⟩), .slice ia v ic, .int .i64 i] w fun e w' => e = .returned (.int .i64 (maG (i0 + i1) i I G).2) ∧ ∃ F', Mk 81 w' b g i0 i1 (maG (i0 + i1) i I G).1 F' oa on oc ∧ Stp F w F' w' := by
  have HI := Lib.hid dx.ints.len
  have hle := dx.ints.le
  go_enter Try.func56, Try.ntmps56
  go_wp2_with fail
  refine (Clone_any _ _ _ I _ dx.ints (by omega)).mono ?_; rintro e w1 ⟨a1, c1, rfl, o1, u1⟩
  have M1 := h.below u1
  have S1 : Stp F w F w1 := (Stp.refl _ _).below u1
  have d1 : Disj (foot a1 c1) F := Disj.of_rng o1.feet h.feet (.inr (Nat.le_refl _))
  clear u1
  go_wp2
  go_loopw [17] (fun u wr => ∃ k F1, k ≤ v ∧ u = .int .i64 (k : Nat) ∧ Own wr w.heap.size a1 v c1 ((mnG (i0 + i1) i I G k).2 ++ I.drop k) ∧ Disj (foot a1 c1) F1 ∧ Mk 81 wr b g i0 i1 (mnG (i0 + i1) i I G k).1 F1 oa on oc ∧ Stp F w F1 wr) (fun u _ => v - (intOf u).toNat)
  case atStart => exact ⟨0, F, Nat.zero_le _, rfl, o1, d1, M1, S1⟩
  case round =>
    obtain ⟨k, F1, hk, rfl, own, dd, M2, S2⟩ := hrel
    clear o1 d1 M1 S1
    by_cases hlt : k < v
    · have hG := mnG_len (i0 + i1) i I G k
      have HS0 := mnG_succ (i0 + i1) i I G k
      obtain ⟨gx, ox, hgx, _⟩ := dx.ints.at k hlt
      subst hgx
      have cx := (dx.stp S2).ints.cellsAt k hlt
      have hkI : k < I.length := by rw [← HI.out]; exact hlt
      have HK := Lib.hid (keep_mid (mnG (i0 + i1) i I G k).2 I k hkI)
      have HT := fun x => set_mid (mnG (i0 + i1) i I G k).2 I k x hG.2 hkI
      obtain ⟨x, ex⟩ : ∃ x, x = I.getD k 0 := ⟨_, rfl⟩
      rw [← ex] at HS0 cx HK
      clear ex
      obtain ⟨⟨G1, o1⟩, hr⟩ : ∃ r, r = (mnG (i0 + i1) i I G k) := ⟨_, rfl⟩
      rw [← hr] at HS0 hG M2 own HK HT
      clear hr
      simp only at hG M2 own HK HT
      have t2 : IntKind.u64.wrap (k : Int) = (k : Int) := IntWalk.u64_in _ (by omega)
      obtain ⟨r0, r1⟩ := shr_rng i k (by omega) (by omega)
      have t3 : bits BinOp.and IntKind.i64 (i / 2 ^ k) 1 = i / 2 ^ k % 2 := and_one_i64 _ (by omega) (by omega)
      by_cases hb : i / 2 ^ k % 2 = 1
      · unfold mnS at HS0
        rw [if_pos hb] at HS0
        have HS := Lib.hid HS0
        clear HS0 HT
        have t4 : ((bits BinOp.and IntKind.i64 (i / 2 ^ k) 1 == 0) : Bool) = false := by rw [t3, hb]; rfl
        clear hb t3
        go_wp2
        go_roundw
        case rel => exact ⟨k + 1, F1, by omega, by go_num, by rw [HS.out, ← HK.out]; exact own, dd, by rw [HS.out]; exact M2, S2⟩
        case measure => simp [intOf]; omega
      · have hb0 : i / 2 ^ k % 2 = 0 := by omega
        unfold mnS at HS0
        rw [if_neg hb] at HS0
        have HS := Lib.hid HS0
        clear HS0 HK
        have t4 : ((bits BinOp.and IntKind.i64 (i / 2 ^ k) 1 == 0) : Bool) = true := by rw [t3, hb0]; rfl
        clear hb hb0 t3
        go_wp2_with fail
        refine (not_any _ b g i0 i1 _ F1 _ M2 (Nat.le_trans hb S2.size) h0 h1 (by (try simp only [gt_len]); omega)).mono ?_; rintro e wm1 ⟨rfl, Fm1, Mm1, sm1⟩
        have Sm1 := S2.trans sm1
        obtain ⟨om1, dm1⟩ := own.stp dd sm1
        clear M2 S2 sm1 own dd
        obtain ⟨ga, hga, hba, hga2, ca, fa, sa⟩ := om1.at k hlt
        subst hga
        have ow3 := sa (gW (i0 + i1) G1)
        rw [HT] at ow3
        have O3 : Only (foot (some ⟨ga, 0, none⟩) c1) wm1 (wm1.setCell ⟨ga, k, none⟩ (.int .i64 (gW (i0 + i1) G1))) := (Only.refl _ _).setCell _ _ (foot_mem (x := ⟨ga, 0, none⟩) (by have := om1.cap; omega))
        have M3 := Mk.only Mm1 O3 dm1
        have S3 := Stp.onto Sm1 O3 (fun q hq => (om1.feet q hq).1)
        have HW := Lib.hid ow3
        have HM := Lib.hid M3
        have HSt := Lib.hid S3
        clear ow3 M3 S3 O3 sa HT
        go_wp2
        go_roundw
        case rel => exact ⟨k + 1, Fm1, by omega, by go_num, by rw [HS.out]; exact HW.out, dm1, by rw [HS.out]; exact HM.out, HSt.out⟩
        case measure => simp [intOf]; omega
    · obtain rfl : k = v := by omega
      have hG := mnG_len (i0 + i1) i I G k
      have eL : I.drop k = [] := List.drop_eq_nil_of_le (by rw [← HI.out]; exact Nat.le_refl _)
      rw [eL, List.append_nil] at own
      have HM : Hid (maG (i0 + i1) i I G = if k = 0 then (gt G 3 0 0, gW (i0 + i1) G) else anG (i0 + i1) (mnG (i0 + i1) i I G k).2 (mnG (i0 + i1) i I G k).1 (k - 1)) := Lib.hid (by unfold maG; rw [← HI.out])
      have H0 : k = 0 → (mnG (i0 + i1) i I G k).1 = G := fun e => by rw [e]; rfl
      obtain ⟨⟨G1, l⟩, hr⟩ : ∃ r, r = (mnG (i0 + i1) i I G k) := ⟨_, rfl⟩
      rw [← hr] at hG M2 own HM H0
      clear hr
      simp only at hG M2 own HM H0
      by_cases hk0 : k = 0
      · have HM2 : Hid (maG (i0 + i1) i I G = (gt G 3 0 0, gW (i0 + i1) G)) := Lib.hid (by rw [HM.out, if_pos hk0])
        rw [H0 hk0] at M2
        have t5 : (((k : Nat) : Int) == 0) = true := by simp [hk0]
        have hge : ¬ (k : Int) < (k : Int) := by omega
        clear hk0 H0 HM
        go_wp2_with fail
        refine (gate_any _ _ _ b g i0 i1 _ F1 _ M2 (Nat.le_trans hb S2.size) h0 h1 (by omega)).mono ?_; rintro e w3 ⟨rfl, F3, M3, s3⟩
        go_wp2
        go_ret
        exact ⟨by rw [HM2.out]; rfl, F3, by rw [HM2.out]; exact M3, S2.trans s3⟩
      · have HM2 : Hid (maG (i0 + i1) i I G = anG (i0 + i1) l G1 (k - 1)) := Lib.hid (by rw [HM.out, if_neg hk0])
        have t5 : (((k : Nat) : Int) == 0) = false := by simp [hk0]
        have hge : ¬ (k : Int) < (k : Int) := by omega
        have hk1 : 1 ≤ k := by omega
        obtain ⟨n, hn⟩ : ∃ n, k = n + 1 := ⟨k - 1, by omega⟩
        have HN := Lib.hid hn
        clear hk0 H0 HM hn
        obtain ⟨ga, oo, hga, c0⟩ := own.ints.at 0 (by omega)
        obtain ⟨ga2, hga2, _⟩ := own.at 0 (by omega)
        rw [hga] at hga2
        simp only [Option.some.injEq, Addr.mk.injEq, and_true] at hga2
        obtain ⟨rfl, rfl⟩ := hga2
        subst hga
        have hcap := own.cap
        obtain ⟨hcap, hcap2⟩ := hcap
        by_cases hc1 : c1 = 1
        · go_wp2
          go_loopw [10, 46] (fun z u wx => ∃ j F2, j + 1 ≤ k ∧ u = .int .i64 (j : Nat) ∧ z = .int .i64 (anG (i0 + i1) l G1 j).2 ∧ Own wx w.heap.size (some ⟨ga, 0, none⟩) k c1 l ∧ Disj (foot (some ⟨ga, 0, none⟩) c1) F2 ∧ Mk 81 wx b g i0 i1 (anG (i0 + i1) l G1 j).1 F2 oa on oc ∧ Stp F w F2 wx) (fun _ u _ => k - (intOf u).toNat)
          case atStart => exact ⟨0, F1, by omega, rfl, rfl, own, dd, M2, S2⟩
          case round =>
            obtain ⟨j, F2, hj, rfl, rfl, own2, dd2, M9, S9⟩ := hrel
            clear own dd M2 S2 c0
            have hA := anG_len (i0 + i1) l G1 j
            have HS := Lib.hid (anG_succ (i0 + i1) l G1 j)
            by_cases hlt2 : j + 1 < k
            · exact absurd hlt2 (by omega)
            · obtain rfl : j = n := by have := HN.out; omega
              have HJ := Lib.hid (show k - 1 = j by have := HN.out; omega)
              have hlt3 : ¬ (j : Int) < ((k - 1 : Nat) : Int) := by omega
              go_wp2
              go_ret
              exact ⟨by rw [HM2.out, HJ.out]; rfl, F2, by rw [HM2.out, HJ.out]; exact M9, S9⟩
        · go_wp2
          go_loopw [10, 46] (fun z u wx => ∃ j F2, j + 1 ≤ k ∧ u = .int .i64 (j : Nat) ∧ z = .int .i64 (anG (i0 + i1) l G1 j).2 ∧ Own wx w.heap.size (some ⟨ga, 0, none⟩) k c1 l ∧ Disj (foot (some ⟨ga, 0, none⟩) c1) F2 ∧ Mk 81 wx b g i0 i1 (anG (i0 + i1) l G1 j).1 F2 oa on oc ∧ Stp F w F2 wx) (fun _ u _ => k - (intOf u).toNat)
          case atStart => exact ⟨0, F1, by omega, rfl, rfl, own, dd, M2, S2⟩
          case round =>
            obtain ⟨j, F2, hj, rfl, rfl, own2, dd2, M9, S9⟩ := hrel
            clear own dd M2 S2 c0
            have hA := anG_len (i0 + i1) l G1 j
            have HS := Lib.hid (anG_succ (i0 + i1) l G1 j)
            by_cases hlt2 : j + 1 < k
            · have cj := own2.cellT j hlt2
              generalize l.getD (j + 1) 0 = y at *
              obtain ⟨⟨G2, z2⟩, hr2⟩ : ∃ r, r = anG (i0 + i1) l G1 j := ⟨_, rfl⟩
              rw [← hr2] at HS hA M9
              rw [← hr2]
              clear hr2
              unfold anS at HS
              simp only at hA HS M9
              have hlt3 : (j : Int) < ((k - 1 : Nat) : Int) := by omega
              go_wp2_with fail
              clear cj
              refine (and_any _ _ b g i0 i1 _ F2 _ M9 (Nat.le_trans hb S9.size) h0 h1 (by (try simp only [gt_len]); omega)).mono ?_; rintro e wm1 ⟨rfl, Fm1, Mm1, sm1⟩
              have Sm1 := S9.trans sm1
              obtain ⟨om1, dm1⟩ := own2.stp dd2 sm1
              clear M9 S9 sm1 own2 dd2
              go_wp2
              go_roundw
              case rel => exact ⟨j + 1, Fm1, by omega, by go_num, by rw [HS.out], om1, dm1, by rw [HS.out]; exact Mm1, Sm1⟩
              case measure => simp [intOf]; omega
            · obtain rfl : j = n := by have := HN.out; omega
              have HJ := Lib.hid (show k - 1 = j by have := HN.out; omega)
              have hlt3 : ¬ (j : Int) < ((k - 1 : Nat) : Int) := by omega
              go_wp2
              go_ret
              exact ⟨by rw [HM2.out, HJ.out]; rfl, F2, by rw [HM2.out, HJ.out]; exact M9, S9⟩
set_option maxHeartbeats 8000000 in
set_option maxRecDepth 100000 in
theorem meMatch_any (i : Int) (ia : Option Addr) (v ic : Nat) (I : List Int) {oa : Option Addr} {on oc : Nat} (b g : Nat) (i0 i1 : Int) (G : List Int) (F : List Nat) (w : World) (h : Mk 79 w b g i0 i1 G F oa on oc) (hb : b ≤ w.heap.size) (h0 : 0 ≤ i0 ∧ i0 ≤ 1000) (h1 : 0 ≤ i1 ∧ i1 ≤ 1000) (dx : IntD w ia v ic I F) (hi : 0 ≤ i ∧ i ≤ 1000) (hv : v ≤ 50) (hl : G.length ≤ 20000) :
    Calls Try.prog 136 #[.pointer (some ⟨g, 0, none⟩), .slice ia v ic, .int .i64 i] w fun e w' => e = .returned (.int .i64 (maG (i0 + i1) i I G).2) ∧ ∃ F', Mk 79 w' b g i0 i1 (maG (i0 + i1) i I G).1 F' oa on oc ∧ Stp F w F' w' := by
  have HI := Lib.hid dx.ints.len
  have hle := dx.ints.le
  by_cases hv0 : v = 0
  · have HM2 : Hid (maG (i0 + i1) i I G = (gt G 3 0 0, gW (i0 + i1) G)) := Lib.hid (by unfold maG; rw [if_pos (by rw [← HI.out]; exact hv0)])
    have t5 : (((v : Nat) : Int) == 0) = true := by simp [hv0]
    clear hv0
    go_enter Try.func136, Try.ntmps136
    go_wp2_with fail
    refine (sone_any b g i0 i1 _ F _ h hb h0 h1 (by omega)).mono ?_; rintro e w3 ⟨rfl, F3, M3, s3⟩
    go_wp2
    go_ret
    exact ⟨by rw [HM2.out]; rfl, F3, by rw [HM2.out]; exact M3, s3⟩
  have t5 : (((v : Nat) : Int) == 0) = false := by simp [hv0]
  have HM : Hid (maG (i0 + i1) i I G = anG (i0 + i1) (mnG (i0 + i1) i I G v).2 (mnG (i0 + i1) i I G v).1 (v - 1)) := Lib.hid (by unfold maG; rw [← HI.out, if_neg hv0])
  obtain ⟨n, hn⟩ : ∃ n, v = n + 1 := ⟨v - 1, by omega⟩
  have HN := Lib.hid hn
  clear hn hv0
  go_enter Try.func136, Try.ntmps136
  go_wp2_with fail
  refine (btOf_any i v _ (by omega) (by omega)).mono ?_; rintro e w2 ⟨ba, bc, rfl, ob, u2⟩
  have M2 := h.below u2
  have dx2 := dx.below u2
  have dB := ob.intD (Disj.of_rng ob.feet h.feet (.inr (Nat.le_refl _)))
  have hb2 : b ≤ w2.heap.size := Nat.le_trans hb u2.size
  have SB : Stp F w F w2 := (Stp.refl _ _).below u2
  clear ob u2 dx h hb
  have hb := hb2
  clear hb2
  go_wp2
  go_loopw [7, 23] (fun y u wr => ∃ k F1, k ≤ v ∧ u = .int .i64 (k : Nat) ∧ (∃ a1 c1, y = .slice a1 k c1 ∧ Own wr w2.heap.size a1 k c1 (mnG (i0 + i1) i I G k).2 ∧ Disj (foot a1 c1) F1) ∧ Mk 79 wr b g i0 i1 (mnG (i0 + i1) i I G k).1 F1 oa on oc ∧ Stp F w2 F1 wr) (fun _ u _ => v - (intOf u).toNat)
  case atStart => exact ⟨0, F, Nat.zero_le _, rfl, ⟨_, _, rfl, Own.nil0 _ _ _, foot_nil _ _⟩, M2, Stp.refl _ _⟩
  case round =>
    obtain ⟨k, F1, hk, rfl, ⟨a1, c1, rfl, own, dd⟩, M3, S3⟩ := hrel
    clear M2
    by_cases hlt : k < v
    · have hG := mnG_len (i0 + i1) i I G k
      have HS0 := mnG_succ (i0 + i1) i I G k
      obtain ⟨gx, ox, hgx, _⟩ := dx2.ints.at k hlt
      subst hgx
      obtain ⟨gy, oy, hgy, _⟩ := dB.ints.at k hlt
      subst hgy
      have cx := (dx2.stp S3).ints.cellsAt k hlt
      have cy := (dB.stp S3).ints.cellsAt k hlt
      have hq : (btL i v).getD k 0 = i / 2 ^ k % 2 := by simp [btL, List.getD, hlt]
      rw [hq] at cy
      clear hq
      obtain ⟨x, ex⟩ : ∃ x, x = I.getD k 0 := ⟨_, rfl⟩
      rw [← ex] at HS0 cx
      clear ex
      obtain ⟨⟨G1, o1⟩, hr⟩ : ∃ r, r = (mnG (i0 + i1) i I G k) := ⟨_, rfl⟩
      rw [← hr] at HS0 hG M3 own
      clear hr
      simp only at hG M3 own
      unfold mnS at HS0
      by_cases hb1 : i / 2 ^ k % 2 = 1
      · rw [if_pos hb1] at HS0
        have HS := Lib.hid HS0
        clear HS0
        rw [hb1] at cy
        clear hb1
        go_wp2_with (at_builtin; refine wpList_appJ _ rfl _ _ rfl w2.heap.size a1 k c1 o1 rfl (own.alloc _) _ 1 1 [_] rfl (Ints.lit1 _ _ _) (by omega) (by have := S3.size; simp; omega) ?_)
        intro am1 cm1 wm1 om1 _ gm1 mm1
        have Om1 := Only.of_grown gm1
        have Mm1 := Mk.only (Mk.alloc M3 _) Om1 dd
        have Sm1 := Stp.onto (Stp.alloc S3 _) Om1 (fun k hk => (own.feet k hk).1)
        have dm1 : Disj (foot am1 cm1) F1 := mm1.disj dd (fun k hk => by have := (M3.feet k hk).2; simp; omega)
        clear M3 S3 own dd Om1 gm1 mm1
        clear cx cy
        go_wp2
        go_roundw
        case rel => exact ⟨k + 1, F1, by omega, by go_num, ⟨_, _, rfl, by rw [HS.out]; exact om1, dm1⟩, by rw [HS.out]; exact Mm1, Sm1⟩
        case measure => simp [intOf]; omega
      · rw [if_neg hb1] at HS0
        have HS := Lib.hid HS0
        clear HS0
        have e0 : i / 2 ^ k % 2 = 0 := by omega
        rw [e0] at cy
        clear hb1 e0
        go_wp2_with fail
        clear cx cy
        refine (snot_any _ b g i0 i1 _ F1 _ M3 (Nat.le_trans hb S3.size) h0 h1 (by (try simp only [gt_len]); omega)).mono ?_; rintro e wm1 ⟨rfl, Fm1, Mm1, sm1⟩
        have Sm1 := S3.trans sm1
        obtain ⟨om1, dm1⟩ := own.stp dd sm1
        clear M3 S3 sm1 own dd
        go_wp2_with (at_builtin; refine wpList_appJ _ rfl _ _ rfl w2.heap.size a1 k c1 o1 rfl (om1.alloc _) _ 1 1 [_] rfl (Ints.lit1 _ _ _) (by omega) (by have := Sm1.size; simp; omega) ?_)
        intro am2 cm2 wm2 om2 _ gm2 mm2
        have Om2 := Only.of_grown gm2
        have Mm2 := Mk.only (Mk.alloc Mm1 _) Om2 dm1
        have Sm2 := Stp.onto (Stp.alloc Sm1 _) Om2 (fun k hk => (om1.feet k hk).1)
        have dm2 : Disj (foot am2 cm2) Fm1 := mm2.disj dm1 (fun k hk => by have := (Mm1.feet k hk).2; simp; omega)
        clear Mm1 Sm1 om1 dm1 Om2 gm2 mm2
        go_wp2
        go_roundw
        case rel => exact ⟨k + 1, Fm1, by omega, by go_num, ⟨_, _, rfl, by rw [HS.out]; exact om2, dm2⟩, by rw [HS.out]; exact Mm2, Sm2⟩
        case measure => simp [intOf]; omega
    · obtain rfl : k = v := by omega
      have hG := mnG_len (i0 + i1) i I G k
      obtain ⟨⟨G1, l⟩, hr⟩ : ∃ r, r = (mnG (i0 + i1) i I G k) := ⟨_, rfl⟩
      rw [← hr] at hG M3 own HM
      clear hr
      simp only at hG M3 own HM
      have HM2 := HM
      clear HM
      have hge : ¬ (k : Int) < (k : Int) := by omega
      have hk1 : 1 ≤ k := by have := HN.out; omega
      obtain ⟨ga, oo, hga, c0⟩ := own.ints.at 0 (by omega)
      obtain ⟨ga2, hga2, _⟩ := own.at 0 (by omega)
      rw [hga] at hga2
      simp only [Option.some.injEq, Addr.mk.injEq, and_true] at hga2
      obtain ⟨rfl, rfl⟩ := hga2
      subst hga
      have hcap := own.cap
      obtain ⟨hcap, hcap2⟩ := hcap
      by_cases hc1 : c1 = 1
      · go_wp2
        go_loopw [10, 53] (fun z u wx => ∃ j F2, j + 1 ≤ k ∧ u = .int .i64 (j : Nat) ∧ z = .int .i64 (anG (i0 + i1) l G1 j).2 ∧ Own wx w2.heap.size (some ⟨ga, 0, none⟩) k c1 l ∧ Disj (foot (some ⟨ga, 0, none⟩) c1) F2 ∧ Mk 79 wx b g i0 i1 (anG (i0 + i1) l G1 j).1 F2 oa on oc ∧ Stp F w2 F2 wx) (fun _ u _ => k - (intOf u).toNat)
        case atStart => exact ⟨0, F1, by omega, rfl, rfl, own, dd, M3, S3⟩
        case round =>
          obtain ⟨j, F2, hj, rfl, rfl, own2, dd2, M9, S9⟩ := hrel
          clear own dd M3 S3 c0
          have hA := anG_len (i0 + i1) l G1 j
          have HS := Lib.hid (anG_succ (i0 + i1) l G1 j)
          by_cases hlt2 : j + 1 < k
          · exact absurd hlt2 (by omega)
          · obtain rfl : j = n := by have := HN.out; omega
            have HJ := Lib.hid (show k - 1 = j by have := HN.out; omega)
            have hlt3 : ¬ (j : Int) < ((k - 1 : Nat) : Int) := by omega
            go_wp2
            go_ret
            exact ⟨by rw [HM2.out, HJ.out]; rfl, F2, by rw [HM2.out, HJ.out]; exact M9, SB.trans S9⟩
      · go_wp2
        go_loopw [10, 53] (fun z u wx => ∃ j F2, j + 1 ≤ k ∧ u = .int .i64 (j : Nat) ∧ z = .int .i64 (anG (i0 + i1) l G1 j).2 ∧ Own wx w2.heap.size (some ⟨ga, 0, none⟩) k c1 l ∧ Disj (foot (some ⟨ga, 0, none⟩) c1) F2 ∧ Mk 79 wx b g i0 i1 (anG (i0 + i1) l G1 j).1 F2 oa on oc ∧ Stp F w2 F2 wx) (fun _ u _ => k - (intOf u).toNat)
        case atStart => exact ⟨0, F1, by omega, rfl, rfl, own, dd, M3, S3⟩
        case round =>
          obtain ⟨j, F2, hj, rfl, rfl, own2, dd2, M9, S9⟩ := hrel
          clear own dd M3 S3 c0
          have hA := anG_len (i0 + i1) l G1 j
          have HS := Lib.hid (anG_succ (i0 + i1) l G1 j)
          by_cases hlt2 : j + 1 < k
          · have cj := own2.cellT j hlt2
            generalize l.getD (j + 1) 0 = y at *
            obtain ⟨⟨G2, z2⟩, hr2⟩ : ∃ r, r = anG (i0 + i1) l G1 j := ⟨_, rfl⟩
            rw [← hr2] at HS hA M9
            rw [← hr2]
            clear hr2
            unfold anS at HS
            simp only at hA HS M9
            have hlt3 : (j : Int) < ((k - 1 : Nat) : Int) := by omega
            go_wp2_with fail
            clear cj
            refine (sand_any _ _ b g i0 i1 _ F2 _ M9 (Nat.le_trans hb S9.size) h0 h1 (by (try simp only [gt_len]); omega)).mono ?_; rintro e wm1 ⟨rfl, Fm1, Mm1, sm1⟩
            have Sm1 := S9.trans sm1
            obtain ⟨om1, dm1⟩ := own2.stp dd2 sm1
            clear M9 S9 sm1 own2 dd2
            go_wp2
            go_roundw
            case rel => exact ⟨j + 1, Fm1, by omega, by go_num, by rw [HS.out], om1, dm1, by rw [HS.out]; exact Mm1, Sm1⟩
            case measure => simp [intOf]; omega
          · obtain rfl : j = n := by have := HN.out; omega
            have HJ := Lib.hid (show k - 1 = j by have := HN.out; omega)
            have hlt3 : ¬ (j : Int) < ((k - 1 : Nat) : Int) := by omega
            go_wp2
            go_ret
            exact ⟨by rw [HM2.out, HJ.out]; rfl, F2, by rw [HM2.out, HJ.out]; exact M9, SB.trans S9⟩
end Go.Proofs.Ytkbhigdciokfkaa
namespace Go.Proofs.Ytkbhigdciokfkaa
open Go.RowKit
set_option maxHeartbeats 8000000 in
set_option maxRecDepth 100000 in
theorem scan_any (ca : Option Addr) (n cc : Nat) (rs : List RowD) (ia : Option Addr) (v ic : Nat) (I : List Int) (wd : Nat) {oa : Option Addr} {on oc : Nat} (b g : Nat) (i0 i1 : Int) (G : List Int) (F : List Nat) (w : World) (h : Mk 81 w b g i0 i1 G F oa on oc) (hb : b ≤ w.heap.size) (h0 : 0 ≤ i0 ∧ i0 ≤ 1000) (h1 : 0 ≤ i1 ∧ i1 ≤ 1000) (dc : RwD w ca n cc rs F) (dx : IntD w ia v ic I F) (hA : AllL wd (datas' rs)) (hn : 1 ≤ n ∧ n ≤ 8) (hv : v ≤ 8) (hw : wd ≤ 20) (hl : G.length ≤ 1000) :
    Calls Try.prog 55 #[.pointer (some ⟨g, 0, none⟩), .slice ca n cc, .slice ia v ic] w fun e w' => ∃ a1 m1 c1 F', e = .returned (.slice a1 m1 c1) ∧ Own w' w.heap.size a1 m1 c1 (scG (i0 + i1) I (datas' rs) G n).2 ∧ Disj (foot a1 c1) F' ∧ Mk 81 w' b g i0 i1 (scG (i0 + i1) I (datas' rs) G n).1 F' oa on oc ∧ Stp F w F' w' := by
  have HI := Lib.hid dx.ints.len
  have HAL := Lib.hid hA
  have HR := Lib.hid dc.len
  have hle := dc.le
  clear hA
  go_enter Try.func55, Try.ntmps55
  go_wp2
  go_loopw [7, 17] (fun y u wr => ∃ i F1, i ≤ n ∧ u = .int .i64 (i : Nat) ∧ (∃ a1 m c1, y = .slice a1 m c1 ∧ Own wr w.heap.size a1 m c1 (scG (i0 + i1) I (datas' rs) G i).2 ∧ Disj (foot a1 c1) F1) ∧ Mk 81 wr b g i0 i1 (scG (i0 + i1) I (datas' rs) G i).1 F1 oa on oc ∧ Stp F w F1 wr) (fun _ u _ => n - (intOf u).toNat)
  case atStart => exact ⟨0, F, Nat.zero_le _, rfl, ⟨_, 0, _, rfl, Own.nil0 _ _ _, foot_nil _ _⟩, h.alloc _, (Stp.refl _ _).alloc _⟩
  case round =>
    obtain ⟨i, F1, hk, rfl, ⟨a1, m, c1, rfl, own, dd⟩, M1, S1⟩ := hrel
    by_cases hlt : i < n
    · have hil : i < (datas' rs).length := by rw [datas_len, HR.out]; exact hlt
      obtain ⟨hG, hG2⟩ := scG_len (B := i0 + i1) (idx := I) (G := G) HAL.out i (by omega)
      rw [← HI.out] at hG
      have hGb : (6 * v + 3 + 6 * wd) * i ≤ 200 * 8 := Nat.mul_le_mul (by omega) (by omega)
      have HS0 := scG_succ (i0 + i1) I (datas' rs) G i
      rw [datas_getD _ _ (by rw [HR.out]; exact hlt)] at HS0
      have hcl := HAL.out.at i hil
      rw [datas_getD _ _ (by rw [HR.out]; exact hlt)] at hcl
      obtain ⟨gc, oc', hgc, _, dr⟩ := dc.at i hlt
      subst hgc
      have ci := (dc.stp S1).cellsAt i hlt
      generalize rowAt rs i = r at *
      obtain ⟨ra, rc, C⟩ := r
      simp only at HS0 hcl ci dr
      have hO : (scG (i0 + i1) I (datas' rs) G i).2 = [] ∨ 0 < i := by cases i with | zero => exact .inl rfl | succ i => exact .inr (by omega)
      obtain ⟨⟨G1, O⟩, hr⟩ : ∃ r, r = (scG (i0 + i1) I (datas' rs) G i) := ⟨_, rfl⟩
      rw [← hr] at HS0 hG hG2 M1 own hO
      clear hr
      simp only at hG hG2 M1 own hO
      unfold scT at HS0
      simp only at HS0
      have hm := maG_len (i0 + i1) i I G1
      rw [← HI.out] at hm
      rw [hcl] at ci dr HS0
      go_wp2_with fail
      clear ci
      refine (match_any _ _ _ _ _ b g i0 i1 _ F1 _ M1 (Nat.le_trans hb S1.size) h0 h1 (dx.stp S1) (by omega) (by omega) (by omega)).mono ?_; rintro e wm1 ⟨rfl, Fm1, Mm1, sm1⟩
      have Sm1 := S1.trans sm1
      obtain ⟨om1, dm1⟩ := own.stp dd sm1
      clear M1 S1 sm1 own dd
      obtain ⟨⟨G2, z⟩, hz⟩ : ∃ r, r = maG (i0 + i1) i I G1 := ⟨_, rfl⟩
      rw [← hz] at HS0 hm Mm1
      try rw [← hz]
      clear hz
      simp only at HS0 hm Mm1
      by_cases hi0 : i = 0
      · have hbi : (((i : Nat) : Int) == 0) = true := by simp [hi0]
        have hOn : O = [] := by rcases hO with e | e; exact e; omega
        have hm0 : m = 0 := by have := om1.len; rw [hOn] at this; simpa using this
        have HB : Hid ((i == 0) = true) := Lib.hid (by simp [hi0])
        subst hm0 hOn
        clear hi0 hO
        go_wp2
        go_loopw [7, 28] (fun y u wx => ∃ k F2, k ≤ wd ∧ u = .int .i64 (k : Nat) ∧ (∃ a1 c1, y = .slice a1 k c1 ∧ Own wx w.heap.size a1 k c1 (scI (i0 + i1) z C [] (i == 0) G2 k).2 ∧ Disj (foot a1 c1) F2) ∧ Mk 81 wx b g i0 i1 (scI (i0 + i1) z C [] (i == 0) G2 k).1 F2 oa on oc ∧ Stp F w F2 wx) (fun _ u _ => wd - (intOf u).toNat)
        case atStart => exact ⟨0, Fm1, Nat.zero_le _, rfl, ⟨_, _, rfl, om1, dm1⟩, Mm1, Sm1⟩
        case round =>
          obtain ⟨k, F2, hkw, rfl, ⟨a2, c2, rfl, own2, dd2⟩, M2, S2⟩ := hrel
          clear om1 dm1 Mm1 Sm1
          by_cases hlt2 : k < wd
          · obtain ⟨hI1, hI2⟩ := scI_len (i0 + i1) z C [] (i == 0) G2 k
            have HI0 := scI_succ (i0 + i1) z C [] (i == 0) G2 k
            obtain ⟨gx, ox, hgx, _⟩ := dr.ints.at k hlt2
            subst hgx
            have cx := (dr.stp S2).ints.cellsAt k hlt2
            generalize C.getD k 0 = x at *
            obtain ⟨⟨G3, N⟩, hr3⟩ : ∃ r, r = (scI (i0 + i1) z C [] (i == 0) G2 k) := ⟨_, rfl⟩
            rw [← hr3] at HI0 hI1 hI2 M2 own2
            clear hr3
            simp only at hI1 hI2 M2 own2
            unfold scS at HI0
            rw [HB.out] at HI0
            simp only [if_true] at HI0
            have HS := Lib.hid HI0
            clear HI0
            go_wp2_with fail
            clear cx
            refine (and_any _ _ b g i0 i1 _ F2 _ M2 (Nat.le_trans hb S2.size) h0 h1 (by (try simp only [gt_len]); omega)).mono ?_; rintro e wm31 ⟨rfl, Fm31, Mm31, sm31⟩
            have Sm31 := S2.trans sm31
            obtain ⟨om31, dm31⟩ := own2.stp dd2 sm31
            clear M2 S2 sm31 own2 dd2
            go_wp2_with (at_builtin; refine wpList_appJ _ rfl _ _ rfl w.heap.size a2 k c2 N rfl (om31.alloc _) _ 1 1 [_] rfl (Ints.lit1 _ _ _) (by omega) (by have := Sm31.size; simp; omega) ?_)
            intro am32 cm32 wm32 om32 _ gm32 mm32
            have Om32 := Only.of_grown gm32
            have Mm32 := Mk.only (Mk.alloc Mm31 _) Om32 dm31
            have Sm32 := Stp.onto (Stp.alloc Sm31 _) Om32 (fun k hk => (om31.feet k hk).1)
            have dm32 : Disj (foot am32 cm32) Fm31 := mm32.disj dm31 (fun k hk => by have := (Mm31.feet k hk).2; simp; omega)
            clear Mm31 Sm31 om31 dm31 Om32 gm32 mm32
            go_wp2
            go_roundw
            case rel => exact ⟨k + 1, Fm31, by omega, by go_num, ⟨_, _, rfl, by rw [HB.out, HS.out]; exact om32, dm32⟩, by rw [HB.out, HS.out]; exact Mm32, Sm32⟩
            case measure => simp [intOf]; omega
          · obtain rfl : k = wd := by omega
            have HSS := Lib.hid HS0
            clear HS0
            go_wp2
            go_roundw
            case rel => exact ⟨i + 1, F2, by omega, by go_num, ⟨_, _, _, rfl, by rw [HSS.out]; exact own2, dd2⟩, by rw [HSS.out]; exact M2, S2⟩
            case measure => simp [intOf]; omega
      · have hbi : (((i : Nat) : Int) == 0) = false := by simp [hi0]
        have hOl : O.length = wd := hG2 (by omega)
        have hmw : m = wd := by rw [om1.len]; exact hOl
        have HB : Hid ((i == 0) = false) := Lib.hid (by simp [hi0])
        subst hmw
        clear hi0 hO
        go_wp2
        go_loopw [7, 28] (fun y u wx => ∃ k F2, k ≤ m ∧ u = .int .i64 (k : Nat) ∧ y = .slice a1 m c1 ∧ Own wx w.heap.size a1 m c1 ((scI (i0 + i1) z C O (i == 0) G2 k).2 ++ O.drop k) ∧ Disj (foot a1 c1) F2 ∧ Mk 81 wx b g i0 i1 (scI (i0 + i1) z C O (i == 0) G2 k).1 F2 oa on oc ∧ Stp F w F2 wx) (fun _ u _ => m - (intOf u).toNat)
        case atStart => exact ⟨0, Fm1, Nat.zero_le _, rfl, rfl, om1, dm1, Mm1, Sm1⟩
        case round =>
          obtain ⟨k, F2, hkw, rfl, rfl, own2, dd2, M2, S2⟩ := hrel
          clear om1 dm1 Mm1 Sm1
          by_cases hlt2 : k < m
          · obtain ⟨hI1, hI2⟩ := scI_len (i0 + i1) z C O (i == 0) G2 k
            have HI0 := scI_succ (i0 + i1) z C O (i == 0) G2 k
            obtain ⟨gx, ox, hgx, _⟩ := dr.ints.at k hlt2
            subst hgx
            have cx := (dr.stp S2).ints.cellsAt k hlt2
            have HT := fun x => set_mid (scI (i0 + i1) z C O (i == 0) G2 k).2 O k x hI2 (by omega)
            obtain ⟨ga, hga, hba, hga2, ca', fa, sa⟩ := own2.at k hlt2
            subst hga
            have eO : ((scI (i0 + i1) z C O (i == 0) G2 k).2 ++ O.drop k).getD k 0 = O.getD k 0 := by rw [List.getD_eq_getElem?_getD, List.getElem?_append_right (by omega), hI2, Nat.sub_self, List.getElem?_drop, Nat.add_zero, List.getD_eq_getElem?_getD]
            rw [eO] at ca'
            clear eO sa fa hba hga2
            obtain ⟨yo, hyo⟩ : ∃ yo, yo = O.getD k 0 := ⟨_, rfl⟩
            rw [← hyo] at ca' HI0
            have HYO := Lib.hid hyo
            clear hyo
            generalize C.getD k 0 = x at *
            obtain ⟨⟨G3, N⟩, hr3⟩ : ∃ r, r = (scI (i0 + i1) z C O (i == 0) G2 k) := ⟨_, rfl⟩
            rw [← hr3] at HI0 hI1 hI2 M2 own2 HT
            clear hr3
            simp only at hI1 hI2 M2 own2 HT
            unfold scS at HI0
            rw [HB.out] at HI0
            simp only [Bool.false_eq_true, if_false] at HI0
            have HS := Lib.hid HI0
            clear HI0
            go_wp2_with fail
            clear cx
            refine (and_any _ _ b g i0 i1 _ F2 _ M2 (Nat.le_trans hb S2.size) h0 h1 (by (try simp only [gt_len]); omega)).mono ?_; rintro e wm31 ⟨rfl, Fm31, Mm31, sm31⟩
            have Sm31 := S2.trans sm31
            obtain ⟨om31, dm31⟩ := own2.stp dd2 sm31
            clear M2 S2 sm31 own2 dd2
            have co := om31.ints.cellsAt k hlt2
            have eO2 : (N ++ O.drop k).getD k 0 = O.getD k 0 := by rw [List.getD_eq_getElem?_getD, List.getElem?_append_right (by omega), hI2, Nat.sub_self, List.getElem?_drop, Nat.add_zero, List.getD_eq_getElem?_getD]
            rw [eO2, ← HYO.out] at co
            clear eO2 ca'
            rw [Nat.zero_add] at co
            go_wp2_with fail
            clear co
            refine (xor_any _ _ b g i0 i1 _ Fm31 _ Mm31 (Nat.le_trans hb Sm31.size) h0 h1 (by (try simp only [gt_len]); omega)).mono ?_; rintro e wm32 ⟨rfl, Fm32, Mm32, sm32⟩
            have Sm32 := Sm31.trans sm32
            obtain ⟨om32, dm32⟩ := om31.stp dm31 sm32
            clear Mm31 Sm31 sm32 om31 dm31
            obtain ⟨ga', hga', _, _, ca', fa, sa⟩ := om32.at k hlt2
            cases hga'
            have ow3 := sa (gW (i0 + i1) (gt G3 1 z x))
            rw [HT] at ow3
            have O3 : Only (foot (some ⟨ga, 0, none⟩) c1) wm32 (wm32.setCell ⟨ga, k, none⟩ (.int .i64 (gW (i0 + i1) (gt G3 1 z x)))) := (Only.refl _ _).setCell _ _ (foot_mem (x := ⟨ga, 0, none⟩) (by have := om32.cap; omega))
            have M3 := Mk.only Mm32 O3 dm32
            have S3 := Stp.onto Sm32 O3 (fun q hq => (om32.feet q hq).1)
            have HW := Lib.hid ow3
            have HM := Lib.hid M3
            have HSt := Lib.hid S3
            clear ow3 M3 S3 O3 sa HT
            go_wp2
            go_roundw
            case rel => exact ⟨k + 1, Fm32, by omega, by go_num, rfl, by rw [HB.out, HS.out]; exact HW.out, dm32, by rw [HB.out, HS.out]; exact HM.out, HSt.out⟩
            case measure => simp [intOf]; omega
          · obtain rfl : k = m := by omega
            rw [List.drop_eq_nil_of_le (Nat.le_of_eq hOl), List.append_nil] at own2
            have HSS := Lib.hid HS0
            clear HS0
            go_wp2
            go_roundw
            case rel => exact ⟨i + 1, F2, by omega, by go_num, ⟨_, _, _, rfl, by rw [HSS.out]; exact own2, dd2⟩, by rw [HSS.out]; exact M2, S2⟩
            case measure => simp [intOf]; omega
    · obtain rfl : i = n := by omega
      go_wp2
      go_ret
      exact ⟨_, _, _, F1, rfl, own, dd, M1, S1⟩
end Go.Proofs.Ytkbhigdciokfkaa
namespace Go.Proofs.Ytkbhigdciokfkaa
open Go.RowKit
set_option maxHeartbeats 8000000 in
set_option maxRecDepth 100000 in
theorem tree_any (ca : Option Addr) (n cc : Nat) (rs : List RowD) (ia : Option Addr) (v ic : Nat) (I : List Int) (wd : Nat) {oa : Option Addr} {on oc : Nat} (b g : Nat) (i0 i1 : Int) (G : List Int) (F : List Nat) (w : World) (h : Mk 81 w b g i0 i1 G F oa on oc) (hb : b ≤ w.heap.size) (h0 : 0 ≤ i0 ∧ i0 ≤ 1000) (h1 : 0 ≤ i1 ∧ i1 ≤ 1000) (dc : RwD w ca n cc rs F) (dx : IntD w ia v ic I F) (hA : AllL wd (datas' rs)) (hn : 1 ≤ n ∧ n ≤ 8) (hv : v ≤ 8) (hw : wd ≤ 20) (hl : G.length ≤ 1000) :
    Calls Try.prog 50 #[.pointer (some ⟨g, 0, none⟩), .slice ca n cc, .slice ia v ic] w fun e w' => ∃ a1 m1 c1 F', e = .returned (.slice a1 m1 c1) ∧ Own w' w.heap.size a1 m1 c1 ((trG (i0 + i1) I (datas' rs) G v).2.getD 0 []) ∧ Disj (foot a1 c1) F' ∧ Mk 81 w' b g i0 i1 (trG (i0 + i1) I (datas' rs) G v).1 F' oa on oc ∧ Stp F w F' w' := by
  have HAL := Lib.hid hA
  have HR := Lib.hid dc.len
  have hle := dc.le
  have hle2 := dx.ints.le
  clear hA
  go_enter Try.func50, Try.ntmps50
  go_wp2
  go_loopw [1, 13] (fun y u wr => ∃ k F1, k ≤ v ∧ u = .int .i64 (k : Nat) ∧ (∃ a1 m c1 rs1, y = .slice a1 m c1 ∧ RwD wr a1 m c1 rs1 F1 ∧ datas' rs1 = (trG (i0 + i1) I (datas' rs) G k).2) ∧ Mk 81 wr b g i0 i1 (trG (i0 + i1) I (datas' rs) G k).1 F1 oa on oc ∧ Stp F w F1 wr) (fun _ u _ => v - (intOf u).toNat)
  case atStart => exact ⟨0, F, Nat.zero_le _, rfl, ⟨_, _, _, rs, rfl, dc, rfl⟩, h, Stp.refl _ _⟩
  case round =>
    obtain ⟨k, F1, hk, rfl, ⟨a1, m, c1, rs1, rfl, dc1, hd1⟩, M1, S1⟩ := hrel
    obtain ⟨hG, hG2, hG3⟩ := trG_len (B := i0 + i1) (idx := I) (G := G) HAL.out (by rw [datas_len, HR.out]; omega) (by rw [datas_len, HR.out]; omega) k
    have hm := dc1.len
    have hml : (datas' rs1).length = m := by rw [datas_len]; exact hm
    rw [← hd1, hml] at hG2
    rw [← hd1] at hG3
    have hGb : 36 * wd * k ≤ 36 * 20 * 8 := Nat.mul_le_mul (Nat.mul_le_mul_left _ hw) (by omega)
    by_cases hlt : k < v
    · obtain ⟨wo, rfl⟩ : ∃ wo, wo = wr := ⟨_, rfl⟩
      have HS0 := trG_succ (i0 + i1) I (datas' rs) G k
      rw [← hd1, hml] at HS0
      obtain ⟨gx, ox, hgx, _⟩ := dx.ints.at k hlt
      subst hgx
      have cx := (dx.stp S1).ints.cellsAt k hlt
      generalize I.getD k 0 = x at *
      generalize hg1 : (trG (i0 + i1) I (datas' rs) G k).1 = G1 at *
      have HS := Lib.hid HS0
      clear HS0 hg1 hd1
      have HA3 := Lib.hid hG3
      have HML := Lib.hid hml
      clear hG3 hml
      have hb1 : b ≤ wo.heap.size := Nat.le_trans hb S1.size
      go_wp2
      clear cx
      go_loopw [9, 10] (fun y u wx => ∃ j F2, 2 * j ≤ m + 1 ∧ u = .int .i64 (2 * (j : Int)) ∧ (∃ a2 c2 rs2, y = .slice a2 j c2 ∧ RwO wx wo.heap.size a2 j c2 rs2 F2 ∧ datas' rs2 = (trJ (i0 + i1) x (datas' rs1) G1 j).2) ∧ Mk 81 wx b g i0 i1 (trJ (i0 + i1) x (datas' rs1) G1 j).1 F2 oa on oc ∧ Stp F1 wo F2 wx) (fun _ u _ => m - (intOf u).toNat)
      case atStart => exact ⟨0, F1, by omega, rfl, ⟨_, _, [], rfl, RwO.nil _ _ _ _, rfl⟩, M1.alloc _, (Stp.refl _ _).alloc _⟩
      case round =>
        obtain ⟨j, F2, hj, rfl, ⟨a2, c2, rs2, rfl, ro, hd2⟩, M2, S2⟩ := hrel
        clear M1
        obtain ⟨hJ, hJ2, hJ3⟩ := trJ_len (B := i0 + i1) (b := x) (G := G1) HA3.out j (by rw [HML.out]; exact hj)
        have hJb : 9 * wd * j ≤ 9 * 20 * 5 := Nat.mul_le_mul (Nat.mul_le_mul_left _ hw) (by omega)
        by_cases hlt2 : 2 * j < m
        · have HJ0 := trJ_succ (i0 + i1) x (datas' rs1) G1 j
          unfold trS at HJ0
          rw [HML.out] at HJ0
          rw [← hd2] at HJ0
          have hlt3 : 2 * (j : Int) < (m : Int) := by omega
          have hz0 : (0 : Int) ≤ 2 * (j : Int) := by omega
          have hz1 : (0 : Int) ≤ 2 * (j : Int) + 1 := by omega
          have hzw : IntKind.i64.wrap (2 * (j : Int) + 1) = 2 * (j : Int) + 1 := IntWalk.i64_in _ (by omega)
          have htn : (2 * (j : Int)).toNat = 2 * j := by omega
          have htn2 : (2 * (j : Int) + 1).toNat = 2 * j + 1 := by omega
          obtain ⟨gr, o_r, hgr, _, _⟩ := dc1.at (2 * j) hlt2
          subst hgr
          have cj := (dc1.stp S2).cellsAt (2 * j) hlt2
          have dj := dc1.innAt (2 * j) hlt2
          rw [datas_getD _ (2 * j) (by rw [← datas_len, HML.out]; exact hlt2)] at HJ0
          generalize hg2 : (trJ (i0 + i1) x (datas' rs1) G1 j).1 = G2 at *
          clear hg2
          by_cases he : 2 * j + 1 = m
          · rw [if_pos he] at HJ0
            have HJ := Lib.hid HJ0
            clear HJ0
            have he2 : ((2 * (j : Int)) + 1 == (m : Int)) = true := by simp; omega
            generalize rowAt rs1 (2 * j) = r at *
            have HE := Lib.hid he
            clear he
            go_wp2_with (at_builtin; refine wpList_appR _ rfl _ _ rfl wo.heap.size _ j _ _ rfl (RwO.alloc ro _).out _ 1 r rfl (RowC.litR _ _ _ rfl _) (by omega) (by have := S2.size; simp; omega) ?_)
            intro aa1 ca1 wa1 oo1 _ ga1 ma1
            have Oa1 := Only.of_grown ga1
            have Ma1 := Mk.only (Mk.alloc M2 _) Oa1 ro.dis
            have Sa1 := Stp.onto (Stp.alloc S2 _) Oa1 (fun k hk => (ro.out.feet k hk).1)
            have Ra1 := RwO.push (RwO.alloc ro _) (fun k hk => by have := (M2.feet k hk).2; simp; omega) ((dj.stp S2).below ((Below.refl _ _).alloc (Nat.le_refl _) _)) (dj.away ro.out) oo1 ga1 ma1
            clear ro M2 S2 Oa1 oo1 ga1 ma1
            clear cj
            go_wp2
            go_roundw
            case rel => exact ⟨j + 1, F2, by have := HE.out; omega, by go_num, ⟨_, _, _, rfl, Ra1, by rw [datas_push, HJ.out]⟩, by rw [HJ.out]; exact Ma1, Sa1⟩
            case measure => simp [intOf]; omega
          · rw [if_neg he] at HJ0
            have he2 : ((2 * (j : Int)) + 1 == (m : Int)) = false := by simp; omega
            have hlt4 : 2 * j + 1 < m := by omega
            have hlt5 : (2 * (j : Int)) + 1 < (m : Int) := by omega
            have ck := (dc1.stp S2).cellsAt (2 * j + 1) hlt4
            have dk := dc1.innAt (2 * j + 1) hlt4
            rw [datas_getD _ (2 * j + 1) (by rw [← datas_len, HML.out]; exact hlt4)] at HJ0
            have lj := HA3.out.at (2 * j) (by rw [HML.out]; exact hlt2)
            have lk := HA3.out.at (2 * j + 1) (by rw [HML.out]; exact hlt4)
            rw [datas_getD _ _ (by rw [← datas_len, HML.out]; omega)] at lj lk
            have HDC := fun (W : World) (F' : List Nat) (s : Stp F1 wo F' W) => And.intro ((dc1.stp s).cellsAt (2 * j + 1) hlt4) ((dc1.stp s).cellsAt (2 * j) hlt2)
            obtain ⟨rj, hrj⟩ : ∃ r, r = rowAt rs1 (2 * j) := ⟨_, rfl⟩
            obtain ⟨rk, hrk⟩ : ∃ r, r = rowAt rs1 (2 * j + 1) := ⟨_, rfl⟩
            rw [← hrj] at cj dj lj HJ0
            rw [← hrk] at ck dk lk HJ0
            simp only [← hrj, ← hrk] at HDC
            clear hrj hrk
            obtain ⟨ja, jc, JL⟩ := rj
            obtain ⟨ka, kc, KL⟩ := rk
            simp only at cj dj lj ck dk lk HJ0 HDC
            have HDC2 := Lib.hid HDC
            clear HDC
            have lc := (chG_len (i0 + i1) x KL JL G2 KL.length).2
            obtain ⟨⟨G3, L⟩, hr3⟩ : ∃ r, r = chG (i0 + i1) x KL JL G2 KL.length := ⟨_, rfl⟩
            have HCH := Lib.hid hr3
            rw [← hr3] at HJ0 lc
            clear hr3
            simp only at HJ0 lc
            have HJ := Lib.hid HJ0
            clear HJ0
            have HE := Lib.hid he
            clear he
            rw [lj] at cj dj
            rw [lk] at ck dk lc
            go_wp2
            go_region_held3 (fun W => W.cell? ⟨gr, o_r + (2 * j + 1), none⟩ = some (.slice ka wd kc) ∧ W.cell? ⟨gr, o_r + 2 * j, none⟩ = some (.slice ja wd jc))
              (first | go_keep | exact (by have hh := HDC2.out _ _ (Stp.onto (Stp.alloc (S2.drew.trans s3) _) (Only.of_grown ga) (fun k hk => ((ro.drew.stp s3).out.feet k hk).1)); rw [lj, lk] at hh; exact hh) | exact (by have hh := HDC2.out _ _ (S2.drew.trans s3); rw [lj, lk] at hh; exact hh))
              (first | (go_at_call 51; refine (choose_any x _ wd _ _ _ wd _ _ b g i0 i1 G2 F2 _ M2.drew (Nat.le_trans hb1 S2.size) h0 h1 ((dk.stp S2).below ((Below.refl _ _).drew)) ((dj.stp S2).below ((Below.refl _ _).drew)) (Nat.le_refl _) (by omega) (by omega)).mono ?_; rintro e w3 ⟨a3, c3, F3, rfl, o3, d3, M3, s3⟩) | (refine step_appR _ (by rfl) _ _ (by rfl) wo.heap.size _ j _ _ (by rfl) (RwO.alloc (ro.drew.stp s3) _).out _ 1 (a3, c3, L) (by rfl) (RowC.litR _ _ _ (rowV_of lc) _) (by omega) (by have := (S2.drew.trans s3).size; simp; omega) ?_; intro aa ca wa oo _ ga ma))
            all_goals have ro3 := ro.drew.stp s3
            all_goals have Oa := Only.of_grown ga
            all_goals have Ma := Mk.only (Mk.alloc M3 _) Oa ro3.dis
            all_goals have Sa := (Stp.onto (Stp.alloc (S2.drew.trans s3) _) (Only.of_grown ga) (fun k hk => ((ro.drew.stp s3).out.feet k hk).1))
            all_goals have hLe : L = (chG (i0 + i1) x KL JL G2 wd).2 := by have := HCH.out; rw [lk] at this; rw [← this]
            all_goals have hGe : G3 = (chG (i0 + i1) x KL JL G2 wd).1 := by have := HCH.out; rw [lk] at this; rw [← this]
            all_goals rw [← hLe] at o3
            all_goals rw [← hGe] at Ma
            all_goals have hrI := (o3.intD d3)
            all_goals have hrA := o3.away ro.drew.out (Nat.le_refl _)
            all_goals rw [← lc] at hrI hrA
            all_goals have hrB : ∀ y, 0 < L.length → a3 = some y → y.block ∉ foot a2 c2 := hrA
            all_goals have Ra := RwO.push (r := (a3, c3, L)) (RwO.alloc ro3 _) (fun k hk => by have := (M3.feet k hk).2; simp; omega) (hrI.below ((Below.refl _ _).alloc (Nat.le_refl _) _)) hrB oo ga ma
            all_goals clear cj ck ro M2 S2 s3 o3 d3 M3 ro3 Oa oo ga ma hrI hrA hrB hLe hGe
            go_wp2
            go_roundw
            case rel => exact ⟨j + 1, _, by omega, by go_num, ⟨_, _, _, rfl, Ra, by rw [datas_push, HJ.out]⟩, by rw [HJ.out]; exact Ma, Sa⟩
            case measure => simp [intOf]; omega
        · have HJE := Lib.hid (show j = (m + 1) / 2 by omega)
          have hd3 := hd2
          have hge : ¬ (2 * (j : Int)) < (m : Int) := by omega
          have HD2 := Lib.hid hd3
          clear hd2 hd3
          have rd := ro.rwD
          have ST := S1.trans S2
          clear ro S2 S1 dc1
          go_wp2
          go_roundw
          case rel => exact ⟨k + 1, F2, by omega, by go_num, ⟨_, _, _, _, rfl, rd, by rw [HS.out, ← HJE.out]; exact HD2.out⟩, by rw [HS.out, ← HJE.out]; exact M2, ST⟩
          case measure => simp [intOf]; omega
    · obtain rfl : k = v := by omega
      have hge : ¬ (k : Int) < (k : Int) := by omega
      obtain ⟨gr, o_r, hgr, c0, _⟩ := dc1.at 0 (by omega)
      subst hgr
      have d0 := dc1.innAt 0 (by omega)
      have HD0 := Lib.hid (datas_getD rs1 0 (by omega))
      rw [hd1] at HD0
      have l0 := hG3.at 0 (by rw [hml]; omega)
      rw [datas_getD _ _ (by omega)] at l0
      rw [Nat.add_zero] at c0
      generalize rowAt rs1 0 = r at *
      obtain ⟨ra, rc, RL⟩ := r
      simp only at c0 d0 HD0 l0
      rw [l0] at c0 d0
      clear l0
      have hm0 : 0 < (m : Int) := by omega
      go_wp2_with fail
      refine (Clone_any _ _ _ RL _ d0.ints (by omega)).mono ?_; rintro e w3 ⟨a3, c3, rfl, o3, u3⟩
      go_wp2
      go_ret
      exact ⟨_, _, _, F1, rfl, by rw [HD0.out]; exact o3.lower S1.size, Disj.of_rng o3.feet M1.feet (.inr (Nat.le_refl _)), M1.below u3, S1.below u3⟩
end Go.Proofs.Ytkbhigdciokfkaa
namespace Go.Proofs.Ytkbhigdciokfkaa
open Go.RowKit
theorem scan_clo (n wd v : Nat) (w : World) (hn : 1 ≤ n ∧ n ≤ 8) (hw : 1 ≤ wd ∧ wd ≤ 4) (hv : wid n = v) : CloP 55 #[] w (n * wd) n wd v 0 (meG 0 n wd) := by
  intro W b g F ca cc rs ia ic u hM hb hF hr hd hx
  have hv3 : v ≤ 3 := by rw [← hv]; exact wid8 n hn.2
  have hq : n * wd ≤ 8 * 4 := Nat.mul_le_mul hn.2 hw.2
  have eB : ((n * wd : Nat) : Int) + ((v : Int) + ((0 : Nat) : Int)) = meB n wd v 0 := by unfold meB; simp
  have hAL : AllL wd (datas' rs) := by rw [hd]; exact ceL_all wd n
  have h := scan_any ca n cc rs ia v ic _ wd b g (n * wd : Nat) ((v : Int) + ((0 : Nat) : Int)) [] F W hM hb (by omega) (by omega) hr hx hAL hn (by omega) (by omega) (by simp)
  rw [eB, hd] at h
  have e : meG 0 n wd = scG (meB n wd v 0) (spL ((n * wd : Nat) : Int) v) (ceL wd n) [] n := by unfold meG; rw [if_pos rfl, hv]; rfl
  rw [e]
  exact h
theorem scan_enters : ∀ (args : Array Value) (w : World), (callFunc 55 args).run Try.prog w = .ok (.enter 55 args) w := enters_of Try.func55 (by kernel_rfl) (by kernel_rfl)
theorem tree_clo (n wd v : Nat) (w : World) (hn : 1 ≤ n ∧ n ≤ 8) (hw : 1 ≤ wd ∧ wd ≤ 4) (hv : wid n = v) : CloP 50 #[] w (n * wd) n wd v 0 (meG 1 n wd) := by
  intro W b g F ca cc rs ia ic u hM hb hF hr hd hx
  have hv3 : v ≤ 3 := by rw [← hv]; exact wid8 n hn.2
  have hq : n * wd ≤ 8 * 4 := Nat.mul_le_mul hn.2 hw.2
  have eB : ((n * wd : Nat) : Int) + ((v : Int) + ((0 : Nat) : Int)) = meB n wd v 0 := by unfold meB; simp
  have hAL : AllL wd (datas' rs) := by rw [hd]; exact ceL_all wd n
  have h := tree_any ca n cc rs ia v ic _ wd b g (n * wd : Nat) ((v : Int) + ((0 : Nat) : Int)) [] F W hM hb (by omega) (by omega) hr hx hAL hn (by omega) (by omega) (by simp)
  rw [eB, hd] at h
  have e : meG 1 n wd = ((trG (meB n wd v 0) (spL ((n * wd : Nat) : Int) v) (ceL wd n) [] v).1, (trG (meB n wd v 0) (spL ((n * wd : Nat) : Int) v) (ceL wd n) [] v).2.getD 0 []) := by unfold meG; rw [if_neg (by decide), if_pos rfl, hv]; rfl
  rw [e]
  exact h
theorem tree_enters : ∀ (args : Array Value) (w : World), (callFunc 50 args).run Try.prog w = .ok (.enter 50 args) w := enters_of Try.func50 (by kernel_rfl) (by kernel_rfl)
set_option maxHeartbeats 8000000 in
set_option maxRecDepth 100000 in
theorem ScanReadCircuit_any (n wd : Int) (w : World) :
    Calls Try.prog 23 #[.int .i64 n, .int .i64 wd] w fun e w' => ∃ ga gn gc oa on oc, e = .returned (.tuple #[.agg #[.int .i64 (mS0 n wd), .int .i64 (mS1 0 n wd), .slice ga gn gc, .slice oa on oc], .bool (memB n wd)]) ∧ OwnF 3 eGate w' w.heap.size ga gn gc (mG 0 n wd) ∧ Own w' w.heap.size oa on oc (mO 0 n wd) ∧ Disj (foot ga gc) (foot oa oc) ∧ Below w.heap.size w w' := by
  have V1 : Below w.heap.size w (w.alloc (.cells #[.int .i64 0, .int .i64 0, .slice none 0 0, .slice none 0 0] 25)) := ((Below.refl _ _).alloc (by simp) _)
  have R1 : Blk (w.alloc (.cells #[.int .i64 0, .int .i64 0, .slice none 0 0, .slice none 0 0] 25)) w.heap.size 25 #[.int .i64 0, .int .i64 0, .slice none 0 0, .slice none 0 0] := Blk.new w _ _
  have Z1 : w.heap.size + 1 ≤ (w.alloc (.cells #[.int .i64 0, .int .i64 0, .slice none 0 0, .slice none 0 0] 25)).heap.size := by simp
  unfold mS0 mS1 mG mO
  cases hm : memB n wd
  · simp only [Bool.false_eq_true, if_false]
    go_enter Try.func23, Try.ntmps23
    go_wp2_with fail
    generalize (w.alloc (.cells #[.int .i64 0, .int .i64 0, .slice none 0 0, .slice none 0 0] 25)) = w1 at *
    refine (memory_no n wd _ _ _ _ hm).mono ?_; rintro e w2 ⟨rfl, u2⟩
    have V2 := V1.trans (u2.mono V1.size)
    have R2 := R1.below u2
    clear V1 R1 u2
    have r0 : w2.cell? ⟨w.heap.size, 0, none⟩ = some (.int .i64 0) := R2.cell 0
    have r1 : w2.cell? ⟨w.heap.size, 1, none⟩ = some (.int .i64 0) := R2.cell 1
    have r2 : w2.cell? ⟨w.heap.size, 2, none⟩ = some (.slice none 0 0) := R2.cell 2
    have r3 : w2.cell? ⟨w.heap.size, 3, none⟩ = some (.slice none 0 0) := R2.cell 3
    have q0 : w2.frozen? ⟨w.heap.size, 0, none⟩ = false := R2.frozen 0
    have q1 : w2.frozen? ⟨w.heap.size, 1, none⟩ = false := R2.frozen 1
    have q2 : w2.frozen? ⟨w.heap.size, 2, none⟩ = false := R2.frozen 2
    have q3 : w2.frozen? ⟨w.heap.size, 3, none⟩ = false := R2.frozen 3
    go_wp2
    have GG := (((((Only.refl [w.heap.size] w2).setCell ⟨w.heap.size, 0, none⟩ (.int .i64 0) (by simp)).setCell ⟨w.heap.size, 1, none⟩ (.int .i64 0) (by simp)).setCell ⟨w.heap.size, 2, none⟩ (.slice none 0 0) (by simp)).setCell ⟨w.heap.size, 3, none⟩ (.slice none 0 0) (by simp))
    exact bodyPost_ret (v := .tuple #[.agg #[.int .i64 0, .int .i64 0, .slice none 0 0, .slice none 0 0], .bool false]) (by simp [results, Try.results23, go_sem, r0, r1, r2, r3]) rfl ⟨none, 0, 0, none, 0, 0, rfl, OwnC.nil0 _ _ _ _ _, Own.nil0 _ _ _, foot_nil _ _, V2.trans (GG.below V2.size (by simp))⟩
  · simp only [if_true]
    obtain ⟨⟨n1, n2⟩, ⟨d1, d2⟩, hnw⟩ := memB_true hm
    obtain ⟨n, rfl⟩ : ∃ k : Nat, n = k := ⟨n.toNat, by omega⟩
    obtain ⟨wd, rfl⟩ : ∃ k : Nat, wd = k := ⟨wd.toNat, by omega⟩
    rw [← Int.natCast_mul] at hnw
    have hok := m_ok 0 n wd hm
    simp only [Int.toNat_natCast]
    clear hm
    have eM : meMore 0 wd = 0 := by unfold meMore; simp
    rw [eM] at hok ⊢
    obtain ⟨v, hv⟩ : ∃ v, wid (n : Int) = v := ⟨_, rfl⟩
    rw [hv] at hok ⊢
    have HV := Lib.hid hv
    have HOK := Lib.hid hok
    clear hv hok eM
    have e3 : ((n : Int) * (wd : Int)) = ((n * wd : Nat) : Int) := (Int.natCast_mul _ _).symm
    rw [e3]
    clear e3
    obtain ⟨p, hp⟩ : ∃ p, p = meG 0 n wd := ⟨_, rfl⟩
    rw [← hp] at HOK ⊢
    have HP := Lib.hid hp
    clear hp
    have HCL : Hid (CloP 55 #[] (w.alloc (.cells #[.int .i64 0, .int .i64 0, .slice none 0 0, .slice none 0 0] 25)) (n * wd) n wd v 0 p) := Lib.hid (by rw [HP.out]; exact scan_clo n wd v _ (by omega) (by omega) HV.out)
    go_enter Try.func23, Try.ntmps23
    go_wp2_with fail
    generalize (w.alloc (.cells #[.int .i64 0, .int .i64 0, .slice none 0 0, .slice none 0 0] 25)) = w1 at *
    have V1s : w.heap.size ≤ w1.heap.size := V1.size
    refine (memory_yes n wd 0 v _ _ p _ (by omega) (by omega) (by omega) (by omega) HV.out HCL.out scan_enters HOK.out).mono ?_; rintro e w2 ⟨ga, gn, gc, oa, on, oc, rfl, og, oo, dd, u2⟩
    have V2 := V1.trans (u2.mono V1.size)
    have R2 := R1.below u2
    have Z2 := u2.size
    have Q1 := Lib.hid og.feet
    have Q2 := Lib.hid oo.feet
    clear V1 R1 u2 HCL
    have r0 : w2.cell? ⟨w.heap.size, 0, none⟩ = some (.int .i64 0) := R2.cell 0
    have r1 : w2.cell? ⟨w.heap.size, 1, none⟩ = some (.int .i64 0) := R2.cell 1
    have r2 : w2.cell? ⟨w.heap.size, 2, none⟩ = some (.slice none 0 0) := R2.cell 2
    have r3 : w2.cell? ⟨w.heap.size, 3, none⟩ = some (.slice none 0 0) := R2.cell 3
    have q0 : w2.frozen? ⟨w.heap.size, 0, none⟩ = false := R2.frozen 0
    have q1 : w2.frozen? ⟨w.heap.size, 1, none⟩ = false := R2.frozen 1
    have q2 : w2.frozen? ⟨w.heap.size, 2, none⟩ = false := R2.frozen 2
    have q3 : w2.frozen? ⟨w.heap.size, 3, none⟩ = false := R2.frozen 3
    go_wp2
    have GG := (((((Only.refl [w.heap.size] w2).setCell ⟨w.heap.size, 0, none⟩ (.int .i64 ((n * wd : Nat) : Int)) (by simp)).setCell ⟨w.heap.size, 1, none⟩ (.int .i64 ((v : Int) + ((0 : Nat) : Int))) (by simp)).setCell ⟨w.heap.size, 2, none⟩ (.slice ga gn gc) (by simp)).setCell ⟨w.heap.size, 3, none⟩ (.slice oa on oc) (by simp))
    exact bodyPost_ret (v := .tuple #[.agg #[.int .i64 ((n * wd : Nat) : Int), .int .i64 ((v : Int) + ((0 : Nat) : Int)), .slice ga gn gc, .slice oa on oc], .bool true]) (by simp [results, Try.results23, go_sem, r0, r1, r2, r3]) rfl ⟨_, _, _, _, _, _, rfl, (og.only GG (fun k hk hk' => by have := Q1.out k hk; simp at hk'; omega)).lower V1s, (oo.only GG (fun k hk hk' => by have := Q2.out k hk; simp at hk'; omega)).lower V1s, dd, V2.trans (GG.below V2.size (by simp))⟩
set_option maxHeartbeats 8000000 in
set_option maxRecDepth 100000 in
theorem TreeReadCircuit_any (n wd : Int) (w : World) :
    Calls Try.prog 19 #[.int .i64 n, .int .i64 wd] w fun e w' => ∃ ga gn gc oa on oc, e = .returned (.tuple #[.agg #[.int .i64 (mS0 n wd), .int .i64 (mS1 1 n wd), .slice ga gn gc, .slice oa on oc], .bool (memB n wd)]) ∧ OwnF 3 eGate w' w.heap.size ga gn gc (mG 1 n wd) ∧ Own w' w.heap.size oa on oc (mO 1 n wd) ∧ Disj (foot ga gc) (foot oa oc) ∧ Below w.heap.size w w' := by
  have V1 : Below w.heap.size w (w.alloc (.cells #[.int .i64 0, .int .i64 0, .slice none 0 0, .slice none 0 0] 25)) := ((Below.refl _ _).alloc (by simp) _)
  have R1 : Blk (w.alloc (.cells #[.int .i64 0, .int .i64 0, .slice none 0 0, .slice none 0 0] 25)) w.heap.size 25 #[.int .i64 0, .int .i64 0, .slice none 0 0, .slice none 0 0] := Blk.new w _ _
  have Z1 : w.heap.size + 1 ≤ (w.alloc (.cells #[.int .i64 0, .int .i64 0, .slice none 0 0, .slice none 0 0] 25)).heap.size := by simp
  unfold mS0 mS1 mG mO
  cases hm : memB n wd
  · simp only [Bool.false_eq_true, if_false]
    go_enter Try.func19, Try.ntmps19
    go_wp2_with fail
    generalize (w.alloc (.cells #[.int .i64 0, .int .i64 0, .slice none 0 0, .slice none 0 0] 25)) = w1 at *
    refine (memory_no n wd _ _ _ _ hm).mono ?_; rintro e w2 ⟨rfl, u2⟩
    have V2 := V1.trans (u2.mono V1.size)
    have R2 := R1.below u2
    clear V1 R1 u2
    have r0 : w2.cell? ⟨w.heap.size, 0, none⟩ = some (.int .i64 0) := R2.cell 0
    have r1 : w2.cell? ⟨w.heap.size, 1, none⟩ = some (.int .i64 0) := R2.cell 1
    have r2 : w2.cell? ⟨w.heap.size, 2, none⟩ = some (.slice none 0 0) := R2.cell 2
    have r3 : w2.cell? ⟨w.heap.size, 3, none⟩ = some (.slice none 0 0) := R2.cell 3
    have q0 : w2.frozen? ⟨w.heap.size, 0, none⟩ = false := R2.frozen 0
    have q1 : w2.frozen? ⟨w.heap.size, 1, none⟩ = false := R2.frozen 1
    have q2 : w2.frozen? ⟨w.heap.size, 2, none⟩ = false := R2.frozen 2
    have q3 : w2.frozen? ⟨w.heap.size, 3, none⟩ = false := R2.frozen 3
    go_wp2
    have GG := (((((Only.refl [w.heap.size] w2).setCell ⟨w.heap.size, 0, none⟩ (.int .i64 0) (by simp)).setCell ⟨w.heap.size, 1, none⟩ (.int .i64 0) (by simp)).setCell ⟨w.heap.size, 2, none⟩ (.slice none 0 0) (by simp)).setCell ⟨w.heap.size, 3, none⟩ (.slice none 0 0) (by simp))
    exact bodyPost_ret (v := .tuple #[.agg #[.int .i64 0, .int .i64 0, .slice none 0 0, .slice none 0 0], .bool false]) (by simp [results, Try.results19, go_sem, r0, r1, r2, r3]) rfl ⟨none, 0, 0, none, 0, 0, rfl, OwnC.nil0 _ _ _ _ _, Own.nil0 _ _ _, foot_nil _ _, V2.trans (GG.below V2.size (by simp))⟩
  · simp only [if_true]
    obtain ⟨⟨n1, n2⟩, ⟨d1, d2⟩, hnw⟩ := memB_true hm
    obtain ⟨n, rfl⟩ : ∃ k : Nat, n = k := ⟨n.toNat, by omega⟩
    obtain ⟨wd, rfl⟩ : ∃ k : Nat, wd = k := ⟨wd.toNat, by omega⟩
    rw [← Int.natCast_mul] at hnw
    have hok := m_ok 1 n wd hm
    simp only [Int.toNat_natCast]
    clear hm
    have eM : meMore 1 wd = 0 := by unfold meMore; simp
    rw [eM] at hok ⊢
    obtain ⟨v, hv⟩ : ∃ v, wid (n : Int) = v := ⟨_, rfl⟩
    rw [hv] at hok ⊢
    have HV := Lib.hid hv
    have HOK := Lib.hid hok
    clear hv hok eM
    have e3 : ((n : Int) * (wd : Int)) = ((n * wd : Nat) : Int) := (Int.natCast_mul _ _).symm
    rw [e3]
    clear e3
    obtain ⟨p, hp⟩ : ∃ p, p = meG 1 n wd := ⟨_, rfl⟩
    rw [← hp] at HOK ⊢
    have HP := Lib.hid hp
    clear hp
    have HCL : Hid (CloP 50 #[] (w.alloc (.cells #[.int .i64 0, .int .i64 0, .slice none 0 0, .slice none 0 0] 25)) (n * wd) n wd v 0 p) := Lib.hid (by rw [HP.out]; exact tree_clo n wd v _ (by omega) (by omega) HV.out)
    go_enter Try.func19, Try.ntmps19
    go_wp2_with fail
    generalize (w.alloc (.cells #[.int .i64 0, .int .i64 0, .slice none 0 0, .slice none 0 0] 25)) = w1 at *
    have V1s : w.heap.size ≤ w1.heap.size := V1.size
    refine (memory_yes n wd 0 v _ _ p _ (by omega) (by omega) (by omega) (by omega) HV.out HCL.out tree_enters HOK.out).mono ?_; rintro e w2 ⟨ga, gn, gc, oa, on, oc, rfl, og, oo, dd, u2⟩
    have V2 := V1.trans (u2.mono V1.size)
    have R2 := R1.below u2
    have Z2 := u2.size
    have Q1 := Lib.hid og.feet
    have Q2 := Lib.hid oo.feet
    clear V1 R1 u2 HCL
    have r0 : w2.cell? ⟨w.heap.size, 0, none⟩ = some (.int .i64 0) := R2.cell 0
    have r1 : w2.cell? ⟨w.heap.size, 1, none⟩ = some (.int .i64 0) := R2.cell 1
    have r2 : w2.cell? ⟨w.heap.size, 2, none⟩ = some (.slice none 0 0) := R2.cell 2
    have r3 : w2.cell? ⟨w.heap.size, 3, none⟩ = some (.slice none 0 0) := R2.cell 3
    have q0 : w2.frozen? ⟨w.heap.size, 0, none⟩ = false := R2.frozen 0
    have q1 : w2.frozen? ⟨w.heap.size, 1, none⟩ = false := R2.frozen 1
    have q2 : w2.frozen? ⟨w.heap.size, 2, none⟩ = false := R2.frozen 2
    have q3 : w2.frozen? ⟨w.heap.size, 3, none⟩ = false := R2.frozen 3
    go_wp2
    have GG := (((((Only.refl [w.heap.size] w2).setCell ⟨w.heap.size, 0, none⟩ (.int .i64 ((n * wd : Nat) : Int)) (by simp)).setCell ⟨w.heap.size, 1, none⟩ (.int .i64 ((v : Int) + ((0 : Nat) : Int))) (by simp)).setCell ⟨w.heap.size, 2, none⟩ (.slice ga gn gc) (by simp)).setCell ⟨w.heap.size, 3, none⟩ (.slice oa on oc) (by simp))
    exact bodyPost_ret (v := .tuple #[.agg #[.int .i64 ((n * wd : Nat) : Int), .int .i64 ((v : Int) + ((0 : Nat) : Int)), .slice ga gn gc, .slice oa on oc], .bool true]) (by simp [results, Try.results19, go_sem, r0, r1, r2, r3]) rfl ⟨_, _, _, _, _, _, rfl, (og.only GG (fun k hk hk' => by have := Q1.out k hk; simp at hk'; omega)).lower V1s, (oo.only GG (fun k hk hk' => by have := Q2.out k hk; simp at hk'; omega)).lower V1s, dd, V2.trans (GG.below V2.size (by simp))⟩
end Go.Proofs.Ytkbhigdciokfkaa
namespace Go.Proofs.Ytkbhigdciokfkaa
open Go.RowKit
def rcV (k : Nat) (wd : Int) (l : List Int) (i : Int) : Int := if celB wd l i then (mrR k l.length wd.toNat l i []).getD 0 0 else 0
def trK (t : Bool) : Nat := if t then 1 else 0
end Go.Proofs.Ytkbhigdciokfkaa
namespace Go.Proofs.Ytkbhigdciokfkaa
open Go.RowKit
set_option maxHeartbeats 8000000 in
set_option maxRecDepth 100000 in
theorem meScan_any (n wd v : Nat) (w : World) (hn : 1 ≤ n ∧ n ≤ 8) (hw : 1 ≤ wd ∧ wd ≤ 4) (hv : wid (n : Int) = v) :
    Calls Try.prog 95 #[.int .i64 n, .int .i64 wd] w fun e w' => ∃ ga gn gc oa on oc, e = .returned (.agg #[.int .i64 ((n * wd : Nat) : Int), .int .i64 ((v : Int) + ((0 : Nat) : Int)), .slice ga gn gc, .slice oa on oc]) ∧ OwnF 3 eGate w' w.heap.size ga gn gc (meG 0 n wd).1 ∧ Rd w' w.heap.size oa on oc (meG 0 n wd).2 ∧ Disj (foot ga gc) (foot oa oc) ∧ Below w.heap.size w w' := by
  have hv3 : v ≤ 3 := by rw [← hv]; exact wid8 n hn.2
  have hqb : n * wd ≤ 8 * 4 := Nat.mul_le_mul hn.2 hw.2
  have HE : Hid (meG 0 n wd = scG (meB n wd v 0) (spL ((n * wd : Nat) : Int) v) (ceL wd n) [] n) := Lib.hid (by unfold meG; rw [if_pos rfl, hv]; rfl)
  have HB : Hid (meB n wd v 0 = ((n * wd : Nat) : Int) + ((v : Int) + ((0 : Nat) : Int))) := Lib.hid (by unfold meB; simp)
  rw [HE.out, HB.out]
  clear HE HB
  have hst := meStart_any n wd 0 v (w.alloc (.cells #[.int .i64 0, .int .i64 0, .slice none 0 0, .slice none 0 0] 25)) hn hw (by omega) hv
  have HST := Lib.hid hst
  clear hst hv
  have hqe : ((n : Int) * (wd : Int)) = ((n * wd : Nat) : Int) := (Int.natCast_mul _ _).symm
  obtain ⟨q, hq⟩ : ∃ q, q = n * wd := ⟨_, rfl⟩
  rw [← hq] at HST hqe hqb ⊢
  have t1 : IntKind.i64.wrap ((n : Int) * (wd : Int)) = (q : Int) := by rw [hqe]; exact IntWalk.i64_in _ (by omega)
  clear hqe hq
  have V1 : Below w.heap.size w (w.alloc (.cells #[.int .i64 0, .int .i64 0, .slice none 0 0, .slice none 0 0] 25)) := (Below.refl _ _).alloc (Nat.le_refl _) _
  have R1 : Blk (w.alloc (.cells #[.int .i64 0, .int .i64 0, .slice none 0 0, .slice none 0 0] 25)) w.heap.size 25 #[.int .i64 0, .int .i64 0, .slice none 0 0, .slice none 0 0] := Blk.new w _ _
  have Z1 : (w.alloc (.cells #[.int .i64 0, .int .i64 0, .slice none 0 0, .slice none 0 0] 25)).heap.size = w.heap.size + 1 := by simp
  obtain ⟨i1, hi1⟩ : ∃ i1, i1 = (v : Int) + ((0 : Nat) : Int) := ⟨_, rfl⟩
  rw [← hi1] at HST ⊢
  have h1 : 0 ≤ i1 ∧ i1 ≤ 1000 := by omega
  clear hi1
  have h0 : (0 : Int) ≤ (q : Int) ∧ (q : Int) ≤ 1000 := by omega
  go_enter Try.func95, Try.ntmps95
  go_wp2_with fail
  refine HST.out.mono ?_; rintro e w2 ⟨g, ca, cc, rs, ia, ic, rfl, h, dc, hd, hhi, dx, u2⟩
  have V2 := V1.trans (u2.mono V1.size)
  have R2 := R1.below u2
  have hgr : w.heap.size < g := by have := (h.feet g (by simp)).1; omega
  rw [Z1] at h hhi
  have hb : w.heap.size + 1 ≤ w2.heap.size := by have := u2.size; omega
  clear V1 R1 u2 Z1 HST
  have HI : Hid ((spL (q : Int) v).length = v) := spL_len _ _
  have HAL : Hid (AllL wd (datas' rs)) := Lib.hid (by rw [hd]; exact ceL_all wd n)
  have HR := Lib.hid dc.len
  have hle := dc.le
  have hle2 := dx.ints.le
  have HH := Lib.hid hhi
  have HD0 := Lib.hid hd
  clear hhi hd
  obtain ⟨I, hI⟩ : ∃ I, I = spL (q : Int) v := ⟨_, rfl⟩
  rw [← hI] at dx HI
  have HSI := Lib.hid hI
  clear hI
  go_wp2
  go_loopw [8, 25] (fun y u wr => ∃ i F1, i ≤ n ∧ u = .int .i64 (i : Nat) ∧ (∃ a1 m c1, y = .slice a1 m c1 ∧ Own wr w2.heap.size a1 m c1 (scG ((q : Int) + i1) I (datas' rs) [] i).2 ∧ Disj (foot a1 c1) F1) ∧ Mk 79 wr (w.heap.size + 1) g q i1 (scG ((q : Int) + i1) I (datas' rs) [] i).1 F1 ∧ Stp [g] w2 F1 wr) (fun _ u _ => n - (intOf u).toNat)
  case atStart => exact ⟨0, [g], Nat.zero_le _, rfl, ⟨_, 0, _, rfl, Own.nil0 _ _ _, foot_nil _ _⟩, h, Stp.refl _ _⟩
  case round =>
    obtain ⟨i, F1, hk, rfl, ⟨a1, m, c1, rfl, own, dd⟩, M1, S1⟩ := hrel
    by_cases hlt : i < n
    · have hil : i < (datas' rs).length := by rw [datas_len, HR.out]; exact hlt
      obtain ⟨hG, hG2⟩ := scG_len (B := (q : Int) + i1) (idx := I) (G := []) HAL.out i (by omega)
      rw [HI.out, List.length_nil] at hG
      have hGb : (6 * v + 3 + 6 * wd) * i ≤ 200 * 8 := Nat.mul_le_mul (by omega) (by omega)
      have HS0 := scG_succ ((q : Int) + i1) I (datas' rs) [] i
      rw [datas_getD _ _ (by rw [HR.out]; exact hlt)] at HS0
      have hcl := HAL.out.at i hil
      rw [datas_getD _ _ (by rw [HR.out]; exact hlt)] at hcl
      obtain ⟨gc, oc', hgc, _, dr⟩ := dc.at i hlt
      subst hgc
      have ci := (dc.stp S1).cellsAt i hlt
      generalize rowAt rs i = r at *
      obtain ⟨ra, rc, C⟩ := r
      simp only at HS0 hcl ci dr
      obtain ⟨⟨G1, O⟩, hr⟩ : ∃ r, r = (scG ((q : Int) + i1) I (datas' rs) [] i) := ⟨_, rfl⟩
      rw [← hr] at HS0 hG hG2 M1 own
      clear hr
      simp only at hG hG2 M1 own
      unfold scT at HS0
      simp only at HS0
      have hm := maG_len ((q : Int) + i1) i I G1
      rw [HI.out] at hm
      rw [hcl] at ci dr HS0
      have dxs := dx.stp S1
      go_wp2_with fail
      clear ci
      refine (meMatch_any _ _ _ _ _ (w.heap.size + 1) g q i1 _ F1 _ M1 (Nat.le_trans hb S1.size) h0 h1 dxs (by omega) (by omega) (by omega)).mono ?_; rintro e wm1 ⟨rfl, Fm1, Mm1, sm1⟩
      have Sm1 := S1.trans sm1
      obtain ⟨om1, dm1⟩ := own.stp dd sm1
      clear M1 S1 own dd
      clear dxs sm1
      obtain ⟨⟨G2, z⟩, hz⟩ : ∃ r, r = maG ((q : Int) + i1) i I G1 := ⟨_, rfl⟩
      rw [← hz] at HS0 hm Mm1
      try rw [← hz]
      clear hz
      simp only at HS0 hm Mm1
      by_cases hi0 : i = 0
      · have hbi : ¬ (0 : Int) < ((i : Nat) : Int) := by omega
        have HBI : Hid ((i == 0) = true) := Lib.hid (by simp [hi0])
        clear hi0
        go_wp2
        go_loopw [12, 36] (fun y u wx => ∃ k F2, k ≤ wd ∧ u = .int .i64 (k : Nat) ∧ (∃ a2 c2, y = .slice a2 k c2 ∧ Own wx w2.heap.size a2 k c2 (scI ((q : Int) + i1) z C O (i == 0) G2 k).2 ∧ Disj (foot a2 c2) F2) ∧ Mk 79 wx (w.heap.size + 1) g q i1 (scI ((q : Int) + i1) z C O (i == 0) G2 k).1 F2 ∧ Stp [g] w2 F2 wx) (fun _ u _ => wd - (intOf u).toNat)
        case atStart => exact ⟨0, Fm1, Nat.zero_le _, rfl, ⟨_, _, rfl, Own.nil0 _ _ _, foot_nil _ _⟩, Mm1, Sm1⟩
        case round =>
          obtain ⟨k, F2, hkw, rfl, ⟨a2, c2, rfl, own2, dd2⟩, M2, S2⟩ := hrel
          clear om1 dm1 Mm1 Sm1
          by_cases hlt2 : k < wd
          · obtain ⟨hI1, hI2⟩ := scI_len ((q : Int) + i1) z C O (i == 0) G2 k
            have HI0 := scI_succ ((q : Int) + i1) z C O (i == 0) G2 k
            obtain ⟨gx, ox, hgx, _⟩ := dr.ints.at k hlt2
            subst hgx
            have cx := (dr.stp S2).ints.cellsAt k hlt2
            generalize C.getD k 0 = x at *
            obtain ⟨⟨G3, N⟩, hr3⟩ : ∃ r, r = (scI ((q : Int) + i1) z C O (i == 0) G2 k) := ⟨_, rfl⟩
            rw [← hr3] at HI0 hI1 hI2 M2 own2
            clear hr3
            simp only at hI1 hI2 M2 own2
            unfold scS at HI0
            rw [HBI.out] at HI0
            simp only [if_true] at HI0
            have HS := Lib.hid HI0
            clear HI0
            go_wp2_with fail
            clear cx
            refine (sand_any _ _ (w.heap.size + 1) g q i1 _ F2 _ M2 (Nat.le_trans hb S2.size) h0 h1 (by (try simp only [gt_len]); omega)).mono ?_; rintro e wm31 ⟨rfl, Fm31, Mm31, sm31⟩
            have Sm31 := S2.trans sm31
            obtain ⟨om31, dm31⟩ := own2.stp dd2 sm31
            clear M2 S2 own2 dd2
            go_wp2_with (at_builtin; refine wpList_appJ _ rfl _ _ rfl w2.heap.size a2 k c2 N rfl (om31.alloc _) _ 1 1 [_] rfl (Ints.lit1 _ _ _) (by omega) (by have := Sm31.size; simp; omega) ?_)
            intro am32 cm32 wm32 om32 _ gm32 mm32
            have Om32 := Only.of_grown gm32
            have Mm32 := Mk.only (Mk.alloc Mm31 _) Om32 dm31
            have Sm32 := Stp.onto (Stp.alloc Sm31 _) Om32 (fun k hk => (om31.feet k hk).1)
            have dm32 : Disj (foot am32 cm32) Fm31 := mm32.disj dm31 (fun k hk => by have := (Mm31.feet k hk).2; simp; omega)
            clear Mm31 Sm31 om31 dm31 Om32 gm32 mm32
            go_wp2
            go_roundw
            case rel => exact ⟨k + 1, Fm31, by omega, by go_num, ⟨_, _, rfl, by rw [HBI.out, HS.out]; exact om32, dm32⟩, by rw [HBI.out, HS.out]; exact Mm32, Sm32⟩
            case measure => simp [intOf]; omega
          · obtain rfl : k = wd := by omega
            have HSS := Lib.hid HS0
            clear HS0
            go_wp2
            go_roundw
            case rel => exact ⟨i + 1, F2, by omega, by go_num, ⟨_, _, _, rfl, by rw [HSS.out]; exact own2, dd2⟩, by rw [HSS.out]; exact M2, S2⟩
            case measure => simp [intOf]; omega
      · have hbi : (0 : Int) < ((i : Nat) : Int) := by omega
        have hOl : O.length = wd := hG2 (by omega)
        have hmw : m = wd := by rw [om1.len]; exact hOl
        subst hmw
        have HBI : Hid ((i == 0) = false) := Lib.hid (by simp [hi0])
        clear hi0
        go_wp2
        go_loopw [12, 36] (fun y u wx => ∃ k F2, k ≤ m ∧ u = .int .i64 (k : Nat) ∧ (∃ a2 c2, y = .slice a2 k c2 ∧ Own wx w2.heap.size a2 k c2 (scI ((q : Int) + i1) z C O (i == 0) G2 k).2 ∧ Disj (foot a2 c2) F2 ∧ Own wx w2.heap.size a1 m c1 O ∧ Disj (foot a1 c1) F2 ∧ Disj (foot a2 c2) (foot a1 c1)) ∧ Mk 79 wx (w.heap.size + 1) g q i1 (scI ((q : Int) + i1) z C O (i == 0) G2 k).1 F2 ∧ Stp [g] w2 F2 wx) (fun _ u _ => m - (intOf u).toNat)
        case atStart => exact ⟨0, Fm1, Nat.zero_le _, rfl, ⟨_, _, rfl, Own.nil0 _ _ _, foot_nil _ _, om1, dm1, foot_nil _ _⟩, Mm1, Sm1⟩
        case round =>
          obtain ⟨k, F2, hkw, rfl, ⟨a2, c2, rfl, own2, dd2, ow1, dw1, dap⟩, M2, S2⟩ := hrel
          clear om1 dm1 Mm1 Sm1
          by_cases hlt2 : k < m
          · obtain ⟨hI1, hI2⟩ := scI_len ((q : Int) + i1) z C O (i == 0) G2 k
            have HI0 := scI_succ ((q : Int) + i1) z C O (i == 0) G2 k
            obtain ⟨gx, ox, hgx, _⟩ := dr.ints.at k hlt2
            subst hgx
            have cx := (dr.stp S2).ints.cellsAt k hlt2
            obtain ⟨yo, hyo⟩ : ∃ yo, yo = O.getD k 0 := ⟨_, rfl⟩
            rw [← hyo] at HI0
            have HYO := Lib.hid hyo
            clear hyo
            generalize C.getD k 0 = x at *
            obtain ⟨⟨G3, N⟩, hr3⟩ : ∃ r, r = (scI ((q : Int) + i1) z C O (i == 0) G2 k) := ⟨_, rfl⟩
            rw [← hr3] at HI0 hI1 hI2 M2 own2
            clear hr3
            simp only at hI1 hI2 M2 own2
            unfold scS at HI0
            rw [HBI.out] at HI0
            simp only [Bool.false_eq_true, if_false] at HI0
            have HS := Lib.hid HI0
            clear HI0
            go_wp2_with fail
            clear cx
            refine (sand_any _ _ (w.heap.size + 1) g q i1 _ F2 _ M2 (Nat.le_trans hb S2.size) h0 h1 (by (try simp only [gt_len]); omega)).mono ?_; rintro e wm31 ⟨rfl, Fm31, Mm31, sm31⟩
            have Sm31 := S2.trans sm31
            obtain ⟨om31, dm31⟩ := own2.stp dd2 sm31
            clear M2 S2 own2 dd2
            obtain ⟨ow2, dw2⟩ := ow1.stp dw1 sm31
            clear ow1 dw1
            obtain ⟨gy, oy, hgy, cy⟩ := ow2.ints.at k hlt2
            subst hgy
            rw [← HYO.out] at cy
            go_wp2_with fail
            clear cy sm31
            refine (sxor_any _ _ (w.heap.size + 1) g q i1 _ Fm31 _ Mm31 (Nat.le_trans hb Sm31.size) h0 h1 (by (try simp only [gt_len]); omega)).mono ?_; rintro e wm32 ⟨rfl, Fm32, Mm32, sm32⟩
            have Sm32 := Sm31.trans sm32
            obtain ⟨om32, dm32⟩ := om31.stp dm31 sm32
            clear Mm31 Sm31 om31 dm31
            obtain ⟨ow3, dw3⟩ := ow2.stp dw2 sm32
            clear ow2 dw2
            go_wp2_with (at_builtin; refine wpList_appJ _ rfl _ _ rfl w2.heap.size a2 k c2 N rfl (om32.alloc _) _ 1 1 [_] rfl (Ints.lit1 _ _ _) (by omega) (by have := Sm32.size; simp; omega) ?_)
            intro am cm wm om _ gm mm
            have Om := Only.of_grown gm
            have Mm := Mk.only (Mk.alloc Mm32 _) Om dm32
            have Sm := Stp.onto (Stp.alloc Sm32 _) Om (fun k hk => (om32.feet k hk).1)
            have dm : Disj (foot am cm) Fm32 := mm.disj dm32 (fun k hk => by have := (Mm32.feet k hk).2; simp; omega)
            have ow4 := Own.only (ow3.alloc _) Om dap.symm
            have dap4 : Disj (foot am cm) (foot (some ⟨gy, oy, none⟩) c1) := mm.disj dap (fun k hk => by have := (ow3.feet k hk).2; simp; omega)
            clear Mm32 Sm32 om32 dm32 Om gm mm ow3 dap
            go_wp2
            go_roundw
            case rel => exact ⟨k + 1, Fm32, by omega, by go_num, ⟨_, _, rfl, by rw [HBI.out, HS.out]; exact om, dm, ow4, dw3, dap4⟩, by rw [HBI.out, HS.out]; exact Mm, Sm⟩
            case measure => simp [intOf]; omega
          · obtain rfl : k = m := by omega
            have HSS := Lib.hid HS0
            clear HS0
            go_wp2
            go_roundw
            case rel => exact ⟨i + 1, F2, by omega, by go_num, ⟨_, _, _, rfl, by rw [HSS.out]; exact own2, dd2⟩, by rw [HSS.out]; exact M2, S2⟩
            case measure => simp [intOf]; omega
    · obtain rfl : i = n := by omega
      rw [HSI.out, HD0.out] at M1 own
      obtain ⟨ga, gn, gc, hB, ho, hg, hbg, hF⟩ := M1
      have R6 := R2.only S1.only (by simp; omega)
      have V6 := V2.trans (S1.out (B := w.heap.size) V2.size (by simp; omega))
      have Z6 := S1.size
      have hdd : Disj (foot ga gc) (foot a1 c1) := fun k hk hk' => dd k hk' (by rw [hF]; exact List.mem_cons_of_mem _ hk)
      have x3 := hB.cell 3
      have y3 := hB.frozen 3
      have O7 : Only [g] wr (wr.setCell ⟨g, 3, none⟩ (.slice a1 m c1)) := (Only.refl _ _).setCell _ _ (by simp)
      have B7 : Blk (wr.setCell ⟨g, 3, none⟩ (.slice a1 m c1)) g 79 #[.int .i64 (q : Int), .int .i64 i1, .slice ga gn gc, .slice a1 m c1] := hB.set_ 3 _
      have R7 := R6.only O7 (by simp; omega)
      have ho7 := OwnF.only ho O7 (fun k hk hk' => hg (by simp at hk'; subst hk'; exact hk))
      have oo7 := own.only O7 (fun k hk hk' => dd k hk (by rw [hF]; simp at hk'; subst hk'; simp))
      have V7 := V6.trans (O7.below V6.size (by simp; omega))
      have z0 : (wr.setCell ⟨g, 3, none⟩ (.slice a1 m c1)).cell? ⟨g, 0, none⟩ = some (.int .i64 (q : Int)) := B7.cell 0
      have z1 : (wr.setCell ⟨g, 3, none⟩ (.slice a1 m c1)).cell? ⟨g, 1, none⟩ = some (.int .i64 i1) := B7.cell 1
      have z2 : (wr.setCell ⟨g, 3, none⟩ (.slice a1 m c1)).cell? ⟨g, 2, none⟩ = some (.slice ga gn gc) := B7.cell 2
      have z3 : (wr.setCell ⟨g, 3, none⟩ (.slice a1 m c1)).cell? ⟨g, 3, none⟩ = some (.slice a1 m c1) := B7.cell 3
      have r0 : (wr.setCell ⟨g, 3, none⟩ (.slice a1 m c1)).cell? ⟨w.heap.size, 0, none⟩ = some (.int .i64 0) := R7.cell 0
      have q0 : (wr.setCell ⟨g, 3, none⟩ (.slice a1 m c1)).frozen? ⟨w.heap.size, 0, none⟩ = false := R7.frozen 0
      have r1 : (wr.setCell ⟨g, 3, none⟩ (.slice a1 m c1)).cell? ⟨w.heap.size, 1, none⟩ = some (.int .i64 0) := R7.cell 1
      have q1 : (wr.setCell ⟨g, 3, none⟩ (.slice a1 m c1)).frozen? ⟨w.heap.size, 1, none⟩ = false := R7.frozen 1
      have r2 : (wr.setCell ⟨g, 3, none⟩ (.slice a1 m c1)).cell? ⟨w.heap.size, 2, none⟩ = some (.slice none 0 0) := R7.cell 2
      have q2 : (wr.setCell ⟨g, 3, none⟩ (.slice a1 m c1)).frozen? ⟨w.heap.size, 2, none⟩ = false := R7.frozen 2
      have r3 : (wr.setCell ⟨g, 3, none⟩ (.slice a1 m c1)).cell? ⟨w.heap.size, 3, none⟩ = some (.slice none 0 0) := R7.cell 3
      have q3 : (wr.setCell ⟨g, 3, none⟩ (.slice a1 m c1)).frozen? ⟨w.heap.size, 3, none⟩ = false := R7.frozen 3
      have Q1 := Lib.hid ho7.feet
      have Q2 := Lib.hid oo7.feet
      have GG := (((((Only.refl [w.heap.size] (wr.setCell ⟨g, 3, none⟩ (.slice a1 m c1))).setCell ⟨w.heap.size, 0, none⟩ (.int .i64 (q : Int)) (by simp)).setCell ⟨w.heap.size, 1, none⟩ (.int .i64 i1) (by simp)).setCell ⟨w.heap.size, 2, none⟩ (.slice ga gn gc) (by simp)).setCell ⟨w.heap.size, 3, none⟩ (.slice a1 m c1) (by simp))
      have HG := Lib.hid GG
      clear GG
      go_wp2
      have GG := HG.out
      exact bodyPost_ret (v := .agg #[.int .i64 (q : Int), .int .i64 i1, .slice ga gn gc, .slice a1 m c1]) (by simp [results, Try.results95, go_sem, r0, r1, r2, r3]) rfl ⟨_, _, _, _, _, _, rfl, (ho7.only GG (fun k hk hk' => by have := Q1.out k hk; simp at hk'; omega)).lower (by omega), ((oo7.only GG (fun k hk hk' => by have := Q2.out k hk; simp at hk'; omega)).lower (by omega)).rd, hdd, V7.trans (GG.below V7.size (by simp))⟩
end Go.Proofs.Ytkbhigdciokfkaa
namespace Go.Proofs.Ytkbhigdciokfkaa
open Go.RowKit
set_option maxHeartbeats 8000000 in
set_option maxRecDepth 100000 in
theorem meTree_any (n wd v : Nat) (w : World) (hn : 1 ≤ n ∧ n ≤ 8) (hw : 1 ≤ wd ∧ wd ≤ 4) (hv : wid (n : Int) = v) :
    Calls Try.prog 96 #[.int .i64 n, .int .i64 wd] w fun e w' => ∃ ga gn gc oa on oc, e = .returned (.agg #[.int .i64 ((n * wd : Nat) : Int), .int .i64 ((v : Int) + ((0 : Nat) : Int)), .slice ga gn gc, .slice oa on oc]) ∧ OwnF 3 eGate w' w.heap.size ga gn gc (meG 1 n wd).1 ∧ Rd w' w.heap.size oa on oc (meG 1 n wd).2 ∧ Disj (foot ga gc) (foot oa oc) ∧ Below w.heap.size w w' := by
  have hv3 : v ≤ 3 := by rw [← hv]; exact wid8 n hn.2
  have hqb : n * wd ≤ 8 * 4 := Nat.mul_le_mul hn.2 hw.2
  have HE : Hid (meG 1 n wd = ((trG (meB n wd v 0) (spL ((n * wd : Nat) : Int) v) (ceL wd n) [] v).1, (trG (meB n wd v 0) (spL ((n * wd : Nat) : Int) v) (ceL wd n) [] v).2.getD 0 [])) := Lib.hid (by unfold meG; rw [if_neg (by decide), if_pos rfl, hv]; rfl)
  have HB : Hid (meB n wd v 0 = ((n * wd : Nat) : Int) + ((v : Int) + ((0 : Nat) : Int))) := Lib.hid (by unfold meB; simp)
  rw [HE.out, HB.out]
  clear HE HB
  have hst := meStart_any n wd 0 v (w.alloc (.cells #[.int .i64 0, .int .i64 0, .slice none 0 0, .slice none 0 0] 25)) hn hw (by omega) hv
  have HST := Lib.hid hst
  clear hst hv
  have hqe : ((n : Int) * (wd : Int)) = ((n * wd : Nat) : Int) := (Int.natCast_mul _ _).symm
  obtain ⟨q, hq⟩ : ∃ q, q = n * wd := ⟨_, rfl⟩
  rw [← hq] at HST hqe hqb ⊢
  have t1 : IntKind.i64.wrap ((n : Int) * (wd : Int)) = (q : Int) := by rw [hqe]; exact IntWalk.i64_in _ (by omega)
  clear hqe hq
  have V1 : Below w.heap.size w (w.alloc (.cells #[.int .i64 0, .int .i64 0, .slice none 0 0, .slice none 0 0] 25)) := (Below.refl _ _).alloc (Nat.le_refl _) _
  have R1 : Blk (w.alloc (.cells #[.int .i64 0, .int .i64 0, .slice none 0 0, .slice none 0 0] 25)) w.heap.size 25 #[.int .i64 0, .int .i64 0, .slice none 0 0, .slice none 0 0] := Blk.new w _ _
  have Z1 : (w.alloc (.cells #[.int .i64 0, .int .i64 0, .slice none 0 0, .slice none 0 0] 25)).heap.size = w.heap.size + 1 := by simp
  obtain ⟨i1, hi1⟩ : ∃ i1, i1 = (v : Int) + ((0 : Nat) : Int) := ⟨_, rfl⟩
  rw [← hi1] at HST ⊢
  have h1 : 0 ≤ i1 ∧ i1 ≤ 1000 := by omega
  clear hi1
  have h0 : (0 : Int) ≤ (q : Int) ∧ (q : Int) ≤ 1000 := by omega
  go_enter Try.func96, Try.ntmps96
  go_wp2_with fail
  refine HST.out.mono ?_; rintro e w2 ⟨g, ca, cc, rs, ia, ic, rfl, h, dc, hd, hhi, dx, u2⟩
  have V2 := V1.trans (u2.mono V1.size)
  have R2 := R1.below u2
  have hgr : w.heap.size < g := by have := (h.feet g (by simp)).1; omega
  rw [Z1] at h hhi
  have hb : w.heap.size + 1 ≤ w2.heap.size := by have := u2.size; omega
  clear V1 R1 u2 Z1 HST
  have HI : Hid ((spL (q : Int) v).length = v) := spL_len _ _
  have HAL : Hid (AllL wd (datas' rs)) := Lib.hid (by rw [hd]; exact ceL_all wd n)
  have HR := Lib.hid dc.len
  have hle := dc.le
  have hle2 := dx.ints.le
  have HH := Lib.hid hhi
  have HD0 := Lib.hid hd
  clear hhi hd
  obtain ⟨I, hI⟩ : ∃ I, I = spL (q : Int) v := ⟨_, rfl⟩
  rw [← hI] at dx HI
  have HSI := Lib.hid hI
  clear hI
  go_wp2
  go_loopw [6, 21] (fun y u wr => ∃ k F1, k ≤ v ∧ u = .int .i64 (k : Nat) ∧ (∃ a1 m c1 rs1, y = .slice a1 m c1 ∧ RwD wr a1 m c1 rs1 F1 ∧ datas' rs1 = (trG ((q : Int) + i1) I (datas' rs) [] k).2 ∧ (∀ r ∈ rs1, ∀ k ∈ foot r.1 r.2.1, w.heap.size + 1 ≤ k)) ∧ Mk 79 wr (w.heap.size + 1) g q i1 (trG ((q : Int) + i1) I (datas' rs) [] k).1 F1 ∧ Stp [g] w2 F1 wr) (fun _ u _ => v - (intOf u).toNat)
  case atStart => exact ⟨0, [g], Nat.zero_le _, rfl, ⟨_, _, _, rs, rfl, dc, rfl, HH.out⟩, h, Stp.refl _ _⟩
  case round =>
    obtain ⟨k, F1, hk, rfl, ⟨a1, m, c1, rs1, rfl, dc1, hd1, hh1⟩, M1, S1⟩ := hrel
    obtain ⟨hG, hG2, hG3⟩ := trG_len (B := (q : Int) + i1) (idx := I) (G := []) HAL.out (by rw [datas_len, HR.out]; omega) (by rw [datas_len, HR.out]; omega) k
    rw [List.length_nil] at hG
    have hm := dc1.len
    have hml : (datas' rs1).length = m := by rw [datas_len]; exact hm
    rw [← hd1, hml] at hG2
    rw [← hd1] at hG3
    have hGb : 36 * wd * k ≤ 36 * 20 * 8 := Nat.mul_le_mul (Nat.mul_le_mul_left _ (by omega)) (by omega)
    have HH1 := Lib.hid hh1
    clear hh1
    by_cases hlt : k < v
    · obtain ⟨wo, rfl⟩ : ∃ wo, wo = wr := ⟨_, rfl⟩
      have HS0 := trG_succ ((q : Int) + i1) I (datas' rs) [] k
      rw [← hd1, hml] at HS0
      obtain ⟨gx, ox, hgx, _⟩ := dx.ints.at k hlt
      subst hgx
      have cx := (dx.stp S1).ints.cellsAt k hlt
      generalize I.getD k 0 = x at *
      generalize hg1 : (trG ((q : Int) + i1) I (datas' rs) [] k).1 = G1 at *
      have HS := Lib.hid HS0
      clear HS0 hg1 hd1
      have HA3 := Lib.hid hG3
      have HML := Lib.hid hml
      clear hG3 hml
      have hb1 : w.heap.size + 1 ≤ wo.heap.size := Nat.le_trans hb S1.size
      go_wp2
      clear cx
      go_loopw [10, 11] (fun y u wx => ∃ j F2, 2 * j ≤ m + 1 ∧ u = .int .i64 (2 * (j : Int)) ∧ (∃ a2 c2 rs2, y = .slice a2 j c2 ∧ RwO wx wo.heap.size a2 j c2 rs2 F2 ∧ datas' rs2 = (trJ ((q : Int) + i1) x (datas' rs1) G1 j).2 ∧ (∀ r ∈ rs2, ∀ k ∈ foot r.1 r.2.1, w.heap.size + 1 ≤ k)) ∧ Mk 79 wx (w.heap.size + 1) g q i1 (trJ ((q : Int) + i1) x (datas' rs1) G1 j).1 F2 ∧ Stp F1 wo F2 wx) (fun _ u _ => m - (intOf u).toNat)
      case atStart => exact ⟨0, F1, by omega, rfl, ⟨_, _, [], rfl, RwO.nil _ _ _ _, rfl, fun r hr => by cases hr⟩, M1, Stp.refl _ _⟩
      case round =>
        obtain ⟨j, F2, hj, rfl, ⟨a2, c2, rs2, rfl, ro, hd2, hh2⟩, M2, S2⟩ := hrel
        clear M1
        have HH2 := Lib.hid hh2
        clear hh2
        obtain ⟨hJ, hJ2, hJ3⟩ := trJ_len (B := (q : Int) + i1) (b := x) (G := G1) HA3.out j (by rw [HML.out]; exact hj)
        have hJb : 9 * wd * j ≤ 9 * 20 * 5 := Nat.mul_le_mul (Nat.mul_le_mul_left _ (by omega)) (by omega)
        by_cases hlt2 : 2 * j < m
        · have HJ0 := trJ_succ ((q : Int) + i1) x (datas' rs1) G1 j
          unfold trS at HJ0
          rw [HML.out] at HJ0
          rw [← hd2] at HJ0
          have hlt3 : 2 * (j : Int) < (m : Int) := by omega
          have hz0 : (0 : Int) ≤ 2 * (j : Int) := by omega
          have hz1 : (0 : Int) ≤ 2 * (j : Int) + 1 := by omega
          have hzw : IntKind.i64.wrap (2 * (j : Int) + 1) = 2 * (j : Int) + 1 := IntWalk.i64_in _ (by omega)
          have htn : (2 * (j : Int)).toNat = 2 * j := by omega
          have htn2 : (2 * (j : Int) + 1).toNat = 2 * j + 1 := by omega
          obtain ⟨gr, o_r, hgr, _, _⟩ := dc1.at (2 * j) hlt2
          subst hgr
          have cj := (dc1.stp S2).cellsAt (2 * j) hlt2
          have dj := dc1.innAt (2 * j) hlt2
          have hhj := HH1.out _ (rowAt_mem (rs := rs1) (j := 2 * j) (by rw [← datas_len, HML.out]; exact hlt2))
          rw [datas_getD _ (2 * j) (by rw [← datas_len, HML.out]; exact hlt2)] at HJ0
          generalize hg2 : (trJ ((q : Int) + i1) x (datas' rs1) G1 j).1 = G2 at *
          clear hg2
          by_cases he : 2 * j + 1 = m
          · rw [if_pos he] at HJ0
            have HJ := Lib.hid HJ0
            clear HJ0
            have he2 : ¬ (2 * (j : Int) + 1 < (m : Int)) := by omega
            generalize rowAt rs1 (2 * j) = r at *
            have HE := Lib.hid he
            have HHJ := Lib.hid hhj
            clear he hhj
            go_wp2_with (at_builtin; refine wpList_appR _ rfl _ _ rfl wo.heap.size _ j _ _ rfl (RwO.alloc ro _).out _ 1 r rfl (RowC.litR _ _ _ rfl _) (by omega) (by have := S2.size; simp; omega) ?_)
            intro aa1 ca1 wa1 oo1 _ ga1 ma1
            have Oa1 := Only.of_grown ga1
            have Ma1 := Mk.only (Mk.alloc M2 _) Oa1 ro.dis
            have Sa1 := Stp.onto (Stp.alloc S2 _) Oa1 (fun k hk => (ro.out.feet k hk).1)
            have Ra1 := RwO.push (RwO.alloc ro _) (fun k hk => by have := (M2.feet k hk).2; simp; omega) ((dj.stp S2).below ((Below.refl _ _).alloc (Nat.le_refl _) _)) (dj.away ro.out) oo1 ga1 ma1
            clear ro M2 S2 Oa1 oo1 ga1 ma1
            clear cj
            go_wp2
            go_roundw
            case rel => exact ⟨j + 1, F2, by have := HE.out; omega, by go_num, ⟨_, _, _, rfl, Ra1, by rw [datas_push, HJ.out], fun s hs k hk => by
              rcases List.mem_append.1 hs with hs | hs
              · exact HH2.out s hs k hk
              · rw [List.mem_singleton] at hs; subst hs; exact HHJ.out k hk⟩, by rw [HJ.out]; exact Ma1, Sa1⟩
            case measure => simp [intOf]; omega
          · clear hhj
            rw [if_neg he] at HJ0
            have hlt4 : 2 * j + 1 < m := by omega
            have hlt5 : 2 * (j : Int) + 1 < (m : Int) := by omega
            have ck := (dc1.stp S2).cellsAt (2 * j + 1) hlt4
            have dk := dc1.innAt (2 * j + 1) hlt4
            rw [datas_getD _ (2 * j + 1) (by rw [← datas_len, HML.out]; exact hlt4)] at HJ0
            have lj := HA3.out.at (2 * j) (by rw [HML.out]; exact hlt2)
            have lk := HA3.out.at (2 * j + 1) (by rw [HML.out]; exact hlt4)
            rw [datas_getD _ _ (by rw [← datas_len, HML.out]; omega)] at lj lk
            have HDC := fun (W : World) (F' : List Nat) (s : Stp F1 wo F' W) => And.intro ((dc1.stp s).cellsAt (2 * j + 1) hlt4) ((dc1.stp s).cellsAt (2 * j) hlt2)
            obtain ⟨rj, hrj⟩ : ∃ r, r = rowAt rs1 (2 * j) := ⟨_, rfl⟩
            obtain ⟨rk, hrk⟩ : ∃ r, r = rowAt rs1 (2 * j + 1) := ⟨_, rfl⟩
            rw [← hrj] at cj dj lj HJ0
            rw [← hrk] at ck dk lk HJ0
            simp only [← hrj, ← hrk] at HDC
            clear hrj hrk
            obtain ⟨ja, jc, JL⟩ := rj
            obtain ⟨ka, kc, KL⟩ := rk
            simp only at cj dj lj ck dk lk HJ0 HDC
            have HDC2 := Lib.hid HDC
            clear HDC
            have lc := (chG_len ((q : Int) + i1) x KL JL G2 KL.length).2
            obtain ⟨⟨G3, L⟩, hr3⟩ : ∃ r, r = chG ((q : Int) + i1) x KL JL G2 KL.length := ⟨_, rfl⟩
            have HCH := Lib.hid hr3
            rw [← hr3] at HJ0 lc
            clear hr3
            simp only at HJ0 lc
            have HJ := Lib.hid HJ0
            clear HJ0
            have HE := Lib.hid he
            clear he
            rw [lj] at cj dj
            rw [lk] at ck dk lc
            go_wp2
            go_region_held3 (fun W => W.cell? ⟨gr, o_r + (2 * j + 1), none⟩ = some (.slice ka wd kc) ∧ W.cell? ⟨gr, o_r + 2 * j, none⟩ = some (.slice ja wd jc))
              (first | go_keep | exact (by have hh := HDC2.out _ _ (Stp.onto (Stp.alloc (S2.drew.trans s3) _) (Only.of_grown ga) (fun k hk => ((ro.drew.stp s3).out.feet k hk).1)); rw [lj, lk] at hh; exact hh) | exact (by have hh := HDC2.out _ _ (S2.drew.trans s3); rw [lj, lk] at hh; exact hh))
              (first | (go_at_call 87; refine (gdPick_any x _ wd _ _ _ wd _ _ (w.heap.size + 1) g q i1 G2 F2 _ M2.drew (Nat.le_trans hb1 S2.size) h0 h1 ((dk.stp S2).below ((Below.refl _ _).drew)) ((dj.stp S2).below ((Below.refl _ _).drew)) (Nat.le_refl _) (by omega) (by omega)).mono ?_; rintro e w3 ⟨a3, c3, F3, rfl, o3, d3, M3, s3⟩) | (refine step_appR _ (by rfl) _ _ (by rfl) wo.heap.size _ j _ _ (by rfl) (RwO.alloc (ro.drew.stp s3) _).out _ 1 (a3, c3, L) (by rfl) (RowC.litR _ _ _ (rowV_of lc) _) (by omega) (by have := (S2.drew.trans s3).size; simp; omega) ?_; intro aa ca' wa oo _ ga ma))
            all_goals have ro3 := ro.drew.stp s3
            all_goals have Oa := Only.of_grown ga
            all_goals have Ma := Mk.only (Mk.alloc M3 _) Oa ro3.dis
            all_goals have Sa := (Stp.onto (Stp.alloc (S2.drew.trans s3) _) (Only.of_grown ga) (fun k hk => ((ro.drew.stp s3).out.feet k hk).1))
            all_goals have hLe : L = (chG ((q : Int) + i1) x KL JL G2 wd).2 := by have := HCH.out; rw [lk] at this; rw [← this]
            all_goals have hGe : G3 = (chG ((q : Int) + i1) x KL JL G2 wd).1 := by have := HCH.out; rw [lk] at this; rw [← this]
            all_goals rw [← hLe] at o3
            all_goals rw [← hGe] at Ma
            all_goals have hh3 := Lib.hid (fun k (hk : k ∈ foot a3 c3) => (o3.feet k hk).1)
            all_goals have hrI := (o3.intD d3)
            all_goals have hrA := o3.away ro.drew.out (Nat.le_refl _)
            all_goals rw [← lc] at hrI hrA
            all_goals have hrB : ∀ y, 0 < L.length → a3 = some y → y.block ∉ foot a2 c2 := hrA
            all_goals have Ra := RwO.push (r := (a3, c3, L)) (RwO.alloc ro3 _) (fun k hk => by have := (M3.feet k hk).2; simp; omega) (hrI.below ((Below.refl _ _).alloc (Nat.le_refl _) _)) hrB oo ga ma
            all_goals have hb2 := Nat.le_trans hb1 S2.size
            all_goals have hdz : ∀ (W : World), W.drew.heap.size = W.heap.size := fun _ => rfl
            all_goals clear cj ck ro M2 S2 s3 o3 d3 M3 ro3 Oa oo ga ma hrI hrA hrB hLe hGe hdz
            go_wp2
            go_roundw
            case rel => exact ⟨j + 1, _, by omega, by go_num, ⟨_, _, _, rfl, Ra, by rw [datas_push, HJ.out], fun s hs k hk => by
              rcases List.mem_append.1 hs with hs | hs
              · exact HH2.out s hs k hk
              · rw [List.mem_singleton] at hs; subst hs; exact Nat.le_trans hb2 (hh3.out k hk)⟩, by rw [HJ.out]; exact Ma, Sa⟩
            case measure => simp [intOf]; omega
        · have HJE := Lib.hid (show j = (m + 1) / 2 by omega)
          have hge : ¬ 2 * (j : Int) < (m : Int) := by omega
          have HD2 := Lib.hid hd2
          clear hd2
          have rd := ro.rwD
          have ST := S1.trans S2
          clear ro S2 S1 dc1
          go_wp2
          go_roundw
          case rel => exact ⟨k + 1, F2, by omega, by go_num, ⟨_, _, _, _, rfl, rd, by rw [HS.out, ← HJE.out]; exact HD2.out, HH2.out⟩, by rw [HS.out, ← HJE.out]; exact M2, ST⟩
          case measure => simp [intOf]; omega
    · obtain rfl : k = v := by omega
      have hge : ¬ (k : Int) < (k : Int) := by omega
      obtain ⟨gr, o_r, hgr, c0, _⟩ := dc1.at 0 (by omega)
      subst hgr
      have d0 := dc1.innAt 0 (by omega)
      have HD0' := Lib.hid (datas_getD rs1 0 (by omega))
      rw [hd1] at HD0'
      have hh0 := HH1.out _ (rowAt_mem (rs := rs1) (j := 0) (by omega))
      have l0 := hG3.at 0 (by rw [hml]; omega)
      rw [datas_getD _ _ (by omega)] at l0
      rw [Nat.add_zero] at c0
      generalize rowAt rs1 0 = r at *
      obtain ⟨ra, rc, RL⟩ := r
      simp only at c0 d0 HD0' l0 hh0
      rw [l0] at c0 d0
      have hm0 : 0 < (m : Int) := by omega
      have out : Rd wr (w.heap.size + 1) ra wd rc RL := ⟨d0.1, fun k hk => ⟨hh0 k hk, by
        obtain ⟨x, hx, hc, rfl⟩ := mem_foot hk
        exact (d0.1.range x (by omega) hx).2⟩⟩
      have dd : Disj (foot ra rc) F1 := fun k hk hf => by
        obtain ⟨x, hx, hc, rfl⟩ := mem_foot hk
        exact d0.2 x (by omega) hx hf
      rw [HSI.out, HD0.out] at M1 HD0'
      have HRL := Lib.hid HD0'.out
      rw [← HRL.out] at out
      clear d0 hh0 l0 HD0'
      obtain ⟨ga, gn, gc, hB, ho, hg, hbg, hF⟩ := M1
      have R6 := R2.only S1.only (by simp; omega)
      have V6 := V2.trans (S1.out (B := w.heap.size) V2.size (by simp; omega))
      have Z6 := S1.size
      have hdd : Disj (foot ga gc) (foot ra rc) := fun k hk hk' => dd k hk' (by rw [hF]; exact List.mem_cons_of_mem _ hk)
      have x3 := hB.cell 3
      have y3 := hB.frozen 3
      have O7 : Only [g] wr (wr.setCell ⟨g, 3, none⟩ (.slice ra wd rc)) := (Only.refl _ _).setCell _ _ (by simp)
      have B7 : Blk (wr.setCell ⟨g, 3, none⟩ (.slice ra wd rc)) g 79 #[.int .i64 (q : Int), .int .i64 i1, .slice ga gn gc, .slice ra wd rc] := hB.set_ 3 _
      have R7 := R6.only O7 (by simp; omega)
      have ho7 := OwnF.only ho O7 (fun k hk hk' => hg (by simp at hk'; subst hk'; exact hk))
      have oo7 := out.only O7 (fun k hk hk' => dd k hk (by rw [hF]; simp at hk'; subst hk'; simp))
      have V7 := V6.trans (O7.below V6.size (by simp; omega))
      have z0 : (wr.setCell ⟨g, 3, none⟩ (.slice ra wd rc)).cell? ⟨g, 0, none⟩ = some (.int .i64 (q : Int)) := B7.cell 0
      have z1 : (wr.setCell ⟨g, 3, none⟩ (.slice ra wd rc)).cell? ⟨g, 1, none⟩ = some (.int .i64 i1) := B7.cell 1
      have z2 : (wr.setCell ⟨g, 3, none⟩ (.slice ra wd rc)).cell? ⟨g, 2, none⟩ = some (.slice ga gn gc) := B7.cell 2
      have z3 : (wr.setCell ⟨g, 3, none⟩ (.slice ra wd rc)).cell? ⟨g, 3, none⟩ = some (.slice ra wd rc) := B7.cell 3
      have r0 : (wr.setCell ⟨g, 3, none⟩ (.slice ra wd rc)).cell? ⟨w.heap.size, 0, none⟩ = some (.int .i64 0) := R7.cell 0
      have q0 : (wr.setCell ⟨g, 3, none⟩ (.slice ra wd rc)).frozen? ⟨w.heap.size, 0, none⟩ = false := R7.frozen 0
      have r1 : (wr.setCell ⟨g, 3, none⟩ (.slice ra wd rc)).cell? ⟨w.heap.size, 1, none⟩ = some (.int .i64 0) := R7.cell 1
      have q1 : (wr.setCell ⟨g, 3, none⟩ (.slice ra wd rc)).frozen? ⟨w.heap.size, 1, none⟩ = false := R7.frozen 1
      have r2 : (wr.setCell ⟨g, 3, none⟩ (.slice ra wd rc)).cell? ⟨w.heap.size, 2, none⟩ = some (.slice none 0 0) := R7.cell 2
      have q2 : (wr.setCell ⟨g, 3, none⟩ (.slice ra wd rc)).frozen? ⟨w.heap.size, 2, none⟩ = false := R7.frozen 2
      have r3 : (wr.setCell ⟨g, 3, none⟩ (.slice ra wd rc)).cell? ⟨w.heap.size, 3, none⟩ = some (.slice none 0 0) := R7.cell 3
      have q3 : (wr.setCell ⟨g, 3, none⟩ (.slice ra wd rc)).frozen? ⟨w.heap.size, 3, none⟩ = false := R7.frozen 3
      have Q1 := Lib.hid ho7.feet
      have Q2 := Lib.hid oo7.feet
      have GG := (((((Only.refl [w.heap.size] (wr.setCell ⟨g, 3, none⟩ (.slice ra wd rc))).setCell ⟨w.heap.size, 0, none⟩ (.int .i64 (q : Int)) (by simp)).setCell ⟨w.heap.size, 1, none⟩ (.int .i64 i1) (by simp)).setCell ⟨w.heap.size, 2, none⟩ (.slice ga gn gc) (by simp)).setCell ⟨w.heap.size, 3, none⟩ (.slice ra wd rc) (by simp))
      have HG := Lib.hid GG
      clear GG
      go_wp2
      have GG := HG.out
      exact bodyPost_ret (v := .agg #[.int .i64 (q : Int), .int .i64 i1, .slice ga gn gc, .slice ra wd rc]) (by simp [results, Try.results96, go_sem, r0, r1, r2, r3]) rfl ⟨_, _, _, _, _, _, rfl, (ho7.only GG (fun k hk hk' => by have := Q1.out k hk; simp at hk'; omega)).lower (by omega), ((oo7.only GG (fun k hk hk' => by have := Q2.out k hk; simp at hk'; omega)).lower (by omega)), hdd, V7.trans (GG.below V7.size (by simp))⟩
end Go.Proofs.Ytkbhigdciokfkaa
namespace Go.Proofs.Ytkbhigdciokfkaa
open Go.RowKit
set_option maxHeartbeats 8000000 in
set_option maxRecDepth 100000 in
theorem meIf_0 (n wd : Int) (w : World) :
    Calls Try.prog 48 #[.int .i64 0, .int .i64 n, .int .i64 wd] w fun e w' => ∃ ga gn gc oa on oc, e = .returned (.tuple #[.agg #[.int .i64 (mS0 n wd), .int .i64 (mS1 0 n wd), .slice ga gn gc, .slice oa on oc], .bool (memB n wd)]) ∧ OwnF 3 eGate w' w.heap.size ga gn gc (mG 0 n wd) ∧ Rd w' w.heap.size oa on oc (mO 0 n wd) ∧ Disj (foot ga gc) (foot oa oc) ∧ Below w.heap.size w w' := by
  have V1 : Below w.heap.size w (w.alloc (.cells #[.int .i64 0, .int .i64 0, .slice none 0 0, .slice none 0 0] 25)) := (Below.refl _ _).alloc (Nat.le_refl _) _
  have R1 : Blk (w.alloc (.cells #[.int .i64 0, .int .i64 0, .slice none 0 0, .slice none 0 0] 25)) w.heap.size 25 #[.int .i64 0, .int .i64 0, .slice none 0 0, .slice none 0 0] := Blk.new w _ _
  have Z1 : w.heap.size + 1 ≤ (w.alloc (.cells #[.int .i64 0, .int .i64 0, .slice none 0 0, .slice none 0 0] 25)).heap.size := by simp
  cases hg : (inB n 1 8 && inB wd 1 4)
  · have hm : memB n wd = false := by unfold memB; rw [hg]; rfl
    unfold mS0 mS1 mG mO
    rw [hm]
    simp only [Bool.false_eq_true, if_false]
    go_enter Try.func48, Try.ntmps48
    go_wp2_with fail
    generalize (w.alloc (.cells #[.int .i64 0, .int .i64 0, .slice none 0 0, .slice none 0 0] 25)) = w1 at *
    refine (meGood_any n wd _).mono ?_; rintro e w' ⟨rfl, rfl⟩
    rw [hg]
    have r0 : w1.cell? ⟨w.heap.size, 0, none⟩ = some (.int .i64 0) := R1.cell 0
    have r1 : w1.cell? ⟨w.heap.size, 1, none⟩ = some (.int .i64 0) := R1.cell 1
    have r2 : w1.cell? ⟨w.heap.size, 2, none⟩ = some (.slice none 0 0) := R1.cell 2
    have r3 : w1.cell? ⟨w.heap.size, 3, none⟩ = some (.slice none 0 0) := R1.cell 3
    have q0 : w1.frozen? ⟨w.heap.size, 0, none⟩ = false := R1.frozen 0
    have q1 : w1.frozen? ⟨w.heap.size, 1, none⟩ = false := R1.frozen 1
    have q2 : w1.frozen? ⟨w.heap.size, 2, none⟩ = false := R1.frozen 2
    have q3 : w1.frozen? ⟨w.heap.size, 3, none⟩ = false := R1.frozen 3
    go_wp2
    have GG := (((((Only.refl [w.heap.size] w1).setCell ⟨w.heap.size, 0, none⟩ (.int .i64 0) (by simp)).setCell ⟨w.heap.size, 1, none⟩ (.int .i64 0) (by simp)).setCell ⟨w.heap.size, 2, none⟩ (.slice none 0 0) (by simp)).setCell ⟨w.heap.size, 3, none⟩ (.slice none 0 0) (by simp))
    exact bodyPost_ret (v := .tuple #[.agg #[.int .i64 0, .int .i64 0, .slice none 0 0, .slice none 0 0], .bool false]) (by simp [results, Try.results48, go_sem, r0, r1, r2, r3]) rfl ⟨none, 0, 0, none, 0, 0, rfl, OwnC.nil0 _ _ _ _ _, (Own.nil0 _ _ _).rd, foot_nil _ _, V1.trans (GG.below V1.size (by simp))⟩
  · have hg2 := hg
    simp only [Bool.and_eq_true] at hg2
    obtain ⟨⟨n1, n2⟩, d1, d2⟩ : (1 ≤ n ∧ n ≤ 8) ∧ 1 ≤ wd ∧ wd ≤ 4 := ⟨inB_true hg2.1, inB_true hg2.2⟩
    clear hg2
    obtain ⟨n, rfl⟩ : ∃ k : Nat, n = k := ⟨n.toNat, by omega⟩
    obtain ⟨wd, rfl⟩ : ∃ k : Nat, wd = k := ⟨wd.toNat, by omega⟩
    have hok := me_ok 0 n wd (by omega) (by omega) (by omega) (by omega)
    have eM : meMore 0 wd = 0 := by unfold meMore; simp
    have hmd : memB n wd = decide (n * wd ≤ 20) := by unfold memB; rw [hg, Bool.true_and]; rw [decide_eq_decide, ← Int.natCast_mul]; omega
    obtain ⟨v, hv⟩ : ∃ v, wid (n : Int) = v := ⟨_, rfl⟩
    rw [eM, hv, Int.natCast_add] at hok
    have HV := Lib.hid hv
    unfold mS0 mS1 mG mO
    rw [hmd]
    simp only [Int.toNat_natCast]
    rw [eM, hv]
    have e3 : ((n : Int) * (wd : Int)) = ((n * wd : Nat) : Int) := (Int.natCast_mul _ _).symm
    rw [e3]
    clear e3 hv eM hmd
    obtain ⟨p, hp⟩ : ∃ p, p = meG 0 n wd := ⟨_, rfl⟩
    rw [← hp] at hok ⊢
    have HP := Lib.hid hp
    clear hp
    obtain ⟨q, hq⟩ : ∃ q, q = n * wd := ⟨_, rfl⟩
    obtain ⟨i1, hi1⟩ : ∃ i1, i1 = (v : Int) + ((0 : Nat) : Int) := ⟨_, rfl⟩
    rw [← hq, ← hi1] at hok ⊢
    have HQ := Lib.hid hq
    have HI1 := Lib.hid hi1
    clear hq hi1
    by_cases hnw : q ≤ 20
    · rw [decide_eq_true hnw] at hok ⊢
      simp only [if_true]
      have HOK := Lib.hid hok
      clear hok hnw
      go_enter Try.func48, Try.ntmps48
      go_wp2_with fail
      generalize (w.alloc (.cells #[.int .i64 0, .int .i64 0, .slice none 0 0, .slice none 0 0] 25)) = w1 at *
      refine (meGood_any n wd _).mono ?_; rintro e w' ⟨rfl, rfl⟩
      rw [hg]
      go_wp2_with fail
      refine (l1In_any _ _ _ _).mono ?_; rintro e w' ⟨rfl, rfl⟩
      rw [show inB 0 0 3 = true from rfl]
      go_wp2_with fail
      refine (meScan_any n wd v _ ⟨by omega, by omega⟩ ⟨by omega, by omega⟩ HV.out).mono ?_; rintro e w2 ⟨ga, gn, gc, oa, on, oc, rfl, og, oo, dd, u2⟩
      rw [← HP.out] at og oo
      rw [← HQ.out, ← HI1.out]
      have V2 := V1.trans (u2.mono V1.size)
      have R2 := R1.below u2
      have Z2 := u2.size
      have hgn := og.len
      have HC : Hid (ciB (q : Int) i1 gn p.1 p.2 = true) := Lib.hid (by have := HOK.out; rw [hgn, Nat.mul_div_cancel _ (by decide)] at this; exact this)
      clear hgn V1 R1 u2
      go_wp2_with fail
      refine (ciIf_yes _ _ _ _ _ p.1 _ _ _ p.2 _ og.flat oo.ints HC.out).mono ?_; rintro e w3 ⟨rfl, u3⟩
      have V3 := V2.trans (u3.mono V2.size)
      have R3 := R2.below u3
      have og3 := og.below u3
      have oo3 := oo.below u3
      have Q1 := Lib.hid og3.feet
      have Q2 := Lib.hid oo3.feet
      clear V2 R2 og oo u3
      have r0 : w3.cell? ⟨w.heap.size, 0, none⟩ = some (.int .i64 0) := R3.cell 0
      have r1 : w3.cell? ⟨w.heap.size, 1, none⟩ = some (.int .i64 0) := R3.cell 1
      have r2 : w3.cell? ⟨w.heap.size, 2, none⟩ = some (.slice none 0 0) := R3.cell 2
      have r3 : w3.cell? ⟨w.heap.size, 3, none⟩ = some (.slice none 0 0) := R3.cell 3
      have q0 : w3.frozen? ⟨w.heap.size, 0, none⟩ = false := R3.frozen 0
      have q1 : w3.frozen? ⟨w.heap.size, 1, none⟩ = false := R3.frozen 1
      have q2 : w3.frozen? ⟨w.heap.size, 2, none⟩ = false := R3.frozen 2
      have q3 : w3.frozen? ⟨w.heap.size, 3, none⟩ = false := R3.frozen 3
      go_wp2
      have GG := (((((Only.refl [w.heap.size] w3).setCell ⟨w.heap.size, 0, none⟩ (.int .i64 (q : Int)) (by simp)).setCell ⟨w.heap.size, 1, none⟩ (.int .i64 i1) (by simp)).setCell ⟨w.heap.size, 2, none⟩ (.slice ga gn gc) (by simp)).setCell ⟨w.heap.size, 3, none⟩ (.slice oa on oc) (by simp))
      exact bodyPost_ret (v := .tuple #[.agg #[.int .i64 (q : Int), .int .i64 i1, .slice ga gn gc, .slice oa on oc], .bool true]) (by simp [results, Try.results48, go_sem, r0, r1, r2, r3]) rfl ⟨ga, gn, gc, oa, on, oc, rfl, (og3.only GG (fun k hk hk' => by have := Q1.out k hk; simp at hk'; omega)).lower (by omega), (oo3.only GG (fun k hk hk' => by have := Q2.out k hk; simp at hk'; omega)).lower (by omega), dd, V3.trans (GG.below V3.size (by simp))⟩
    · rw [decide_eq_false hnw] at hok ⊢
      simp only [Bool.false_eq_true, if_false]
      have HOK := Lib.hid hok
      clear hok hnw
      go_enter Try.func48, Try.ntmps48
      go_wp2_with fail
      generalize (w.alloc (.cells #[.int .i64 0, .int .i64 0, .slice none 0 0, .slice none 0 0] 25)) = w1 at *
      refine (meGood_any n wd _).mono ?_; rintro e w' ⟨rfl, rfl⟩
      rw [hg]
      go_wp2_with fail
      refine (l1In_any _ _ _ _).mono ?_; rintro e w' ⟨rfl, rfl⟩
      rw [show inB 0 0 3 = true from rfl]
      go_wp2_with fail
      refine (meScan_any n wd v _ ⟨by omega, by omega⟩ ⟨by omega, by omega⟩ HV.out).mono ?_; rintro e w2 ⟨ga, gn, gc, oa, on, oc, rfl, og, oo, dd, u2⟩
      rw [← HP.out] at og oo
      rw [← HQ.out, ← HI1.out]
      have V2 := V1.trans (u2.mono V1.size)
      have R2 := R1.below u2
      have Z2 := u2.size
      have hgn := og.len
      have HC : Hid (ciB (q : Int) i1 gn p.1 p.2 = false) := Lib.hid (by have := HOK.out; rw [hgn, Nat.mul_div_cancel _ (by decide)] at this; exact this)
      clear hgn V1 R1 u2
      go_wp2_with fail
      refine (ciIf_no _ _ _ _ _ p.1 _ _ _ p.2 _ og.flat oo.ints HC.out).mono ?_; rintro e w3 ⟨rfl, u3⟩
      have V3 := V2.trans (u3.mono V2.size)
      have R3 := R2.below u3
      clear V2 R2 og oo u3
      have r0 : w3.cell? ⟨w.heap.size, 0, none⟩ = some (.int .i64 0) := R3.cell 0
      have r1 : w3.cell? ⟨w.heap.size, 1, none⟩ = some (.int .i64 0) := R3.cell 1
      have r2 : w3.cell? ⟨w.heap.size, 2, none⟩ = some (.slice none 0 0) := R3.cell 2
      have r3 : w3.cell? ⟨w.heap.size, 3, none⟩ = some (.slice none 0 0) := R3.cell 3
      have q0 : w3.frozen? ⟨w.heap.size, 0, none⟩ = false := R3.frozen 0
      have q1 : w3.frozen? ⟨w.heap.size, 1, none⟩ = false := R3.frozen 1
      have q2 : w3.frozen? ⟨w.heap.size, 2, none⟩ = false := R3.frozen 2
      have q3 : w3.frozen? ⟨w.heap.size, 3, none⟩ = false := R3.frozen 3
      go_wp2
      have GG := (((((Only.refl [w.heap.size] w3).setCell ⟨w.heap.size, 0, none⟩ (.int .i64 0) (by simp)).setCell ⟨w.heap.size, 1, none⟩ (.int .i64 0) (by simp)).setCell ⟨w.heap.size, 2, none⟩ (.slice none 0 0) (by simp)).setCell ⟨w.heap.size, 3, none⟩ (.slice none 0 0) (by simp))
      exact bodyPost_ret (v := .tuple #[.agg #[.int .i64 0, .int .i64 0, .slice none 0 0, .slice none 0 0], .bool false]) (by simp [results, Try.results48, go_sem, r0, r1, r2, r3]) rfl ⟨none, 0, 0, none, 0, 0, rfl, OwnC.nil0 _ _ _ _ _, (Own.nil0 _ _ _).rd, foot_nil _ _, V3.trans (GG.below V3.size (by simp))⟩
set_option maxHeartbeats 8000000 in
set_option maxRecDepth 100000 in
theorem meIf_1 (n wd : Int) (w : World) :
    Calls Try.prog 48 #[.int .i64 1, .int .i64 n, .int .i64 wd] w fun e w' => ∃ ga gn gc oa on oc, e = .returned (.tuple #[.agg #[.int .i64 (mS0 n wd), .int .i64 (mS1 1 n wd), .slice ga gn gc, .slice oa on oc], .bool (memB n wd)]) ∧ OwnF 3 eGate w' w.heap.size ga gn gc (mG 1 n wd) ∧ Rd w' w.heap.size oa on oc (mO 1 n wd) ∧ Disj (foot ga gc) (foot oa oc) ∧ Below w.heap.size w w' := by
  have V1 : Below w.heap.size w (w.alloc (.cells #[.int .i64 0, .int .i64 0, .slice none 0 0, .slice none 0 0] 25)) := (Below.refl _ _).alloc (Nat.le_refl _) _
  have R1 : Blk (w.alloc (.cells #[.int .i64 0, .int .i64 0, .slice none 0 0, .slice none 0 0] 25)) w.heap.size 25 #[.int .i64 0, .int .i64 0, .slice none 0 0, .slice none 0 0] := Blk.new w _ _
  have Z1 : w.heap.size + 1 ≤ (w.alloc (.cells #[.int .i64 0, .int .i64 0, .slice none 0 0, .slice none 0 0] 25)).heap.size := by simp
  cases hg : (inB n 1 8 && inB wd 1 4)
  · have hm : memB n wd = false := by unfold memB; rw [hg]; rfl
    unfold mS0 mS1 mG mO
    rw [hm]
    simp only [Bool.false_eq_true, if_false]
    go_enter Try.func48, Try.ntmps48
    go_wp2_with fail
    generalize (w.alloc (.cells #[.int .i64 0, .int .i64 0, .slice none 0 0, .slice none 0 0] 25)) = w1 at *
    refine (meGood_any n wd _).mono ?_; rintro e w' ⟨rfl, rfl⟩
    rw [hg]
    have r0 : w1.cell? ⟨w.heap.size, 0, none⟩ = some (.int .i64 0) := R1.cell 0
    have r1 : w1.cell? ⟨w.heap.size, 1, none⟩ = some (.int .i64 0) := R1.cell 1
    have r2 : w1.cell? ⟨w.heap.size, 2, none⟩ = some (.slice none 0 0) := R1.cell 2
    have r3 : w1.cell? ⟨w.heap.size, 3, none⟩ = some (.slice none 0 0) := R1.cell 3
    have q0 : w1.frozen? ⟨w.heap.size, 0, none⟩ = false := R1.frozen 0
    have q1 : w1.frozen? ⟨w.heap.size, 1, none⟩ = false := R1.frozen 1
    have q2 : w1.frozen? ⟨w.heap.size, 2, none⟩ = false := R1.frozen 2
    have q3 : w1.frozen? ⟨w.heap.size, 3, none⟩ = false := R1.frozen 3
    go_wp2
    have GG := (((((Only.refl [w.heap.size] w1).setCell ⟨w.heap.size, 0, none⟩ (.int .i64 0) (by simp)).setCell ⟨w.heap.size, 1, none⟩ (.int .i64 0) (by simp)).setCell ⟨w.heap.size, 2, none⟩ (.slice none 0 0) (by simp)).setCell ⟨w.heap.size, 3, none⟩ (.slice none 0 0) (by simp))
    exact bodyPost_ret (v := .tuple #[.agg #[.int .i64 0, .int .i64 0, .slice none 0 0, .slice none 0 0], .bool false]) (by simp [results, Try.results48, go_sem, r0, r1, r2, r3]) rfl ⟨none, 0, 0, none, 0, 0, rfl, OwnC.nil0 _ _ _ _ _, (Own.nil0 _ _ _).rd, foot_nil _ _, V1.trans (GG.below V1.size (by simp))⟩
  · have hg2 := hg
    simp only [Bool.and_eq_true] at hg2
    obtain ⟨⟨n1, n2⟩, d1, d2⟩ : (1 ≤ n ∧ n ≤ 8) ∧ 1 ≤ wd ∧ wd ≤ 4 := ⟨inB_true hg2.1, inB_true hg2.2⟩
    clear hg2
    obtain ⟨n, rfl⟩ : ∃ k : Nat, n = k := ⟨n.toNat, by omega⟩
    obtain ⟨wd, rfl⟩ : ∃ k : Nat, wd = k := ⟨wd.toNat, by omega⟩
    have hok := me_ok 1 n wd (by omega) (by omega) (by omega) (by omega)
    have eM : meMore 1 wd = 0 := by unfold meMore; simp
    have hmd : memB n wd = decide (n * wd ≤ 20) := by unfold memB; rw [hg, Bool.true_and]; rw [decide_eq_decide, ← Int.natCast_mul]; omega
    obtain ⟨v, hv⟩ : ∃ v, wid (n : Int) = v := ⟨_, rfl⟩
    rw [eM, hv, Int.natCast_add] at hok
    have HV := Lib.hid hv
    unfold mS0 mS1 mG mO
    rw [hmd]
    simp only [Int.toNat_natCast]
    rw [eM, hv]
    have e3 : ((n : Int) * (wd : Int)) = ((n * wd : Nat) : Int) := (Int.natCast_mul _ _).symm
    rw [e3]
    clear e3 hv eM hmd
    obtain ⟨p, hp⟩ : ∃ p, p = meG 1 n wd := ⟨_, rfl⟩
    rw [← hp] at hok ⊢
    have HP := Lib.hid hp
    clear hp
    obtain ⟨q, hq⟩ : ∃ q, q = n * wd := ⟨_, rfl⟩
    obtain ⟨i1, hi1⟩ : ∃ i1, i1 = (v : Int) + ((0 : Nat) : Int) := ⟨_, rfl⟩
    rw [← hq, ← hi1] at hok ⊢
    have HQ := Lib.hid hq
    have HI1 := Lib.hid hi1
    clear hq hi1
    by_cases hnw : q ≤ 20
    · rw [decide_eq_true hnw] at hok ⊢
      simp only [if_true]
      have HOK := Lib.hid hok
      clear hok hnw
      go_enter Try.func48, Try.ntmps48
      go_wp2_with fail
      generalize (w.alloc (.cells #[.int .i64 0, .int .i64 0, .slice none 0 0, .slice none 0 0] 25)) = w1 at *
      refine (meGood_any n wd _).mono ?_; rintro e w' ⟨rfl, rfl⟩
      rw [hg]
      go_wp2_with fail
      refine (l1In_any _ _ _ _).mono ?_; rintro e w' ⟨rfl, rfl⟩
      rw [show inB 1 0 3 = true from rfl]
      go_wp2_with fail
      refine (meTree_any n wd v _ ⟨by omega, by omega⟩ ⟨by omega, by omega⟩ HV.out).mono ?_; rintro e w2 ⟨ga, gn, gc, oa, on, oc, rfl, og, oo, dd, u2⟩
      rw [← HP.out] at og oo
      rw [← HQ.out, ← HI1.out]
      have V2 := V1.trans (u2.mono V1.size)
      have R2 := R1.below u2
      have Z2 := u2.size
      have hgn := og.len
      have HC : Hid (ciB (q : Int) i1 gn p.1 p.2 = true) := Lib.hid (by have := HOK.out; rw [hgn, Nat.mul_div_cancel _ (by decide)] at this; exact this)
      clear hgn V1 R1 u2
      go_wp2_with fail
      refine (ciIf_yes _ _ _ _ _ p.1 _ _ _ p.2 _ og.flat oo.ints HC.out).mono ?_; rintro e w3 ⟨rfl, u3⟩
      have V3 := V2.trans (u3.mono V2.size)
      have R3 := R2.below u3
      have og3 := og.below u3
      have oo3 := oo.below u3
      have Q1 := Lib.hid og3.feet
      have Q2 := Lib.hid oo3.feet
      clear V2 R2 og oo u3
      have r0 : w3.cell? ⟨w.heap.size, 0, none⟩ = some (.int .i64 0) := R3.cell 0
      have r1 : w3.cell? ⟨w.heap.size, 1, none⟩ = some (.int .i64 0) := R3.cell 1
      have r2 : w3.cell? ⟨w.heap.size, 2, none⟩ = some (.slice none 0 0) := R3.cell 2
      have r3 : w3.cell? ⟨w.heap.size, 3, none⟩ = some (.slice none 0 0) := R3.cell 3
      have q0 : w3.frozen? ⟨w.heap.size, 0, none⟩ = false := R3.frozen 0
      have q1 : w3.frozen? ⟨w.heap.size, 1, none⟩ = false := R3.frozen 1
      have q2 : w3.frozen? ⟨w.heap.size, 2, none⟩ = false := R3.frozen 2
      have q3 : w3.frozen? ⟨w.heap.size, 3, none⟩ = false := R3.frozen 3
      go_wp2
      have GG := (((((Only.refl [w.heap.size] w3).setCell ⟨w.heap.size, 0, none⟩ (.int .i64 (q : Int)) (by simp)).setCell ⟨w.heap.size, 1, none⟩ (.int .i64 i1) (by simp)).setCell ⟨w.heap.size, 2, none⟩ (.slice ga gn gc) (by simp)).setCell ⟨w.heap.size, 3, none⟩ (.slice oa on oc) (by simp))
      exact bodyPost_ret (v := .tuple #[.agg #[.int .i64 (q : Int), .int .i64 i1, .slice ga gn gc, .slice oa on oc], .bool true]) (by simp [results, Try.results48, go_sem, r0, r1, r2, r3]) rfl ⟨ga, gn, gc, oa, on, oc, rfl, (og3.only GG (fun k hk hk' => by have := Q1.out k hk; simp at hk'; omega)).lower (by omega), (oo3.only GG (fun k hk hk' => by have := Q2.out k hk; simp at hk'; omega)).lower (by omega), dd, V3.trans (GG.below V3.size (by simp))⟩
    · rw [decide_eq_false hnw] at hok ⊢
      simp only [Bool.false_eq_true, if_false]
      have HOK := Lib.hid hok
      clear hok hnw
      go_enter Try.func48, Try.ntmps48
      go_wp2_with fail
      generalize (w.alloc (.cells #[.int .i64 0, .int .i64 0, .slice none 0 0, .slice none 0 0] 25)) = w1 at *
      refine (meGood_any n wd _).mono ?_; rintro e w' ⟨rfl, rfl⟩
      rw [hg]
      go_wp2_with fail
      refine (l1In_any _ _ _ _).mono ?_; rintro e w' ⟨rfl, rfl⟩
      rw [show inB 1 0 3 = true from rfl]
      go_wp2_with fail
      refine (meTree_any n wd v _ ⟨by omega, by omega⟩ ⟨by omega, by omega⟩ HV.out).mono ?_; rintro e w2 ⟨ga, gn, gc, oa, on, oc, rfl, og, oo, dd, u2⟩
      rw [← HP.out] at og oo
      rw [← HQ.out, ← HI1.out]
      have V2 := V1.trans (u2.mono V1.size)
      have R2 := R1.below u2
      have Z2 := u2.size
      have hgn := og.len
      have HC : Hid (ciB (q : Int) i1 gn p.1 p.2 = false) := Lib.hid (by have := HOK.out; rw [hgn, Nat.mul_div_cancel _ (by decide)] at this; exact this)
      clear hgn V1 R1 u2
      go_wp2_with fail
      refine (ciIf_no _ _ _ _ _ p.1 _ _ _ p.2 _ og.flat oo.ints HC.out).mono ?_; rintro e w3 ⟨rfl, u3⟩
      have V3 := V2.trans (u3.mono V2.size)
      have R3 := R2.below u3
      clear V2 R2 og oo u3
      have r0 : w3.cell? ⟨w.heap.size, 0, none⟩ = some (.int .i64 0) := R3.cell 0
      have r1 : w3.cell? ⟨w.heap.size, 1, none⟩ = some (.int .i64 0) := R3.cell 1
      have r2 : w3.cell? ⟨w.heap.size, 2, none⟩ = some (.slice none 0 0) := R3.cell 2
      have r3 : w3.cell? ⟨w.heap.size, 3, none⟩ = some (.slice none 0 0) := R3.cell 3
      have q0 : w3.frozen? ⟨w.heap.size, 0, none⟩ = false := R3.frozen 0
      have q1 : w3.frozen? ⟨w.heap.size, 1, none⟩ = false := R3.frozen 1
      have q2 : w3.frozen? ⟨w.heap.size, 2, none⟩ = false := R3.frozen 2
      have q3 : w3.frozen? ⟨w.heap.size, 3, none⟩ = false := R3.frozen 3
      go_wp2
      have GG := (((((Only.refl [w.heap.size] w3).setCell ⟨w.heap.size, 0, none⟩ (.int .i64 0) (by simp)).setCell ⟨w.heap.size, 1, none⟩ (.int .i64 0) (by simp)).setCell ⟨w.heap.size, 2, none⟩ (.slice none 0 0) (by simp)).setCell ⟨w.heap.size, 3, none⟩ (.slice none 0 0) (by simp))
      exact bodyPost_ret (v := .tuple #[.agg #[.int .i64 0, .int .i64 0, .slice none 0 0, .slice none 0 0], .bool false]) (by simp [results, Try.results48, go_sem, r0, r1, r2, r3]) rfl ⟨none, 0, 0, none, 0, 0, rfl, OwnC.nil0 _ _ _ _ _, (Own.nil0 _ _ _).rd, foot_nil _ _, V3.trans (GG.below V3.size (by simp))⟩
end Go.Proofs.Ytkbhigdciokfkaa
namespace Go.Proofs.Ytkbhigdciokfkaa
open Go.RowKit
set_option maxHeartbeats 8000000 in
set_option maxRecDepth 100000 in
theorem ReadCell_0_any (wd : Int) (a : Option Addr) (n c : Nat) (l : List Int) (i : Int) (w : World) (h : Ints w a n c l) :
    Calls Try.prog 39 #[.bool false, .int .i64 wd, .slice a n c, .int .i64 i] w fun e w' => e = .returned (.tuple #[.int .i64 (rcV 0 wd l i), .bool (celB wd l i)]) ∧ Below w.heap.size w w' := by
  have hlen := h.len
  have hle := h.le
  cases hc : celB wd l i
  · have HC := Lib.hid hc
    have e1 : rcV 0 wd l i = 0 := by unfold rcV; rw [hc]; rfl
    rw [e1]
    clear hc e1 hlen
    go_enter Try.func39, Try.ntmps39
    go_wp2_with fail
    refine (areCells_any wd a n c l i _ h).mono ?_; rintro e w1 ⟨rfl, V1⟩; rw [HC.out]
    go_wp2
    go_ret2
    exact ⟨rfl, V1⟩
  · have hc2 := hc
    unfold celB at hc2
    rw [Bool.and_eq_true] at hc2
    obtain ⟨hm, hT⟩ := hc2
    rw [← hlen] at hm
    obtain ⟨⟨n1, n8⟩, ⟨w1', w4'⟩, _⟩ := memB_true hm
    obtain ⟨wd, rfl⟩ : ∃ k : Nat, wd = k := ⟨wd.toNat, by omega⟩
    obtain ⟨hl, hi⟩ := celT_true (wd := wd) (by omega) (by omega) hT
    have e1 : rcV 0 wd l i = (mrR 0 n wd l i []).getD 0 0 := by unfold rcV; rw [hc, if_pos rfl, hlen]; rfl
    rw [e1]
    clear e1
    have HC := Lib.hid hc
    have hw3 := wid8 n (by omega)
    have hNI := mrNI_le 0 n wd (by omega) (by omega)
    have hGA := mr_gates 0 n wd hm
    have hOU := mr_outs 0 n wd hm
    have hGL : mG 0 n wd = (meG 0 n wd).1 := by unfold mG; rw [if_pos hm]; rfl
    have hOL : mO 0 n wd = (meG 0 n wd).2 := by unfold mO; rw [if_pos hm]; rfl
    have hON := meO_len 0 n wd (by omega) (by omega)
    have hG3 := (m_len 0 n wd).1
    rw [hGL] at hG3
    have hQ : mrNI 0 n wd = n * wd + wid (n : Int) := by unfold mrNI meMore; simp
    rw [hQ] at hGA hOU hNI
    clear hQ
    have hM8 : meN 0 n ≤ 8 ∧ 1 ≤ meN 0 n := by unfold meN; split <;> omega
    obtain ⟨RS, hRS⟩ : ∃ r, r = mrR 0 n wd l i ([]) := ⟨_, rfl⟩
    rw [← hRS]
    have HR := Lib.hid (show RS = cnL (pkL (evL (meG 0 n wd).1 (cbL l wd n ++ (btL i (wid (n : Int)))) ((meG 0 n wd).1.length / 3)) (meG 0 n wd).2 (meN 0 n * wd)) wd (meN 0 n) from by rw [hRS]; unfold mrR mrO mrV; rw [List.append_nil])
    clear hRS
    have HBW : Hid (Bt (btL i (wid (n : Int)))) := Lib.hid (btL_bits _ _)
    have HM := Lib.hid hm
    have HL := Lib.hid hl
    have HI := Lib.hid hi
    clear hm hc hT hl hi hlen
    obtain ⟨V, hV⟩ : ∃ V, V = wid (n : Int) := ⟨_, rfl⟩
    rw [← hV] at hw3 HR HBW hGA hOU hNI
    have HV := Lib.hid hV
    clear hV
    replace hGA := Lib.hid hGA
    replace hOU := Lib.hid hOU
    obtain ⟨m, hmN⟩ : ∃ m, m = meN 0 n := ⟨_, rfl⟩
    rw [← hmN] at hON hM8 HR
    have HMN := Lib.hid hmN
    clear hmN
    obtain ⟨mw, hmw⟩ : ∃ mw, mw = m * wd := ⟨_, rfl⟩
    rw [← hmw] at hON HR
    have HMW := Lib.hid hmw
    clear hmw
    have hwd1 : 1 ≤ wd := by omega
    have hwd4 : wd ≤ 4 := by omega
    have hn1 : (1 : Int) ≤ n := by omega
    have hn256 : (n : Int) ≤ 256 := by omega
    have hM1 := hM8.1
    have hM2 := hM8.2
    clear hM8
    have hM0 : (0 : Int) < (m : Int) := by omega
    obtain ⟨res, hres⟩ : ∃ r, r = RS.getD 0 0 := ⟨_, rfl⟩
    rw [← hres]
    have HRES := Lib.hid hres
    clear hres
    go_enter Try.func39, Try.ntmps39
    go_wp2_with fail
    refine (areCells_any wd a n c l i _ h).mono ?_; rintro e w1 ⟨rfl, V1⟩; rw [HC.out]
    go_wp2_with fail
    refine (ScanReadCircuit_any n wd _).mono ?_; rintro e w2 ⟨ga, gn, gc, oa, on, oc, rfl, og, ro, dd, u2⟩
    rw [HM.out]
    rw [hGL] at og
    rw [hOL] at ro
    clear dd hGL hOL
    generalize mS0 n wd = s0 at *
    generalize mS1 0 n wd = s1 at *
    generalize (meG 0 n wd).1 = G at *
    generalize (meG 0 n wd).2 = O at *
    have V2 := V1.trans (u2.mono V1.size)
    have Z2 := V2.size
    have VV := V2.alloc V2.size (.cells #[.int .i64 s0, .int .i64 s1, .slice ga gn gc, .slice oa on oc] 25)
    have R : Blk (w2.alloc (.cells #[.int .i64 s0, .int .i64 s1, .slice ga gn gc, .slice oa on oc] 25)) w2.heap.size 25 #[.int .i64 s0, .int .i64 s1, .slice ga gn gc, .slice oa on oc] := Blk.new w2 _ _
    have og2 := og.flat.below ((Below.refl w2.heap.size w2).alloc (Nat.le_refl _) (.cells #[.int .i64 s0, .int .i64 s1, .slice ga gn gc, .slice oa on oc] 25))
    have ro2 := ro.ints.below ((Below.refl w2.heap.size w2).alloc (Nat.le_refl _) (.cells #[.int .i64 s0, .int .i64 s1, .slice ga gn gc, .slice oa on oc] 25))
    have hon := ro.len
    have hgn := og.len
    clear u2 V1 V2 og ro
    have hon2 : on = mw := by rw [hon, hON]
    subst hon2
    have HGN : Hid (gn = G.length / 3) := Lib.hid (by omega)
    clear hon hgn hON
    go_wp2_with fail
    generalize (w2.alloc (.cells #[.int .i64 s0, .int .i64 s1, .slice ga gn gc, .slice oa on oc] 25)) = w9 at *
    have h9 := h.below VV
    have hz9 := VV.size
    have x0 : w9.cell? ⟨w2.heap.size, 0, none⟩ = some (.int .i64 s0) := R.cell 0
    have x1 : w9.cell? ⟨w2.heap.size, 1, none⟩ = some (.int .i64 s1) := R.cell 1
    have x2 : w9.cell? ⟨w2.heap.size, 2, none⟩ = some (.slice ga gn gc) := R.cell 2
    have x3 : w9.cell? ⟨w2.heap.size, 3, none⟩ = some (.slice oa on oc) := R.cell 3
    clear R h
    go_region_with (first | (go_at_call 81; refine (indexWidth_any n _ hn1 hn256).mono ?_; rintro e w' ⟨rfl, rfl⟩; rw [← HV.out]) | (go_at_call 73; refine (bitsOf_any i V _ HI.out (by omega)).mono ?_; rintro e w10 ⟨a10, c10, rfl, o10, u10⟩; have y0 := keepC u10 x0; have y1 := keepC u10 x1; have y2 := keepC u10 x2; have y3 := keepC u10 x3) | (go_at_call 80; refine (runMemory_any s0 s1 ga gn gc oa on oc wd a n c a10 V c10 G O l (btL i V) m _ (og2.drew.below u10) (ro2.drew.below u10) (h9.drew.below u10) (o10.ints) (by rw [HGN.out]; exact hGA.out) (by rw [HGN.out]; exact hOU.out) HBW.out HL.out (by omega) ⟨hwd1, hwd4⟩ (by omega) (by have := HGN.out; omega) (by omega) HMW.out).mono ?_; rintro e w13 ⟨a13, c13, rfl, o13, u13⟩; rw [HGN.out, ← HR.out] at o13; obtain ⟨g13, p13, rfl, cx⟩ := o13.ints.at 0 (by omega); rw [Nat.add_zero, ← HRES.out] at cx))
    all_goals
      have U := (Below.refl w9.heap.size w9).drew.trans (u10.trans (u13.mono u10.size))
      have VF := VV.trans (U.mono VV.size)
      clear u10 o10 u13 o13 U VV
      go_wp2
      go_ret2
      exact ⟨rfl, VF⟩
set_option maxHeartbeats 8000000 in
set_option maxRecDepth 100000 in
theorem ReadCell_1_any (wd : Int) (a : Option Addr) (n c : Nat) (l : List Int) (i : Int) (w : World) (h : Ints w a n c l) :
    Calls Try.prog 39 #[.bool true, .int .i64 wd, .slice a n c, .int .i64 i] w fun e w' => e = .returned (.tuple #[.int .i64 (rcV 1 wd l i), .bool (celB wd l i)]) ∧ Below w.heap.size w w' := by
  have hlen := h.len
  have hle := h.le
  cases hc : celB wd l i
  · have HC := Lib.hid hc
    have e1 : rcV 1 wd l i = 0 := by unfold rcV; rw [hc]; rfl
    rw [e1]
    clear hc e1 hlen
    go_enter Try.func39, Try.ntmps39
    go_wp2_with fail
    refine (areCells_any wd a n c l i _ h).mono ?_; rintro e w1 ⟨rfl, V1⟩; rw [HC.out]
    go_wp2
    go_ret2
    exact ⟨rfl, V1⟩
  · have hc2 := hc
    unfold celB at hc2
    rw [Bool.and_eq_true] at hc2
    obtain ⟨hm, hT⟩ := hc2
    rw [← hlen] at hm
    obtain ⟨⟨n1, n8⟩, ⟨w1', w4'⟩, _⟩ := memB_true hm
    obtain ⟨wd, rfl⟩ : ∃ k : Nat, wd = k := ⟨wd.toNat, by omega⟩
    obtain ⟨hl, hi⟩ := celT_true (wd := wd) (by omega) (by omega) hT
    have e1 : rcV 1 wd l i = (mrR 1 n wd l i []).getD 0 0 := by unfold rcV; rw [hc, if_pos rfl, hlen]; rfl
    rw [e1]
    clear e1
    have HC := Lib.hid hc
    have hw3 := wid8 n (by omega)
    have hNI := mrNI_le 1 n wd (by omega) (by omega)
    have hGA := mr_gates 1 n wd hm
    have hOU := mr_outs 1 n wd hm
    have hGL : mG 1 n wd = (meG 1 n wd).1 := by unfold mG; rw [if_pos hm]; rfl
    have hOL : mO 1 n wd = (meG 1 n wd).2 := by unfold mO; rw [if_pos hm]; rfl
    have hON := meO_len 1 n wd (by omega) (by omega)
    have hG3 := (m_len 1 n wd).1
    rw [hGL] at hG3
    have hQ : mrNI 1 n wd = n * wd + wid (n : Int) := by unfold mrNI meMore; simp
    rw [hQ] at hGA hOU hNI
    clear hQ
    have hM8 : meN 1 n ≤ 8 ∧ 1 ≤ meN 1 n := by unfold meN; split <;> omega
    obtain ⟨RS, hRS⟩ : ∃ r, r = mrR 1 n wd l i ([]) := ⟨_, rfl⟩
    rw [← hRS]
    have HR := Lib.hid (show RS = cnL (pkL (evL (meG 1 n wd).1 (cbL l wd n ++ (btL i (wid (n : Int)))) ((meG 1 n wd).1.length / 3)) (meG 1 n wd).2 (meN 1 n * wd)) wd (meN 1 n) from by rw [hRS]; unfold mrR mrO mrV; rw [List.append_nil])
    clear hRS
    have HBW : Hid (Bt (btL i (wid (n : Int)))) := Lib.hid (btL_bits _ _)
    have HM := Lib.hid hm
    have HL := Lib.hid hl
    have HI := Lib.hid hi
    clear hm hc hT hl hi hlen
    obtain ⟨V, hV⟩ : ∃ V, V = wid (n : Int) := ⟨_, rfl⟩
    rw [← hV] at hw3 HR HBW hGA hOU hNI
    have HV := Lib.hid hV
    clear hV
    replace hGA := Lib.hid hGA
    replace hOU := Lib.hid hOU
    obtain ⟨m, hmN⟩ : ∃ m, m = meN 1 n := ⟨_, rfl⟩
    rw [← hmN] at hON hM8 HR
    have HMN := Lib.hid hmN
    clear hmN
    obtain ⟨mw, hmw⟩ : ∃ mw, mw = m * wd := ⟨_, rfl⟩
    rw [← hmw] at hON HR
    have HMW := Lib.hid hmw
    clear hmw
    have hwd1 : 1 ≤ wd := by omega
    have hwd4 : wd ≤ 4 := by omega
    have hn1 : (1 : Int) ≤ n := by omega
    have hn256 : (n : Int) ≤ 256 := by omega
    have hM1 := hM8.1
    have hM2 := hM8.2
    clear hM8
    have hM0 : (0 : Int) < (m : Int) := by omega
    obtain ⟨res, hres⟩ : ∃ r, r = RS.getD 0 0 := ⟨_, rfl⟩
    rw [← hres]
    have HRES := Lib.hid hres
    clear hres
    go_enter Try.func39, Try.ntmps39
    go_wp2_with fail
    refine (areCells_any wd a n c l i _ h).mono ?_; rintro e w1 ⟨rfl, V1⟩; rw [HC.out]
    go_wp2_with fail
    refine (ScanReadCircuit_any n wd _).mono ?_; rintro e w2 ⟨ha, hn, hc, pa, pn, pc, rfl, oh, op, dh, u2⟩
    rw [HM.out]
    clear oh op dh
    generalize mS0 n wd = z0 at *
    generalize mS1 0 n wd = z1 at *
    have V2 := V1.trans (u2.mono V1.size)
    have V3 := V2.alloc V2.size (.cells #[.int .i64 z0, .int .i64 z1, .slice ha hn hc, .slice pa pn pc] 25)
    have R3 : Blk (w2.alloc (.cells #[.int .i64 z0, .int .i64 z1, .slice ha hn hc, .slice pa pn pc] 25)) w2.heap.size 25 #[.int .i64 z0, .int .i64 z1, .slice ha hn hc, .slice pa pn pc] := Blk.new w2 _ _
    have Z3 : w2.heap.size < (w2.alloc (.cells #[.int .i64 z0, .int .i64 z1, .slice ha hn hc, .slice pa pn pc] 25)).heap.size := by simp
    have Z2 := V2.size
    clear u2 V1 V2
    go_wp2_with fail
    generalize (w2.alloc (.cells #[.int .i64 z0, .int .i64 z1, .slice ha hn hc, .slice pa pn pc] 25)) = w3 at *
    refine (TreeReadCircuit_any n wd _).mono ?_; rintro e w4 ⟨ga, gn, gc, oa, on, oc, rfl, og, ro, dd, u4⟩
    rw [HM.out]
    rw [hGL] at og
    rw [hOL] at ro
    clear dd hGL hOL
    generalize mS0 n wd = s0 at *
    generalize mS1 1 n wd = s1 at *
    generalize (meG 1 n wd).1 = G at *
    generalize (meG 1 n wd).2 = O at *
    have V4 := V3.trans (u4.mono V3.size)
    have R4 := R3.below u4
    have Q1 := Lib.hid og.feet
    have Q2 := Lib.hid ro.feet
    clear u4 R3 V3
    have r0 : w4.cell? ⟨w2.heap.size, 0, none⟩ = some (.int .i64 z0) := R4.cell 0
    have q0 : w4.frozen? ⟨w2.heap.size, 0, none⟩ = false := R4.frozen 0
    have r1 : w4.cell? ⟨w2.heap.size, 1, none⟩ = some (.int .i64 z1) := R4.cell 1
    have q1 : w4.frozen? ⟨w2.heap.size, 1, none⟩ = false := R4.frozen 1
    have r2 : w4.cell? ⟨w2.heap.size, 2, none⟩ = some (.slice ha hn hc) := R4.cell 2
    have q2 : w4.frozen? ⟨w2.heap.size, 2, none⟩ = false := R4.frozen 2
    have r3 : w4.cell? ⟨w2.heap.size, 3, none⟩ = some (.slice pa pn pc) := R4.cell 3
    have q3 : w4.frozen? ⟨w2.heap.size, 3, none⟩ = false := R4.frozen 3
    have GG := (((((Only.refl [w2.heap.size] w4).setCell ⟨w2.heap.size, 0, none⟩ (.int .i64 s0) (by simp)).setCell ⟨w2.heap.size, 1, none⟩ (.int .i64 s1) (by simp)).setCell ⟨w2.heap.size, 2, none⟩ (.slice ga gn gc) (by simp)).setCell ⟨w2.heap.size, 3, none⟩ (.slice oa on oc) (by simp))
    have R5 : Blk ((((w4.setCell ⟨w2.heap.size, 0, none⟩ (.int .i64 s0)).setCell ⟨w2.heap.size, 1, none⟩ (.int .i64 s1)).setCell ⟨w2.heap.size, 2, none⟩ (.slice ga gn gc)).setCell ⟨w2.heap.size, 3, none⟩ (.slice oa on oc)) w2.heap.size 25 #[.int .i64 s0, .int .i64 s1, .slice ga gn gc, .slice oa on oc] := by have := ((((R4.set_ 0 (.int .i64 s0)).set_ 1 (.int .i64 s1)).set_ 2 (.slice ga gn gc)).set_ 3 (.slice oa on oc)); simpa using this
    have og2 := Lib.hid (OwnF.only og GG (fun k hk hk' => by have := Q1.out k hk; simp at hk'; omega)).flat
    have ro2 := Lib.hid (ro.only GG (fun k hk hk' => by have := Q2.out k hk; simp at hk'; omega)).ints
    have V5 := Lib.hid (V4.trans (GG.below V4.size (by simp; exact Z2)))
    have RR := Lib.hid R5
    have hon := Lib.hid ro.len
    have hgn := Lib.hid og.len
    have HON := Lib.hid hON
    clear hON
    clear og ro GG R4 R5 V4 Q1 Q2
    go_wp2_with fail
    have R := RR.out
    have VV := V5.out
    replace og2 := og2.out
    replace ro2 := ro2.out
    replace hon := hon.out
    replace hgn := hgn.out
    have hON := HON.out
    clear HON
    clear RR V5 r0 r1 r2 r3 q0 q1 q2 q3 Z3
    generalize ((((w4.setCell ⟨w2.heap.size, 0, none⟩ (.int .i64 s0)).setCell ⟨w2.heap.size, 1, none⟩ (.int .i64 s1)).setCell ⟨w2.heap.size, 2, none⟩ (.slice ga gn gc)).setCell ⟨w2.heap.size, 3, none⟩ (.slice oa on oc)) = w9 at *
    have hon2 : on = mw := by rw [hon, hON]
    subst hon2
    have HGN : Hid (gn = G.length / 3) := Lib.hid (by omega)
    clear hon hgn hON
    have h9 := h.below VV
    have hz9 := VV.size
    have x0 : w9.cell? ⟨w2.heap.size, 0, none⟩ = some (.int .i64 s0) := R.cell 0
    have x1 : w9.cell? ⟨w2.heap.size, 1, none⟩ = some (.int .i64 s1) := R.cell 1
    have x2 : w9.cell? ⟨w2.heap.size, 2, none⟩ = some (.slice ga gn gc) := R.cell 2
    have x3 : w9.cell? ⟨w2.heap.size, 3, none⟩ = some (.slice oa on oc) := R.cell 3
    clear R h
    go_region_with (first | (go_at_call 81; refine (indexWidth_any n _ hn1 hn256).mono ?_; rintro e w' ⟨rfl, rfl⟩; rw [← HV.out]) | (go_at_call 73; refine (bitsOf_any i V _ HI.out (by omega)).mono ?_; rintro e w10 ⟨a10, c10, rfl, o10, u10⟩; have y0 := keepC u10 x0; have y1 := keepC u10 x1; have y2 := keepC u10 x2; have y3 := keepC u10 x3) | (go_at_call 80; refine (runMemory_any s0 s1 ga gn gc oa on oc wd a n c a10 V c10 G O l (btL i V) m _ (og2.drew.below u10) (ro2.drew.below u10) (h9.drew.below u10) (o10.ints) (by rw [HGN.out]; exact hGA.out) (by rw [HGN.out]; exact hOU.out) HBW.out HL.out (by omega) ⟨hwd1, hwd4⟩ (by omega) (by have := HGN.out; omega) (by omega) HMW.out).mono ?_; rintro e w13 ⟨a13, c13, rfl, o13, u13⟩; rw [HGN.out, ← HR.out] at o13; obtain ⟨g13, p13, rfl, cx⟩ := o13.ints.at 0 (by omega); rw [Nat.add_zero, ← HRES.out] at cx))
    all_goals
      have U := (Below.refl w9.heap.size w9).drew.trans (u10.trans (u13.mono u10.size))
      have VF := VV.trans (U.mono VV.size)
      clear u10 o10 u13 o13 U VV
      go_wp2
      go_ret2
      exact ⟨rfl, VF⟩
end Go.Proofs.Ytkbhigdciokfkaa
