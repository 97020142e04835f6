/- Further lemmas and walks that the claim's proof rests on, part 1. -/
import Derived.ArgAppend
import Derived.Deep.DeepCutAuto
import Derived.Deep.RegionLaw
import Derived.Test.YtkbhigdciokfkaaK1
import Derived.Test.YtkbhigdciokfkaaK2
import Derived.Test.YtkbhigdciokfkaaK3
import Derived.Test.YtkbhigdciokfkaaK4
import Derived.Test.YtkbhigdciokfkaaK5
import Derived.Test.YtkbhigdciokfkaaK6
import Derived.Test.YtkbhigdciokfkaaK7
namespace Go.Proofs.Ytkbhigdciokfkaa
open Go.RowKit
/-- The same inside a region that draws its order. -/
theorem step_appJ (w : World) {ops : Array Oper} {o : Oper} {act : Act} {K : Act → World → Prop} {Q : Exit → Act → World → Prop} {E : Prop} (hgd : o.guard = none) (s x : Operand)
    (ho : o.op = .call { callee := .builtin .append, args := #[s, x], argTypes := #[23, 23] })
    (b : Nat) (a : Option Addr) (n c : Nat) (l : List Int) (hs : act.eval s = .slice a n c) (hown : Own w b a n c l)
    (a' : Option Addr) (m c' : Nat) (l' : List Int) (hx : act.eval x = .slice a' m c') (hrow : Ints w a' m c' l')
    (hlen : n + m ≤ 1000000000000) (hbase : b ≤ w.heap.size)
    (h : ∀ a2 c2 w', Own w' b a2 (n + m) c2 (l ++ l') → Below b w w' → w.grownBy w' (rowOf a c) → Ints w' a n c l → Moved w a c a2 c2 → K (act.put o.dst (.slice a2 (n + m) c2)) w') :
    if Region.wanted o (yielded ops act.tmps) = true then Oper.wp Try.prog o act w K Q else E := by
  rw [if_pos (by simp [Region.wanted, hgd])]
  exact wp_appJ w s x ho b a n c l hs hown a' m c' l' hx hrow hlen hbase h
end Go.Proofs.Ytkbhigdciokfkaa
namespace Go.Proofs.Ytkbhigdciokfkaa
open Go.RowKit
set_option maxHeartbeats 4000000 in
theorem not_any (ka : Int) {oa : Option Addr} {on oc : Nat} (b g : Nat) (i0 i1 : Int) (G : List Int) (F : List Nat) (w : World) (h : Mk 81 w b g i0 i1 G F oa on oc) (hb : b ≤ w.heap.size) (h0 : 0 ≤ i0 ∧ i0 ≤ 1000) (h1 : 0 ≤ i1 ∧ i1 ≤ 1000) (hl : G.length ≤ 30000) :
    Calls Try.prog 100 #[.pointer (some ⟨g, 0, none⟩), .int .i64 ka] w fun e w' => e = .returned (.int .i64 (gW (i0 + i1) G)) ∧ ∃ F', Mk 81 w' b g i0 i1 (gt G 2 ka 0) F' oa on oc ∧ Stp F w F' w' := by
  go_enter Try.func100, Try.ntmps100
  go_wp2_with fail
  refine (gate_any 2 ka 0 b g i0 i1 G F _ h hb h0 h1 hl).mono ?_; rintro e w1 ⟨rfl, F1, m1, s1⟩
  go_wp2
  go_ret
  exact ⟨rfl, F1, m1, s1⟩
set_option maxHeartbeats 4000000 in
theorem snot_any (ka : Int) {oa : Option Addr} {on oc : Nat} (b g : Nat) (i0 i1 : Int) (G : List Int) (F : List Nat) (w : World) (h : Mk 79 w b g i0 i1 G F oa on oc) (hb : b ≤ w.heap.size) (h0 : 0 ≤ i0 ∧ i0 ≤ 1000) (h1 : 0 ≤ i1 ∧ i1 ≤ 1000) (hl : G.length ≤ 30000) :
    Calls Try.prog 127 #[.pointer (some ⟨g, 0, none⟩), .int .i64 ka] w fun e w' => e = .returned (.int .i64 (gW (i0 + i1) G)) ∧ ∃ F', Mk 79 w' b g i0 i1 (gt G 2 ka 0) F' oa on oc ∧ Stp F w F' w' := by
  go_enter Try.func127, Try.ntmps127
  go_wp2_with fail
  refine (sgate_any 2 ka 0 b g i0 i1 G F _ h hb h0 h1 hl).mono ?_; rintro e w1 ⟨rfl, F1, m1, s1⟩
  go_wp2
  go_ret
  exact ⟨rfl, F1, m1, s1⟩
set_option maxHeartbeats 4000000 in
theorem sone_any {oa : Option Addr} {on oc : Nat} (b g : Nat) (i0 i1 : Int) (G : List Int) (F : List Nat) (w : World) (h : Mk 79 w b g i0 i1 G F oa on oc) (hb : b ≤ w.heap.size) (h0 : 0 ≤ i0 ∧ i0 ≤ 1000) (h1 : 0 ≤ i1 ∧ i1 ≤ 1000) (hl : G.length ≤ 30000) :
    Calls Try.prog 128 #[.pointer (some ⟨g, 0, none⟩)] w fun e w' => e = .returned (.int .i64 (gW (i0 + i1) G)) ∧ ∃ F', Mk 79 w' b g i0 i1 (gt G 3 0 0) F' oa on oc ∧ Stp F w F' w' := by
  go_enter Try.func128, Try.ntmps128
  go_wp2_with fail
  refine (sgate_any 3 0 0 b g i0 i1 G F _ h hb h0 h1 hl).mono ?_; rintro e w1 ⟨rfl, F1, m1, s1⟩
  go_wp2
  go_ret
  exact ⟨rfl, F1, m1, s1⟩
end Go.Proofs.Ytkbhigdciokfkaa
namespace Go.Proofs.Ytkbhigdciokfkaa
open Go.RowKit
theorem set_mid (l r : List Int) (k : Nat) (x : Int) (hl : l.length = k) (hk : k < r.length) : (l ++ r.drop k).set k x = l ++ [x] ++ r.drop (k + 1) := by
  subst hl
  rw [List.set_append_right _ _ (Nat.le_refl _), Nat.sub_self, List.drop_eq_getElem_cons hk, List.set_cons_zero, List.append_assoc]
  rfl
theorem keep_mid (l r : List Int) (k : Nat) (hk : k < r.length) : l ++ r.drop k = l ++ [r.getD k 0] ++ r.drop (k + 1) := by
  rw [List.drop_eq_getElem_cons hk, List.append_assoc]
  simp [List.getD, hk]
theorem Own.cellT {w b g n c l} (h : Own w b (some ⟨g, 0, none⟩) n c l) (j : Nat) (hj : j + 1 < n) : w.cell? ⟨g, 1 + j, none⟩ = some (.int .i64 (l.getD (j + 1) 0)) := by
  have := h.ints.cellsAt (j + 1) hj
  rw [Nat.zero_add, show j + 1 = 1 + j from Nat.add_comm _ _] at this
  rw [Nat.add_comm j 1]
  exact this
set_option maxHeartbeats 8000000 in
set_option maxRecDepth 100000 in
theorem match_any (i : Int) (ia : Option Addr) (v ic : Nat) (I : List Int) {oa : Option Addr} {on oc : Nat} (b g : Nat) (i0 i1 : Int) (G : List Int) (F : List Nat) (w : World) (h : Mk 81 w b g i0 i1 G F oa on oc) (hb : b ≤ w.heap.size) (h0 : 0 ≤ i0 ∧ i0 ≤ 1000) (h1 : 0 ≤ i1 ∧ i1 ≤ 1000) (dx : IntD w ia v ic I F) (hi : 0 ≤ i ∧ i ≤ 1000) (hv : v ≤ 50) (hl : G.length ≤ 20000) :
    Calls Try.prog 56 #[.pointer (some ⟨g, 0, none⟩), .slice ia v ic, .int .i64 i] w fun e w' => e = .returned (.int .i64 (maG (i0 + i1) i I G).2) ∧ ∃ F', Mk 81 w' b g i0 i1 (maG (i0 + i1) i I G).1 F' oa on oc ∧ Stp F w F' w' := by
  have HI := Lib.hid dx.ints.len
  have hle := dx.ints.le
  go_enter Try.func56, Try.ntmps56
  go_wp2_with fail
  refine (Clone_any _ _ _ I _ dx.ints (by omega)).mono ?_; rintro e w1 ⟨a1, c1, rfl, o1, u1⟩
  have M1 := h.below u1
  have S1 : Stp F w F w1 := (Stp.refl _ _).below u1
  have d1 : Disj (foot a1 c1) F := Disj.of_rng o1.feet h.feet (.inr (Nat.le_refl _))
  clear u1
  go_wp2
  go_loopw [17] (fun u wr => ∃ k F1, k ≤ v ∧ u = .int .i64 (k : Nat) ∧ Own wr w.heap.size a1 v c1 ((mnG (i0 + i1) i I G k).2 ++ I.drop k) ∧ Disj (foot a1 c1) F1 ∧ Mk 81 wr b g i0 i1 (mnG (i0 + i1) i I G k).1 F1 oa on oc ∧ Stp F w F1 wr) (fun u _ => v - (intOf u).toNat)
  case atStart => exact ⟨0, F, Nat.zero_le _, rfl, o1, d1, M1, S1⟩
  case round =>
    obtain ⟨k, F1, hk, rfl, own, dd, M2, S2⟩ := hrel
    clear o1 d1 M1 S1
    by_cases hlt : k < v
    · have hG := mnG_len (i0 + i1) i I G k
      have HS0 := mnG_succ (i0 + i1) i I G k
      obtain ⟨gx, ox, hgx, _⟩ := dx.ints.at k hlt
      subst hgx
      have cx := (dx.stp S2).ints.cellsAt k hlt
      have hkI : k < I.length := by rw [← HI.out]; exact hlt
      have HK := Lib.hid (keep_mid (mnG (i0 + i1) i I G k).2 I k hkI)
      have HT := fun x => set_mid (mnG (i0 + i1) i I G k).2 I k x hG.2 hkI
      obtain ⟨x, ex⟩ : ∃ x, x = I.getD k 0 := ⟨_, rfl⟩
      rw [← ex] at HS0 cx HK
      clear ex
      obtain ⟨⟨G1, o1⟩, hr⟩ : ∃ r, r = (mnG (i0 + i1) i I G k) := ⟨_, rfl⟩
      rw [← hr] at HS0 hG M2 own HK HT
      clear hr
      simp only at hG M2 own HK HT
      have t2 : IntKind.u64.wrap (k : Int) = (k : Int) := IntWalk.u64_in _ (by omega)
      obtain ⟨r0, r1⟩ := shr_rng i k (by omega) (by omega)
      have t3 : bits BinOp.and IntKind.i64 (i / 2 ^ k) 1 = i / 2 ^ k % 2 := and_one_i64 _ (by omega) (by omega)
      by_cases hb : i / 2 ^ k % 2 = 1
      · unfold mnS at HS0
        rw [if_pos hb] at HS0
        have HS := Lib.hid HS0
        clear HS0 HT
        have t4 : ((bits BinOp.and IntKind.i64 (i / 2 ^ k) 1 == 0) : Bool) = false := by rw [t3, hb]; rfl
        clear hb t3
        go_wp2
        go_roundw
        case rel => exact ⟨k + 1, F1, by omega, by go_num, by rw [HS.out, ← HK.out]; exact own, dd, by rw [HS.out]; exact M2, S2⟩
        case measure => simp [intOf]; omega
      · have hb0 : i / 2 ^ k % 2 = 0 := by omega
        unfold mnS at HS0
        rw [if_neg hb] at HS0
        have HS := Lib.hid HS0
        clear HS0 HK
        have t4 : ((bits BinOp.and IntKind.i64 (i / 2 ^ k) 1 == 0) : Bool) = true := by rw [t3, hb0]; rfl
        clear hb hb0 t3
        go_wp2_with fail
        refine (not_any _ b g i0 i1 _ F1 _ M2 (Nat.le_trans hb S2.size) h0 h1 (by (try simp only [gt_len]); omega)).mono ?_; rintro e wm1 ⟨rfl, Fm1, Mm1, sm1⟩
        have Sm1 := S2.trans sm1
        obtain ⟨om1, dm1⟩ := own.stp dd sm1
        clear M2 S2 sm1 own dd
        obtain ⟨ga, hga, hba, hga2, ca, fa, sa⟩ := om1.at k hlt
        subst hga
        have ow3 := sa (gW (i0 + i1) G1)
        rw [HT] at ow3
        have O3 : Only (foot (some ⟨ga, 0, none⟩) c1) wm1 (wm1.setCell ⟨ga, k, none⟩ (.int .i64 (gW (i0 + i1) G1))) := (Only.refl _ _).setCell _ _ (foot_mem (x := ⟨ga, 0, none⟩) (by have := om1.cap; omega))
        have M3 := Mk.only Mm1 O3 dm1
        have S3 := Stp.onto Sm1 O3 (fun q hq => (om1.feet q hq).1)
        have HW := Lib.hid ow3
        have HM := Lib.hid M3
        have HSt := Lib.hid S3
        clear ow3 M3 S3 O3 sa HT
        go_wp2
        go_roundw
        case rel => exact ⟨k + 1, Fm1, by omega, by go_num, by rw [HS.out]; exact HW.out, dm1, by rw [HS.out]; exact HM.out, HSt.out⟩
        case measure => simp [intOf]; omega
    · obtain rfl : k = v := by omega
      have hG := mnG_len (i0 + i1) i I G k
      have eL : I.drop k = [] := List.drop_eq_nil_of_le (by rw [← HI.out]; exact Nat.le_refl _)
      rw [eL, List.append_nil] at own
      have HM : Hid (maG (i0 + i1) i I G = if k = 0 then (gt G 3 0 0, gW (i0 + i1) G) else anG (i0 + i1) (mnG (i0 + i1) i I G k).2 (mnG (i0 + i1) i I G k).1 (k - 1)) := Lib.hid (by unfold maG; rw [← HI.out])
      have H0 : k = 0 → (mnG (i0 + i1) i I G k).1 = G := fun e => by rw [e]; rfl
      obtain ⟨⟨G1, l⟩, hr⟩ : ∃ r, r = (mnG (i0 + i1) i I G k) := ⟨_, rfl⟩
      rw [← hr] at hG M2 own HM H0
      clear hr
      simp only at hG M2 own HM H0
      by_cases hk0 : k = 0
      · have HM2 : Hid (maG (i0 + i1) i I G = (gt G 3 0 0, gW (i0 + i1) G)) := Lib.hid (by rw [HM.out, if_pos hk0])
        rw [H0 hk0] at M2
        have t5 : (((k : Nat) : Int) == 0) = true := by simp [hk0]
        have hge : ¬ (k : Int) < (k : Int) := by omega
        clear hk0 H0 HM
        go_wp2_with fail
        refine (gate_any _ _ _ b g i0 i1 _ F1 _ M2 (Nat.le_trans hb S2.size) h0 h1 (by omega)).mono ?_; rintro e w3 ⟨rfl, F3, M3, s3⟩
        go_wp2
        go_ret
        exact ⟨by rw [HM2.out]; rfl, F3, by rw [HM2.out]; exact M3, S2.trans s3⟩
      · have HM2 : Hid (maG (i0 + i1) i I G = anG (i0 + i1) l G1 (k - 1)) := Lib.hid (by rw [HM.out, if_neg hk0])
        have t5 : (((k : Nat) : Int) == 0) = false := by simp [hk0]
        have hge : ¬ (k : Int) < (k : Int) := by omega
        have hk1 : 1 ≤ k := by omega
        obtain ⟨n, hn⟩ : ∃ n, k = n + 1 := ⟨k - 1, by omega⟩
        have HN := Lib.hid hn
        clear hk0 H0 HM hn
        obtain ⟨ga, oo, hga, c0⟩ := own.ints.at 0 (by omega)
        obtain ⟨ga2, hga2, _⟩ := own.at 0 (by omega)
        rw [hga] at hga2
        simp only [Option.some.injEq, Addr.mk.injEq, and_true] at hga2
        obtain ⟨rfl, rfl⟩ := hga2
        subst hga
        have hcap := own.cap
        obtain ⟨hcap, hcap2⟩ := hcap
        by_cases hc1 : c1 = 1
        · go_wp2
          go_loopw [10, 46] (fun z u wx => ∃ j F2, j + 1 ≤ k ∧ u = .int .i64 (j : Nat) ∧ z = .int .i64 (anG (i0 + i1) l G1 j).2 ∧ Own wx w.heap.size (some ⟨ga, 0, none⟩) k c1 l ∧ Disj (foot (some ⟨ga, 0, none⟩) c1) F2 ∧ Mk 81 wx b g i0 i1 (anG (i0 + i1) l G1 j).1 F2 oa on oc ∧ Stp F w F2 wx) (fun _ u _ => k - (intOf u).toNat)
          case atStart => exact ⟨0, F1, by omega, rfl, rfl, own, dd, M2, S2⟩
          case round =>
            obtain ⟨j, F2, hj, rfl, rfl, own2, dd2, M9, S9⟩ := hrel
            clear own dd M2 S2 c0
            have hA := anG_len (i0 + i1) l G1 j
            have HS := Lib.hid (anG_succ (i0 + i1) l G1 j)
            by_cases hlt2 : j + 1 < k
            · exact absurd hlt2 (by omega)
            · obtain rfl : j = n := by have := HN.out; omega
              have HJ := Lib.hid (show k - 1 = j by have := HN.out; omega)
              have hlt3 : ¬ (j : Int) < ((k - 1 : Nat) : Int) := by omega
              go_wp2
              go_ret
              exact ⟨by rw [HM2.out, HJ.out]; rfl, F2, by rw [HM2.out, HJ.out]; exact M9, S9⟩
        · go_wp2
          go_loopw [10, 46] (fun z u wx => ∃ j F2, j + 1 ≤ k ∧ u = .int .i64 (j : Nat) ∧ z = .int .i64 (anG (i0 + i1) l G1 j).2 ∧ Own wx w.heap.size (some ⟨ga, 0, none⟩) k c1 l ∧ Disj (foot (some ⟨ga, 0, none⟩) c1) F2 ∧ Mk 81 wx b g i0 i1 (anG (i0 + i1) l G1 j).1 F2 oa on oc ∧ Stp F w F2 wx) (fun _ u _ => k - (intOf u).toNat)
          case atStart => exact ⟨0, F1, by omega, rfl, rfl, own, dd, M2, S2⟩
          case round =>
            obtain ⟨j, F2, hj, rfl, rfl, own2, dd2, M9, S9⟩ := hrel
            clear own dd M2 S2 c0
            have hA := anG_len (i0 + i1) l G1 j
            have HS := Lib.hid (anG_succ (i0 + i1) l G1 j)
            by_cases hlt2 : j + 1 < k
            · have cj := own2.cellT j hlt2
              generalize l.getD (j + 1) 0 = y at *
              obtain ⟨⟨G2, z2⟩, hr2⟩ : ∃ r, r = anG (i0 + i1) l G1 j := ⟨_, rfl⟩
              rw [← hr2] at HS hA M9
              rw [← hr2]
              clear hr2
              unfold anS at HS
              simp only at hA HS M9
              have hlt3 : (j : Int) < ((k - 1 : Nat) : Int) := by omega
              go_wp2_with fail
              clear cj
              refine (and_any _ _ b g i0 i1 _ F2 _ M9 (Nat.le_trans hb S9.size) h0 h1 (by (try simp only [gt_len]); omega)).mono ?_; rintro e wm1 ⟨rfl, Fm1, Mm1, sm1⟩
              have Sm1 := S9.trans sm1
              obtain ⟨om1, dm1⟩ := own2.stp dd2 sm1
              clear M9 S9 sm1 own2 dd2
              go_wp2
              go_roundw
              case rel => exact ⟨j + 1, Fm1, by omega, by go_num, by rw [HS.out], om1, dm1, by rw [HS.out]; exact Mm1, Sm1⟩
              case measure => simp [intOf]; omega
            · obtain rfl : j = n := by have := HN.out; omega
              have HJ := Lib.hid (show k - 1 = j by have := HN.out; omega)
              have hlt3 : ¬ (j : Int) < ((k - 1 : Nat) : Int) := by omega
              go_wp2
              go_ret
              exact ⟨by rw [HM2.out, HJ.out]; rfl, F2, by rw [HM2.out, HJ.out]; exact M9, S9⟩
set_option maxHeartbeats 8000000 in
set_option maxRecDepth 100000 in
theorem meMatch_any (i : Int) (ia : Option Addr) (v ic : Nat) (I : List Int) {oa : Option Addr} {on oc : Nat} (b g : Nat) (i0 i1 : Int) (G : List Int) (F : List Nat) (w : World) (h : Mk 79 w b g i0 i1 G F oa on oc) (hb : b ≤ w.heap.size) (h0 : 0 ≤ i0 ∧ i0 ≤ 1000) (h1 : 0 ≤ i1 ∧ i1 ≤ 1000) (dx : IntD w ia v ic I F) (hi : 0 ≤ i ∧ i ≤ 1000) (hv : v ≤ 50) (hl : G.length ≤ 20000) :
    Calls Try.prog 136 #[.pointer (some ⟨g, 0, none⟩), .slice ia v ic, .int .i64 i] w fun e w' => e = .returned (.int .i64 (maG (i0 + i1) i I G).2) ∧ ∃ F', Mk 79 w' b g i0 i1 (maG (i0 + i1) i I G).1 F' oa on oc ∧ Stp F w F' w' := by
  have HI := Lib.hid dx.ints.len
  have hle := dx.ints.le
  by_cases hv0 : v = 0
  · have HM2 : Hid (maG (i0 + i1) i I G = (gt G 3 0 0, gW (i0 + i1) G)) := Lib.hid (by unfold maG; rw [if_pos (by rw [← HI.out]; exact hv0)])
    have t5 : (((v : Nat) : Int) == 0) = true := by simp [hv0]
    clear hv0
    go_enter Try.func136, Try.ntmps136
    go_wp2_with fail
    refine (sone_any b g i0 i1 _ F _ h hb h0 h1 (by omega)).mono ?_; rintro e w3 ⟨rfl, F3, M3, s3⟩
    go_wp2
    go_ret
    exact ⟨by rw [HM2.out]; rfl, F3, by rw [HM2.out]; exact M3, s3⟩
  have t5 : (((v : Nat) : Int) == 0) = false := by simp [hv0]
  have HM : Hid (maG (i0 + i1) i I G = anG (i0 + i1) (mnG (i0 + i1) i I G v).2 (mnG (i0 + i1) i I G v).1 (v - 1)) := Lib.hid (by unfold maG; rw [← HI.out, if_neg hv0])
  obtain ⟨n, hn⟩ : ∃ n, v = n + 1 := ⟨v - 1, by omega⟩
  have HN := Lib.hid hn
  clear hn hv0
  go_enter Try.func136, Try.ntmps136
  go_wp2_with fail
  refine (btOf_any i v _ (by omega) (by omega)).mono ?_; rintro e w2 ⟨ba, bc, rfl, ob, u2⟩
  have M2 := h.below u2
  have dx2 := dx.below u2
  have dB := ob.intD (Disj.of_rng ob.feet h.feet (.inr (Nat.le_refl _)))
  have hb2 : b ≤ w2.heap.size := Nat.le_trans hb u2.size
  have SB : Stp F w F w2 := (Stp.refl _ _).below u2
  clear ob u2 dx h hb
  have hb := hb2
  clear hb2
  go_wp2
  go_loopw [7, 23] (fun y u wr => ∃ k F1, k ≤ v ∧ u = .int .i64 (k : Nat) ∧ (∃ a1 c1, y = .slice a1 k c1 ∧ Own wr w2.heap.size a1 k c1 (mnG (i0 + i1) i I G k).2 ∧ Disj (foot a1 c1) F1) ∧ Mk 79 wr b g i0 i1 (mnG (i0 + i1) i I G k).1 F1 oa on oc ∧ Stp F w2 F1 wr) (fun _ u _ => v - (intOf u).toNat)
  case atStart => exact ⟨0, F, Nat.zero_le _, rfl, ⟨_, _, rfl, Own.nil0 _ _ _, foot_nil _ _⟩, M2, Stp.refl _ _⟩
  case round =>
    obtain ⟨k, F1, hk, rfl, ⟨a1, c1, rfl, own, dd⟩, M3, S3⟩ := hrel
    clear M2
    by_cases hlt : k < v
    · have hG := mnG_len (i0 + i1) i I G k
      have HS0 := mnG_succ (i0 + i1) i I G k
      obtain ⟨gx, ox, hgx, _⟩ := dx2.ints.at k hlt
      subst hgx
      obtain ⟨gy, oy, hgy, _⟩ := dB.ints.at k hlt
      subst hgy
      have cx := (dx2.stp S3).ints.cellsAt k hlt
      have cy := (dB.stp S3).ints.cellsAt k hlt
      have hq : (btL i v).getD k 0 = i / 2 ^ k % 2 := by simp [btL, List.getD, hlt]
      rw [hq] at cy
      clear hq
      obtain ⟨x, ex⟩ : ∃ x, x = I.getD k 0 := ⟨_, rfl⟩
      rw [← ex] at HS0 cx
      clear ex
      obtain ⟨⟨G1, o1⟩, hr⟩ : ∃ r, r = (mnG (i0 + i1) i I G k) := ⟨_, rfl⟩
      rw [← hr] at HS0 hG M3 own
      clear hr
      simp only at hG M3 own
      unfold mnS at HS0
      by_cases hb1 : i / 2 ^ k % 2 = 1
      · rw [if_pos hb1] at HS0
        have HS := Lib.hid HS0
        clear HS0
        rw [hb1] at cy
        clear hb1
        go_wp2_with (at_builtin; refine wpList_appJ _ rfl _ _ rfl w2.heap.size a1 k c1 o1 rfl (own.alloc _) _ 1 1 [_] rfl (Ints.lit1 _ _ _) (by omega) (by have := S3.size; simp; omega) ?_)
        intro am1 cm1 wm1 om1 _ gm1 mm1
        have Om1 := Only.of_grown gm1
        have Mm1 := Mk.only (Mk.alloc M3 _) Om1 dd
        have Sm1 := Stp.onto (Stp.alloc S3 _) Om1 (fun k hk => (own.feet k hk).1)
        have dm1 : Disj (foot am1 cm1) F1 := mm1.disj dd (fun k hk => by have := (M3.feet k hk).2; simp; omega)
        clear M3 S3 own dd Om1 gm1 mm1
        clear cx cy
        go_wp2
        go_roundw
        case rel => exact ⟨k + 1, F1, by omega, by go_num, ⟨_, _, rfl, by rw [HS.out]; exact om1, dm1⟩, by rw [HS.out]; exact Mm1, Sm1⟩
        case measure => simp [intOf]; omega
      · rw [if_neg hb1] at HS0
        have HS := Lib.hid HS0
        clear HS0
        have e0 : i / 2 ^ k % 2 = 0 := by omega
        rw [e0] at cy
        clear hb1 e0
        go_wp2_with fail
        clear cx cy
        refine (snot_any _ b g i0 i1 _ F1 _ M3 (Nat.le_trans hb S3.size) h0 h1 (by (try simp only [gt_len]); omega)).mono ?_; rintro e wm1 ⟨rfl, Fm1, Mm1, sm1⟩
        have Sm1 := S3.trans sm1
        obtain ⟨om1, dm1⟩ := own.stp dd sm1
        clear M3 S3 sm1 own dd
        go_wp2_with (at_builtin; refine wpList_appJ _ rfl _ _ rfl w2.heap.size a1 k c1 o1 rfl (om1.alloc _) _ 1 1 [_] rfl (Ints.lit1 _ _ _) (by omega) (by have := Sm1.size; simp; omega) ?_)
        intro am2 cm2 wm2 om2 _ gm2 mm2
        have Om2 := Only.of_grown gm2
        have Mm2 := Mk.only (Mk.alloc Mm1 _) Om2 dm1
        have Sm2 := Stp.onto (Stp.alloc Sm1 _) Om2 (fun k hk => (om1.feet k hk).1)
        have dm2 : Disj (foot am2 cm2) Fm1 := mm2.disj dm1 (fun k hk => by have := (Mm1.feet k hk).2; simp; omega)
        clear Mm1 Sm1 om1 dm1 Om2 gm2 mm2
        go_wp2
        go_roundw
        case rel => exact ⟨k + 1, Fm1, by omega, by go_num, ⟨_, _, rfl, by rw [HS.out]; exact om2, dm2⟩, by rw [HS.out]; exact Mm2, Sm2⟩
        case measure => simp [intOf]; omega
    · obtain rfl : k = v := by omega
      have hG := mnG_len (i0 + i1) i I G k
      obtain ⟨⟨G1, l⟩, hr⟩ : ∃ r, r = (mnG (i0 + i1) i I G k) := ⟨_, rfl⟩
      rw [← hr] at hG M3 own HM
      clear hr
      simp only at hG M3 own HM
      have HM2 := HM
      clear HM
      have hge : ¬ (k : Int) < (k : Int) := by omega
      have hk1 : 1 ≤ k := by have := HN.out; omega
      obtain ⟨ga, oo, hga, c0⟩ := own.ints.at 0 (by omega)
      obtain ⟨ga2, hga2, _⟩ := own.at 0 (by omega)
      rw [hga] at hga2
      simp only [Option.some.injEq, Addr.mk.injEq, and_true] at hga2
      obtain ⟨rfl, rfl⟩ := hga2
      subst hga
      have hcap := own.cap
      obtain ⟨hcap, hcap2⟩ := hcap
      by_cases hc1 : c1 = 1
      · go_wp2
        go_loopw [10, 53] (fun z u wx => ∃ j F2, j + 1 ≤ k ∧ u = .int .i64 (j : Nat) ∧ z = .int .i64 (anG (i0 + i1) l G1 j).2 ∧ Own wx w2.heap.size (some ⟨ga, 0, none⟩) k c1 l ∧ Disj (foot (some ⟨ga, 0, none⟩) c1) F2 ∧ Mk 79 wx b g i0 i1 (anG (i0 + i1) l G1 j).1 F2 oa on oc ∧ Stp F w2 F2 wx) (fun _ u _ => k - (intOf u).toNat)
        case atStart => exact ⟨0, F1, by omega, rfl, rfl, own, dd, M3, S3⟩
        case round =>
          obtain ⟨j, F2, hj, rfl, rfl, own2, dd2, M9, S9⟩ := hrel
          clear own dd M3 S3 c0
          have hA := anG_len (i0 + i1) l G1 j
          have HS := Lib.hid (anG_succ (i0 + i1) l G1 j)
          by_cases hlt2 : j + 1 < k
          · exact absurd hlt2 (by omega)
          · obtain rfl : j = n := by have := HN.out; omega
            have HJ := Lib.hid (show k - 1 = j by have := HN.out; omega)
            have hlt3 : ¬ (j : Int) < ((k - 1 : Nat) : Int) := by omega
            go_wp2
            go_ret
            exact ⟨by rw [HM2.out, HJ.out]; rfl, F2, by rw [HM2.out, HJ.out]; exact M9, SB.trans S9⟩
      · go_wp2
        go_loopw [10, 53] (fun z u wx => ∃ j F2, j + 1 ≤ k ∧ u = .int .i64 (j : Nat) ∧ z = .int .i64 (anG (i0 + i1) l G1 j).2 ∧ Own wx w2.heap.size (some ⟨ga, 0, none⟩) k c1 l ∧ Disj (foot (some ⟨ga, 0, none⟩) c1) F2 ∧ Mk 79 wx b g i0 i1 (anG (i0 + i1) l G1 j).1 F2 oa on oc ∧ Stp F w2 F2 wx) (fun _ u _ => k - (intOf u).toNat)
        case atStart => exact ⟨0, F1, by omega, rfl, rfl, own, dd, M3, S3⟩
        case round =>
          obtain ⟨j, F2, hj, rfl, rfl, own2, dd2, M9, S9⟩ := hrel
          clear own dd M3 S3 c0
          have hA := anG_len (i0 + i1) l G1 j
          have HS := Lib.hid (anG_succ (i0 + i1) l G1 j)
          by_cases hlt2 : j + 1 < k
          · have cj := own2.cellT j hlt2
            generalize l.getD (j + 1) 0 = y at *
            obtain ⟨⟨G2, z2⟩, hr2⟩ : ∃ r, r = anG (i0 + i1) l G1 j := ⟨_, rfl⟩
            rw [← hr2] at HS hA M9
            rw [← hr2]
            clear hr2
            unfold anS at HS
            simp only at hA HS M9
            have hlt3 : (j : Int) < ((k - 1 : Nat) : Int) := by omega
            go_wp2_with fail
            clear cj
            refine (sand_any _ _ b g i0 i1 _ F2 _ M9 (Nat.le_trans hb S9.size) h0 h1 (by (try simp only [gt_len]); omega)).mono ?_; rintro e wm1 ⟨rfl, Fm1, Mm1, sm1⟩
            have Sm1 := S9.trans sm1
            obtain ⟨om1, dm1⟩ := own2.stp dd2 sm1
            clear M9 S9 sm1 own2 dd2
            go_wp2
            go_roundw
            case rel => exact ⟨j + 1, Fm1, by omega, by go_num, by rw [HS.out], om1, dm1, by rw [HS.out]; exact Mm1, Sm1⟩
            case measure => simp [intOf]; omega
          · obtain rfl : j = n := by have := HN.out; omega
            have HJ := Lib.hid (show k - 1 = j by have := HN.out; omega)
            have hlt3 : ¬ (j : Int) < ((k - 1 : Nat) : Int) := by omega
            go_wp2
            go_ret
            exact ⟨by rw [HM2.out, HJ.out]; rfl, F2, by rw [HM2.out, HJ.out]; exact M9, SB.trans S9⟩
end Go.Proofs.Ytkbhigdciokfkaa
namespace Go.Proofs.Ytkbhigdciokfkaa
open Go.RowKit
set_option maxHeartbeats 8000000 in
set_option maxRecDepth 100000 in
theorem writ_any (ca : Option Addr) (n cc : Nat) (rs : List RowD) (ia : Option Addr) (v ic : Nat) (I : List Int) (wd : Nat) {oa : Option Addr} {on oc : Nat} (b g : Nat) (i0 i1 : Int) (G : List Int) (F : List Nat) (w : World) (h : Mk 81 w b g i0 i1 G F oa on oc) (hb : b ≤ w.heap.size) (h0 : 0 ≤ i0 ∧ i0 ≤ 1000) (h1 : 0 ≤ i1 ∧ i1 ≤ 1000) (dc : RwD w ca n cc rs F) (dx : IntD w ia v ic I F) (hA : AllL wd (datas' rs)) (hn : 1 ≤ n ∧ n ≤ 8) (hv : v ≤ 8) (hw : wd ≤ 20) (hl : G.length ≤ 1000) (nb wb : Nat) (hnb : w.cell? ⟨nb, 0, none⟩ = some (.int .i64 n)) (hwb : w.cell? ⟨wb, 0, none⟩ = some (.int .i64 wd)) :
    Calls Try.prog 59 #[.pointer (some ⟨g, 0, none⟩), .slice ca n cc, .slice ia v ic, .pointer (some ⟨nb, 0, none⟩), .pointer (some ⟨wb, 0, none⟩)] w fun e w' => ∃ a1 m1 c1 F', e = .returned (.slice a1 m1 c1) ∧ Own w' w.heap.size a1 m1 c1 (wrG (i0 + i1) I (spL ((n * wd : Nat) + v : Int) wd) (datas' rs) G n).2 ∧ Disj (foot a1 c1) F' ∧ Mk 81 w' b g i0 i1 (wrG (i0 + i1) I (spL ((n * wd : Nat) + v : Int) wd) (datas' rs) G n).1 F' oa on oc ∧ Stp F w F' w' := by
  have HI := Lib.hid dx.ints.len
  have HAL := Lib.hid hA
  have HR := Lib.hid dc.len
  have hle := dc.le
  have hle2 := dx.ints.le
  clear hA
  have hp1 : 0 ≤ (n : Int) * (wd : Int) := Int.mul_nonneg (by omega) (by omega)
  have hp2 : (n : Int) * (wd : Int) ≤ 8 * 20 := Int.mul_le_mul (by omega) (by omega) (by omega) (by omega)
  obtain ⟨q, hq⟩ : ∃ q : Int, q = (n : Int) * (wd : Int) := ⟨_, rfl⟩
  have t1 : IntKind.i64.wrap ((n : Int) * (wd : Int)) = q := by rw [← hq]; exact IntWalk.i64_in _ (by omega)
  have HQ : Hid (((n * wd : Nat) : Int) = q) := Lib.hid (by rw [hq]; exact Int.natCast_mul _ _)
  rw [← hq] at hp1 hp2
  clear hq
  rw [HQ.out]
  go_enter Try.func59, Try.ntmps59
  go_wp2_with fail
  refine (span_any (q + v) wd _ (by omega) (by omega)).mono ?_; rintro e w1 ⟨va, vc, rfl, ov, u1⟩
  have M1 := h.below u1
  have dc1 := dc.below u1
  have dx1 := dx.below u1
  have dv := ov.intD (Disj.of_rng ov.feet h.feet (.inr (Nat.le_refl _)))
  have SB : Stp F w F w1 := (Stp.refl _ _).below u1
  have hb1 : b ≤ w1.heap.size := Nat.le_trans hb u1.size
  clear ov u1 h hb dc dx hnb hwb
  have hb := hb1
  clear hb1
  have hvl : (spL (q + v) wd).length = wd := spL_len _ _
  obtain ⟨V, hV⟩ : ∃ V, V = spL (q + v) wd := ⟨_, rfl⟩
  rw [← hV] at dv hvl
  have HV := Lib.hid hV
  clear hV
  have HVL := Lib.hid hvl
  clear hvl
  go_wp2
  go_loopw [10, 24] (fun y u wr => ∃ i F1, i ≤ n ∧ u = .int .i64 (i : Nat) ∧ (∃ a1 m c1, y = .slice a1 m c1 ∧ Own wr w1.heap.size a1 m c1 (wrG (i0 + i1) I V (datas' rs) G i).2 ∧ Disj (foot a1 c1) F1) ∧ Mk 81 wr b g i0 i1 (wrG (i0 + i1) I V (datas' rs) G i).1 F1 oa on oc ∧ Stp F w1 F1 wr) (fun _ u _ => n - (intOf u).toNat)
  case atStart => exact ⟨0, F, Nat.zero_le _, rfl, ⟨_, 0, _, rfl, Own.nil0 _ _ _, foot_nil _ _⟩, M1.alloc _, (Stp.refl _ _).alloc _⟩
  case round =>
    obtain ⟨i, F1, hk, rfl, ⟨a1, m, c1, rfl, own, dd⟩, M2, S2⟩ := hrel
    clear M1
    by_cases hlt : i < n
    · have hil : i < (datas' rs).length := by rw [datas_len, HR.out]; exact hlt
      obtain ⟨hG, hG2⟩ := wrG_len (i0 + i1) I V (datas' rs) G i
      rw [← HI.out, HVL.out] at hG
      rw [HVL.out] at hG2
      have hGb : (6 * v + 3 + 9 * wd) * i ≤ 250 * 8 := Nat.mul_le_mul (by omega) (by omega)
      have hOb : wd * i ≤ 20 * 8 := Nat.mul_le_mul hw (by omega)
      have hml : m ≤ 160 := by have := own.len; omega
      have HS0 := wrG_succ (i0 + i1) I V (datas' rs) G i
      rw [datas_getD _ _ (by rw [HR.out]; exact hlt)] at HS0
      have hcl := HAL.out.at i hil
      rw [datas_getD _ _ (by rw [HR.out]; exact hlt)] at hcl
      obtain ⟨gc, oc', hgc, _, dr⟩ := dc1.at i hlt
      subst hgc
      have ci := (dc1.stp S2).cellsAt i hlt
      generalize rowAt rs i = r at *
      obtain ⟨ra, rc, C⟩ := r
      simp only at HS0 hcl ci dr
      obtain ⟨⟨G1, O⟩, hr⟩ : ∃ r, r = (wrG (i0 + i1) I V (datas' rs) G i) := ⟨_, rfl⟩
      rw [← hr] at HS0 hG hG2 M2 own
      clear hr
      simp only at hG hG2 M2 own
      unfold wrS at HS0
      simp only at HS0
      have hm := maG_len (i0 + i1) i I G1
      rw [← HI.out] at hm
      rw [hcl] at ci dr
      rw [HVL.out] at HS0
      clear hcl
      go_wp2_with fail
      clear ci
      have dxs := dx1.stp S2
      refine (match_any _ _ _ _ _ b g i0 i1 _ F1 _ M2 (Nat.le_trans hb S2.size) h0 h1 dxs (by omega) (by omega) (by omega)).mono ?_; rintro e wm1 ⟨rfl, Fm1, Mm1, sm1⟩
      have Sm1 := S2.trans sm1
      obtain ⟨om1, dm1⟩ := own.stp dd sm1
      clear M2 S2 sm1 own dd
      obtain ⟨⟨G2, z⟩, hz⟩ : ∃ r, r = maG (i0 + i1) i I G1 := ⟨_, rfl⟩
      rw [← hz] at HS0 hm Mm1
      try rw [← hz]
      clear hz
      simp only at HS0 hm Mm1
      have hch := chG_len (i0 + i1) z V C G2 wd
      go_wp2_with fail
      refine (choose_any z _ wd _ V _ wd _ C b g i0 i1 G2 _ _ Mm1 (Nat.le_trans hb Sm1.size) h0 h1 (dv.stp Sm1) (dr.stp Sm1) (Nat.le_refl _) (by omega) (by omega)).mono ?_; rintro e w7 ⟨a7, c7, F7, rfl, o7, d7, M7, s7⟩
      obtain ⟨ow7, dw7⟩ := om1.stp dm1 s7
      have S7 := Sm1.trans s7
      clear Mm1 Sm1 om1 dm1 s7
      obtain ⟨⟨G3, L⟩, hr3⟩ : ∃ r, r = chG (i0 + i1) z V C G2 wd := ⟨_, rfl⟩
      rw [← hr3] at HS0 hch o7 M7
      clear hr3
      simp only at HS0 hch o7 M7
      have HS := Lib.hid HS0
      clear HS0
      go_wp2_with (at_builtin; refine wpList_appJ _ rfl _ _ rfl w1.heap.size a1 m c1 O rfl ow7 _ wd _ L rfl o7.ints (by omega) (by have := S7.size; omega) ?_)
      intro a8 c8 w8 o8 _ g8 m8
      have O8 := Only.of_grown g8
      have M8 := Mk.only M7 O8 dw7
      have S8 := Stp.onto S7 O8 (fun k hk => (ow7.feet k hk).1)
      have d8 : Disj (foot a8 c8) F7 := m8.disj dw7 (fun k hk => (M7.feet k hk).2)
      clear M7 S7 ow7 dw7 O8 g8 m8 o7 d7
      go_wp2
      go_roundw
      case rel => exact ⟨i + 1, F7, by omega, by go_num, ⟨_, _, _, rfl, by rw [HS.out]; exact o8, d8⟩, by rw [HS.out]; exact M8, S8⟩
      case measure => simp [intOf]; omega
    · obtain rfl : i = n := by omega
      go_wp2
      go_ret
      exact ⟨_, _, _, F1, rfl, by rw [← HV.out]; exact own.lower SB.size, dd, by rw [← HV.out]; exact M2, SB.trans S2⟩
end Go.Proofs.Ytkbhigdciokfkaa
namespace Go.Proofs.Ytkbhigdciokfkaa
open Go.RowKit
theorem writ_clo (n wd v : Nat) (w : World) (hn : 1 ≤ n ∧ n ≤ 8) (hw : 1 ≤ wd ∧ wd ≤ 4) (hv : wid n = v) (nb wb : Nat) (hnb : w.cell? ⟨nb, 0, none⟩ = some (.int .i64 n)) (hwb : w.cell? ⟨wb, 0, none⟩ = some (.int .i64 wd)) : CloP 59 #[.pointer (some ⟨nb, 0, none⟩), .pointer (some ⟨wb, 0, none⟩)] w (n * wd) n wd v wd (meG 2 n wd) := by
  intro W b g F ca cc rs ia ic u hM hb hF hr hd hx
  have hv3 : v ≤ 3 := by rw [← hv]; exact wid8 n hn.2
  have hq : n * wd ≤ 8 * 4 := Nat.mul_le_mul hn.2 hw.2
  have eB : ((n * wd : Nat) : Int) + ((v : Int) + ((wd : Nat) : Int)) = meB n wd v wd := by unfold meB; simp
  have hAL : AllL wd (datas' rs) := by rw [hd]; exact ceL_all wd n
  have h := writ_any ca n cc rs ia v ic _ wd b g (n * wd : Nat) ((v : Int) + ((wd : Nat) : Int)) [] F W hM hb (by omega) (by omega) hr hx hAL hn (by omega) (by omega) (by simp) nb wb (by rw [u.cell (World.block_lt_of_cell? w _ hnb)]; exact hnb) (by rw [u.cell (World.block_lt_of_cell? w _ hwb)]; exact hwb)
  rw [eB, hd] at h
  have e : meG 2 n wd = wrG (meB n wd v wd) (spL ((n * wd : Nat) : Int) v) (spL ((n * wd : Nat) + v : Int) wd) (ceL wd n) [] n := by unfold meG; rw [if_neg (by decide), if_neg (by decide), if_pos rfl, hv]; rfl
  rw [e]
  exact h
theorem writ_enters : ∀ (args : Array Value) (w : World), (callFunc 59 args).run Try.prog w = .ok (.enter 59 args) w := enters_of Try.func59 (by kernel_rfl) (by kernel_rfl)
set_option maxHeartbeats 8000000 in
set_option maxRecDepth 100000 in
theorem WriteCircuit_any (n wd : Int) (w : World) :
    Calls Try.prog 25 #[.int .i64 n, .int .i64 wd] w fun e w' => ∃ ga gn gc oa on oc, e = .returned (.tuple #[.agg #[.int .i64 (mS0 n wd), .int .i64 (mS1 2 n wd), .slice ga gn gc, .slice oa on oc], .bool (memB n wd)]) ∧ OwnF 3 eGate w' w.heap.size ga gn gc (mG 2 n wd) ∧ Own w' w.heap.size oa on oc (mO 2 n wd) ∧ Disj (foot ga gc) (foot oa oc) ∧ Below w.heap.size w w' := by
  have V1 : Below w.heap.size w (((w.alloc (.cells #[.int .i64 n] 3)).alloc (.cells #[.int .i64 wd] 3)).alloc (.cells #[.int .i64 0, .int .i64 0, .slice none 0 0, .slice none 0 0] 25)) := ((((Below.refl _ _).alloc (by simp) _).alloc (by simp) _).alloc (by simp; omega) _)
  have R1 : Blk (((w.alloc (.cells #[.int .i64 n] 3)).alloc (.cells #[.int .i64 wd] 3)).alloc (.cells #[.int .i64 0, .int .i64 0, .slice none 0 0, .slice none 0 0] 25)) (w.heap.size + 2) 25 #[.int .i64 0, .int .i64 0, .slice none 0 0, .slice none 0 0] := by simpa using (Blk.new ((w.alloc (.cells #[.int .i64 n] 3)).alloc (.cells #[.int .i64 wd] 3)) 25 #[.int .i64 0, .int .i64 0, .slice none 0 0, .slice none 0 0])
  have Z1 : w.heap.size + 2 + 1 ≤ (((w.alloc (.cells #[.int .i64 n] 3)).alloc (.cells #[.int .i64 wd] 3)).alloc (.cells #[.int .i64 0, .int .i64 0, .slice none 0 0, .slice none 0 0] 25)).heap.size := by simp
  have B0 : Blk (((w.alloc (.cells #[.int .i64 n] 3)).alloc (.cells #[.int .i64 wd] 3)).alloc (.cells #[.int .i64 0, .int .i64 0, .slice none 0 0, .slice none 0 0] 25)) (w.heap.size) 3 #[.int .i64 n] := by simpa using ((((Blk.new w 3 #[.int .i64 n]).alloc _).alloc _) : Blk (((w.alloc (.cells #[.int .i64 n] 3)).alloc (.cells #[.int .i64 wd] 3)).alloc (.cells #[.int .i64 0, .int .i64 0, .slice none 0 0, .slice none 0 0] 25)) _ _ _)
  have B1 : Blk (((w.alloc (.cells #[.int .i64 n] 3)).alloc (.cells #[.int .i64 wd] 3)).alloc (.cells #[.int .i64 0, .int .i64 0, .slice none 0 0, .slice none 0 0] 25)) (w.heap.size + 1) 3 #[.int .i64 wd] := by simpa using (((Blk.new (w.alloc (.cells #[.int .i64 n] 3)) 3 #[.int .i64 wd]).alloc _) : Blk (((w.alloc (.cells #[.int .i64 n] 3)).alloc (.cells #[.int .i64 wd] 3)).alloc (.cells #[.int .i64 0, .int .i64 0, .slice none 0 0, .slice none 0 0] 25)) _ _ _)
  unfold mS0 mS1 mG mO
  cases hm : memB n wd
  · simp only [Bool.false_eq_true, if_false]
    go_enter Try.func25, Try.ntmps25
    go_wp2_with fail
    generalize (((w.alloc (.cells #[.int .i64 n] 3)).alloc (.cells #[.int .i64 wd] 3)).alloc (.cells #[.int .i64 0, .int .i64 0, .slice none 0 0, .slice none 0 0] 25)) = w1 at *
    refine (memory_no n wd _ _ _ _ hm).mono ?_; rintro e w2 ⟨rfl, u2⟩
    have V2 := V1.trans (u2.mono V1.size)
    have R2 := R1.below u2
    clear V1 R1 u2 B0 B1
    have r0 : w2.cell? ⟨w.heap.size + 2, 0, none⟩ = some (.int .i64 0) := R2.cell 0
    have r1 : w2.cell? ⟨w.heap.size + 2, 1, none⟩ = some (.int .i64 0) := R2.cell 1
    have r2 : w2.cell? ⟨w.heap.size + 2, 2, none⟩ = some (.slice none 0 0) := R2.cell 2
    have r3 : w2.cell? ⟨w.heap.size + 2, 3, none⟩ = some (.slice none 0 0) := R2.cell 3
    have q0 : w2.frozen? ⟨w.heap.size + 2, 0, none⟩ = false := R2.frozen 0
    have q1 : w2.frozen? ⟨w.heap.size + 2, 1, none⟩ = false := R2.frozen 1
    have q2 : w2.frozen? ⟨w.heap.size + 2, 2, none⟩ = false := R2.frozen 2
    have q3 : w2.frozen? ⟨w.heap.size + 2, 3, none⟩ = false := R2.frozen 3
    go_wp2
    have GG := (((((Only.refl [w.heap.size + 2] w2).setCell ⟨w.heap.size + 2, 0, none⟩ (.int .i64 0) (by simp)).setCell ⟨w.heap.size + 2, 1, none⟩ (.int .i64 0) (by simp)).setCell ⟨w.heap.size + 2, 2, none⟩ (.slice none 0 0) (by simp)).setCell ⟨w.heap.size + 2, 3, none⟩ (.slice none 0 0) (by simp))
    exact bodyPost_ret (v := .tuple #[.agg #[.int .i64 0, .int .i64 0, .slice none 0 0, .slice none 0 0], .bool false]) (by simp [results, Try.results25, go_sem, r0, r1, r2, r3]) rfl ⟨none, 0, 0, none, 0, 0, rfl, OwnC.nil0 _ _ _ _ _, Own.nil0 _ _ _, foot_nil _ _, V2.trans (GG.below V2.size (by simp))⟩
  · simp only [if_true]
    obtain ⟨⟨n1, n2⟩, ⟨d1, d2⟩, hnw⟩ := memB_true hm
    obtain ⟨n, rfl⟩ : ∃ k : Nat, n = k := ⟨n.toNat, by omega⟩
    obtain ⟨wd, rfl⟩ : ∃ k : Nat, wd = k := ⟨wd.toNat, by omega⟩
    rw [← Int.natCast_mul] at hnw
    have hok := m_ok 2 n wd hm
    simp only [Int.toNat_natCast]
    clear hm
    have eM : meMore 2 wd = wd := by unfold meMore; simp
    rw [eM] at hok ⊢
    obtain ⟨v, hv⟩ : ∃ v, wid (n : Int) = v := ⟨_, rfl⟩
    rw [hv] at hok ⊢
    have HV := Lib.hid hv
    have HOK := Lib.hid hok
    clear hv hok eM
    have e3 : ((n : Int) * (wd : Int)) = ((n * wd : Nat) : Int) := (Int.natCast_mul _ _).symm
    rw [e3]
    clear e3
    obtain ⟨p, hp⟩ : ∃ p, p = meG 2 n wd := ⟨_, rfl⟩
    rw [← hp] at HOK ⊢
    have HP := Lib.hid hp
    clear hp
    have HCL : Hid (CloP 59 #[.pointer (some ⟨w.heap.size, 0, none⟩), .pointer (some ⟨w.heap.size + 1, 0, none⟩)] (((w.alloc (.cells #[.int .i64 n] 3)).alloc (.cells #[.int .i64 wd] 3)).alloc (.cells #[.int .i64 0, .int .i64 0, .slice none 0 0, .slice none 0 0] 25)) (n * wd) n wd v wd p) := Lib.hid (by rw [HP.out]; exact writ_clo n wd v _ (by omega) (by omega) HV.out _ _ (B0.cell 0) (B1.cell 0))
    go_enter Try.func25, Try.ntmps25
    go_wp2_with fail
    generalize (((w.alloc (.cells #[.int .i64 n] 3)).alloc (.cells #[.int .i64 wd] 3)).alloc (.cells #[.int .i64 0, .int .i64 0, .slice none 0 0, .slice none 0 0] 25)) = w1 at *
    have V1s : w.heap.size ≤ w1.heap.size := V1.size
    refine (memory_yes n wd wd v _ _ p _ (by omega) (by omega) (by omega) (by omega) HV.out HCL.out writ_enters HOK.out).mono ?_; rintro e w2 ⟨ga, gn, gc, oa, on, oc, rfl, og, oo, dd, u2⟩
    have V2 := V1.trans (u2.mono V1.size)
    have R2 := R1.below u2
    have Z2 := u2.size
    have Q1 := Lib.hid og.feet
    have Q2 := Lib.hid oo.feet
    clear V1 R1 u2 HCL B0 B1
    have r0 : w2.cell? ⟨w.heap.size + 2, 0, none⟩ = some (.int .i64 0) := R2.cell 0
    have r1 : w2.cell? ⟨w.heap.size + 2, 1, none⟩ = some (.int .i64 0) := R2.cell 1
    have r2 : w2.cell? ⟨w.heap.size + 2, 2, none⟩ = some (.slice none 0 0) := R2.cell 2
    have r3 : w2.cell? ⟨w.heap.size + 2, 3, none⟩ = some (.slice none 0 0) := R2.cell 3
    have q0 : w2.frozen? ⟨w.heap.size + 2, 0, none⟩ = false := R2.frozen 0
    have q1 : w2.frozen? ⟨w.heap.size + 2, 1, none⟩ = false := R2.frozen 1
    have q2 : w2.frozen? ⟨w.heap.size + 2, 2, none⟩ = false := R2.frozen 2
    have q3 : w2.frozen? ⟨w.heap.size + 2, 3, none⟩ = false := R2.frozen 3
    go_wp2
    have GG := (((((Only.refl [w.heap.size + 2] w2).setCell ⟨w.heap.size + 2, 0, none⟩ (.int .i64 ((n * wd : Nat) : Int)) (by simp)).setCell ⟨w.heap.size + 2, 1, none⟩ (.int .i64 ((v : Int) + ((wd : Nat) : Int))) (by simp)).setCell ⟨w.heap.size + 2, 2, none⟩ (.slice ga gn gc) (by simp)).setCell ⟨w.heap.size + 2, 3, none⟩ (.slice oa on oc) (by simp))
    exact bodyPost_ret (v := .tuple #[.agg #[.int .i64 ((n * wd : Nat) : Int), .int .i64 ((v : Int) + ((wd : Nat) : Int)), .slice ga gn gc, .slice oa on oc], .bool true]) (by simp [results, Try.results25, go_sem, r0, r1, r2, r3]) rfl ⟨_, _, _, _, _, _, rfl, (og.only GG (fun k hk hk' => by have := Q1.out k hk; simp at hk'; omega)).lower V1s, (oo.only GG (fun k hk hk' => by have := Q2.out k hk; simp at hk'; omega)).lower V1s, dd, V2.trans (GG.below V2.size (by simp))⟩
end Go.Proofs.Ytkbhigdciokfkaa
namespace Go.Proofs.Ytkbhigdciokfkaa
open Go.RowKit
def wcB (wd : Int) (l : List Int) (i v : Int) : Bool := celB wd l i && inB v 0 (2 ^ wd.toNat - 1)
def wcR (wd : Int) (l : List Int) (i v : Int) : List Int := if wcB wd l i v then mrR 2 l.length wd.toNat l i (btL v wd.toNat) else []
end Go.Proofs.Ytkbhigdciokfkaa
namespace Go.Proofs.Ytkbhigdciokfkaa
open Go.RowKit
set_option maxHeartbeats 8000000 in
set_option maxRecDepth 100000 in
theorem meWrite_any (n wd v : Nat) (w : World) (hn : 1 ≤ n ∧ n ≤ 8) (hw : 1 ≤ wd ∧ wd ≤ 4) (hv : wid (n : Int) = v) :
    Calls Try.prog 97 #[.int .i64 n, .int .i64 wd] w fun e w' => ∃ ga gn gc oa on oc, e = .returned (.agg #[.int .i64 ((n * wd : Nat) : Int), .int .i64 ((v : Int) + ((wd : Nat) : Int)), .slice ga gn gc, .slice oa on oc]) ∧ OwnF 3 eGate w' w.heap.size ga gn gc (meG 2 n wd).1 ∧ Rd w' w.heap.size oa on oc (meG 2 n wd).2 ∧ Disj (foot ga gc) (foot oa oc) ∧ Below w.heap.size w w' := by
  have hv3 : v ≤ 3 := by rw [← hv]; exact wid8 n hn.2
  have hqb : n * wd ≤ 8 * 4 := Nat.mul_le_mul hn.2 hw.2
  have HE : Hid (meG 2 n wd = wrG (meB n wd v wd) (spL ((n * wd : Nat) : Int) v) (spL ((n * wd : Nat) + v : Int) wd) (ceL wd n) [] n) := Lib.hid (by unfold meG; rw [if_neg (by decide), if_neg (by decide), if_pos rfl, hv]; rfl)
  have HB : Hid (meB n wd v wd = ((n * wd : Nat) : Int) + ((v : Int) + ((wd : Nat) : Int))) := Lib.hid (by unfold meB; simp)
  rw [HE.out, HB.out]
  clear HE HB
  have hst := meStart_any n wd wd v (w.alloc (.cells #[.int .i64 0, .int .i64 0, .slice none 0 0, .slice none 0 0] 25)) hn hw (by omega) hv
  have HST := Lib.hid hst
  clear hst hv
  have hqe : ((n : Int) * (wd : Int)) = ((n * wd : Nat) : Int) := (Int.natCast_mul _ _).symm
  obtain ⟨q, hq⟩ : ∃ q, q = n * wd := ⟨_, rfl⟩
  rw [← hq] at HST hqe hqb ⊢
  have t1 : IntKind.i64.wrap ((n : Int) * (wd : Int)) = (q : Int) := by rw [hqe]; exact IntWalk.i64_in _ (by omega)
  clear hqe hq
  have V1 : Below w.heap.size w (w.alloc (.cells #[.int .i64 0, .int .i64 0, .slice none 0 0, .slice none 0 0] 25)) := (Below.refl _ _).alloc (Nat.le_refl _) _
  have R1 : Blk (w.alloc (.cells #[.int .i64 0, .int .i64 0, .slice none 0 0, .slice none 0 0] 25)) w.heap.size 25 #[.int .i64 0, .int .i64 0, .slice none 0 0, .slice none 0 0] := Blk.new w _ _
  have Z1 : (w.alloc (.cells #[.int .i64 0, .int .i64 0, .slice none 0 0, .slice none 0 0] 25)).heap.size = w.heap.size + 1 := by simp
  obtain ⟨i1, hi1⟩ : ∃ i1, i1 = (v : Int) + ((wd : Nat) : Int) := ⟨_, rfl⟩
  rw [← hi1] at HST ⊢
  have h1 : 0 ≤ i1 ∧ i1 ≤ 1000 := by omega
  clear hi1
  have h0 : (0 : Int) ≤ (q : Int) ∧ (q : Int) ≤ 1000 := by omega
  go_enter Try.func97, Try.ntmps97
  go_wp2_with fail
  refine HST.out.mono ?_; rintro e w2 ⟨g, ca, cc, rs, ia, ic, rfl, h, dc, hd, hhi, dx, u2⟩
  have V2 := V1.trans (u2.mono V1.size)
  have R2 := R1.below u2
  have hgr : w.heap.size < g := by have := (h.feet g (by simp)).1; omega
  rw [Z1] at h hhi
  have hb : w.heap.size + 1 ≤ w2.heap.size := by have := u2.size; omega
  clear V1 R1 u2 Z1 HST
  have HI : Hid ((spL (q : Int) v).length = v) := spL_len _ _
  have HAL : Hid (AllL wd (datas' rs)) := Lib.hid (by rw [hd]; exact ceL_all wd n)
  have HR := Lib.hid dc.len
  have hle := dc.le
  have hle2 := dx.ints.le
  have HH := Lib.hid hhi
  have HD0 := Lib.hid hd
  clear hhi hd
  obtain ⟨I, hI⟩ : ∃ I, I = spL (q : Int) v := ⟨_, rfl⟩
  rw [← hI] at dx HI
  have HSI := Lib.hid hI
  clear hI
  have hvI : IntKind.i64.wrap ((q : Int) + (v : Int)) = (q : Int) + (v : Int) := IntWalk.i64_in _ (by omega)
  go_wp2_with fail
  refine (gdRange_any ((q : Int) + v) wd _ (by omega) (by omega)).mono ?_; rintro e w5 ⟨va, vc, rfl, ov, u5⟩
  have M1 := h.below u5
  have dc1 := dc.below u5
  have dx1 := dx.below u5
  have dv := ov.intD (Disj.of_rng ov.feet h.feet (.inr (Nat.le_refl _)))
  have R5 := R2.below u5
  have V5 := V2.trans (u5.mono V2.size)
  have hb5 : w.heap.size + 1 ≤ w5.heap.size := Nat.le_trans hb u5.size
  clear ov u5 h hb dc dx R2 V2
  have hb := hb5
  have R2 := R5
  have V2 := V5
  clear hb5 R5 V5
  have hvl : (spL ((q : Int) + v) wd).length = wd := spL_len _ _
  obtain ⟨V, hV⟩ : ∃ V, V = spL ((q : Int) + v) wd := ⟨_, rfl⟩
  rw [← hV] at dv hvl
  have HV := Lib.hid hV
  clear hV
  have HVL := Lib.hid hvl
  clear hvl hvI
  go_wp2
  go_loopw [30] (fun u wr => ∃ i F1, i ≤ n ∧ u = .int .i64 (i : Nat) ∧ (∃ oa on oc, Own wr w5.heap.size oa on oc (wrG ((q : Int) + i1) I V (datas' rs) [] i).2 ∧ Disj (foot oa oc) F1 ∧ Mk 79 wr (w.heap.size + 1) g q i1 (wrG ((q : Int) + i1) I V (datas' rs) [] i).1 F1 oa on oc) ∧ Stp [g] w5 F1 wr) (fun u _ => n - (intOf u).toNat)
  case atStart => exact ⟨0, [g], Nat.zero_le _, rfl, ⟨_, _, _, Own.nil0 _ _ _, foot_nil _ _, M1⟩, Stp.refl _ _⟩
  case round =>
    obtain ⟨i, F1, hk, rfl, ⟨oa, on, oc, own, dd, M2⟩, S2⟩ := hrel
    clear M1
    by_cases hlt : i < n
    · have hil : i < (datas' rs).length := by rw [datas_len, HR.out]; exact hlt
      obtain ⟨hG, hG2⟩ := wrG_len ((q : Int) + i1) I V (datas' rs) [] i
      rw [HI.out, HVL.out, List.length_nil] at hG
      rw [HVL.out] at hG2
      have hGb : (6 * v + 3 + 9 * wd) * i ≤ 250 * 8 := Nat.mul_le_mul (by omega) (by omega)
      have hOb : wd * i ≤ 20 * 8 := Nat.mul_le_mul (by omega) (by omega)
      have hml : on ≤ 160 := by have := own.len; omega
      have HS0 := wrG_succ ((q : Int) + i1) I V (datas' rs) [] i
      rw [datas_getD _ _ (by rw [HR.out]; exact hlt)] at HS0
      have hcl := HAL.out.at i hil
      rw [datas_getD _ _ (by rw [HR.out]; exact hlt)] at hcl
      obtain ⟨gc, oc', hgc, _, dr⟩ := dc1.at i hlt
      subst hgc
      have ci := (dc1.stp S2).cellsAt i hlt
      generalize rowAt rs i = r at *
      obtain ⟨ra, rc, C⟩ := r
      simp only at HS0 hcl ci dr
      obtain ⟨⟨G1, O⟩, hr⟩ : ∃ r, r = (wrG ((q : Int) + i1) I V (datas' rs) [] i) := ⟨_, rfl⟩
      rw [← hr] at HS0 hG hG2 M2 own
      clear hr
      simp only at hG hG2 M2 own
      unfold wrS at HS0
      simp only at HS0
      have hm := maG_len ((q : Int) + i1) i I G1
      rw [HI.out] at hm
      rw [hcl] at ci dr
      rw [HVL.out] at HS0
      clear hcl
      have dxs := dx1.stp S2
      go_wp2_with fail
      clear ci
      refine (meMatch_any _ _ _ _ _ (w.heap.size + 1) g q i1 _ F1 _ M2 (Nat.le_trans hb S2.size) h0 h1 dxs (by omega) (by omega) (by omega)).mono ?_; rintro e w6 ⟨rfl, F2, M3, s3⟩
      obtain ⟨ow3, dw3⟩ := own.stp dd s3
      have S3 := S2.trans s3
      clear M2 S2 own dd dxs s3
      obtain ⟨⟨G2, z⟩, hz⟩ : ∃ r, r = maG ((q : Int) + i1) i I G1 := ⟨_, rfl⟩
      rw [← hz] at HS0 hm M3
      try rw [← hz]
      clear hz
      simp only at HS0 hm M3
      have hch := chG_len ((q : Int) + i1) z V C G2 wd
      obtain ⟨⟨G3, L⟩, hr3⟩ : ∃ r, r = chG ((q : Int) + i1) z V C G2 wd := ⟨_, rfl⟩
      have HCH := Lib.hid hr3
      rw [← hr3] at HS0 hch
      clear hr3
      simp only at HS0 hch
      have HS := Lib.hid HS0
      clear HS0
      have dvs := dv.stp S3
      have drs := dr.stp S3
      go_wp2
      have M3' := M3.drew
      obtain ⟨_, x3, y3, _⟩ := M3'.outs none 0 0
      go_region_law (first | (refine step_appJ _ (by rfl) _ _ (by rfl) w5.heap.size oa on oc O (by rfl) ow7 _ wd _ _ (by rfl) o7.ints (by omega) S7.size ?_; intro a8 c8 w8 o8 _ g8 _ m8; have O8 := Only.of_grown g8; have M8 := Mk.only M7 O8 dw7; obtain ⟨_, x8, y8, _⟩ := M8.outs none 0 0) | (go_simp; go_at_call 87; refine (gdPick_any z _ wd _ V _ wd _ C (w.heap.size + 1) g q i1 G2 F2 _ M3.drew (Nat.le_trans hb S3.size) h0 h1 (dvs.below ((Below.refl _ _).drew)) (drs.below ((Below.refl _ _).drew)) (Nat.le_refl _) (by omega) (by omega)).mono ?_; rintro e w7 ⟨a7, c7, F7, rfl, o7, d7, M7, s7⟩; obtain ⟨_, x7, y7, hgF⟩ := M7.outs none 0 0; obtain ⟨ow7, dw7⟩ := (ow3.below ((Below.refl _ _).drew)).stp dw3 s7; have S7 := S3.drew.trans s7))
      all_goals have S8 := Stp.onto S7 O8 (fun k hk => (ow7.feet k hk).1)
      all_goals have d8 : Disj (foot a8 c8) F7 := m8.disj dw7 (fun k hk => (M7.feet k hk).2)
      all_goals obtain ⟨M9, _, _, _⟩ := M8.outs a8 (on + wd) c8
      all_goals have O9 : Only F7 w8 (w8.setCell ⟨g, 3, none⟩ (.slice a8 (on + wd) c8)) := (Only.refl _ _).setCell _ _ hgF
      all_goals have o9 := Own.only o8 O9 d8
      all_goals have S9 : Stp [g] w5 F7 _ := S8.trans ⟨O9, fun k hk => .inl hk⟩
      all_goals rw [← HCH.out] at o9 M9
      all_goals clear x3 y3 x7 y7 x8 y8 M3 S3 ow3 dw3 M7 S7 ow7 dw7 M8 S8 O8 O9 o7 d7 g8 m8 o8 s7 M3' dvs drs
      all_goals
        go_wp2
        go_roundw
        case rel => exact ⟨i + 1, F7, by omega, by go_num, ⟨_, _, _, by rw [HS.out]; exact o9, d8, by rw [HS.out]; exact M9⟩, S9⟩
        case measure => simp [intOf]; omega
    · obtain rfl : i = n := by omega
      rw [HSI.out, HD0.out, HV.out] at M2 own
      have hge2 : ¬ (i : Int) < (i : Int) := by omega
      obtain ⟨ga, gn, gc, hB, ho, hg, hbg, hF⟩ := M2
      have R6 := R2.only S2.only (by simp; omega)
      have V6 := V2.trans (S2.out (B := w.heap.size) V2.size (by simp; omega))
      have Z6 := S2.size
      have hdd : Disj (foot ga gc) (foot oa oc) := fun k hk hk' => dd k hk' (by rw [hF]; exact List.mem_cons_of_mem _ hk)
      have R7 := R6
      have ho7 := ho
      have oo7 := own
      have V7 := V6
      have z0 : wr.cell? ⟨g, 0, none⟩ = some (.int .i64 (q : Int)) := hB.cell 0
      have z1 : wr.cell? ⟨g, 1, none⟩ = some (.int .i64 i1) := hB.cell 1
      have z2 : wr.cell? ⟨g, 2, none⟩ = some (.slice ga gn gc) := hB.cell 2
      have z3 : wr.cell? ⟨g, 3, none⟩ = some (.slice oa on oc) := hB.cell 3
      have r0 : wr.cell? ⟨w.heap.size, 0, none⟩ = some (.int .i64 0) := R7.cell 0
      have q0 : wr.frozen? ⟨w.heap.size, 0, none⟩ = false := R7.frozen 0
      have r1 : wr.cell? ⟨w.heap.size, 1, none⟩ = some (.int .i64 0) := R7.cell 1
      have q1 : wr.frozen? ⟨w.heap.size, 1, none⟩ = false := R7.frozen 1
      have r2 : wr.cell? ⟨w.heap.size, 2, none⟩ = some (.slice none 0 0) := R7.cell 2
      have q2 : wr.frozen? ⟨w.heap.size, 2, none⟩ = false := R7.frozen 2
      have r3 : wr.cell? ⟨w.heap.size, 3, none⟩ = some (.slice none 0 0) := R7.cell 3
      have q3 : wr.frozen? ⟨w.heap.size, 3, none⟩ = false := R7.frozen 3
      have Q1 := Lib.hid ho7.feet
      have Q2 := Lib.hid oo7.feet
      have GG := (((((Only.refl [w.heap.size] wr).setCell ⟨w.heap.size, 0, none⟩ (.int .i64 (q : Int)) (by simp)).setCell ⟨w.heap.size, 1, none⟩ (.int .i64 i1) (by simp)).setCell ⟨w.heap.size, 2, none⟩ (.slice ga gn gc) (by simp)).setCell ⟨w.heap.size, 3, none⟩ (.slice oa on oc) (by simp))
      have HG := Lib.hid GG
      clear GG
      go_wp2
      have GG := HG.out
      exact bodyPost_ret (v := .agg #[.int .i64 (q : Int), .int .i64 i1, .slice ga gn gc, .slice oa on oc]) (by simp [results, Try.results97, go_sem, r0, r1, r2, r3]) rfl ⟨_, _, _, _, _, _, rfl, (ho7.only GG (fun k hk hk' => by have := Q1.out k hk; simp at hk'; omega)).lower (by omega), ((oo7.only GG (fun k hk hk' => by have := Q2.out k hk; simp at hk'; omega)).lower (by omega)).rd, hdd, V7.trans (GG.below V7.size (by simp))⟩
end Go.Proofs.Ytkbhigdciokfkaa
namespace Go.Proofs.Ytkbhigdciokfkaa
open Go.RowKit
set_option maxHeartbeats 8000000 in
set_option maxRecDepth 100000 in
theorem meIf_2 (n wd : Int) (w : World) :
    Calls Try.prog 48 #[.int .i64 2, .int .i64 n, .int .i64 wd] w fun e w' => ∃ ga gn gc oa on oc, e = .returned (.tuple #[.agg #[.int .i64 (mS0 n wd), .int .i64 (mS1 2 n wd), .slice ga gn gc, .slice oa on oc], .bool (memB n wd)]) ∧ OwnF 3 eGate w' w.heap.size ga gn gc (mG 2 n wd) ∧ Rd w' w.heap.size oa on oc (mO 2 n wd) ∧ Disj (foot ga gc) (foot oa oc) ∧ Below w.heap.size w w' := by
  have V1 : Below w.heap.size w (w.alloc (.cells #[.int .i64 0, .int .i64 0, .slice none 0 0, .slice none 0 0] 25)) := (Below.refl _ _).alloc (Nat.le_refl _) _
  have R1 : Blk (w.alloc (.cells #[.int .i64 0, .int .i64 0, .slice none 0 0, .slice none 0 0] 25)) w.heap.size 25 #[.int .i64 0, .int .i64 0, .slice none 0 0, .slice none 0 0] := Blk.new w _ _
  have Z1 : w.heap.size + 1 ≤ (w.alloc (.cells #[.int .i64 0, .int .i64 0, .slice none 0 0, .slice none 0 0] 25)).heap.size := by simp
  cases hg : (inB n 1 8 && inB wd 1 4)
  · have hm : memB n wd = false := by unfold memB; rw [hg]; rfl
    unfold mS0 mS1 mG mO
    rw [hm]
    simp only [Bool.false_eq_true, if_false]
    go_enter Try.func48, Try.ntmps48
    go_wp2_with fail
    generalize (w.alloc (.cells #[.int .i64 0, .int .i64 0, .slice none 0 0, .slice none 0 0] 25)) = w1 at *
    refine (meGood_any n wd _).mono ?_; rintro e w' ⟨rfl, rfl⟩
    rw [hg]
    have r0 : w1.cell? ⟨w.heap.size, 0, none⟩ = some (.int .i64 0) := R1.cell 0
    have r1 : w1.cell? ⟨w.heap.size, 1, none⟩ = some (.int .i64 0) := R1.cell 1
    have r2 : w1.cell? ⟨w.heap.size, 2, none⟩ = some (.slice none 0 0) := R1.cell 2
    have r3 : w1.cell? ⟨w.heap.size, 3, none⟩ = some (.slice none 0 0) := R1.cell 3
    have q0 : w1.frozen? ⟨w.heap.size, 0, none⟩ = false := R1.frozen 0
    have q1 : w1.frozen? ⟨w.heap.size, 1, none⟩ = false := R1.frozen 1
    have q2 : w1.frozen? ⟨w.heap.size, 2, none⟩ = false := R1.frozen 2
    have q3 : w1.frozen? ⟨w.heap.size, 3, none⟩ = false := R1.frozen 3
    go_wp2
    have GG := (((((Only.refl [w.heap.size] w1).setCell ⟨w.heap.size, 0, none⟩ (.int .i64 0) (by simp)).setCell ⟨w.heap.size, 1, none⟩ (.int .i64 0) (by simp)).setCell ⟨w.heap.size, 2, none⟩ (.slice none 0 0) (by simp)).setCell ⟨w.heap.size, 3, none⟩ (.slice none 0 0) (by simp))
    exact bodyPost_ret (v := .tuple #[.agg #[.int .i64 0, .int .i64 0, .slice none 0 0, .slice none 0 0], .bool false]) (by simp [results, Try.results48, go_sem, r0, r1, r2, r3]) rfl ⟨none, 0, 0, none, 0, 0, rfl, OwnC.nil0 _ _ _ _ _, (Own.nil0 _ _ _).rd, foot_nil _ _, V1.trans (GG.below V1.size (by simp))⟩
  · have hg2 := hg
    simp only [Bool.and_eq_true] at hg2
    obtain ⟨⟨n1, n2⟩, d1, d2⟩ : (1 ≤ n ∧ n ≤ 8) ∧ 1 ≤ wd ∧ wd ≤ 4 := ⟨inB_true hg2.1, inB_true hg2.2⟩
    clear hg2
    obtain ⟨n, rfl⟩ : ∃ k : Nat, n = k := ⟨n.toNat, by omega⟩
    obtain ⟨wd, rfl⟩ : ∃ k : Nat, wd = k := ⟨wd.toNat, by omega⟩
    have hok := me_ok 2 n wd (by omega) (by omega) (by omega) (by omega)
    have eM : meMore 2 wd = wd := by unfold meMore; simp
    have hmd : memB n wd = decide (n * wd ≤ 20) := by unfold memB; rw [hg, Bool.true_and]; rw [decide_eq_decide, ← Int.natCast_mul]; omega
    obtain ⟨v, hv⟩ : ∃ v, wid (n : Int) = v := ⟨_, rfl⟩
    rw [eM, hv, Int.natCast_add] at hok
    have HV := Lib.hid hv
    unfold mS0 mS1 mG mO
    rw [hmd]
    simp only [Int.toNat_natCast]
    rw [eM, hv]
    have e3 : ((n : Int) * (wd : Int)) = ((n * wd : Nat) : Int) := (Int.natCast_mul _ _).symm
    rw [e3]
    clear e3 hv eM hmd
    obtain ⟨p, hp⟩ : ∃ p, p = meG 2 n wd := ⟨_, rfl⟩
    rw [← hp] at hok ⊢
    have HP := Lib.hid hp
    clear hp
    obtain ⟨q, hq⟩ : ∃ q, q = n * wd := ⟨_, rfl⟩
    obtain ⟨i1, hi1⟩ : ∃ i1, i1 = (v : Int) + ((wd : Nat) : Int) := ⟨_, rfl⟩
    rw [← hq, ← hi1] at hok ⊢
    have HQ := Lib.hid hq
    have HI1 := Lib.hid hi1
    clear hq hi1
    by_cases hnw : q ≤ 20
    · rw [decide_eq_true hnw] at hok ⊢
      simp only [if_true]
      have HOK := Lib.hid hok
      clear hok hnw
      go_enter Try.func48, Try.ntmps48
      go_wp2_with fail
      generalize (w.alloc (.cells #[.int .i64 0, .int .i64 0, .slice none 0 0, .slice none 0 0] 25)) = w1 at *
      refine (meGood_any n wd _).mono ?_; rintro e w' ⟨rfl, rfl⟩
      rw [hg]
      go_wp2_with fail
      refine (l1In_any _ _ _ _).mono ?_; rintro e w' ⟨rfl, rfl⟩
      rw [show inB 2 0 3 = true from rfl]
      go_wp2_with fail
      refine (meWrite_any n wd v _ ⟨by omega, by omega⟩ ⟨by omega, by omega⟩ HV.out).mono ?_; rintro e w2 ⟨ga, gn, gc, oa, on, oc, rfl, og, oo, dd, u2⟩
      rw [← HP.out] at og oo
      rw [← HQ.out, ← HI1.out]
      have V2 := V1.trans (u2.mono V1.size)
      have R2 := R1.below u2
      have Z2 := u2.size
      have hgn := og.len
      have HC : Hid (ciB (q : Int) i1 gn p.1 p.2 = true) := Lib.hid (by have := HOK.out; rw [hgn, Nat.mul_div_cancel _ (by decide)] at this; exact this)
      clear hgn V1 R1 u2
      go_wp2_with fail
      refine (ciIf_yes _ _ _ _ _ p.1 _ _ _ p.2 _ og.flat oo.ints HC.out).mono ?_; rintro e w3 ⟨rfl, u3⟩
      have V3 := V2.trans (u3.mono V2.size)
      have R3 := R2.below u3
      have og3 := og.below u3
      have oo3 := oo.below u3
      have Q1 := Lib.hid og3.feet
      have Q2 := Lib.hid oo3.feet
      clear V2 R2 og oo u3
      have r0 : w3.cell? ⟨w.heap.size, 0, none⟩ = some (.int .i64 0) := R3.cell 0
      have r1 : w3.cell? ⟨w.heap.size, 1, none⟩ = some (.int .i64 0) := R3.cell 1
      have r2 : w3.cell? ⟨w.heap.size, 2, none⟩ = some (.slice none 0 0) := R3.cell 2
      have r3 : w3.cell? ⟨w.heap.size, 3, none⟩ = some (.slice none 0 0) := R3.cell 3
      have q0 : w3.frozen? ⟨w.heap.size, 0, none⟩ = false := R3.frozen 0
      have q1 : w3.frozen? ⟨w.heap.size, 1, none⟩ = false := R3.frozen 1
      have q2 : w3.frozen? ⟨w.heap.size, 2, none⟩ = false := R3.frozen 2
      have q3 : w3.frozen? ⟨w.heap.size, 3, none⟩ = false := R3.frozen 3
      go_wp2
      have GG := (((((Only.refl [w.heap.size] w3).setCell ⟨w.heap.size, 0, none⟩ (.int .i64 (q : Int)) (by simp)).setCell ⟨w.heap.size, 1, none⟩ (.int .i64 i1) (by simp)).setCell ⟨w.heap.size, 2, none⟩ (.slice ga gn gc) (by simp)).setCell ⟨w.heap.size, 3, none⟩ (.slice oa on oc) (by simp))
      exact bodyPost_ret (v := .tuple #[.agg #[.int .i64 (q : Int), .int .i64 i1, .slice ga gn gc, .slice oa on oc], .bool true]) (by simp [results, Try.results48, go_sem, r0, r1, r2, r3]) rfl ⟨ga, gn, gc, oa, on, oc, rfl, (og3.only GG (fun k hk hk' => by have := Q1.out k hk; simp at hk'; omega)).lower (by omega), (oo3.only GG (fun k hk hk' => by have := Q2.out k hk; simp at hk'; omega)).lower (by omega), dd, V3.trans (GG.below V3.size (by simp))⟩
    · rw [decide_eq_false hnw] at hok ⊢
      simp only [Bool.false_eq_true, if_false]
      have HOK := Lib.hid hok
      clear hok hnw
      go_enter Try.func48, Try.ntmps48
      go_wp2_with fail
      generalize (w.alloc (.cells #[.int .i64 0, .int .i64 0, .slice none 0 0, .slice none 0 0] 25)) = w1 at *
      refine (meGood_any n wd _).mono ?_; rintro e w' ⟨rfl, rfl⟩
      rw [hg]
      go_wp2_with fail
      refine (l1In_any _ _ _ _).mono ?_; rintro e w' ⟨rfl, rfl⟩
      rw [show inB 2 0 3 = true from rfl]
      go_wp2_with fail
      refine (meWrite_any n wd v _ ⟨by omega, by omega⟩ ⟨by omega, by omega⟩ HV.out).mono ?_; rintro e w2 ⟨ga, gn, gc, oa, on, oc, rfl, og, oo, dd, u2⟩
      rw [← HP.out] at og oo
      rw [← HQ.out, ← HI1.out]
      have V2 := V1.trans (u2.mono V1.size)
      have R2 := R1.below u2
      have Z2 := u2.size
      have hgn := og.len
      have HC : Hid (ciB (q : Int) i1 gn p.1 p.2 = false) := Lib.hid (by have := HOK.out; rw [hgn, Nat.mul_div_cancel _ (by decide)] at this; exact this)
      clear hgn V1 R1 u2
      go_wp2_with fail
      refine (ciIf_no _ _ _ _ _ p.1 _ _ _ p.2 _ og.flat oo.ints HC.out).mono ?_; rintro e w3 ⟨rfl, u3⟩
      have V3 := V2.trans (u3.mono V2.size)
      have R3 := R2.below u3
      clear V2 R2 og oo u3
      have r0 : w3.cell? ⟨w.heap.size, 0, none⟩ = some (.int .i64 0) := R3.cell 0
      have r1 : w3.cell? ⟨w.heap.size, 1, none⟩ = some (.int .i64 0) := R3.cell 1
      have r2 : w3.cell? ⟨w.heap.size, 2, none⟩ = some (.slice none 0 0) := R3.cell 2
      have r3 : w3.cell? ⟨w.heap.size, 3, none⟩ = some (.slice none 0 0) := R3.cell 3
      have q0 : w3.frozen? ⟨w.heap.size, 0, none⟩ = false := R3.frozen 0
      have q1 : w3.frozen? ⟨w.heap.size, 1, none⟩ = false := R3.frozen 1
      have q2 : w3.frozen? ⟨w.heap.size, 2, none⟩ = false := R3.frozen 2
      have q3 : w3.frozen? ⟨w.heap.size, 3, none⟩ = false := R3.frozen 3
      go_wp2
      have GG := (((((Only.refl [w.heap.size] w3).setCell ⟨w.heap.size, 0, none⟩ (.int .i64 0) (by simp)).setCell ⟨w.heap.size, 1, none⟩ (.int .i64 0) (by simp)).setCell ⟨w.heap.size, 2, none⟩ (.slice none 0 0) (by simp)).setCell ⟨w.heap.size, 3, none⟩ (.slice none 0 0) (by simp))
      exact bodyPost_ret (v := .tuple #[.agg #[.int .i64 0, .int .i64 0, .slice none 0 0, .slice none 0 0], .bool false]) (by simp [results, Try.results48, go_sem, r0, r1, r2, r3]) rfl ⟨none, 0, 0, none, 0, 0, rfl, OwnC.nil0 _ _ _ _ _, (Own.nil0 _ _ _).rd, foot_nil _ _, V3.trans (GG.below V3.size (by simp))⟩
end Go.Proofs.Ytkbhigdciokfkaa
namespace Go.Proofs.Ytkbhigdciokfkaa
open Go.RowKit
set_option maxHeartbeats 8000000 in
set_option maxRecDepth 100000 in
theorem WriteCell_any (wd : Int) (a : Option Addr) (n c : Nat) (l : List Int) (i : Int) (v : Int) (w : World) (h : Ints w a n c l) :
    Calls Try.prog 35 #[.int .i64 wd, .slice a n c, .int .i64 i, .int .i64 v] w fun e w' => ∃ a1 n1 c1, e = .returned (.tuple #[.slice a1 n1 c1, .bool (wcB wd l i v)]) ∧ Own w' w.heap.size a1 n1 c1 (wcR wd l i v) ∧ Below w.heap.size w w' := by
  have hlen := h.len
  have hle := h.le
  cases hc : celB wd l i
  · have HC := Lib.hid hc
    have e0 : wcB wd l i v = false := by unfold wcB; rw [hc]; rfl
    have e1 : wcR wd l i v = [] := by unfold wcR; rw [e0]; rfl
    rw [e1, e0]
    clear e0
    clear hc e1 hlen
    go_enter Try.func35, Try.ntmps35
    go_wp2_with fail
    refine (areCells_any wd a n c l i _ h).mono ?_; rintro e w1 ⟨rfl, V1⟩; rw [HC.out]
    go_wp2
    go_ret2
    exact ⟨none, 0, 0, rfl, Own.nil0 _ _ _, V1⟩
  · have hc2 := hc
    unfold celB at hc2
    rw [Bool.and_eq_true] at hc2
    obtain ⟨hm, hT⟩ := hc2
    rw [← hlen] at hm
    obtain ⟨⟨n1, n8⟩, ⟨w1', w4'⟩, _⟩ := memB_true hm
    obtain ⟨wd, rfl⟩ : ∃ k : Nat, wd = k := ⟨wd.toNat, by omega⟩
    obtain ⟨hl, hi⟩ := celT_true (wd := wd) (by omega) (by omega) hT
    have hp2 := p2_le (k := wd) (by omega)
    cases hv : inB v 0 (2 ^ wd - 1)
    · have HC := Lib.hid hc
      have HVV := Lib.hid hv
      have e0 : wcB wd l i v = false := by unfold wcB; rw [hc, Int.toNat_natCast, hv]; rfl
      have e1 : wcR wd l i v = [] := by unfold wcR; rw [e0]; rfl
      rw [e1, e0]
      clear hc e1 e0 hlen hm hT hl hi hv
      have hw1 : 1 ≤ wd ∧ wd ≤ 4 := by omega
      clear hp2 w1' w4'
      have hwd4 := hw1.2
      have hs64 : (wd : Int) < 64 := by omega
      have hu : IntKind.u64.wrap (wd : Int) = (wd : Int) := IntWalk.u64_in _ (by omega)
      have hq2 : wrap64 ((2 : Int) ^ wd) = 2 ^ wd := by obtain ⟨h1, h2⟩ := p2_le hwd4; generalize (2 : Int) ^ wd = P at *; exact IntWalk.wrap64_in _ (by omega)
      have hq3 : wrap64 (1 * 2 ^ wd) = 2 ^ wd := by rw [Int.one_mul]; exact hq2
      have hq4 : wrap64 ((2 : Int) ^ wd - 1) = 2 ^ wd - 1 := by obtain ⟨h1, h2⟩ := p2_le hwd4; generalize (2 : Int) ^ wd = P at *; exact IntWalk.wrap64_in _ (by omega)
      have hq5 : (1 : Int) * 2 ^ wd = 2 ^ wd := Int.one_mul _
      go_enter Try.func35, Try.ntmps35
      go_wp2_with fail
      refine (areCells_any wd a n c l i _ h).mono ?_; rintro e w1 ⟨rfl, V1⟩; rw [HC.out]
      go_wp2_with fail
      refine (within_any _ _ _ _).mono ?_; rintro e w' ⟨rfl, rfl⟩; rw [HVV.out]
      go_wp2
      go_ret2
      exact ⟨none, 0, 0, rfl, Own.nil0 _ _ _, V1⟩
    · have HVV := Lib.hid hv
      have hvr := of_decide_eq_true hv
      have e0 : wcB wd l i v = true := by unfold wcB; rw [hc, Int.toNat_natCast, hv]; rfl
      have e1 : wcR wd l i v = mrR 2 n wd l i (btL v wd) := by unfold wcR; rw [e0, if_pos rfl, hlen]; rfl
      rw [e1, e0]
      clear e1 e0 hv
      have HC := Lib.hid hc
      have hw3 := wid8 n (by omega)
      have hNI := mrNI_le 2 n wd (by omega) (by omega)
      have hGA := mr_gates 2 n wd hm
      have hOU := mr_outs 2 n wd hm
      have hGL : mG 2 n wd = (meG 2 n wd).1 := by unfold mG; rw [if_pos hm]; rfl
      have hOL : mO 2 n wd = (meG 2 n wd).2 := by unfold mO; rw [if_pos hm]; rfl
      have hON := meO_len 2 n wd (by omega) (by omega)
      have hG3 := (m_len 2 n wd).1
      rw [hGL] at hG3
      have hQ : mrNI 2 n wd = n * wd + (wid (n : Int) + wd) := by unfold mrNI meMore; simp
      rw [hQ] at hGA hOU hNI
      clear hQ
      have hM8 : meN 2 n ≤ 8 ∧ 1 ≤ meN 2 n := by unfold meN; split <;> omega
      obtain ⟨RS, hRS⟩ : ∃ r, r = mrR 2 n wd l i (btL v wd) := ⟨_, rfl⟩
      rw [← hRS]
      have HR := Lib.hid (show RS = cnL (pkL (evL (meG 2 n wd).1 (cbL l wd n ++ (btL i (wid (n : Int)) ++ btL v wd)) ((meG 2 n wd).1.length / 3)) (meG 2 n wd).2 (meN 2 n * wd)) wd (meN 2 n) from by rw [hRS]; rfl)
      clear hRS
      have HBW : Hid (Bt (btL i (wid (n : Int)) ++ btL v wd)) := Lib.hid ((btL_bits _ _).app (btL_bits _ _))
      have HM := Lib.hid hm
      have HL := Lib.hid hl
      have HI := Lib.hid hi
      clear hm hc hT hl hi hlen
      obtain ⟨V, hV⟩ : ∃ V, V = wid (n : Int) := ⟨_, rfl⟩
      rw [← hV] at hw3 HR HBW hGA hOU hNI
      have HV := Lib.hid hV
      clear hV
      replace hGA := Lib.hid hGA
      replace hOU := Lib.hid hOU
      obtain ⟨m, hmN⟩ : ∃ m, m = meN 2 n := ⟨_, rfl⟩
      rw [← hmN] at hON hM8 HR
      have HMN := Lib.hid hmN
      clear hmN
      obtain ⟨mw, hmw⟩ : ∃ mw, mw = m * wd := ⟨_, rfl⟩
      rw [← hmw] at hON HR
      have HMW := Lib.hid hmw
      clear hmw
      have hwd1 : 1 ≤ wd := by omega
      have hwd4 : wd ≤ 4 := by omega
      have hn1 : (1 : Int) ≤ n := by omega
      have hn256 : (n : Int) ≤ 256 := by omega
      have hM1 := hM8.1
      have hM2 := hM8.2
      clear hM8
      have hM0 : (0 : Int) < (m : Int) := by omega
      have hv1 : 0 ≤ v ∧ v ≤ 1000000000 := by omega
      have HVR := Lib.hid hv1
      clear hv1 hvr
      have HW4 := Lib.hid (show wd = 1 ∨ wd = 2 ∨ wd = 3 ∨ wd = 4 by omega)
      clear hp2
      go_enter Try.func35, Try.ntmps35
      go_wp2_with fail
      refine (areCells_any wd a n c l i _ h).mono ?_; rintro e w1 ⟨rfl, V1⟩; rw [HC.out]
      have hs64 : (wd : Int) < 64 := by omega
      have hu : IntKind.u64.wrap (wd : Int) = (wd : Int) := IntWalk.u64_in _ (by omega)
      have hq2 : wrap64 ((2 : Int) ^ wd) = 2 ^ wd := by obtain ⟨h1, h2⟩ := p2_le hwd4; generalize (2 : Int) ^ wd = P at *; exact IntWalk.wrap64_in _ (by omega)
      have hq3 : wrap64 (1 * 2 ^ wd) = 2 ^ wd := by rw [Int.one_mul]; exact hq2
      have hq4 : wrap64 ((2 : Int) ^ wd - 1) = 2 ^ wd - 1 := by obtain ⟨h1, h2⟩ := p2_le hwd4; generalize (2 : Int) ^ wd = P at *; exact IntWalk.wrap64_in _ (by omega)
      have hq5 : (1 : Int) * 2 ^ wd = 2 ^ wd := Int.one_mul _
      go_wp2_with fail
      refine (within_any _ _ _ _).mono ?_; rintro e w' ⟨rfl, rfl⟩; rw [HVV.out]
      clear hs64 hu hq2 hq3 hq4 hq5
      go_wp2_with fail
      refine (WriteCircuit_any n wd _).mono ?_; rintro e w2 ⟨ga, gn, gc, oa, on, oc, rfl, og, ro, dd, u2⟩
      rw [HM.out]
      rw [hGL] at og
      rw [hOL] at ro
      clear dd hGL hOL
      generalize mS0 n wd = s0 at *
      generalize mS1 2 n wd = s1 at *
      generalize (meG 2 n wd).1 = G at *
      generalize (meG 2 n wd).2 = O at *
      have V2 := V1.trans (u2.mono V1.size)
      have Z2 := V2.size
      have VV := V2.alloc V2.size (.cells #[.int .i64 s0, .int .i64 s1, .slice ga gn gc, .slice oa on oc] 25)
      have R : Blk (w2.alloc (.cells #[.int .i64 s0, .int .i64 s1, .slice ga gn gc, .slice oa on oc] 25)) w2.heap.size 25 #[.int .i64 s0, .int .i64 s1, .slice ga gn gc, .slice oa on oc] := Blk.new w2 _ _
      have og2 := og.flat.below ((Below.refl w2.heap.size w2).alloc (Nat.le_refl _) (.cells #[.int .i64 s0, .int .i64 s1, .slice ga gn gc, .slice oa on oc] 25))
      have ro2 := ro.ints.below ((Below.refl w2.heap.size w2).alloc (Nat.le_refl _) (.cells #[.int .i64 s0, .int .i64 s1, .slice ga gn gc, .slice oa on oc] 25))
      have hon := ro.len
      have hgn := og.len
      clear u2 V1 V2 og ro
      have hon2 : on = mw := by rw [hon, hON]
      subst hon2
      have HGN : Hid (gn = G.length / 3) := Lib.hid (by omega)
      clear hon hgn hON
      go_wp2_with fail
      generalize (w2.alloc (.cells #[.int .i64 s0, .int .i64 s1, .slice ga gn gc, .slice oa on oc] 25)) = w9 at *
      have h9 := h.below VV
      have hz9 := VV.size
      have x0 : w9.cell? ⟨w2.heap.size, 0, none⟩ = some (.int .i64 s0) := R.cell 0
      have x1 : w9.cell? ⟨w2.heap.size, 1, none⟩ = some (.int .i64 s1) := R.cell 1
      have x2 : w9.cell? ⟨w2.heap.size, 2, none⟩ = some (.slice ga gn gc) := R.cell 2
      have x3 : w9.cell? ⟨w2.heap.size, 3, none⟩ = some (.slice oa on oc) := R.cell 3
      have hzB : w2.heap.size < w9.drew.heap.size := R.lt
      clear R h
      go_region_held3 (fun W => W.cell? ⟨w2.heap.size, 0, none⟩ = some (.int .i64 s0) ∧ W.cell? ⟨w2.heap.size, 1, none⟩ = some (.int .i64 s1) ∧ W.cell? ⟨w2.heap.size, 2, none⟩ = some (.slice ga gn gc) ∧ W.cell? ⟨w2.heap.size, 3, none⟩ = some (.slice oa on oc))
        (first | exact ⟨keepC u13 (keepL u12 hzB (keepC u11 (keepC u10 x0))), keepC u13 (keepL u12 hzB (keepC u11 (keepC u10 x1))), keepC u13 (keepL u12 hzB (keepC u11 (keepC u10 x2))), keepC u13 (keepL u12 hzB (keepC u11 (keepC u10 x3)))⟩ | exact ⟨keepL u12 hzB (keepC u11 (keepC u10 x0)), keepL u12 hzB (keepC u11 (keepC u10 x1)), keepL u12 hzB (keepC u11 (keepC u10 x2)), keepL u12 hzB (keepC u11 (keepC u10 x3))⟩ | exact ⟨keepC u11 (keepC u10 x0), keepC u11 (keepC u10 x1), keepC u11 (keepC u10 x2), keepC u11 (keepC u10 x3)⟩ | exact ⟨keepC u10 x0, keepC u10 x1, keepC u10 x2, keepC u10 x3⟩ | go_keep)
        (first | (go_at_call 81; refine (indexWidth_any n _ hn1 hn256).mono ?_; rintro e w' ⟨rfl, rfl⟩; rw [← HV.out]) | (go_at_call 73; have _ := u10; refine (bitsOf_any v wd _ HVR.out (by omega)).mono ?_; rintro e w11 ⟨a11, c11, rfl, o11, u11⟩) | (go_at_call 73; refine (bitsOf_any i V _ HI.out (by omega)).mono ?_; rintro e w10 ⟨a10, c10, rfl, o10, u10⟩) | (refine step_appI _ (by rfl) _ _ (by rfl) w9.drew.heap.size a10 V c10 (btL i V) (by rfl) (o10.below u11) _ wd c11 (btL v wd) (by rfl) o11.ints (by omega) (by exact Nat.le_trans u10.size u11.size) ?_; intro a12 c12 w12 o12 u12 g12 hold12) | (go_at_call 80; refine (runMemory_any s0 s1 ga gn gc oa on oc wd a n c a12 (V + wd) c12 G O l (btL i V ++ btL v wd) m _ (og2.drew.below ((u10.trans (u11.mono u10.size)).trans u12)) (ro2.drew.below ((u10.trans (u11.mono u10.size)).trans u12)) (h9.drew.below ((u10.trans (u11.mono u10.size)).trans u12)) (o12.ints) (by rw [HGN.out]; exact hGA.out) (by rw [HGN.out]; exact hOU.out) HBW.out HL.out (by omega) ⟨hwd1, hwd4⟩ (by omega) (by have := HGN.out; omega) (by omega) HMW.out).mono ?_; rintro e w13 ⟨a13, c13, rfl, o13, u13⟩))
      all_goals
        rw [HGN.out, ← HR.out] at o13
        have U12 := (u10.trans (u11.mono u10.size)).trans u12
        have U := (Below.refl w9.heap.size w9).drew.trans (U12.trans (u13.mono U12.size))
        have VF := VV.trans (U.mono VV.size)
        have oF := o13.lower (b' := w.heap.size) (Nat.le_trans hz9 U12.size)
        clear u10 u11 u12 u13 o10 o11 o12 o13 U U12 g12 hold12
        go_wp2
        go_ret2
        exact ⟨_, _, _, rfl, oF, VF⟩
end Go.Proofs.Ytkbhigdciokfkaa
namespace Go.Proofs.Ytkbhigdciokfkaa
open Go.RowKit
set_option maxHeartbeats 8000000 in
set_option maxRecDepth 100000 in
theorem meRun_2_no (wd i : Int) (n : Nat) (a : Option Addr) (c : Nat) (l : List Int) (ma : Option Addr) (mn mc : Nat) (w : World) (h : Ints w a n c l) (hm : memB n wd = false) :
    Calls Try.prog 77 #[.int .i64 2, .int .i64 wd, .slice a n c, .int .i64 i, .slice ma mn mc] w fun e w' => e = .returned (.tuple #[.slice none 0 0, .bool false]) ∧ Below w.heap.size w w' := by
  have hn := h.le
  have HM := Lib.hid hm
  clear hm
  go_enter Try.func77, Try.ntmps77
  go_wp2_with fail
  refine (meIf_2 n wd _).mono ?_; rintro e w1 ⟨ga, gn, gc, oa, on, oc, rfl, og, ro, dd, u1⟩
  rw [HM.out]
  clear og ro dd
  go_wp2
  go_ret2
  exact ⟨rfl, u1.alloc u1.size _⟩
set_option maxHeartbeats 8000000 in
set_option maxRecDepth 100000 in
theorem meRun_2_yes (wd n : Nat) (a : Option Addr) (c : Nat) (l : List Int) (i : Int) (ma : Option Addr) (mn mc : Nat) (mo : List Int) (w : World) (h : Ints w a n c l) (hmo : Ints w ma mn mc mo) (hm : memB n wd = true) (hl : ∀ x ∈ l, 0 ≤ x ∧ x ≤ 1000000000) (hi : 0 ≤ i ∧ i ≤ 1000000000) (hml : mn = meMore 2 wd) (hmb : Bt mo) :
    Calls Try.prog 77 #[.int .i64 2, .int .i64 wd, .slice a n c, .int .i64 i, .slice ma mn mc] w fun e w' => ∃ a1 c1, e = .returned (.tuple #[.slice a1 (meN 2 n) c1, .bool true]) ∧ Own w' w.heap.size a1 (meN 2 n) c1 (mrR 2 n wd l i mo) ∧ Below w.heap.size w w' := by
  obtain ⟨⟨n1, n8⟩, ⟨w1', w4'⟩, _⟩ := memB_true hm
  have hn := h.le
  have hw3 := wid8 n (by omega)
  have hNI := mrNI_le 2 n wd (by omega) (by omega)
  have hGA := Lib.hid (mr_gates 2 n wd hm)
  have hOU := Lib.hid (mr_outs 2 n wd hm)
  have hGL : mG 2 n wd = (meG 2 n wd).1 := by unfold mG; rw [if_pos hm]; rfl
  have hOL : mO 2 n wd = (meG 2 n wd).2 := by unfold mO; rw [if_pos hm]; rfl
  have hON := meO_len 2 n wd (by omega) (by omega)
  have hG3 := (m_len 2 n wd).1
  rw [hGL] at hG3
  have hQ := Lib.hid (show n * wd + (wid (n : Int) + mn) = mrNI 2 n wd by unfold mrNI; rw [hml])
  have hnw : n * wd ≤ 8 * 4 := Nat.mul_le_mul (by omega) (by omega)
  have hM8 : meN 2 n ≤ 8 := by unfold meN; split <;> omega
  have hdiv : (((meN 2 n * wd : Nat) : Int)).tdiv (wd : Int) = ((meN 2 n : Nat) : Int) := by rw [Int.natCast_mul, Int.mul_tdiv_cancel _ (by omega)]
  have HR := Lib.hid (show mrR 2 n wd l i mo = cnL (pkL (evL (meG 2 n wd).1 (cbL l wd n ++ (btL i (wid n) ++ mo)) ((meG 2 n wd).1.length / 3)) (meG 2 n wd).2 (meN 2 n * wd)) wd (meN 2 n) from rfl)
  have HBV := Lib.hid (mrV_bits n wd l i mo hmb)
  have HBO := Lib.hid (mrO_bits 2 n wd l i mo hmb)
  unfold mrV at HBV
  unfold mrO mrV at HBO
  have HM := Lib.hid hm
  have HML := Lib.hid (show mn ≤ 4 by rw [hml]; unfold meMore; split <;> omega)
  clear hm hml
  obtain ⟨V, hV⟩ : ∃ V, V = wid (n : Int) := ⟨_, rfl⟩
  rw [← hV] at hw3 HR HBV HBO hQ
  have HV := Lib.hid hV
  clear hV
  obtain ⟨m, hmN⟩ : ∃ m, m = meN 2 n := ⟨_, rfl⟩
  rw [← hmN] at hON hM8 hdiv HR HBO ⊢
  have HMN := Lib.hid hmN
  clear hmN
  obtain ⟨mw, hmw⟩ : ∃ mw, mw = m * wd := ⟨_, rfl⟩
  rw [← hmw] at hON hdiv HR HBO
  have HMW := Lib.hid hmw
  have hmw32 : mw ≤ 32 := by rw [hmw]; exact Nat.mul_le_mul hM8 (show wd ≤ 4 by omega)
  clear hmw
  have hdz : ((wd : Int) == 0) = false := by simp; omega
  have hdz2 : ¬ (wd : Int) = 0 := by omega
  have z1 : ((wd : Int) = 0) = False := by simp; omega
  have z2 : (wd = 0) = False := by simp; omega
  have hwr : IntKind.i64.wrap (m : Int) = (m : Int) := IntWalk.i64_in _ (by omega)
  have hwd1 : 1 ≤ wd := by omega
  have hwd4 : wd ≤ 4 := by omega
  go_enter Try.func77, Try.ntmps77
  go_wp2_with fail
  refine (meIf_2 n wd _).mono ?_; rintro e w1 ⟨ga, gn, gc, oa, on, oc, rfl, og, ro, dd, u1⟩
  rw [HM.out]
  rw [hGL] at og
  rw [hOL] at ro
  clear dd hGL hOL
  generalize mS0 n wd = s0 at *
  generalize mS1 2 n wd = s1 at *
  generalize (meG 2 n wd).1 = G at *
  generalize (meG 2 n wd).2 = O at *
  have hon : on = mw := by have := ro.len; omega
  subst hon
  have hgn : gn = G.length / 3 := by have := og.len; omega
  have HGN := Lib.hid hgn
  have V2 := u1.alloc u1.size (.cells #[.int .i64 s0, .int .i64 s1, .slice ga gn gc, .slice oa on oc] 25)
  have R2 : Blk (w1.alloc (.cells #[.int .i64 s0, .int .i64 s1, .slice ga gn gc, .slice oa on oc] 25)) w1.heap.size 25 #[.int .i64 s0, .int .i64 s1, .slice ga gn gc, .slice oa on oc] := Blk.new w1 _ _
  have og2 := og.flat.below ((Below.refl w1.heap.size w1).alloc (Nat.le_refl _) (.cells #[.int .i64 s0, .int .i64 s1, .slice ga gn gc, .slice oa on oc] 25))
  have ro2 := ro.ints.below ((Below.refl w1.heap.size w1).alloc (Nat.le_refl _) (.cells #[.int .i64 s0, .int .i64 s1, .slice ga gn gc, .slice oa on oc] 25))
  have hz2 : w.heap.size ≤ w1.heap.size := u1.size
  have hz3 : w1.heap.size < (w1.alloc (.cells #[.int .i64 s0, .int .i64 s1, .slice ga gn gc, .slice oa on oc] 25)).heap.size := by simp
  clear og ro u1 hgn
  go_wp2_with fail
  generalize (w1.alloc (.cells #[.int .i64 s0, .int .i64 s1, .slice ga gn gc, .slice oa on oc] 25)) = w2 at *
  refine (meWidths_any wd n _ (by omega)).mono ?_; rintro e w4 ⟨a4, c4, rfl, o4, u4⟩
  have V4 := V2.trans (u4.mono V2.size)
  go_wp2_with fail
  refine (coBits_any wd n a4 c4 a n c l _ o4.ints (h.below V4) (by omega) (Nat.le_refl _) (by omega) hl).mono ?_; rintro e w5 ⟨a5, c5, rfl, o5, u5⟩
  have V5 := V4.trans (u5.mono V4.size)
  go_wp2_with fail
  refine (meIndex_any n _ n1 (by omega)).mono ?_; rintro e w' ⟨rfl, rfl⟩
  rw [← HV.out]
  go_wp2_with fail
  refine (btOf_any i V _ hi (by omega)).mono ?_; rintro e w6 ⟨a6, c6, rfl, o6, u6⟩
  have V6 := V5.trans (u6.mono V5.size)
  go_wp2_with fail
  refine (ciJoin_any a6 V c6 _ ma mn mc mo _ o6.ints (hmo.below V6) (by omega) (by have := HML.out; omega)).mono ?_; rintro e w7 ⟨a7, c7, rfl, o7, u7⟩
  have V7 := V6.trans (u7.mono V6.size)
  go_wp2_with fail
  refine (ciJoin_any a5 (n * wd) c5 _ a7 (V + mn) c7 _ _ (o5.ints.below (u6.trans (u7.mono u6.size))) o7.ints (by omega) (by have := HML.out; omega)).mono ?_; rintro e w8 ⟨a8, c8, rfl, o8, u8⟩
  have V8 := V7.trans (u8.mono V7.size)
  rw [hQ.out] at o8 ⊢
  have U8 : Below w2.heap.size w2 w8 := u4.trans ((u5.trans ((u6.trans ((u7.trans (u8.mono u7.size)).mono u6.size)).mono u5.size)).mono u4.size)
  have R8 := R2.below U8
  have og8 := og2.below U8
  have ro8 := ro2.below U8
  have iv8 := o8.ints
  have x0 : w8.cell? ⟨w1.heap.size, 0, none⟩ = some (.int .i64 s0) := R8.cell 0
  have x1 : w8.cell? ⟨w1.heap.size, 1, none⟩ = some (.int .i64 s1) := R8.cell 1
  have x2 : w8.cell? ⟨w1.heap.size, 2, none⟩ = some (.slice ga gn gc) := R8.cell 2
  have x3 : w8.cell? ⟨w1.heap.size, 3, none⟩ = some (.slice oa on oc) := R8.cell 3
  clear R2 R8 U8 u4 u5 u6 u7 u8 o4 o5 o6 o7 o8 V2 V4 V5 V6 V7 og2 ro2 h hmo
  generalize mrNI 2 n wd = NI at *
  go_wp2_with fail
  go_region_held3 (fun W => W.cell? ⟨w1.heap.size, 0, none⟩ = some (.int .i64 s0) ∧ W.cell? ⟨w1.heap.size, 1, none⟩ = some (.int .i64 s1) ∧ W.cell? ⟨w1.heap.size, 2, none⟩ = some (.slice ga gn gc) ∧ W.cell? ⟨w1.heap.size, 3, none⟩ = some (.slice oa on oc))
    (first | exact ⟨keepC u11 (keepC u10 (keepC u9 x0)), keepC u11 (keepC u10 (keepC u9 x1)), keepC u11 (keepC u10 (keepC u9 x2)), keepC u11 (keepC u10 (keepC u9 x3))⟩ | exact ⟨keepC u11 (keepC u9 (keepC u10 x0)), keepC u11 (keepC u9 (keepC u10 x1)), keepC u11 (keepC u9 (keepC u10 x2)), keepC u11 (keepC u9 (keepC u10 x3))⟩ | exact ⟨keepC u10 (keepC u9 x0), keepC u10 (keepC u9 x1), keepC u10 (keepC u9 x2), keepC u10 (keepC u9 x3)⟩ | exact ⟨keepC u9 (keepC u10 x0), keepC u9 (keepC u10 x1), keepC u9 (keepC u10 x2), keepC u9 (keepC u10 x3)⟩ | exact ⟨keepC u10 x0, keepC u10 x1, keepC u10 x2, keepC u10 x3⟩ | exact ⟨keepC u9 x0, keepC u9 x1, keepC u9 x2, keepC u9 x3⟩ | go_keep)
    (first | (go_at_call 117; refine (meWidths_any wd m _ (by omega)).mono ?_; rintro e w9 ⟨a9, c9, rfl, o9, u9⟩) | (go_at_call 119; have _ := u9; refine (ciOuts_any s0 s1 ga gn gc oa on oc a8 NI c8 G _ O _ (og8.drew.below u9) (iv8.drew.below u9) (ro8.drew.below u9) (by rw [HGN.out]; exact hGA.out) HBV.out (by omega) (by have := HGN.out; omega) (by omega) (by rw [HGN.out]; exact hOU.out)).mono ?_; rintro e w10 ⟨a10, c10, rfl, o10, u10⟩) | (go_at_call 119; refine (ciOuts_any s0 s1 ga gn gc oa on oc a8 NI c8 G _ O _ og8.drew iv8.drew ro8.drew (by rw [HGN.out]; exact hGA.out) HBV.out (by omega) (by have := HGN.out; omega) (by omega) (by rw [HGN.out]; exact hOU.out)).mono ?_; rintro e w10 ⟨a10, c10, rfl, o10, u10⟩) | (go_at_call 118; refine (coNumbers_any wd m a9 c9 a10 on c10 _ _ (o9.ints.below u10) (o10.ints) (by omega) HMW.out hwd4 (by rw [HGN.out]; exact HBO.out)).mono ?_; rintro e w11 ⟨a11, c11, rfl, o11, u11⟩) | (go_at_call 118; refine (coNumbers_any wd m a9 c9 a10 on c10 _ _ (o9.ints) (o10.ints.below u9) (by omega) HMW.out hwd4 (by rw [HGN.out]; exact HBO.out)).mono ?_; rintro e w11 ⟨a11, c11, rfl, o11, u11⟩))
  all_goals
    rw [HGN.out, ← HR.out] at o11
    first
      | (have U := (Below.refl w8.heap.size w8).drew.trans (u9.trans ((u10.trans (u11.mono u10.size)).mono u9.size)); have Z := Nat.le_trans u9.size u10.size)
      | (have U := (Below.refl w8.heap.size w8).drew.trans (u10.trans ((u9.trans (u11.mono u9.size)).mono u10.size)); have Z := Nat.le_trans u10.size u9.size)
    have VF := V8.trans (U.mono V8.size)
    have oF := o11.lower (b' := w.heap.size) (Nat.le_trans V8.size Z)
    clear u9 u10 u11 o9 o10 o11 U Z V8
    go_wp2
    go_ret2
    exact ⟨_, _, rfl, oF, VF⟩
end Go.Proofs.Ytkbhigdciokfkaa
namespace Go.Proofs.Ytkbhigdciokfkaa
open Go.RowKit
set_option maxHeartbeats 8000000 in
set_option maxRecDepth 100000 in
theorem spec_WriteCell_any (wd : Int) (a : Option Addr) (n c : Nat) (l : List Int) (i : Int) (v : Int) (w : World) (h : Ints w a n c l) :
    Calls Try.prog 34 #[.int .i64 wd, .slice a n c, .int .i64 i, .int .i64 v] w fun e w' => ∃ a1 n1 c1, e = .returned (.tuple #[.slice a1 n1 c1, .bool (wcB wd l i v)]) ∧ Own w' w.heap.size a1 n1 c1 (wcR wd l i v) ∧ Below w.heap.size w w' := by
  have hlen := h.len
  have hle := h.le
  have hme := celB_me wd l i
  cases hc : meCB wd l i
  · have HC := Lib.hid hc
    have hb : celB wd l i = false := by rw [hme, hc]; rfl
    have e0 : wcB wd l i v = false := by unfold wcB; rw [hb]; rfl
    have e1 : wcR wd l i v = [] := by unfold wcR; rw [e0]; rfl
    rw [e1, e0]
    clear e1 e0 hb
    clear hc hme hlen
    go_enter Try.func34, Try.ntmps34
    go_wp2_with fail
    refine (meCells_any wd a n c l i _ h).mono ?_; rintro e w1 ⟨rfl, V1⟩; rw [HC.out]
    go_wp2
    go_ret2
    exact ⟨none, 0, 0, rfl, Own.nil0 _ _ _, V1⟩
  · have hc2 := hc
    unfold meCB at hc2
    rw [Bool.and_eq_true, Bool.and_eq_true] at hc2
    obtain ⟨⟨hn8, hw4⟩, hT⟩ := hc2
    replace hn8 := of_decide_eq_true hn8
    replace hw4 := of_decide_eq_true hw4
    obtain ⟨wd, rfl⟩ : ∃ k : Nat, wd = k := ⟨wd.toNat, by omega⟩
    obtain ⟨hl, hi⟩ := celT_true (wd := wd) (by omega) (by omega) hT
    have hwd4 : wd ≤ 4 := by omega
    have hwd1 : 1 ≤ wd := by omega
    have HC := Lib.hid hc
    cases hv : inB v 0 (2 ^ wd - 1)
    · have HVV := Lib.hid hv
      have e0 : wcB wd l i v = false := by unfold wcB; rw [Int.toNat_natCast, hv, Bool.and_false]
      have e1 : wcR wd l i v = [] := by unfold wcR; rw [e0]; rfl
      rw [e1, e0]
      clear hc e1 e0 hlen hT hl hi hv hme hn8 hw4
      have hs64 : (wd : Int) < 64 := by omega
      have hu : IntKind.u64.wrap (wd : Int) = (wd : Int) := IntWalk.u64_in _ (by omega)
      have hq2 : wrap64 ((2 : Int) ^ wd) = 2 ^ wd := by obtain ⟨h1, h2⟩ := p2_le hwd4; generalize (2 : Int) ^ wd = P at *; exact IntWalk.wrap64_in _ (by omega)
      have hq3 : wrap64 (1 * 2 ^ wd) = 2 ^ wd := by rw [Int.one_mul]; exact hq2
      have hq4 : wrap64 ((2 : Int) ^ wd - 1) = 2 ^ wd - 1 := by obtain ⟨h1, h2⟩ := p2_le hwd4; generalize (2 : Int) ^ wd = P at *; exact IntWalk.wrap64_in _ (by omega)
      have hq5 : (1 : Int) * 2 ^ wd = 2 ^ wd := Int.one_mul _
      go_enter Try.func34, Try.ntmps34
      go_wp2_with fail
      refine (meCells_any wd a n c l i _ h).mono ?_; rintro e w1 ⟨rfl, V1⟩; rw [HC.out]
      go_wp2_with fail
      refine (l1In_any _ _ _ _).mono ?_; rintro e w' ⟨rfl, rfl⟩; rw [HVV.out]
      go_wp2
      go_ret2
      exact ⟨none, 0, 0, rfl, Own.nil0 _ _ _, V1⟩
    · have HVV := Lib.hid hv
      have hvr := of_decide_eq_true hv
      have hv1 : 0 ≤ v ∧ v ≤ 1000000000 := by have := p2_le hwd4; generalize (2 : Int) ^ wd = P at *; omega
      have HVR := Lib.hid hv1
      clear hv1 hvr
      rw [hc, Bool.true_and] at hme
      have HT := Lib.hid hT
      have HL := Lib.hid hl
      have HI := Lib.hid hi
      clear hT hl hi hc
      cases hm : memB l.length wd
      · rw [hm] at hme
        have hb : celB (wd : Int) l i = false := hme
        have e0 : wcB wd l i v = false := by unfold wcB; rw [hb]; rfl
        have e1 : wcR wd l i v = [] := by unfold wcR; rw [e0]; rfl
        rw [e1, e0]
        clear e1 e0 hb
        rw [← hlen] at hm
        have HM := Lib.hid hm
        clear hm hme hlen
        go_enter Try.func34, Try.ntmps34
        go_wp2_with fail
        refine (meCells_any wd a n c l i _ h).mono ?_; rintro e w1 ⟨rfl, V1⟩; rw [HC.out]
        have hs64 : (wd : Int) < 64 := by omega
        have hu : IntKind.u64.wrap (wd : Int) = (wd : Int) := IntWalk.u64_in _ (by omega)
        have hq2 : wrap64 ((2 : Int) ^ wd) = 2 ^ wd := by obtain ⟨h1, h2⟩ := p2_le hwd4; generalize (2 : Int) ^ wd = P at *; exact IntWalk.wrap64_in _ (by omega)
        have hq3 : wrap64 (1 * 2 ^ wd) = 2 ^ wd := by rw [Int.one_mul]; exact hq2
        have hq4 : wrap64 ((2 : Int) ^ wd - 1) = 2 ^ wd - 1 := by obtain ⟨h1, h2⟩ := p2_le hwd4; generalize (2 : Int) ^ wd = P at *; exact IntWalk.wrap64_in _ (by omega)
        have hq5 : (1 : Int) * 2 ^ wd = 2 ^ wd := Int.one_mul _
        go_wp2_with fail
        refine (l1In_any _ _ _ _).mono ?_; rintro e w' ⟨rfl, rfl⟩; rw [HVV.out]
        clear hs64 hu hq2 hq3 hq4 hq5
        go_wp2_with fail
        refine (btOf_any v wd _ HVR.out (by omega)).mono ?_; rintro e w3 ⟨a3, c3, rfl, o3, u3⟩
        have V3 := V1.trans (u3.mono V1.size)
        clear u3
        go_wp2_with fail
        refine (meRun_2_no _ i n a c l a3 wd c3 _ (h.below V3) HM.out).mono ?_; rintro e w5 ⟨rfl, u5⟩
        have VF := V3.trans (u5.mono V3.size)
        clear u5 V1
        go_wp2
        go_ret2
        exact ⟨none, 0, 0, rfl, Own.nil0 _ _ _, VF⟩
      · rw [hm] at hme
        have hb : celB (wd : Int) l i = true := hme
        have e0 : wcB wd l i v = true := by unfold wcB; rw [hb, Int.toNat_natCast, hv]; rfl
        have e1 : wcR wd l i v = mrR 2 n wd l i (btL v wd) := by unfold wcR; rw [e0, if_pos rfl, hlen]; rfl
        rw [e1, e0]
        clear e0
        rw [← hlen] at hm
        have HM := Lib.hid hm
        have hM8 : 1 ≤ meN 2 n := by unfold meN; split <;> omega
        clear e1 hb hm hme hv
        clear hlen
        go_enter Try.func34, Try.ntmps34
        go_wp2_with fail
        refine (meCells_any wd a n c l i _ h).mono ?_; rintro e w1 ⟨rfl, V1⟩; rw [HC.out]
        have hs64 : (wd : Int) < 64 := by omega
        have hu : IntKind.u64.wrap (wd : Int) = (wd : Int) := IntWalk.u64_in _ (by omega)
        have hq2 : wrap64 ((2 : Int) ^ wd) = 2 ^ wd := by obtain ⟨h1, h2⟩ := p2_le hwd4; generalize (2 : Int) ^ wd = P at *; exact IntWalk.wrap64_in _ (by omega)
        have hq3 : wrap64 (1 * 2 ^ wd) = 2 ^ wd := by rw [Int.one_mul]; exact hq2
        have hq4 : wrap64 ((2 : Int) ^ wd - 1) = 2 ^ wd - 1 := by obtain ⟨h1, h2⟩ := p2_le hwd4; generalize (2 : Int) ^ wd = P at *; exact IntWalk.wrap64_in _ (by omega)
        have hq5 : (1 : Int) * 2 ^ wd = 2 ^ wd := Int.one_mul _
        go_wp2_with fail
        refine (l1In_any _ _ _ _).mono ?_; rintro e w' ⟨rfl, rfl⟩; rw [HVV.out]
        clear hs64 hu hq2 hq3 hq4 hq5
        go_wp2_with fail
        refine (btOf_any v wd _ HVR.out (by omega)).mono ?_; rintro e w3 ⟨a3, c3, rfl, o3, u3⟩
        have V3 := V1.trans (u3.mono V1.size)
        clear u3
        go_wp2_with fail
        refine (meRun_2_yes wd n a c l i a3 wd c3 (btL v wd) _ (h.below V3) o3.ints HM.out HL.out HI.out (by unfold meMore; simp) (btL_bits _ _)).mono ?_; rintro e w5 ⟨a5, c5, rfl, o5, u5⟩
        have VF := V3.trans (u5.mono V3.size)
        have oF := o5.lower (b' := w.heap.size) V3.size
        clear u5 o5 V1
        go_wp2
        go_ret2
        exact ⟨_, _, _, rfl, oF, VF⟩
end Go.Proofs.Ytkbhigdciokfkaa
namespace Go.Proofs.Ytkbhigdciokfkaa
open Go.RowKit
theorem wcR_len (wd : Int) (l : List Int) (i v : Int) : (wcR wd l i v).length ≤ 1000000 := by
  unfold wcR
  split
  · rename_i h
    unfold wcB at h
    rw [Bool.and_eq_true] at h
    have := meN_le 2 l.length (cel_len h.1)
    rw [mrR_len]; omega
  · simp
set_option maxHeartbeats 2000000 in
set_option maxRecDepth 100000 in
theorem FnExactWriteCell_walk (a0 : Int) (a1 : Option Addr) (n1 c1 : Nat) (l1 : List Int) (a2 : Int) (a3 : Int) (w : World) (_w0 : -9223372036854775808 ≤ a0 ∧ a0 ≤ 9223372036854775807) (z1 : Ints w a1 n1 c1 l1) (_wf1 : Wf l1) (_w2 : -9223372036854775808 ≤ a2 ∧ a2 ≤ 9223372036854775807) (_w3 : -9223372036854775808 ≤ a3 ∧ a3 ≤ 9223372036854775807) :
    Calls Try.prog 10 #[.int .i64 a0, .slice a1 n1 c1, .int .i64 a2, .int .i64 a3] w fun e w' => e = .returned (.bool true) ∧ Below w.heap.size w w' := by
  by_cases hs1 : n1 ≤ 1048576
  · skip
    go_enter Try.func10, Try.ntmps10
    go_wp2_with fail
    refine (toIntS_any _ _ _ l1 _ z1 hs1).mono ?_
    rintro e w1' ⟨y_a1, y_c1, rfl, y1, u1⟩
    replace z1 := z1.below u1
    have V1 := u1
    clear u1
    go_wp2_with fail
    refine (spec_WriteCell_any _ _ _ _ l1 _ _ _ y1.ints).mono ?_
    rintro e w2' ⟨r_a0, r_n0, r_c0, rfl, r0, u2⟩
    replace z1 := z1.below u2
    replace y1 := y1.below u2
    have V2 : Below w.heap.size w w2' := V1.trans (u2.mono V1.size)
    clear V1
    clear u2
    clear y1
    have VB_x1 := V2.size
    go_wp2_with fail
    refine (toIntS_any _ _ _ l1 _ z1 hs1).mono ?_
    rintro e w3' ⟨x_a1, x_c1, rfl, x1, u3⟩
    have Dz1_x1 := z1.apart x1 (Nat.le_refl _)
    have Dr0_x1 := r0.apart x1 (Nat.le_refl _)
    replace z1 := z1.below u3
    replace r0 := r0.below u3
    have V3 : Below w.heap.size w w3' := V2.trans (u3.mono V2.size)
    clear V2
    clear u3
    have VB_g0 := V3.size
    go_wp2_with fail
    refine (WriteCell_any _ _ _ _ l1 _ _ _ x1.ints).mono ?_
    rintro e w4' ⟨g_a0, g_n0, g_c0, rfl, g0, u4⟩
    have Dz1_g0 := z1.apart g0 (Nat.le_refl _)
    have Dr0_g0 := r0.apart g0 (Nat.le_refl _)
    have Dx1_g0 := x1.apart g0 (Nat.le_refl _)
    replace z1 := z1.below u4
    replace r0 := r0.below u4
    replace x1 := x1.below u4
    have V4 : Below w.heap.size w w4' := V3.trans (u4.mono V3.size)
    clear V3
    clear u4
    go_wp2_with fail
    refine (eqIntS_same _ _ _ _ _ _ _ _ g0.ints r0.ints).mono ?_
    rintro e w5' ⟨rfl, q5⟩
    have u5 := below_of_quiet q5
    clear q5
    replace z1 := z1.below u5
    replace r0 := r0.below u5
    replace x1 := x1.below u5
    replace g0 := g0.below u5
    have V5 : Below w.heap.size w w5' := V4.trans (u5.mono V4.size)
    clear V4
    clear u5
    go_wp2_with fail
    refine (toIntS_any _ _ _ l1 _ z1 hs1).mono ?_
    rintro e w6' ⟨t_a1, t_c1, rfl, t1, u6⟩
    have Dx1_t1 := x1.apart t1 (Nat.le_refl _)
    have Dg0_t1 := g0.apart t1 (Nat.le_refl _)
    replace z1 := z1.below u6
    replace r0 := r0.below u6
    replace x1 := x1.below u6
    replace g0 := g0.below u6
    have V6 : Below w.heap.size w w6' := V5.trans (u6.mono V5.size)
    clear V5
    clear u6
    go_wp2_with fail
    refine (eqIntS_same _ _ _ _ _ _ l1 _ x1.ints t1.ints).mono ?_
    rintro e w7' ⟨rfl, q7⟩
    have u7 := below_of_quiet q7
    clear q7
    replace z1 := z1.below u7
    replace r0 := r0.below u7
    replace x1 := x1.below u7
    replace g0 := g0.below u7
    replace t1 := t1.below u7
    have V7 : Below w.heap.size w w7' := V6.trans (u7.mono V6.size)
    clear V6
    clear u7
    clear t1
    go_wp2_with fail
    refine (markIntS_any _ _ _ _ _ _ _ x1 (by omega) (by have := hs1; omega)).mono ?_
    rintro e w8' ⟨rfl, ⟨Lx1, mx1, Ux1⟩, G8⟩
    have HUx1 := Lib.hid Ux1
    clear Ux1
    replace z1 := z1.grown G8 Dz1_x1
    replace r0 := r0.grown G8 Dr0_x1
    replace g0 := g0.grown G8 Dx1_g0.symm
    have u8 : Below w.heap.size w7' w8' := below_grownBy G8 V7.size (fun x hc hx => Nat.le_trans VB_x1 (mx1.range x hc hx).1)
    have V8 : Below w.heap.size w w8' := V7.trans u8
    clear V7 u8 G8 x1
    have x1 := mx1
    clear mx1
    go_wp2_with fail
    refine (eqIntS_same _ _ _ _ _ _ _ _ g0.ints r0.ints).mono ?_
    rintro e w9' ⟨rfl, q9⟩
    have u9 := below_of_quiet q9
    clear q9
    replace z1 := z1.below u9
    replace r0 := r0.below u9
    replace x1 := x1.below u9
    replace g0 := g0.below u9
    have V9 : Below w.heap.size w w9' := V8.trans (u9.mono V8.size)
    clear V8
    clear u9
    clear x1
    have hlg0 : g_n0 ≤ 1000000 := by rw [g0.len]; exact wcR_len a0 l1 a2 a3
    go_wp2_with fail
    refine (markIntS_any _ _ _ _ _ _ _ g0 (by omega) (by have := hlg0; omega)).mono ?_
    rintro e w10' ⟨rfl, ⟨Lg0, mg0, Ug0⟩, G10⟩
    have HUg0 := Lib.hid Ug0
    clear Ug0
    replace z1 := z1.grown G10 Dz1_g0
    replace r0 := r0.grown G10 Dr0_g0
    have u10 : Below w.heap.size w9' w10' := below_grownBy G10 V9.size (fun x hc hx => Nat.le_trans VB_g0 (mg0.range x hc hx).1)
    have V10 : Below w.heap.size w w10' := V9.trans u10
    clear V9 u10 G10 g0
    have g0 := mg0
    clear mg0
    go_wp2_with fail
    refine (heldIntS_any _ _ _ _ _ _ g0.ints HUg0.out (by omega) (by have := hlg0; omega)).mono ?_
    rintro e w11' ⟨rfl, q11⟩
    have u11 := below_of_quiet q11
    clear q11
    replace z1 := z1.below u11
    replace r0 := r0.below u11
    replace g0 := g0.below u11
    have V11 : Below w.heap.size w w11' := V10.trans (u11.mono V10.size)
    clear V10
    clear u11
    go_wp2_with fail
    refine (toIntS_any _ _ _ l1 _ z1 hs1).mono ?_
    rintro e w12' ⟨x_a1, x_c1, rfl, x1, u12⟩
    have Dz1_x1 := z1.apart x1 (Nat.le_refl _)
    have Dr0_x1 := r0.apart x1 (Nat.le_refl _)
    have Dg0_x1 := g0.apart x1 (Nat.le_refl _)
    replace z1 := z1.below u12
    replace r0 := r0.below u12
    replace g0 := g0.below u12
    have V12 : Below w.heap.size w w12' := V11.trans (u12.mono V11.size)
    clear V11
    clear u12
    go_wp2_with fail
    refine (WriteCell_any _ _ _ _ l1 _ _ _ x1.ints).mono ?_
    rintro e w13' ⟨h_a0, h_n0, h_c0, rfl, h0, u13⟩
    replace z1 := z1.below u13
    replace r0 := r0.below u13
    replace g0 := g0.below u13
    replace x1 := x1.below u13
    have V13 : Below w.heap.size w w13' := V12.trans (u13.mono V12.size)
    clear V12
    clear u13
    clear x1
    go_wp2_with fail
    refine (eqIntS_same _ _ _ _ _ _ _ _ h0.ints r0.ints).mono ?_
    rintro e w14' ⟨rfl, q14⟩
    have u14 := below_of_quiet q14
    clear q14
    replace z1 := z1.below u14
    replace r0 := r0.below u14
    replace g0 := g0.below u14
    replace h0 := h0.below u14
    have V14 : Below w.heap.size w w14' := V13.trans (u14.mono V13.size)
    clear V13
    clear u14
    go_wp2_with fail
    refine (heldIntS_any _ _ _ _ _ _ g0.ints HUg0.out (by omega) (by have := hlg0; omega)).mono ?_
    rintro e w15' ⟨rfl, q15⟩
    have u15 := below_of_quiet q15
    clear q15
    replace z1 := z1.below u15
    replace r0 := r0.below u15
    replace g0 := g0.below u15
    replace h0 := h0.below u15
    have V15 : Below w.heap.size w w15' := V14.trans (u15.mono V14.size)
    clear V14
    clear u15
    go_wp2
    go_ret
    exact ⟨rfl, V15⟩
  · go_enter Try.func10, Try.ntmps10
    go_wp2
    go_ret
    exact ⟨rfl, Below.refl _ _⟩
end Go.Proofs.Ytkbhigdciokfkaa
