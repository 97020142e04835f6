/- The program's circuits of cells. -/
import Derived.Test.YtkbhigdciokfkaaRedV
import Derived.Test.YtkbhigdciokfkaaMmV
import Derived.Test.YtkbhigdciokfkaaScan
import Derived.Test.YtkbhigdciokfkaaWrit
import Derived.Test.YtkbhigdciokfkaaTurn
namespace Go.Proofs.Ytkbhigdciokfkaa
open Go.RowKit
theorem RwD.toNew {w w' : World} {a n c rs F0 F} (h : RwD w a n c rs F0) (u : Below w.heap.size w w') (hF : ∀ k ∈ F, w.heap.size ≤ k) : RwD w' a n c rs F :=
  ⟨h.row.below u, fun x hn hx hf => by have := h.row.lt (by decide) x hn hx; have := hF _ hf; omega, fun r hr => ⟨(h.inn r hr).1.below u, fun x hn hx hf => by have := ((h.inn r hr).1.range x hn hx).2; have := hF _ hf; omega⟩⟩
def memB (n w : Int) : Bool := inB n 1 8 && inB w 1 4 && decide (n * w ≤ 20)
set_option maxHeartbeats 4000000 in
theorem isMemory_any (n wd : Int) (w : World) :
    Calls Try.prog 99 #[.int .i64 n, .int .i64 wd] w fun e w' => e = .returned (.bool (memB n wd)) ∧ w = w' := by
  unfold memB
  cases h1 : inB n 1 8
  · simp only [Bool.false_and]
    go_enter Try.func99, Try.ntmps99
    go_wp2_with (first | (go_at_call 79; refine (within_any _ _ _ _).mono ?_; rintro e w' ⟨rfl, rfl⟩))
    go_ret
    exact ⟨rfl, rfl⟩
  · cases h2 : inB wd 1 4
    · simp only [Bool.false_and, Bool.and_false]
      go_enter Try.func99, Try.ntmps99
      go_wp2_with (first | (go_at_call 79; refine (within_any _ _ _ _).mono ?_; rintro e w' ⟨rfl, rfl⟩))
      go_ret
      exact ⟨rfl, rfl⟩
    · obtain ⟨a1, a2⟩ := inB_true h1
      obtain ⟨b1, b2⟩ := inB_true h2
      simp only [Bool.true_and]
      have p1 : 0 ≤ n * wd := Int.mul_nonneg (by omega) (by omega)
      have p2 : n * wd ≤ 8 * 4 := Int.mul_le_mul a2 b2 (by omega) (by omega)
      have t1 : IntKind.i64.wrap (n * wd) = n * wd := IntWalk.i64_in _ (by omega)
      go_enter Try.func99, Try.ntmps99
      go_wp2_with (first | (go_at_call 79; refine (within_any _ _ _ _).mono ?_; rintro e w' ⟨rfl, rfl⟩))
      go_ret
      exact ⟨rfl, rfl⟩
/-- What the closure of a circuit of cells does. -/
def CloP (f : Nat) (caps : Array Value) (w : World) (q n wd v more : Nat) (p : List Int × List Int) : Prop :=
  ∀ (W : World) (b g : Nat) (F : List Nat) (ca : Option Addr) (cc : Nat) (rs : List RowD) (ia : Option Addr) (ic : Nat),
    Below w.heap.size w W → Mk 81 W b g q ((v : Int) + more) [] F → b ≤ W.heap.size → (∀ k ∈ F, w.heap.size ≤ k) → RwD W ca n cc rs F → datas' rs = ceL wd n → IntD W ia v ic (spL (q : Int) v) F →
    Calls Try.prog f (#[.pointer (some ⟨g, 0, none⟩), .slice ca n cc, .slice ia v ic] ++ caps) W fun e W' => ∃ a1 m1 c1 F', e = .returned (.slice a1 m1 c1) ∧ Own W' W.heap.size a1 m1 c1 p.2 ∧ Disj (foot a1 c1) F' ∧ Mk 81 W' b g q ((v : Int) + more) p.1 F' ∧ Stp F W F' W'
set_option maxHeartbeats 8000000 in
set_option maxRecDepth 100000 in
theorem memory_no (n wd more : Int) (f : Nat) (caps : Array Value) (w : World) (hm : memB n wd = false) :
    Calls Try.prog 49 #[.int .i64 n, .int .i64 wd, .int .i64 more, .func (.func f) #[] caps] w fun e w' => e = .returned (.tuple #[.agg #[.int .i64 0, .int .i64 0, .slice none 0 0, .slice none 0 0], .bool false]) ∧ Below w.heap.size w w' := by
  have V1 : Below w.heap.size w (w.alloc (.cells #[.int .i64 0, .int .i64 0, .slice none 0 0, .slice none 0 0] 25)) := (Below.refl _ _).alloc (Nat.le_refl _) _
  have R1 : Blk (w.alloc (.cells #[.int .i64 0, .int .i64 0, .slice none 0 0, .slice none 0 0] 25)) w.heap.size 25 #[.int .i64 0, .int .i64 0, .slice none 0 0, .slice none 0 0] := Blk.new w _ _
  go_enter Try.func49, Try.ntmps49
  go_wp2_with fail
  refine (isMemory_any _ _ _).mono ?_; rintro e w' ⟨rfl, rfl⟩
  rw [hm]
  generalize (w.alloc (.cells #[.int .i64 0, .int .i64 0, .slice none 0 0, .slice none 0 0] 25)) = w1 at *
  have r0 : w1.cell? ⟨w.heap.size, 0, none⟩ = some (.int .i64 0) := R1.cell 0
  have r1 : w1.cell? ⟨w.heap.size, 1, none⟩ = some (.int .i64 0) := R1.cell 1
  have r2 : w1.cell? ⟨w.heap.size, 2, none⟩ = some (.slice none 0 0) := R1.cell 2
  have r3 : w1.cell? ⟨w.heap.size, 3, none⟩ = some (.slice none 0 0) := R1.cell 3
  have q0 : w1.frozen? ⟨w.heap.size, 0, none⟩ = false := R1.frozen 0
  have q1 : w1.frozen? ⟨w.heap.size, 1, none⟩ = false := R1.frozen 1
  have q2 : w1.frozen? ⟨w.heap.size, 2, none⟩ = false := R1.frozen 2
  have q3 : w1.frozen? ⟨w.heap.size, 3, none⟩ = false := R1.frozen 3
  go_wp2
  have GG := (((((Only.refl [w.heap.size] w1).setCell ⟨w.heap.size, 0, none⟩ (.int .i64 0) (by simp)).setCell ⟨w.heap.size, 1, none⟩ (.int .i64 0) (by simp)).setCell ⟨w.heap.size, 2, none⟩ (.slice none 0 0) (by simp)).setCell ⟨w.heap.size, 3, none⟩ (.slice none 0 0) (by simp))
  exact bodyPost_ret (v := .tuple #[.agg #[.int .i64 0, .int .i64 0, .slice none 0 0, .slice none 0 0], .bool false]) (by simp [results, Try.results49, go_sem, r0, r1, r2, r3]) rfl ⟨rfl, V1.trans (GG.below V1.size (by simp))⟩
set_option maxHeartbeats 8000000 in
set_option maxRecDepth 100000 in
theorem memory_yes (n wd more v : Nat) (f : Nat) (caps : Array Value) (p : List Int × List Int) (w : World) (hn : 1 ≤ n ∧ n ≤ 8) (hw : 1 ≤ wd ∧ wd ≤ 4) (hnw : n * wd ≤ 20) (hmo : more ≤ 4) (hv : wid (n : Int) = v) (hcl : CloP f caps w (n * wd) n wd v more p)
    (hf : ∀ args W, (callFunc f args).run Try.prog W = .ok (.enter f args) W) (hok : ciB ((n * wd : Nat) : Int) ((v : Int) + more) (p.1.length / 3) p.1 p.2 = true) :
    Calls Try.prog 49 #[.int .i64 n, .int .i64 wd, .int .i64 more, .func (.func f) #[] caps] w fun e w' => ∃ ga gn gc oa on oc, e = .returned (.tuple #[.agg #[.int .i64 ((n * wd : Nat) : Int), .int .i64 ((v : Int) + more), .slice ga gn gc, .slice oa on oc], .bool true]) ∧ OwnF 3 eGate w' w.heap.size ga gn gc p.1 ∧ Own w' w.heap.size oa on oc p.2 ∧ Disj (foot ga gc) (foot oa oc) ∧ Below w.heap.size w w' := by
  have hv3 : v ≤ 3 := by rw [← hv]; exact wid8 n hn.2
  obtain ⟨q, hq⟩ : ∃ q, q = n * wd := ⟨_, rfl⟩
  rw [← hq] at hnw hcl hok ⊢
  have t1 : IntKind.i64.wrap ((n : Int) * (wd : Int)) = (q : Int) := by rw [hq, Int.natCast_mul]; exact IntWalk.i64_in _ (by rw [← Int.natCast_mul, ← hq]; omega)
  have hmem : memB n wd = true := by unfold memB; rw [inB_yes (by omega) (by omega), inB_yes (by omega) (by omega)]; simp only [Bool.true_and, decide_eq_true_eq]; rw [← Int.natCast_mul, ← hq]; omega
  have HCL := Lib.hid hcl
  have HOK := Lib.hid hok
  have HV := Lib.hid hv
  clear hcl hok hv hq
  have t2 : IntKind.i64.wrap ((v : Int) + (more : Int)) = (v : Int) + (more : Int) := IntWalk.i64_in _ (by omega)
  go_enter Try.func49, Try.ntmps49
  go_wp2_with fail
  refine (isMemory_any _ _ _).mono ?_; rintro e w' ⟨rfl, rfl⟩
  rw [hmem]
  clear hmem
  go_wp2_with fail
  refine (indexWidth_any _ _ (by omega) (by omega)).mono ?_; rintro e w' ⟨rfl, rfl⟩
  rw [HV.out]
  go_wp2
  have V2 : Below w.heap.size w ((w.alloc (.cells #[.int .i64 0, .int .i64 0, .slice none 0 0, .slice none 0 0] 25)).alloc (.cells #[] 23)) := ((Below.refl _ _).alloc (Nat.le_refl _) _).alloc (by simp) _
  have R2 : Blk ((w.alloc (.cells #[.int .i64 0, .int .i64 0, .slice none 0 0, .slice none 0 0] 25)).alloc (.cells #[] 23)) w.heap.size 25 #[.int .i64 0, .int .i64 0, .slice none 0 0, .slice none 0 0] := (Blk.new w _ _).alloc _
  have Z2 : w.heap.size + 1 ≤ ((w.alloc (.cells #[.int .i64 0, .int .i64 0, .slice none 0 0, .slice none 0 0] 25)).alloc (.cells #[] 23)).heap.size := by simp
  generalize ((w.alloc (.cells #[.int .i64 0, .int .i64 0, .slice none 0 0, .slice none 0 0] 25)).alloc (.cells #[] 23)) = w2 at *
  go_loopw [11, 23] (fun y u wr => ∃ i, i ≤ n ∧ u = .int .i64 (i : Nat) ∧ (∃ a1 c1 rs, y = .slice a1 i c1 ∧ RwO wr w2.heap.size a1 i c1 rs [] ∧ datas' rs = ceL wd i) ∧ Below w2.heap.size w2 wr) (fun _ u _ => n - (intOf u).toNat)
  case atStart => exact ⟨0, Nat.zero_le _, rfl, ⟨_, _, [], rfl, RwO.nil _ _ _ _, rfl⟩, Below.refl _ _⟩
  case round =>
    obtain ⟨i, hk, rfl, ⟨a1, c1, rs, rfl, ro, hd⟩, hbel⟩ := hrel
    by_cases hlt : i < n
    · obtain ⟨m, hm⟩ : ∃ m, m = i * wd := ⟨_, rfl⟩
      have hmb : m ≤ 8 * 4 := by rw [hm]; exact Nat.mul_le_mul (by omega) hw.2
      have t3 : IntKind.i64.wrap ((i : Int) * (wd : Int)) = (m : Int) := by rw [hm, Int.natCast_mul]; exact IntWalk.i64_in _ (by rw [← Int.natCast_mul, ← hm]; omega)
      have HS : Hid (ceL wd (i + 1) = ceL wd i ++ [spL (m : Int) wd]) := Lib.hid (by rw [ceL_succ, hm, Int.natCast_mul])
      have HD := Lib.hid hd
      clear hm hd
      go_wp2_with fail
      refine (span_any (m : Int) wd _ (by omega) (by omega)).mono ?_; rintro e w3 ⟨a3, c3, rfl, o3, u3⟩
      have ro3 := ro.below u3
      have b3 := hbel.trans (u3.mono hbel.size)
      have hrA := o3.away ro.out (Nat.le_refl _)
      have hrI : IntD w3 a3 wd c3 (spL (m : Int) wd) [] := ⟨o3.ints, fun _ _ _ h => by cases h⟩
      have lc : (spL (m : Int) wd).length = wd := spL_len _ _
      have HSP := Lib.hid (show spL (m : Int) wd = spL (m : Int) wd from rfl)
      obtain ⟨L, hL⟩ : ∃ L, L = spL (m : Int) wd := ⟨_, rfl⟩
      rw [← hL] at hrI lc HS
      clear hL HSP o3 u3 ro hbel
      go_wp2_with (at_builtin; refine wpList_appR _ rfl _ _ rfl w2.heap.size _ i _ _ rfl (RwO.alloc ro3 _).out _ 1 (a3, c3, L) rfl (RowC.litR _ _ _ (rowV_of lc) _) (by omega) (by have := b3.size; simp; omega) ?_)
      intro aa ca wa oo ba ga ma
      rw [← lc] at hrI hrA
      have hrB : ∀ y, 0 < L.length → a3 = some y → y.block ∉ foot a1 c1 := hrA
      have Ra := RwO.push (r := (a3, c3, L)) (RwO.alloc ro3 _) (fun k hk => by cases hk) (hrI.below ((Below.refl _ _).alloc (Nat.le_refl _) _)) hrB oo ga ma
      have Ba := (b3.alloc b3.size _).trans ba
      clear ro3 b3 hrI hrA hrB oo ba ga ma
      have HLC := Lib.hid lc
      clear lc
      go_wp2
      go_roundw
      case rel => exact ⟨i + 1, by omega, by go_num, ⟨_, _, _, rfl, Ra, by rw [datas_push, HS.out, HD.out]⟩, Ba⟩
      case measure => simp [intOf]; omega
    · obtain rfl : i = n := by omega
      have HD := Lib.hid hd
      clear hd
      have hge : ¬ (i : Int) < (i : Int) := by omega
      have rd := ro.rwD
      have R3 := R2.below hbel
      have V3 := V2.trans (hbel.mono V2.size)
      have Z3 : w.heap.size + 1 ≤ wr.heap.size := Nat.le_trans Z2 hbel.size
      clear ro R2 V2 Z2 hbel
      go_wp2_with fail
      have u4 : Below wr.heap.size wr (wr.alloc (.cells #[.int .i64 (q : Int), .int .i64 ((v : Int) + (more : Int)), .slice none 0 0, .slice none 0 0] 81)) := (Below.refl _ _).alloc (Nat.le_refl _) _
      have M4 : Mk 81 (wr.alloc (.cells #[.int .i64 (q : Int), .int .i64 ((v : Int) + (more : Int)), .slice none 0 0, .slice none 0 0] 81)) wr.heap.size wr.heap.size q ((v : Int) + more) [] [wr.heap.size] := Mk.new 81 wr wr.heap.size q ((v : Int) + more) (Nat.le_refl _)
      have Z4 : wr.heap.size + 1 ≤ (wr.alloc (.cells #[.int .i64 (q : Int), .int .i64 ((v : Int) + (more : Int)), .slice none 0 0, .slice none 0 0] 81)).heap.size := by simp
      have rd4 : RwD _ _ i _ _ [wr.heap.size] := rd.toNew u4 (fun k hk => by simp at hk; omega)
      have R4 := R3.below u4
      have V4 := V3.trans (u4.mono V3.size)
      clear R3 V3 rd u4
      generalize (wr.alloc (.cells #[.int .i64 (q : Int), .int .i64 ((v : Int) + (more : Int)), .slice none 0 0, .slice none 0 0] 81)) = w4 at *
      generalize wr.heap.size = g at *
      refine (span_any (q : Int) v _ (by omega) (by omega)).mono ?_; rintro e w5 ⟨xa, xc, rfl, ox, u5⟩
      have M5 := M4.below u5
      have rd5 := rd4.below u5
      have dx := ox.intD (Disj.of_rng ox.feet M4.feet (.inr (Nat.le_refl _)))
      have R5 := R4.below u5
      have V5 := V4.trans (u5.mono V4.size)
      have Z5 := u5.size
      clear R4 V4 rd4 ox M4 u5
      have HC := Lib.hid (HCL.out w5 g g [g] _ _ rs _ _ V5 M5 (by omega) (fun k hk => by simp at hk; omega) rd5 HD.out dx)
      clear M5 rd5 dx
      go_wp2_with fail
      refine HC.out.mono ?_; rintro e w6 ⟨oa, on, oc, F6, rfl, oo, dd, M6, s6⟩
      clear HC HCL
      obtain ⟨ga, gn, gc, hB, ho, hg, hbg, hF⟩ := M6
      have x3 := hB.cell 3
      have y3 := hB.frozen 3
      have hgn := ho.len
      have HOK2 : Hid (ciB (q : Int) ((v : Int) + more) gn p.1 p.2 = true) := Lib.hid (by have := HOK.out; rw [hgn, Nat.mul_div_cancel _ (by decide)] at this; exact this)
      clear hgn HOK
      have R6 := R5.only s6.only (by simp; omega)
      have V6 := V5.trans (s6.out (B := w.heap.size) V5.size (by simp; omega))
      have Z6 := s6.size
      have O7 : Only [g] w6 (w6.setCell ⟨g, 3, none⟩ (.slice oa on oc)) := (Only.refl _ _).setCell _ _ (by simp)
      have B7 : Blk (w6.setCell ⟨g, 3, none⟩ (.slice oa on oc)) g 81 #[.int .i64 (q : Int), .int .i64 ((v : Int) + (more : Int)), .slice ga gn gc, .slice oa on oc] := hB.set_ 3 _
      have R7 := R6.only O7 (by simp; omega)
      have ho7 := OwnF.only ho O7 (fun k hk hk' => hg (by simp at hk'; subst hk'; exact hk))
      have oo7 := Own.only oo O7 (fun k hk hk' => dd k hk (by rw [hF]; simp at hk'; subst hk'; simp))
      have hdd : Disj (foot ga gc) (foot oa oc) := fun k hk hk' => dd k hk' (by rw [hF]; exact List.mem_cons_of_mem _ hk)
      have V7 := V6.trans (O7.below V6.size (by simp; omega))
      clear hB ho oo dd s6 R5 R6 V6 V5 O7 hF hg hbg
      have z0 : (w6.setCell ⟨g, 3, none⟩ (.slice oa on oc)).cell? ⟨g, 0, none⟩ = some (.int .i64 (q : Int)) := B7.cell 0
      have z1 : (w6.setCell ⟨g, 3, none⟩ (.slice oa on oc)).cell? ⟨g, 1, none⟩ = some (.int .i64 ((v : Int) + (more : Int))) := B7.cell 1
      have z2 : (w6.setCell ⟨g, 3, none⟩ (.slice oa on oc)).cell? ⟨g, 2, none⟩ = some (.slice ga gn gc) := B7.cell 2
      have z3 : (w6.setCell ⟨g, 3, none⟩ (.slice oa on oc)).cell? ⟨g, 3, none⟩ = some (.slice oa on oc) := B7.cell 3
      go_wp2_with fail
      clear x3 y3 z0 z1 z2 z3 B7
      generalize (w6.setCell ⟨g, 3, none⟩ (.slice oa on oc)) = w7 at *
      refine (valid_yes _ _ _ _ _ p.1 _ _ _ p.2 _ ho7.flat oo7.ints HOK2.out).mono ?_; rintro e w8 ⟨rfl, u8⟩
      have V8 := V7.trans (u8.mono V7.size)
      have R8 := R7.below u8
      have ho8 := ho7.below u8
      have oo8 := oo7.below u8
      have Q1 := Lib.hid ho8.feet
      have Q2 := Lib.hid oo8.feet
      clear V7 R7 ho7 oo7 u8
      have r0 : w8.cell? ⟨w.heap.size, 0, none⟩ = some (.int .i64 0) := R8.cell 0
      have r1 : w8.cell? ⟨w.heap.size, 1, none⟩ = some (.int .i64 0) := R8.cell 1
      have r2 : w8.cell? ⟨w.heap.size, 2, none⟩ = some (.slice none 0 0) := R8.cell 2
      have r3 : w8.cell? ⟨w.heap.size, 3, none⟩ = some (.slice none 0 0) := R8.cell 3
      have q0 : w8.frozen? ⟨w.heap.size, 0, none⟩ = false := R8.frozen 0
      have q1 : w8.frozen? ⟨w.heap.size, 1, none⟩ = false := R8.frozen 1
      have q2 : w8.frozen? ⟨w.heap.size, 2, none⟩ = false := R8.frozen 2
      have q3 : w8.frozen? ⟨w.heap.size, 3, none⟩ = false := R8.frozen 3
      go_wp2
      have GG := (((((Only.refl [w.heap.size] w8).setCell ⟨w.heap.size, 0, none⟩ (.int .i64 (q : Int)) (by simp)).setCell ⟨w.heap.size, 1, none⟩ (.int .i64 ((v : Int) + (more : Int))) (by simp)).setCell ⟨w.heap.size, 2, none⟩ (.slice ga gn gc) (by simp)).setCell ⟨w.heap.size, 3, none⟩ (.slice oa on oc) (by simp))
      exact bodyPost_ret (v := .tuple #[.agg #[.int .i64 (q : Int), .int .i64 ((v : Int) + (more : Int)), .slice ga gn gc, .slice oa on oc], .bool true]) (by simp [results, Try.results49, go_sem, r0, r1, r2, r3]) rfl ⟨_, _, _, _, _, _, rfl, (ho8.only GG (fun k hk hk' => by have := Q1.out k hk; simp at hk'; omega)).lower (by omega), (oo8.only GG (fun k hk hk' => by have := Q2.out k hk; simp at hk'; omega)).lower (by omega), hdd, V8.trans (GG.below V8.size (by simp))⟩
end Go.Proofs.Ytkbhigdciokfkaa
