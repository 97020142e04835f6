/- The program's circuits of cells, by their names. -/
import Derived.Test.YtkbhigdciokfkaaMem
namespace Go.Proofs.Ytkbhigdciokfkaa
open Go.RowKit
def mS0 (n w : Int) : Int := if memB n w then n * w else 0
def mS1 (kind : Nat) (n w : Int) : Int := if memB n w then ((wid n : Nat) : Int) + ((meMore kind w.toNat : Nat) : Int) else 0
def mG (kind : Nat) (n w : Int) : List Int := if memB n w then (meG kind n.toNat w.toNat).1 else []
def mO (kind : Nat) (n w : Int) : List Int := if memB n w then (meG kind n.toNat w.toNat).2 else []
theorem memB_true {n w : Int} (h : memB n w = true) : (1 ≤ n ∧ n ≤ 8) ∧ (1 ≤ w ∧ w ≤ 4) ∧ n * w ≤ 20 := by
  simp only [memB, Bool.and_eq_true, decide_eq_true_eq] at h
  exact ⟨inB_true h.1.1, inB_true h.1.2, h.2⟩
theorem m_len (kind : Nat) (n w : Int) : (mG kind n w).length ≤ 900 ∧ (mO kind n w).length ≤ 900 := by
  unfold mG mO
  split
  · rename_i h
    obtain ⟨⟨a, b⟩, ⟨c, d⟩, _⟩ := memB_true h
    obtain ⟨_, e, f⟩ := meG_good kind n.toNat w.toNat (by omega) (by omega) (by omega) (by omega)
    exact ⟨by omega, by omega⟩
  · simp
theorem m_ok (kind n w : Nat) (h : memB n w = true) : ciB ((n * w : Nat) : Int) (((wid (n : Int) : Nat) : Int) + ((meMore kind w : Nat) : Int)) ((meG kind n w).1.length / 3) (meG kind n w).1 (meG kind n w).2 = true := by
  obtain ⟨⟨a, b⟩, ⟨c, d⟩, e⟩ := memB_true h
  have := me_ok kind n w (by omega) (by omega) (by omega) (by omega)
  rw [Int.natCast_add] at this
  rw [this, decide_eq_true_eq]
  rw [← Int.natCast_mul] at e
  omega
theorem enters_of {f : FuncId} {fn : Func} (hf : Try.prog.funcs[f]? = some fn) (hname : (fn.name == "runtime.NumGoroutine") = false) (hb : fn.body.isSome = true) : ∀ (args : Array Value) (w : World), (callFunc f args).run Try.prog w = .ok (.enter f args) w := fun args w => enters hf hname hb args w
theorem scan_clo (n wd v : Nat) (w : World) (hn : 1 ≤ n ∧ n ≤ 8) (hw : 1 ≤ wd ∧ wd ≤ 4) (hv : wid n = v) : CloP 55 #[] w (n * wd) n wd v 0 (meG 0 n wd) := by
  intro W b g F ca cc rs ia ic u hM hb hF hr hd hx
  have hv3 : v ≤ 3 := by rw [← hv]; exact wid8 n hn.2
  have hq : n * wd ≤ 8 * 4 := Nat.mul_le_mul hn.2 hw.2
  have eB : ((n * wd : Nat) : Int) + ((v : Int) + ((0 : Nat) : Int)) = meB n wd v 0 := by unfold meB; simp
  have hAL : AllL wd (datas' rs) := by rw [hd]; exact ceL_all wd n
  have h := scan_any ca n cc rs ia v ic _ wd b g (n * wd : Nat) ((v : Int) + ((0 : Nat) : Int)) [] F W hM hb (by omega) (by omega) hr hx hAL hn (by omega) (by omega) (by simp)
  rw [eB, hd] at h
  have e : meG 0 n wd = scG (meB n wd v 0) (spL ((n * wd : Nat) : Int) v) (ceL wd n) [] n := by unfold meG; rw [if_pos rfl, hv]; rfl
  rw [e]
  exact h
theorem scan_enters : ∀ (args : Array Value) (w : World), (callFunc 55 args).run Try.prog w = .ok (.enter 55 args) w := enters_of Try.func55 (by kernel_rfl) (by kernel_rfl)
theorem tree_clo (n wd v : Nat) (w : World) (hn : 1 ≤ n ∧ n ≤ 8) (hw : 1 ≤ wd ∧ wd ≤ 4) (hv : wid n = v) : CloP 50 #[] w (n * wd) n wd v 0 (meG 1 n wd) := by
  intro W b g F ca cc rs ia ic u hM hb hF hr hd hx
  have hv3 : v ≤ 3 := by rw [← hv]; exact wid8 n hn.2
  have hq : n * wd ≤ 8 * 4 := Nat.mul_le_mul hn.2 hw.2
  have eB : ((n * wd : Nat) : Int) + ((v : Int) + ((0 : Nat) : Int)) = meB n wd v 0 := by unfold meB; simp
  have hAL : AllL wd (datas' rs) := by rw [hd]; exact ceL_all wd n
  have h := tree_any ca n cc rs ia v ic _ wd b g (n * wd : Nat) ((v : Int) + ((0 : Nat) : Int)) [] F W hM hb (by omega) (by omega) hr hx hAL hn (by omega) (by omega) (by simp)
  rw [eB, hd] at h
  have e : meG 1 n wd = ((trG (meB n wd v 0) (spL ((n * wd : Nat) : Int) v) (ceL wd n) [] v).1, (trG (meB n wd v 0) (spL ((n * wd : Nat) : Int) v) (ceL wd n) [] v).2.getD 0 []) := by unfold meG; rw [if_neg (by decide), if_pos rfl, hv]; rfl
  rw [e]
  exact h
theorem tree_enters : ∀ (args : Array Value) (w : World), (callFunc 50 args).run Try.prog w = .ok (.enter 50 args) w := enters_of Try.func50 (by kernel_rfl) (by kernel_rfl)
theorem writ_clo (n wd v : Nat) (w : World) (hn : 1 ≤ n ∧ n ≤ 8) (hw : 1 ≤ wd ∧ wd ≤ 4) (hv : wid n = v) (nb wb : Nat) (hnb : w.cell? ⟨nb, 0, none⟩ = some (.int .i64 n)) (hwb : w.cell? ⟨wb, 0, none⟩ = some (.int .i64 wd)) : CloP 59 #[.pointer (some ⟨nb, 0, none⟩), .pointer (some ⟨wb, 0, none⟩)] w (n * wd) n wd v wd (meG 2 n wd) := by
  intro W b g F ca cc rs ia ic u hM hb hF hr hd hx
  have hv3 : v ≤ 3 := by rw [← hv]; exact wid8 n hn.2
  have hq : n * wd ≤ 8 * 4 := Nat.mul_le_mul hn.2 hw.2
  have eB : ((n * wd : Nat) : Int) + ((v : Int) + ((wd : Nat) : Int)) = meB n wd v wd := by unfold meB; simp
  have hAL : AllL wd (datas' rs) := by rw [hd]; exact ceL_all wd n
  have h := writ_any ca n cc rs ia v ic _ wd b g (n * wd : Nat) ((v : Int) + ((wd : Nat) : Int)) [] F W hM hb (by omega) (by omega) hr hx hAL hn (by omega) (by omega) (by simp) nb wb (by rw [u.cell (World.block_lt_of_cell? w _ hnb)]; exact hnb) (by rw [u.cell (World.block_lt_of_cell? w _ hwb)]; exact hwb)
  rw [eB, hd] at h
  have e : meG 2 n wd = wrG (meB n wd v wd) (spL ((n * wd : Nat) : Int) v) (spL ((n * wd : Nat) + v : Int) wd) (ceL wd n) [] n := by unfold meG; rw [if_neg (by decide), if_neg (by decide), if_pos rfl, hv]; rfl
  rw [e]
  exact h
theorem writ_enters : ∀ (args : Array Value) (w : World), (callFunc 59 args).run Try.prog w = .ok (.enter 59 args) w := enters_of Try.func59 (by kernel_rfl) (by kernel_rfl)
theorem turn_clo (n wd v : Nat) (w : World) (hn : 1 ≤ n ∧ n ≤ 8) (hw : 1 ≤ wd ∧ wd ≤ 4) (hv : wid n = v) (nb : Nat) (hnb : w.cell? ⟨nb, 0, none⟩ = some (.int .i64 n)) : CloP 61 #[.pointer (some ⟨nb, 0, none⟩)] w (n * wd) n wd v 0 (meG 3 n wd) := by
  intro W b g F ca cc rs ia ic u hM hb hF hr hd hx
  have hv3 : v ≤ 3 := by rw [← hv]; exact wid8 n hn.2
  have hq : n * wd ≤ 8 * 4 := Nat.mul_le_mul hn.2 hw.2
  have eB : ((n * wd : Nat) : Int) + ((v : Int) + ((0 : Nat) : Int)) = meB n wd v 0 := by unfold meB; simp
  have hAL : AllL wd (datas' rs) := by rw [hd]; exact ceL_all wd n
  have h := turn_any ca n cc rs ia v ic _ wd b g (n * wd : Nat) ((v : Int) + ((0 : Nat) : Int)) [] F W hM hb (by omega) (by omega) hr hx hAL hn (by omega) (by omega) (by simp) nb (by omega) (by rw [u.cell (World.block_lt_of_cell? w _ hnb)]; exact hnb) (fun hm => by have := hF _ hm; have := World.block_lt_of_cell? w _ hnb; simp at this; omega)
  rw [eB, hd] at h
  have e : meG 3 n wd = ((tuG (meB n wd v 0) (spL ((n * wd : Nat) : Int) v) (ceL wd n) [] v).1, (tuG (meB n wd v 0) (spL ((n * wd : Nat) : Int) v) (ceL wd n) [] v).2.flatten) := by unfold meG; rw [if_neg (by decide), if_neg (by decide), if_neg (by decide), hv]; rfl
  rw [e]
  exact h
theorem turn_enters : ∀ (args : Array Value) (w : World), (callFunc 61 args).run Try.prog w = .ok (.enter 61 args) w := enters_of Try.func61 (by kernel_rfl) (by kernel_rfl)
set_option maxHeartbeats 8000000 in
set_option maxRecDepth 100000 in
theorem ScanReadCircuit_any (n wd : Int) (w : World) :
    Calls Try.prog 23 #[.int .i64 n, .int .i64 wd] w fun e w' => ∃ ga gn gc oa on oc, e = .returned (.tuple #[.agg #[.int .i64 (mS0 n wd), .int .i64 (mS1 0 n wd), .slice ga gn gc, .slice oa on oc], .bool (memB n wd)]) ∧ OwnF 3 eGate w' w.heap.size ga gn gc (mG 0 n wd) ∧ Own w' w.heap.size oa on oc (mO 0 n wd) ∧ Disj (foot ga gc) (foot oa oc) ∧ Below w.heap.size w w' := by
  have V1 : Below w.heap.size w (w.alloc (.cells #[.int .i64 0, .int .i64 0, .slice none 0 0, .slice none 0 0] 25)) := ((Below.refl _ _).alloc (by simp) _)
  have R1 : Blk (w.alloc (.cells #[.int .i64 0, .int .i64 0, .slice none 0 0, .slice none 0 0] 25)) w.heap.size 25 #[.int .i64 0, .int .i64 0, .slice none 0 0, .slice none 0 0] := Blk.new w _ _
  have Z1 : w.heap.size + 1 ≤ (w.alloc (.cells #[.int .i64 0, .int .i64 0, .slice none 0 0, .slice none 0 0] 25)).heap.size := by simp
  unfold mS0 mS1 mG mO
  cases hm : memB n wd
  · simp only [Bool.false_eq_true, if_false]
    go_enter Try.func23, Try.ntmps23
    go_wp2_with fail
    generalize (w.alloc (.cells #[.int .i64 0, .int .i64 0, .slice none 0 0, .slice none 0 0] 25)) = w1 at *
    refine (memory_no n wd _ _ _ _ hm).mono ?_; rintro e w2 ⟨rfl, u2⟩
    have V2 := V1.trans (u2.mono V1.size)
    have R2 := R1.below u2
    clear V1 R1 u2
    have r0 : w2.cell? ⟨w.heap.size, 0, none⟩ = some (.int .i64 0) := R2.cell 0
    have r1 : w2.cell? ⟨w.heap.size, 1, none⟩ = some (.int .i64 0) := R2.cell 1
    have r2 : w2.cell? ⟨w.heap.size, 2, none⟩ = some (.slice none 0 0) := R2.cell 2
    have r3 : w2.cell? ⟨w.heap.size, 3, none⟩ = some (.slice none 0 0) := R2.cell 3
    have q0 : w2.frozen? ⟨w.heap.size, 0, none⟩ = false := R2.frozen 0
    have q1 : w2.frozen? ⟨w.heap.size, 1, none⟩ = false := R2.frozen 1
    have q2 : w2.frozen? ⟨w.heap.size, 2, none⟩ = false := R2.frozen 2
    have q3 : w2.frozen? ⟨w.heap.size, 3, none⟩ = false := R2.frozen 3
    go_wp2
    have GG := (((((Only.refl [w.heap.size] w2).setCell ⟨w.heap.size, 0, none⟩ (.int .i64 0) (by simp)).setCell ⟨w.heap.size, 1, none⟩ (.int .i64 0) (by simp)).setCell ⟨w.heap.size, 2, none⟩ (.slice none 0 0) (by simp)).setCell ⟨w.heap.size, 3, none⟩ (.slice none 0 0) (by simp))
    exact bodyPost_ret (v := .tuple #[.agg #[.int .i64 0, .int .i64 0, .slice none 0 0, .slice none 0 0], .bool false]) (by simp [results, Try.results23, go_sem, r0, r1, r2, r3]) rfl ⟨none, 0, 0, none, 0, 0, rfl, OwnC.nil0 _ _ _ _ _, Own.nil0 _ _ _, foot_nil _ _, V2.trans (GG.below V2.size (by simp))⟩
  · simp only [if_true]
    obtain ⟨⟨n1, n2⟩, ⟨d1, d2⟩, hnw⟩ := memB_true hm
    obtain ⟨n, rfl⟩ : ∃ k : Nat, n = k := ⟨n.toNat, by omega⟩
    obtain ⟨wd, rfl⟩ : ∃ k : Nat, wd = k := ⟨wd.toNat, by omega⟩
    rw [← Int.natCast_mul] at hnw
    have hok := m_ok 0 n wd hm
    simp only [Int.toNat_natCast]
    clear hm
    have eM : meMore 0 wd = 0 := by unfold meMore; simp
    rw [eM] at hok ⊢
    obtain ⟨v, hv⟩ : ∃ v, wid (n : Int) = v := ⟨_, rfl⟩
    rw [hv] at hok ⊢
    have HV := Lib.hid hv
    have HOK := Lib.hid hok
    clear hv hok eM
    have e3 : ((n : Int) * (wd : Int)) = ((n * wd : Nat) : Int) := (Int.natCast_mul _ _).symm
    rw [e3]
    clear e3
    obtain ⟨p, hp⟩ : ∃ p, p = meG 0 n wd := ⟨_, rfl⟩
    rw [← hp] at HOK ⊢
    have HP := Lib.hid hp
    clear hp
    have HCL : Hid (CloP 55 #[] (w.alloc (.cells #[.int .i64 0, .int .i64 0, .slice none 0 0, .slice none 0 0] 25)) (n * wd) n wd v 0 p) := Lib.hid (by rw [HP.out]; exact scan_clo n wd v _ (by omega) (by omega) HV.out)
    go_enter Try.func23, Try.ntmps23
    go_wp2_with fail
    generalize (w.alloc (.cells #[.int .i64 0, .int .i64 0, .slice none 0 0, .slice none 0 0] 25)) = w1 at *
    have V1s : w.heap.size ≤ w1.heap.size := V1.size
    refine (memory_yes n wd 0 v _ _ p _ (by omega) (by omega) (by omega) (by omega) HV.out HCL.out scan_enters HOK.out).mono ?_; rintro e w2 ⟨ga, gn, gc, oa, on, oc, rfl, og, oo, dd, u2⟩
    have V2 := V1.trans (u2.mono V1.size)
    have R2 := R1.below u2
    have Z2 := u2.size
    have Q1 := Lib.hid og.feet
    have Q2 := Lib.hid oo.feet
    clear V1 R1 u2 HCL
    have r0 : w2.cell? ⟨w.heap.size, 0, none⟩ = some (.int .i64 0) := R2.cell 0
    have r1 : w2.cell? ⟨w.heap.size, 1, none⟩ = some (.int .i64 0) := R2.cell 1
    have r2 : w2.cell? ⟨w.heap.size, 2, none⟩ = some (.slice none 0 0) := R2.cell 2
    have r3 : w2.cell? ⟨w.heap.size, 3, none⟩ = some (.slice none 0 0) := R2.cell 3
    have q0 : w2.frozen? ⟨w.heap.size, 0, none⟩ = false := R2.frozen 0
    have q1 : w2.frozen? ⟨w.heap.size, 1, none⟩ = false := R2.frozen 1
    have q2 : w2.frozen? ⟨w.heap.size, 2, none⟩ = false := R2.frozen 2
    have q3 : w2.frozen? ⟨w.heap.size, 3, none⟩ = false := R2.frozen 3
    go_wp2
    have GG := (((((Only.refl [w.heap.size] w2).setCell ⟨w.heap.size, 0, none⟩ (.int .i64 ((n * wd : Nat) : Int)) (by simp)).setCell ⟨w.heap.size, 1, none⟩ (.int .i64 ((v : Int) + ((0 : Nat) : Int))) (by simp)).setCell ⟨w.heap.size, 2, none⟩ (.slice ga gn gc) (by simp)).setCell ⟨w.heap.size, 3, none⟩ (.slice oa on oc) (by simp))
    exact bodyPost_ret (v := .tuple #[.agg #[.int .i64 ((n * wd : Nat) : Int), .int .i64 ((v : Int) + ((0 : Nat) : Int)), .slice ga gn gc, .slice oa on oc], .bool true]) (by simp [results, Try.results23, go_sem, r0, r1, r2, r3]) rfl ⟨_, _, _, _, _, _, rfl, (og.only GG (fun k hk hk' => by have := Q1.out k hk; simp at hk'; omega)).lower V1s, (oo.only GG (fun k hk hk' => by have := Q2.out k hk; simp at hk'; omega)).lower V1s, dd, V2.trans (GG.below V2.size (by simp))⟩
set_option maxHeartbeats 8000000 in
set_option maxRecDepth 100000 in
theorem TreeReadCircuit_any (n wd : Int) (w : World) :
    Calls Try.prog 19 #[.int .i64 n, .int .i64 wd] w fun e w' => ∃ ga gn gc oa on oc, e = .returned (.tuple #[.agg #[.int .i64 (mS0 n wd), .int .i64 (mS1 1 n wd), .slice ga gn gc, .slice oa on oc], .bool (memB n wd)]) ∧ OwnF 3 eGate w' w.heap.size ga gn gc (mG 1 n wd) ∧ Own w' w.heap.size oa on oc (mO 1 n wd) ∧ Disj (foot ga gc) (foot oa oc) ∧ Below w.heap.size w w' := by
  have V1 : Below w.heap.size w (w.alloc (.cells #[.int .i64 0, .int .i64 0, .slice none 0 0, .slice none 0 0] 25)) := ((Below.refl _ _).alloc (by simp) _)
  have R1 : Blk (w.alloc (.cells #[.int .i64 0, .int .i64 0, .slice none 0 0, .slice none 0 0] 25)) w.heap.size 25 #[.int .i64 0, .int .i64 0, .slice none 0 0, .slice none 0 0] := Blk.new w _ _
  have Z1 : w.heap.size + 1 ≤ (w.alloc (.cells #[.int .i64 0, .int .i64 0, .slice none 0 0, .slice none 0 0] 25)).heap.size := by simp
  unfold mS0 mS1 mG mO
  cases hm : memB n wd
  · simp only [Bool.false_eq_true, if_false]
    go_enter Try.func19, Try.ntmps19
    go_wp2_with fail
    generalize (w.alloc (.cells #[.int .i64 0, .int .i64 0, .slice none 0 0, .slice none 0 0] 25)) = w1 at *
    refine (memory_no n wd _ _ _ _ hm).mono ?_; rintro e w2 ⟨rfl, u2⟩
    have V2 := V1.trans (u2.mono V1.size)
    have R2 := R1.below u2
    clear V1 R1 u2
    have r0 : w2.cell? ⟨w.heap.size, 0, none⟩ = some (.int .i64 0) := R2.cell 0
    have r1 : w2.cell? ⟨w.heap.size, 1, none⟩ = some (.int .i64 0) := R2.cell 1
    have r2 : w2.cell? ⟨w.heap.size, 2, none⟩ = some (.slice none 0 0) := R2.cell 2
    have r3 : w2.cell? ⟨w.heap.size, 3, none⟩ = some (.slice none 0 0) := R2.cell 3
    have q0 : w2.frozen? ⟨w.heap.size, 0, none⟩ = false := R2.frozen 0
    have q1 : w2.frozen? ⟨w.heap.size, 1, none⟩ = false := R2.frozen 1
    have q2 : w2.frozen? ⟨w.heap.size, 2, none⟩ = false := R2.frozen 2
    have q3 : w2.frozen? ⟨w.heap.size, 3, none⟩ = false := R2.frozen 3
    go_wp2
    have GG := (((((Only.refl [w.heap.size] w2).setCell ⟨w.heap.size, 0, none⟩ (.int .i64 0) (by simp)).setCell ⟨w.heap.size, 1, none⟩ (.int .i64 0) (by simp)).setCell ⟨w.heap.size, 2, none⟩ (.slice none 0 0) (by simp)).setCell ⟨w.heap.size, 3, none⟩ (.slice none 0 0) (by simp))
    exact bodyPost_ret (v := .tuple #[.agg #[.int .i64 0, .int .i64 0, .slice none 0 0, .slice none 0 0], .bool false]) (by simp [results, Try.results19, go_sem, r0, r1, r2, r3]) rfl ⟨none, 0, 0, none, 0, 0, rfl, OwnC.nil0 _ _ _ _ _, Own.nil0 _ _ _, foot_nil _ _, V2.trans (GG.below V2.size (by simp))⟩
  · simp only [if_true]
    obtain ⟨⟨n1, n2⟩, ⟨d1, d2⟩, hnw⟩ := memB_true hm
    obtain ⟨n, rfl⟩ : ∃ k : Nat, n = k := ⟨n.toNat, by omega⟩
    obtain ⟨wd, rfl⟩ : ∃ k : Nat, wd = k := ⟨wd.toNat, by omega⟩
    rw [← Int.natCast_mul] at hnw
    have hok := m_ok 1 n wd hm
    simp only [Int.toNat_natCast]
    clear hm
    have eM : meMore 1 wd = 0 := by unfold meMore; simp
    rw [eM] at hok ⊢
    obtain ⟨v, hv⟩ : ∃ v, wid (n : Int) = v := ⟨_, rfl⟩
    rw [hv] at hok ⊢
    have HV := Lib.hid hv
    have HOK := Lib.hid hok
    clear hv hok eM
    have e3 : ((n : Int) * (wd : Int)) = ((n * wd : Nat) : Int) := (Int.natCast_mul _ _).symm
    rw [e3]
    clear e3
    obtain ⟨p, hp⟩ : ∃ p, p = meG 1 n wd := ⟨_, rfl⟩
    rw [← hp] at HOK ⊢
    have HP := Lib.hid hp
    clear hp
    have HCL : Hid (CloP 50 #[] (w.alloc (.cells #[.int .i64 0, .int .i64 0, .slice none 0 0, .slice none 0 0] 25)) (n * wd) n wd v 0 p) := Lib.hid (by rw [HP.out]; exact tree_clo n wd v _ (by omega) (by omega) HV.out)
    go_enter Try.func19, Try.ntmps19
    go_wp2_with fail
    generalize (w.alloc (.cells #[.int .i64 0, .int .i64 0, .slice none 0 0, .slice none 0 0] 25)) = w1 at *
    have V1s : w.heap.size ≤ w1.heap.size := V1.size
    refine (memory_yes n wd 0 v _ _ p _ (by omega) (by omega) (by omega) (by omega) HV.out HCL.out tree_enters HOK.out).mono ?_; rintro e w2 ⟨ga, gn, gc, oa, on, oc, rfl, og, oo, dd, u2⟩
    have V2 := V1.trans (u2.mono V1.size)
    have R2 := R1.below u2
    have Z2 := u2.size
    have Q1 := Lib.hid og.feet
    have Q2 := Lib.hid oo.feet
    clear V1 R1 u2 HCL
    have r0 : w2.cell? ⟨w.heap.size, 0, none⟩ = some (.int .i64 0) := R2.cell 0
    have r1 : w2.cell? ⟨w.heap.size, 1, none⟩ = some (.int .i64 0) := R2.cell 1
    have r2 : w2.cell? ⟨w.heap.size, 2, none⟩ = some (.slice none 0 0) := R2.cell 2
    have r3 : w2.cell? ⟨w.heap.size, 3, none⟩ = some (.slice none 0 0) := R2.cell 3
    have q0 : w2.frozen? ⟨w.heap.size, 0, none⟩ = false := R2.frozen 0
    have q1 : w2.frozen? ⟨w.heap.size, 1, none⟩ = false := R2.frozen 1
    have q2 : w2.frozen? ⟨w.heap.size, 2, none⟩ = false := R2.frozen 2
    have q3 : w2.frozen? ⟨w.heap.size, 3, none⟩ = false := R2.frozen 3
    go_wp2
    have GG := (((((Only.refl [w.heap.size] w2).setCell ⟨w.heap.size, 0, none⟩ (.int .i64 ((n * wd : Nat) : Int)) (by simp)).setCell ⟨w.heap.size, 1, none⟩ (.int .i64 ((v : Int) + ((0 : Nat) : Int))) (by simp)).setCell ⟨w.heap.size, 2, none⟩ (.slice ga gn gc) (by simp)).setCell ⟨w.heap.size, 3, none⟩ (.slice oa on oc) (by simp))
    exact bodyPost_ret (v := .tuple #[.agg #[.int .i64 ((n * wd : Nat) : Int), .int .i64 ((v : Int) + ((0 : Nat) : Int)), .slice ga gn gc, .slice oa on oc], .bool true]) (by simp [results, Try.results19, go_sem, r0, r1, r2, r3]) rfl ⟨_, _, _, _, _, _, rfl, (og.only GG (fun k hk hk' => by have := Q1.out k hk; simp at hk'; omega)).lower V1s, (oo.only GG (fun k hk hk' => by have := Q2.out k hk; simp at hk'; omega)).lower V1s, dd, V2.trans (GG.below V2.size (by simp))⟩
set_option maxHeartbeats 8000000 in
set_option maxRecDepth 100000 in
theorem WriteCircuit_any (n wd : Int) (w : World) :
    Calls Try.prog 25 #[.int .i64 n, .int .i64 wd] w fun e w' => ∃ ga gn gc oa on oc, e = .returned (.tuple #[.agg #[.int .i64 (mS0 n wd), .int .i64 (mS1 2 n wd), .slice ga gn gc, .slice oa on oc], .bool (memB n wd)]) ∧ OwnF 3 eGate w' w.heap.size ga gn gc (mG 2 n wd) ∧ Own w' w.heap.size oa on oc (mO 2 n wd) ∧ Disj (foot ga gc) (foot oa oc) ∧ Below w.heap.size w w' := by
  have V1 : Below w.heap.size w (((w.alloc (.cells #[.int .i64 n] 3)).alloc (.cells #[.int .i64 wd] 3)).alloc (.cells #[.int .i64 0, .int .i64 0, .slice none 0 0, .slice none 0 0] 25)) := ((((Below.refl _ _).alloc (by simp) _).alloc (by simp) _).alloc (by simp; omega) _)
  have R1 : Blk (((w.alloc (.cells #[.int .i64 n] 3)).alloc (.cells #[.int .i64 wd] 3)).alloc (.cells #[.int .i64 0, .int .i64 0, .slice none 0 0, .slice none 0 0] 25)) (w.heap.size + 2) 25 #[.int .i64 0, .int .i64 0, .slice none 0 0, .slice none 0 0] := by simpa using (Blk.new ((w.alloc (.cells #[.int .i64 n] 3)).alloc (.cells #[.int .i64 wd] 3)) 25 #[.int .i64 0, .int .i64 0, .slice none 0 0, .slice none 0 0])
  have Z1 : w.heap.size + 2 + 1 ≤ (((w.alloc (.cells #[.int .i64 n] 3)).alloc (.cells #[.int .i64 wd] 3)).alloc (.cells #[.int .i64 0, .int .i64 0, .slice none 0 0, .slice none 0 0] 25)).heap.size := by simp
  have B0 : Blk (((w.alloc (.cells #[.int .i64 n] 3)).alloc (.cells #[.int .i64 wd] 3)).alloc (.cells #[.int .i64 0, .int .i64 0, .slice none 0 0, .slice none 0 0] 25)) (w.heap.size) 3 #[.int .i64 n] := by simpa using ((((Blk.new w 3 #[.int .i64 n]).alloc _).alloc _) : Blk (((w.alloc (.cells #[.int .i64 n] 3)).alloc (.cells #[.int .i64 wd] 3)).alloc (.cells #[.int .i64 0, .int .i64 0, .slice none 0 0, .slice none 0 0] 25)) _ _ _)
  have B1 : Blk (((w.alloc (.cells #[.int .i64 n] 3)).alloc (.cells #[.int .i64 wd] 3)).alloc (.cells #[.int .i64 0, .int .i64 0, .slice none 0 0, .slice none 0 0] 25)) (w.heap.size + 1) 3 #[.int .i64 wd] := by simpa using (((Blk.new (w.alloc (.cells #[.int .i64 n] 3)) 3 #[.int .i64 wd]).alloc _) : Blk (((w.alloc (.cells #[.int .i64 n] 3)).alloc (.cells #[.int .i64 wd] 3)).alloc (.cells #[.int .i64 0, .int .i64 0, .slice none 0 0, .slice none 0 0] 25)) _ _ _)
  unfold mS0 mS1 mG mO
  cases hm : memB n wd
  · simp only [Bool.false_eq_true, if_false]
    go_enter Try.func25, Try.ntmps25
    go_wp2_with fail
    generalize (((w.alloc (.cells #[.int .i64 n] 3)).alloc (.cells #[.int .i64 wd] 3)).alloc (.cells #[.int .i64 0, .int .i64 0, .slice none 0 0, .slice none 0 0] 25)) = w1 at *
    refine (memory_no n wd _ _ _ _ hm).mono ?_; rintro e w2 ⟨rfl, u2⟩
    have V2 := V1.trans (u2.mono V1.size)
    have R2 := R1.below u2
    clear V1 R1 u2 B0 B1
    have r0 : w2.cell? ⟨w.heap.size + 2, 0, none⟩ = some (.int .i64 0) := R2.cell 0
    have r1 : w2.cell? ⟨w.heap.size + 2, 1, none⟩ = some (.int .i64 0) := R2.cell 1
    have r2 : w2.cell? ⟨w.heap.size + 2, 2, none⟩ = some (.slice none 0 0) := R2.cell 2
    have r3 : w2.cell? ⟨w.heap.size + 2, 3, none⟩ = some (.slice none 0 0) := R2.cell 3
    have q0 : w2.frozen? ⟨w.heap.size + 2, 0, none⟩ = false := R2.frozen 0
    have q1 : w2.frozen? ⟨w.heap.size + 2, 1, none⟩ = false := R2.frozen 1
    have q2 : w2.frozen? ⟨w.heap.size + 2, 2, none⟩ = false := R2.frozen 2
    have q3 : w2.frozen? ⟨w.heap.size + 2, 3, none⟩ = false := R2.frozen 3
    go_wp2
    have GG := (((((Only.refl [w.heap.size + 2] w2).setCell ⟨w.heap.size + 2, 0, none⟩ (.int .i64 0) (by simp)).setCell ⟨w.heap.size + 2, 1, none⟩ (.int .i64 0) (by simp)).setCell ⟨w.heap.size + 2, 2, none⟩ (.slice none 0 0) (by simp)).setCell ⟨w.heap.size + 2, 3, none⟩ (.slice none 0 0) (by simp))
    exact bodyPost_ret (v := .tuple #[.agg #[.int .i64 0, .int .i64 0, .slice none 0 0, .slice none 0 0], .bool false]) (by simp [results, Try.results25, go_sem, r0, r1, r2, r3]) rfl ⟨none, 0, 0, none, 0, 0, rfl, OwnC.nil0 _ _ _ _ _, Own.nil0 _ _ _, foot_nil _ _, V2.trans (GG.below V2.size (by simp))⟩
  · simp only [if_true]
    obtain ⟨⟨n1, n2⟩, ⟨d1, d2⟩, hnw⟩ := memB_true hm
    obtain ⟨n, rfl⟩ : ∃ k : Nat, n = k := ⟨n.toNat, by omega⟩
    obtain ⟨wd, rfl⟩ : ∃ k : Nat, wd = k := ⟨wd.toNat, by omega⟩
    rw [← Int.natCast_mul] at hnw
    have hok := m_ok 2 n wd hm
    simp only [Int.toNat_natCast]
    clear hm
    have eM : meMore 2 wd = wd := by unfold meMore; simp
    rw [eM] at hok ⊢
    obtain ⟨v, hv⟩ : ∃ v, wid (n : Int) = v := ⟨_, rfl⟩
    rw [hv] at hok ⊢
    have HV := Lib.hid hv
    have HOK := Lib.hid hok
    clear hv hok eM
    have e3 : ((n : Int) * (wd : Int)) = ((n * wd : Nat) : Int) := (Int.natCast_mul _ _).symm
    rw [e3]
    clear e3
    obtain ⟨p, hp⟩ : ∃ p, p = meG 2 n wd := ⟨_, rfl⟩
    rw [← hp] at HOK ⊢
    have HP := Lib.hid hp
    clear hp
    have HCL : Hid (CloP 59 #[.pointer (some ⟨w.heap.size, 0, none⟩), .pointer (some ⟨w.heap.size + 1, 0, none⟩)] (((w.alloc (.cells #[.int .i64 n] 3)).alloc (.cells #[.int .i64 wd] 3)).alloc (.cells #[.int .i64 0, .int .i64 0, .slice none 0 0, .slice none 0 0] 25)) (n * wd) n wd v wd p) := Lib.hid (by rw [HP.out]; exact writ_clo n wd v _ (by omega) (by omega) HV.out _ _ (B0.cell 0) (B1.cell 0))
    go_enter Try.func25, Try.ntmps25
    go_wp2_with fail
    generalize (((w.alloc (.cells #[.int .i64 n] 3)).alloc (.cells #[.int .i64 wd] 3)).alloc (.cells #[.int .i64 0, .int .i64 0, .slice none 0 0, .slice none 0 0] 25)) = w1 at *
    have V1s : w.heap.size ≤ w1.heap.size := V1.size
    refine (memory_yes n wd wd v _ _ p _ (by omega) (by omega) (by omega) (by omega) HV.out HCL.out writ_enters HOK.out).mono ?_; rintro e w2 ⟨ga, gn, gc, oa, on, oc, rfl, og, oo, dd, u2⟩
    have V2 := V1.trans (u2.mono V1.size)
    have R2 := R1.below u2
    have Z2 := u2.size
    have Q1 := Lib.hid og.feet
    have Q2 := Lib.hid oo.feet
    clear V1 R1 u2 HCL B0 B1
    have r0 : w2.cell? ⟨w.heap.size + 2, 0, none⟩ = some (.int .i64 0) := R2.cell 0
    have r1 : w2.cell? ⟨w.heap.size + 2, 1, none⟩ = some (.int .i64 0) := R2.cell 1
    have r2 : w2.cell? ⟨w.heap.size + 2, 2, none⟩ = some (.slice none 0 0) := R2.cell 2
    have r3 : w2.cell? ⟨w.heap.size + 2, 3, none⟩ = some (.slice none 0 0) := R2.cell 3
    have q0 : w2.frozen? ⟨w.heap.size + 2, 0, none⟩ = false := R2.frozen 0
    have q1 : w2.frozen? ⟨w.heap.size + 2, 1, none⟩ = false := R2.frozen 1
    have q2 : w2.frozen? ⟨w.heap.size + 2, 2, none⟩ = false := R2.frozen 2
    have q3 : w2.frozen? ⟨w.heap.size + 2, 3, none⟩ = false := R2.frozen 3
    go_wp2
    have GG := (((((Only.refl [w.heap.size + 2] w2).setCell ⟨w.heap.size + 2, 0, none⟩ (.int .i64 ((n * wd : Nat) : Int)) (by simp)).setCell ⟨w.heap.size + 2, 1, none⟩ (.int .i64 ((v : Int) + ((wd : Nat) : Int))) (by simp)).setCell ⟨w.heap.size + 2, 2, none⟩ (.slice ga gn gc) (by simp)).setCell ⟨w.heap.size + 2, 3, none⟩ (.slice oa on oc) (by simp))
    exact bodyPost_ret (v := .tuple #[.agg #[.int .i64 ((n * wd : Nat) : Int), .int .i64 ((v : Int) + ((wd : Nat) : Int)), .slice ga gn gc, .slice oa on oc], .bool true]) (by simp [results, Try.results25, go_sem, r0, r1, r2, r3]) rfl ⟨_, _, _, _, _, _, rfl, (og.only GG (fun k hk hk' => by have := Q1.out k hk; simp at hk'; omega)).lower V1s, (oo.only GG (fun k hk hk' => by have := Q2.out k hk; simp at hk'; omega)).lower V1s, dd, V2.trans (GG.below V2.size (by simp))⟩
set_option maxHeartbeats 8000000 in
set_option maxRecDepth 100000 in
theorem TurnCircuit_any (n wd : Int) (w : World) :
    Calls Try.prog 27 #[.int .i64 n, .int .i64 wd] w fun e w' => ∃ ga gn gc oa on oc, e = .returned (.tuple #[.agg #[.int .i64 (mS0 n wd), .int .i64 (mS1 3 n wd), .slice ga gn gc, .slice oa on oc], .bool (memB n wd)]) ∧ OwnF 3 eGate w' w.heap.size ga gn gc (mG 3 n wd) ∧ Own w' w.heap.size oa on oc (mO 3 n wd) ∧ Disj (foot ga gc) (foot oa oc) ∧ Below w.heap.size w w' := by
  have V1 : Below w.heap.size w ((w.alloc (.cells #[.int .i64 n] 3)).alloc (.cells #[.int .i64 0, .int .i64 0, .slice none 0 0, .slice none 0 0] 25)) := (((Below.refl _ _).alloc (by simp) _).alloc (by simp) _)
  have R1 : Blk ((w.alloc (.cells #[.int .i64 n] 3)).alloc (.cells #[.int .i64 0, .int .i64 0, .slice none 0 0, .slice none 0 0] 25)) (w.heap.size + 1) 25 #[.int .i64 0, .int .i64 0, .slice none 0 0, .slice none 0 0] := by simpa using (Blk.new (w.alloc (.cells #[.int .i64 n] 3)) 25 #[.int .i64 0, .int .i64 0, .slice none 0 0, .slice none 0 0])
  have Z1 : w.heap.size + 1 + 1 ≤ ((w.alloc (.cells #[.int .i64 n] 3)).alloc (.cells #[.int .i64 0, .int .i64 0, .slice none 0 0, .slice none 0 0] 25)).heap.size := by simp
  have B0 : Blk ((w.alloc (.cells #[.int .i64 n] 3)).alloc (.cells #[.int .i64 0, .int .i64 0, .slice none 0 0, .slice none 0 0] 25)) (w.heap.size) 3 #[.int .i64 n] := by simpa using (((Blk.new w 3 #[.int .i64 n]).alloc _) : Blk ((w.alloc (.cells #[.int .i64 n] 3)).alloc (.cells #[.int .i64 0, .int .i64 0, .slice none 0 0, .slice none 0 0] 25)) _ _ _)
  unfold mS0 mS1 mG mO
  cases hm : memB n wd
  · simp only [Bool.false_eq_true, if_false]
    go_enter Try.func27, Try.ntmps27
    go_wp2_with fail
    generalize ((w.alloc (.cells #[.int .i64 n] 3)).alloc (.cells #[.int .i64 0, .int .i64 0, .slice none 0 0, .slice none 0 0] 25)) = w1 at *
    refine (memory_no n wd _ _ _ _ hm).mono ?_; rintro e w2 ⟨rfl, u2⟩
    have V2 := V1.trans (u2.mono V1.size)
    have R2 := R1.below u2
    clear V1 R1 u2 B0
    have r0 : w2.cell? ⟨w.heap.size + 1, 0, none⟩ = some (.int .i64 0) := R2.cell 0
    have r1 : w2.cell? ⟨w.heap.size + 1, 1, none⟩ = some (.int .i64 0) := R2.cell 1
    have r2 : w2.cell? ⟨w.heap.size + 1, 2, none⟩ = some (.slice none 0 0) := R2.cell 2
    have r3 : w2.cell? ⟨w.heap.size + 1, 3, none⟩ = some (.slice none 0 0) := R2.cell 3
    have q0 : w2.frozen? ⟨w.heap.size + 1, 0, none⟩ = false := R2.frozen 0
    have q1 : w2.frozen? ⟨w.heap.size + 1, 1, none⟩ = false := R2.frozen 1
    have q2 : w2.frozen? ⟨w.heap.size + 1, 2, none⟩ = false := R2.frozen 2
    have q3 : w2.frozen? ⟨w.heap.size + 1, 3, none⟩ = false := R2.frozen 3
    go_wp2
    have GG := (((((Only.refl [w.heap.size + 1] w2).setCell ⟨w.heap.size + 1, 0, none⟩ (.int .i64 0) (by simp)).setCell ⟨w.heap.size + 1, 1, none⟩ (.int .i64 0) (by simp)).setCell ⟨w.heap.size + 1, 2, none⟩ (.slice none 0 0) (by simp)).setCell ⟨w.heap.size + 1, 3, none⟩ (.slice none 0 0) (by simp))
    exact bodyPost_ret (v := .tuple #[.agg #[.int .i64 0, .int .i64 0, .slice none 0 0, .slice none 0 0], .bool false]) (by simp [results, Try.results27, go_sem, r0, r1, r2, r3]) rfl ⟨none, 0, 0, none, 0, 0, rfl, OwnC.nil0 _ _ _ _ _, Own.nil0 _ _ _, foot_nil _ _, V2.trans (GG.below V2.size (by simp))⟩
  · simp only [if_true]
    obtain ⟨⟨n1, n2⟩, ⟨d1, d2⟩, hnw⟩ := memB_true hm
    obtain ⟨n, rfl⟩ : ∃ k : Nat, n = k := ⟨n.toNat, by omega⟩
    obtain ⟨wd, rfl⟩ : ∃ k : Nat, wd = k := ⟨wd.toNat, by omega⟩
    rw [← Int.natCast_mul] at hnw
    have hok := m_ok 3 n wd hm
    simp only [Int.toNat_natCast]
    clear hm
    have eM : meMore 3 wd = 0 := by unfold meMore; simp
    rw [eM] at hok ⊢
    obtain ⟨v, hv⟩ : ∃ v, wid (n : Int) = v := ⟨_, rfl⟩
    rw [hv] at hok ⊢
    have HV := Lib.hid hv
    have HOK := Lib.hid hok
    clear hv hok eM
    have e3 : ((n : Int) * (wd : Int)) = ((n * wd : Nat) : Int) := (Int.natCast_mul _ _).symm
    rw [e3]
    clear e3
    obtain ⟨p, hp⟩ : ∃ p, p = meG 3 n wd := ⟨_, rfl⟩
    rw [← hp] at HOK ⊢
    have HP := Lib.hid hp
    clear hp
    have HCL : Hid (CloP 61 #[.pointer (some ⟨w.heap.size, 0, none⟩)] ((w.alloc (.cells #[.int .i64 n] 3)).alloc (.cells #[.int .i64 0, .int .i64 0, .slice none 0 0, .slice none 0 0] 25)) (n * wd) n wd v 0 p) := Lib.hid (by rw [HP.out]; exact turn_clo n wd v _ (by omega) (by omega) HV.out _ (B0.cell 0))
    go_enter Try.func27, Try.ntmps27
    go_wp2_with fail
    generalize ((w.alloc (.cells #[.int .i64 n] 3)).alloc (.cells #[.int .i64 0, .int .i64 0, .slice none 0 0, .slice none 0 0] 25)) = w1 at *
    have V1s : w.heap.size ≤ w1.heap.size := V1.size
    refine (memory_yes n wd 0 v _ _ p _ (by omega) (by omega) (by omega) (by omega) HV.out HCL.out turn_enters HOK.out).mono ?_; rintro e w2 ⟨ga, gn, gc, oa, on, oc, rfl, og, oo, dd, u2⟩
    have V2 := V1.trans (u2.mono V1.size)
    have R2 := R1.below u2
    have Z2 := u2.size
    have Q1 := Lib.hid og.feet
    have Q2 := Lib.hid oo.feet
    clear V1 R1 u2 HCL B0
    have r0 : w2.cell? ⟨w.heap.size + 1, 0, none⟩ = some (.int .i64 0) := R2.cell 0
    have r1 : w2.cell? ⟨w.heap.size + 1, 1, none⟩ = some (.int .i64 0) := R2.cell 1
    have r2 : w2.cell? ⟨w.heap.size + 1, 2, none⟩ = some (.slice none 0 0) := R2.cell 2
    have r3 : w2.cell? ⟨w.heap.size + 1, 3, none⟩ = some (.slice none 0 0) := R2.cell 3
    have q0 : w2.frozen? ⟨w.heap.size + 1, 0, none⟩ = false := R2.frozen 0
    have q1 : w2.frozen? ⟨w.heap.size + 1, 1, none⟩ = false := R2.frozen 1
    have q2 : w2.frozen? ⟨w.heap.size + 1, 2, none⟩ = false := R2.frozen 2
    have q3 : w2.frozen? ⟨w.heap.size + 1, 3, none⟩ = false := R2.frozen 3
    go_wp2
    have GG := (((((Only.refl [w.heap.size + 1] w2).setCell ⟨w.heap.size + 1, 0, none⟩ (.int .i64 ((n * wd : Nat) : Int)) (by simp)).setCell ⟨w.heap.size + 1, 1, none⟩ (.int .i64 ((v : Int) + ((0 : Nat) : Int))) (by simp)).setCell ⟨w.heap.size + 1, 2, none⟩ (.slice ga gn gc) (by simp)).setCell ⟨w.heap.size + 1, 3, none⟩ (.slice oa on oc) (by simp))
    exact bodyPost_ret (v := .tuple #[.agg #[.int .i64 ((n * wd : Nat) : Int), .int .i64 ((v : Int) + ((0 : Nat) : Int)), .slice ga gn gc, .slice oa on oc], .bool true]) (by simp [results, Try.results27, go_sem, r0, r1, r2, r3]) rfl ⟨_, _, _, _, _, _, rfl, (og.only GG (fun k hk hk' => by have := Q1.out k hk; simp at hk'; omega)).lower V1s, (oo.only GG (fun k hk hk' => by have := Q2.out k hk; simp at hk'; omega)).lower V1s, dd, V2.trans (GG.below V2.size (by simp))⟩
end Go.Proofs.Ytkbhigdciokfkaa
