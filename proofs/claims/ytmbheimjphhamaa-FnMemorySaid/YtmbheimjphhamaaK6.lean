/- Lemmas and walks that the claim's proof rests on, part 6. -/
import Derived.Test.YtmbheimjphhamaaK2
import Derived.Test.YtmbheimjphhamaaK3
import Derived.Test.YtmbheimjphhamaaK5
namespace Go.Proofs.Ytmbheimjphhamaa
open Go.RowKit
def mS0 (n w : Int) : Int := if memB n w then n * w else 0
def mS1 (kind : Nat) (n w : Int) : Int := if memB n w then ((wid n : Nat) : Int) + ((meMore kind w.toNat : Nat) : Int) else 0
def mG (kind : Nat) (n w : Int) : List Int := if memB n w then (meG kind n.toNat w.toNat).1 else []
def mO (kind : Nat) (n w : Int) : List Int := if memB n w then (meG kind n.toNat w.toNat).2 else []
theorem memB_true {n w : Int} (h : memB n w = true) : (1 ≤ n ∧ n ≤ 8) ∧ (1 ≤ w ∧ w ≤ 4) ∧ n * w ≤ 20 := by
  simp only [memB, Bool.and_eq_true, decide_eq_true_eq] at h
  exact ⟨inB_true h.1.1, inB_true h.1.2, h.2⟩
theorem m_len (kind : Nat) (n w : Int) : (mG kind n w).length ≤ 900 ∧ (mO kind n w).length ≤ 900 := by
  unfold mG mO
  split
  · rename_i h
    obtain ⟨⟨a, b⟩, ⟨c, d⟩, _⟩ := memB_true h
    obtain ⟨_, e, f⟩ := meG_good kind n.toNat w.toNat (by omega) (by omega) (by omega) (by omega)
    exact ⟨by omega, by omega⟩
  · simp
theorem m_ok (kind n w : Nat) (h : memB n w = true) : ciB ((n * w : Nat) : Int) (((wid (n : Int) : Nat) : Int) + ((meMore kind w : Nat) : Int)) ((meG kind n w).1.length / 3) (meG kind n w).1 (meG kind n w).2 = true := by
  obtain ⟨⟨a, b⟩, ⟨c, d⟩, e⟩ := memB_true h
  have := me_ok kind n w (by omega) (by omega) (by omega) (by omega)
  rw [Int.natCast_add] at this
  rw [this, decide_eq_true_eq]
  rw [← Int.natCast_mul] at e
  omega
theorem enters_of {f : FuncId} {fn : Func} (hf : Try.prog.funcs[f]? = some fn) (hname : (fn.name == "runtime.NumGoroutine") = false) (hb : fn.body.isSome = true) : ∀ (args : Array Value) (w : World), (callFunc f args).run Try.prog w = .ok (.enter f args) w := fun args w => enters hf hname hb args w
theorem scan_clo (n wd v : Nat) (w : World) (hn : 1 ≤ n ∧ n ≤ 8) (hw : 1 ≤ wd ∧ wd ≤ 4) (hv : wid n = v) : CloP 35 #[] w (n * wd) n wd v 0 (meG 0 n wd) := by
  intro W b g F ca cc rs ia ic u hM hb hF hr hd hx
  have hv3 : v ≤ 3 := by rw [← hv]; exact wid8 n hn.2
  have hq : n * wd ≤ 8 * 4 := Nat.mul_le_mul hn.2 hw.2
  have eB : ((n * wd : Nat) : Int) + ((v : Int) + ((0 : Nat) : Int)) = meB n wd v 0 := by unfold meB; simp
  have hAL : AllL wd (datas' rs) := by rw [hd]; exact ceL_all wd n
  have h := scan_any ca n cc rs ia v ic _ wd b g (n * wd : Nat) ((v : Int) + ((0 : Nat) : Int)) [] F W hM hb (by omega) (by omega) hr hx hAL hn (by omega) (by omega) (by simp)
  rw [eB, hd] at h
  have e : meG 0 n wd = scG (meB n wd v 0) (spL ((n * wd : Nat) : Int) v) (ceL wd n) [] n := by unfold meG; rw [if_pos rfl, hv]; rfl
  rw [e]
  exact h
theorem scan_enters : ∀ (args : Array Value) (w : World), (callFunc 35 args).run Try.prog w = .ok (.enter 35 args) w := enters_of Try.func35 (by kernel_rfl) (by kernel_rfl)
theorem tree_clo (n wd v : Nat) (w : World) (hn : 1 ≤ n ∧ n ≤ 8) (hw : 1 ≤ wd ∧ wd ≤ 4) (hv : wid n = v) : CloP 40 #[] w (n * wd) n wd v 0 (meG 1 n wd) := by
  intro W b g F ca cc rs ia ic u hM hb hF hr hd hx
  have hv3 : v ≤ 3 := by rw [← hv]; exact wid8 n hn.2
  have hq : n * wd ≤ 8 * 4 := Nat.mul_le_mul hn.2 hw.2
  have eB : ((n * wd : Nat) : Int) + ((v : Int) + ((0 : Nat) : Int)) = meB n wd v 0 := by unfold meB; simp
  have hAL : AllL wd (datas' rs) := by rw [hd]; exact ceL_all wd n
  have h := tree_any ca n cc rs ia v ic _ wd b g (n * wd : Nat) ((v : Int) + ((0 : Nat) : Int)) [] F W hM hb (by omega) (by omega) hr hx hAL hn (by omega) (by omega) (by simp)
  rw [eB, hd] at h
  have e : meG 1 n wd = ((trG (meB n wd v 0) (spL ((n * wd : Nat) : Int) v) (ceL wd n) [] v).1, (trG (meB n wd v 0) (spL ((n * wd : Nat) : Int) v) (ceL wd n) [] v).2.getD 0 []) := by unfold meG; rw [if_neg (by decide), if_pos rfl, hv]; rfl
  rw [e]
  exact h
theorem tree_enters : ∀ (args : Array Value) (w : World), (callFunc 40 args).run Try.prog w = .ok (.enter 40 args) w := enters_of Try.func40 (by kernel_rfl) (by kernel_rfl)
theorem writ_clo (n wd v : Nat) (w : World) (hn : 1 ≤ n ∧ n ≤ 8) (hw : 1 ≤ wd ∧ wd ≤ 4) (hv : wid n = v) (nb wb : Nat) (hnb : w.cell? ⟨nb, 0, none⟩ = some (.int .i64 n)) (hwb : w.cell? ⟨wb, 0, none⟩ = some (.int .i64 wd)) : CloP 43 #[.pointer (some ⟨nb, 0, none⟩), .pointer (some ⟨wb, 0, none⟩)] w (n * wd) n wd v wd (meG 2 n wd) := by
  intro W b g F ca cc rs ia ic u hM hb hF hr hd hx
  have hv3 : v ≤ 3 := by rw [← hv]; exact wid8 n hn.2
  have hq : n * wd ≤ 8 * 4 := Nat.mul_le_mul hn.2 hw.2
  have eB : ((n * wd : Nat) : Int) + ((v : Int) + ((wd : Nat) : Int)) = meB n wd v wd := by unfold meB; simp
  have hAL : AllL wd (datas' rs) := by rw [hd]; exact ceL_all wd n
  have h := writ_any ca n cc rs ia v ic _ wd b g (n * wd : Nat) ((v : Int) + ((wd : Nat) : Int)) [] F W hM hb (by omega) (by omega) hr hx hAL hn (by omega) (by omega) (by simp) nb wb (by rw [u.cell (World.block_lt_of_cell? w _ hnb)]; exact hnb) (by rw [u.cell (World.block_lt_of_cell? w _ hwb)]; exact hwb)
  rw [eB, hd] at h
  have e : meG 2 n wd = wrG (meB n wd v wd) (spL ((n * wd : Nat) : Int) v) (spL ((n * wd : Nat) + v : Int) wd) (ceL wd n) [] n := by unfold meG; rw [if_neg (by decide), if_neg (by decide), if_pos rfl, hv]; rfl
  rw [e]
  exact h
theorem writ_enters : ∀ (args : Array Value) (w : World), (callFunc 43 args).run Try.prog w = .ok (.enter 43 args) w := enters_of Try.func43 (by kernel_rfl) (by kernel_rfl)
theorem turn_clo (n wd v : Nat) (w : World) (hn : 1 ≤ n ∧ n ≤ 8) (hw : 1 ≤ wd ∧ wd ≤ 4) (hv : wid n = v) (nb : Nat) (hnb : w.cell? ⟨nb, 0, none⟩ = some (.int .i64 n)) : CloP 45 #[.pointer (some ⟨nb, 0, none⟩)] w (n * wd) n wd v 0 (meG 3 n wd) := by
  intro W b g F ca cc rs ia ic u hM hb hF hr hd hx
  have hv3 : v ≤ 3 := by rw [← hv]; exact wid8 n hn.2
  have hq : n * wd ≤ 8 * 4 := Nat.mul_le_mul hn.2 hw.2
  have eB : ((n * wd : Nat) : Int) + ((v : Int) + ((0 : Nat) : Int)) = meB n wd v 0 := by unfold meB; simp
  have hAL : AllL wd (datas' rs) := by rw [hd]; exact ceL_all wd n
  have h := turn_any ca n cc rs ia v ic _ wd b g (n * wd : Nat) ((v : Int) + ((0 : Nat) : Int)) [] F W hM hb (by omega) (by omega) hr hx hAL hn (by omega) (by omega) (by simp) nb (by omega) (by rw [u.cell (World.block_lt_of_cell? w _ hnb)]; exact hnb) (fun hm => by have := hF _ hm; have := World.block_lt_of_cell? w _ hnb; simp at this; omega)
  rw [eB, hd] at h
  have e : meG 3 n wd = ((tuG (meB n wd v 0) (spL ((n * wd : Nat) : Int) v) (ceL wd n) [] v).1, (tuG (meB n wd v 0) (spL ((n * wd : Nat) : Int) v) (ceL wd n) [] v).2.flatten) := by unfold meG; rw [if_neg (by decide), if_neg (by decide), if_neg (by decide), hv]; rfl
  rw [e]
  exact h
theorem turn_enters : ∀ (args : Array Value) (w : World), (callFunc 45 args).run Try.prog w = .ok (.enter 45 args) w := enters_of Try.func45 (by kernel_rfl) (by kernel_rfl)
set_option maxHeartbeats 8000000 in
set_option maxRecDepth 100000 in
theorem ScanReadCircuit_any (n wd : Int) (w : World) :
    Calls Try.prog 6 #[.int .i64 n, .int .i64 wd] w fun e w' => ∃ ga gn gc oa on oc, e = .returned (.tuple #[.agg #[.int .i64 (mS0 n wd), .int .i64 (mS1 0 n wd), .slice ga gn gc, .slice oa on oc], .bool (memB n wd)]) ∧ OwnF 3 eGate w' w.heap.size ga gn gc (mG 0 n wd) ∧ Own w' w.heap.size oa on oc (mO 0 n wd) ∧ Disj (foot ga gc) (foot oa oc) ∧ Below w.heap.size w w' := by
  have V1 : Below w.heap.size w (w.alloc (.cells #[.int .i64 0, .int .i64 0, .slice none 0 0, .slice none 0 0] 28)) := ((Below.refl _ _).alloc (by simp) _)
  have R1 : Blk (w.alloc (.cells #[.int .i64 0, .int .i64 0, .slice none 0 0, .slice none 0 0] 28)) w.heap.size 28 #[.int .i64 0, .int .i64 0, .slice none 0 0, .slice none 0 0] := Blk.new w _ _
  have Z1 : w.heap.size + 1 ≤ (w.alloc (.cells #[.int .i64 0, .int .i64 0, .slice none 0 0, .slice none 0 0] 28)).heap.size := by simp
  unfold mS0 mS1 mG mO
  cases hm : memB n wd
  · simp only [Bool.false_eq_true, if_false]
    go_enter Try.func6, Try.ntmps6
    go_wp2_with fail
    generalize (w.alloc (.cells #[.int .i64 0, .int .i64 0, .slice none 0 0, .slice none 0 0] 28)) = w1 at *
    refine (memory_no n wd _ _ _ _ hm).mono ?_; rintro e w2 ⟨rfl, u2⟩
    have V2 := V1.trans (u2.mono V1.size)
    have R2 := R1.below u2
    clear V1 R1 u2
    have r0 : w2.cell? ⟨w.heap.size, 0, none⟩ = some (.int .i64 0) := R2.cell 0
    have r1 : w2.cell? ⟨w.heap.size, 1, none⟩ = some (.int .i64 0) := R2.cell 1
    have r2 : w2.cell? ⟨w.heap.size, 2, none⟩ = some (.slice none 0 0) := R2.cell 2
    have r3 : w2.cell? ⟨w.heap.size, 3, none⟩ = some (.slice none 0 0) := R2.cell 3
    have q0 : w2.frozen? ⟨w.heap.size, 0, none⟩ = false := R2.frozen 0
    have q1 : w2.frozen? ⟨w.heap.size, 1, none⟩ = false := R2.frozen 1
    have q2 : w2.frozen? ⟨w.heap.size, 2, none⟩ = false := R2.frozen 2
    have q3 : w2.frozen? ⟨w.heap.size, 3, none⟩ = false := R2.frozen 3
    go_wp2
    have GG := (((((Only.refl [w.heap.size] w2).setCell ⟨w.heap.size, 0, none⟩ (.int .i64 0) (by simp)).setCell ⟨w.heap.size, 1, none⟩ (.int .i64 0) (by simp)).setCell ⟨w.heap.size, 2, none⟩ (.slice none 0 0) (by simp)).setCell ⟨w.heap.size, 3, none⟩ (.slice none 0 0) (by simp))
    exact bodyPost_ret (v := .tuple #[.agg #[.int .i64 0, .int .i64 0, .slice none 0 0, .slice none 0 0], .bool false]) (by simp [results, Try.results6, go_sem, r0, r1, r2, r3]) rfl ⟨none, 0, 0, none, 0, 0, rfl, OwnC.nil0 _ _ _ _ _, Own.nil0 _ _ _, foot_nil _ _, V2.trans (GG.below V2.size (by simp))⟩
  · simp only [if_true]
    obtain ⟨⟨n1, n2⟩, ⟨d1, d2⟩, hnw⟩ := memB_true hm
    obtain ⟨n, rfl⟩ : ∃ k : Nat, n = k := ⟨n.toNat, by omega⟩
    obtain ⟨wd, rfl⟩ : ∃ k : Nat, wd = k := ⟨wd.toNat, by omega⟩
    rw [← Int.natCast_mul] at hnw
    have hok := m_ok 0 n wd hm
    simp only [Int.toNat_natCast]
    clear hm
    have eM : meMore 0 wd = 0 := by unfold meMore; simp
    rw [eM] at hok ⊢
    obtain ⟨v, hv⟩ : ∃ v, wid (n : Int) = v := ⟨_, rfl⟩
    rw [hv] at hok ⊢
    have HV := Lib.hid hv
    have HOK := Lib.hid hok
    clear hv hok eM
    have e3 : ((n : Int) * (wd : Int)) = ((n * wd : Nat) : Int) := (Int.natCast_mul _ _).symm
    rw [e3]
    clear e3
    obtain ⟨p, hp⟩ : ∃ p, p = meG 0 n wd := ⟨_, rfl⟩
    rw [← hp] at HOK ⊢
    have HP := Lib.hid hp
    clear hp
    have HCL : Hid (CloP 35 #[] (w.alloc (.cells #[.int .i64 0, .int .i64 0, .slice none 0 0, .slice none 0 0] 28)) (n * wd) n wd v 0 p) := Lib.hid (by rw [HP.out]; exact scan_clo n wd v _ (by omega) (by omega) HV.out)
    go_enter Try.func6, Try.ntmps6
    go_wp2_with fail
    generalize (w.alloc (.cells #[.int .i64 0, .int .i64 0, .slice none 0 0, .slice none 0 0] 28)) = w1 at *
    have V1s : w.heap.size ≤ w1.heap.size := V1.size
    refine (memory_yes n wd 0 v _ _ p _ (by omega) (by omega) (by omega) (by omega) HV.out HCL.out scan_enters HOK.out).mono ?_; rintro e w2 ⟨ga, gn, gc, oa, on, oc, rfl, og, oo, dd, u2⟩
    have V2 := V1.trans (u2.mono V1.size)
    have R2 := R1.below u2
    have Z2 := u2.size
    have Q1 := Lib.hid og.feet
    have Q2 := Lib.hid oo.feet
    clear V1 R1 u2 HCL
    have r0 : w2.cell? ⟨w.heap.size, 0, none⟩ = some (.int .i64 0) := R2.cell 0
    have r1 : w2.cell? ⟨w.heap.size, 1, none⟩ = some (.int .i64 0) := R2.cell 1
    have r2 : w2.cell? ⟨w.heap.size, 2, none⟩ = some (.slice none 0 0) := R2.cell 2
    have r3 : w2.cell? ⟨w.heap.size, 3, none⟩ = some (.slice none 0 0) := R2.cell 3
    have q0 : w2.frozen? ⟨w.heap.size, 0, none⟩ = false := R2.frozen 0
    have q1 : w2.frozen? ⟨w.heap.size, 1, none⟩ = false := R2.frozen 1
    have q2 : w2.frozen? ⟨w.heap.size, 2, none⟩ = false := R2.frozen 2
    have q3 : w2.frozen? ⟨w.heap.size, 3, none⟩ = false := R2.frozen 3
    go_wp2
    have GG := (((((Only.refl [w.heap.size] w2).setCell ⟨w.heap.size, 0, none⟩ (.int .i64 ((n * wd : Nat) : Int)) (by simp)).setCell ⟨w.heap.size, 1, none⟩ (.int .i64 ((v : Int) + ((0 : Nat) : Int))) (by simp)).setCell ⟨w.heap.size, 2, none⟩ (.slice ga gn gc) (by simp)).setCell ⟨w.heap.size, 3, none⟩ (.slice oa on oc) (by simp))
    exact bodyPost_ret (v := .tuple #[.agg #[.int .i64 ((n * wd : Nat) : Int), .int .i64 ((v : Int) + ((0 : Nat) : Int)), .slice ga gn gc, .slice oa on oc], .bool true]) (by simp [results, Try.results6, go_sem, r0, r1, r2, r3]) rfl ⟨_, _, _, _, _, _, rfl, (og.only GG (fun k hk hk' => by have := Q1.out k hk; simp at hk'; omega)).lower V1s, (oo.only GG (fun k hk hk' => by have := Q2.out k hk; simp at hk'; omega)).lower V1s, dd, V2.trans (GG.below V2.size (by simp))⟩
set_option maxHeartbeats 8000000 in
set_option maxRecDepth 100000 in
theorem TreeReadCircuit_any (n wd : Int) (w : World) :
    Calls Try.prog 8 #[.int .i64 n, .int .i64 wd] w fun e w' => ∃ ga gn gc oa on oc, e = .returned (.tuple #[.agg #[.int .i64 (mS0 n wd), .int .i64 (mS1 1 n wd), .slice ga gn gc, .slice oa on oc], .bool (memB n wd)]) ∧ OwnF 3 eGate w' w.heap.size ga gn gc (mG 1 n wd) ∧ Own w' w.heap.size oa on oc (mO 1 n wd) ∧ Disj (foot ga gc) (foot oa oc) ∧ Below w.heap.size w w' := by
  have V1 : Below w.heap.size w (w.alloc (.cells #[.int .i64 0, .int .i64 0, .slice none 0 0, .slice none 0 0] 28)) := ((Below.refl _ _).alloc (by simp) _)
  have R1 : Blk (w.alloc (.cells #[.int .i64 0, .int .i64 0, .slice none 0 0, .slice none 0 0] 28)) w.heap.size 28 #[.int .i64 0, .int .i64 0, .slice none 0 0, .slice none 0 0] := Blk.new w _ _
  have Z1 : w.heap.size + 1 ≤ (w.alloc (.cells #[.int .i64 0, .int .i64 0, .slice none 0 0, .slice none 0 0] 28)).heap.size := by simp
  unfold mS0 mS1 mG mO
  cases hm : memB n wd
  · simp only [Bool.false_eq_true, if_false]
    go_enter Try.func8, Try.ntmps8
    go_wp2_with fail
    generalize (w.alloc (.cells #[.int .i64 0, .int .i64 0, .slice none 0 0, .slice none 0 0] 28)) = w1 at *
    refine (memory_no n wd _ _ _ _ hm).mono ?_; rintro e w2 ⟨rfl, u2⟩
    have V2 := V1.trans (u2.mono V1.size)
    have R2 := R1.below u2
    clear V1 R1 u2
    have r0 : w2.cell? ⟨w.heap.size, 0, none⟩ = some (.int .i64 0) := R2.cell 0
    have r1 : w2.cell? ⟨w.heap.size, 1, none⟩ = some (.int .i64 0) := R2.cell 1
    have r2 : w2.cell? ⟨w.heap.size, 2, none⟩ = some (.slice none 0 0) := R2.cell 2
    have r3 : w2.cell? ⟨w.heap.size, 3, none⟩ = some (.slice none 0 0) := R2.cell 3
    have q0 : w2.frozen? ⟨w.heap.size, 0, none⟩ = false := R2.frozen 0
    have q1 : w2.frozen? ⟨w.heap.size, 1, none⟩ = false := R2.frozen 1
    have q2 : w2.frozen? ⟨w.heap.size, 2, none⟩ = false := R2.frozen 2
    have q3 : w2.frozen? ⟨w.heap.size, 3, none⟩ = false := R2.frozen 3
    go_wp2
    have GG := (((((Only.refl [w.heap.size] w2).setCell ⟨w.heap.size, 0, none⟩ (.int .i64 0) (by simp)).setCell ⟨w.heap.size, 1, none⟩ (.int .i64 0) (by simp)).setCell ⟨w.heap.size, 2, none⟩ (.slice none 0 0) (by simp)).setCell ⟨w.heap.size, 3, none⟩ (.slice none 0 0) (by simp))
    exact bodyPost_ret (v := .tuple #[.agg #[.int .i64 0, .int .i64 0, .slice none 0 0, .slice none 0 0], .bool false]) (by simp [results, Try.results8, go_sem, r0, r1, r2, r3]) rfl ⟨none, 0, 0, none, 0, 0, rfl, OwnC.nil0 _ _ _ _ _, Own.nil0 _ _ _, foot_nil _ _, V2.trans (GG.below V2.size (by simp))⟩
  · simp only [if_true]
    obtain ⟨⟨n1, n2⟩, ⟨d1, d2⟩, hnw⟩ := memB_true hm
    obtain ⟨n, rfl⟩ : ∃ k : Nat, n = k := ⟨n.toNat, by omega⟩
    obtain ⟨wd, rfl⟩ : ∃ k : Nat, wd = k := ⟨wd.toNat, by omega⟩
    rw [← Int.natCast_mul] at hnw
    have hok := m_ok 1 n wd hm
    simp only [Int.toNat_natCast]
    clear hm
    have eM : meMore 1 wd = 0 := by unfold meMore; simp
    rw [eM] at hok ⊢
    obtain ⟨v, hv⟩ : ∃ v, wid (n : Int) = v := ⟨_, rfl⟩
    rw [hv] at hok ⊢
    have HV := Lib.hid hv
    have HOK := Lib.hid hok
    clear hv hok eM
    have e3 : ((n : Int) * (wd : Int)) = ((n * wd : Nat) : Int) := (Int.natCast_mul _ _).symm
    rw [e3]
    clear e3
    obtain ⟨p, hp⟩ : ∃ p, p = meG 1 n wd := ⟨_, rfl⟩
    rw [← hp] at HOK ⊢
    have HP := Lib.hid hp
    clear hp
    have HCL : Hid (CloP 40 #[] (w.alloc (.cells #[.int .i64 0, .int .i64 0, .slice none 0 0, .slice none 0 0] 28)) (n * wd) n wd v 0 p) := Lib.hid (by rw [HP.out]; exact tree_clo n wd v _ (by omega) (by omega) HV.out)
    go_enter Try.func8, Try.ntmps8
    go_wp2_with fail
    generalize (w.alloc (.cells #[.int .i64 0, .int .i64 0, .slice none 0 0, .slice none 0 0] 28)) = w1 at *
    have V1s : w.heap.size ≤ w1.heap.size := V1.size
    refine (memory_yes n wd 0 v _ _ p _ (by omega) (by omega) (by omega) (by omega) HV.out HCL.out tree_enters HOK.out).mono ?_; rintro e w2 ⟨ga, gn, gc, oa, on, oc, rfl, og, oo, dd, u2⟩
    have V2 := V1.trans (u2.mono V1.size)
    have R2 := R1.below u2
    have Z2 := u2.size
    have Q1 := Lib.hid og.feet
    have Q2 := Lib.hid oo.feet
    clear V1 R1 u2 HCL
    have r0 : w2.cell? ⟨w.heap.size, 0, none⟩ = some (.int .i64 0) := R2.cell 0
    have r1 : w2.cell? ⟨w.heap.size, 1, none⟩ = some (.int .i64 0) := R2.cell 1
    have r2 : w2.cell? ⟨w.heap.size, 2, none⟩ = some (.slice none 0 0) := R2.cell 2
    have r3 : w2.cell? ⟨w.heap.size, 3, none⟩ = some (.slice none 0 0) := R2.cell 3
    have q0 : w2.frozen? ⟨w.heap.size, 0, none⟩ = false := R2.frozen 0
    have q1 : w2.frozen? ⟨w.heap.size, 1, none⟩ = false := R2.frozen 1
    have q2 : w2.frozen? ⟨w.heap.size, 2, none⟩ = false := R2.frozen 2
    have q3 : w2.frozen? ⟨w.heap.size, 3, none⟩ = false := R2.frozen 3
    go_wp2
    have GG := (((((Only.refl [w.heap.size] w2).setCell ⟨w.heap.size, 0, none⟩ (.int .i64 ((n * wd : Nat) : Int)) (by simp)).setCell ⟨w.heap.size, 1, none⟩ (.int .i64 ((v : Int) + ((0 : Nat) : Int))) (by simp)).setCell ⟨w.heap.size, 2, none⟩ (.slice ga gn gc) (by simp)).setCell ⟨w.heap.size, 3, none⟩ (.slice oa on oc) (by simp))
    exact bodyPost_ret (v := .tuple #[.agg #[.int .i64 ((n * wd : Nat) : Int), .int .i64 ((v : Int) + ((0 : Nat) : Int)), .slice ga gn gc, .slice oa on oc], .bool true]) (by simp [results, Try.results8, go_sem, r0, r1, r2, r3]) rfl ⟨_, _, _, _, _, _, rfl, (og.only GG (fun k hk hk' => by have := Q1.out k hk; simp at hk'; omega)).lower V1s, (oo.only GG (fun k hk hk' => by have := Q2.out k hk; simp at hk'; omega)).lower V1s, dd, V2.trans (GG.below V2.size (by simp))⟩
set_option maxHeartbeats 8000000 in
set_option maxRecDepth 100000 in
theorem WriteCircuit_any (n wd : Int) (w : World) :
    Calls Try.prog 10 #[.int .i64 n, .int .i64 wd] w fun e w' => ∃ ga gn gc oa on oc, e = .returned (.tuple #[.agg #[.int .i64 (mS0 n wd), .int .i64 (mS1 2 n wd), .slice ga gn gc, .slice oa on oc], .bool (memB n wd)]) ∧ OwnF 3 eGate w' w.heap.size ga gn gc (mG 2 n wd) ∧ Own w' w.heap.size oa on oc (mO 2 n wd) ∧ Disj (foot ga gc) (foot oa oc) ∧ Below w.heap.size w w' := by
  have V1 : Below w.heap.size w (((w.alloc (.cells #[.int .i64 n] 3)).alloc (.cells #[.int .i64 wd] 3)).alloc (.cells #[.int .i64 0, .int .i64 0, .slice none 0 0, .slice none 0 0] 28)) := ((((Below.refl _ _).alloc (by simp) _).alloc (by simp) _).alloc (by simp; omega) _)
  have R1 : Blk (((w.alloc (.cells #[.int .i64 n] 3)).alloc (.cells #[.int .i64 wd] 3)).alloc (.cells #[.int .i64 0, .int .i64 0, .slice none 0 0, .slice none 0 0] 28)) (w.heap.size + 2) 28 #[.int .i64 0, .int .i64 0, .slice none 0 0, .slice none 0 0] := by simpa using (Blk.new ((w.alloc (.cells #[.int .i64 n] 3)).alloc (.cells #[.int .i64 wd] 3)) 28 #[.int .i64 0, .int .i64 0, .slice none 0 0, .slice none 0 0])
  have Z1 : w.heap.size + 2 + 1 ≤ (((w.alloc (.cells #[.int .i64 n] 3)).alloc (.cells #[.int .i64 wd] 3)).alloc (.cells #[.int .i64 0, .int .i64 0, .slice none 0 0, .slice none 0 0] 28)).heap.size := by simp
  have B0 : Blk (((w.alloc (.cells #[.int .i64 n] 3)).alloc (.cells #[.int .i64 wd] 3)).alloc (.cells #[.int .i64 0, .int .i64 0, .slice none 0 0, .slice none 0 0] 28)) (w.heap.size) 3 #[.int .i64 n] := by simpa using ((((Blk.new w 3 #[.int .i64 n]).alloc _).alloc _) : Blk (((w.alloc (.cells #[.int .i64 n] 3)).alloc (.cells #[.int .i64 wd] 3)).alloc (.cells #[.int .i64 0, .int .i64 0, .slice none 0 0, .slice none 0 0] 28)) _ _ _)
  have B1 : Blk (((w.alloc (.cells #[.int .i64 n] 3)).alloc (.cells #[.int .i64 wd] 3)).alloc (.cells #[.int .i64 0, .int .i64 0, .slice none 0 0, .slice none 0 0] 28)) (w.heap.size + 1) 3 #[.int .i64 wd] := by simpa using (((Blk.new (w.alloc (.cells #[.int .i64 n] 3)) 3 #[.int .i64 wd]).alloc _) : Blk (((w.alloc (.cells #[.int .i64 n] 3)).alloc (.cells #[.int .i64 wd] 3)).alloc (.cells #[.int .i64 0, .int .i64 0, .slice none 0 0, .slice none 0 0] 28)) _ _ _)
  unfold mS0 mS1 mG mO
  cases hm : memB n wd
  · simp only [Bool.false_eq_true, if_false]
    go_enter Try.func10, Try.ntmps10
    go_wp2_with fail
    generalize (((w.alloc (.cells #[.int .i64 n] 3)).alloc (.cells #[.int .i64 wd] 3)).alloc (.cells #[.int .i64 0, .int .i64 0, .slice none 0 0, .slice none 0 0] 28)) = w1 at *
    refine (memory_no n wd _ _ _ _ hm).mono ?_; rintro e w2 ⟨rfl, u2⟩
    have V2 := V1.trans (u2.mono V1.size)
    have R2 := R1.below u2
    clear V1 R1 u2 B0 B1
    have r0 : w2.cell? ⟨w.heap.size + 2, 0, none⟩ = some (.int .i64 0) := R2.cell 0
    have r1 : w2.cell? ⟨w.heap.size + 2, 1, none⟩ = some (.int .i64 0) := R2.cell 1
    have r2 : w2.cell? ⟨w.heap.size + 2, 2, none⟩ = some (.slice none 0 0) := R2.cell 2
    have r3 : w2.cell? ⟨w.heap.size + 2, 3, none⟩ = some (.slice none 0 0) := R2.cell 3
    have q0 : w2.frozen? ⟨w.heap.size + 2, 0, none⟩ = false := R2.frozen 0
    have q1 : w2.frozen? ⟨w.heap.size + 2, 1, none⟩ = false := R2.frozen 1
    have q2 : w2.frozen? ⟨w.heap.size + 2, 2, none⟩ = false := R2.frozen 2
    have q3 : w2.frozen? ⟨w.heap.size + 2, 3, none⟩ = false := R2.frozen 3
    go_wp2
    have GG := (((((Only.refl [w.heap.size + 2] w2).setCell ⟨w.heap.size + 2, 0, none⟩ (.int .i64 0) (by simp)).setCell ⟨w.heap.size + 2, 1, none⟩ (.int .i64 0) (by simp)).setCell ⟨w.heap.size + 2, 2, none⟩ (.slice none 0 0) (by simp)).setCell ⟨w.heap.size + 2, 3, none⟩ (.slice none 0 0) (by simp))
    exact bodyPost_ret (v := .tuple #[.agg #[.int .i64 0, .int .i64 0, .slice none 0 0, .slice none 0 0], .bool false]) (by simp [results, Try.results10, go_sem, r0, r1, r2, r3]) rfl ⟨none, 0, 0, none, 0, 0, rfl, OwnC.nil0 _ _ _ _ _, Own.nil0 _ _ _, foot_nil _ _, V2.trans (GG.below V2.size (by simp))⟩
  · simp only [if_true]
    obtain ⟨⟨n1, n2⟩, ⟨d1, d2⟩, hnw⟩ := memB_true hm
    obtain ⟨n, rfl⟩ : ∃ k : Nat, n = k := ⟨n.toNat, by omega⟩
    obtain ⟨wd, rfl⟩ : ∃ k : Nat, wd = k := ⟨wd.toNat, by omega⟩
    rw [← Int.natCast_mul] at hnw
    have hok := m_ok 2 n wd hm
    simp only [Int.toNat_natCast]
    clear hm
    have eM : meMore 2 wd = wd := by unfold meMore; simp
    rw [eM] at hok ⊢
    obtain ⟨v, hv⟩ : ∃ v, wid (n : Int) = v := ⟨_, rfl⟩
    rw [hv] at hok ⊢
    have HV := Lib.hid hv
    have HOK := Lib.hid hok
    clear hv hok eM
    have e3 : ((n : Int) * (wd : Int)) = ((n * wd : Nat) : Int) := (Int.natCast_mul _ _).symm
    rw [e3]
    clear e3
    obtain ⟨p, hp⟩ : ∃ p, p = meG 2 n wd := ⟨_, rfl⟩
    rw [← hp] at HOK ⊢
    have HP := Lib.hid hp
    clear hp
    have HCL : Hid (CloP 43 #[.pointer (some ⟨w.heap.size, 0, none⟩), .pointer (some ⟨w.heap.size + 1, 0, none⟩)] (((w.alloc (.cells #[.int .i64 n] 3)).alloc (.cells #[.int .i64 wd] 3)).alloc (.cells #[.int .i64 0, .int .i64 0, .slice none 0 0, .slice none 0 0] 28)) (n * wd) n wd v wd p) := Lib.hid (by rw [HP.out]; exact writ_clo n wd v _ (by omega) (by omega) HV.out _ _ (B0.cell 0) (B1.cell 0))
    go_enter Try.func10, Try.ntmps10
    go_wp2_with fail
    generalize (((w.alloc (.cells #[.int .i64 n] 3)).alloc (.cells #[.int .i64 wd] 3)).alloc (.cells #[.int .i64 0, .int .i64 0, .slice none 0 0, .slice none 0 0] 28)) = w1 at *
    have V1s : w.heap.size ≤ w1.heap.size := V1.size
    refine (memory_yes n wd wd v _ _ p _ (by omega) (by omega) (by omega) (by omega) HV.out HCL.out writ_enters HOK.out).mono ?_; rintro e w2 ⟨ga, gn, gc, oa, on, oc, rfl, og, oo, dd, u2⟩
    have V2 := V1.trans (u2.mono V1.size)
    have R2 := R1.below u2
    have Z2 := u2.size
    have Q1 := Lib.hid og.feet
    have Q2 := Lib.hid oo.feet
    clear V1 R1 u2 HCL B0 B1
    have r0 : w2.cell? ⟨w.heap.size + 2, 0, none⟩ = some (.int .i64 0) := R2.cell 0
    have r1 : w2.cell? ⟨w.heap.size + 2, 1, none⟩ = some (.int .i64 0) := R2.cell 1
    have r2 : w2.cell? ⟨w.heap.size + 2, 2, none⟩ = some (.slice none 0 0) := R2.cell 2
    have r3 : w2.cell? ⟨w.heap.size + 2, 3, none⟩ = some (.slice none 0 0) := R2.cell 3
    have q0 : w2.frozen? ⟨w.heap.size + 2, 0, none⟩ = false := R2.frozen 0
    have q1 : w2.frozen? ⟨w.heap.size + 2, 1, none⟩ = false := R2.frozen 1
    have q2 : w2.frozen? ⟨w.heap.size + 2, 2, none⟩ = false := R2.frozen 2
    have q3 : w2.frozen? ⟨w.heap.size + 2, 3, none⟩ = false := R2.frozen 3
    go_wp2
    have GG := (((((Only.refl [w.heap.size + 2] w2).setCell ⟨w.heap.size + 2, 0, none⟩ (.int .i64 ((n * wd : Nat) : Int)) (by simp)).setCell ⟨w.heap.size + 2, 1, none⟩ (.int .i64 ((v : Int) + ((wd : Nat) : Int))) (by simp)).setCell ⟨w.heap.size + 2, 2, none⟩ (.slice ga gn gc) (by simp)).setCell ⟨w.heap.size + 2, 3, none⟩ (.slice oa on oc) (by simp))
    exact bodyPost_ret (v := .tuple #[.agg #[.int .i64 ((n * wd : Nat) : Int), .int .i64 ((v : Int) + ((wd : Nat) : Int)), .slice ga gn gc, .slice oa on oc], .bool true]) (by simp [results, Try.results10, go_sem, r0, r1, r2, r3]) rfl ⟨_, _, _, _, _, _, rfl, (og.only GG (fun k hk hk' => by have := Q1.out k hk; simp at hk'; omega)).lower V1s, (oo.only GG (fun k hk hk' => by have := Q2.out k hk; simp at hk'; omega)).lower V1s, dd, V2.trans (GG.below V2.size (by simp))⟩
set_option maxHeartbeats 8000000 in
set_option maxRecDepth 100000 in
theorem TurnCircuit_any (n wd : Int) (w : World) :
    Calls Try.prog 12 #[.int .i64 n, .int .i64 wd] w fun e w' => ∃ ga gn gc oa on oc, e = .returned (.tuple #[.agg #[.int .i64 (mS0 n wd), .int .i64 (mS1 3 n wd), .slice ga gn gc, .slice oa on oc], .bool (memB n wd)]) ∧ OwnF 3 eGate w' w.heap.size ga gn gc (mG 3 n wd) ∧ Own w' w.heap.size oa on oc (mO 3 n wd) ∧ Disj (foot ga gc) (foot oa oc) ∧ Below w.heap.size w w' := by
  have V1 : Below w.heap.size w ((w.alloc (.cells #[.int .i64 n] 3)).alloc (.cells #[.int .i64 0, .int .i64 0, .slice none 0 0, .slice none 0 0] 28)) := (((Below.refl _ _).alloc (by simp) _).alloc (by simp) _)
  have R1 : Blk ((w.alloc (.cells #[.int .i64 n] 3)).alloc (.cells #[.int .i64 0, .int .i64 0, .slice none 0 0, .slice none 0 0] 28)) (w.heap.size + 1) 28 #[.int .i64 0, .int .i64 0, .slice none 0 0, .slice none 0 0] := by simpa using (Blk.new (w.alloc (.cells #[.int .i64 n] 3)) 28 #[.int .i64 0, .int .i64 0, .slice none 0 0, .slice none 0 0])
  have Z1 : w.heap.size + 1 + 1 ≤ ((w.alloc (.cells #[.int .i64 n] 3)).alloc (.cells #[.int .i64 0, .int .i64 0, .slice none 0 0, .slice none 0 0] 28)).heap.size := by simp
  have B0 : Blk ((w.alloc (.cells #[.int .i64 n] 3)).alloc (.cells #[.int .i64 0, .int .i64 0, .slice none 0 0, .slice none 0 0] 28)) (w.heap.size) 3 #[.int .i64 n] := by simpa using (((Blk.new w 3 #[.int .i64 n]).alloc _) : Blk ((w.alloc (.cells #[.int .i64 n] 3)).alloc (.cells #[.int .i64 0, .int .i64 0, .slice none 0 0, .slice none 0 0] 28)) _ _ _)
  unfold mS0 mS1 mG mO
  cases hm : memB n wd
  · simp only [Bool.false_eq_true, if_false]
    go_enter Try.func12, Try.ntmps12
    go_wp2_with fail
    generalize ((w.alloc (.cells #[.int .i64 n] 3)).alloc (.cells #[.int .i64 0, .int .i64 0, .slice none 0 0, .slice none 0 0] 28)) = w1 at *
    refine (memory_no n wd _ _ _ _ hm).mono ?_; rintro e w2 ⟨rfl, u2⟩
    have V2 := V1.trans (u2.mono V1.size)
    have R2 := R1.below u2
    clear V1 R1 u2 B0
    have r0 : w2.cell? ⟨w.heap.size + 1, 0, none⟩ = some (.int .i64 0) := R2.cell 0
    have r1 : w2.cell? ⟨w.heap.size + 1, 1, none⟩ = some (.int .i64 0) := R2.cell 1
    have r2 : w2.cell? ⟨w.heap.size + 1, 2, none⟩ = some (.slice none 0 0) := R2.cell 2
    have r3 : w2.cell? ⟨w.heap.size + 1, 3, none⟩ = some (.slice none 0 0) := R2.cell 3
    have q0 : w2.frozen? ⟨w.heap.size + 1, 0, none⟩ = false := R2.frozen 0
    have q1 : w2.frozen? ⟨w.heap.size + 1, 1, none⟩ = false := R2.frozen 1
    have q2 : w2.frozen? ⟨w.heap.size + 1, 2, none⟩ = false := R2.frozen 2
    have q3 : w2.frozen? ⟨w.heap.size + 1, 3, none⟩ = false := R2.frozen 3
    go_wp2
    have GG := (((((Only.refl [w.heap.size + 1] w2).setCell ⟨w.heap.size + 1, 0, none⟩ (.int .i64 0) (by simp)).setCell ⟨w.heap.size + 1, 1, none⟩ (.int .i64 0) (by simp)).setCell ⟨w.heap.size + 1, 2, none⟩ (.slice none 0 0) (by simp)).setCell ⟨w.heap.size + 1, 3, none⟩ (.slice none 0 0) (by simp))
    exact bodyPost_ret (v := .tuple #[.agg #[.int .i64 0, .int .i64 0, .slice none 0 0, .slice none 0 0], .bool false]) (by simp [results, Try.results12, go_sem, r0, r1, r2, r3]) rfl ⟨none, 0, 0, none, 0, 0, rfl, OwnC.nil0 _ _ _ _ _, Own.nil0 _ _ _, foot_nil _ _, V2.trans (GG.below V2.size (by simp))⟩
  · simp only [if_true]
    obtain ⟨⟨n1, n2⟩, ⟨d1, d2⟩, hnw⟩ := memB_true hm
    obtain ⟨n, rfl⟩ : ∃ k : Nat, n = k := ⟨n.toNat, by omega⟩
    obtain ⟨wd, rfl⟩ : ∃ k : Nat, wd = k := ⟨wd.toNat, by omega⟩
    rw [← Int.natCast_mul] at hnw
    have hok := m_ok 3 n wd hm
    simp only [Int.toNat_natCast]
    clear hm
    have eM : meMore 3 wd = 0 := by unfold meMore; simp
    rw [eM] at hok ⊢
    obtain ⟨v, hv⟩ : ∃ v, wid (n : Int) = v := ⟨_, rfl⟩
    rw [hv] at hok ⊢
    have HV := Lib.hid hv
    have HOK := Lib.hid hok
    clear hv hok eM
    have e3 : ((n : Int) * (wd : Int)) = ((n * wd : Nat) : Int) := (Int.natCast_mul _ _).symm
    rw [e3]
    clear e3
    obtain ⟨p, hp⟩ : ∃ p, p = meG 3 n wd := ⟨_, rfl⟩
    rw [← hp] at HOK ⊢
    have HP := Lib.hid hp
    clear hp
    have HCL : Hid (CloP 45 #[.pointer (some ⟨w.heap.size, 0, none⟩)] ((w.alloc (.cells #[.int .i64 n] 3)).alloc (.cells #[.int .i64 0, .int .i64 0, .slice none 0 0, .slice none 0 0] 28)) (n * wd) n wd v 0 p) := Lib.hid (by rw [HP.out]; exact turn_clo n wd v _ (by omega) (by omega) HV.out _ (B0.cell 0))
    go_enter Try.func12, Try.ntmps12
    go_wp2_with fail
    generalize ((w.alloc (.cells #[.int .i64 n] 3)).alloc (.cells #[.int .i64 0, .int .i64 0, .slice none 0 0, .slice none 0 0] 28)) = w1 at *
    have V1s : w.heap.size ≤ w1.heap.size := V1.size
    refine (memory_yes n wd 0 v _ _ p _ (by omega) (by omega) (by omega) (by omega) HV.out HCL.out turn_enters HOK.out).mono ?_; rintro e w2 ⟨ga, gn, gc, oa, on, oc, rfl, og, oo, dd, u2⟩
    have V2 := V1.trans (u2.mono V1.size)
    have R2 := R1.below u2
    have Z2 := u2.size
    have Q1 := Lib.hid og.feet
    have Q2 := Lib.hid oo.feet
    clear V1 R1 u2 HCL B0
    have r0 : w2.cell? ⟨w.heap.size + 1, 0, none⟩ = some (.int .i64 0) := R2.cell 0
    have r1 : w2.cell? ⟨w.heap.size + 1, 1, none⟩ = some (.int .i64 0) := R2.cell 1
    have r2 : w2.cell? ⟨w.heap.size + 1, 2, none⟩ = some (.slice none 0 0) := R2.cell 2
    have r3 : w2.cell? ⟨w.heap.size + 1, 3, none⟩ = some (.slice none 0 0) := R2.cell 3
    have q0 : w2.frozen? ⟨w.heap.size + 1, 0, none⟩ = false := R2.frozen 0
    have q1 : w2.frozen? ⟨w.heap.size + 1, 1, none⟩ = false := R2.frozen 1
    have q2 : w2.frozen? ⟨w.heap.size + 1, 2, none⟩ = false := R2.frozen 2
    have q3 : w2.frozen? ⟨w.heap.size + 1, 3, none⟩ = false := R2.frozen 3
    go_wp2
    have GG := (((((Only.refl [w.heap.size + 1] w2).setCell ⟨w.heap.size + 1, 0, none⟩ (.int .i64 ((n * wd : Nat) : Int)) (by simp)).setCell ⟨w.heap.size + 1, 1, none⟩ (.int .i64 ((v : Int) + ((0 : Nat) : Int))) (by simp)).setCell ⟨w.heap.size + 1, 2, none⟩ (.slice ga gn gc) (by simp)).setCell ⟨w.heap.size + 1, 3, none⟩ (.slice oa on oc) (by simp))
    exact bodyPost_ret (v := .tuple #[.agg #[.int .i64 ((n * wd : Nat) : Int), .int .i64 ((v : Int) + ((0 : Nat) : Int)), .slice ga gn gc, .slice oa on oc], .bool true]) (by simp [results, Try.results12, go_sem, r0, r1, r2, r3]) rfl ⟨_, _, _, _, _, _, rfl, (og.only GG (fun k hk hk' => by have := Q1.out k hk; simp at hk'; omega)).lower V1s, (oo.only GG (fun k hk hk' => by have := Q2.out k hk; simp at hk'; omega)).lower V1s, dd, V2.trans (GG.below V2.size (by simp))⟩
end Go.Proofs.Ytmbheimjphhamaa
namespace Go.Proofs.Ytmbheimjphhamaa
open Go.RowKit
set_option maxHeartbeats 4000000 in
theorem ciNew_any (_i0 _i1 : Int) (b : Nat) (w : World) (hb : b ≤ w.heap.size) :
    Calls Try.prog 112 #[.int .i64 _i0, .int .i64 _i1] w fun e w' => e = .returned (.pointer (some ⟨w.heap.size, 0, none⟩)) ∧ Mk 105 w' b w.heap.size _i0 _i1 [] [w.heap.size] ∧ Below w.heap.size w w' ∧ w.heap.size + 1 ≤ w'.heap.size := by
  go_enter Try.func112, Try.ntmps112
  go_wp2
  go_ret
  exact ⟨rfl, Mk.new _ w b _i0 _i1 hb, (Below.refl _ _).alloc (Nat.le_refl _) _, by simp⟩
end Go.Proofs.Ytmbheimjphhamaa
namespace Go.Proofs.Ytmbheimjphhamaa
open Go.RowKit
/-- A row that is read, in blocks from b on. -/
structure Rd (w : World) (b : Nat) (a : Option Addr) (n c : Nat) (l : List Int) : Prop where
  ints : Ints w a n c l
  feet : ∀ k ∈ foot a c, b ≤ k ∧ k < w.heap.size
theorem Own.rd {w b a n c l} (o : Own w b a n c l) : Rd w b a n c l := ⟨o.ints, o.feet⟩
theorem Rd.len {w b a n c l} (h : Rd w b a n c l) : n = l.length := h.ints.len
theorem Rd.below {w w' b a n c l} (h : Rd w b a n c l) (u : Below w.heap.size w w') : Rd w' b a n c l := ⟨h.ints.below u, fun k hk => ⟨(h.feet k hk).1, Nat.lt_of_lt_of_le (h.feet k hk).2 u.size⟩⟩
theorem Rd.alloc {w b a n c l} (h : Rd w b a n c l) (o : Obj) : Rd (w.alloc o) b a n c l := h.below ((Below.refl _ _).alloc (Nat.le_refl _) _)
theorem Rd.only {F w w' b a n c l} (h : Rd w b a n c l) (u : Only F w w') (d : Disj (foot a c) F) : Rd w' b a n c l :=
  ⟨h.ints.only u (fun x hn hx hm => d x.block (by rw [hx]; exact foot_mem (by have := h.ints.2.1; omega)) hm), fun k hk => ⟨(h.feet k hk).1, Nat.lt_of_lt_of_le (h.feet k hk).2 u.size⟩⟩
theorem Rd.lower {w b b' a n c l} (h : Rd w b a n c l) (hb : b' ≤ b) : Rd w b' a n c l := ⟨h.ints, fun k hk => ⟨Nat.le_trans hb (h.feet k hk).1, (h.feet k hk).2⟩⟩
set_option maxHeartbeats 4000000 in
theorem meGood_any (n wd : Int) (w : World) :
    Calls Try.prog 52 #[.int .i64 n, .int .i64 wd] w fun e w' => e = .returned (.bool (inB n 1 8 && inB wd 1 4)) ∧ w = w' := by
  cases h1 : inB n 1 8
  · simp only [Bool.false_and]
    go_enter Try.func52, Try.ntmps52
    go_wp2_with (first | (go_at_call 64; refine (l1In_any _ _ _ _).mono ?_; rintro e w' ⟨rfl, rfl⟩))
    go_ret
    exact ⟨rfl, rfl⟩
  · simp only [Bool.true_and]
    go_enter Try.func52, Try.ntmps52
    go_wp2_with (first | (go_at_call 64; refine (l1In_any _ _ _ _).mono ?_; rintro e w' ⟨rfl, rfl⟩))
    go_ret
    exact ⟨rfl, rfl⟩
set_option maxHeartbeats 4000000 in
theorem meIndex_any (n : Int) (w : World) (h1 : 1 ≤ n) (h2 : n ≤ 256) :
    Calls Try.prog 53 #[.int .i64 n] w fun e w' => e = .returned (.int .i64 (wid n)) ∧ w = w' := by
  go_enter Try.func53, Try.ntmps53
  go_wp2_with (first | (go_at_call 78; refine (cvWidth_any _ _ h1 h2).mono ?_; rintro e w' ⟨rfl, rfl⟩))
  go_ret
  exact ⟨rfl, rfl⟩
set_option maxHeartbeats 8000000 in
set_option maxRecDepth 100000 in
theorem meStart_any (n wd more v : Nat) (w : World) (hn : 1 ≤ n ∧ n ≤ 8) (hw : 1 ≤ wd ∧ wd ≤ 4) (hmo : more ≤ 4) (hv : wid (n : Int) = v) :
    Calls Try.prog 99 #[.int .i64 n, .int .i64 wd, .int .i64 more] w fun e w' => ∃ g ca cc rs ia ic, e = .returned (.tuple #[.pointer (some ⟨g, 0, none⟩), .slice ca n cc, .slice ia v ic]) ∧ Mk 105 w' w.heap.size g ((n * wd : Nat) : Int) ((v : Int) + more) [] [g] ∧ RwD w' ca n cc rs [g] ∧ datas' rs = ceL wd n ∧ (∀ r ∈ rs, ∀ k ∈ foot r.1 r.2.1, w.heap.size ≤ k) ∧ IntD w' ia v ic (spL ((n * wd : Nat) : Int) v) [g] ∧ Below w.heap.size w w' := by
  have hv3 : v ≤ 3 := by rw [← hv]; exact wid8 n hn.2
  obtain ⟨q, hq⟩ : ∃ q, q = n * wd := ⟨_, rfl⟩
  have hqb : q ≤ 8 * 4 := by rw [hq]; exact Nat.mul_le_mul hn.2 hw.2
  rw [← hq]
  have t1 : IntKind.i64.wrap ((n : Int) * (wd : Int)) = (q : Int) := by rw [hq, Int.natCast_mul]; exact IntWalk.i64_in _ (by rw [← Int.natCast_mul, ← hq]; omega)
  have HV := Lib.hid hv
  clear hv hq
  have t2 : IntKind.i64.wrap ((v : Int) + (more : Int)) = (v : Int) + (more : Int) := IntWalk.i64_in _ (by omega)
  go_enter Try.func99, Try.ntmps99
  go_wp2_with fail
  refine (meIndex_any _ _ (by omega) (by omega)).mono ?_; rintro e w' ⟨rfl, rfl⟩
  rw [HV.out]
  go_wp2_with fail
  refine (ciNew_any (q : Int) ((v : Int) + more) w.heap.size _ (Nat.le_refl _)).mono ?_; rintro e w2 ⟨rfl, M2, u2, Z2⟩
  go_wp2
  have hgl : w.heap.size < w2.heap.size := by omega
  go_loopw [10, 11] (fun y u wr => ∃ i, i ≤ n ∧ u = .int .i64 (i : Nat) ∧ (∃ a1 c1 rs, y = .slice a1 i c1 ∧ RwO wr w2.heap.size a1 i c1 rs [w.heap.size] ∧ datas' rs = ceL wd i ∧ (∀ r ∈ rs, ∀ k ∈ foot r.1 r.2.1, w.heap.size ≤ k)) ∧ Below w2.heap.size w2 wr) (fun _ u _ => n - (intOf u).toNat)
  case atStart => exact ⟨0, Nat.zero_le _, rfl, ⟨_, _, [], rfl, RwO.nil _ _ _ _, rfl, fun r hr => by cases hr⟩, Below.refl _ _⟩
  case round =>
    obtain ⟨i, hk, rfl, ⟨a1, c1, rs, rfl, ro, hd, hhi⟩, hbel⟩ := hrel
    by_cases hlt : i < n
    · obtain ⟨m, hm⟩ : ∃ m, m = i * wd := ⟨_, rfl⟩
      have hmb : m ≤ 8 * 4 := by rw [hm]; exact Nat.mul_le_mul (by omega) hw.2
      have t3 : IntKind.i64.wrap ((i : Int) * (wd : Int)) = (m : Int) := by rw [hm, Int.natCast_mul]; exact IntWalk.i64_in _ (by rw [← Int.natCast_mul, ← hm]; omega)
      have HS : Hid (ceL wd (i + 1) = ceL wd i ++ [spL (m : Int) wd]) := Lib.hid (by rw [ceL_succ, hm, Int.natCast_mul])
      have HD := Lib.hid hd
      have HH := Lib.hid hhi
      clear hm hd hhi
      go_wp2_with fail
      refine (gdRange_any (m : Int) wd _ (by omega) (by omega)).mono ?_; rintro e w3 ⟨a3, c3, rfl, o3, u3⟩
      have ro3 := ro.below u3
      have b3 := hbel.trans (u3.mono hbel.size)
      have hrA := o3.away ro.out (Nat.le_refl _)
      have hrI : IntD w3 a3 wd c3 (spL (m : Int) wd) [w.heap.size] := o3.intD (fun k hk hk' => by have := (o3.feet k hk).1; have := hbel.size; simp at hk'; omega)
      have hr3 : ∀ k ∈ foot a3 c3, w.heap.size ≤ k := fun k hk => by have := (o3.feet k hk).1; have := hbel.size; omega
      have lc : (spL (m : Int) wd).length = wd := spL_len _ _
      obtain ⟨L, hL⟩ : ∃ L, L = spL (m : Int) wd := ⟨_, rfl⟩
      rw [← hL] at hrI lc HS
      clear hL o3 u3 ro hbel
      have HR3 := Lib.hid hr3
      clear hr3
      go_wp2_with (at_builtin; refine wpList_appR _ rfl _ _ rfl w2.heap.size _ i _ _ rfl (RwO.alloc ro3 _).out _ 1 (a3, c3, L) rfl (RowC.litR _ _ _ (rowV_of lc) _) (by omega) (by have := b3.size; simp; omega) ?_)
      intro aa ca wa oo ba ga ma
      rw [← lc] at hrI hrA
      have hrB : ∀ y, 0 < L.length → a3 = some y → y.block ∉ foot a1 c1 := hrA
      have Ra := RwO.push (r := (a3, c3, L)) (RwO.alloc ro3 _) (fun k hk => by have := b3.size; simp at hk; simp; omega) (hrI.below ((Below.refl _ _).alloc (Nat.le_refl _) _)) hrB oo ga ma
      have Ba := (b3.alloc b3.size _).trans ba
      clear ro3 b3 hrI hrA hrB oo ba ga ma
      have HLC := Lib.hid lc
      clear lc
      go_wp2
      go_roundw
      case rel => exact ⟨i + 1, by omega, by go_num, ⟨_, _, _, rfl, Ra, by rw [datas_push, HS.out, HD.out], fun r hr k hk => by
        rcases List.mem_append.1 hr with hr | hr
        · exact HH.out r hr k hk
        · rw [List.mem_singleton] at hr; subst hr; exact HR3.out k hk⟩, Ba⟩
      case measure => simp [intOf]; omega
    · obtain rfl : i = n := by omega
      have HD := Lib.hid hd
      have HH := Lib.hid hhi
      clear hd hhi
      have hge : ¬ (i : Int) < (i : Int) := by omega
      have M3 := M2.below hbel
      have rd := ro.rwD
      clear ro
      go_wp2_with fail
      refine (meIndex_any _ _ (by omega) (by omega)).mono ?_; rintro e w' ⟨rfl, rfl⟩
      rw [HV.out]
      go_wp2_with fail
      refine (gdRange_any (q : Int) v _ (by omega) (by omega)).mono ?_; rintro e w5 ⟨xa, xc, rfl, ox, u5⟩
      have dx := ox.intD (Disj.of_rng ox.feet M3.feet (.inr (Nat.le_refl _)))
      have V5 := (u2.trans (hbel.mono u2.size)).trans (u5.mono (u2.trans (hbel.mono u2.size)).size)
      go_wp2
      go_ret3
      exact ⟨_, _, _, _, _, _, rfl, M3.below u5, rd.below u5, HD.out, HH.out, dx, V5⟩
end Go.Proofs.Ytmbheimjphhamaa
namespace Go.Proofs.Ytmbheimjphhamaa
open Go.RowKit
set_option maxHeartbeats 8000000 in
set_option maxRecDepth 100000 in
theorem meScan_any (n wd v : Nat) (w : World) (hn : 1 ≤ n ∧ n ≤ 8) (hw : 1 ≤ wd ∧ wd ≤ 4) (hv : wid (n : Int) = v) :
    Calls Try.prog 72 #[.int .i64 n, .int .i64 wd] w fun e w' => ∃ ga gn gc oa on oc, e = .returned (.agg #[.int .i64 ((n * wd : Nat) : Int), .int .i64 ((v : Int) + ((0 : Nat) : Int)), .slice ga gn gc, .slice oa on oc]) ∧ OwnF 3 eGate w' w.heap.size ga gn gc (meG 0 n wd).1 ∧ Rd w' w.heap.size oa on oc (meG 0 n wd).2 ∧ Disj (foot ga gc) (foot oa oc) ∧ Below w.heap.size w w' := by
  have hv3 : v ≤ 3 := by rw [← hv]; exact wid8 n hn.2
  have hqb : n * wd ≤ 8 * 4 := Nat.mul_le_mul hn.2 hw.2
  have HE : Hid (meG 0 n wd = scG (meB n wd v 0) (spL ((n * wd : Nat) : Int) v) (ceL wd n) [] n) := Lib.hid (by unfold meG; rw [if_pos rfl, hv]; rfl)
  have HB : Hid (meB n wd v 0 = ((n * wd : Nat) : Int) + ((v : Int) + ((0 : Nat) : Int))) := Lib.hid (by unfold meB; simp)
  rw [HE.out, HB.out]
  clear HE HB
  have hst := meStart_any n wd 0 v (w.alloc (.cells #[.int .i64 0, .int .i64 0, .slice none 0 0, .slice none 0 0] 28)) hn hw (by omega) hv
  have HST := Lib.hid hst
  clear hst hv
  have hqe : ((n : Int) * (wd : Int)) = ((n * wd : Nat) : Int) := (Int.natCast_mul _ _).symm
  obtain ⟨q, hq⟩ : ∃ q, q = n * wd := ⟨_, rfl⟩
  rw [← hq] at HST hqe hqb ⊢
  have t1 : IntKind.i64.wrap ((n : Int) * (wd : Int)) = (q : Int) := by rw [hqe]; exact IntWalk.i64_in _ (by omega)
  clear hqe hq
  have V1 : Below w.heap.size w (w.alloc (.cells #[.int .i64 0, .int .i64 0, .slice none 0 0, .slice none 0 0] 28)) := (Below.refl _ _).alloc (Nat.le_refl _) _
  have R1 : Blk (w.alloc (.cells #[.int .i64 0, .int .i64 0, .slice none 0 0, .slice none 0 0] 28)) w.heap.size 28 #[.int .i64 0, .int .i64 0, .slice none 0 0, .slice none 0 0] := Blk.new w _ _
  have Z1 : (w.alloc (.cells #[.int .i64 0, .int .i64 0, .slice none 0 0, .slice none 0 0] 28)).heap.size = w.heap.size + 1 := by simp
  obtain ⟨i1, hi1⟩ : ∃ i1, i1 = (v : Int) + ((0 : Nat) : Int) := ⟨_, rfl⟩
  rw [← hi1] at HST ⊢
  have h1 : 0 ≤ i1 ∧ i1 ≤ 1000 := by omega
  clear hi1
  have h0 : (0 : Int) ≤ (q : Int) ∧ (q : Int) ≤ 1000 := by omega
  go_enter Try.func72, Try.ntmps72
  go_wp2_with fail
  refine HST.out.mono ?_; rintro e w2 ⟨g, ca, cc, rs, ia, ic, rfl, h, dc, hd, hhi, dx, u2⟩
  have V2 := V1.trans (u2.mono V1.size)
  have R2 := R1.below u2
  have hgr : w.heap.size < g := by have := (h.feet g (by simp)).1; omega
  rw [Z1] at h hhi
  have hb : w.heap.size + 1 ≤ w2.heap.size := by have := u2.size; omega
  clear V1 R1 u2 Z1 HST
  have HI : Hid ((spL (q : Int) v).length = v) := spL_len _ _
  have HAL : Hid (AllL wd (datas' rs)) := Lib.hid (by rw [hd]; exact ceL_all wd n)
  have HR := Lib.hid dc.len
  have hle := dc.le
  have hle2 := dx.ints.le
  have HH := Lib.hid hhi
  have HD0 := Lib.hid hd
  clear hhi hd
  obtain ⟨I, hI⟩ : ∃ I, I = spL (q : Int) v := ⟨_, rfl⟩
  rw [← hI] at dx HI
  have HSI := Lib.hid hI
  clear hI
  go_wp2
  go_loopw [8, 25] (fun y u wr => ∃ i F1, i ≤ n ∧ u = .int .i64 (i : Nat) ∧ (∃ a1 m c1, y = .slice a1 m c1 ∧ Own wr w2.heap.size a1 m c1 (scG ((q : Int) + i1) I (datas' rs) [] i).2 ∧ Disj (foot a1 c1) F1) ∧ Mk 105 wr (w.heap.size + 1) g q i1 (scG ((q : Int) + i1) I (datas' rs) [] i).1 F1 ∧ Stp [g] w2 F1 wr) (fun _ u _ => n - (intOf u).toNat)
  case atStart => exact ⟨0, [g], Nat.zero_le _, rfl, ⟨_, 0, _, rfl, Own.nil0 _ _ _, foot_nil _ _⟩, h, Stp.refl _ _⟩
  case round =>
    obtain ⟨i, F1, hk, rfl, ⟨a1, m, c1, rfl, own, dd⟩, M1, S1⟩ := hrel
    by_cases hlt : i < n
    · have hil : i < (datas' rs).length := by rw [datas_len, HR.out]; exact hlt
      obtain ⟨hG, hG2⟩ := scG_len (B := (q : Int) + i1) (idx := I) (G := []) HAL.out i (by omega)
      rw [HI.out, List.length_nil] at hG
      have hGb : (6 * v + 3 + 6 * wd) * i ≤ 200 * 8 := Nat.mul_le_mul (by omega) (by omega)
      have HS0 := scG_succ ((q : Int) + i1) I (datas' rs) [] i
      rw [datas_getD _ _ (by rw [HR.out]; exact hlt)] at HS0
      have hcl := HAL.out.at i hil
      rw [datas_getD _ _ (by rw [HR.out]; exact hlt)] at hcl
      obtain ⟨gc, oc', hgc, _, dr⟩ := dc.at i hlt
      subst hgc
      have ci := (dc.stp S1).cellsAt i hlt
      generalize rowAt rs i = r at *
      obtain ⟨ra, rc, C⟩ := r
      simp only at HS0 hcl ci dr
      obtain ⟨⟨G1, O⟩, hr⟩ : ∃ r, r = (scG ((q : Int) + i1) I (datas' rs) [] i) := ⟨_, rfl⟩
      rw [← hr] at HS0 hG hG2 M1 own
      clear hr
      simp only at hG hG2 M1 own
      unfold scT at HS0
      simp only at HS0
      have hm := maG_len ((q : Int) + i1) i I G1
      rw [HI.out] at hm
      rw [hcl] at ci dr HS0
      have dxs := dx.stp S1
      go_wp2_with fail
      clear ci
      refine (meMatch_any _ _ _ _ _ (w.heap.size + 1) g q i1 _ F1 _ M1 (Nat.le_trans hb S1.size) h0 h1 dxs (by omega) (by omega) (by omega)).mono ?_; rintro e wm1 ⟨rfl, Fm1, Mm1, sm1⟩
      have Sm1 := S1.trans sm1
      obtain ⟨om1, dm1⟩ := own.stp dd sm1
      clear M1 S1 own dd
      clear dxs sm1
      obtain ⟨⟨G2, z⟩, hz⟩ : ∃ r, r = maG ((q : Int) + i1) i I G1 := ⟨_, rfl⟩
      rw [← hz] at HS0 hm Mm1
      try rw [← hz]
      clear hz
      simp only at HS0 hm Mm1
      by_cases hi0 : i = 0
      · have hbi : ¬ (0 : Int) < ((i : Nat) : Int) := by omega
        have HBI : Hid ((i == 0) = true) := Lib.hid (by simp [hi0])
        clear hi0
        go_wp2
        go_loopw [12, 36] (fun y u wx => ∃ k F2, k ≤ wd ∧ u = .int .i64 (k : Nat) ∧ (∃ a2 c2, y = .slice a2 k c2 ∧ Own wx w2.heap.size a2 k c2 (scI ((q : Int) + i1) z C O (i == 0) G2 k).2 ∧ Disj (foot a2 c2) F2) ∧ Mk 105 wx (w.heap.size + 1) g q i1 (scI ((q : Int) + i1) z C O (i == 0) G2 k).1 F2 ∧ Stp [g] w2 F2 wx) (fun _ u _ => wd - (intOf u).toNat)
        case atStart => exact ⟨0, Fm1, Nat.zero_le _, rfl, ⟨_, _, rfl, Own.nil0 _ _ _, foot_nil _ _⟩, Mm1, Sm1⟩
        case round =>
          obtain ⟨k, F2, hkw, rfl, ⟨a2, c2, rfl, own2, dd2⟩, M2, S2⟩ := hrel
          clear om1 dm1 Mm1 Sm1
          by_cases hlt2 : k < wd
          · obtain ⟨hI1, hI2⟩ := scI_len ((q : Int) + i1) z C O (i == 0) G2 k
            have HI0 := scI_succ ((q : Int) + i1) z C O (i == 0) G2 k
            obtain ⟨gx, ox, hgx, _⟩ := dr.ints.at k hlt2
            subst hgx
            have cx := (dr.stp S2).ints.cellsAt k hlt2
            generalize C.getD k 0 = x at *
            obtain ⟨⟨G3, N⟩, hr3⟩ : ∃ r, r = (scI ((q : Int) + i1) z C O (i == 0) G2 k) := ⟨_, rfl⟩
            rw [← hr3] at HI0 hI1 hI2 M2 own2
            clear hr3
            simp only at hI1 hI2 M2 own2
            unfold scS at HI0
            rw [HBI.out] at HI0
            simp only [if_true] at HI0
            have HS := Lib.hid HI0
            clear HI0
            go_wp2_with fail
            clear cx
            refine (sand_any _ _ (w.heap.size + 1) g q i1 _ F2 _ M2 (Nat.le_trans hb S2.size) h0 h1 (by (try simp only [gt_len]); omega)).mono ?_; rintro e wm31 ⟨rfl, Fm31, Mm31, sm31⟩
            have Sm31 := S2.trans sm31
            obtain ⟨om31, dm31⟩ := own2.stp dd2 sm31
            clear M2 S2 own2 dd2
            go_wp2_with (at_builtin; refine wpList_appJ _ rfl _ _ rfl w2.heap.size a2 k c2 N rfl (om31.alloc _) _ 1 1 [_] rfl (Ints.lit1 _ _ _) (by omega) (by have := Sm31.size; simp; omega) ?_)
            intro am32 cm32 wm32 om32 _ gm32 mm32
            have Om32 := Only.of_grown gm32
            have Mm32 := Mk.only (Mk.alloc Mm31 _) Om32 dm31
            have Sm32 := Stp.onto (Stp.alloc Sm31 _) Om32 (fun k hk => (om31.feet k hk).1)
            have dm32 : Disj (foot am32 cm32) Fm31 := mm32.disj dm31 (fun k hk => by have := (Mm31.feet k hk).2; simp; omega)
            clear Mm31 Sm31 om31 dm31 Om32 gm32 mm32
            go_wp2
            go_roundw
            case rel => exact ⟨k + 1, Fm31, by omega, by go_num, ⟨_, _, rfl, by rw [HBI.out, HS.out]; exact om32, dm32⟩, by rw [HBI.out, HS.out]; exact Mm32, Sm32⟩
            case measure => simp [intOf]; omega
          · obtain rfl : k = wd := by omega
            have HSS := Lib.hid HS0
            clear HS0
            go_wp2
            go_roundw
            case rel => exact ⟨i + 1, F2, by omega, by go_num, ⟨_, _, _, rfl, by rw [HSS.out]; exact own2, dd2⟩, by rw [HSS.out]; exact M2, S2⟩
            case measure => simp [intOf]; omega
      · have hbi : (0 : Int) < ((i : Nat) : Int) := by omega
        have hOl : O.length = wd := hG2 (by omega)
        have hmw : m = wd := by rw [om1.len]; exact hOl
        subst hmw
        have HBI : Hid ((i == 0) = false) := Lib.hid (by simp [hi0])
        clear hi0
        go_wp2
        go_loopw [12, 36] (fun y u wx => ∃ k F2, k ≤ m ∧ u = .int .i64 (k : Nat) ∧ (∃ a2 c2, y = .slice a2 k c2 ∧ Own wx w2.heap.size a2 k c2 (scI ((q : Int) + i1) z C O (i == 0) G2 k).2 ∧ Disj (foot a2 c2) F2 ∧ Own wx w2.heap.size a1 m c1 O ∧ Disj (foot a1 c1) F2 ∧ Disj (foot a2 c2) (foot a1 c1)) ∧ Mk 105 wx (w.heap.size + 1) g q i1 (scI ((q : Int) + i1) z C O (i == 0) G2 k).1 F2 ∧ Stp [g] w2 F2 wx) (fun _ u _ => m - (intOf u).toNat)
        case atStart => exact ⟨0, Fm1, Nat.zero_le _, rfl, ⟨_, _, rfl, Own.nil0 _ _ _, foot_nil _ _, om1, dm1, foot_nil _ _⟩, Mm1, Sm1⟩
        case round =>
          obtain ⟨k, F2, hkw, rfl, ⟨a2, c2, rfl, own2, dd2, ow1, dw1, dap⟩, M2, S2⟩ := hrel
          clear om1 dm1 Mm1 Sm1
          by_cases hlt2 : k < m
          · obtain ⟨hI1, hI2⟩ := scI_len ((q : Int) + i1) z C O (i == 0) G2 k
            have HI0 := scI_succ ((q : Int) + i1) z C O (i == 0) G2 k
            obtain ⟨gx, ox, hgx, _⟩ := dr.ints.at k hlt2
            subst hgx
            have cx := (dr.stp S2).ints.cellsAt k hlt2
            obtain ⟨yo, hyo⟩ : ∃ yo, yo = O.getD k 0 := ⟨_, rfl⟩
            rw [← hyo] at HI0
            have HYO := Lib.hid hyo
            clear hyo
            generalize C.getD k 0 = x at *
            obtain ⟨⟨G3, N⟩, hr3⟩ : ∃ r, r = (scI ((q : Int) + i1) z C O (i == 0) G2 k) := ⟨_, rfl⟩
            rw [← hr3] at HI0 hI1 hI2 M2 own2
            clear hr3
            simp only at hI1 hI2 M2 own2
            unfold scS at HI0
            rw [HBI.out] at HI0
            simp only [Bool.false_eq_true, if_false] at HI0
            have HS := Lib.hid HI0
            clear HI0
            go_wp2_with fail
            clear cx
            refine (sand_any _ _ (w.heap.size + 1) g q i1 _ F2 _ M2 (Nat.le_trans hb S2.size) h0 h1 (by (try simp only [gt_len]); omega)).mono ?_; rintro e wm31 ⟨rfl, Fm31, Mm31, sm31⟩
            have Sm31 := S2.trans sm31
            obtain ⟨om31, dm31⟩ := own2.stp dd2 sm31
            clear M2 S2 own2 dd2
            obtain ⟨ow2, dw2⟩ := ow1.stp dw1 sm31
            clear ow1 dw1
            obtain ⟨gy, oy, hgy, cy⟩ := ow2.ints.at k hlt2
            subst hgy
            rw [← HYO.out] at cy
            go_wp2_with fail
            clear cy sm31
            refine (sxor_any _ _ (w.heap.size + 1) g q i1 _ Fm31 _ Mm31 (Nat.le_trans hb Sm31.size) h0 h1 (by (try simp only [gt_len]); omega)).mono ?_; rintro e wm32 ⟨rfl, Fm32, Mm32, sm32⟩
            have Sm32 := Sm31.trans sm32
            obtain ⟨om32, dm32⟩ := om31.stp dm31 sm32
            clear Mm31 Sm31 om31 dm31
            obtain ⟨ow3, dw3⟩ := ow2.stp dw2 sm32
            clear ow2 dw2
            go_wp2_with (at_builtin; refine wpList_appJ _ rfl _ _ rfl w2.heap.size a2 k c2 N rfl (om32.alloc _) _ 1 1 [_] rfl (Ints.lit1 _ _ _) (by omega) (by have := Sm32.size; simp; omega) ?_)
            intro am cm wm om _ gm mm
            have Om := Only.of_grown gm
            have Mm := Mk.only (Mk.alloc Mm32 _) Om dm32
            have Sm := Stp.onto (Stp.alloc Sm32 _) Om (fun k hk => (om32.feet k hk).1)
            have dm : Disj (foot am cm) Fm32 := mm.disj dm32 (fun k hk => by have := (Mm32.feet k hk).2; simp; omega)
            have ow4 := Own.only (ow3.alloc _) Om dap.symm
            have dap4 : Disj (foot am cm) (foot (some ⟨gy, oy, none⟩) c1) := mm.disj dap (fun k hk => by have := (ow3.feet k hk).2; simp; omega)
            clear Mm32 Sm32 om32 dm32 Om gm mm ow3 dap
            go_wp2
            go_roundw
            case rel => exact ⟨k + 1, Fm32, by omega, by go_num, ⟨_, _, rfl, by rw [HBI.out, HS.out]; exact om, dm, ow4, dw3, dap4⟩, by rw [HBI.out, HS.out]; exact Mm, Sm⟩
            case measure => simp [intOf]; omega
          · obtain rfl : k = m := by omega
            have HSS := Lib.hid HS0
            clear HS0
            go_wp2
            go_roundw
            case rel => exact ⟨i + 1, F2, by omega, by go_num, ⟨_, _, _, rfl, by rw [HSS.out]; exact own2, dd2⟩, by rw [HSS.out]; exact M2, S2⟩
            case measure => simp [intOf]; omega
    · obtain rfl : i = n := by omega
      rw [HSI.out, HD0.out] at M1 own
      obtain ⟨ga, gn, gc, hB, ho, hg, hbg, hF⟩ := M1
      have R6 := R2.only S1.only (by simp; omega)
      have V6 := V2.trans (S1.out (B := w.heap.size) V2.size (by simp; omega))
      have Z6 := S1.size
      have hdd : Disj (foot ga gc) (foot a1 c1) := fun k hk hk' => dd k hk' (by rw [hF]; exact List.mem_cons_of_mem _ hk)
      have x3 := hB.cell 3
      have y3 := hB.frozen 3
      have O7 : Only [g] wr (wr.setCell ⟨g, 3, none⟩ (.slice a1 m c1)) := (Only.refl _ _).setCell _ _ (by simp)
      have B7 : Blk (wr.setCell ⟨g, 3, none⟩ (.slice a1 m c1)) g 105 #[.int .i64 (q : Int), .int .i64 i1, .slice ga gn gc, .slice a1 m c1] := hB.set_ 3 _
      have R7 := R6.only O7 (by simp; omega)
      have ho7 := OwnF.only ho O7 (fun k hk hk' => hg (by simp at hk'; subst hk'; exact hk))
      have oo7 := own.only O7 (fun k hk hk' => dd k hk (by rw [hF]; simp at hk'; subst hk'; simp))
      have V7 := V6.trans (O7.below V6.size (by simp; omega))
      have z0 : (wr.setCell ⟨g, 3, none⟩ (.slice a1 m c1)).cell? ⟨g, 0, none⟩ = some (.int .i64 (q : Int)) := B7.cell 0
      have z1 : (wr.setCell ⟨g, 3, none⟩ (.slice a1 m c1)).cell? ⟨g, 1, none⟩ = some (.int .i64 i1) := B7.cell 1
      have z2 : (wr.setCell ⟨g, 3, none⟩ (.slice a1 m c1)).cell? ⟨g, 2, none⟩ = some (.slice ga gn gc) := B7.cell 2
      have z3 : (wr.setCell ⟨g, 3, none⟩ (.slice a1 m c1)).cell? ⟨g, 3, none⟩ = some (.slice a1 m c1) := B7.cell 3
      have r0 : (wr.setCell ⟨g, 3, none⟩ (.slice a1 m c1)).cell? ⟨w.heap.size, 0, none⟩ = some (.int .i64 0) := R7.cell 0
      have q0 : (wr.setCell ⟨g, 3, none⟩ (.slice a1 m c1)).frozen? ⟨w.heap.size, 0, none⟩ = false := R7.frozen 0
      have r1 : (wr.setCell ⟨g, 3, none⟩ (.slice a1 m c1)).cell? ⟨w.heap.size, 1, none⟩ = some (.int .i64 0) := R7.cell 1
      have q1 : (wr.setCell ⟨g, 3, none⟩ (.slice a1 m c1)).frozen? ⟨w.heap.size, 1, none⟩ = false := R7.frozen 1
      have r2 : (wr.setCell ⟨g, 3, none⟩ (.slice a1 m c1)).cell? ⟨w.heap.size, 2, none⟩ = some (.slice none 0 0) := R7.cell 2
      have q2 : (wr.setCell ⟨g, 3, none⟩ (.slice a1 m c1)).frozen? ⟨w.heap.size, 2, none⟩ = false := R7.frozen 2
      have r3 : (wr.setCell ⟨g, 3, none⟩ (.slice a1 m c1)).cell? ⟨w.heap.size, 3, none⟩ = some (.slice none 0 0) := R7.cell 3
      have q3 : (wr.setCell ⟨g, 3, none⟩ (.slice a1 m c1)).frozen? ⟨w.heap.size, 3, none⟩ = false := R7.frozen 3
      have Q1 := Lib.hid ho7.feet
      have Q2 := Lib.hid oo7.feet
      have GG := (((((Only.refl [w.heap.size] (wr.setCell ⟨g, 3, none⟩ (.slice a1 m c1))).setCell ⟨w.heap.size, 0, none⟩ (.int .i64 (q : Int)) (by simp)).setCell ⟨w.heap.size, 1, none⟩ (.int .i64 i1) (by simp)).setCell ⟨w.heap.size, 2, none⟩ (.slice ga gn gc) (by simp)).setCell ⟨w.heap.size, 3, none⟩ (.slice a1 m c1) (by simp))
      have HG := Lib.hid GG
      clear GG
      go_wp2
      have GG := HG.out
      exact bodyPost_ret (v := .agg #[.int .i64 (q : Int), .int .i64 i1, .slice ga gn gc, .slice a1 m c1]) (by simp [results, Try.results72, go_sem, r0, r1, r2, r3]) rfl ⟨_, _, _, _, _, _, rfl, (ho7.only GG (fun k hk hk' => by have := Q1.out k hk; simp at hk'; omega)).lower (by omega), ((oo7.only GG (fun k hk hk' => by have := Q2.out k hk; simp at hk'; omega)).lower (by omega)).rd, hdd, V7.trans (GG.below V7.size (by simp))⟩
end Go.Proofs.Ytmbheimjphhamaa
