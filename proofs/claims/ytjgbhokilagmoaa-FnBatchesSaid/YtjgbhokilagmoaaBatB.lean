/- Sums of tagged values, and shifts: the program's and the reference's. -/
import Derived.Test.YtjgbhokilagmoaaBatA
import Derived.BigRegion
namespace Go.Proofs.Ytjgbhokilagmoaa
open Go.RowKit
theorem tagB_parts {p v t : Int} (h : tagB p v t = true) : 2 ≤ p ∧ p ≤ 251 ∧ (0 ≤ v ∧ v ≤ p - 1) ∧ (0 ≤ t ∧ t ≤ p - 1) := by
  unfold tagB at h
  rw [Bool.and_eq_true] at h
  have h1 := elB_true h.1
  have h2 := elB_true h.2
  exact ⟨h1.2.1, h1.2.2.1, h1.2.2.2, h2.2.2.2⟩
def adB (p v t v' t' : Int) : Bool := tagB p v t && tagB p v' t'
def adV (b : Bool) (p v v' : Int) : Int := if b then (v + v') % p else 0
def shB (p v t k : Int) : Bool := tagB p v t && elB p k
def shT' (b : Bool) (t : Int) : Int := if b then t else 0
set_option maxHeartbeats 4000000 in
set_option maxRecDepth 100000 in
theorem AddTagged_any (p v t v' t' : Int) (w : World) :
    Calls Try.prog 36 #[.int .i64 p, .agg #[.int .i64 v, .int .i64 t], .agg #[.int .i64 v', .int .i64 t']] w fun e w' => e = .returned (.tuple #[.agg #[.int .i64 (adV (adB p v t v' t') p v v'), .int .i64 (adV (adB p v t v' t') p t t')], .bool (adB p v t v' t')]) ∧ Below w.heap.size w w' := by
  have C1 := Lib.hid (fun W : World => isTagged_any p v t W)
  have C2 := Lib.hid (fun W : World => isTagged_any p v' t' W)
  have H1 := Lib.hid (fun h => tagB_parts (p := p) (v := v) (t := t) h)
  have H2 := Lib.hid (fun h => tagB_parts (p := p) (v := v') (t := t') h)
  unfold adV adB
  generalize tagB p v t = b1 at *
  generalize tagB p v' t' = b2 at *



















  cases b1
  · simp only [Bool.false_and, Bool.false_eq_true, if_false]

    go_enter Try.func36, Try.ntmps36
    go_upto_region 1 with fail
    try rw [show w.heap.size + 1 + 1 = w.heap.size + 2 from rfl]
    refine Exists.elim (Blk.new_ w (b := w.heap.size) rfl 52 #[.int .i64 v, .int .i64 t]) (fun w1_a0' q => ?_)
    rw [q.1]; have B_x := q.2.1; have s_w1_a0' := q.2.2.1; have u_w1_a0' := q.2.2.2; clear q
    refine Exists.elim (Blk.new_ w1_a0' (b := w.heap.size + 1) s_w1_a0' 52 #[.int .i64 v', .int .i64 t']) (fun w1_a1' q => ?_)
    rw [q.1]; have B_y := q.2.1; have s_w1_a1' := q.2.2.1; have u_w1_a1' := q.2.2.2; clear q
    refine Exists.elim (Blk.new_ w1_a1' (b := w.heap.size + 2) s_w1_a1' 52 #[.int .i64 0, .int .i64 0]) (fun w1' q => ?_)
    rw [q.1]; have B_r := q.2.1; have s_w1' := q.2.2.1; have u_w1' := q.2.2.2; clear q
    replace B_x := ((B_x.below u_w1_a1').below u_w1')
    replace B_y := (B_y.below u_w1')
    have U := (u_w1_a0'.trans ((u_w1_a1'.trans (u_w1'.mono u_w1_a1'.size)).mono u_w1_a0'.size))
    have S_w1' : w.heap.size + 3 ≤ w1'.heap.size := Nat.le_of_eq s_w1'.symm
    have V_w1' := (Below.refl w.heap.size w).trans (U.mono ((Below.refl w.heap.size w)).size)
    clear u_w1_a0' u_w1_a1' u_w1' s_w1_a0' s_w1_a1' s_w1' U
    have e_x := B_x.all2
    go_wp2_with fail
    clear e_x
    refine (C1.out _).mono ?_
    rintro e w2' ⟨rfl, u_w2'⟩
    replace B_x := B_x.below u_w2'
    replace B_y := B_y.below u_w2'
    replace B_r := B_r.below u_w2'
    have S_w2' := u_w2'.size
    have V_w2' : Below w.heap.size w w2' := V_w1'.trans (u_w2'.mono V_w1'.size)
    clear V_w1'
    clear u_w2'
    have e_r := B_r.all2
    have f_r := B_r.frz2
    go_wp2
    clear e_r f_r
    refine Exists.elim (B_r.row2 (.int .i64 0) (.int .i64 0)) (fun w3' q => ?_)
    rw [q.1]; replace B_r := q.2.1; have G := q.2.2; clear q
    have V_w3' := (V_w2').trans (G.below (V_w2').size (fun q hq => by have := (V_w2').size; simp at hq; omega))
    replace B_x := B_x.only G (by first | (simp; done) | (simp; omega))
    replace B_y := B_y.only G (by first | (simp; done) | (simp; omega))
    have sG0 := G.size
    clear G
    clear V_w2'
    have S_w3' : w2'.heap.size + 0 ≤ w3'.heap.size := by omega
    clear sG0
    have e_r := B_r.all2
    exact bodyPost_ret (v := .tuple #[.agg #[.int .i64 0, .int .i64 0], .bool false]) (by simp [results, Try.results36, go_sem, e_r]) rfl ⟨rfl, V_w3'⟩
  cases b2
  · simp only [Bool.and_false, Bool.false_eq_true, if_false]

    go_enter Try.func36, Try.ntmps36
    go_upto_region 1 with fail
    try rw [show w.heap.size + 1 + 1 = w.heap.size + 2 from rfl]
    refine Exists.elim (Blk.new_ w (b := w.heap.size) rfl 52 #[.int .i64 v, .int .i64 t]) (fun w1_a0' q => ?_)
    rw [q.1]; have B_x := q.2.1; have s_w1_a0' := q.2.2.1; have u_w1_a0' := q.2.2.2; clear q
    refine Exists.elim (Blk.new_ w1_a0' (b := w.heap.size + 1) s_w1_a0' 52 #[.int .i64 v', .int .i64 t']) (fun w1_a1' q => ?_)
    rw [q.1]; have B_y := q.2.1; have s_w1_a1' := q.2.2.1; have u_w1_a1' := q.2.2.2; clear q
    refine Exists.elim (Blk.new_ w1_a1' (b := w.heap.size + 2) s_w1_a1' 52 #[.int .i64 0, .int .i64 0]) (fun w1' q => ?_)
    rw [q.1]; have B_r := q.2.1; have s_w1' := q.2.2.1; have u_w1' := q.2.2.2; clear q
    replace B_x := ((B_x.below u_w1_a1').below u_w1')
    replace B_y := (B_y.below u_w1')
    have U := (u_w1_a0'.trans ((u_w1_a1'.trans (u_w1'.mono u_w1_a1'.size)).mono u_w1_a0'.size))
    have S_w1' : w.heap.size + 3 ≤ w1'.heap.size := Nat.le_of_eq s_w1'.symm
    have V_w1' := (Below.refl w.heap.size w).trans (U.mono ((Below.refl w.heap.size w)).size)
    clear u_w1_a0' u_w1_a1' u_w1' s_w1_a0' s_w1_a1' s_w1' U
    have e_x := B_x.all2
    go_wp2_with fail
    clear e_x
    refine (C1.out _).mono ?_
    rintro e w2' ⟨rfl, u_w2'⟩
    replace B_x := B_x.below u_w2'
    replace B_y := B_y.below u_w2'
    replace B_r := B_r.below u_w2'
    have S_w2' := u_w2'.size
    have V_w2' : Below w.heap.size w w2' := V_w1'.trans (u_w2'.mono V_w1'.size)
    clear V_w1'
    clear u_w2'
    have e_y := B_y.all2
    go_wp2_with fail
    clear e_y
    refine (C2.out _).mono ?_
    rintro e w3' ⟨rfl, u_w3'⟩
    replace B_x := B_x.below u_w3'
    replace B_y := B_y.below u_w3'
    replace B_r := B_r.below u_w3'
    have S_w3' := u_w3'.size
    have V_w3' : Below w.heap.size w w3' := V_w2'.trans (u_w3'.mono V_w2'.size)
    clear V_w2'
    clear u_w3'
    have e_r := B_r.all2
    have f_r := B_r.frz2
    go_wp2
    clear e_r f_r
    refine Exists.elim (B_r.row2 (.int .i64 0) (.int .i64 0)) (fun w4' q => ?_)
    rw [q.1]; replace B_r := q.2.1; have G := q.2.2; clear q
    have V_w4' := (V_w3').trans (G.below (V_w3').size (fun q hq => by have := (V_w3').size; simp at hq; omega))
    replace B_x := B_x.only G (by first | (simp; done) | (simp; omega))
    replace B_y := B_y.only G (by first | (simp; done) | (simp; omega))
    have sG0 := G.size
    clear G
    clear V_w3'
    have S_w4' : w3'.heap.size + 0 ≤ w4'.heap.size := by omega
    clear sG0
    have e_r := B_r.all2
    exact bodyPost_ret (v := .tuple #[.agg #[.int .i64 0, .int .i64 0], .bool false]) (by simp [results, Try.results36, go_sem, e_r]) rfl ⟨rfl, V_w4'⟩
  simp only [Bool.and_true, if_true]
  obtain ⟨p1, p2, hv, ht⟩ := H1.out rfl
  obtain ⟨_, _, hv', ht'⟩ := H2.out rfl
  have hp : 1 ≤ p := by omega
  have s1 : IntKind.i64.wrap (v + v') = v + v' := IntWalk.i64_in _ (by omega)
  have s2 : IntKind.i64.wrap (t + t') = t + t' := IntWalk.i64_in _ (by omega)

  go_enter Try.func36, Try.ntmps36
  go_upto_region 1 with fail
  try rw [show w.heap.size + 1 + 1 = w.heap.size + 2 from rfl]
  refine Exists.elim (Blk.new_ w (b := w.heap.size) rfl 52 #[.int .i64 v, .int .i64 t]) (fun w1_a0' q => ?_)
  rw [q.1]; have B_x := q.2.1; have s_w1_a0' := q.2.2.1; have u_w1_a0' := q.2.2.2; clear q
  refine Exists.elim (Blk.new_ w1_a0' (b := w.heap.size + 1) s_w1_a0' 52 #[.int .i64 v', .int .i64 t']) (fun w1_a1' q => ?_)
  rw [q.1]; have B_y := q.2.1; have s_w1_a1' := q.2.2.1; have u_w1_a1' := q.2.2.2; clear q
  refine Exists.elim (Blk.new_ w1_a1' (b := w.heap.size + 2) s_w1_a1' 52 #[.int .i64 0, .int .i64 0]) (fun w1' q => ?_)
  rw [q.1]; have B_r := q.2.1; have s_w1' := q.2.2.1; have u_w1' := q.2.2.2; clear q
  replace B_x := ((B_x.below u_w1_a1').below u_w1')
  replace B_y := (B_y.below u_w1')
  have U := (u_w1_a0'.trans ((u_w1_a1'.trans (u_w1'.mono u_w1_a1'.size)).mono u_w1_a0'.size))
  have S_w1' : w.heap.size + 3 ≤ w1'.heap.size := Nat.le_of_eq s_w1'.symm
  have V_w1' := (Below.refl w.heap.size w).trans (U.mono ((Below.refl w.heap.size w)).size)
  clear u_w1_a0' u_w1_a1' u_w1' s_w1_a0' s_w1_a1' s_w1' U
  have e_x := B_x.all2
  go_wp2_with fail
  clear e_x
  refine (C1.out _).mono ?_
  rintro e w2' ⟨rfl, u_w2'⟩
  replace B_x := B_x.below u_w2'
  replace B_y := B_y.below u_w2'
  replace B_r := B_r.below u_w2'
  have S_w2' := u_w2'.size
  have V_w2' : Below w.heap.size w w2' := V_w1'.trans (u_w2'.mono V_w1'.size)
  clear V_w1'
  clear u_w2'
  have e_y := B_y.all2
  go_wp2_with fail
  clear e_y
  refine (C2.out _).mono ?_
  rintro e w3' ⟨rfl, u_w3'⟩
  replace B_x := B_x.below u_w3'
  replace B_y := B_y.below u_w3'
  replace B_r := B_r.below u_w3'
  have S_w3' := u_w3'.size
  have V_w3' : Below w.heap.size w w3' := V_w2'.trans (u_w3'.mono V_w2'.size)
  clear V_w2'
  clear u_w3'
  go_upto_region 3 with fail
  have e_r := B_r.all2
  have f_r := B_r.frz2
  have e_x := B_x.all2
  have e_y := B_y.all2
  go_region_held3 (fun W => W.cell? ⟨w.heap.size, 0, none⟩ = some (.int .i64 v) ∧ W.cell? ⟨w.heap.size, 1, none⟩ = some (.int .i64 t) ∧ W.cell? ⟨w.heap.size + 1, 0, none⟩ = some (.int .i64 v') ∧ W.cell? ⟨w.heap.size + 1, 1, none⟩ = some (.int .i64 t'))
    (first | go_keep | exact ⟨(B_x.a2_0), (B_x.a2_1), (B_y.a2_0), (B_y.a2_1)⟩ | exact ⟨keepA _ (B_x.a2_0), keepA _ (B_x.a2_1), keepA _ (B_y.a2_0), keepA _ (B_y.a2_1)⟩ | exact ⟨keepA _ (keepA _ (B_x.a2_0)), keepA _ (keepA _ (B_x.a2_1)), keepA _ (keepA _ (B_y.a2_0)), keepA _ (keepA _ (B_y.a2_1))⟩ | exact ⟨keepA _ (keepA _ (keepA _ (B_x.a2_0))), keepA _ (keepA _ (keepA _ (B_x.a2_1))), keepA _ (keepA _ (keepA _ (B_y.a2_0))), keepA _ (keepA _ (keepA _ (B_y.a2_1)))⟩)
    (first | (go_at_call 95; refine (mod_same _ _ _ hp (by omega)).mono ?_; rintro e w' ⟨rfl, rfl⟩))
  go_wp2
  exact bodyPost_ret (v := .tuple #[.agg #[.int .i64 ((v + v') % p), .int .i64 ((t + t') % p)], .bool true]) (by simp [results, Try.results36, go_sem, e_r]) rfl ⟨rfl, (((V_w3').drew.setCell (p := ⟨w.heap.size + 2, 0, none⟩) (by simp) _).setCell (p := ⟨w.heap.size + 2, 1, none⟩) (by simp) _)⟩
set_option maxHeartbeats 4000000 in
set_option maxRecDepth 100000 in
theorem spec_AddTagged_any (p v t v' t' : Int) (w : World) :
    Calls Try.prog 37 #[.int .i64 p, .agg #[.int .i64 v, .int .i64 t], .agg #[.int .i64 v', .int .i64 t']] w fun e w' => e = .returned (.tuple #[.agg #[.int .i64 (adV (adB p v t v' t') p v v'), .int .i64 (adV (adB p v t v' t') p t t')], .bool (adB p v t v' t')]) ∧ Below w.heap.size w w' := by
  have C1 := Lib.hid (fun W : World => tgGood_any p v t W)
  have C2 := Lib.hid (fun W : World => tgGood_any p v' t' W)
  have H1 := Lib.hid (fun h => tagB_parts (p := p) (v := v) (t := t) h)
  have H2 := Lib.hid (fun h => tagB_parts (p := p) (v := v') (t := t') h)
  unfold adV adB
  generalize tagB p v t = b1 at *
  generalize tagB p v' t' = b2 at *



















  cases b1
  · simp only [Bool.false_and, Bool.false_eq_true, if_false]

    go_enter Try.func37, Try.ntmps37
    go_upto_region 1 with fail
    try rw [show w.heap.size + 1 + 1 = w.heap.size + 2 from rfl]
    refine Exists.elim (Blk.new_ w (b := w.heap.size) rfl 52 #[.int .i64 v, .int .i64 t]) (fun w1_a0' q => ?_)
    rw [q.1]; have B_x := q.2.1; have s_w1_a0' := q.2.2.1; have u_w1_a0' := q.2.2.2; clear q
    refine Exists.elim (Blk.new_ w1_a0' (b := w.heap.size + 1) s_w1_a0' 52 #[.int .i64 v', .int .i64 t']) (fun w1_a1' q => ?_)
    rw [q.1]; have B_y := q.2.1; have s_w1_a1' := q.2.2.1; have u_w1_a1' := q.2.2.2; clear q
    refine Exists.elim (Blk.new_ w1_a1' (b := w.heap.size + 2) s_w1_a1' 52 #[.int .i64 0, .int .i64 0]) (fun w1' q => ?_)
    rw [q.1]; have B_r := q.2.1; have s_w1' := q.2.2.1; have u_w1' := q.2.2.2; clear q
    replace B_x := ((B_x.below u_w1_a1').below u_w1')
    replace B_y := (B_y.below u_w1')
    have U := (u_w1_a0'.trans ((u_w1_a1'.trans (u_w1'.mono u_w1_a1'.size)).mono u_w1_a0'.size))
    have S_w1' : w.heap.size + 3 ≤ w1'.heap.size := Nat.le_of_eq s_w1'.symm
    have V_w1' := (Below.refl w.heap.size w).trans (U.mono ((Below.refl w.heap.size w)).size)
    clear u_w1_a0' u_w1_a1' u_w1' s_w1_a0' s_w1_a1' s_w1' U
    have e_x := B_x.all2
    go_wp2_with fail
    clear e_x
    refine (C1.out _).mono ?_
    rintro e w2' ⟨rfl, u_w2'⟩
    replace B_x := B_x.below u_w2'
    replace B_y := B_y.below u_w2'
    replace B_r := B_r.below u_w2'
    have S_w2' := u_w2'.size
    have V_w2' : Below w.heap.size w w2' := V_w1'.trans (u_w2'.mono V_w1'.size)
    clear V_w1'
    clear u_w2'
    have e_r := B_r.all2
    have f_r := B_r.frz2
    go_wp2
    clear e_r f_r
    refine Exists.elim (B_r.row2 (.int .i64 0) (.int .i64 0)) (fun w3' q => ?_)
    rw [q.1]; replace B_r := q.2.1; have G := q.2.2; clear q
    have V_w3' := (V_w2').trans (G.below (V_w2').size (fun q hq => by have := (V_w2').size; simp at hq; omega))
    replace B_x := B_x.only G (by first | (simp; done) | (simp; omega))
    replace B_y := B_y.only G (by first | (simp; done) | (simp; omega))
    have sG0 := G.size
    clear G
    clear V_w2'
    have S_w3' : w2'.heap.size + 0 ≤ w3'.heap.size := by omega
    clear sG0
    have e_r := B_r.all2
    exact bodyPost_ret (v := .tuple #[.agg #[.int .i64 0, .int .i64 0], .bool false]) (by simp [results, Try.results37, go_sem, e_r]) rfl ⟨rfl, V_w3'⟩
  cases b2
  · simp only [Bool.and_false, Bool.false_eq_true, if_false]

    go_enter Try.func37, Try.ntmps37
    go_upto_region 1 with fail
    try rw [show w.heap.size + 1 + 1 = w.heap.size + 2 from rfl]
    refine Exists.elim (Blk.new_ w (b := w.heap.size) rfl 52 #[.int .i64 v, .int .i64 t]) (fun w1_a0' q => ?_)
    rw [q.1]; have B_x := q.2.1; have s_w1_a0' := q.2.2.1; have u_w1_a0' := q.2.2.2; clear q
    refine Exists.elim (Blk.new_ w1_a0' (b := w.heap.size + 1) s_w1_a0' 52 #[.int .i64 v', .int .i64 t']) (fun w1_a1' q => ?_)
    rw [q.1]; have B_y := q.2.1; have s_w1_a1' := q.2.2.1; have u_w1_a1' := q.2.2.2; clear q
    refine Exists.elim (Blk.new_ w1_a1' (b := w.heap.size + 2) s_w1_a1' 52 #[.int .i64 0, .int .i64 0]) (fun w1' q => ?_)
    rw [q.1]; have B_r := q.2.1; have s_w1' := q.2.2.1; have u_w1' := q.2.2.2; clear q
    replace B_x := ((B_x.below u_w1_a1').below u_w1')
    replace B_y := (B_y.below u_w1')
    have U := (u_w1_a0'.trans ((u_w1_a1'.trans (u_w1'.mono u_w1_a1'.size)).mono u_w1_a0'.size))
    have S_w1' : w.heap.size + 3 ≤ w1'.heap.size := Nat.le_of_eq s_w1'.symm
    have V_w1' := (Below.refl w.heap.size w).trans (U.mono ((Below.refl w.heap.size w)).size)
    clear u_w1_a0' u_w1_a1' u_w1' s_w1_a0' s_w1_a1' s_w1' U
    have e_x := B_x.all2
    go_wp2_with fail
    clear e_x
    refine (C1.out _).mono ?_
    rintro e w2' ⟨rfl, u_w2'⟩
    replace B_x := B_x.below u_w2'
    replace B_y := B_y.below u_w2'
    replace B_r := B_r.below u_w2'
    have S_w2' := u_w2'.size
    have V_w2' : Below w.heap.size w w2' := V_w1'.trans (u_w2'.mono V_w1'.size)
    clear V_w1'
    clear u_w2'
    have e_y := B_y.all2
    go_wp2_with fail
    clear e_y
    refine (C2.out _).mono ?_
    rintro e w3' ⟨rfl, u_w3'⟩
    replace B_x := B_x.below u_w3'
    replace B_y := B_y.below u_w3'
    replace B_r := B_r.below u_w3'
    have S_w3' := u_w3'.size
    have V_w3' : Below w.heap.size w w3' := V_w2'.trans (u_w3'.mono V_w2'.size)
    clear V_w2'
    clear u_w3'
    have e_r := B_r.all2
    have f_r := B_r.frz2
    go_wp2
    clear e_r f_r
    refine Exists.elim (B_r.row2 (.int .i64 0) (.int .i64 0)) (fun w4' q => ?_)
    rw [q.1]; replace B_r := q.2.1; have G := q.2.2; clear q
    have V_w4' := (V_w3').trans (G.below (V_w3').size (fun q hq => by have := (V_w3').size; simp at hq; omega))
    replace B_x := B_x.only G (by first | (simp; done) | (simp; omega))
    replace B_y := B_y.only G (by first | (simp; done) | (simp; omega))
    have sG0 := G.size
    clear G
    clear V_w3'
    have S_w4' : w3'.heap.size + 0 ≤ w4'.heap.size := by omega
    clear sG0
    have e_r := B_r.all2
    exact bodyPost_ret (v := .tuple #[.agg #[.int .i64 0, .int .i64 0], .bool false]) (by simp [results, Try.results37, go_sem, e_r]) rfl ⟨rfl, V_w4'⟩
  simp only [Bool.and_true, if_true]
  obtain ⟨p1, p2, hv, ht⟩ := H1.out rfl
  obtain ⟨_, _, hv', ht'⟩ := H2.out rfl
  have CA := fun W : World => tgAdd_any p v t v' t' 1 W (by omega) (by omega) hv ht hv' ht' (by omega)
  simp only [Int.one_mul] at CA
  replace CA := Lib.hid CA

  go_enter Try.func37, Try.ntmps37
  go_upto_region 1 with fail
  try rw [show w.heap.size + 1 + 1 = w.heap.size + 2 from rfl]
  refine Exists.elim (Blk.new_ w (b := w.heap.size) rfl 52 #[.int .i64 v, .int .i64 t]) (fun w1_a0' q => ?_)
  rw [q.1]; have B_x := q.2.1; have s_w1_a0' := q.2.2.1; have u_w1_a0' := q.2.2.2; clear q
  refine Exists.elim (Blk.new_ w1_a0' (b := w.heap.size + 1) s_w1_a0' 52 #[.int .i64 v', .int .i64 t']) (fun w1_a1' q => ?_)
  rw [q.1]; have B_y := q.2.1; have s_w1_a1' := q.2.2.1; have u_w1_a1' := q.2.2.2; clear q
  refine Exists.elim (Blk.new_ w1_a1' (b := w.heap.size + 2) s_w1_a1' 52 #[.int .i64 0, .int .i64 0]) (fun w1' q => ?_)
  rw [q.1]; have B_r := q.2.1; have s_w1' := q.2.2.1; have u_w1' := q.2.2.2; clear q
  replace B_x := ((B_x.below u_w1_a1').below u_w1')
  replace B_y := (B_y.below u_w1')
  have U := (u_w1_a0'.trans ((u_w1_a1'.trans (u_w1'.mono u_w1_a1'.size)).mono u_w1_a0'.size))
  have S_w1' : w.heap.size + 3 ≤ w1'.heap.size := Nat.le_of_eq s_w1'.symm
  have V_w1' := (Below.refl w.heap.size w).trans (U.mono ((Below.refl w.heap.size w)).size)
  clear u_w1_a0' u_w1_a1' u_w1' s_w1_a0' s_w1_a1' s_w1' U
  have e_x := B_x.all2
  go_wp2_with fail
  clear e_x
  refine (C1.out _).mono ?_
  rintro e w2' ⟨rfl, u_w2'⟩
  replace B_x := B_x.below u_w2'
  replace B_y := B_y.below u_w2'
  replace B_r := B_r.below u_w2'
  have S_w2' := u_w2'.size
  have V_w2' : Below w.heap.size w w2' := V_w1'.trans (u_w2'.mono V_w1'.size)
  clear V_w1'
  clear u_w2'
  have e_y := B_y.all2
  go_wp2_with fail
  clear e_y
  refine (C2.out _).mono ?_
  rintro e w3' ⟨rfl, u_w3'⟩
  replace B_x := B_x.below u_w3'
  replace B_y := B_y.below u_w3'
  replace B_r := B_r.below u_w3'
  have S_w3' := u_w3'.size
  have V_w3' : Below w.heap.size w w3' := V_w2'.trans (u_w3'.mono V_w2'.size)
  clear V_w2'
  clear u_w3'
  have e_x := B_x.all2
  have e_y := B_y.all2
  go_wp2_with fail
  clear e_x e_y
  refine (CA.out _).mono ?_
  rintro e w4' ⟨rfl, u_w4'⟩
  replace B_x := B_x.below u_w4'
  replace B_y := B_y.below u_w4'
  replace B_r := B_r.below u_w4'
  have S_w4' := u_w4'.size
  have V_w4' : Below w.heap.size w w4' := V_w3'.trans (u_w4'.mono V_w3'.size)
  clear V_w3'
  clear u_w4'
  have e_r := B_r.all2
  have f_r := B_r.frz2
  go_wp2
  clear e_r f_r
  refine Exists.elim (B_r.row2 (.int .i64 ((v + v') % p)) (.int .i64 ((t + t') % p))) (fun w5' q => ?_)
  rw [q.1]; replace B_r := q.2.1; have G := q.2.2; clear q
  have V_w5' := (V_w4').trans (G.below (V_w4').size (fun q hq => by have := (V_w4').size; simp at hq; omega))
  replace B_x := B_x.only G (by first | (simp; done) | (simp; omega))
  replace B_y := B_y.only G (by first | (simp; done) | (simp; omega))
  have sG0 := G.size
  clear G
  clear V_w4'
  have S_w5' : w4'.heap.size + 0 ≤ w5'.heap.size := by omega
  clear sG0
  have e_r := B_r.all2
  exact bodyPost_ret (v := .tuple #[.agg #[.int .i64 ((v + v') % p), .int .i64 ((t + t') % p)], .bool true]) (by simp [results, Try.results37, go_sem, e_r]) rfl ⟨rfl, V_w5'⟩
set_option maxHeartbeats 4000000 in
set_option maxRecDepth 100000 in
theorem ShiftTagged_any (p v t k : Int) (w : World) :
    Calls Try.prog 39 #[.int .i64 p, .agg #[.int .i64 v, .int .i64 t], .int .i64 k] w fun e w' => e = .returned (.tuple #[.agg #[.int .i64 (adV (shB p v t k) p v k), .int .i64 (shT' (shB p v t k) t)], .bool (shB p v t k)]) ∧ Below w.heap.size w w' := by
  have C1 := Lib.hid (fun W : World => isTagged_any p v t W)
  have C2 := Lib.hid (fun W : World => isElement_any p k W)
  have H1 := Lib.hid (fun h => tagB_parts (p := p) (v := v) (t := t) h)
  have H2 := Lib.hid (fun h => elB_true (p := p) (a := k) h)
  unfold adV shB shT'
  generalize tagB p v t = b1 at *
  generalize elB p k = b2 at *


















  cases b1
  · simp only [Bool.false_and, Bool.false_eq_true, if_false]

    go_enter Try.func39, Try.ntmps39
    go_upto_region 1 with fail
    refine Exists.elim (Blk.new_ w (b := w.heap.size) rfl 52 #[.int .i64 v, .int .i64 t]) (fun w1_a0' q => ?_)
    rw [q.1]; have B_x := q.2.1; have s_w1_a0' := q.2.2.1; have u_w1_a0' := q.2.2.2; clear q
    refine Exists.elim (Blk.new_ w1_a0' (b := w.heap.size + 1) s_w1_a0' 52 #[.int .i64 0, .int .i64 0]) (fun w1' q => ?_)
    rw [q.1]; have B_r := q.2.1; have s_w1' := q.2.2.1; have u_w1' := q.2.2.2; clear q
    replace B_x := (B_x.below u_w1')
    have U := (u_w1_a0'.trans (u_w1'.mono u_w1_a0'.size))
    have S_w1' : w.heap.size + 2 ≤ w1'.heap.size := Nat.le_of_eq s_w1'.symm
    have V_w1' := (Below.refl w.heap.size w).trans (U.mono ((Below.refl w.heap.size w)).size)
    clear u_w1_a0' u_w1' s_w1_a0' s_w1' U
    have e_x := B_x.all2
    go_wp2_with fail
    clear e_x
    refine (C1.out _).mono ?_
    rintro e w2' ⟨rfl, u_w2'⟩
    replace B_x := B_x.below u_w2'
    replace B_r := B_r.below u_w2'
    have S_w2' := u_w2'.size
    have V_w2' : Below w.heap.size w w2' := V_w1'.trans (u_w2'.mono V_w1'.size)
    clear V_w1'
    clear u_w2'
    have e_r := B_r.all2
    have f_r := B_r.frz2
    go_wp2
    clear e_r f_r
    refine Exists.elim (B_r.row2 (.int .i64 0) (.int .i64 0)) (fun w3' q => ?_)
    rw [q.1]; replace B_r := q.2.1; have G := q.2.2; clear q
    have V_w3' := (V_w2').trans (G.below (V_w2').size (fun q hq => by have := (V_w2').size; simp at hq; omega))
    replace B_x := B_x.only G (by first | (simp; done) | (simp; omega))
    have sG0 := G.size
    clear G
    clear V_w2'
    have S_w3' : w2'.heap.size + 0 ≤ w3'.heap.size := by omega
    clear sG0
    have e_r := B_r.all2
    exact bodyPost_ret (v := .tuple #[.agg #[.int .i64 0, .int .i64 0], .bool false]) (by simp [results, Try.results39, go_sem, e_r]) rfl ⟨rfl, V_w3'⟩
  cases b2
  · simp only [Bool.and_false, Bool.false_eq_true, if_false]

    go_enter Try.func39, Try.ntmps39
    go_upto_region 1 with fail
    refine Exists.elim (Blk.new_ w (b := w.heap.size) rfl 52 #[.int .i64 v, .int .i64 t]) (fun w1_a0' q => ?_)
    rw [q.1]; have B_x := q.2.1; have s_w1_a0' := q.2.2.1; have u_w1_a0' := q.2.2.2; clear q
    refine Exists.elim (Blk.new_ w1_a0' (b := w.heap.size + 1) s_w1_a0' 52 #[.int .i64 0, .int .i64 0]) (fun w1' q => ?_)
    rw [q.1]; have B_r := q.2.1; have s_w1' := q.2.2.1; have u_w1' := q.2.2.2; clear q
    replace B_x := (B_x.below u_w1')
    have U := (u_w1_a0'.trans (u_w1'.mono u_w1_a0'.size))
    have S_w1' : w.heap.size + 2 ≤ w1'.heap.size := Nat.le_of_eq s_w1'.symm
    have V_w1' := (Below.refl w.heap.size w).trans (U.mono ((Below.refl w.heap.size w)).size)
    clear u_w1_a0' u_w1' s_w1_a0' s_w1' U
    have e_x := B_x.all2
    go_wp2_with fail
    clear e_x
    refine (C1.out _).mono ?_
    rintro e w2' ⟨rfl, u_w2'⟩
    replace B_x := B_x.below u_w2'
    replace B_r := B_r.below u_w2'
    have S_w2' := u_w2'.size
    have V_w2' : Below w.heap.size w w2' := V_w1'.trans (u_w2'.mono V_w1'.size)
    clear V_w1'
    clear u_w2'
    go_wp2_with fail
    refine (C2.out _).mono ?_
    rintro e w3' ⟨rfl, q_w3'⟩
    have u_w3' := below_of_quiet q_w3'
    clear q_w3'
    replace B_x := B_x.below u_w3'
    replace B_r := B_r.below u_w3'
    have S_w3' := u_w3'.size
    have V_w3' : Below w.heap.size w w3' := V_w2'.trans (u_w3'.mono V_w2'.size)
    clear V_w2'
    clear u_w3'
    have e_r := B_r.all2
    have f_r := B_r.frz2
    go_wp2
    clear e_r f_r
    refine Exists.elim (B_r.row2 (.int .i64 0) (.int .i64 0)) (fun w4' q => ?_)
    rw [q.1]; replace B_r := q.2.1; have G := q.2.2; clear q
    have V_w4' := (V_w3').trans (G.below (V_w3').size (fun q hq => by have := (V_w3').size; simp at hq; omega))
    replace B_x := B_x.only G (by first | (simp; done) | (simp; omega))
    have sG0 := G.size
    clear G
    clear V_w3'
    have S_w4' : w3'.heap.size + 0 ≤ w4'.heap.size := by omega
    clear sG0
    have e_r := B_r.all2
    exact bodyPost_ret (v := .tuple #[.agg #[.int .i64 0, .int .i64 0], .bool false]) (by simp [results, Try.results39, go_sem, e_r]) rfl ⟨rfl, V_w4'⟩
  simp only [Bool.and_true, if_true]
  obtain ⟨p1, p2, hv, ht⟩ := H1.out rfl
  obtain ⟨_, _, _, hk⟩ := H2.out rfl
  have hp : 1 ≤ p := by omega
  have s1 : IntKind.i64.wrap (v + k) = v + k := IntWalk.i64_in _ (by omega)

  go_enter Try.func39, Try.ntmps39
  go_upto_region 1 with fail
  refine Exists.elim (Blk.new_ w (b := w.heap.size) rfl 52 #[.int .i64 v, .int .i64 t]) (fun w1_a0' q => ?_)
  rw [q.1]; have B_x := q.2.1; have s_w1_a0' := q.2.2.1; have u_w1_a0' := q.2.2.2; clear q
  refine Exists.elim (Blk.new_ w1_a0' (b := w.heap.size + 1) s_w1_a0' 52 #[.int .i64 0, .int .i64 0]) (fun w1' q => ?_)
  rw [q.1]; have B_r := q.2.1; have s_w1' := q.2.2.1; have u_w1' := q.2.2.2; clear q
  replace B_x := (B_x.below u_w1')
  have U := (u_w1_a0'.trans (u_w1'.mono u_w1_a0'.size))
  have S_w1' : w.heap.size + 2 ≤ w1'.heap.size := Nat.le_of_eq s_w1'.symm
  have V_w1' := (Below.refl w.heap.size w).trans (U.mono ((Below.refl w.heap.size w)).size)
  clear u_w1_a0' u_w1' s_w1_a0' s_w1' U
  have e_x := B_x.all2
  go_wp2_with fail
  clear e_x
  refine (C1.out _).mono ?_
  rintro e w2' ⟨rfl, u_w2'⟩
  replace B_x := B_x.below u_w2'
  replace B_r := B_r.below u_w2'
  have S_w2' := u_w2'.size
  have V_w2' : Below w.heap.size w w2' := V_w1'.trans (u_w2'.mono V_w1'.size)
  clear V_w1'
  clear u_w2'
  go_wp2_with fail
  refine (C2.out _).mono ?_
  rintro e w3' ⟨rfl, q_w3'⟩
  have u_w3' := below_of_quiet q_w3'
  clear q_w3'
  replace B_x := B_x.below u_w3'
  replace B_r := B_r.below u_w3'
  have S_w3' := u_w3'.size
  have V_w3' : Below w.heap.size w w3' := V_w2'.trans (u_w3'.mono V_w2'.size)
  clear V_w2'
  clear u_w3'
  go_upto_region 3 with fail
  have e_r := B_r.all2
  have f_r := B_r.frz2
  have e_x := B_x.all2
  go_region_held3 (fun W => W.cell? ⟨w.heap.size, 0, none⟩ = some (.int .i64 v) ∧ W.cell? ⟨w.heap.size, 1, none⟩ = some (.int .i64 t))
    (first | go_keep | exact ⟨(B_x.a2_0), (B_x.a2_1)⟩ | exact ⟨keepA _ (B_x.a2_0), keepA _ (B_x.a2_1)⟩ | exact ⟨keepA _ (keepA _ (B_x.a2_0)), keepA _ (keepA _ (B_x.a2_1))⟩ | exact ⟨keepA _ (keepA _ (keepA _ (B_x.a2_0))), keepA _ (keepA _ (keepA _ (B_x.a2_1)))⟩)
    (first | (go_at_call 95; refine (mod_same _ _ _ hp (by omega)).mono ?_; rintro e w' ⟨rfl, rfl⟩))
  go_wp2
  exact bodyPost_ret (v := .tuple #[.agg #[.int .i64 ((v + k) % p), .int .i64 t], .bool true]) (by simp [results, Try.results39, go_sem, e_r]) rfl ⟨rfl, (((V_w3').drew.setCell (p := ⟨w.heap.size + 1, 0, none⟩) (by simp) _).setCell (p := ⟨w.heap.size + 1, 1, none⟩) (by simp) _)⟩
set_option maxHeartbeats 4000000 in
set_option maxRecDepth 100000 in
theorem spec_ShiftTagged_any (p v t k : Int) (w : World) :
    Calls Try.prog 40 #[.int .i64 p, .agg #[.int .i64 v, .int .i64 t], .int .i64 k] w fun e w' => e = .returned (.tuple #[.agg #[.int .i64 (adV (shB p v t k) p v k), .int .i64 (shT' (shB p v t k) t)], .bool (shB p v t k)]) ∧ Below w.heap.size w w' := by
  have C1 := Lib.hid (fun W : World => tgGood_any p v t W)
  have C2 := Lib.hid (fun W : World => l1In_any k 0 (p - 1) W)
  have HB : Hid (tagB p v t = true → shB p v t k = inB k 0 (p - 1)) := Lib.hid (fun h => by
    have h1 := h
    unfold tagB at h1
    rw [Bool.and_eq_true] at h1
    unfold shB elB inB
    rw [h, (elB_true h1.1).1]; rfl)
  have HF : Hid (tagB p v t = false → shB p v t k = false) := Lib.hid (fun h => by unfold shB; rw [h]; rfl)
  have H1 := Lib.hid (fun h => tagB_parts (p := p) (v := v) (t := t) h)
  have H2 := Lib.hid (fun h => inB_true (n := k) (lo := 0) (hi := p - 1) h)
  unfold adV shT'
  generalize shB p v t k = bs at *
  generalize tagB p v t = b1 at *
  generalize inB k 0 (p - 1) = b2 at *


















  cases b1
  · obtain rfl := HF.out rfl
    simp only [Bool.false_eq_true, if_false]

    go_enter Try.func40, Try.ntmps40
    go_upto_region 1 with fail
    refine Exists.elim (Blk.new_ w (b := w.heap.size) rfl 52 #[.int .i64 v, .int .i64 t]) (fun w1_a0' q => ?_)
    rw [q.1]; have B_x := q.2.1; have s_w1_a0' := q.2.2.1; have u_w1_a0' := q.2.2.2; clear q
    refine Exists.elim (Blk.new_ w1_a0' (b := w.heap.size + 1) s_w1_a0' 52 #[.int .i64 0, .int .i64 0]) (fun w1' q => ?_)
    rw [q.1]; have B_r := q.2.1; have s_w1' := q.2.2.1; have u_w1' := q.2.2.2; clear q
    replace B_x := (B_x.below u_w1')
    have U := (u_w1_a0'.trans (u_w1'.mono u_w1_a0'.size))
    have S_w1' : w.heap.size + 2 ≤ w1'.heap.size := Nat.le_of_eq s_w1'.symm
    have V_w1' := (Below.refl w.heap.size w).trans (U.mono ((Below.refl w.heap.size w)).size)
    clear u_w1_a0' u_w1' s_w1_a0' s_w1' U
    have e_x := B_x.all2
    go_wp2_with fail
    clear e_x
    refine (C1.out _).mono ?_
    rintro e w2' ⟨rfl, u_w2'⟩
    replace B_x := B_x.below u_w2'
    replace B_r := B_r.below u_w2'
    have S_w2' := u_w2'.size
    have V_w2' : Below w.heap.size w w2' := V_w1'.trans (u_w2'.mono V_w1'.size)
    clear V_w1'
    clear u_w2'
    have e_r := B_r.all2
    have f_r := B_r.frz2
    go_wp2
    clear e_r f_r
    refine Exists.elim (B_r.row2 (.int .i64 0) (.int .i64 0)) (fun w3' q => ?_)
    rw [q.1]; replace B_r := q.2.1; have G := q.2.2; clear q
    have V_w3' := (V_w2').trans (G.below (V_w2').size (fun q hq => by have := (V_w2').size; simp at hq; omega))
    replace B_x := B_x.only G (by first | (simp; done) | (simp; omega))
    have sG0 := G.size
    clear G
    clear V_w2'
    have S_w3' : w2'.heap.size + 0 ≤ w3'.heap.size := by omega
    clear sG0
    have e_r := B_r.all2
    exact bodyPost_ret (v := .tuple #[.agg #[.int .i64 0, .int .i64 0], .bool false]) (by simp [results, Try.results40, go_sem, e_r]) rfl ⟨rfl, V_w3'⟩
  obtain rfl := HB.out rfl
  obtain ⟨p1, p2, hv, ht⟩ := H1.out rfl
  have tp : IntKind.i64.wrap (p - 1) = p - 1 := IntWalk.i64_in _ (by omega)
  cases bs
  · simp only [Bool.false_eq_true, if_false]

    go_enter Try.func40, Try.ntmps40
    go_upto_region 1 with fail
    refine Exists.elim (Blk.new_ w (b := w.heap.size) rfl 52 #[.int .i64 v, .int .i64 t]) (fun w1_a0' q => ?_)
    rw [q.1]; have B_x := q.2.1; have s_w1_a0' := q.2.2.1; have u_w1_a0' := q.2.2.2; clear q
    refine Exists.elim (Blk.new_ w1_a0' (b := w.heap.size + 1) s_w1_a0' 52 #[.int .i64 0, .int .i64 0]) (fun w1' q => ?_)
    rw [q.1]; have B_r := q.2.1; have s_w1' := q.2.2.1; have u_w1' := q.2.2.2; clear q
    replace B_x := (B_x.below u_w1')
    have U := (u_w1_a0'.trans (u_w1'.mono u_w1_a0'.size))
    have S_w1' : w.heap.size + 2 ≤ w1'.heap.size := Nat.le_of_eq s_w1'.symm
    have V_w1' := (Below.refl w.heap.size w).trans (U.mono ((Below.refl w.heap.size w)).size)
    clear u_w1_a0' u_w1' s_w1_a0' s_w1' U
    have e_x := B_x.all2
    go_wp2_with fail
    clear e_x
    refine (C1.out _).mono ?_
    rintro e w2' ⟨rfl, u_w2'⟩
    replace B_x := B_x.below u_w2'
    replace B_r := B_r.below u_w2'
    have S_w2' := u_w2'.size
    have V_w2' : Below w.heap.size w w2' := V_w1'.trans (u_w2'.mono V_w1'.size)
    clear V_w1'
    clear u_w2'
    go_wp2_with fail
    refine (C2.out _).mono ?_
    rintro e w_q ⟨rfl, rfl⟩
    have e_r := B_r.all2
    have f_r := B_r.frz2
    go_wp2
    clear e_r f_r
    refine Exists.elim (B_r.row2 (.int .i64 0) (.int .i64 0)) (fun w3' q => ?_)
    rw [q.1]; replace B_r := q.2.1; have G := q.2.2; clear q
    have V_w3' := (V_w2').trans (G.below (V_w2').size (fun q hq => by have := (V_w2').size; simp at hq; omega))
    replace B_x := B_x.only G (by first | (simp; done) | (simp; omega))
    have sG0 := G.size
    clear G
    clear V_w2'
    have S_w3' : w2'.heap.size + 0 ≤ w3'.heap.size := by omega
    clear sG0
    have e_r := B_r.all2
    exact bodyPost_ret (v := .tuple #[.agg #[.int .i64 0, .int .i64 0], .bool false]) (by simp [results, Try.results40, go_sem, e_r]) rfl ⟨rfl, V_w3'⟩
  simp only [if_true]
  have hk := H2.out rfl
  have hp : 1 ≤ p := by omega
  have s1 : IntKind.i64.wrap (v + k) = v + k := IntWalk.i64_in _ (by omega)
  have t3 : (v + k).tmod p = (v + k) % p := Int.tmod_eq_emod_of_nonneg (by omega)
  have s5 : IntKind.i64.wrap ((v + k) % p) = (v + k) % p := IntWalk.i64_in _ (by have := Int.emod_nonneg (v + k) (by omega : p ≠ 0); have := Int.emod_lt_of_pos (v + k) (by omega : 0 < p); omega)
  have t7 : (p == 0) = false := by simp; omega
  have t8 : (p = 0) = False := by simp; omega

  go_enter Try.func40, Try.ntmps40
  go_upto_region 1 with fail
  refine Exists.elim (Blk.new_ w (b := w.heap.size) rfl 52 #[.int .i64 v, .int .i64 t]) (fun w1_a0' q => ?_)
  rw [q.1]; have B_x := q.2.1; have s_w1_a0' := q.2.2.1; have u_w1_a0' := q.2.2.2; clear q
  refine Exists.elim (Blk.new_ w1_a0' (b := w.heap.size + 1) s_w1_a0' 52 #[.int .i64 0, .int .i64 0]) (fun w1' q => ?_)
  rw [q.1]; have B_r := q.2.1; have s_w1' := q.2.2.1; have u_w1' := q.2.2.2; clear q
  replace B_x := (B_x.below u_w1')
  have U := (u_w1_a0'.trans (u_w1'.mono u_w1_a0'.size))
  have S_w1' : w.heap.size + 2 ≤ w1'.heap.size := Nat.le_of_eq s_w1'.symm
  have V_w1' := (Below.refl w.heap.size w).trans (U.mono ((Below.refl w.heap.size w)).size)
  clear u_w1_a0' u_w1' s_w1_a0' s_w1' U
  have e_x := B_x.all2
  go_wp2_with fail
  clear e_x
  refine (C1.out _).mono ?_
  rintro e w2' ⟨rfl, u_w2'⟩
  replace B_x := B_x.below u_w2'
  replace B_r := B_r.below u_w2'
  have S_w2' := u_w2'.size
  have V_w2' : Below w.heap.size w w2' := V_w1'.trans (u_w2'.mono V_w1'.size)
  clear V_w1'
  clear u_w2'
  go_wp2_with fail
  refine (C2.out _).mono ?_
  rintro e w_q ⟨rfl, rfl⟩
  go_upto_region 3 with fail
  have e_r := B_r.all2
  have f_r := B_r.frz2
  have e_x := B_x.all2
  go_region_held3 (fun W => W.cell? ⟨w.heap.size, 0, none⟩ = some (.int .i64 v) ∧ W.cell? ⟨w.heap.size, 1, none⟩ = some (.int .i64 t))
    (first | go_keep | exact ⟨(B_x.a2_0), (B_x.a2_1)⟩ | exact ⟨keepA _ (B_x.a2_0), keepA _ (B_x.a2_1)⟩ | exact ⟨keepA _ (keepA _ (B_x.a2_0)), keepA _ (keepA _ (B_x.a2_1))⟩ | exact ⟨keepA _ (keepA _ (keepA _ (B_x.a2_0))), keepA _ (keepA _ (keepA _ (B_x.a2_1)))⟩)
    (fail)
  go_wp2
  exact bodyPost_ret (v := .tuple #[.agg #[.int .i64 ((v + k) % p), .int .i64 t], .bool true]) (by simp [results, Try.results40, go_sem, e_r]) rfl ⟨rfl, (((V_w2').drew.setCell (p := ⟨w.heap.size + 1, 0, none⟩) (by simp) _).setCell (p := ⟨w.heap.size + 1, 1, none⟩) (by simp) _)⟩
end Go.Proofs.Ytjgbhokilagmoaa
