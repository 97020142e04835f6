/- The values that two players were dealt. -/
import Derived.Test.YtlmdckcohoddnaaDoorTwo
namespace Go.Proofs.YtlmdckcohoddnaaDoor
open Go.RowKit
theorem keepLow {B : Nat} {w w' : World} {p : Addr} {v : Value} (u : Below B w w') (hb : p.block < B) (h : w.cell? p = some v) : w'.cell? p = some v := (u.cell hb).trans h
theorem keepGr {w w' : World} {a : Option Addr} {c : Nat} {p : Addr} {v : Value} (g : w.grownBy w' (rowOf a c)) (hn : p.block ∉ foot a c) (h : w.cell? p = some v) : w'.cell? p = some v :=
  (World.cell?_of_block ((Only.of_grown g).block _ (World.block_lt_of_cell? w _ h) hn)).trans h
def dvAt (a b : Pl) (i : Nat) : Int := (a.shares.getD (i * 2) 0 + b.shares.getD (i * 2) 0) % a.P
def dvL (a b : Pl) (n : Nat) : List Int := (List.range n).map (dvAt a b)
theorem dvL_succ (a b : Pl) (n : Nat) : dvL a b (n + 1) = dvL a b n ++ [dvAt a b n] := by simp [dvL, List.range_succ]
def dvR (a b : Pl) : List Int := if twoB a b then dvL a b 5 else []
theorem dvR_len (a b : Pl) : (dvR a b).length ≤ 1000000 := by unfold dvR; split <;> simp [dvL]
theorem twoB_parts {a b : Pl} (h : twoB a b = true) : plB a = true ∧ plB b = true ∧ a.P = b.P ∧ a.party = 0 ∧ b.party = 1 ∧ a.step = 0 ∧ b.step = 0 ∧ a.status = 0 ∧ b.status = 0 := by
  unfold twoB at h
  simpa only [Bool.and_eq_true, decide_eq_true_eq] using h
theorem tagAt_parts {p : Int} {L : List Int} {i : Nat} (h : tagAt p L i = true) : (0 ≤ L.getD (i * 2) 0 ∧ L.getD (i * 2) 0 ≤ p - 1) ∧ (0 ≤ L.getD (i * 2 + 1) 0 ∧ L.getD (i * 2 + 1) 0 ≤ p - 1) := by
  unfold tagAt at h
  rw [tagB_els] at h
  have := (elsB_pr h).2
  exact ⟨this _ (by simp), this _ (by simp)⟩
set_option maxHeartbeats 8000000 in
set_option maxRecDepth 100000 in
theorem DealtValues_any (a : Pl) (x : PlX) (b : Pl) (y : PlX) (w : World) (h : PlR w x a.shares a.keys a.heard) (k : PlR w y b.shares b.keys b.heard) (hT : Tbl w) :
    Calls Tryd.prog 21 #[.agg #[.int .i64 a.P, .int .i64 a.party, .int .i64 a.input, .int .i64 a.mask, .int .i64 a.delta, .slice x.sa x.sn x.sc, .slice x.ka x.kn x.kc, .int .i64 a.step, .slice x.ha x.hn x.hc, .int .i64 a.status, .int .i64 a.out], .agg #[.int .i64 b.P, .int .i64 b.party, .int .i64 b.input, .int .i64 b.mask, .int .i64 b.delta, .slice y.sa y.sn y.sc, .slice y.ka y.kn y.kc, .int .i64 b.step, .slice y.ha y.hn y.hc, .int .i64 b.status, .int .i64 b.out]] w fun e w' => ∃ c n d, e = .returned (.tuple #[.slice c n d, .bool (twoB a b)]) ∧ Own w' w.heap.size c n d (dvR a b) ∧ Below w.heap.size w w' := by
  have CT := fun (W : World) (h2 : PlR W x a.shares a.keys a.heard) (k2 : PlR W y b.shares b.keys b.heard) (hT2 : Tbl W) => areTwo_any a x b y W h2 k2 hT2
  have FT := fun (H : twoB a b = true) => (twoB_parts H)
  unfold dvR
  generalize twoB a b = b0 at *
  obtain ⟨x_sa, x_sn, x_sc, x_ka, x_kn, x_kc, x_ha, x_hn, x_hc⟩ := x
  obtain ⟨y_sa, y_sn, y_sc, y_ka, y_kn, y_kc, y_ha, y_hn, y_hc⟩ := y
  dsimp only at *
  replace CT := Lib.hid CT
  replace FT := Lib.hid FT
  have LX := Lib.hid hT
  have LA := Lib.hid h
  have LB := Lib.hid k
  clear hT h k

  go_enter Tryd.func21, Tryd.ntmps21
  go_wp2_with fail
  have V_w1'_1 : Below w.heap.size w (w.alloc (.cells #[.int .i64 a.P, .int .i64 a.party, .int .i64 a.input, .int .i64 a.mask, .int .i64 a.delta, .slice x_sa x_sn x_sc, .slice x_ka x_kn x_kc, .int .i64 a.step, .slice x_ha x_hn x_hc, .int .i64 a.status, .int .i64 a.out] 31)) := ((Below.refl w.heap.size w)).alloc (by have := ((Below.refl w.heap.size w)).size; first | exact this | (simp at *; omega)) _
  have B_a : Blk (w.alloc (.cells #[.int .i64 a.P, .int .i64 a.party, .int .i64 a.input, .int .i64 a.mask, .int .i64 a.delta, .slice x_sa x_sn x_sc, .slice x_ka x_kn x_kc, .int .i64 a.step, .slice x_ha x_hn x_hc, .int .i64 a.status, .int .i64 a.out] 31)) (w.heap.size) 31 #[.int .i64 a.P, .int .i64 a.party, .int .i64 a.input, .int .i64 a.mask, .int .i64 a.delta, .slice x_sa x_sn x_sc, .slice x_ka x_kn x_kc, .int .i64 a.step, .slice x_ha x_hn x_hc, .int .i64 a.status, .int .i64 a.out] := by exact Blk.new w 31 #[.int .i64 a.P, .int .i64 a.party, .int .i64 a.input, .int .i64 a.mask, .int .i64 a.delta, .slice x_sa x_sn x_sc, .slice x_ka x_kn x_kc, .int .i64 a.step, .slice x_ha x_hn x_hc, .int .i64 a.status, .int .i64 a.out]
  have V_w1'_2 : Below w.heap.size w ((w.alloc (.cells #[.int .i64 a.P, .int .i64 a.party, .int .i64 a.input, .int .i64 a.mask, .int .i64 a.delta, .slice x_sa x_sn x_sc, .slice x_ka x_kn x_kc, .int .i64 a.step, .slice x_ha x_hn x_hc, .int .i64 a.status, .int .i64 a.out] 31)).alloc (.cells #[.int .i64 b.P, .int .i64 b.party, .int .i64 b.input, .int .i64 b.mask, .int .i64 b.delta, .slice y_sa y_sn y_sc, .slice y_ka y_kn y_kc, .int .i64 b.step, .slice y_ha y_hn y_hc, .int .i64 b.status, .int .i64 b.out] 31)) := (V_w1'_1).alloc (by have := (V_w1'_1).size; first | exact this | (simp at *; omega)) _
  replace B_a := B_a.alloc (.cells #[.int .i64 b.P, .int .i64 b.party, .int .i64 b.input, .int .i64 b.mask, .int .i64 b.delta, .slice y_sa y_sn y_sc, .slice y_ka y_kn y_kc, .int .i64 b.step, .slice y_ha y_hn y_hc, .int .i64 b.status, .int .i64 b.out] 31)
  have B_b : Blk ((w.alloc (.cells #[.int .i64 a.P, .int .i64 a.party, .int .i64 a.input, .int .i64 a.mask, .int .i64 a.delta, .slice x_sa x_sn x_sc, .slice x_ka x_kn x_kc, .int .i64 a.step, .slice x_ha x_hn x_hc, .int .i64 a.status, .int .i64 a.out] 31)).alloc (.cells #[.int .i64 b.P, .int .i64 b.party, .int .i64 b.input, .int .i64 b.mask, .int .i64 b.delta, .slice y_sa y_sn y_sc, .slice y_ka y_kn y_kc, .int .i64 b.step, .slice y_ha y_hn y_hc, .int .i64 b.status, .int .i64 b.out] 31)) (w.heap.size + 1) 31 #[.int .i64 b.P, .int .i64 b.party, .int .i64 b.input, .int .i64 b.mask, .int .i64 b.delta, .slice y_sa y_sn y_sc, .slice y_ka y_kn y_kc, .int .i64 b.step, .slice y_ha y_hn y_hc, .int .i64 b.status, .int .i64 b.out] := by simpa [World.setCell] using (Blk.new (w.alloc (.cells #[.int .i64 a.P, .int .i64 a.party, .int .i64 a.input, .int .i64 a.mask, .int .i64 a.delta, .slice x_sa x_sn x_sc, .slice x_ka x_kn x_kc, .int .i64 a.step, .slice x_ha x_hn x_hc, .int .i64 a.status, .int .i64 a.out] 31)) 31 #[.int .i64 b.P, .int .i64 b.party, .int .i64 b.input, .int .i64 b.mask, .int .i64 b.delta, .slice y_sa y_sn y_sc, .slice y_ka y_kn y_kc, .int .i64 b.step, .slice y_ha y_hn y_hc, .int .i64 b.status, .int .i64 b.out])
  have S_w1' : w.heap.size + 2 ≤ ((w.alloc (.cells #[.int .i64 a.P, .int .i64 a.party, .int .i64 a.input, .int .i64 a.mask, .int .i64 a.delta, .slice x_sa x_sn x_sc, .slice x_ka x_kn x_kc, .int .i64 a.step, .slice x_ha x_hn x_hc, .int .i64 a.status, .int .i64 a.out] 31)).alloc (.cells #[.int .i64 b.P, .int .i64 b.party, .int .i64 b.input, .int .i64 b.mask, .int .i64 b.delta, .slice y_sa y_sn y_sc, .slice y_ka y_kn y_kc, .int .i64 b.step, .slice y_ha y_hn y_hc, .int .i64 b.status, .int .i64 b.out] 31)).heap.size := by first | (simp; done) | (simp; omega) | (simp [World.setCell]; done) | (simp [World.setCell]; omega)
  generalize ((w.alloc (.cells #[.int .i64 a.P, .int .i64 a.party, .int .i64 a.input, .int .i64 a.mask, .int .i64 a.delta, .slice x_sa x_sn x_sc, .slice x_ka x_kn x_kc, .int .i64 a.step, .slice x_ha x_hn x_hc, .int .i64 a.status, .int .i64 a.out] 31)).alloc (.cells #[.int .i64 b.P, .int .i64 b.party, .int .i64 b.input, .int .i64 b.mask, .int .i64 b.delta, .slice y_sa y_sn y_sc, .slice y_ka y_kn y_kc, .int .i64 b.step, .slice y_ha y_hn y_hc, .int .i64 b.status, .int .i64 b.out] 31)) = w1' at *
  clear V_w1'_1
  have V_w1' : Below w.heap.size w w1' := V_w1'_2
  clear V_w1'_2
  refine (CT.out _ (LA.out.below V_w1') (LB.out.below V_w1') (LX.out.below V_w1')).mono ?_
  rintro e w2' ⟨rfl, u_w2'⟩
  replace B_a := B_a.below u_w2'
  replace B_b := B_b.below u_w2'
  have S_w2' := u_w2'.size
  have V_w2' : Below w.heap.size w w2' := V_w1'.trans (u_w2'.mono V_w1'.size)
  clear V_w1'
  clear u_w2'
  cases b0
  · go_wp2
    go_ret2
    exact ⟨_, _, _, rfl, Own.nil0 _ _ _, V_w2'⟩
  obtain ⟨ga, gb, gp, gx⟩ := FT.out (by first | rfl | trivial)
  clear gx
  have pa := plB_parts ga
  have pb := plB_parts gb
  have HR : Hid (∀ i, i < 5 → (0 ≤ a.shares.getD (i * 2) 0 ∧ a.shares.getD (i * 2) 0 ≤ a.P - 1) ∧ (0 ≤ b.shares.getD (i * 2) 0 ∧ b.shares.getD (i * 2) 0 ≤ a.P - 1)) := Lib.hid (fun i hi => ⟨(tagAt_parts (pa.2.2.2.2.2.2.2.2.2.2.1 i hi)).1, by have := (tagAt_parts (pb.2.2.2.2.2.2.2.2.2.2.1 i hi)).1; omega⟩)
  have hla : a.shares.length = 10 := pa.2.2.2.2.2.2.2.1
  have hlb : b.shares.length = 10 := pb.2.2.2.2.2.2.2.1
  obtain ⟨p1, p2⟩ := isPr_range pa.1
  obtain ⟨FA, _⟩ := LA.out
  obtain ⟨FB, _⟩ := LB.out
  dsimp only at FA FB
  have sa := FA.len
  have sb := FB.len
  have NA : Hid (x_sn = 5) := Lib.hid (by omega)
  have NB : Hid (x_sn = y_sn) := Lib.hid (by omega)
  have xle : x_sn ≤ 5 := by omega
  have yle : x_sn ≤ y_sn := by omega
  have hyle := FB.le
  have hp : 1 ≤ a.P := by omega
  clear pa pb ga gb gp hla hlb sa sb FT CT LX p1
  have e9 : (w2'.alloc (.cells #[] 3)).cell? ⟨w.heap.size, 5, none⟩ = some (.slice x_sa x_sn x_sc) := keepA _ (B_a.cell 5)
  go_wp2
  have V_w3'_1 : Below w.heap.size w (w2'.alloc (.cells #[] 3)) := (V_w2').alloc (by have := (V_w2').size; first | exact this | (simp at *; omega)) _
  replace B_a := B_a.alloc (.cells #[] 3)
  replace B_b := B_b.alloc (.cells #[] 3)
  have B_z : Blk (w2'.alloc (.cells #[] 3)) (w2'.heap.size) 3 #[] := by exact Blk.new w2' 3 #[]
  have S_w3' : w2'.heap.size + 1 ≤ (w2'.alloc (.cells #[] 3)).heap.size := by first | (simp; done) | (simp; omega) | (simp [World.setCell]; done) | (simp [World.setCell]; omega)
  generalize (w2'.alloc (.cells #[] 3)) = w3' at *
  have V_w3' : Below w.heap.size w w3' := V_w3'_1
  clear V_w2'
  clear V_w3'_1
  clear B_z
  clear e9
  go_loopw [16, 6] (fun v u wr => ∃ k : Nat, k ≤ x_sn ∧ v = .int .i64 k ∧ Below w3'.heap.size w3' wr ∧ ∃ c d, u = .slice c k d ∧ Own wr w3'.heap.size c k d (dvL a b k)) (fun v _ _ => x_sn - (intOf v).toNat)
  case atStart => exact ⟨0, Nat.zero_le _, rfl, Below.refl _ _, _, _, rfl, Own.nil0 _ _ _⟩
  case round =>
    obtain ⟨k, hkn, rfl, hbel, c5, d5, rfl, own⟩ := hrel
    have hbs := V_w3'.size
    have kw1 : w.heap.size + 1 < w3'.heap.size := by omega
    have kw0 : w.heap.size < w3'.heap.size := by omega

    have B_a := B_a.below hbel
    have B_b := B_b.below hbel
    have V_wr := V_w3'.trans (hbel.mono V_w3'.size)
    have S_wr := hbel.size
    by_cases hlt : k < x_sn
    · have HX : Hid (dvL a b (k + 1) = dvL a b k ++ [(a.shares.getD (k * 2) 0 + b.shares.getD (k * 2) 0) % a.P]) := Lib.hid (dvL_succ a b k)
      obtain ⟨r1, r2⟩ := HR.out k (by omega)
      have hlt1 : (k : Int) < (x_sn : Int) := by omega
      have hlt2 : (k : Int) < (y_sn : Int) := by omega
      have e_a_0 : wr.cell? ⟨w.heap.size, 0, none⟩ = some (.int .i64 a.P) := B_a.cell 0
      have e_a_5 : wr.cell? ⟨w.heap.size, 5, none⟩ = some (.slice x_sa x_sn x_sc) := B_a.cell 5
      have e_b_5 : wr.cell? ⟨w.heap.size + 1, 5, none⟩ = some (.slice y_sa y_sn y_sc) := B_b.cell 5
      obtain ⟨g1, o1, hx1, hc1⟩ := (FA.below V_wr).at (by omega)
      obtain ⟨g2, o2, hx2, hc2⟩ := (FB.below V_wr).at (by omega)
      have k1 : g1 < w.heap.size := by
        obtain ⟨g', o', hx', hc'⟩ := FA.at (by omega)
        rw [hx'] at hx1
        cases hx1
        exact World.block_lt_of_cell? w _ (hc' 0 (by omega))
      have k2 : g2 < w.heap.size := by
        obtain ⟨g', o', hx', hc'⟩ := FB.at (by omega)
        rw [hx'] at hx2
        cases hx2
        exact World.block_lt_of_cell? w _ (hc' 0 (by omega))
      replace k1 := Nat.lt_trans k1 kw0
      replace k2 := Nat.lt_trans k2 kw0
      subst hx1 hx2
      have e1 : wr.cell? ⟨g1, o1 + k * 2, none⟩ = some (.int .i64 (a.shares.getD (k * 2) 0)) := hc1 _ (by omega)
      have e2 : wr.cell? ⟨g2, o2 + k * 2, none⟩ = some (.int .i64 (b.shares.getD (k * 2) 0)) := hc2 _ (by omega)
      clear hc1 hc2
      generalize a.shares.getD (k * 2) 0 = x1 at *
      generalize b.shares.getD (k * 2) 0 = x2 at *
      have t1 : IntKind.i64.wrap (x1 + x2) = x1 + x2 := IntWalk.i64_in _ (by omega)
      go_wp2
      go_region_held3 (fun W => W.cell? ⟨w.heap.size, 0, none⟩ = some (.int .i64 a.P) ∧ W.cell? ⟨w.heap.size, 5, none⟩ = some (.slice (some ⟨g1, o1, none⟩) x_sn x_sc) ∧ W.cell? ⟨w.heap.size + 1, 5, none⟩ = some (.slice (some ⟨g2, o2, none⟩) y_sn y_sc) ∧ W.cell? ⟨g1, o1 + k * 2, none⟩ = some (.int .i64 x1) ∧ W.cell? ⟨g2, o2 + k * 2, none⟩ = some (.int .i64 x2))
        (first | exact ⟨keepLow u6 kw0 (keepA _ e_a_0), keepLow u6 kw0 (keepA _ e_a_5), keepLow u6 kw1 (keepA _ e_b_5), keepLow u6 k1 (keepA _ e1), keepLow u6 k2 (keepA _ e2)⟩ | exact ⟨keepA _ e_a_0, keepA _ e_a_5, keepA _ e_b_5, keepA _ e1, keepA _ e2⟩ | go_keep)
        (first | (go_at_call 69; refine (mod_same _ _ _ hp (by omega)).mono ?_; rintro e w' ⟨rfl, rfl⟩) | (refine step_appI _ (by rfl) _ _ (by rfl) w3'.heap.size c5 k d5 (dvL a b k) (by rfl) (own.alloc _).drew _ 1 1 [(x1 + x2) % a.P] (by rfl) (Ints.lit1 _ _ _).drew (by omega) (by have := hbel.size; simp; omega) ?_; intro a6 c6 w5 o6 u6 g6 hold6))
      rw [← HX.out] at o6
      have b3 := (hbel.drew.alloc (by have := hbel.size; simp; omega) _).trans u6
      clear u6 hbel own e1 e2 g6 hold6 t1
      clear e_a_0 e_a_5 e_b_5
      go_wp2
      go_roundw
      case rel => exact ⟨k + 1, by omega, by go_num, b3, a6, c6, rfl, o6⟩
      case measure => simp [intOf]; omega
    · obtain rfl : x_sn = k := by omega
      go_wp2
      go_ret2
      exact ⟨_, _, _, rfl, by rw [← NA.out]; exact own.lower (by have := hbs; omega), V_wr⟩

set_option maxHeartbeats 8000000 in
set_option maxRecDepth 100000 in
theorem spec_DealtValues_any (a : Pl) (x : PlX) (b : Pl) (y : PlX) (w : World) (h : PlR w x a.shares a.keys a.heard) (k : PlR w y b.shares b.keys b.heard) (hT : Tbl w) :
    Calls Tryd.prog 20 #[.agg #[.int .i64 a.P, .int .i64 a.party, .int .i64 a.input, .int .i64 a.mask, .int .i64 a.delta, .slice x.sa x.sn x.sc, .slice x.ka x.kn x.kc, .int .i64 a.step, .slice x.ha x.hn x.hc, .int .i64 a.status, .int .i64 a.out], .agg #[.int .i64 b.P, .int .i64 b.party, .int .i64 b.input, .int .i64 b.mask, .int .i64 b.delta, .slice y.sa y.sn y.sc, .slice y.ka y.kn y.kc, .int .i64 b.step, .slice y.ha y.hn y.hc, .int .i64 b.status, .int .i64 b.out]] w fun e w' => ∃ c n d, e = .returned (.tuple #[.slice c n d, .bool (twoB a b)]) ∧ Own w' w.heap.size c n d (dvR a b) ∧ Below w.heap.size w w' := by
  have CT := fun (W : World) (h2 : PlR W x a.shares a.keys a.heard) (k2 : PlR W y b.shares b.keys b.heard) (hT2 : Tbl W) => ptBoth_any a x b y W h2 k2 hT2
  have FT := fun (H : twoB a b = true) => (twoB_parts H)
  unfold dvR
  generalize twoB a b = b0 at *
  obtain ⟨x_sa, x_sn, x_sc, x_ka, x_kn, x_kc, x_ha, x_hn, x_hc⟩ := x
  obtain ⟨y_sa, y_sn, y_sc, y_ka, y_kn, y_kc, y_ha, y_hn, y_hc⟩ := y
  dsimp only at *
  replace CT := Lib.hid CT
  replace FT := Lib.hid FT
  have LX := Lib.hid hT
  have LA := Lib.hid h
  have LB := Lib.hid k
  clear hT h k

  go_enter Tryd.func20, Tryd.ntmps20
  go_wp2_with fail
  have V_w1'_1 : Below w.heap.size w (w.alloc (.cells #[.int .i64 a.P, .int .i64 a.party, .int .i64 a.input, .int .i64 a.mask, .int .i64 a.delta, .slice x_sa x_sn x_sc, .slice x_ka x_kn x_kc, .int .i64 a.step, .slice x_ha x_hn x_hc, .int .i64 a.status, .int .i64 a.out] 31)) := ((Below.refl w.heap.size w)).alloc (by have := ((Below.refl w.heap.size w)).size; first | exact this | (simp at *; omega)) _
  have B_a : Blk (w.alloc (.cells #[.int .i64 a.P, .int .i64 a.party, .int .i64 a.input, .int .i64 a.mask, .int .i64 a.delta, .slice x_sa x_sn x_sc, .slice x_ka x_kn x_kc, .int .i64 a.step, .slice x_ha x_hn x_hc, .int .i64 a.status, .int .i64 a.out] 31)) (w.heap.size) 31 #[.int .i64 a.P, .int .i64 a.party, .int .i64 a.input, .int .i64 a.mask, .int .i64 a.delta, .slice x_sa x_sn x_sc, .slice x_ka x_kn x_kc, .int .i64 a.step, .slice x_ha x_hn x_hc, .int .i64 a.status, .int .i64 a.out] := by exact Blk.new w 31 #[.int .i64 a.P, .int .i64 a.party, .int .i64 a.input, .int .i64 a.mask, .int .i64 a.delta, .slice x_sa x_sn x_sc, .slice x_ka x_kn x_kc, .int .i64 a.step, .slice x_ha x_hn x_hc, .int .i64 a.status, .int .i64 a.out]
  have V_w1'_2 : Below w.heap.size w ((w.alloc (.cells #[.int .i64 a.P, .int .i64 a.party, .int .i64 a.input, .int .i64 a.mask, .int .i64 a.delta, .slice x_sa x_sn x_sc, .slice x_ka x_kn x_kc, .int .i64 a.step, .slice x_ha x_hn x_hc, .int .i64 a.status, .int .i64 a.out] 31)).alloc (.cells #[.int .i64 b.P, .int .i64 b.party, .int .i64 b.input, .int .i64 b.mask, .int .i64 b.delta, .slice y_sa y_sn y_sc, .slice y_ka y_kn y_kc, .int .i64 b.step, .slice y_ha y_hn y_hc, .int .i64 b.status, .int .i64 b.out] 31)) := (V_w1'_1).alloc (by have := (V_w1'_1).size; first | exact this | (simp at *; omega)) _
  replace B_a := B_a.alloc (.cells #[.int .i64 b.P, .int .i64 b.party, .int .i64 b.input, .int .i64 b.mask, .int .i64 b.delta, .slice y_sa y_sn y_sc, .slice y_ka y_kn y_kc, .int .i64 b.step, .slice y_ha y_hn y_hc, .int .i64 b.status, .int .i64 b.out] 31)
  have B_b : Blk ((w.alloc (.cells #[.int .i64 a.P, .int .i64 a.party, .int .i64 a.input, .int .i64 a.mask, .int .i64 a.delta, .slice x_sa x_sn x_sc, .slice x_ka x_kn x_kc, .int .i64 a.step, .slice x_ha x_hn x_hc, .int .i64 a.status, .int .i64 a.out] 31)).alloc (.cells #[.int .i64 b.P, .int .i64 b.party, .int .i64 b.input, .int .i64 b.mask, .int .i64 b.delta, .slice y_sa y_sn y_sc, .slice y_ka y_kn y_kc, .int .i64 b.step, .slice y_ha y_hn y_hc, .int .i64 b.status, .int .i64 b.out] 31)) (w.heap.size + 1) 31 #[.int .i64 b.P, .int .i64 b.party, .int .i64 b.input, .int .i64 b.mask, .int .i64 b.delta, .slice y_sa y_sn y_sc, .slice y_ka y_kn y_kc, .int .i64 b.step, .slice y_ha y_hn y_hc, .int .i64 b.status, .int .i64 b.out] := by simpa [World.setCell] using (Blk.new (w.alloc (.cells #[.int .i64 a.P, .int .i64 a.party, .int .i64 a.input, .int .i64 a.mask, .int .i64 a.delta, .slice x_sa x_sn x_sc, .slice x_ka x_kn x_kc, .int .i64 a.step, .slice x_ha x_hn x_hc, .int .i64 a.status, .int .i64 a.out] 31)) 31 #[.int .i64 b.P, .int .i64 b.party, .int .i64 b.input, .int .i64 b.mask, .int .i64 b.delta, .slice y_sa y_sn y_sc, .slice y_ka y_kn y_kc, .int .i64 b.step, .slice y_ha y_hn y_hc, .int .i64 b.status, .int .i64 b.out])
  have S_w1' : w.heap.size + 2 ≤ ((w.alloc (.cells #[.int .i64 a.P, .int .i64 a.party, .int .i64 a.input, .int .i64 a.mask, .int .i64 a.delta, .slice x_sa x_sn x_sc, .slice x_ka x_kn x_kc, .int .i64 a.step, .slice x_ha x_hn x_hc, .int .i64 a.status, .int .i64 a.out] 31)).alloc (.cells #[.int .i64 b.P, .int .i64 b.party, .int .i64 b.input, .int .i64 b.mask, .int .i64 b.delta, .slice y_sa y_sn y_sc, .slice y_ka y_kn y_kc, .int .i64 b.step, .slice y_ha y_hn y_hc, .int .i64 b.status, .int .i64 b.out] 31)).heap.size := by first | (simp; done) | (simp; omega) | (simp [World.setCell]; done) | (simp [World.setCell]; omega)
  generalize ((w.alloc (.cells #[.int .i64 a.P, .int .i64 a.party, .int .i64 a.input, .int .i64 a.mask, .int .i64 a.delta, .slice x_sa x_sn x_sc, .slice x_ka x_kn x_kc, .int .i64 a.step, .slice x_ha x_hn x_hc, .int .i64 a.status, .int .i64 a.out] 31)).alloc (.cells #[.int .i64 b.P, .int .i64 b.party, .int .i64 b.input, .int .i64 b.mask, .int .i64 b.delta, .slice y_sa y_sn y_sc, .slice y_ka y_kn y_kc, .int .i64 b.step, .slice y_ha y_hn y_hc, .int .i64 b.status, .int .i64 b.out] 31)) = w1' at *
  clear V_w1'_1
  have V_w1' : Below w.heap.size w w1' := V_w1'_2
  clear V_w1'_2
  refine (CT.out _ (LA.out.below V_w1') (LB.out.below V_w1') (LX.out.below V_w1')).mono ?_
  rintro e w2' ⟨rfl, u_w2'⟩
  replace B_a := B_a.below u_w2'
  replace B_b := B_b.below u_w2'
  have S_w2' := u_w2'.size
  have V_w2' : Below w.heap.size w w2' := V_w1'.trans (u_w2'.mono V_w1'.size)
  clear V_w1'
  clear u_w2'
  cases b0
  · go_wp2
    go_ret2
    exact ⟨_, _, _, rfl, Own.nil0 _ _ _, V_w2'⟩
  obtain ⟨ga, gb, gp, gx⟩ := FT.out (by first | rfl | trivial)
  clear gx
  have pa := plB_parts ga
  have pb := plB_parts gb
  have HR : Hid (∀ i, i < 5 → (0 ≤ a.shares.getD (i * 2) 0 ∧ a.shares.getD (i * 2) 0 ≤ a.P - 1) ∧ (0 ≤ b.shares.getD (i * 2) 0 ∧ b.shares.getD (i * 2) 0 ≤ a.P - 1)) := Lib.hid (fun i hi => ⟨(tagAt_parts (pa.2.2.2.2.2.2.2.2.2.2.1 i hi)).1, by have := (tagAt_parts (pb.2.2.2.2.2.2.2.2.2.2.1 i hi)).1; omega⟩)
  have hla : a.shares.length = 10 := pa.2.2.2.2.2.2.2.1
  have hlb : b.shares.length = 10 := pb.2.2.2.2.2.2.2.1
  obtain ⟨p1, p2⟩ := isPr_range pa.1
  obtain ⟨FA, _⟩ := LA.out
  obtain ⟨FB, _⟩ := LB.out
  dsimp only at FA FB
  have sa := FA.len
  have sb := FB.len
  have NA : Hid (x_sn = 5) := Lib.hid (by omega)
  have NB : Hid (x_sn = y_sn) := Lib.hid (by omega)
  have xle : x_sn ≤ 5 := by omega
  have yle : x_sn ≤ y_sn := by omega
  have hyle := FB.le
  have hp : 1 ≤ a.P := by omega
  clear pa pb ga gb gp hla hlb sa sb FT CT LX p1
  have e_a_0 : w2'.cell? ⟨w.heap.size, 0, none⟩ = some (.int .i64 a.P) := B_a.cell 0
  have e_a_1 : w2'.cell? ⟨w.heap.size, 1, none⟩ = some (.int .i64 a.party) := B_a.cell 1
  have e_a_2 : w2'.cell? ⟨w.heap.size, 2, none⟩ = some (.int .i64 a.input) := B_a.cell 2
  have e_a_3 : w2'.cell? ⟨w.heap.size, 3, none⟩ = some (.int .i64 a.mask) := B_a.cell 3
  have e_a_4 : w2'.cell? ⟨w.heap.size, 4, none⟩ = some (.int .i64 a.delta) := B_a.cell 4
  have e_a_5 : w2'.cell? ⟨w.heap.size, 5, none⟩ = some (.slice x_sa x_sn x_sc) := B_a.cell 5
  have e_a_6 : w2'.cell? ⟨w.heap.size, 6, none⟩ = some (.slice x_ka x_kn x_kc) := B_a.cell 6
  have e_a_7 : w2'.cell? ⟨w.heap.size, 7, none⟩ = some (.int .i64 a.step) := B_a.cell 7
  have e_a_8 : w2'.cell? ⟨w.heap.size, 8, none⟩ = some (.slice x_ha x_hn x_hc) := B_a.cell 8
  have e_a_9 : w2'.cell? ⟨w.heap.size, 9, none⟩ = some (.int .i64 a.status) := B_a.cell 9
  have e_a_10 : w2'.cell? ⟨w.heap.size, 10, none⟩ = some (.int .i64 a.out) := B_a.cell 10
  have e_b_0 : w2'.cell? ⟨w.heap.size + 1, 0, none⟩ = some (.int .i64 b.P) := B_b.cell 0
  have e_b_1 : w2'.cell? ⟨w.heap.size + 1, 1, none⟩ = some (.int .i64 b.party) := B_b.cell 1
  have e_b_2 : w2'.cell? ⟨w.heap.size + 1, 2, none⟩ = some (.int .i64 b.input) := B_b.cell 2
  have e_b_3 : w2'.cell? ⟨w.heap.size + 1, 3, none⟩ = some (.int .i64 b.mask) := B_b.cell 3
  have e_b_4 : w2'.cell? ⟨w.heap.size + 1, 4, none⟩ = some (.int .i64 b.delta) := B_b.cell 4
  have e_b_5 : w2'.cell? ⟨w.heap.size + 1, 5, none⟩ = some (.slice y_sa y_sn y_sc) := B_b.cell 5
  have e_b_6 : w2'.cell? ⟨w.heap.size + 1, 6, none⟩ = some (.slice y_ka y_kn y_kc) := B_b.cell 6
  have e_b_7 : w2'.cell? ⟨w.heap.size + 1, 7, none⟩ = some (.int .i64 b.step) := B_b.cell 7
  have e_b_8 : w2'.cell? ⟨w.heap.size + 1, 8, none⟩ = some (.slice y_ha y_hn y_hc) := B_b.cell 8
  have e_b_9 : w2'.cell? ⟨w.heap.size + 1, 9, none⟩ = some (.int .i64 b.status) := B_b.cell 9
  have e_b_10 : w2'.cell? ⟨w.heap.size + 1, 10, none⟩ = some (.int .i64 b.out) := B_b.cell 10
  go_wp2
  clear e_a_0 e_a_1 e_a_2 e_a_3 e_a_4 e_a_5 e_a_6 e_a_7 e_a_8 e_a_9 e_a_10 e_b_0 e_b_1 e_b_2 e_b_3 e_b_4 e_b_5 e_b_6 e_b_7 e_b_8 e_b_9 e_b_10
  go_loopw [16, 6] (fun v u wr => ∃ k : Nat, k ≤ x_sn ∧ v = .int .i64 k ∧ Below w2'.heap.size w2' wr ∧ ∃ c d, u = .slice c k d ∧ Own wr w2'.heap.size c k d (dvL a b k)) (fun v _ _ => x_sn - (intOf v).toNat)
  case atStart => exact ⟨0, Nat.zero_le _, rfl, Below.refl _ _, _, _, rfl, Own.nil0 _ _ _⟩
  case round =>
    obtain ⟨k, hkn, rfl, hbel, c5, d5, rfl, own⟩ := hrel
    have hbs := V_w2'.size
    have kw1 : w.heap.size + 1 < w2'.heap.size := by omega
    have kw0 : w.heap.size < w2'.heap.size := by omega

    have B_a := B_a.below hbel
    have B_b := B_b.below hbel
    have V_wr := V_w2'.trans (hbel.mono V_w2'.size)
    have S_wr := hbel.size
    by_cases hlt : k < x_sn
    · have HX : Hid (dvL a b (k + 1) = dvL a b k ++ [(a.shares.getD (k * 2) 0 + b.shares.getD (k * 2) 0) % a.P]) := Lib.hid (dvL_succ a b k)
      obtain ⟨r1, r2⟩ := HR.out k (by omega)
      have hlt1 : (k : Int) < (x_sn : Int) := by omega
      have hlt2 : (k : Int) < (y_sn : Int) := by omega
      have e_a_0 : wr.cell? ⟨w.heap.size, 0, none⟩ = some (.int .i64 a.P) := B_a.cell 0
      have e_a_5 : wr.cell? ⟨w.heap.size, 5, none⟩ = some (.slice x_sa x_sn x_sc) := B_a.cell 5
      have e_b_5 : wr.cell? ⟨w.heap.size + 1, 5, none⟩ = some (.slice y_sa y_sn y_sc) := B_b.cell 5
      obtain ⟨g1, o1, hx1, hc1⟩ := (FA.below V_wr).at (by omega)
      obtain ⟨g2, o2, hx2, hc2⟩ := (FB.below V_wr).at (by omega)
      have k1 : g1 < w.heap.size := by
        obtain ⟨g', o', hx', hc'⟩ := FA.at (by omega)
        rw [hx'] at hx1
        cases hx1
        exact World.block_lt_of_cell? w _ (hc' 0 (by omega))
      have k2 : g2 < w.heap.size := by
        obtain ⟨g', o', hx', hc'⟩ := FB.at (by omega)
        rw [hx'] at hx2
        cases hx2
        exact World.block_lt_of_cell? w _ (hc' 0 (by omega))
      replace k1 := Nat.lt_trans k1 kw0
      replace k2 := Nat.lt_trans k2 kw0
      subst hx1 hx2
      have e1 : wr.cell? ⟨g1, o1 + k * 2, none⟩ = some (.int .i64 (a.shares.getD (k * 2) 0)) := hc1 _ (by omega)
      have e2 : wr.cell? ⟨g2, o2 + k * 2, none⟩ = some (.int .i64 (b.shares.getD (k * 2) 0)) := hc2 _ (by omega)
      have e3 : wr.cell? ⟨g1, o1 + k * 2 + 1, none⟩ = some (.int .i64 (a.shares.getD (k * 2 + 1) 0)) := by have := hc1 (k * 2 + 1) (by omega); simpa only [Nat.add_assoc] using this
      generalize a.shares.getD (k * 2 + 1) 0 = x3 at *
      clear hc1 hc2
      generalize a.shares.getD (k * 2) 0 = x1 at *
      generalize b.shares.getD (k * 2) 0 = x2 at *
      have t1 : IntKind.i64.wrap (x1 + x2) = x1 + x2 := IntWalk.i64_in _ (by omega)
      have t3 : (x1 + x2).tmod a.P = (x1 + x2) % a.P := Int.tmod_eq_emod_of_nonneg (by omega)
      have t4 : IntKind.i64.wrap ((x1 + x2) % a.P) = (x1 + x2) % a.P := IntWalk.i64_in _ (by have := Int.emod_nonneg (x1 + x2) (by omega : a.P ≠ 0); have := Int.emod_lt_of_pos (x1 + x2) (by omega : 0 < a.P); omega)
      have t7 : (a.P == 0) = false := by simp; omega
      have t8 : (a.P = 0) = False := by simp; omega
      have q1 : (wr.alloc (.cells #[.int .i64 x1, .int .i64 x3] 81)).cell? ⟨w.heap.size, 0, none⟩ = some (.int .i64 a.P) := keepA _ e_a_0
      have q2 : (wr.alloc (.cells #[.int .i64 x1, .int .i64 x3] 81)).cell? ⟨w.heap.size + 1, 5, none⟩ = some (.slice (some ⟨g2, o2, none⟩) y_sn y_sc) := keepA _ e_b_5
      have q3 : (wr.alloc (.cells #[.int .i64 x1, .int .i64 x3] 81)).cell? ⟨g2, o2 + k * 2, none⟩ = some (.int .i64 x2) := keepA _ e2
      have q4 : (wr.alloc (.cells #[.int .i64 x1, .int .i64 x3] 81)).cell? ⟨wr.heap.size, 0, none⟩ = some (.int .i64 x1) := (Blk.new wr 81 #[.int .i64 x1, .int .i64 x3]).cell 0
      have hbel2 := hbel.alloc hbel.size (.cells #[.int .i64 x1, .int .i64 x3] 81)
      have own2 := own.alloc (.cells #[.int .i64 x1, .int .i64 x3] 81)
      have hbs2 := hbel2.size
      have hwz : wr.heap.size + 1 = (wr.alloc (.cells #[.int .i64 x1, .int .i64 x3] 81)).heap.size := by simp
      have hnf : wr.heap.size ∉ foot c5 d5 := fun hm => by have := (own.feet _ hm).2; omega
      have HWZ : Hid ((wr.alloc (.cells #[.int .i64 x1, .int .i64 x3] 81)).cell? ⟨wr.heap.size, 1, none⟩ = some (.int .i64 x3)) := Lib.hid ((Blk.new wr 81 #[.int .i64 x1, .int .i64 x3]).cell 1)
      go_wp2
      generalize wr.alloc (.cells #[.int .i64 x1, .int .i64 x3] 81) = wz at *
      generalize wr.heap.size = wrs at *
      go_region_held3 (fun W => W.cell? ⟨w.heap.size, 0, none⟩ = some (.int .i64 a.P) ∧ W.cell? ⟨w.heap.size + 1, 5, none⟩ = some (.slice (some ⟨g2, o2, none⟩) y_sn y_sc) ∧ W.cell? ⟨g2, o2 + k * 2, none⟩ = some (.int .i64 x2) ∧ W.cell? ⟨wrs, 0, none⟩ = some (.int .i64 x1))
        (first | exact ⟨keepLow u6 kw0 (keepA _ q1), keepLow u6 kw1 (keepA _ q2), keepLow u6 k2 (keepA _ q3), keepGr g6 hnf (keepA _ q4)⟩ | exact ⟨keepA _ q1, keepA _ q2, keepA _ q3, keepA _ q4⟩ | go_keep)
        (first | (refine step_appI _ (by rfl) _ _ (by rfl) w2'.heap.size c5 k d5 (dvL a b k) (by rfl) (own2.alloc _).drew _ 1 1 [(x1 + x2) % a.P] (by rfl) (Ints.lit1 _ _ _).drew (by omega) (by have := hbel2.size; simp; omega) ?_; intro a6 c6 w5 o6 u6 g6 hold6))
      rw [← HX.out] at o6
      have b3 := (hbel2.drew.alloc (by have := hbel2.size; simp; omega) _).trans u6
      clear u6 hbel2 own2 hbel own e1 e2 e3 q1 q2 q3 q4 g6 hold6 t1 HWZ hnf
      clear e_a_0 e_a_5 e_b_5
      go_wp2
      go_roundw
      case rel => exact ⟨k + 1, by omega, by go_num, b3, a6, c6, rfl, o6⟩
      case measure => simp [intOf]; omega
    · obtain rfl : x_sn = k := by omega
      go_wp2
      go_ret2
      exact ⟨_, _, _, rfl, by rw [← NA.out]; exact own.lower (by have := hbs; omega), V_wr⟩

end Go.Proofs.YtlmdckcohoddnaaDoor
