/- The product of two pairs with a triple that is handed in. -/
import Derived.Test.YthpcmbdkboajcaaTriple
import Derived.Test.YthpcmbdkboajcaaBits
namespace Go.Proofs.Ythpcmbdkboajcaa
open Go.RowKit

theorem Ints.pre {w g o n c l} (h : Ints w (some ⟨g, o, none⟩) n c l) (j : Nat) (hj : j ≤ n) : Ints w (some ⟨g, o, none⟩) j c (l.take j) := by
  have hl := h.len
  have hc := h.cellsAt
  obtain ⟨_, h2, h3, h4, _⟩ := h
  exact ⟨by simp; omega, by omega, h3, h4, g, o, fun _ => rfl, fun i hi => by
    rw [hc i (by omega)]; simp [List.getD_eq_getElem?_getD, hi]⟩
/-- What a triple misses. -/
def fitN (p l0 l1 l2 l3 l4 l5 : Int) : Int := ((l0 + l3) * (l1 + l4) - l2 - l5) % p
def fitB (p l0 l1 l2 l3 l4 l5 : Int) : Bool := fitN p l0 l1 l2 l3 l4 l5 == 0
def fitsB (p : Int) (l : List Int) : Bool := fitB p (l.getD 0 0) (l.getD 1 0) (l.getD 2 0) (l.getD 3 0) (l.getD 4 0) (l.getD 5 0)
theorem fit_eq (X b c p : Int) : ((X % p == (b + c) % p) : Bool) = ((X - b - c) % p == 0) := by
  rw [Bool.eq_iff_iff]
  simp only [beq_iff_eq]
  rw [Int.emod_eq_emod_iff_emod_sub_eq_zero, show X - (b + c) = X - b - c by omega]
theorem sixB_true {p : Int} {l : List Int} (h : sixB p l = true) : ∃ t0 t1 t2 t3 t4 t5, l = [t0, t1, t2, t3, t4, t5] ∧ (0 ≤ t0 ∧ t0 ≤ p - 1) ∧ (0 ≤ t1 ∧ t1 ≤ p - 1) ∧ (0 ≤ t2 ∧ t2 ≤ p - 1) ∧ (0 ≤ t3 ∧ t3 ≤ p - 1) ∧ (0 ≤ t4 ∧ t4 ≤ p - 1) ∧ (0 ≤ t5 ∧ t5 ≤ p - 1) ∧ isPr p = true := by
  simp only [sixB, Bool.and_eq_true, decide_eq_true_eq] at h
  obtain ⟨h1, h2⟩ := h
  obtain ⟨h3, _, _, h4⟩ := elsB_true h1
  rw [allB_iff] at h4
  match l, h2, h4 with
  | [a, b, c, d, e, f], _, h4 => exact ⟨a, b, c, d, e, f, rfl, h4 a (by simp), h4 b (by simp), h4 c (by simp), h4 d (by simp), h4 e (by simp), h4 f (by simp), h3⟩
theorem six_cells {w a n c t0 t1 t2 t3 t4 t5} (h : Ints w a n c [t0, t1, t2, t3, t4, t5]) : ∃ g o, a = some ⟨g, o, none⟩ ∧ w.cell? ⟨g, o, none⟩ = some (.int .i64 t0) ∧ w.cell? ⟨g, o + 1, none⟩ = some (.int .i64 t1) ∧ w.cell? ⟨g, o + 2, none⟩ = some (.int .i64 t2) ∧
    w.cell? ⟨g, o + 3, none⟩ = some (.int .i64 t3) ∧ w.cell? ⟨g, o + 4, none⟩ = some (.int .i64 t4) ∧ w.cell? ⟨g, o + 5, none⟩ = some (.int .i64 t5) := by
  have hn := h.len
  simp at hn
  obtain ⟨g, o, rfl, hc⟩ := h.cells (by omega)
  exact ⟨g, o, rfl, hc 0 (by omega), hc 1 (by omega), hc 2 (by omega), hc 3 (by omega), hc 4 (by omega), hc 5 (by omega)⟩
theorem two_cells {w a n c x y} (h : Ints w a n c [x, y]) : ∃ g o, a = some ⟨g, o, none⟩ ∧ w.cell? ⟨g, o, none⟩ = some (.int .i64 x) ∧ w.cell? ⟨g, o + 1, none⟩ = some (.int .i64 y) := by
  have hn := h.len
  simp at hn
  obtain ⟨g, o, rfl, hc⟩ := h.cells (by omega)
  exact ⟨g, o, rfl, hc 0 (by omega), hc 1 (by omega)⟩
set_option maxHeartbeats 4000000 in
set_option maxRecDepth 100000 in
theorem TripleFits_any (p : Int) (a : Option Addr) (n c : Nat) (l : List Int) (w : World) (h : Ints w a n c l) :
    Calls Try.prog 14 #[.int .i64 p, .slice a n c] w fun e w' => e = .returned (.tuple #[.bool (sixB p l && fitsB p l), .bool (sixB p l)]) ∧ Below w.heap.size w w' := by
  cases h1 : sixB p l
  · simp only [Bool.false_and]
    go_enter Try.func14, Try.ntmps14
    go_wp2_with fail
    refine (isSix_any _ _ _ _ l _ h).mono ?_; rintro e w2 ⟨rfl, u2⟩
    rw [h1]
    go_wp2
    go_ret2
    exact ⟨rfl, u2⟩
  · obtain ⟨t0, t1, t2, t3, t4, t5, rfl, r0, r1, r2, r3, r4, r5, hp⟩ := sixB_true h1
    obtain rfl : n = 6 := h.len
    obtain ⟨p1, p2⟩ := isPr_range hp
    simp only [Bool.true_and]
    have HF : Hid (fitsB p [t0, t1, t2, t3, t4, t5] = (((t0 + t3) * (t1 + t4) - t2 - t5) % p == 0)) := rfl
    obtain ⟨m0, m0'⟩ := mul_rng (a := t0 + t3) (b := t1 + t4) (by omega) (by omega) (by omega) (by omega)
    have w1 : IntKind.i64.wrap (t0 + t3) = t0 + t3 := IntWalk.i64_in _ (by omega)
    have w2 : IntKind.i64.wrap (t1 + t4) = t1 + t4 := IntWalk.i64_in _ (by omega)
    obtain ⟨X, hX⟩ : ∃ X, X = (t0 + t3) * (t1 + t4) := ⟨_, rfl⟩
    rw [← hX] at m0 m0' HF
    have w3 : IntKind.i64.wrap ((t0 + t3) * (t1 + t4)) = X := by rw [← hX]; exact IntWalk.i64_in _ (by omega)
    clear hX
    have w4 : IntKind.i64.wrap (X - t2) = X - t2 := IntWalk.i64_in _ (by omega)
    have w5 : IntKind.i64.wrap (X - t2 - t5) = X - t2 - t5 := IntWalk.i64_in _ (by omega)
    clear r0 r1 r2 r3 r4 r5 m0 m0'
    go_enter Try.func14, Try.ntmps14
    go_wp2_with fail
    refine (isSix_any _ _ _ _ _ _ h).mono ?_; rintro e w6 ⟨rfl, u2⟩
    rw [h1]
    obtain ⟨g, o, rfl, e0, e1, e2, e3, e4, e5⟩ := six_cells (h.below u2)
    go_wp2
    go_quiet ((go_at_call 59; exact Calls.quiet_of_same (mod_same _ _ _ (by omega) (by omega))))
    go_wp2
    go_ret2
    exact ⟨by rw [HF.out]; rfl, u2.trans (below_of_drewN _ |>.mono u2.size)⟩
set_option maxHeartbeats 4000000 in
set_option maxRecDepth 100000 in
theorem smFits_any (p : Int) (a : Option Addr) (n c : Nat) (t0 t1 t2 t3 t4 t5 : Int) (w : World) (h : Ints w a n c [t0, t1, t2, t3, t4, t5]) (hp : 1 ≤ p) (hp2 : p ≤ 500) (r0 : 0 ≤ t0 ∧ t0 ≤ p - 1) (r1 : 0 ≤ t1 ∧ t1 ≤ p - 1) (r2 : 0 ≤ t2 ∧ t2 ≤ p - 1) (r3 : 0 ≤ t3 ∧ t3 ≤ p - 1) (r4 : 0 ≤ t4 ∧ t4 ≤ p - 1) (r5 : 0 ≤ t5 ∧ t5 ≤ p - 1) :
    Calls Try.prog 47 #[.int .i64 p, .slice a n c] w fun e w' => e = .returned (.bool (fitsB p [t0, t1, t2, t3, t4, t5])) ∧ ∃ m, w' = w.drewN m := by
  obtain rfl : n = 6 := h.len
  have HF : Hid (fitsB p [t0, t1, t2, t3, t4, t5] = (((t0 + t3) * (t1 + t4)) % p == (t2 + t5) % p)) := Lib.hid (by rw [fit_eq]; rfl)
  obtain ⟨m0, m0'⟩ := mul_rng (a := t0 + t3) (b := t1 + t4) (by omega) (by omega) (by omega) (by omega)
  have w1 : IntKind.i64.wrap (t0 + t3) = t0 + t3 := IntWalk.i64_in _ (by omega)
  have w2 : IntKind.i64.wrap (t1 + t4) = t1 + t4 := IntWalk.i64_in _ (by omega)
  have w6 : IntKind.i64.wrap (t2 + t5) = t2 + t5 := IntWalk.i64_in _ (by omega)
  obtain ⟨X, hX⟩ : ∃ X, X = (t0 + t3) * (t1 + t4) := ⟨_, rfl⟩
  rw [← hX] at m0 m0' HF
  have w3 : IntKind.i64.wrap ((t0 + t3) * (t1 + t4)) = X := by rw [← hX]; exact IntWalk.i64_in _ (by omega)
  clear hX
  have w7 : X.tmod p = X % p := Int.tmod_eq_emod_of_nonneg m0
  have w8 : (t2 + t5).tmod p = (t2 + t5) % p := Int.tmod_eq_emod_of_nonneg (by omega)
  have w9 : IntKind.i64.wrap (X % p) = X % p := IntWalk.i64_in _ (by have := mod_rng X p hp; omega)
  have w10 : IntKind.i64.wrap ((t2 + t5) % p) = (t2 + t5) % p := IntWalk.i64_in _ (by have := mod_rng (t2 + t5) p hp; omega)
  have t7 : (p == 0) = false := by simp; omega
  have t8 : (p = 0) = False := by simp; omega
  clear r0 r1 r2 r3 r4 r5 m0 m0'
  obtain ⟨g, o, rfl, e0, e1, e2, e3, e4, e5⟩ := six_cells h
  go_enter Try.func47, Try.ntmps47
  go_wp2
  go_quiet (fail)
  go_wp2
  go_ret
  exact ⟨by rw [HF.out]; rfl, _, rfl⟩
theorem two_litsN {w0 w : World} {B : Nat} (x y u v : Int) (hB : B ≤ w.heap.size) (hb : Below B w0 w) :
    Own ((w.alloc (.cells #[.int .i64 x, .int .i64 y] 3)).alloc (.cells #[.int .i64 u, .int .i64 v] 3)) B (some ⟨w.heap.size, 0, none⟩) 2 2 [x, y] ∧
    Own ((w.alloc (.cells #[.int .i64 x, .int .i64 y] 3)).alloc (.cells #[.int .i64 u, .int .i64 v] 3)) B (some ⟨w.heap.size + 1, 0, none⟩) 2 2 [u, v] ∧
    Apart (some ⟨w.heap.size, 0, none⟩) 2 (some ⟨w.heap.size + 1, 0, none⟩) 2 ∧
    Below B w0 ((w.alloc (.cells #[.int .i64 x, .int .i64 y] 3)).alloc (.cells #[.int .i64 u, .int .i64 v] 3)) := by
  refine ⟨(Own.lit2 w B x y hB).alloc _, ?_, ?_, (hb.alloc hB _).alloc (by simp; omega) _⟩
  · have := Own.lit2 (w.alloc (.cells #[.int .i64 x, .int .i64 y] 3)) B u v (by simp; omega)
    simp only [World.size_alloc] at this
    exact this
  · intro p q _ _ hp hq
    cases hp; cases hq
    show w.heap.size ≠ w.heap.size + 1
    omega
set_option maxHeartbeats 4000000 in
set_option maxRecDepth 100000 in
theorem multiplyShared_any (p : Int) (a : Option Addr) (c : Nat) (t0 t1 t2 t3 t4 t5 : Int) (a1 : Option Addr) (c1 : Nat) (x0 x1 : Int) (a2 : Option Addr) (c2 : Nat) (y0 y1 : Int) (w : World) (h : Ints w a 6 c [t0, t1, t2, t3, t4, t5]) (hx : Ints w a1 2 c1 [x0, x1]) (hy : Ints w a2 2 c2 [y0, y1]) (hp : 1 ≤ p) (hp2 : p ≤ 1000)
    (r0 : 0 ≤ t0 ∧ t0 ≤ 1000) (r1 : 0 ≤ t1 ∧ t1 ≤ 1000) (r2 : 0 ≤ t2 ∧ t2 ≤ 1000) (r3 : 0 ≤ t3 ∧ t3 ≤ 1000) (r4 : 0 ≤ t4 ∧ t4 ≤ 1000) (r5 : 0 ≤ t5 ∧ t5 ≤ 1000) (s0 : 0 ≤ x0 ∧ x0 ≤ 1000) (s1 : 0 ≤ x1 ∧ x1 ≤ 1000) (q0 : 0 ≤ y0 ∧ y0 ≤ 1000) (q1 : 0 ≤ y1 ∧ y1 ≤ 1000) :
    Calls Try.prog 45 #[.int .i64 p, .slice a 6 c, .slice a1 2 c1, .slice a2 2 c2] w fun e w' => ∃ b d b' d', e = .returned (.tuple #[.slice b 2 d, .slice b' 2 d']) ∧
      Own w' w.heap.size b 2 d [shareI p 0 t0 t1 t2 ((x0 + x1 - t0 - t3) % p) ((y0 + y1 - t1 - t4) % p), shareI p 1 t3 t4 t5 ((x0 + x1 - t0 - t3) % p) ((y0 + y1 - t1 - t4) % p)] ∧
      Own w' w.heap.size b' 2 d' [(x0 + x1 - t0 - t3) % p, (y0 + y1 - t1 - t4) % p] ∧ Apart b d b' d' ∧ Below w.heap.size w w' := by
  have d0 := mod_rng (x0 + x1 - t0 - t3) p hp
  have d1 := mod_rng (y0 + y1 - t1 - t4) p hp
  have W1 : IntKind.i64.wrap (x0 + x1) = x0 + x1 := IntWalk.i64_in _ (by omega)
  have W2 : IntKind.i64.wrap (x0 + x1 - t0) = x0 + x1 - t0 := IntWalk.i64_in _ (by omega)
  have W3 : IntKind.i64.wrap (x0 + x1 - t0 - t3) = x0 + x1 - t0 - t3 := IntWalk.i64_in _ (by omega)
  have W4 : IntKind.i64.wrap (y0 + y1) = y0 + y1 := IntWalk.i64_in _ (by omega)
  have W5 : IntKind.i64.wrap (y0 + y1 - t1) = y0 + y1 - t1 := IntWalk.i64_in _ (by omega)
  have W6 : IntKind.i64.wrap (y0 + y1 - t1 - t4) = y0 + y1 - t1 - t4 := IntWalk.i64_in _ (by omega)
  generalize hD : (x0 + x1 - t0 - t3) % p = D at *
  generalize hE : (y0 + y1 - t1 - t4) % p = E at *
  have HD := Lib.hid hD
  have HE := Lib.hid hE
  clear hD hE
  have RD : 0 ≤ D ∧ D ≤ 1000 := by omega
  have RE : 0 ≤ E ∧ E ≤ 1000 := by omega
  clear d0 d1
  have hc6 : 6 ≤ c := h.2.1
  obtain ⟨g, o, rfl, _⟩ := six_cells h
  obtain ⟨gx, ox, rfl, _⟩ := two_cells hx
  obtain ⟨gy, oy, rfl, _⟩ := two_cells hy
  go_enter Try.func45, Try.ntmps45
  go_wp2
  go_quiet (fail)
  rename Nat => nq
  have v1 : Below w.heap.size w (w.drewN nq) := below_of_drewN nq
  have h1 := h.drewN nq
  have hx1 := hx.drewN nq
  have hy1 := hy.drewN nq
  clear h hx hy
  generalize w.drewN nq = w1 at *
  obtain ⟨_, _, E1, e0, e1, _, e3, e4, _⟩ := six_cells h1
  cases E1
  obtain ⟨_, _, E1, ex0, ex1⟩ := two_cells hx1
  cases E1
  obtain ⟨_, _, E1, ey0, ey1⟩ := two_cells hy1
  cases E1
  have hs : Ints w1 (some ⟨g, o, none⟩) 3 c [t0, t1, t2] := h1.pre 3 (by omega)
  have ht : Ints w1 (some ⟨g, o + 3, none⟩) 3 (c - 3) [t3, t4, t5] := h1.from 3 (by omega)
  go_wp2
  go_region_held3 (fun W => W.cell? ⟨g, o, none⟩ = some (.int .i64 t0) ∧ W.cell? ⟨g, o + 1, none⟩ = some (.int .i64 t1) ∧ W.cell? ⟨g, o + 3, none⟩ = some (.int .i64 t3) ∧ W.cell? ⟨g, o + 4, none⟩ = some (.int .i64 t4) ∧ W.cell? ⟨gx, ox, none⟩ = some (.int .i64 x0) ∧ W.cell? ⟨gx, ox + 1, none⟩ = some (.int .i64 x1) ∧ W.cell? ⟨gy, oy, none⟩ = some (.int .i64 y0) ∧ W.cell? ⟨gy, oy + 1, none⟩ = some (.int .i64 y1))
    (go_keep)
    (first | (go_at_call 59; refine (mod_same _ _ _ hp (by omega)).mono ?_; rintro e w' ⟨rfl, rfl⟩; (first | rw [HD.out] | rw [HE.out])))
  all_goals have v3 := v1.drew
  all_goals have p3 := hs.drew
  all_goals have p4 := ht.drew
  all_goals clear hs ht e0 e1 e3 e4 ex0 ex1 ey0 ey1 v1 h1 hx1 hy1
  all_goals generalize w1.drew = w3 at *
  all_goals go_wp2_with fail
  refine (productShare_any p 0 _ _ _ _ _ _ _ _ p3 hp hp2 r0 r1 r2 RD RE).mono ?_; rintro e w4 ⟨rfl, q⟩
  have u := below_of_quiet q
  have v4 := v3.trans (u.mono v3.size)
  have p5 := p4.below u
  clear q u p3 p4 v3
  go_wp2_with fail
  refine (productShare_any p 1 _ _ _ _ _ _ _ _ p5 hp hp2 r3 r4 r5 RD RE).mono ?_; rintro e w5 ⟨rfl, q⟩
  have u := below_of_quiet q
  have v5 := v4.trans (u.mono v4.size)
  clear q u p5 v4
  go_wp2
  go_ret2
  exact ⟨_, _, _, _, rfl, two_litsN _ _ _ _ v5.size v5⟩
set_option maxHeartbeats 4000000 in
set_option maxRecDepth 100000 in
theorem smTimes_any (p : Int) (a : Option Addr) (c : Nat) (t0 t1 t2 t3 t4 t5 x0 x1 y0 y1 : Int) (w : World) (h : Ints w a 6 c [t0, t1, t2, t3, t4, t5]) (hp : 1 ≤ p) (hp2 : p ≤ 1000)
    (r0 : 0 ≤ t0 ∧ t0 ≤ 1000) (r1 : 0 ≤ t1 ∧ t1 ≤ 1000) (r2 : 0 ≤ t2 ∧ t2 ≤ 1000) (r3 : 0 ≤ t3 ∧ t3 ≤ 1000) (r4 : 0 ≤ t4 ∧ t4 ≤ 1000) (r5 : 0 ≤ t5 ∧ t5 ≤ 1000) (s0 : 0 ≤ x0 ∧ x0 ≤ 1000) (s1 : 0 ≤ x1 ∧ x1 ≤ 1000) (q0 : 0 ≤ y0 ∧ y0 ≤ 1000) (q1 : 0 ≤ y1 ∧ y1 ≤ 1000) :
    Calls Try.prog 49 #[.int .i64 p, .slice a 6 c, .int .i64 x0, .int .i64 x1, .int .i64 y0, .int .i64 y1] w fun e w' => ∃ b d b' d', e = .returned (.tuple #[.slice b 2 d, .slice b' 2 d']) ∧
      Own w' w.heap.size b 2 d [shareI p 0 t0 t1 t2 ((x0 + x1 - t0 - t3) % p) ((y0 + y1 - t1 - t4) % p), shareI p 1 t3 t4 t5 ((x0 + x1 - t0 - t3) % p) ((y0 + y1 - t1 - t4) % p)] ∧
      Own w' w.heap.size b' 2 d' [(x0 + x1 - t0 - t3) % p, (y0 + y1 - t1 - t4) % p] ∧ Apart b d b' d' ∧ Below w.heap.size w w' := by
  have ed : x0 + x1 - t0 - t3 = x0 - t0 + x1 - t3 := by omega
  have ee : y0 + y1 - t1 - t4 = y0 - t1 + y1 - t4 := by omega
  rw [ed, ee]
  clear ed ee
  have d0 := mod_rng (x0 - t0 + x1 - t3) p hp
  have d1 := mod_rng (y0 - t1 + y1 - t4) p hp
  have W1 : IntKind.i64.wrap (x0 - t0) = x0 - t0 := IntWalk.i64_in _ (by omega)
  have W2 : IntKind.i64.wrap (x0 - t0 + x1) = x0 - t0 + x1 := IntWalk.i64_in _ (by omega)
  have W3 : IntKind.i64.wrap (x0 - t0 + x1 - t3) = x0 - t0 + x1 - t3 := IntWalk.i64_in _ (by omega)
  have W4 : IntKind.i64.wrap (y0 - t1) = y0 - t1 := IntWalk.i64_in _ (by omega)
  have W5 : IntKind.i64.wrap (y0 - t1 + y1) = y0 - t1 + y1 := IntWalk.i64_in _ (by omega)
  have W6 : IntKind.i64.wrap (y0 - t1 + y1 - t4) = y0 - t1 + y1 - t4 := IntWalk.i64_in _ (by omega)
  generalize hD : (x0 - t0 + x1 - t3) % p = D at *
  generalize hE : (y0 - t1 + y1 - t4) % p = E at *
  have HD := Lib.hid hD
  have HE := Lib.hid hE
  clear hD hE
  obtain ⟨m1, m1'⟩ := mul_rng (a := D) (b := t1) (by omega) (by omega) (by omega) (by omega)
  obtain ⟨m2, m2'⟩ := mul_rng (a := E) (b := t0) (by omega) (by omega) (by omega) (by omega)
  obtain ⟨m3, m3'⟩ := mul_rng (a := D) (b := E) (by omega) (by omega) (by omega) (by omega)
  obtain ⟨m4, m4'⟩ := mul_rng (a := D) (b := t4) (by omega) (by omega) (by omega) (by omega)
  obtain ⟨m5, m5'⟩ := mul_rng (a := E) (b := t3) (by omega) (by omega) (by omega) (by omega)
  have HZ : Hid (shareI p 0 t0 t1 t2 D E = (t2 + D * t1 + E * t0 + D * E) % p) := Lib.hid (by unfold shareI; rw [if_pos rfl])
  have HY : Hid (shareI p 1 t3 t4 t5 D E = (t5 + D * t4 + E * t3) % p) := Lib.hid (by unfold shareI; rw [if_neg (by decide), Int.add_zero])
  obtain ⟨X1, hX1⟩ : ∃ X, X = D * t1 := ⟨_, rfl⟩
  obtain ⟨X2, hX2⟩ : ∃ X, X = E * t0 := ⟨_, rfl⟩
  obtain ⟨X3, hX3⟩ : ∃ X, X = D * E := ⟨_, rfl⟩
  obtain ⟨X4, hX4⟩ : ∃ X, X = D * t4 := ⟨_, rfl⟩
  obtain ⟨X5, hX5⟩ : ∃ X, X = E * t3 := ⟨_, rfl⟩
  rw [← hX1, ← hX2, ← hX3] at HZ
  rw [← hX4, ← hX5] at HY
  rw [← hX1] at m1 m1'
  rw [← hX2] at m2 m2'
  rw [← hX3] at m3 m3'
  rw [← hX4] at m4 m4'
  rw [← hX5] at m5 m5'
  have k1 : IntKind.i64.wrap (D * t1) = X1 := by rw [← hX1]; exact IntWalk.i64_in _ (by omega)
  have k2 : IntKind.i64.wrap (E * t0) = X2 := by rw [← hX2]; exact IntWalk.i64_in _ (by omega)
  have k3 : IntKind.i64.wrap (D * E) = X3 := by rw [← hX3]; exact IntWalk.i64_in _ (by omega)
  have k4 : IntKind.i64.wrap (D * t4) = X4 := by rw [← hX4]; exact IntWalk.i64_in _ (by omega)
  have k5 : IntKind.i64.wrap (E * t3) = X5 := by rw [← hX5]; exact IntWalk.i64_in _ (by omega)
  clear hX1 hX2 hX3 hX4 hX5
  have j1 : IntKind.i64.wrap (t2 + X1) = t2 + X1 := IntWalk.i64_in _ (by omega)
  have j2 : IntKind.i64.wrap (t2 + X1 + X2) = t2 + X1 + X2 := IntWalk.i64_in _ (by omega)
  have j3 : IntKind.i64.wrap (t2 + X1 + X2 + X3) = t2 + X1 + X2 + X3 := IntWalk.i64_in _ (by omega)
  have j4 : IntKind.i64.wrap (t5 + X4) = t5 + X4 := IntWalk.i64_in _ (by omega)
  have j5 : IntKind.i64.wrap (t5 + X4 + X5) = t5 + X4 + X5 := IntWalk.i64_in _ (by omega)
  have i1 : (t2 + X1 + X2 + X3).tmod p = (t2 + X1 + X2 + X3) % p := Int.tmod_eq_emod_of_nonneg (by omega)
  have i2 : (t5 + X4 + X5).tmod p = (t5 + X4 + X5) % p := Int.tmod_eq_emod_of_nonneg (by omega)
  have i3 : IntKind.i64.wrap ((t2 + X1 + X2 + X3) % p) = (t2 + X1 + X2 + X3) % p := IntWalk.i64_in _ (by have := mod_rng (t2 + X1 + X2 + X3) p hp; omega)
  have i4 : IntKind.i64.wrap ((t5 + X4 + X5) % p) = (t5 + X4 + X5) % p := IntWalk.i64_in _ (by have := mod_rng (t5 + X4 + X5) p hp; omega)
  have t7 : (p == 0) = false := by simp; omega
  have t8 : (p = 0) = False := by simp; omega
  clear m1 m1' m2 m2' m3 m3' m4 m4' m5 m5' d0 d1 s0 s1 q0 q1 r0 r1 r2 r3 r4 r5
  obtain ⟨g, o, rfl, e0, e1, e2, e3, e4, e5⟩ := six_cells h
  go_enter Try.func49, Try.ntmps49
  go_wp2
  go_region_held3 (fun W => W.cell? ⟨g, o, none⟩ = some (.int .i64 t0) ∧ W.cell? ⟨g, o + 3, none⟩ = some (.int .i64 t3))
    (go_keep)
    (first | (go_at_call 89; refine (btMod_same _ _ _ hp (by omega)).mono ?_; rintro e w' ⟨rfl, rfl⟩; rw [HD.out]))
  all_goals have h1 := h.drew
  all_goals have v1 : Below w.heap.size w w.drew := (Below.refl _ _).drew
  all_goals clear h e0 e1 e2 e3 e4 e5
  all_goals generalize w.drew = w1 at *
  obtain ⟨_, _, E1, e0, e1, e2, e3, e4, e5⟩ := six_cells h1
  cases E1
  go_wp2
  go_region_held3 (fun W => W.cell? ⟨g, o + 1, none⟩ = some (.int .i64 t1) ∧ W.cell? ⟨g, o + 4, none⟩ = some (.int .i64 t4))
    (go_keep)
    (first | (go_at_call 89; refine (btMod_same _ _ _ hp (by omega)).mono ?_; rintro e w' ⟨rfl, rfl⟩; rw [HE.out]))
  all_goals have h2 := h1.drew
  all_goals have v2 := v1.drew
  all_goals clear h1 v1 e0 e1 e2 e3 e4 e5
  all_goals generalize w1.drew = w2 at *
  obtain ⟨_, _, E1, e0, e1, e2, e3, e4, e5⟩ := six_cells h2
  cases E1
  clear W1 W2 W3 W4 W5 W6
  go_wp2
  go_region_held3 (fun W => W.cell? ⟨g, o, none⟩ = some (.int .i64 t0) ∧ W.cell? ⟨g, o + 1, none⟩ = some (.int .i64 t1) ∧ W.cell? ⟨g, o + 2, none⟩ = some (.int .i64 t2))
    (go_keep) (fail)
  all_goals have h3 := h2.drew
  all_goals have v3 := v2.drew
  all_goals clear h2 v2 e0 e1 e2 e3 e4 e5 k1 k2 k3 j1 j2 j3 i1 i3
  all_goals generalize w2.drew = w3 at *
  all_goals rw [← HZ.out]
  obtain ⟨_, _, E1, e0, e1, e2, e3, e4, e5⟩ := six_cells h3
  cases E1
  go_wp2
  go_region_held3 (fun W => W.cell? ⟨g, o + 3, none⟩ = some (.int .i64 t3) ∧ W.cell? ⟨g, o + 4, none⟩ = some (.int .i64 t4) ∧ W.cell? ⟨g, o + 5, none⟩ = some (.int .i64 t5))
    (go_keep) (fail)
  all_goals have v4 := v3.drew
  all_goals clear h3 v3 e0 e1 e2 e3 e4 e5 k4 k5 j4 j5 i2 i4
  all_goals generalize w3.drew = w4 at *
  all_goals rw [← HY.out]
  go_wp2
  go_ret2
  exact ⟨_, _, _, _, rfl, two_litsN _ _ _ _ v4.size v4⟩
/-- The law's functions. -/
def msrB (p : Int) (t x y : List Int) : Bool := sixB p t && fitsB p t && pairB p x && pairB p y
def msD (p : Int) (t x : List Int) : Int := (x.getD 0 0 + x.getD 1 0 - t.getD 0 0 - t.getD 3 0) % p
def msE (p : Int) (t y : List Int) : Int := (y.getD 0 0 + y.getD 1 0 - t.getD 1 0 - t.getD 4 0) % p
def msrL (p : Int) (t x y : List Int) : List Int := if msrB p t x y then
  [shareI p 0 (t.getD 0 0) (t.getD 1 0) (t.getD 2 0) (msD p t x) (msE p t y), shareI p 1 (t.getD 3 0) (t.getD 4 0) (t.getD 5 0) (msD p t x) (msE p t y)] else []
def msrO (p : Int) (t x y : List Int) : List Int := if msrB p t x y then [msD p t x, msE p t y] else []
theorem msrL_len (p : Int) (t x y : List Int) : (msrL p t x y).length ≤ 1000000 := by unfold msrL; split <;> simp
theorem msrO_len (p : Int) (t x y : List Int) : (msrO p t x y).length ≤ 1000000 := by unfold msrO; split <;> simp
theorem apart_nil (a a' : Option Addr) (c' : Nat) : Apart a 0 a' c' := fun _ _ h => absurd h (by omega)
set_option maxHeartbeats 4000000 in
set_option maxRecDepth 100000 in
theorem MultiplyShared_any (p : Int) (a0 : Option Addr) (n0 c0 : Nat) (t : List Int) (a1 : Option Addr) (n1 c1 : Nat) (x : List Int) (a2 : Option Addr) (n2 c2 : Nat) (y : List Int) (w : World) (ht : Ints w a0 n0 c0 t) (hx : Ints w a1 n1 c1 x) (hy : Ints w a2 n2 c2 y) :
    Calls Try.prog 7 #[.int .i64 p, .slice a0 n0 c0, .slice a1 n1 c1, .slice a2 n2 c2] w fun e w' => ∃ a n c a' n' c', e = .returned (.tuple #[.slice a n c, .slice a' n' c', .bool (msrB p t x y)]) ∧ Own w' w.heap.size a n c (msrL p t x y) ∧ Own w' w.heap.size a' n' c' (msrO p t x y) ∧ Apart a c a' c' ∧ Below w.heap.size w w' := by
  have HT := TripleFits_any p a0 n0 c0 t w ht
  unfold msrL msrO msrB
  cases h1 : sixB p t
  · rw [h1] at HT
    simp only [Bool.false_and, Bool.false_eq_true, if_false] at HT ⊢
    go_enter Try.func7, Try.ntmps7
    go_wp2_with fail
    refine HT.mono ?_; rintro e w2 ⟨rfl, u2⟩
    go_wp2
    go_ret3
    exact ⟨_, _, _, _, _, _, rfl, Own.nil0 _ _ _, Own.nil0 _ _ _, apart_nil _ _ _, u2⟩
  cases h2 : fitsB p t
  · rw [h1, h2] at HT
    simp only [Bool.false_and, Bool.and_false, Bool.false_eq_true, if_false] at HT ⊢
    go_enter Try.func7, Try.ntmps7
    go_wp2_with fail
    refine HT.mono ?_; rintro e w2 ⟨rfl, u2⟩
    go_wp2
    go_ret3
    exact ⟨_, _, _, _, _, _, rfl, Own.nil0 _ _ _, Own.nil0 _ _ _, apart_nil _ _ _, u2⟩
  rw [h1, h2] at HT
  simp only [Bool.true_and] at HT
  cases h3 : pairB p x
  · simp only [Bool.false_and, Bool.and_false, Bool.false_eq_true, if_false]
    go_enter Try.func7, Try.ntmps7
    go_wp2_with fail
    refine HT.mono ?_; rintro e w2 ⟨rfl, u2⟩
    go_wp2_with fail
    refine (isPair_any _ _ _ _ x _ (hx.below u2)).mono ?_; rintro e w3 ⟨rfl, u3⟩
    rw [h3]
    have v3 := u2.trans (u3.mono u2.size)
    go_wp2
    go_ret3
    exact ⟨_, _, _, _, _, _, rfl, Own.nil0 _ _ _, Own.nil0 _ _ _, apart_nil _ _ _, v3⟩
  cases h4 : pairB p y
  · simp only [Bool.and_false, Bool.false_eq_true, if_false]
    go_enter Try.func7, Try.ntmps7
    go_wp2_with fail
    refine HT.mono ?_; rintro e w2 ⟨rfl, u2⟩
    go_wp2_with fail
    refine (isPair_any _ _ _ _ x _ (hx.below u2)).mono ?_; rintro e w3 ⟨rfl, u3⟩
    rw [h3]
    have v3 := u2.trans (u3.mono u2.size)
    go_wp2_with fail
    refine (isPair_any _ _ _ _ y _ (hy.below v3)).mono ?_; rintro e w4 ⟨rfl, u4⟩
    rw [h4]
    have v4 := v3.trans (u4.mono v3.size)
    go_wp2
    go_ret3
    exact ⟨_, _, _, _, _, _, rfl, Own.nil0 _ _ _, Own.nil0 _ _ _, apart_nil _ _ _, v4⟩
  · simp only [Bool.and_self, if_true]
    obtain ⟨t0, t1, t2, t3, t4, t5, rfl, r0, r1, r2, r3, r4, r5, hp⟩ := sixB_true h1
    obtain ⟨x0, x1, rfl, r6, r7, _⟩ := pairB_true h3
    obtain ⟨y0, y1, rfl, r8, r9, _⟩ := pairB_true h4
    obtain ⟨p1, p2⟩ := isPr_range hp
    obtain rfl : n0 = 6 := ht.len
    obtain rfl : n1 = 2 := hx.len
    obtain rfl : n2 = 2 := hy.len
    have HM := fun W ha hb hc => multiplyShared_any p a0 c0 t0 t1 t2 t3 t4 t5 a1 c1 x0 x1 a2 c2 y0 y1 W ha hb hc (by omega) (by omega) (by omega) (by omega) (by omega) (by omega) (by omega) (by omega) (by omega) (by omega) (by omega) (by omega)
    have HM' := Lib.hid HM
    clear HM r0 r1 r2 r3 r4 r5 r6 r7 r8 r9
    go_enter Try.func7, Try.ntmps7
    go_wp2_with fail
    refine HT.mono ?_; rintro e w2 ⟨rfl, u2⟩
    go_wp2_with fail
    refine (isPair_any _ _ _ _ [x0, x1] _ (hx.below u2)).mono ?_; rintro e w3 ⟨rfl, u3⟩
    rw [h3]
    have v3 := u2.trans (u3.mono u2.size)
    go_wp2_with fail
    refine (isPair_any _ _ _ _ [y0, y1] _ (hy.below v3)).mono ?_; rintro e w4 ⟨rfl, u4⟩
    rw [h4]
    have v4 := v3.trans (u4.mono v3.size)
    go_wp2_with fail
    refine (HM'.out _ (ht.below v4) (hx.below v4) (hy.below v4)).mono ?_; rintro e w5 ⟨b, d, b', d', rfl, o5, o5', ap, u5⟩
    have v5 := v4.trans (u5.mono v4.size)
    go_wp2
    go_ret3
    exact ⟨_, _, _, _, _, _, rfl, o5.lower v4.size, o5'.lower v4.size, ap, v5⟩
theorem msrB_eq (p : Int) (t x y : List Int) : msrB p t x y = (elsB p t && decide (t.length = 6) && fitsB p t && decide (x.length = 2) && decide (y.length = 2) && allB x 0 (p - 1) && allB y 0 (p - 1)) := by
  unfold msrB sixB pairB elsB
  cases isPr p <;> cases allB t 0 (p - 1) <;> cases decide (t.length = 6) <;> cases fitsB p t <;> cases allB x 0 (p - 1) <;> cases allB y 0 (p - 1) <;> cases decide (x.length = 2) <;> cases decide (y.length = 2) <;> rfl
set_option maxHeartbeats 4000000 in
set_option maxRecDepth 100000 in
theorem spec_MultiplyShared_any (p : Int) (a0 : Option Addr) (n0 c0 : Nat) (t : List Int) (a1 : Option Addr) (n1 c1 : Nat) (x : List Int) (a2 : Option Addr) (n2 c2 : Nat) (y : List Int) (w : World) (ht : Ints w a0 n0 c0 t) (hx : Ints w a1 n1 c1 x) (hy : Ints w a2 n2 c2 y) :
    Calls Try.prog 8 #[.int .i64 p, .slice a0 n0 c0, .slice a1 n1 c1, .slice a2 n2 c2] w fun e w' => ∃ a n c a' n' c', e = .returned (.tuple #[.slice a n c, .slice a' n' c', .bool (msrB p t x y)]) ∧ Own w' w.heap.size a n c (msrL p t x y) ∧ Own w' w.heap.size a' n' c' (msrO p t x y) ∧ Apart a c a' c' ∧ Below w.heap.size w w' := by
  have HB := Lib.hid (msrB_eq p t x y)
  have ln0 := ht.len
  have ln1 := hx.len
  have ln2 := hy.len
  have le0 := ht.le
  have le1 := hx.le
  have le2 := hy.le
  unfold msrL msrO
  rw [HB.out, ← ln0, ← ln1, ← ln2]
  clear HB
  have HF : Hid (∀ W, Ints W a0 n0 c0 t → Calls Try.prog 46 #[.int .i64 p, .slice a0 n0 c0] W fun e w' => e = .returned (.bool (elsB p t)) ∧ ∃ m, w' = W.drewN m) := Lib.hid (fun W hW => fpIn_any p a0 n0 c0 t W hW)
  have HX : Hid (∀ W, Ints W a1 n1 c1 x → Calls Try.prog 48 #[.slice a1 n1 c1, .int .i64 0, .int .i64 (p - 1)] W fun e w' => e = .returned (.bool (allB x 0 (p - 1))) ∧ ∃ m, w' = W.drewN m) := Lib.hid (fun W hW => l1All_any a1 n1 c1 x 0 (p - 1) W hW)
  have HY : Hid (∀ W, Ints W a2 n2 c2 y → Calls Try.prog 48 #[.slice a2 n2 c2, .int .i64 0, .int .i64 (p - 1)] W fun e w' => e = .returned (.bool (allB y 0 (p - 1))) ∧ ∃ m, w' = W.drewN m) := Lib.hid (fun W hW => l1All_any a2 n2 c2 y 0 (p - 1) W hW)
  clear ln0 ln1 ln2
  cases h1 : elsB p t
  · simp only [Bool.false_and, Bool.false_eq_true, if_false]
    go_enter Try.func8, Try.ntmps8
    go_wp2_with fail
    refine (HF.out _ ht).mono ?_; rintro e w1 ⟨rfl, q⟩
    have v1 := below_of_quiet q
    clear q
    rw [h1]
    go_wp2
    go_ret3
    exact ⟨_, _, _, _, _, _, rfl, Own.nil0 _ _ _, Own.nil0 _ _ _, apart_nil _ _ _, v1⟩
  obtain ⟨hp, p1, p2, ha⟩ := elsB_true h1
  have W0 : IntKind.i64.wrap (p - 1) = p - 1 := IntWalk.i64_in _ (by omega)
  by_cases hn0 : n0 = 6
  case neg =>
    have f1 : (((n0 : Int) != 6) : Bool) = true := by simp; omega
    have f2 : (((n0 : Int) == 6) : Bool) = false := by simp; omega
    simp only [decide_eq_false hn0, Bool.false_and, Bool.and_false, Bool.false_eq_true, if_false]
    clear hn0
    go_enter Try.func8, Try.ntmps8
    go_wp2_with fail
    refine (HF.out _ ht).mono ?_; rintro e w1 ⟨rfl, q⟩
    have v1 := below_of_quiet q
    clear q
    rw [h1]
    go_wp2
    go_ret3
    exact ⟨_, _, _, _, _, _, rfl, Own.nil0 _ _ _, Own.nil0 _ _ _, apart_nil _ _ _, v1⟩
  subst hn0
  simp only [decide_true, Bool.true_and]
  rw [allB_iff] at ha
  obtain ⟨t0, t1, t2, t3, t4, t5, rfl⟩ : ∃ t0 t1 t2 t3 t4 t5, t = [t0, t1, t2, t3, t4, t5] := by
    have := ht.len
    match t, this with
    | [a, b, c, d, e, f], _ => exact ⟨a, b, c, d, e, f, rfl⟩
  have r0 := ha t0 (by simp)
  have r1 := ha t1 (by simp)
  have r2 := ha t2 (by simp)
  have r3 := ha t3 (by simp)
  have r4 := ha t4 (by simp)
  have r5 := ha t5 (by simp)
  have HS : Hid (∀ W, Ints W a0 6 c0 [t0, t1, t2, t3, t4, t5] → Calls Try.prog 47 #[.int .i64 p, .slice a0 6 c0] W fun e w' => e = .returned (.bool (fitsB p [t0, t1, t2, t3, t4, t5])) ∧ ∃ m, w' = W.drewN m) := Lib.hid (fun W hW => smFits_any p a0 6 c0 t0 t1 t2 t3 t4 t5 W hW (by omega) (by omega) r0 r1 r2 r3 r4 r5)
  clear ha
  cases h2 : fitsB p [t0, t1, t2, t3, t4, t5]
  · simp only [Bool.false_and, Bool.false_eq_true, if_false]
    go_enter Try.func8, Try.ntmps8
    go_wp2_with fail
    refine (HF.out _ ht).mono ?_; rintro e w1 ⟨rfl, q⟩
    have v1 := below_of_quiet q
    clear q
    rw [h1]
    go_wp2_with fail
    refine (HS.out _ (ht.below v1)).mono ?_; rintro e w2 ⟨rfl, q⟩
    have u := below_of_quiet q
    have v2 := v1.trans (u.mono v1.size)
    clear q u
    rw [h2]
    go_wp2
    go_ret3
    exact ⟨_, _, _, _, _, _, rfl, Own.nil0 _ _ _, Own.nil0 _ _ _, apart_nil _ _ _, v2⟩
  by_cases hn1 : n1 = 2
  case neg =>
    have f1 : (((n1 : Int) != 2) : Bool) = true := by simp; omega
    have f2 : (((n1 : Int) == 2) : Bool) = false := by simp; omega
    simp only [decide_eq_false hn1, Bool.false_and, Bool.and_false, Bool.false_eq_true, if_false]
    clear hn1
    go_enter Try.func8, Try.ntmps8
    go_wp2_with fail
    refine (HF.out _ ht).mono ?_; rintro e w1 ⟨rfl, q⟩
    have v1 := below_of_quiet q
    clear q
    rw [h1]
    go_wp2_with fail
    refine (HS.out _ (ht.below v1)).mono ?_; rintro e w2 ⟨rfl, q⟩
    have u := below_of_quiet q
    have v2 := v1.trans (u.mono v1.size)
    clear q u
    rw [h2]
    go_wp2
    go_ret3
    exact ⟨_, _, _, _, _, _, rfl, Own.nil0 _ _ _, Own.nil0 _ _ _, apart_nil _ _ _, v2⟩
  subst hn1
  simp only [decide_true, Bool.true_and]
  by_cases hn2 : n2 = 2
  case neg =>
    have f1 : (((n2 : Int) != 2) : Bool) = true := by simp; omega
    have f2 : (((n2 : Int) == 2) : Bool) = false := by simp; omega
    simp only [decide_eq_false hn2, Bool.false_and, Bool.false_eq_true, if_false]
    clear hn2
    go_enter Try.func8, Try.ntmps8
    go_wp2_with fail
    refine (HF.out _ ht).mono ?_; rintro e w1 ⟨rfl, q⟩
    have v1 := below_of_quiet q
    clear q
    rw [h1]
    go_wp2_with fail
    refine (HS.out _ (ht.below v1)).mono ?_; rintro e w2 ⟨rfl, q⟩
    have u := below_of_quiet q
    have v2 := v1.trans (u.mono v1.size)
    clear q u
    rw [h2]
    go_wp2
    go_ret3
    exact ⟨_, _, _, _, _, _, rfl, Own.nil0 _ _ _, Own.nil0 _ _ _, apart_nil _ _ _, v2⟩
  subst hn2
  simp only [decide_true, Bool.true_and]
  cases h3 : allB x 0 (p - 1)
  · simp only [Bool.false_and, Bool.false_eq_true, if_false]
    go_enter Try.func8, Try.ntmps8
    go_wp2_with fail
    refine (HF.out _ ht).mono ?_; rintro e w1 ⟨rfl, q⟩
    have v1 := below_of_quiet q
    clear q
    rw [h1]
    go_wp2_with fail
    refine (HS.out _ (ht.below v1)).mono ?_; rintro e w2 ⟨rfl, q⟩
    have u := below_of_quiet q
    have v2 := v1.trans (u.mono v1.size)
    clear q u
    rw [h2]
    go_wp2_with fail
    refine (HX.out _ (hx.below v2)).mono ?_; rintro e w3 ⟨rfl, q⟩
    have u := below_of_quiet q
    have v3 := v2.trans (u.mono v2.size)
    clear q u
    rw [h3]
    go_wp2
    go_ret3
    exact ⟨_, _, _, _, _, _, rfl, Own.nil0 _ _ _, Own.nil0 _ _ _, apart_nil _ _ _, v3⟩
  cases h4 : allB y 0 (p - 1)
  · simp only [Bool.and_false, Bool.false_eq_true, if_false]
    go_enter Try.func8, Try.ntmps8
    go_wp2_with fail
    refine (HF.out _ ht).mono ?_; rintro e w1 ⟨rfl, q⟩
    have v1 := below_of_quiet q
    clear q
    rw [h1]
    go_wp2_with fail
    refine (HS.out _ (ht.below v1)).mono ?_; rintro e w2 ⟨rfl, q⟩
    have u := below_of_quiet q
    have v2 := v1.trans (u.mono v1.size)
    clear q u
    rw [h2]
    go_wp2_with fail
    refine (HX.out _ (hx.below v2)).mono ?_; rintro e w3 ⟨rfl, q⟩
    have u := below_of_quiet q
    have v3 := v2.trans (u.mono v2.size)
    clear q u
    rw [h3]
    go_wp2_with fail
    refine (HY.out _ (hy.below v3)).mono ?_; rintro e w4 ⟨rfl, q⟩
    have u := below_of_quiet q
    have v4 := v3.trans (u.mono v3.size)
    clear q u
    rw [h4]
    go_wp2
    go_ret3
    exact ⟨_, _, _, _, _, _, rfl, Own.nil0 _ _ _, Own.nil0 _ _ _, apart_nil _ _ _, v4⟩
  simp only [Bool.and_self, if_true]
  have ax := (allB_iff ..).1 h3
  have ay := (allB_iff ..).1 h4
  obtain ⟨x0, x1, rfl⟩ : ∃ x0 x1, x = [x0, x1] := by
    have := hx.len
    match x, this with
    | [a, b], _ => exact ⟨a, b, rfl⟩
  obtain ⟨y0, y1, rfl⟩ : ∃ y0 y1, y = [y0, y1] := by
    have := hy.len
    match y, this with
    | [a, b], _ => exact ⟨a, b, rfl⟩
  have r6 := ax x0 (by simp)
  have r7 := ax x1 (by simp)
  have r8 := ay y0 (by simp)
  have r9 := ay y1 (by simp)
  clear ax ay
  have HM := fun W ha => smTimes_any p a0 c0 t0 t1 t2 t3 t4 t5 x0 x1 y0 y1 W ha (by omega) (by omega) (by omega) (by omega) (by omega) (by omega) (by omega) (by omega) (by omega) (by omega) (by omega) (by omega)
  have HM' := Lib.hid HM
  clear HM r0 r1 r2 r3 r4 r5 r6 r7 r8 r9
  go_enter Try.func8, Try.ntmps8
  go_wp2_with fail
  refine (HF.out _ ht).mono ?_; rintro e w1 ⟨rfl, q⟩
  have v1 := below_of_quiet q
  clear q
  rw [h1]
  go_wp2_with fail
  refine (HS.out _ (ht.below v1)).mono ?_; rintro e w2 ⟨rfl, q⟩
  have u := below_of_quiet q
  have v2 := v1.trans (u.mono v1.size)
  clear q u
  rw [h2]
  go_wp2_with fail
  refine (HX.out _ (hx.below v2)).mono ?_; rintro e w3 ⟨rfl, q⟩
  have u := below_of_quiet q
  have v3 := v2.trans (u.mono v2.size)
  clear q u
  rw [h3]
  go_wp2_with fail
  refine (HY.out _ (hy.below v3)).mono ?_; rintro e w4 ⟨rfl, q⟩
  have u := below_of_quiet q
  have v4 := v3.trans (u.mono v3.size)
  clear q u
  rw [h4]
  obtain ⟨gx, ox, rfl, ex0, ex1⟩ := two_cells (hx.below v4)
  obtain ⟨gy, oy, rfl, ey0, ey1⟩ := two_cells (hy.below v4)
  go_wp2
  go_region_held3 (fun W => W.cell? ⟨gx, ox, none⟩ = some (.int .i64 x0) ∧ W.cell? ⟨gx, ox + 1, none⟩ = some (.int .i64 x1) ∧ W.cell? ⟨gy, oy, none⟩ = some (.int .i64 y0) ∧ W.cell? ⟨gy, oy + 1, none⟩ = some (.int .i64 y1))
    (first | go_keep | exact ⟨keepC u5 ex0, keepC u5 ex1, keepC u5 ey0, keepC u5 ey1⟩)
    (first | (go_at_call 49; refine (HM'.out _ ((ht.below v4).drew)).mono ?_; rintro e w5 ⟨b, d, b', d', rfl, o5, o5', ap, u5⟩))
  all_goals have v5 := v4.drew.trans (u5.mono v4.size)
  all_goals go_wp2
  all_goals go_ret3
  all_goals exact ⟨_, _, _, _, _, _, rfl, o5.lower v4.size, o5'.lower v4.size, ap, v5⟩
end Go.Proofs.Ythpcmbdkboajcaa
