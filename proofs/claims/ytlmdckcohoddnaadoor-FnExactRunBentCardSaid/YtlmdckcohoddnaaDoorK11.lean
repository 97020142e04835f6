/- Lemmas and walks that the claim's proof rests on, part 11. -/
import Derived.Test.YtlmdckcohoddnaaDoorK2
import Derived.Test.YtlmdckcohoddnaaDoorK6
import Derived.Test.YtlmdckcohoddnaaDoorK7
import Derived.Test.YtlmdckcohoddnaaDoorK10
namespace Go.Proofs.YtlmdckcohoddnaaDoor
open Go.RowKit
theorem cellFar {w : World} {p q : Addr} {u v : Value} (h : w.cell? q = some v) (hne : q.block ≠ p.block) : (w.setCell p u).cell? q = some v := by
  rw [World.cell?_setCell_other w p q u (fun e => hne (by rw [e]))]; exact h
def bendI (p : Int) (l : List Int) (i : Nat) (k : Int) : List Int := l.set i ((l.getD i 0 + k) % p)
set_option maxHeartbeats 4000000 in
set_option maxRecDepth 100000 in
theorem bend_any (p s0 s1 : Int) (a : Option Addr) (n c : Nat) (l : List Int) (i : Nat) (k : Int) (w : World) (h : Ints w a n c l) (hs : n ≤ 1048576) (hp : 1 ≤ p) (hp2 : p ≤ 1000) (hl : ∀ x ∈ l, 0 ≤ x ∧ x ≤ p - 1) (hi : i < n) (hk : 0 ≤ k) (hk2 : k ≤ p - 1) :
    Calls Tryd.prog 86 #[.int .i64 p, .agg #[.int .i64 s0, .int .i64 s1, .slice a n c], .int .i64 i, .int .i64 k] w fun e w' => ∃ b d, e = .returned (.agg #[.int .i64 s0, .int .i64 s1, .slice b n d]) ∧ Own w' w.heap.size b n d (bendI p l i k) ∧ Below w.heap.size w w' := by
  have rx : 0 ≤ l.getD i 0 ∧ l.getD i 0 ≤ p - 1 := hl _ (getD_mem l i (by rw [← h.len]; exact hi))
  have HBI : Hid (bendI p l i k = l.set i ((l.getD i 0 + k) % p)) := rfl
  clear hl
  obtain ⟨x, hx⟩ : ∃ x, l.getD i 0 = x := ⟨_, rfl⟩
  rw [hx] at rx HBI
  have HX := Lib.hid hx
  clear hx
  have t1 : IntKind.i64.wrap (x + k) = x + k := IntWalk.i64_in _ (by omega)
  have V0 : Below w.heap.size w ((w.alloc (.cells #[.int .i64 s0, .int .i64 s1, .slice a n c] 44)).alloc (.cells #[.int .i64 0, .int .i64 0, .slice none 0 0] 44)) := ((Below.refl _ _).alloc (Nat.le_refl _) _).alloc (by simp) _
  have B0 : Blk ((w.alloc (.cells #[.int .i64 s0, .int .i64 s1, .slice a n c] 44)).alloc (.cells #[.int .i64 0, .int .i64 0, .slice none 0 0] 44)) w.heap.size 44 #[.int .i64 s0, .int .i64 s1, .slice a n c] := (Blk.new w _ _).alloc _
  have R0 : Blk ((w.alloc (.cells #[.int .i64 s0, .int .i64 s1, .slice a n c] 44)).alloc (.cells #[.int .i64 0, .int .i64 0, .slice none 0 0] 44)) (w.heap.size + 1) 44 #[.int .i64 0, .int .i64 0, .slice none 0 0] := by simpa using (Blk.new (w.alloc (.cells #[.int .i64 s0, .int .i64 s1, .slice a n c] 44)) 44 #[.int .i64 0, .int .i64 0, .slice none 0 0])
  have S0 : w.heap.size + 2 ≤ ((w.alloc (.cells #[.int .i64 s0, .int .i64 s1, .slice a n c] 44)).alloc (.cells #[.int .i64 0, .int .i64 0, .slice none 0 0] 44)).heap.size := by simp
  go_enter Tryd.func86, Tryd.ntmps86
  go_wp2_with fail
  generalize ((w.alloc (.cells #[.int .i64 s0, .int .i64 s1, .slice a n c] 44)).alloc (.cells #[.int .i64 0, .int .i64 0, .slice none 0 0] 44)) = w0 at *
  refine (Clone_any _ _ _ l _ (h.below V0) (by omega)).mono ?_; rintro e w1 ⟨b, d, rfl, o1, u⟩
  have V1 := V0.trans (u.mono V0.size)
  have B1 := B0.below u
  have R1 := R0.below u
  have S1 : w.heap.size + 2 ≤ w1.heap.size := Nat.le_trans S0 u.size
  have Q := Lib.hid o1.feet
  clear u V0 B0 R0
  have x0 : w1.cell? ⟨w.heap.size, 0, none⟩ = some (.int .i64 s0) := B1.cell 0
  have x1 : w1.cell? ⟨w.heap.size, 1, none⟩ = some (.int .i64 s1) := B1.cell 1
  have x2 : w1.cell? ⟨w.heap.size, 2, none⟩ = some (.slice a n c) := B1.cell 2
  have f2 : w1.frozen? ⟨w.heap.size, 2, none⟩ = false := B1.frozen 2
  go_wp2_with fail
  have G : Only [w.heap.size] w1 (w1.setCell ⟨w.heap.size, 2, none⟩ (.slice b n d)) := (Only.refl _ _).setCell ⟨w.heap.size, 2, none⟩ (.slice b n d) (by simp)
  have V2 := V1.trans (G.below V1.size (by simp))
  have B2 : Blk (w1.setCell ⟨w.heap.size, 2, none⟩ (.slice b n d)) w.heap.size 44 #[.int .i64 s0, .int .i64 s1, .slice b n d] := B1.set_ 2 (.slice b n d)
  have R2 := R1.only G (by simp)
  have o2 := o1.only G (fun q hq hq' => by have := Q.out q hq; simp at hq'; omega)
  have S2 : w.heap.size + 2 ≤ (w1.setCell ⟨w.heap.size, 2, none⟩ (.slice b n d)).heap.size := Nat.le_trans S1 G.size
  clear G V1 B1 R1 o1 x0 x1 x2 f2
  generalize (w1.setCell ⟨w.heap.size, 2, none⟩ (.slice b n d)) = w2 at *
  obtain ⟨g, rfl, g0, g1, y0, y1, y2⟩ := o2.at i hi
  rw [HX.out] at y0
  have x0 : w2.cell? ⟨w.heap.size, 0, none⟩ = some (.int .i64 s0) := B2.cell 0
  have x1 : w2.cell? ⟨w.heap.size, 1, none⟩ = some (.int .i64 s1) := B2.cell 1
  have x2 : w2.cell? ⟨w.heap.size, 2, none⟩ = some (.slice (some ⟨g, 0, none⟩) n d) := B2.cell 2
  refine wp_region_still_tail 13 (by kernel_rfl) (by kernel_rfl) ?_
  simp only [List.take_succ_cons, List.take_zero, List.drop_succ_cons, List.drop_zero]
  repeat (first | still_step | still_call (mod_same _ _ _ hp (by omega)))
  refine wpStill_nil ?_
  change wpList _ _ _ _ _ w2.drew
  have o3 := o2.drew
  have V3 := V2.drew
  have B3 := B2.drew
  have R3 := R2.drew
  have S3 : w.heap.size + 2 ≤ w2.drew.heap.size := S2
  clear y0 y1 y2 x0 x1 x2 o2 V2 B2 R2 S2
  generalize w2.drew = w3 at *
  obtain ⟨_, E, _, _, y0, y1, y2⟩ := o3.at i hi
  cases E
  have y3 := y2 ((x + k) % p)
  rw [← HBI.out] at y3
  have x0 : w3.cell? ⟨w.heap.size, 0, none⟩ = some (.int .i64 s0) := B3.cell 0
  have x1 : w3.cell? ⟨w.heap.size, 1, none⟩ = some (.int .i64 s1) := B3.cell 1
  have x2 : w3.cell? ⟨w.heap.size, 2, none⟩ = some (.slice (some ⟨g, 0, none⟩) n d) := B3.cell 2
  have r0 : w3.cell? ⟨w.heap.size + 1, 0, none⟩ = some (.int .i64 0) := R3.cell 0
  have r1 : w3.cell? ⟨w.heap.size + 1, 1, none⟩ = some (.int .i64 0) := R3.cell 1
  have r2 : w3.cell? ⟨w.heap.size + 1, 2, none⟩ = some (.slice none 0 0) := R3.cell 2
  have q0 : w3.frozen? ⟨w.heap.size + 1, 0, none⟩ = false := R3.frozen 0
  have q1 : w3.frozen? ⟨w.heap.size + 1, 1, none⟩ = false := R3.frozen 1
  have q2 : w3.frozen? ⟨w.heap.size + 1, 2, none⟩ = false := R3.frozen 2
  have HY := Lib.hid y3
  clear y2 y3
  go_wp2
  have G := (((Only.refl [w.heap.size + 1] (w3.setCell ⟨g, i, none⟩ (.int .i64 ((x + k) % p)))).setCell ⟨w.heap.size + 1, 0, none⟩ (.int .i64 s0) (by simp)).setCell ⟨w.heap.size + 1, 1, none⟩ (.int .i64 s1) (by simp)).setCell ⟨w.heap.size + 1, 2, none⟩ (.slice (some ⟨g, 0, none⟩) n d) (by simp)
  have V4 := V3.setCell (p := ⟨g, i, none⟩) (by show w.heap.size ≤ g; omega) (.int .i64 ((x + k) % p))
  exact bodyPost_ret (v := .agg #[.int .i64 s0, .int .i64 s1, .slice (some ⟨g, 0, none⟩) n d]) (by simp [results, Tryd.results86, go_sem, r0, r1, r2]) rfl ⟨_, _, rfl, (HY.out.only G (fun q hq hq' => by
    obtain ⟨z, hz, _, rfl⟩ := mem_foot hq
    cases hz
    simp at hq'; omega)).lower (by omega), V4.trans (G.below V4.size (by simp))⟩
set_option maxHeartbeats 4000000 in
set_option maxRecDepth 100000 in
theorem ptBend_any (p s0 s1 : Int) (a : Option Addr) (n c : Nat) (l : List Int) (i : Nat) (k : Int) (w : World) (h : Ints w a n c l) (hs : n ≤ 1048576) (hp : 1 ≤ p) (hp2 : p ≤ 1000) (hl : ∀ x ∈ l, 0 ≤ x ∧ x ≤ p - 1) (hi : i < n) (hk : 0 ≤ k) (hk2 : k ≤ p - 1) :
    Calls Tryd.prog 119 #[.int .i64 p, .agg #[.int .i64 s0, .int .i64 s1, .slice a n c], .int .i64 i, .int .i64 k] w fun e w' => ∃ b d, e = .returned (.agg #[.int .i64 s0, .int .i64 s1, .slice b n d]) ∧ Own w' w.heap.size b n d (bendI p l i k) ∧ Below w.heap.size w w' := by
  have rx : 0 ≤ l.getD i 0 ∧ l.getD i 0 ≤ p - 1 := hl _ (getD_mem l i (by rw [← h.len]; exact hi))
  have HBI : Hid (bendI p l i k = l.set i ((l.getD i 0 + k) % p)) := rfl
  clear hl
  obtain ⟨x, hx⟩ : ∃ x, l.getD i 0 = x := ⟨_, rfl⟩
  rw [hx] at rx HBI
  have HX := Lib.hid hx
  clear hx
  have t1 : IntKind.i64.wrap (x + k) = x + k := IntWalk.i64_in _ (by omega)
  have t2 : (x + k).tmod p = (x + k) % p := Int.tmod_eq_emod_of_nonneg (by omega)
  have t3 : IntKind.i64.wrap ((x + k) % p) = (x + k) % p := IntWalk.i64_in _ (by have := Int.emod_nonneg (x + k) (by omega : p ≠ 0); have := Int.emod_lt_of_pos (x + k) (by omega : 0 < p); omega)
  have t7 : (p == 0) = false := by simp; omega
  have t8 : (p = 0) = False := by simp; omega
  have V0 : Below w.heap.size w ((w.alloc (.cells #[.int .i64 s0, .int .i64 s1, .slice a n c] 44)).alloc (.cells #[.int .i64 0, .int .i64 0, .slice none 0 0] 44)) := ((Below.refl _ _).alloc (Nat.le_refl _) _).alloc (by simp) _
  have B0 : Blk ((w.alloc (.cells #[.int .i64 s0, .int .i64 s1, .slice a n c] 44)).alloc (.cells #[.int .i64 0, .int .i64 0, .slice none 0 0] 44)) w.heap.size 44 #[.int .i64 s0, .int .i64 s1, .slice a n c] := (Blk.new w _ _).alloc _
  have R0 : Blk ((w.alloc (.cells #[.int .i64 s0, .int .i64 s1, .slice a n c] 44)).alloc (.cells #[.int .i64 0, .int .i64 0, .slice none 0 0] 44)) (w.heap.size + 1) 44 #[.int .i64 0, .int .i64 0, .slice none 0 0] := by simpa using (Blk.new (w.alloc (.cells #[.int .i64 s0, .int .i64 s1, .slice a n c] 44)) 44 #[.int .i64 0, .int .i64 0, .slice none 0 0])
  have S0 : w.heap.size + 2 ≤ ((w.alloc (.cells #[.int .i64 s0, .int .i64 s1, .slice a n c] 44)).alloc (.cells #[.int .i64 0, .int .i64 0, .slice none 0 0] 44)).heap.size := by simp
  go_enter Tryd.func119, Tryd.ntmps119
  go_wp2
  generalize ((w.alloc (.cells #[.int .i64 s0, .int .i64 s1, .slice a n c] 44)).alloc (.cells #[.int .i64 0, .int .i64 0, .slice none 0 0] 44)) = w0 at *
  have x0 : w0.cell? ⟨w.heap.size, 0, none⟩ = some (.int .i64 s0) := B0.cell 0
  have x1 : w0.cell? ⟨w.heap.size, 1, none⟩ = some (.int .i64 s1) := B0.cell 1
  have x2 : w0.cell? ⟨w.heap.size, 2, none⟩ = some (.slice a n c) := B0.cell 2
  have hb : w.heap.size ≠ w0.heap.size := by omega
  go_region_held3 (fun W => W.cell? ⟨w.heap.size, 0, none⟩ = some (.int .i64 s0) ∧ W.cell? ⟨w.heap.size, 1, none⟩ = some (.int .i64 s1) ∧ W.cell? ⟨w.heap.size, 2, none⟩ = some (.slice a n c))
    (first | go_keep | exact ⟨keepA _ x0, keepA _ x1, keepA _ x2⟩ | exact ⟨keepC u (keepA _ x0), keepC u (keepA _ x1), keepC u (keepA _ x2)⟩ | exact ⟨keepA _ (keepC u x0), keepA _ (keepC u x1), keepA _ (keepC u x2)⟩ | exact ⟨keepC u x0, keepC u x1, keepC u x2⟩ | exact ⟨cellFar (cellFar (cellFar (keepC u (keepA _ x0)) hb) hb) hb, cellFar (cellFar (cellFar (keepC u (keepA _ x1)) hb) hb) hb, cellFar (cellFar (cellFar (keepC u (keepA _ x2)) hb) hb) hb⟩)
    (first | (go_at_call 120; refine (l1Own_any _ _ _ l _ ((h.below V0).alloc _).drew (by omega)).mono ?_; rintro e w1 ⟨b, d, rfl, o1, u⟩; have BO : Blk w1 w0.heap.size 44 #[.int .i64 0, .int .i64 0, .slice none 0 0] := Blk.below (Blk.new w0 44 #[.int .i64 0, .int .i64 0, .slice none 0 0]).drew u; have e0 : w1.cell? ⟨w0.heap.size, 0, none⟩ = some (.int .i64 0) := BO.cell 0; have e1 : w1.cell? ⟨w0.heap.size, 1, none⟩ = some (.int .i64 0) := BO.cell 1; have e2 : w1.cell? ⟨w0.heap.size, 2, none⟩ = some (.slice none 0 0) := BO.cell 2; have f0 : w1.frozen? ⟨w0.heap.size, 0, none⟩ = false := BO.frozen 0; have f1 : w1.frozen? ⟨w0.heap.size, 1, none⟩ = false := BO.frozen 1; have f2 : w1.frozen? ⟨w0.heap.size, 2, none⟩ = false := BO.frozen 2) | (go_at_call 120; refine (l1Own_any _ _ _ l _ (h.below V0).drew (by omega)).mono ?_; rintro e w1 ⟨b, d, rfl, o1, u⟩))
  all_goals first
    | (have u1 : Below w0.heap.size w0 w1 := ((Below.refl _ w0).alloc (Nat.le_refl _) (.cells #[.int .i64 0, .int .i64 0, .slice none 0 0] 44)).drew.trans (u.mono (by simp))
       have G : Only [w0.heap.size] w1 (((w1.setCell ⟨w0.heap.size, 0, none⟩ (.int .i64 s0)).setCell ⟨w0.heap.size, 1, none⟩ (.int .i64 s1)).setCell ⟨w0.heap.size, 2, none⟩ (.slice b n d)) := (((Only.refl [w0.heap.size] w1).setCell ⟨w0.heap.size, 0, none⟩ (.int .i64 s0) (by simp)).setCell ⟨w0.heap.size, 1, none⟩ (.int .i64 s1) (by simp)).setCell ⟨w0.heap.size, 2, none⟩ (.slice b n d) (by simp)
       have hO0 : ∀ q ∈ foot b d, w0.heap.size + 1 ≤ q := fun q hq => by have := (o1.feet q hq).1; simpa using this
       have hV1 := V0.trans (u1.mono V0.size)
       have hV := hV1.trans (G.below hV1.size (fun q hq => by simp at hq; omega))
       have hR := (R0.below u1).only G (by simp; omega)
       have hO := (o1.only G (fun q hq hq' => by have := hO0 q hq; simp at hq'; omega)).lower (b' := w.heap.size + 2) (by simp; omega)
       have hQ : Hid (∀ q ∈ foot b d, q ≠ w0.heap.size) := Lib.hid (fun q hq => by have := hO0 q hq; omega)
       have hBO : Blk (((w1.setCell ⟨w0.heap.size, 0, none⟩ (.int .i64 s0)).setCell ⟨w0.heap.size, 1, none⟩ (.int .i64 s1)).setCell ⟨w0.heap.size, 2, none⟩ (.slice b n d)) w0.heap.size 44 #[.int .i64 s0, .int .i64 s1, .slice b n d] := ((BO.set_ 0 (.int .i64 s0)).set_ 1 (.int .i64 s1)).set_ 2 (.slice b n d)
       have hob : w.heap.size + 2 ≤ w0.heap.size := S0
       clear u1 G hO0 hV1 u BO e0 e1 e2 f0 f1 f2 o1 V0 B0 R0 S0 x0 x1 x2
       generalize (((w1.setCell ⟨w0.heap.size, 0, none⟩ (.int .i64 s0)).setCell ⟨w0.heap.size, 1, none⟩ (.int .i64 s1)).setCell ⟨w0.heap.size, 2, none⟩ (.slice b n d)) = W at *
       generalize w0.heap.size = ob at *)
    | (have u1 : Below w0.heap.size w0 w1 := (Below.refl _ w0).drew.trans u
       have hV1 := V0.trans (u1.mono V0.size)
       have hV := hV1.alloc hV1.size (.cells #[.int .i64 s0, .int .i64 s1, .slice b n d] 44)
       have hR := (R0.below u1).alloc (.cells #[.int .i64 s0, .int .i64 s1, .slice b n d] 44)
       have hQ : Hid (∀ q ∈ foot b d, q ≠ w1.heap.size) := Lib.hid (fun q hq => by have := (o1.feet q hq).2; omega)
       have hO := (o1.alloc (.cells #[.int .i64 s0, .int .i64 s1, .slice b n d] 44)).lower (b' := w.heap.size + 2) S0
       have hBO : Blk (w1.alloc (.cells #[.int .i64 s0, .int .i64 s1, .slice b n d] 44)) w1.heap.size 44 #[.int .i64 s0, .int .i64 s1, .slice b n d] := Blk.new w1 44 #[.int .i64 s0, .int .i64 s1, .slice b n d]
       have hob : w.heap.size + 2 ≤ w1.heap.size := Nat.le_trans S0 u1.size
       clear u1 hV1 u o1 V0 B0 R0 S0 x0 x1 x2
       generalize (w1.alloc (.cells #[.int .i64 s0, .int .i64 s1, .slice b n d] 44)) = W at *
       generalize w1.heap.size = ob at *)
  all_goals
    obtain ⟨g, rfl, g0, g1, y0, y1, y2⟩ := hO.at i hi
    rw [HX.out] at y0
    have hgo : g ≠ ob := hQ.out g (foot_mem (x := ⟨g, 0, none⟩) (by have := hO.cap; omega))
    have hgo' : ¬ ob = g := fun h => hgo h.symm
    have x0 : W.cell? ⟨ob, 0, none⟩ = some (.int .i64 s0) := hBO.cell 0
    have x1 : W.cell? ⟨ob, 1, none⟩ = some (.int .i64 s1) := hBO.cell 1
    have x2 : W.cell? ⟨ob, 2, none⟩ = some (.slice (some ⟨g, 0, none⟩) n d) := hBO.cell 2
    go_wp2
    refine wp_region_still_tail 13 (by kernel_rfl) (by kernel_rfl) ?_
    simp only [List.take_succ_cons, List.take_zero, List.drop_succ_cons, List.drop_zero]
    repeat still_step
    refine wpStill_nil ?_
    change wpList _ _ _ _ _ W.drew
    have o3 := hO.drew
    have V3 := hV.drew
    have B3 := hBO.drew
    have R3 := hR.drew
    clear y0 y1 y2 x0 x1 x2 hO hV hBO hR
    generalize W.drew = w3 at *
    obtain ⟨_, E, _, _, y0, y1, y2⟩ := o3.at i hi
    cases E
    have y3 := y2 ((x + k) % p)
    rw [← HBI.out] at y3
    have x0 : w3.cell? ⟨ob, 0, none⟩ = some (.int .i64 s0) := B3.cell 0
    have x1 : w3.cell? ⟨ob, 1, none⟩ = some (.int .i64 s1) := B3.cell 1
    have x2 : w3.cell? ⟨ob, 2, none⟩ = some (.slice (some ⟨g, 0, none⟩) n d) := B3.cell 2
    have r0 : w3.cell? ⟨w.heap.size + 1, 0, none⟩ = some (.int .i64 0) := R3.cell 0
    have r1 : w3.cell? ⟨w.heap.size + 1, 1, none⟩ = some (.int .i64 0) := R3.cell 1
    have r2 : w3.cell? ⟨w.heap.size + 1, 2, none⟩ = some (.slice none 0 0) := R3.cell 2
    have q0 : w3.frozen? ⟨w.heap.size + 1, 0, none⟩ = false := R3.frozen 0
    have q1 : w3.frozen? ⟨w.heap.size + 1, 1, none⟩ = false := R3.frozen 1
    have q2 : w3.frozen? ⟨w.heap.size + 1, 2, none⟩ = false := R3.frozen 2
    have HY := Lib.hid y3
    clear y2 y3
    go_wp2
    have G := (((Only.refl [w.heap.size + 1] (w3.setCell ⟨g, i, none⟩ (.int .i64 ((x + k) % p)))).setCell ⟨w.heap.size + 1, 0, none⟩ (.int .i64 s0) (by simp)).setCell ⟨w.heap.size + 1, 1, none⟩ (.int .i64 s1) (by simp)).setCell ⟨w.heap.size + 1, 2, none⟩ (.slice (some ⟨g, 0, none⟩) n d) (by simp)
    have V4 := V3.setCell (p := ⟨g, i, none⟩) (by show w.heap.size ≤ g; omega) (.int .i64 ((x + k) % p))
    exact bodyPost_ret (v := .agg #[.int .i64 s0, .int .i64 s1, .slice (some ⟨g, 0, none⟩) n d]) (by simp [results, Tryd.results119, go_sem, r0, r1, r2]) rfl ⟨_, _, rfl, (HY.out.only G (fun q hq hq' => by
      obtain ⟨z, hz, _, rfl⟩ := mem_foot hq
      cases hz
      simp at hq'; omega)).lower (by omega), V4.trans (G.below V4.size (by simp))⟩
end Go.Proofs.YtlmdckcohoddnaaDoor
namespace Go.Proofs.YtlmdckcohoddnaaDoor
open Go.RowKit
theorem keepS {w wz : World} {q : Addr} {v : Value} (h0 : w.cell? q = some v) (i : Nat) (u : Value) (h : wz.cell? q = some v) : (wz.setCell ⟨w.heap.size, i, none⟩ u).cell? q = some v :=
  cellFar h (by have := World.block_lt_of_cell? w _ h0; show q.block ≠ w.heap.size; omega)
set_option maxHeartbeats 16000000 in
set_option maxRecDepth 100000 in
theorem ptSecond_any (a : Pl) (x : PlX) (w : World) (h : PlR w x a.shares a.keys a.heard) (hN : PlN a) (hs : 1 ≤ a.step) :
    Calls Tryd.prog 133 #[.agg #[.int .i64 a.P, .int .i64 a.party, .int .i64 a.input, .int .i64 a.mask, .int .i64 a.delta, .slice x.sa x.sn x.sc, .slice x.ka x.kn x.kc, .int .i64 a.step, .slice x.ha x.hn x.hc, .int .i64 a.status, .int .i64 a.out]] w fun e w' => ∃ b c, e = .returned (.slice b 2 c) ∧ Flat 2 w' b 2 c [seV0 a, seT0 a, seV1 a, seT1 a] ∧ Below w.heap.size w w' := by
  have hp1 := hN.p1
  have hp2 := hN.p2
  have q0 := f0_rng hN hs
  have q1 := f1_rng hN hs
  have LH := Lib.hid h
  have CF := Lib.hid (fun (W : World) (h2 : PlR W x a.shares a.keys a.heard) => ptFirst_any a x W h2 hN hs)
  have rv0 := hN.sv 0 (by omega)
  have rt0 := hN.st 0 (by omega)
  have rv2 := hN.sv 2 (by omega)
  have rt2 := hN.st 2 (by omega)
  have rs0 := shfV_rng hN (shV a 0) (f0 a) rv0
  have CS0 := Lib.hid (fun (W : World) => ptShift_any a x (shV a 0) (shT a 0) (f0 a) W hN (by omega) (by omega))
  have CA0 := Lib.hid (fun (W : World) => (show Calls Tryd.prog 142 #[.int .i64 a.P, .agg #[.int .i64 (shfV a (shV a 0) (f0 a)), .int .i64 (shT a 0)], .agg #[.int .i64 (shV a 2), .int .i64 (shT a 2)], .int .i64 (a.P - 1)] W fun e w' => e = .returned (.agg #[.int .i64 (seV0 a), .int .i64 (seT0 a)]) ∧ Below W.heap.size W w' by rw [← seV0_eq hN, ← seT0_eq]; exact tgAdd_any a.P (shfV a (shV a 0) (f0 a)) (shT a 0) (shV a 2) (shT a 2) (a.P - 1) W (by omega) (by omega) rs0 rt0 rv2 rt2 (by omega)))
  have rv1 := hN.sv 1 (by omega)
  have rt1 := hN.st 1 (by omega)
  have rv3 := hN.sv 3 (by omega)
  have rt3 := hN.st 3 (by omega)
  have rs1 := shfV_rng hN (shV a 1) (f1 a) rv1
  have CS1 := Lib.hid (fun (W : World) => ptShift_any a x (shV a 1) (shT a 1) (f1 a) W hN (by omega) (by omega))
  have CA1 := Lib.hid (fun (W : World) => (show Calls Tryd.prog 142 #[.int .i64 a.P, .agg #[.int .i64 (shfV a (shV a 1) (f1 a)), .int .i64 (shT a 1)], .agg #[.int .i64 (shV a 3), .int .i64 (shT a 3)], .int .i64 (a.P - 1)] W fun e w' => e = .returned (.agg #[.int .i64 (seV1 a), .int .i64 (seT1 a)]) ∧ Below W.heap.size W w' by rw [← seV1_eq hN, ← seT1_eq]; exact tgAdd_any a.P (shfV a (shV a 1) (f1 a)) (shT a 1) (shV a 3) (shT a 3) (a.P - 1) W (by omega) (by omega) rs1 rt1 rv3 rt3 (by omega)))
  have t1 : IntKind.i64.wrap (a.P - 1) = a.P - 1 := IntWalk.i64_in _ (by omega)
  have sw0 : IntKind.i64.wrap 0 = 0 := IntWalk.i64_in _ (by omega)
  have sw1 : IntKind.i64.wrap 1 = 1 := IntWalk.i64_in _ (by omega)
  have sw2 : IntKind.i64.wrap 2 = 2 := IntWalk.i64_in _ (by omega)
  have sw3 : IntKind.i64.wrap 3 = 3 := IntWalk.i64_in _ (by omega)
  obtain ⟨hS, _⟩ := h
  have hs5 : x.sn = 5 := by have := hS.len; have := hN.sl; omega
  obtain ⟨gs, os, hsa, hc⟩ := hS.at (by omega)
  have hsn : (x.sn : Int) = 5 := by omega
  have y0 : w.cell? ⟨gs, os, none⟩ = some (.int .i64 (shV a 0)) := hc 0 (by omega)
  have y1 : w.cell? ⟨gs, os + 1, none⟩ = some (.int .i64 (shT a 0)) := hc 1 (by omega)
  have y2 : w.cell? ⟨gs, os + 2, none⟩ = some (.int .i64 (shV a 1)) := hc 2 (by omega)
  have y3 : w.cell? ⟨gs, os + 3, none⟩ = some (.int .i64 (shT a 1)) := hc 3 (by omega)
  have y4 : w.cell? ⟨gs, os + 4, none⟩ = some (.int .i64 (shV a 2)) := hc 4 (by omega)
  have y5 : w.cell? ⟨gs, os + 5, none⟩ = some (.int .i64 (shT a 2)) := hc 5 (by omega)
  have y6 : w.cell? ⟨gs, os + 6, none⟩ = some (.int .i64 (shV a 3)) := hc 6 (by omega)
  have y7 : w.cell? ⟨gs, os + 7, none⟩ = some (.int .i64 (shT a 3)) := hc 7 (by omega)
  clear hc hS hN hs
  obtain ⟨x_sa, x_sn, x_sc, x_ka, x_kn, x_kc, x_ha, x_hn, x_hc⟩ := x
  dsimp only at *
  subst hsa
  subst hs5
  go_enter Tryd.func133, Tryd.ntmps133
  go_wp2_with fail
  refine Exists.elim (Blk.new_ w (b := w.heap.size) rfl 31 #[.int .i64 a.P, .int .i64 a.party, .int .i64 a.input, .int .i64 a.mask, .int .i64 a.delta, .slice (some ⟨gs, os, none⟩) 5 x_sc, .slice x_ka x_kn x_kc, .int .i64 a.step, .slice x_ha x_hn x_hc, .int .i64 a.status, .int .i64 a.out]) (fun w1' q => ?_)
  rw [q.1]; have B_a := q.2.1; have s_w1' := q.2.2.1; have u_w1' := q.2.2.2; clear q
  have S_w1' : w.heap.size + 1 ≤ w1'.heap.size := Nat.le_of_eq s_w1'.symm
  have V_w1' := (Below.refl w.heap.size w).trans (u_w1'.mono ((Below.refl w.heap.size w)).size)
  clear u_w1' s_w1'
  refine (CF.out _ (LH.out.below V_w1')).mono ?_
  rintro e w2' ⟨bf, cf, rfl, hf, u_w2'⟩
  replace B_a := B_a.below u_w2'
  have S_w2' := u_w2'.size
  have V_w2' : Below w.heap.size w w2' := V_w1'.trans (u_w2'.mono V_w1'.size)
  clear V_w1'
  clear u_w2'
  obtain ⟨gf, of, rfl, hfc⟩ := hf.cells (by omega)
  have z0 := hfc 0 (by omega)
  have z1 := hfc 1 (by omega)
  rw [Nat.add_zero] at z0
  change w2'.cell? ⟨gf, of, none⟩ = some (.int .i64 (f0 a)) at z0
  change w2'.cell? ⟨gf, of + 1, none⟩ = some (.int .i64 (f1 a)) at z1
  clear hfc hf
  have VB := V_w2'
  have SB := V_w2'.size
  go_wp2
  go_loopw [4, 5] (fun u v wr => ∃ k : Nat, k ≤ 2 ∧ v = .int .i64 k ∧ Below w2'.heap.size w2' wr ∧ ∃ c5 d5, u = .slice c5 k d5 ∧ OwnF 2 eTagged wr w2'.heap.size c5 k d5 ([seV0 a, seT0 a, seV1 a, seT1 a].take (2 * k))) (fun _ v _ => 2 - (intOf v).toNat)
  case atStart => exact ⟨0, by omega, rfl, Below.refl _ _, _, _, rfl, OwnC.nil0 _ _ _ _ _⟩
  case round =>
    obtain ⟨k, hk, rfl, hbel, c5, d5, rfl, own⟩ := hrel
    have B_a := B_a.below hbel
    have V_wr := V_w2'.trans (hbel.mono V_w2'.size)
    have S_wr := hbel.size
    by_cases hlt : k < 2
    · have hcase : k = 0 ∨ k = 1 := by omega
      rcases hcase with rfl | rfl
      · skip
        have own' : OwnF 2 eTagged wr w2'.heap.size c5 0 d5 [] := own
        clear own
        rw [show ((0 : Nat) : Int) = 0 from rfl]
        have QF := Lib.hid own'.feet
        have ga := World.block_lt_of_cell? w _ y0
        dsimp only at ga
        have Na : w.heap.size ∉ foot c5 d5 := fun hq => by have := QF.out _ hq; have := S_w1'; have := S_w2'; omega
        have Ng : gs ∉ foot c5 d5 := fun hq => by have := QF.out _ hq; have := SB; omega
        have SR : w2'.heap.size ≤ wr.heap.size := hbel.size
        have p0 := keepC V_wr y0
        have p1 := keepC V_wr y1
        have p2 := keepC V_wr y4
        have p3 := keepC V_wr y5
        have p4 := keepC hbel z0
        go_wp2
        have e_a_0 := B_a.a11_0
        have e_a_1 := B_a.a11_1
        have e_a_2 := B_a.a11_2
        have e_a_3 := B_a.a11_3
        have e_a_4 := B_a.a11_4
        have e_a_5 := B_a.a11_5
        have e_a_6 := B_a.a11_6
        have e_a_7 := B_a.a11_7
        have e_a_8 := B_a.a11_8
        have e_a_9 := B_a.a11_9
        have e_a_10 := B_a.a11_10
        go_region_held3 (fun W => W.cell? ⟨w.heap.size, 0, none⟩ = some (.int .i64 a.P) ∧ W.cell? ⟨w.heap.size, 1, none⟩ = some (.int .i64 a.party) ∧ W.cell? ⟨w.heap.size, 2, none⟩ = some (.int .i64 a.input) ∧ W.cell? ⟨w.heap.size, 3, none⟩ = some (.int .i64 a.mask) ∧ W.cell? ⟨w.heap.size, 4, none⟩ = some (.int .i64 a.delta) ∧ W.cell? ⟨w.heap.size, 5, none⟩ = some (.slice (some ⟨gs, os, none⟩) 5 x_sc) ∧ W.cell? ⟨w.heap.size, 6, none⟩ = some (.slice x_ka x_kn x_kc) ∧ W.cell? ⟨w.heap.size, 7, none⟩ = some (.int .i64 a.step) ∧ W.cell? ⟨w.heap.size, 8, none⟩ = some (.slice x_ha x_hn x_hc) ∧ W.cell? ⟨w.heap.size, 9, none⟩ = some (.int .i64 a.status) ∧ W.cell? ⟨w.heap.size, 10, none⟩ = some (.int .i64 a.out) ∧ W.cell? ⟨gs, os, none⟩ = some (.int .i64 (shV a 0)) ∧ W.cell? ⟨gs, os + 1, none⟩ = some (.int .i64 (shT a 0)) ∧ W.cell? ⟨gf, of, none⟩ = some (.int .i64 (f0 a)))
          (first | exact ⟨e_a, p0, p1, p4⟩ | exact ⟨keepA _ e_a_0, keepA _ e_a_1, keepA _ e_a_2, keepA _ e_a_3, keepA _ e_a_4, keepA _ e_a_5, keepA _ e_a_6, keepA _ e_a_7, keepA _ e_a_8, keepA _ e_a_9, keepA _ e_a_10, keepA _ p0, keepA _ p1, keepA _ p4⟩ | exact ⟨keepC u (keepA _ e_a_0), keepC u (keepA _ e_a_1), keepC u (keepA _ e_a_2), keepC u (keepA _ e_a_3), keepC u (keepA _ e_a_4), keepC u (keepA _ e_a_5), keepC u (keepA _ e_a_6), keepC u (keepA _ e_a_7), keepC u (keepA _ e_a_8), keepC u (keepA _ e_a_9), keepC u (keepA _ e_a_10), keepC u (keepA _ p0), keepC u (keepA _ p1), keepC u (keepA _ p4)⟩ | exact ⟨keepC u e_a_0, keepC u e_a_1, keepC u e_a_2, keepC u e_a_3, keepC u e_a_4, keepC u e_a_5, keepC u e_a_6, keepC u e_a_7, keepC u e_a_8, keepC u e_a_9, keepC u e_a_10, keepC u p0, keepC u p1, keepC u p4⟩ | exact ⟨keepA _ (keepC u e_a_0), keepA _ (keepC u e_a_1), keepA _ (keepC u e_a_2), keepA _ (keepC u e_a_3), keepA _ (keepC u e_a_4), keepA _ (keepC u e_a_5), keepA _ (keepC u e_a_6), keepA _ (keepC u e_a_7), keepA _ (keepC u e_a_8), keepA _ (keepC u e_a_9), keepA _ (keepC u e_a_10), keepA _ (keepC u p0), keepA _ (keepC u p1), keepA _ (keepC u p4)⟩ | exact ⟨keepS e_a_0 _ _ (keepS e_a_0 _ _ (keepC u (keepA _ e_a_0))), keepS e_a_1 _ _ (keepS e_a_1 _ _ (keepC u (keepA _ e_a_1))), keepS e_a_2 _ _ (keepS e_a_2 _ _ (keepC u (keepA _ e_a_2))), keepS e_a_3 _ _ (keepS e_a_3 _ _ (keepC u (keepA _ e_a_3))), keepS e_a_4 _ _ (keepS e_a_4 _ _ (keepC u (keepA _ e_a_4))), keepS e_a_5 _ _ (keepS e_a_5 _ _ (keepC u (keepA _ e_a_5))), keepS e_a_6 _ _ (keepS e_a_6 _ _ (keepC u (keepA _ e_a_6))), keepS e_a_7 _ _ (keepS e_a_7 _ _ (keepC u (keepA _ e_a_7))), keepS e_a_8 _ _ (keepS e_a_8 _ _ (keepC u (keepA _ e_a_8))), keepS e_a_9 _ _ (keepS e_a_9 _ _ (keepC u (keepA _ e_a_9))), keepS e_a_10 _ _ (keepS e_a_10 _ _ (keepC u (keepA _ e_a_10))), keepS p0 _ _ (keepS p0 _ _ (keepC u (keepA _ p0))), keepS p1 _ _ (keepS p1 _ _ (keepC u (keepA _ p1))), keepS p4 _ _ (keepS p4 _ _ (keepC u (keepA _ p4)))⟩ | go_keep)
          (first | (go_at_call 143; refine (CS0.out _).mono ?_; rintro e wz ⟨rfl, u⟩; have BO : Blk wz wr.heap.size 81 #[.int .i64 0, .int .i64 0] := Blk.below (Blk.new wr 81 #[.int .i64 0, .int .i64 0]).drew u; have bo0 : wz.cell? ⟨wr.heap.size, 0, none⟩ = some (.int .i64 0) := BO.cell 0; have bf0 : wz.frozen? ⟨wr.heap.size, 0, none⟩ = false := BO.frozen 0; have bo1 : wz.cell? ⟨wr.heap.size, 1, none⟩ = some (.int .i64 0) := BO.cell 1; have bf1 : wz.frozen? ⟨wr.heap.size, 1, none⟩ = false := BO.frozen 1) | (go_at_call 143; refine (CS0.out _).mono ?_; rintro e wz ⟨rfl, u⟩))
        all_goals first
          | (have u1 : Below wr.heap.size wr wz := ((Below.refl _ wr).alloc (Nat.le_refl _) (.cells #[.int .i64 0, .int .i64 0] 81)).drew.trans (u.mono (by simp))
             have G : Only [wr.heap.size] wz ((wz.setCell ⟨wr.heap.size, 0, none⟩ (.int .i64 (shfV a (shV a 0) (f0 a)))).setCell ⟨wr.heap.size, 1, none⟩ (.int .i64 (shT a 0))) := (((Only.refl [wr.heap.size] wz).setCell ⟨wr.heap.size, 0, none⟩ (.int .i64 (shfV a (shV a 0) (f0 a))) (by simp)).setCell ⟨wr.heap.size, 1, none⟩ (.int .i64 (shT a 0)) (by simp))
             have hV : Below wr.heap.size wr ((wz.setCell ⟨wr.heap.size, 0, none⟩ (.int .i64 (shfV a (shV a 0) (f0 a)))).setCell ⟨wr.heap.size, 1, none⟩ (.int .i64 (shT a 0))) := u1.trans (G.below u1.size (fun q hq => by simp at hq; omega))
             have B_y : Blk ((wz.setCell ⟨wr.heap.size, 0, none⟩ (.int .i64 (shfV a (shV a 0) (f0 a)))).setCell ⟨wr.heap.size, 1, none⟩ (.int .i64 (shT a 0))) wr.heap.size 81 #[.int .i64 (shfV a (shV a 0) (f0 a)), .int .i64 (shT a 0)] := ((BO.set_ 0 (.int .i64 (shfV a (shV a 0) (f0 a)))).set_ 1 (.int .i64 (shT a 0)))
             have hob : wr.heap.size ≤ wr.heap.size := Nat.le_refl _
             clear G u1 u BO bo0 bf0 bo1 bf1
             generalize ((wz.setCell ⟨wr.heap.size, 0, none⟩ (.int .i64 (shfV a (shV a 0) (f0 a)))).setCell ⟨wr.heap.size, 1, none⟩ (.int .i64 (shT a 0))) = WW at *
             generalize hob' : wr.heap.size = ob at B_y ⊢
             rw [hob'] at hob
             replace hob : wr.heap.size ≤ ob := by omega
             clear hob')
          | (have u1 : Below wr.heap.size wr wz := (Below.refl _ wr).drew.trans u
             have hV : Below wr.heap.size wr (wz.alloc (.cells #[.int .i64 (shfV a (shV a 0) (f0 a)), .int .i64 (shT a 0)] 81)) := u1.alloc u1.size _
             have B_y : Blk (wz.alloc (.cells #[.int .i64 (shfV a (shV a 0) (f0 a)), .int .i64 (shT a 0)] 81)) wz.heap.size 81 #[.int .i64 (shfV a (shV a 0) (f0 a)), .int .i64 (shT a 0)] := Blk.new _ _ _
             have hob : wr.heap.size ≤ wz.heap.size := u1.size
             clear u1 u
             generalize wz.alloc (.cells #[.int .i64 (shfV a (shV a 0) (f0 a)), .int .i64 (shT a 0)] 81) = WW at *
             generalize wz.heap.size = ob at *)
        all_goals
          have hb9 := hbel.trans (hV.mono hbel.size)
          have No : ob ∉ foot c5 d5 := fun hq => by have := (QF.out _ hq).2; omega
          have r2 := keepC hV p2
          have r3 := keepC hV p3
          clear p0 p1 p2 p3 p4
          clear e_a_0 e_a_1 e_a_2 e_a_3 e_a_4 e_a_5 e_a_6 e_a_7 e_a_8 e_a_9 e_a_10
          replace B_a := B_a.below hV
          replace own' := own'.below hV
          have S_WW := hV.size
          have V_WW : Below w.heap.size w WW := V_wr.trans (hV.mono V_wr.size)
          clear V_wr
          clear hV
          have e_a_0 := B_a.a11_0
          have e_a_1 := B_a.a11_1
          have e_a_2 := B_a.a11_2
          have e_a_3 := B_a.a11_3
          have e_a_4 := B_a.a11_4
          have e_a_5 := B_a.a11_5
          have e_a_6 := B_a.a11_6
          have e_a_7 := B_a.a11_7
          have e_a_8 := B_a.a11_8
          have e_a_9 := B_a.a11_9
          have e_a_10 := B_a.a11_10
          have e_y_0 := B_y.a2_0
          have e_y_1 := B_y.a2_1
          go_wp2
          go_region_held3 (fun W => W.cell? ⟨w.heap.size, 0, none⟩ = some (.int .i64 a.P) ∧ W.cell? ⟨w.heap.size, 1, none⟩ = some (.int .i64 a.party) ∧ W.cell? ⟨w.heap.size, 2, none⟩ = some (.int .i64 a.input) ∧ W.cell? ⟨w.heap.size, 3, none⟩ = some (.int .i64 a.mask) ∧ W.cell? ⟨w.heap.size, 4, none⟩ = some (.int .i64 a.delta) ∧ W.cell? ⟨w.heap.size, 5, none⟩ = some (.slice (some ⟨gs, os, none⟩) 5 x_sc) ∧ W.cell? ⟨w.heap.size, 6, none⟩ = some (.slice x_ka x_kn x_kc) ∧ W.cell? ⟨w.heap.size, 7, none⟩ = some (.int .i64 a.step) ∧ W.cell? ⟨w.heap.size, 8, none⟩ = some (.slice x_ha x_hn x_hc) ∧ W.cell? ⟨w.heap.size, 9, none⟩ = some (.int .i64 a.status) ∧ W.cell? ⟨w.heap.size, 10, none⟩ = some (.int .i64 a.out) ∧ W.cell? ⟨ob, 0, none⟩ = some (.int .i64 (shfV a (shV a 0) (f0 a))) ∧ W.cell? ⟨ob, 1, none⟩ = some (.int .i64 (shT a 0)) ∧ W.cell? ⟨gs, os + 4, none⟩ = some (.int .i64 (shV a 2)) ∧ W.cell? ⟨gs, os + 5, none⟩ = some (.int .i64 (shT a 2)))
            (first | exact ⟨e_a, e_y, r2, r3⟩ | exact ⟨keepC u e_a_0, keepC u e_a_1, keepC u e_a_2, keepC u e_a_3, keepC u e_a_4, keepC u e_a_5, keepC u e_a_6, keepC u e_a_7, keepC u e_a_8, keepC u e_a_9, keepC u e_a_10, keepC u e_y_0, keepC u e_y_1, keepC u r2, keepC u r3⟩ | exact ⟨keepA _ (keepC u e_a_0), keepA _ (keepC u e_a_1), keepA _ (keepC u e_a_2), keepA _ (keepC u e_a_3), keepA _ (keepC u e_a_4), keepA _ (keepC u e_a_5), keepA _ (keepC u e_a_6), keepA _ (keepC u e_a_7), keepA _ (keepC u e_a_8), keepA _ (keepC u e_a_9), keepA _ (keepC u e_a_10), keepA _ (keepC u e_y_0), keepA _ (keepC u e_y_1), keepA _ (keepC u r2), keepA _ (keepC u r3)⟩ | exact ⟨keepGr g6 Na (keepA _ (keepC u e_a_0)), keepGr g6 Na (keepA _ (keepC u e_a_1)), keepGr g6 Na (keepA _ (keepC u e_a_2)), keepGr g6 Na (keepA _ (keepC u e_a_3)), keepGr g6 Na (keepA _ (keepC u e_a_4)), keepGr g6 Na (keepA _ (keepC u e_a_5)), keepGr g6 Na (keepA _ (keepC u e_a_6)), keepGr g6 Na (keepA _ (keepC u e_a_7)), keepGr g6 Na (keepA _ (keepC u e_a_8)), keepGr g6 Na (keepA _ (keepC u e_a_9)), keepGr g6 Na (keepA _ (keepC u e_a_10)), keepGr g6 No (keepA _ (keepC u e_y_0)), keepGr g6 No (keepA _ (keepC u e_y_1)), keepGr g6 Ng (keepA _ (keepC u r2)), keepGr g6 Ng (keepA _ (keepC u r3))⟩ | go_keep)
            (first | (go_at_call 142; refine (CA0.out _).mono ?_; rintro e wz ⟨rfl, u⟩; have own2 := own'.below ((Below.refl _ _).drew.trans u); have SZ : WW.heap.size ≤ wz.heap.size := u.size) | (refine step_appT (by rfl) _ _ (by rfl) w2'.heap.size c5 0 d5 _ (by rfl) (by first | exact OwnF.alloc own2 _ | exact OwnF.drew (OwnF.alloc own2 _)) _ 1 1 [.int .i64 (seV0 a), .int .i64 (seT0 a)] (by rfl) (by first | exact (OwnC.lit wz wz.heap.size 1 81 2 [.int .i64 (seV0 a), .int .i64 (seT0 a)] (Nat.le_refl _) rfl (by simp [maxLen])).row | exact RowC.drew (OwnC.lit wz wz.heap.size 1 81 2 [.int .i64 (seV0 a), .int .i64 (seT0 a)] (Nat.le_refl _) rfl (by simp [maxLen])).row) (by simp [Value.oneCell']) (by omega) (by have := hb9.size; simp; omega) ?_; intro a6 c6 w6 o6 u6 g6 m6))
          have u9 := (Below.refl _ _).drew.trans u
          have hb8 := hb9.trans (u9.mono hb9.size)
          have hb7 := (hb8.alloc hb8.size _).trans (by first | exact u6 | exact (Below.refl _ _).drew.trans u6)
          clear u6 u u9 hb8 hb9 g6 m6 own' own2
          go_wp2
          go_roundw
          case rel => exact ⟨0 + 1, by omega, by go_num, hb7, a6, c6, rfl, o6⟩
          case measure => simp [intOf]
      · skip
        have own' : OwnF 2 eTagged wr w2'.heap.size c5 1 d5 [seV0 a, seT0 a] := own
        clear own
        rw [show ((1 : Nat) : Int) = 1 from rfl]
        have QF := Lib.hid own'.feet
        have ga := World.block_lt_of_cell? w _ y0
        dsimp only at ga
        have Na : w.heap.size ∉ foot c5 d5 := fun hq => by have := QF.out _ hq; have := S_w1'; have := S_w2'; omega
        have Ng : gs ∉ foot c5 d5 := fun hq => by have := QF.out _ hq; have := SB; omega
        have SR : w2'.heap.size ≤ wr.heap.size := hbel.size
        have p0 := keepC V_wr y2
        have p1 := keepC V_wr y3
        have p2 := keepC V_wr y6
        have p3 := keepC V_wr y7
        have p4 := keepC hbel z1
        go_wp2
        have e_a_0 := B_a.a11_0
        have e_a_1 := B_a.a11_1
        have e_a_2 := B_a.a11_2
        have e_a_3 := B_a.a11_3
        have e_a_4 := B_a.a11_4
        have e_a_5 := B_a.a11_5
        have e_a_6 := B_a.a11_6
        have e_a_7 := B_a.a11_7
        have e_a_8 := B_a.a11_8
        have e_a_9 := B_a.a11_9
        have e_a_10 := B_a.a11_10
        go_region_held3 (fun W => W.cell? ⟨w.heap.size, 0, none⟩ = some (.int .i64 a.P) ∧ W.cell? ⟨w.heap.size, 1, none⟩ = some (.int .i64 a.party) ∧ W.cell? ⟨w.heap.size, 2, none⟩ = some (.int .i64 a.input) ∧ W.cell? ⟨w.heap.size, 3, none⟩ = some (.int .i64 a.mask) ∧ W.cell? ⟨w.heap.size, 4, none⟩ = some (.int .i64 a.delta) ∧ W.cell? ⟨w.heap.size, 5, none⟩ = some (.slice (some ⟨gs, os, none⟩) 5 x_sc) ∧ W.cell? ⟨w.heap.size, 6, none⟩ = some (.slice x_ka x_kn x_kc) ∧ W.cell? ⟨w.heap.size, 7, none⟩ = some (.int .i64 a.step) ∧ W.cell? ⟨w.heap.size, 8, none⟩ = some (.slice x_ha x_hn x_hc) ∧ W.cell? ⟨w.heap.size, 9, none⟩ = some (.int .i64 a.status) ∧ W.cell? ⟨w.heap.size, 10, none⟩ = some (.int .i64 a.out) ∧ W.cell? ⟨gs, os + 2, none⟩ = some (.int .i64 (shV a 1)) ∧ W.cell? ⟨gs, os + 3, none⟩ = some (.int .i64 (shT a 1)) ∧ W.cell? ⟨gf, of + 1, none⟩ = some (.int .i64 (f1 a)))
          (first | exact ⟨e_a, p0, p1, p4⟩ | exact ⟨keepA _ e_a_0, keepA _ e_a_1, keepA _ e_a_2, keepA _ e_a_3, keepA _ e_a_4, keepA _ e_a_5, keepA _ e_a_6, keepA _ e_a_7, keepA _ e_a_8, keepA _ e_a_9, keepA _ e_a_10, keepA _ p0, keepA _ p1, keepA _ p4⟩ | exact ⟨keepC u (keepA _ e_a_0), keepC u (keepA _ e_a_1), keepC u (keepA _ e_a_2), keepC u (keepA _ e_a_3), keepC u (keepA _ e_a_4), keepC u (keepA _ e_a_5), keepC u (keepA _ e_a_6), keepC u (keepA _ e_a_7), keepC u (keepA _ e_a_8), keepC u (keepA _ e_a_9), keepC u (keepA _ e_a_10), keepC u (keepA _ p0), keepC u (keepA _ p1), keepC u (keepA _ p4)⟩ | exact ⟨keepC u e_a_0, keepC u e_a_1, keepC u e_a_2, keepC u e_a_3, keepC u e_a_4, keepC u e_a_5, keepC u e_a_6, keepC u e_a_7, keepC u e_a_8, keepC u e_a_9, keepC u e_a_10, keepC u p0, keepC u p1, keepC u p4⟩ | exact ⟨keepA _ (keepC u e_a_0), keepA _ (keepC u e_a_1), keepA _ (keepC u e_a_2), keepA _ (keepC u e_a_3), keepA _ (keepC u e_a_4), keepA _ (keepC u e_a_5), keepA _ (keepC u e_a_6), keepA _ (keepC u e_a_7), keepA _ (keepC u e_a_8), keepA _ (keepC u e_a_9), keepA _ (keepC u e_a_10), keepA _ (keepC u p0), keepA _ (keepC u p1), keepA _ (keepC u p4)⟩ | exact ⟨keepS e_a_0 _ _ (keepS e_a_0 _ _ (keepC u (keepA _ e_a_0))), keepS e_a_1 _ _ (keepS e_a_1 _ _ (keepC u (keepA _ e_a_1))), keepS e_a_2 _ _ (keepS e_a_2 _ _ (keepC u (keepA _ e_a_2))), keepS e_a_3 _ _ (keepS e_a_3 _ _ (keepC u (keepA _ e_a_3))), keepS e_a_4 _ _ (keepS e_a_4 _ _ (keepC u (keepA _ e_a_4))), keepS e_a_5 _ _ (keepS e_a_5 _ _ (keepC u (keepA _ e_a_5))), keepS e_a_6 _ _ (keepS e_a_6 _ _ (keepC u (keepA _ e_a_6))), keepS e_a_7 _ _ (keepS e_a_7 _ _ (keepC u (keepA _ e_a_7))), keepS e_a_8 _ _ (keepS e_a_8 _ _ (keepC u (keepA _ e_a_8))), keepS e_a_9 _ _ (keepS e_a_9 _ _ (keepC u (keepA _ e_a_9))), keepS e_a_10 _ _ (keepS e_a_10 _ _ (keepC u (keepA _ e_a_10))), keepS p0 _ _ (keepS p0 _ _ (keepC u (keepA _ p0))), keepS p1 _ _ (keepS p1 _ _ (keepC u (keepA _ p1))), keepS p4 _ _ (keepS p4 _ _ (keepC u (keepA _ p4)))⟩ | go_keep)
          (first | (go_at_call 143; refine (CS1.out _).mono ?_; rintro e wz ⟨rfl, u⟩; have BO : Blk wz wr.heap.size 81 #[.int .i64 0, .int .i64 0] := Blk.below (Blk.new wr 81 #[.int .i64 0, .int .i64 0]).drew u; have bo0 : wz.cell? ⟨wr.heap.size, 0, none⟩ = some (.int .i64 0) := BO.cell 0; have bf0 : wz.frozen? ⟨wr.heap.size, 0, none⟩ = false := BO.frozen 0; have bo1 : wz.cell? ⟨wr.heap.size, 1, none⟩ = some (.int .i64 0) := BO.cell 1; have bf1 : wz.frozen? ⟨wr.heap.size, 1, none⟩ = false := BO.frozen 1) | (go_at_call 143; refine (CS1.out _).mono ?_; rintro e wz ⟨rfl, u⟩))
        all_goals first
          | (have u1 : Below wr.heap.size wr wz := ((Below.refl _ wr).alloc (Nat.le_refl _) (.cells #[.int .i64 0, .int .i64 0] 81)).drew.trans (u.mono (by simp))
             have G : Only [wr.heap.size] wz ((wz.setCell ⟨wr.heap.size, 0, none⟩ (.int .i64 (shfV a (shV a 1) (f1 a)))).setCell ⟨wr.heap.size, 1, none⟩ (.int .i64 (shT a 1))) := (((Only.refl [wr.heap.size] wz).setCell ⟨wr.heap.size, 0, none⟩ (.int .i64 (shfV a (shV a 1) (f1 a))) (by simp)).setCell ⟨wr.heap.size, 1, none⟩ (.int .i64 (shT a 1)) (by simp))
             have hV : Below wr.heap.size wr ((wz.setCell ⟨wr.heap.size, 0, none⟩ (.int .i64 (shfV a (shV a 1) (f1 a)))).setCell ⟨wr.heap.size, 1, none⟩ (.int .i64 (shT a 1))) := u1.trans (G.below u1.size (fun q hq => by simp at hq; omega))
             have B_y : Blk ((wz.setCell ⟨wr.heap.size, 0, none⟩ (.int .i64 (shfV a (shV a 1) (f1 a)))).setCell ⟨wr.heap.size, 1, none⟩ (.int .i64 (shT a 1))) wr.heap.size 81 #[.int .i64 (shfV a (shV a 1) (f1 a)), .int .i64 (shT a 1)] := ((BO.set_ 0 (.int .i64 (shfV a (shV a 1) (f1 a)))).set_ 1 (.int .i64 (shT a 1)))
             have hob : wr.heap.size ≤ wr.heap.size := Nat.le_refl _
             clear G u1 u BO bo0 bf0 bo1 bf1
             generalize ((wz.setCell ⟨wr.heap.size, 0, none⟩ (.int .i64 (shfV a (shV a 1) (f1 a)))).setCell ⟨wr.heap.size, 1, none⟩ (.int .i64 (shT a 1))) = WW at *
             generalize hob' : wr.heap.size = ob at B_y ⊢
             rw [hob'] at hob
             replace hob : wr.heap.size ≤ ob := by omega
             clear hob')
          | (have u1 : Below wr.heap.size wr wz := (Below.refl _ wr).drew.trans u
             have hV : Below wr.heap.size wr (wz.alloc (.cells #[.int .i64 (shfV a (shV a 1) (f1 a)), .int .i64 (shT a 1)] 81)) := u1.alloc u1.size _
             have B_y : Blk (wz.alloc (.cells #[.int .i64 (shfV a (shV a 1) (f1 a)), .int .i64 (shT a 1)] 81)) wz.heap.size 81 #[.int .i64 (shfV a (shV a 1) (f1 a)), .int .i64 (shT a 1)] := Blk.new _ _ _
             have hob : wr.heap.size ≤ wz.heap.size := u1.size
             clear u1 u
             generalize wz.alloc (.cells #[.int .i64 (shfV a (shV a 1) (f1 a)), .int .i64 (shT a 1)] 81) = WW at *
             generalize wz.heap.size = ob at *)
        all_goals
          have hb9 := hbel.trans (hV.mono hbel.size)
          have No : ob ∉ foot c5 d5 := fun hq => by have := (QF.out _ hq).2; omega
          have r2 := keepC hV p2
          have r3 := keepC hV p3
          clear p0 p1 p2 p3 p4
          clear e_a_0 e_a_1 e_a_2 e_a_3 e_a_4 e_a_5 e_a_6 e_a_7 e_a_8 e_a_9 e_a_10
          replace B_a := B_a.below hV
          replace own' := own'.below hV
          have S_WW := hV.size
          have V_WW : Below w.heap.size w WW := V_wr.trans (hV.mono V_wr.size)
          clear V_wr
          clear hV
          have e_a_0 := B_a.a11_0
          have e_a_1 := B_a.a11_1
          have e_a_2 := B_a.a11_2
          have e_a_3 := B_a.a11_3
          have e_a_4 := B_a.a11_4
          have e_a_5 := B_a.a11_5
          have e_a_6 := B_a.a11_6
          have e_a_7 := B_a.a11_7
          have e_a_8 := B_a.a11_8
          have e_a_9 := B_a.a11_9
          have e_a_10 := B_a.a11_10
          have e_y_0 := B_y.a2_0
          have e_y_1 := B_y.a2_1
          go_wp2
          go_region_held3 (fun W => W.cell? ⟨w.heap.size, 0, none⟩ = some (.int .i64 a.P) ∧ W.cell? ⟨w.heap.size, 1, none⟩ = some (.int .i64 a.party) ∧ W.cell? ⟨w.heap.size, 2, none⟩ = some (.int .i64 a.input) ∧ W.cell? ⟨w.heap.size, 3, none⟩ = some (.int .i64 a.mask) ∧ W.cell? ⟨w.heap.size, 4, none⟩ = some (.int .i64 a.delta) ∧ W.cell? ⟨w.heap.size, 5, none⟩ = some (.slice (some ⟨gs, os, none⟩) 5 x_sc) ∧ W.cell? ⟨w.heap.size, 6, none⟩ = some (.slice x_ka x_kn x_kc) ∧ W.cell? ⟨w.heap.size, 7, none⟩ = some (.int .i64 a.step) ∧ W.cell? ⟨w.heap.size, 8, none⟩ = some (.slice x_ha x_hn x_hc) ∧ W.cell? ⟨w.heap.size, 9, none⟩ = some (.int .i64 a.status) ∧ W.cell? ⟨w.heap.size, 10, none⟩ = some (.int .i64 a.out) ∧ W.cell? ⟨ob, 0, none⟩ = some (.int .i64 (shfV a (shV a 1) (f1 a))) ∧ W.cell? ⟨ob, 1, none⟩ = some (.int .i64 (shT a 1)) ∧ W.cell? ⟨gs, os + 6, none⟩ = some (.int .i64 (shV a 3)) ∧ W.cell? ⟨gs, os + 7, none⟩ = some (.int .i64 (shT a 3)))
            (first | exact ⟨e_a, e_y, r2, r3⟩ | exact ⟨keepC u e_a_0, keepC u e_a_1, keepC u e_a_2, keepC u e_a_3, keepC u e_a_4, keepC u e_a_5, keepC u e_a_6, keepC u e_a_7, keepC u e_a_8, keepC u e_a_9, keepC u e_a_10, keepC u e_y_0, keepC u e_y_1, keepC u r2, keepC u r3⟩ | exact ⟨keepA _ (keepC u e_a_0), keepA _ (keepC u e_a_1), keepA _ (keepC u e_a_2), keepA _ (keepC u e_a_3), keepA _ (keepC u e_a_4), keepA _ (keepC u e_a_5), keepA _ (keepC u e_a_6), keepA _ (keepC u e_a_7), keepA _ (keepC u e_a_8), keepA _ (keepC u e_a_9), keepA _ (keepC u e_a_10), keepA _ (keepC u e_y_0), keepA _ (keepC u e_y_1), keepA _ (keepC u r2), keepA _ (keepC u r3)⟩ | exact ⟨keepGr g6 Na (keepA _ (keepC u e_a_0)), keepGr g6 Na (keepA _ (keepC u e_a_1)), keepGr g6 Na (keepA _ (keepC u e_a_2)), keepGr g6 Na (keepA _ (keepC u e_a_3)), keepGr g6 Na (keepA _ (keepC u e_a_4)), keepGr g6 Na (keepA _ (keepC u e_a_5)), keepGr g6 Na (keepA _ (keepC u e_a_6)), keepGr g6 Na (keepA _ (keepC u e_a_7)), keepGr g6 Na (keepA _ (keepC u e_a_8)), keepGr g6 Na (keepA _ (keepC u e_a_9)), keepGr g6 Na (keepA _ (keepC u e_a_10)), keepGr g6 No (keepA _ (keepC u e_y_0)), keepGr g6 No (keepA _ (keepC u e_y_1)), keepGr g6 Ng (keepA _ (keepC u r2)), keepGr g6 Ng (keepA _ (keepC u r3))⟩ | go_keep)
            (first | (go_at_call 142; refine (CA1.out _).mono ?_; rintro e wz ⟨rfl, u⟩; have own2 := own'.below ((Below.refl _ _).drew.trans u); have SZ : WW.heap.size ≤ wz.heap.size := u.size) | (refine step_appT (by rfl) _ _ (by rfl) w2'.heap.size c5 1 d5 _ (by rfl) (by first | exact OwnF.alloc own2 _ | exact OwnF.drew (OwnF.alloc own2 _)) _ 1 1 [.int .i64 (seV1 a), .int .i64 (seT1 a)] (by rfl) (by first | exact (OwnC.lit wz wz.heap.size 1 81 2 [.int .i64 (seV1 a), .int .i64 (seT1 a)] (Nat.le_refl _) rfl (by simp [maxLen])).row | exact RowC.drew (OwnC.lit wz wz.heap.size 1 81 2 [.int .i64 (seV1 a), .int .i64 (seT1 a)] (Nat.le_refl _) rfl (by simp [maxLen])).row) (by simp [Value.oneCell']) (by omega) (by have := hb9.size; simp; omega) ?_; intro a6 c6 w6 o6 u6 g6 m6))
          have u9 := (Below.refl _ _).drew.trans u
          have hb8 := hb9.trans (u9.mono hb9.size)
          have hb7 := (hb8.alloc hb8.size _).trans (by first | exact u6 | exact (Below.refl _ _).drew.trans u6)
          clear u6 u u9 hb8 hb9 g6 m6 own' own2
          go_wp2
          go_roundw
          case rel => exact ⟨1 + 1, by omega, by go_num, hb7, a6, c6, rfl, o6⟩
          case measure => simp [intOf]
    · obtain rfl : k = 2 := by omega
      have own' : OwnF 2 eTagged wr w2'.heap.size c5 2 d5 [seV0 a, seT0 a, seV1 a, seT1 a] := own
      go_wp2
      go_ret
      exact ⟨_, _, rfl, own'.flat, VB.trans (hbel.mono SB)⟩
end Go.Proofs.YtlmdckcohoddnaaDoor
namespace Go.Proofs.YtlmdckcohoddnaaDoor
open Go.RowKit
set_option maxHeartbeats 8000000 in
set_option maxRecDepth 100000 in
theorem ptSums_any (a : Pl) (x : PlX) (w : World) (h : PlR w x a.shares a.keys a.heard) (hN : PlN a) (hs : 2 ≤ a.step) :
    Calls Tryd.prog 141 #[.agg #[.int .i64 a.P, .int .i64 a.party, .int .i64 a.input, .int .i64 a.mask, .int .i64 a.delta, .slice x.sa x.sn x.sc, .slice x.ka x.kn x.kc, .int .i64 a.step, .slice x.ha x.hn x.hc, .int .i64 a.status, .int .i64 a.out]] w fun e w' => e = .returned (.tuple #[.int .i64 (dI a), .int .i64 (eI a)]) ∧ Below w.heap.size w w' := by
  have hp1 := hN.p1
  have hp2 := hN.p2
  have hlen := hN.hl
  have hd0 := (hN.hb 1 (by omega)).2 0 (by decide)
  have hd2 := (hN.hb 1 (by omega)).2 2 (by decide)
  have v0 := cmb_rng a.P (shV a) 1 0 (-1) 0 0 (mor a (f0 a)) (by omega)
  have v1 := cmb_rng a.P (shV a) 0 1 0 (-1) 0 (mor a (f1 a)) (by omega)
  change 0 ≤ seV0 a ∧ seV0 a ≤ a.P - 1 at v0
  change 0 ≤ seV1 a ∧ seV1 a ≤ a.P - 1 at v1
  have CF := Lib.hid (fun (W : World) (h2 : PlR W x a.shares a.keys a.heard) => ptSecond_any a x W h2 hN (by omega))
  obtain ⟨hhn, g, o, r, hx, e0, inn, hr⟩ := h.hd 1 (by omega)
  have hrl := (hN.hb 1 (by omega)).1
  rw [← hr] at hrl
  have hrl' : r.2.2.length = 4 := hrl
  obtain ⟨g2, o2, hr1, e1⟩ := inn.at 0 (by omega)
  obtain ⟨g3, o3, hr3, e3⟩ := inn.at 2 (by omega)
  rw [hr1] at hr3
  cases hr3
  have hv : r.2.2.getD 0 0 = hdI a 1 0 := by rw [hr]; rfl
  have hv3 : r.2.2.getD 2 0 = hdI a 1 2 := by rw [hr]; rfl
  rw [hv] at e1
  rw [hv3] at e3
  rw [hr1, hrl'] at e0
  have hnp : (1 : Int) < (x.hn : Int) := by omega
  have LH := Lib.hid h
  clear hr hrl hrl' hr1 hv hv3 inn hhn hlen hN hs h
  simp only [Nat.add_zero] at e1
  obtain ⟨x_sa, x_sn, x_sc, x_ka, x_kn, x_kc, x_ha, x_hn, x_hc⟩ := x
  dsimp only at *
  subst hx
  have HD : Hid ((seV0 a + hdI a 1 0) % a.P = dI a) := Lib.hid rfl
  have HE : Hid ((seV1 a + hdI a 1 2) % a.P = eI a) := Lib.hid rfl
  generalize dI a = D at *
  generalize eI a = EE at *
  generalize hdI a 1 0 = y0 at *
  generalize hdI a 1 2 = y2 at *
  generalize seV0 a = z0 at *
  generalize seV1 a = z1 at *
  generalize seT0 a = s0 at *
  generalize seT1 a = s1 at *
  have t1 : IntKind.i64.wrap (z0 + y0) = z0 + y0 := IntWalk.i64_in _ (by omega)
  have t2 : IntKind.i64.wrap (z1 + y2) = z1 + y2 := IntWalk.i64_in _ (by omega)
  have t3 : (z0 + y0).tmod a.P = D := by rw [← HD.out]; exact Int.tmod_eq_emod_of_nonneg (by omega)
  have t4 : (z1 + y2).tmod a.P = EE := by rw [← HE.out]; exact Int.tmod_eq_emod_of_nonneg (by omega)
  have r1 : 0 ≤ D ∧ D ≤ a.P - 1 := by rw [← HD.out]; exact emod_rng _ _ (by omega)
  have r2 : 0 ≤ EE ∧ EE ≤ a.P - 1 := by rw [← HE.out]; exact emod_rng _ _ (by omega)
  have t5 : IntKind.i64.wrap D = D := IntWalk.i64_in _ (by omega)
  have t6 : IntKind.i64.wrap EE = EE := IntWalk.i64_in _ (by omega)
  have t7 : (a.P == 0) = false := by simp; omega
  have t8 : (a.P = 0) = False := by simp; omega
  clear HD HE hd0 hd2 v0 v1
  go_enter Tryd.func141, Tryd.ntmps141
  go_wp2_with fail
  refine Exists.elim (Blk.new_ w (b := w.heap.size) rfl 31 #[.int .i64 a.P, .int .i64 a.party, .int .i64 a.input, .int .i64 a.mask, .int .i64 a.delta, .slice x_sa x_sn x_sc, .slice x_ka x_kn x_kc, .int .i64 a.step, .slice (some ⟨g, o, none⟩) x_hn x_hc, .int .i64 a.status, .int .i64 a.out]) (fun w1' q => ?_)
  rw [q.1]; have B_a := q.2.1; have s_w1' := q.2.2.1; have u_w1' := q.2.2.2; clear q
  have S_w1' : w.heap.size + 1 ≤ w1'.heap.size := Nat.le_of_eq s_w1'.symm
  have V_w1' := (Below.refl w.heap.size w).trans (u_w1'.mono ((Below.refl w.heap.size w)).size)
  clear u_w1' s_w1'
  refine (CF.out _ (LH.out.below V_w1')).mono ?_
  rintro e w2' ⟨bf, cf, rfl, hf, u_w2'⟩
  replace B_a := B_a.below u_w2'
  have S_w2' := u_w2'.size
  have V_w2' : Below w.heap.size w w2' := V_w1'.trans (u_w2'.mono V_w1'.size)
  clear V_w1'
  clear u_w2'
  obtain ⟨gf, of, rfl, hfc⟩ := hf.at (by omega)
  have c0 : w2'.cell? ⟨gf, of, none⟩ = some (.int .i64 z0) := hfc 0 (by omega)
  have c2 : w2'.cell? ⟨gf, of + 2, none⟩ = some (.int .i64 z1) := hfc 2 (by omega)
  clear hfc hf
  have e_a_0 := B_a.a11_0
  have e_a_1 := B_a.a11_1
  have e_a_2 := B_a.a11_2
  have e_a_3 := B_a.a11_3
  have e_a_4 := B_a.a11_4
  have e_a_5 := B_a.a11_5
  have e_a_6 := B_a.a11_6
  have e_a_7 := B_a.a11_7
  have e_a_8 := B_a.a11_8
  have e_a_9 := B_a.a11_9
  have e_a_10 := B_a.a11_10
  have k0 := keepC V_w2' e0
  have k1 := keepC V_w2' e1
  have k3 := keepC V_w2' e3
  go_wp2
  first | (go_quiet (fail); go_wp2) | skip
  go_ret2
  first | exact ⟨rfl, V_w2'⟩ | exact ⟨rfl, below_drewN V_w2' _⟩
set_option maxHeartbeats 16000000 in
set_option maxRecDepth 100000 in
theorem ptThird_any (a : Pl) (x : PlX) (w : World) (h : PlR w x a.shares a.keys a.heard) (hN : PlN a) (hs : 2 ≤ a.step) :
    Calls Tryd.prog 122 #[.agg #[.int .i64 a.P, .int .i64 a.party, .int .i64 a.input, .int .i64 a.mask, .int .i64 a.delta, .slice x.sa x.sn x.sc, .slice x.ka x.kn x.kc, .int .i64 a.step, .slice x.ha x.hn x.hc, .int .i64 a.status, .int .i64 a.out]] w fun e w' => e = .returned (.agg #[.int .i64 (thV a), .int .i64 (thT a)]) ∧ Below w.heap.size w w' := by
  have hp1 := hN.p1
  have hp2 := hN.p2
  have rd := dI_rng hN
  have re := eI_rng hN
  have m1 : 0 ≤ dI a * eI a := Int.mul_nonneg rd.1 re.1
  have m2 : dI a * eI a ≤ 1000 * 1000 := Int.mul_le_mul (by omega) (by omega) re.1 (by omega)
  have CF := Lib.hid (fun (W : World) (h2 : PlR W x a.shares a.keys a.heard) => ptSums_any a x W h2 hN hs)
  have X1r := emod_rng (shV a 4 + dI a * shV a 3) a.P (by omega)
  have Y1r := emod_rng (shT a 4 + dI a * shT a 3) a.P (by omega)
  have X2r := emod_rng ((shV a 4 + dI a * shV a 3) % a.P + eI a * shV a 2) a.P (by omega)
  have D2r := emod_rng (dI a * eI a) a.P (by omega)
  have K1 := Lib.hid (fun (W : World) => tgAdd_any a.P (shV a 4) (shT a 4) (shV a 3) (shT a 3) (dI a) W (by omega) (by omega) (hN.sv 4 (by omega)) (hN.st 4 (by omega)) (hN.sv 3 (by omega)) (hN.st 3 (by omega)) rd)
  have K2 := Lib.hid (fun (W : World) => tgAdd_any a.P ((shV a 4 + dI a * shV a 3) % a.P) ((shT a 4 + dI a * shT a 3) % a.P) (shV a 2) (shT a 2) (eI a) W (by omega) (by omega) X1r Y1r (hN.sv 2 (by omega)) (hN.st 2 (by omega)) re)
  have K3 := Lib.hid (fun (W : World) => (show Calls Tryd.prog 143 #[.agg #[.int .i64 a.P, .int .i64 a.party, .int .i64 a.input, .int .i64 a.mask, .int .i64 a.delta, .slice x.sa x.sn x.sc, .slice x.ka x.kn x.kc, .int .i64 a.step, .slice x.ha x.hn x.hc, .int .i64 a.status, .int .i64 a.out], .agg #[.int .i64 (((shV a 4 + dI a * shV a 3) % a.P + eI a * shV a 2) % a.P), .int .i64 (((shT a 4 + dI a * shT a 3) % a.P + eI a * shT a 2) % a.P)], .int .i64 (dI a * eI a % a.P)] W fun e w' => e = .returned (.agg #[.int .i64 (thV a), .int .i64 (thT a)]) ∧ Below W.heap.size W w' by rw [← thV_eq hN, ← thT_eq]; exact ptShift_any a x _ _ _ W hN (by omega) (by omega)))
  have t1 : IntKind.i64.wrap (dI a * eI a) = dI a * eI a := IntWalk.i64_in _ (by omega)
  have t2 : (dI a * eI a).tmod a.P = dI a * eI a % a.P := Int.tmod_eq_emod_of_nonneg (by omega)
  have t3 : IntKind.i64.wrap (dI a * eI a % a.P) = dI a * eI a % a.P := IntWalk.i64_in _ (by omega)
  have t7 : (a.P == 0) = false := by simp; omega
  have t8 : (a.P = 0) = False := by simp; omega
  have LH := Lib.hid h
  obtain ⟨hS, _⟩ := h
  have hs5 : x.sn = 5 := by have := hS.len; have := hN.sl; omega
  obtain ⟨gs, os, hsa, hc⟩ := hS.at (by omega)
  have y4 : w.cell? ⟨gs, os + 4, none⟩ = some (.int .i64 (shV a 2)) := hc 4 (by omega)
  have y5 : w.cell? ⟨gs, os + 5, none⟩ = some (.int .i64 (shT a 2)) := hc 5 (by omega)
  have y6 : w.cell? ⟨gs, os + 6, none⟩ = some (.int .i64 (shV a 3)) := hc 6 (by omega)
  have y7 : w.cell? ⟨gs, os + 7, none⟩ = some (.int .i64 (shT a 3)) := hc 7 (by omega)
  have y8 : w.cell? ⟨gs, os + 8, none⟩ = some (.int .i64 (shV a 4)) := hc 8 (by omega)
  have y9 : w.cell? ⟨gs, os + 9, none⟩ = some (.int .i64 (shT a 4)) := hc 9 (by omega)
  clear hc hS hN hs X1r Y1r X2r D2r m1 m2 rd re
  obtain ⟨x_sa, x_sn, x_sc, x_ka, x_kn, x_kc, x_ha, x_hn, x_hc⟩ := x
  dsimp only at *
  subst hsa
  subst hs5
  generalize dI a * eI a % a.P = DE at *
  generalize shV a 4 = v4 at *
  generalize shT a 4 = w4 at *
  generalize shV a 3 = v3 at *
  generalize shT a 3 = w3 at *
  generalize shV a 2 = v2 at *
  generalize shT a 2 = w2 at *
  generalize (v4 + dI a * v3) % a.P = X1 at *
  generalize (w4 + dI a * w3) % a.P = Y1 at *
  generalize (X1 + eI a * v2) % a.P = X2 at *
  generalize (Y1 + eI a * w2) % a.P = Y2 at *
  generalize thV a = zv at *
  generalize thT a = zt at *
  generalize dI a = D at *
  generalize eI a = EE at *
  go_enter Tryd.func122, Tryd.ntmps122
  go_wp2_with fail
  refine Exists.elim (Blk.new_ w (b := w.heap.size) rfl 31 #[.int .i64 a.P, .int .i64 a.party, .int .i64 a.input, .int .i64 a.mask, .int .i64 a.delta, .slice (some ⟨gs, os, none⟩) 5 x_sc, .slice x_ka x_kn x_kc, .int .i64 a.step, .slice x_ha x_hn x_hc, .int .i64 a.status, .int .i64 a.out]) (fun w1_a0' q => ?_)
  rw [q.1]; have B_a := q.2.1; have s_w1_a0' := q.2.2.1; have u_w1_a0' := q.2.2.2; clear q
  refine Exists.elim (Blk.new_ w1_a0' (b := w.heap.size + 1) s_w1_a0' 81 #[.int .i64 0, .int .i64 0]) (fun w1' q => ?_)
  rw [q.1]; have B_r := q.2.1; have s_w1' := q.2.2.1; have u_w1' := q.2.2.2; clear q
  replace B_a := (B_a.below u_w1')
  have U := (u_w1_a0'.trans (u_w1'.mono u_w1_a0'.size))
  have S_w1' : w.heap.size + 2 ≤ w1'.heap.size := Nat.le_of_eq s_w1'.symm
  have V_w1' := (Below.refl w.heap.size w).trans (U.mono ((Below.refl w.heap.size w)).size)
  clear u_w1_a0' u_w1' s_w1_a0' s_w1' U
  refine (CF.out _ (LH.out.below V_w1')).mono ?_
  rintro e w2' ⟨rfl, u_w2'⟩
  replace B_a := B_a.below u_w2'
  replace B_r := B_r.below u_w2'
  have S_w2' := u_w2'.size
  have V_w2' : Below w.heap.size w w2' := V_w1'.trans (u_w2'.mono V_w1'.size)
  clear V_w1'
  clear u_w2'
  go_wp2
  have SB := V_w2'.size
  have e_a_0 := B_a.a11_0
  have e_a_1 := B_a.a11_1
  have e_a_2 := B_a.a11_2
  have e_a_3 := B_a.a11_3
  have e_a_4 := B_a.a11_4
  have e_a_5 := B_a.a11_5
  have e_a_6 := B_a.a11_6
  have e_a_7 := B_a.a11_7
  have e_a_8 := B_a.a11_8
  have e_a_9 := B_a.a11_9
  have e_a_10 := B_a.a11_10
  have p6 := keepC V_w2' y6
  have p7 := keepC V_w2' y7
  have p8 := keepC V_w2' y8
  have p9 := keepC V_w2' y9
  go_region_held3 (fun W => W.cell? ⟨w.heap.size, 0, none⟩ = some (.int .i64 a.P) ∧ W.cell? ⟨w.heap.size, 1, none⟩ = some (.int .i64 a.party) ∧ W.cell? ⟨w.heap.size, 2, none⟩ = some (.int .i64 a.input) ∧ W.cell? ⟨w.heap.size, 3, none⟩ = some (.int .i64 a.mask) ∧ W.cell? ⟨w.heap.size, 4, none⟩ = some (.int .i64 a.delta) ∧ W.cell? ⟨w.heap.size, 5, none⟩ = some (.slice (some ⟨gs, os, none⟩) 5 x_sc) ∧ W.cell? ⟨w.heap.size, 6, none⟩ = some (.slice x_ka x_kn x_kc) ∧ W.cell? ⟨w.heap.size, 7, none⟩ = some (.int .i64 a.step) ∧ W.cell? ⟨w.heap.size, 8, none⟩ = some (.slice x_ha x_hn x_hc) ∧ W.cell? ⟨w.heap.size, 9, none⟩ = some (.int .i64 a.status) ∧ W.cell? ⟨w.heap.size, 10, none⟩ = some (.int .i64 a.out) ∧ W.cell? ⟨gs, os + 8, none⟩ = some (.int .i64 v4) ∧ W.cell? ⟨gs, os + 9, none⟩ = some (.int .i64 w4) ∧ W.cell? ⟨gs, os + 6, none⟩ = some (.int .i64 v3) ∧ W.cell? ⟨gs, os + 7, none⟩ = some (.int .i64 w3))
    (first | exact ⟨e_a, p8, p9, p6, p7⟩ | exact ⟨keepA _ e_a_0, keepA _ e_a_1, keepA _ e_a_2, keepA _ e_a_3, keepA _ e_a_4, keepA _ e_a_5, keepA _ e_a_6, keepA _ e_a_7, keepA _ e_a_8, keepA _ e_a_9, keepA _ e_a_10, keepA _ p8, keepA _ p9, keepA _ p6, keepA _ p7⟩ | exact ⟨keepC u (keepA _ e_a_0), keepC u (keepA _ e_a_1), keepC u (keepA _ e_a_2), keepC u (keepA _ e_a_3), keepC u (keepA _ e_a_4), keepC u (keepA _ e_a_5), keepC u (keepA _ e_a_6), keepC u (keepA _ e_a_7), keepC u (keepA _ e_a_8), keepC u (keepA _ e_a_9), keepC u (keepA _ e_a_10), keepC u (keepA _ p8), keepC u (keepA _ p9), keepC u (keepA _ p6), keepC u (keepA _ p7)⟩ | exact ⟨keepC u e_a_0, keepC u e_a_1, keepC u e_a_2, keepC u e_a_3, keepC u e_a_4, keepC u e_a_5, keepC u e_a_6, keepC u e_a_7, keepC u e_a_8, keepC u e_a_9, keepC u e_a_10, keepC u p8, keepC u p9, keepC u p6, keepC u p7⟩ | exact ⟨keepA _ (keepC u e_a_0), keepA _ (keepC u e_a_1), keepA _ (keepC u e_a_2), keepA _ (keepC u e_a_3), keepA _ (keepC u e_a_4), keepA _ (keepC u e_a_5), keepA _ (keepC u e_a_6), keepA _ (keepC u e_a_7), keepA _ (keepC u e_a_8), keepA _ (keepC u e_a_9), keepA _ (keepC u e_a_10), keepA _ (keepC u p8), keepA _ (keepC u p9), keepA _ (keepC u p6), keepA _ (keepC u p7)⟩ | exact ⟨keepS e_a_0 _ _ (keepS e_a_0 _ _ (keepC u (keepA _ e_a_0))), keepS e_a_1 _ _ (keepS e_a_1 _ _ (keepC u (keepA _ e_a_1))), keepS e_a_2 _ _ (keepS e_a_2 _ _ (keepC u (keepA _ e_a_2))), keepS e_a_3 _ _ (keepS e_a_3 _ _ (keepC u (keepA _ e_a_3))), keepS e_a_4 _ _ (keepS e_a_4 _ _ (keepC u (keepA _ e_a_4))), keepS e_a_5 _ _ (keepS e_a_5 _ _ (keepC u (keepA _ e_a_5))), keepS e_a_6 _ _ (keepS e_a_6 _ _ (keepC u (keepA _ e_a_6))), keepS e_a_7 _ _ (keepS e_a_7 _ _ (keepC u (keepA _ e_a_7))), keepS e_a_8 _ _ (keepS e_a_8 _ _ (keepC u (keepA _ e_a_8))), keepS e_a_9 _ _ (keepS e_a_9 _ _ (keepC u (keepA _ e_a_9))), keepS e_a_10 _ _ (keepS e_a_10 _ _ (keepC u (keepA _ e_a_10))), keepS p8 _ _ (keepS p8 _ _ (keepC u (keepA _ p8))), keepS p9 _ _ (keepS p9 _ _ (keepC u (keepA _ p9))), keepS p6 _ _ (keepS p6 _ _ (keepC u (keepA _ p6))), keepS p7 _ _ (keepS p7 _ _ (keepC u (keepA _ p7)))⟩ | go_keep)
    (first | (go_at_call 142; refine (K1.out _).mono ?_; rintro e wz ⟨rfl, u⟩; have BO : Blk wz w2'.heap.size 81 #[.int .i64 0, .int .i64 0] := Blk.below (Blk.new w2' 81 #[.int .i64 0, .int .i64 0]).drew u; have bo0 : wz.cell? ⟨w2'.heap.size, 0, none⟩ = some (.int .i64 0) := BO.cell 0; have bf0 : wz.frozen? ⟨w2'.heap.size, 0, none⟩ = false := BO.frozen 0; have bo1 : wz.cell? ⟨w2'.heap.size, 1, none⟩ = some (.int .i64 0) := BO.cell 1; have bf1 : wz.frozen? ⟨w2'.heap.size, 1, none⟩ = false := BO.frozen 1) | (go_at_call 142; refine (K1.out _).mono ?_; rintro e wz ⟨rfl, u⟩))
  all_goals first
    | (have u1 : Below w2'.heap.size w2' wz := ((Below.refl _ w2').alloc (Nat.le_refl _) (.cells #[.int .i64 0, .int .i64 0] 81)).drew.trans (u.mono (by simp))
       have G : Only [w2'.heap.size] wz ((wz.setCell ⟨w2'.heap.size, 0, none⟩ (.int .i64 X1)).setCell ⟨w2'.heap.size, 1, none⟩ (.int .i64 Y1)) := (((Only.refl [w2'.heap.size] wz).setCell ⟨w2'.heap.size, 0, none⟩ (.int .i64 X1) (by simp)).setCell ⟨w2'.heap.size, 1, none⟩ (.int .i64 Y1) (by simp))
       have hV : Below w2'.heap.size w2' ((wz.setCell ⟨w2'.heap.size, 0, none⟩ (.int .i64 X1)).setCell ⟨w2'.heap.size, 1, none⟩ (.int .i64 Y1)) := u1.trans (G.below u1.size (fun q hq => by simp at hq; omega))
       have B_y : Blk ((wz.setCell ⟨w2'.heap.size, 0, none⟩ (.int .i64 X1)).setCell ⟨w2'.heap.size, 1, none⟩ (.int .i64 Y1)) w2'.heap.size 81 #[.int .i64 X1, .int .i64 Y1] := ((BO.set_ 0 (.int .i64 X1)).set_ 1 (.int .i64 Y1))
       have hob : w2'.heap.size ≤ w2'.heap.size := Nat.le_refl _
       clear G u1 u BO bo0 bf0 bo1 bf1
       generalize ((wz.setCell ⟨w2'.heap.size, 0, none⟩ (.int .i64 X1)).setCell ⟨w2'.heap.size, 1, none⟩ (.int .i64 Y1)) = WW at *
       generalize hob' : w2'.heap.size = ob at B_y ⊢
       rw [hob'] at hob
       replace hob : w2'.heap.size ≤ ob := by omega
       clear hob')
    | (have u1 : Below w2'.heap.size w2' wz := (Below.refl _ w2').drew.trans u
       have hV : Below w2'.heap.size w2' (wz.alloc (.cells #[.int .i64 X1, .int .i64 Y1] 81)) := u1.alloc u1.size _
       have B_y : Blk (wz.alloc (.cells #[.int .i64 X1, .int .i64 Y1] 81)) wz.heap.size 81 #[.int .i64 X1, .int .i64 Y1] := Blk.new _ _ _
       have hob : w2'.heap.size ≤ wz.heap.size := u1.size
       clear u1 u
       generalize wz.alloc (.cells #[.int .i64 X1, .int .i64 Y1] 81) = WW at *
       generalize wz.heap.size = ob at *)
  all_goals
    clear p6 p7 p8 p9
    clear e_a_0 e_a_1 e_a_2 e_a_3 e_a_4 e_a_5 e_a_6 e_a_7 e_a_8 e_a_9 e_a_10
    replace B_a := B_a.below hV
    replace B_r := B_r.below hV
    have S_WW := hV.size
    have V_WW : Below w.heap.size w WW := V_w2'.trans (hV.mono V_w2'.size)
    clear V_w2'
    clear hV
    have hob2 : w.heap.size + 2 ≤ ob := by have := hob; have := S_w1'; have := S_w2'; omega
    have e_a_0 := B_a.a11_0
    have e_a_1 := B_a.a11_1
    have e_a_2 := B_a.a11_2
    have e_a_3 := B_a.a11_3
    have e_a_4 := B_a.a11_4
    have e_a_5 := B_a.a11_5
    have e_a_6 := B_a.a11_6
    have e_a_7 := B_a.a11_7
    have e_a_8 := B_a.a11_8
    have e_a_9 := B_a.a11_9
    have e_a_10 := B_a.a11_10
    have e_y := B_y.all2
    have p4 := keepC V_WW y4
    have p5 := keepC V_WW y5
    go_wp2
    refine wp_region_still_tail 8 (by kernel_rfl) (by kernel_rfl) ?_
    simp only [List.take_succ_cons, List.take_zero, List.drop_succ_cons, List.drop_zero]
    repeat still_step
    refine wpStill_nil ?_
    change wpList _ _ _ _ _ WW.drew
    clear e_a_0 e_a_1 e_a_2 e_a_3 e_a_4 e_a_5 e_a_6 e_a_7 e_a_8 e_a_9 e_a_10 e_y
    have V_w3'_1 : Below w.heap.size w WW.drew := (V_WW).drew
    replace B_a := B_a.drew
    replace B_r := B_r.drew
    replace B_y := B_y.drew
    have S_w3' : WW.heap.size + 0 ≤ WW.drew.heap.size := by first | (simp; done) | (simp; omega) | (simp [World.setCell]; done) | (simp [World.setCell]; omega)
    generalize WW.drew = w3' at *
    have V_w3' : Below w.heap.size w w3' := V_w3'_1
    clear V_WW
    clear V_w3'_1
    clear p4 p5
    go_wp2_with fail
    refine (K2.out _).mono ?_
    rintro e w4' ⟨rfl, u_w4'⟩
    replace B_a := B_a.below u_w4'
    replace B_r := B_r.below u_w4'
    replace B_y := B_y.below u_w4'
    have S_w4' := u_w4'.size
    have V_w4' : Below w.heap.size w w4' := V_w3'.trans (u_w4'.mono V_w3'.size)
    clear V_w3'
    clear u_w4'
    have e_y := B_y.all2
    have f_y := B_y.frz2
    go_wp2
    clear e_y f_y
    refine Exists.elim (B_y.row2 (.int .i64 X2) (.int .i64 Y2)) (fun w5' q => ?_)
    rw [q.1]; replace B_y := q.2.1; have G := q.2.2; clear q
    have V_w5' := (V_w4').trans (G.below (V_w4').size (fun q hq => by have := (V_w4').size; simp at hq; omega))
    replace B_a := B_a.only G (by first | (simp; done) | (simp; omega))
    replace B_r := B_r.only G (by first | (simp; done) | (simp; omega))
    have sG0 := G.size
    clear G
    clear V_w4'
    have S_w5' : w4'.heap.size + 0 ≤ w5'.heap.size := by omega
    clear sG0
    have e_a_0 := B_a.a11_0
    have e_a_1 := B_a.a11_1
    have e_a_2 := B_a.a11_2
    have e_a_3 := B_a.a11_3
    have e_a_4 := B_a.a11_4
    have e_a_5 := B_a.a11_5
    have e_a_6 := B_a.a11_6
    have e_a_7 := B_a.a11_7
    have e_a_8 := B_a.a11_8
    have e_a_9 := B_a.a11_9
    have e_a_10 := B_a.a11_10
    have e_y := B_y.all2
    go_wp2
    refine wp_region_still_tail 8 (by kernel_rfl) (by kernel_rfl) ?_
    simp only [List.take_succ_cons, List.take_zero, List.drop_succ_cons, List.drop_zero]
    repeat still_step
    refine wpStill_nil ?_
    change wpList _ _ _ _ _ w5'.drew
    clear e_a_0 e_a_1 e_a_2 e_a_3 e_a_4 e_a_5 e_a_6 e_a_7 e_a_8 e_a_9 e_a_10 e_y
    have V_w6'_1 : Below w.heap.size w w5'.drew := (V_w5').drew
    replace B_a := B_a.drew
    replace B_r := B_r.drew
    replace B_y := B_y.drew
    have S_w6' : w5'.heap.size + 0 ≤ w5'.drew.heap.size := by first | (simp; done) | (simp; omega) | (simp [World.setCell]; done) | (simp [World.setCell]; omega)
    generalize w5'.drew = w6' at *
    have V_w6' : Below w.heap.size w w6' := V_w6'_1
    clear V_w5'
    clear V_w6'_1
    go_wp2_with fail
    refine (K3.out _).mono ?_
    rintro e w7' ⟨rfl, u_w7'⟩
    replace B_a := B_a.below u_w7'
    replace B_r := B_r.below u_w7'
    replace B_y := B_y.below u_w7'
    have S_w7' := u_w7'.size
    have V_w7' : Below w.heap.size w w7' := V_w6'.trans (u_w7'.mono V_w6'.size)
    clear V_w6'
    clear u_w7'
    have e_r := B_r.all2
    have f_r := B_r.frz2
    go_wp2
    clear e_r f_r
    refine Exists.elim (B_r.row2 (.int .i64 zv) (.int .i64 zt)) (fun w8' q => ?_)
    rw [q.1]; replace B_r := q.2.1; have G := q.2.2; clear q
    have V_w8' := (V_w7').trans (G.below (V_w7').size (fun q hq => by have := (V_w7').size; simp at hq; omega))
    replace B_a := B_a.only G (by first | (simp; done) | (simp; omega))
    replace B_y := B_y.only G (by first | (simp; done) | (simp; omega))
    have sG0 := G.size
    clear G
    clear V_w7'
    have S_w8' : w7'.heap.size + 0 ≤ w8'.heap.size := by omega
    clear sG0
    have e_r := B_r.all2
    exact bodyPost_ret (v := .agg #[.int .i64 zv, .int .i64 zt]) (by simp [results, Tryd.results122, go_sem, e_r]) rfl ⟨rfl, V_w8'⟩
end Go.Proofs.YtlmdckcohoddnaaDoor
