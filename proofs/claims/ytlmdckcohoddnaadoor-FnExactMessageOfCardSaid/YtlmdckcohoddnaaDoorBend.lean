/- A message that is bent. -/
import Derived.Test.YtlmdckcohoddnaaDoorMsg
import Derived.Test.YtlmdckcohoddnaaDoorAreAll
import Derived.Test.YtlmdckcohoddnaaDoorDigest
import Derived.Test.YtlmdckcohoddnaaDoorDouble
namespace Go.Proofs.YtlmdckcohoddnaaDoor
open Go.RowKit

theorem cellFar {w : World} {p q : Addr} {u v : Value} (h : w.cell? q = some v) (hne : q.block ≠ p.block) : (w.setCell p u).cell? q = some v := by
  rw [World.cell?_setCell_other w p q u (fun e => hne (by rw [e]))]; exact h
def bendI (p : Int) (l : List Int) (i : Nat) (k : Int) : List Int := l.set i ((l.getD i 0 + k) % p)
set_option maxHeartbeats 4000000 in
set_option maxRecDepth 100000 in
theorem bend_any (p s0 s1 : Int) (a : Option Addr) (n c : Nat) (l : List Int) (i : Nat) (k : Int) (w : World) (h : Ints w a n c l) (hs : n ≤ 1048576) (hp : 1 ≤ p) (hp2 : p ≤ 1000) (hl : ∀ x ∈ l, 0 ≤ x ∧ x ≤ p - 1) (hi : i < n) (hk : 0 ≤ k) (hk2 : k ≤ p - 1) :
    Calls Tryd.prog 86 #[.int .i64 p, .agg #[.int .i64 s0, .int .i64 s1, .slice a n c], .int .i64 i, .int .i64 k] w fun e w' => ∃ b d, e = .returned (.agg #[.int .i64 s0, .int .i64 s1, .slice b n d]) ∧ Own w' w.heap.size b n d (bendI p l i k) ∧ Below w.heap.size w w' := by
  have rx : 0 ≤ l.getD i 0 ∧ l.getD i 0 ≤ p - 1 := hl _ (getD_mem l i (by rw [← h.len]; exact hi))
  have HBI : Hid (bendI p l i k = l.set i ((l.getD i 0 + k) % p)) := rfl
  clear hl
  obtain ⟨x, hx⟩ : ∃ x, l.getD i 0 = x := ⟨_, rfl⟩
  rw [hx] at rx HBI
  have HX := Lib.hid hx
  clear hx
  have t1 : IntKind.i64.wrap (x + k) = x + k := IntWalk.i64_in _ (by omega)
  have V0 : Below w.heap.size w ((w.alloc (.cells #[.int .i64 s0, .int .i64 s1, .slice a n c] 44)).alloc (.cells #[.int .i64 0, .int .i64 0, .slice none 0 0] 44)) := ((Below.refl _ _).alloc (Nat.le_refl _) _).alloc (by simp) _
  have B0 : Blk ((w.alloc (.cells #[.int .i64 s0, .int .i64 s1, .slice a n c] 44)).alloc (.cells #[.int .i64 0, .int .i64 0, .slice none 0 0] 44)) w.heap.size 44 #[.int .i64 s0, .int .i64 s1, .slice a n c] := (Blk.new w _ _).alloc _
  have R0 : Blk ((w.alloc (.cells #[.int .i64 s0, .int .i64 s1, .slice a n c] 44)).alloc (.cells #[.int .i64 0, .int .i64 0, .slice none 0 0] 44)) (w.heap.size + 1) 44 #[.int .i64 0, .int .i64 0, .slice none 0 0] := by simpa using (Blk.new (w.alloc (.cells #[.int .i64 s0, .int .i64 s1, .slice a n c] 44)) 44 #[.int .i64 0, .int .i64 0, .slice none 0 0])
  have S0 : w.heap.size + 2 ≤ ((w.alloc (.cells #[.int .i64 s0, .int .i64 s1, .slice a n c] 44)).alloc (.cells #[.int .i64 0, .int .i64 0, .slice none 0 0] 44)).heap.size := by simp
  go_enter Tryd.func86, Tryd.ntmps86
  go_wp2_with fail
  generalize ((w.alloc (.cells #[.int .i64 s0, .int .i64 s1, .slice a n c] 44)).alloc (.cells #[.int .i64 0, .int .i64 0, .slice none 0 0] 44)) = w0 at *
  refine (Clone_any _ _ _ l _ (h.below V0) (by omega)).mono ?_; rintro e w1 ⟨b, d, rfl, o1, u⟩
  have V1 := V0.trans (u.mono V0.size)
  have B1 := B0.below u
  have R1 := R0.below u
  have S1 : w.heap.size + 2 ≤ w1.heap.size := Nat.le_trans S0 u.size
  have Q := Lib.hid o1.feet
  clear u V0 B0 R0
  have x0 : w1.cell? ⟨w.heap.size, 0, none⟩ = some (.int .i64 s0) := B1.cell 0
  have x1 : w1.cell? ⟨w.heap.size, 1, none⟩ = some (.int .i64 s1) := B1.cell 1
  have x2 : w1.cell? ⟨w.heap.size, 2, none⟩ = some (.slice a n c) := B1.cell 2
  have f2 : w1.frozen? ⟨w.heap.size, 2, none⟩ = false := B1.frozen 2
  go_wp2_with fail
  have G : Only [w.heap.size] w1 (w1.setCell ⟨w.heap.size, 2, none⟩ (.slice b n d)) := (Only.refl _ _).setCell ⟨w.heap.size, 2, none⟩ (.slice b n d) (by simp)
  have V2 := V1.trans (G.below V1.size (by simp))
  have B2 : Blk (w1.setCell ⟨w.heap.size, 2, none⟩ (.slice b n d)) w.heap.size 44 #[.int .i64 s0, .int .i64 s1, .slice b n d] := B1.set_ 2 (.slice b n d)
  have R2 := R1.only G (by simp)
  have o2 := o1.only G (fun q hq hq' => by have := Q.out q hq; simp at hq'; omega)
  have S2 : w.heap.size + 2 ≤ (w1.setCell ⟨w.heap.size, 2, none⟩ (.slice b n d)).heap.size := Nat.le_trans S1 G.size
  clear G V1 B1 R1 o1 x0 x1 x2 f2
  generalize (w1.setCell ⟨w.heap.size, 2, none⟩ (.slice b n d)) = w2 at *
  obtain ⟨g, rfl, g0, g1, y0, y1, y2⟩ := o2.at i hi
  rw [HX.out] at y0
  have x0 : w2.cell? ⟨w.heap.size, 0, none⟩ = some (.int .i64 s0) := B2.cell 0
  have x1 : w2.cell? ⟨w.heap.size, 1, none⟩ = some (.int .i64 s1) := B2.cell 1
  have x2 : w2.cell? ⟨w.heap.size, 2, none⟩ = some (.slice (some ⟨g, 0, none⟩) n d) := B2.cell 2
  refine wp_region_still_tail 13 (by kernel_rfl) (by kernel_rfl) ?_
  simp only [List.take_succ_cons, List.take_zero, List.drop_succ_cons, List.drop_zero]
  repeat (first | still_step | still_call (mod_same _ _ _ hp (by omega)))
  refine wpStill_nil ?_
  change wpList _ _ _ _ _ w2.drew
  have o3 := o2.drew
  have V3 := V2.drew
  have B3 := B2.drew
  have R3 := R2.drew
  have S3 : w.heap.size + 2 ≤ w2.drew.heap.size := S2
  clear y0 y1 y2 x0 x1 x2 o2 V2 B2 R2 S2
  generalize w2.drew = w3 at *
  obtain ⟨_, E, _, _, y0, y1, y2⟩ := o3.at i hi
  cases E
  have y3 := y2 ((x + k) % p)
  rw [← HBI.out] at y3
  have x0 : w3.cell? ⟨w.heap.size, 0, none⟩ = some (.int .i64 s0) := B3.cell 0
  have x1 : w3.cell? ⟨w.heap.size, 1, none⟩ = some (.int .i64 s1) := B3.cell 1
  have x2 : w3.cell? ⟨w.heap.size, 2, none⟩ = some (.slice (some ⟨g, 0, none⟩) n d) := B3.cell 2
  have r0 : w3.cell? ⟨w.heap.size + 1, 0, none⟩ = some (.int .i64 0) := R3.cell 0
  have r1 : w3.cell? ⟨w.heap.size + 1, 1, none⟩ = some (.int .i64 0) := R3.cell 1
  have r2 : w3.cell? ⟨w.heap.size + 1, 2, none⟩ = some (.slice none 0 0) := R3.cell 2
  have q0 : w3.frozen? ⟨w.heap.size + 1, 0, none⟩ = false := R3.frozen 0
  have q1 : w3.frozen? ⟨w.heap.size + 1, 1, none⟩ = false := R3.frozen 1
  have q2 : w3.frozen? ⟨w.heap.size + 1, 2, none⟩ = false := R3.frozen 2
  have HY := Lib.hid y3
  clear y2 y3
  go_wp2
  have G := (((Only.refl [w.heap.size + 1] (w3.setCell ⟨g, i, none⟩ (.int .i64 ((x + k) % p)))).setCell ⟨w.heap.size + 1, 0, none⟩ (.int .i64 s0) (by simp)).setCell ⟨w.heap.size + 1, 1, none⟩ (.int .i64 s1) (by simp)).setCell ⟨w.heap.size + 1, 2, none⟩ (.slice (some ⟨g, 0, none⟩) n d) (by simp)
  have V4 := V3.setCell (p := ⟨g, i, none⟩) (by show w.heap.size ≤ g; omega) (.int .i64 ((x + k) % p))
  exact bodyPost_ret (v := .agg #[.int .i64 s0, .int .i64 s1, .slice (some ⟨g, 0, none⟩) n d]) (by simp [results, Tryd.results86, go_sem, r0, r1, r2]) rfl ⟨_, _, rfl, (HY.out.only G (fun q hq hq' => by
    obtain ⟨z, hz, _, rfl⟩ := mem_foot hq
    cases hz
    simp at hq'; omega)).lower (by omega), V4.trans (G.below V4.size (by simp))⟩
set_option maxHeartbeats 4000000 in
set_option maxRecDepth 100000 in
theorem ptBend_any (p s0 s1 : Int) (a : Option Addr) (n c : Nat) (l : List Int) (i : Nat) (k : Int) (w : World) (h : Ints w a n c l) (hs : n ≤ 1048576) (hp : 1 ≤ p) (hp2 : p ≤ 1000) (hl : ∀ x ∈ l, 0 ≤ x ∧ x ≤ p - 1) (hi : i < n) (hk : 0 ≤ k) (hk2 : k ≤ p - 1) :
    Calls Tryd.prog 119 #[.int .i64 p, .agg #[.int .i64 s0, .int .i64 s1, .slice a n c], .int .i64 i, .int .i64 k] w fun e w' => ∃ b d, e = .returned (.agg #[.int .i64 s0, .int .i64 s1, .slice b n d]) ∧ Own w' w.heap.size b n d (bendI p l i k) ∧ Below w.heap.size w w' := by
  have rx : 0 ≤ l.getD i 0 ∧ l.getD i 0 ≤ p - 1 := hl _ (getD_mem l i (by rw [← h.len]; exact hi))
  have HBI : Hid (bendI p l i k = l.set i ((l.getD i 0 + k) % p)) := rfl
  clear hl
  obtain ⟨x, hx⟩ : ∃ x, l.getD i 0 = x := ⟨_, rfl⟩
  rw [hx] at rx HBI
  have HX := Lib.hid hx
  clear hx
  have t1 : IntKind.i64.wrap (x + k) = x + k := IntWalk.i64_in _ (by omega)
  have t2 : (x + k).tmod p = (x + k) % p := Int.tmod_eq_emod_of_nonneg (by omega)
  have t3 : IntKind.i64.wrap ((x + k) % p) = (x + k) % p := IntWalk.i64_in _ (by have := Int.emod_nonneg (x + k) (by omega : p ≠ 0); have := Int.emod_lt_of_pos (x + k) (by omega : 0 < p); omega)
  have t7 : (p == 0) = false := by simp; omega
  have t8 : (p = 0) = False := by simp; omega
  have V0 : Below w.heap.size w ((w.alloc (.cells #[.int .i64 s0, .int .i64 s1, .slice a n c] 44)).alloc (.cells #[.int .i64 0, .int .i64 0, .slice none 0 0] 44)) := ((Below.refl _ _).alloc (Nat.le_refl _) _).alloc (by simp) _
  have B0 : Blk ((w.alloc (.cells #[.int .i64 s0, .int .i64 s1, .slice a n c] 44)).alloc (.cells #[.int .i64 0, .int .i64 0, .slice none 0 0] 44)) w.heap.size 44 #[.int .i64 s0, .int .i64 s1, .slice a n c] := (Blk.new w _ _).alloc _
  have R0 : Blk ((w.alloc (.cells #[.int .i64 s0, .int .i64 s1, .slice a n c] 44)).alloc (.cells #[.int .i64 0, .int .i64 0, .slice none 0 0] 44)) (w.heap.size + 1) 44 #[.int .i64 0, .int .i64 0, .slice none 0 0] := by simpa using (Blk.new (w.alloc (.cells #[.int .i64 s0, .int .i64 s1, .slice a n c] 44)) 44 #[.int .i64 0, .int .i64 0, .slice none 0 0])
  have S0 : w.heap.size + 2 ≤ ((w.alloc (.cells #[.int .i64 s0, .int .i64 s1, .slice a n c] 44)).alloc (.cells #[.int .i64 0, .int .i64 0, .slice none 0 0] 44)).heap.size := by simp
  go_enter Tryd.func119, Tryd.ntmps119
  go_wp2
  generalize ((w.alloc (.cells #[.int .i64 s0, .int .i64 s1, .slice a n c] 44)).alloc (.cells #[.int .i64 0, .int .i64 0, .slice none 0 0] 44)) = w0 at *
  have x0 : w0.cell? ⟨w.heap.size, 0, none⟩ = some (.int .i64 s0) := B0.cell 0
  have x1 : w0.cell? ⟨w.heap.size, 1, none⟩ = some (.int .i64 s1) := B0.cell 1
  have x2 : w0.cell? ⟨w.heap.size, 2, none⟩ = some (.slice a n c) := B0.cell 2
  have hb : w.heap.size ≠ w0.heap.size := by omega
  go_region_held3 (fun W => W.cell? ⟨w.heap.size, 0, none⟩ = some (.int .i64 s0) ∧ W.cell? ⟨w.heap.size, 1, none⟩ = some (.int .i64 s1) ∧ W.cell? ⟨w.heap.size, 2, none⟩ = some (.slice a n c))
    (first | go_keep | exact ⟨keepA _ x0, keepA _ x1, keepA _ x2⟩ | exact ⟨keepC u (keepA _ x0), keepC u (keepA _ x1), keepC u (keepA _ x2)⟩ | exact ⟨keepA _ (keepC u x0), keepA _ (keepC u x1), keepA _ (keepC u x2)⟩ | exact ⟨keepC u x0, keepC u x1, keepC u x2⟩ | exact ⟨cellFar (cellFar (cellFar (keepC u (keepA _ x0)) hb) hb) hb, cellFar (cellFar (cellFar (keepC u (keepA _ x1)) hb) hb) hb, cellFar (cellFar (cellFar (keepC u (keepA _ x2)) hb) hb) hb⟩)
    (first | (go_at_call 120; refine (l1Own_any _ _ _ l _ ((h.below V0).alloc _).drew (by omega)).mono ?_; rintro e w1 ⟨b, d, rfl, o1, u⟩; have BO : Blk w1 w0.heap.size 44 #[.int .i64 0, .int .i64 0, .slice none 0 0] := Blk.below (Blk.new w0 44 #[.int .i64 0, .int .i64 0, .slice none 0 0]).drew u; have e0 : w1.cell? ⟨w0.heap.size, 0, none⟩ = some (.int .i64 0) := BO.cell 0; have e1 : w1.cell? ⟨w0.heap.size, 1, none⟩ = some (.int .i64 0) := BO.cell 1; have e2 : w1.cell? ⟨w0.heap.size, 2, none⟩ = some (.slice none 0 0) := BO.cell 2; have f0 : w1.frozen? ⟨w0.heap.size, 0, none⟩ = false := BO.frozen 0; have f1 : w1.frozen? ⟨w0.heap.size, 1, none⟩ = false := BO.frozen 1; have f2 : w1.frozen? ⟨w0.heap.size, 2, none⟩ = false := BO.frozen 2) | (go_at_call 120; refine (l1Own_any _ _ _ l _ (h.below V0).drew (by omega)).mono ?_; rintro e w1 ⟨b, d, rfl, o1, u⟩))
  all_goals first
    | (have u1 : Below w0.heap.size w0 w1 := ((Below.refl _ w0).alloc (Nat.le_refl _) (.cells #[.int .i64 0, .int .i64 0, .slice none 0 0] 44)).drew.trans (u.mono (by simp))
       have G : Only [w0.heap.size] w1 (((w1.setCell ⟨w0.heap.size, 0, none⟩ (.int .i64 s0)).setCell ⟨w0.heap.size, 1, none⟩ (.int .i64 s1)).setCell ⟨w0.heap.size, 2, none⟩ (.slice b n d)) := (((Only.refl [w0.heap.size] w1).setCell ⟨w0.heap.size, 0, none⟩ (.int .i64 s0) (by simp)).setCell ⟨w0.heap.size, 1, none⟩ (.int .i64 s1) (by simp)).setCell ⟨w0.heap.size, 2, none⟩ (.slice b n d) (by simp)
       have hO0 : ∀ q ∈ foot b d, w0.heap.size + 1 ≤ q := fun q hq => by have := (o1.feet q hq).1; simpa using this
       have hV1 := V0.trans (u1.mono V0.size)
       have hV := hV1.trans (G.below hV1.size (fun q hq => by simp at hq; omega))
       have hR := (R0.below u1).only G (by simp; omega)
       have hO := (o1.only G (fun q hq hq' => by have := hO0 q hq; simp at hq'; omega)).lower (b' := w.heap.size + 2) (by simp; omega)
       have hQ : Hid (∀ q ∈ foot b d, q ≠ w0.heap.size) := Lib.hid (fun q hq => by have := hO0 q hq; omega)
       have hBO : Blk (((w1.setCell ⟨w0.heap.size, 0, none⟩ (.int .i64 s0)).setCell ⟨w0.heap.size, 1, none⟩ (.int .i64 s1)).setCell ⟨w0.heap.size, 2, none⟩ (.slice b n d)) w0.heap.size 44 #[.int .i64 s0, .int .i64 s1, .slice b n d] := ((BO.set_ 0 (.int .i64 s0)).set_ 1 (.int .i64 s1)).set_ 2 (.slice b n d)
       have hob : w.heap.size + 2 ≤ w0.heap.size := S0
       clear u1 G hO0 hV1 u BO e0 e1 e2 f0 f1 f2 o1 V0 B0 R0 S0 x0 x1 x2
       generalize (((w1.setCell ⟨w0.heap.size, 0, none⟩ (.int .i64 s0)).setCell ⟨w0.heap.size, 1, none⟩ (.int .i64 s1)).setCell ⟨w0.heap.size, 2, none⟩ (.slice b n d)) = W at *
       generalize w0.heap.size = ob at *)
    | (have u1 : Below w0.heap.size w0 w1 := (Below.refl _ w0).drew.trans u
       have hV1 := V0.trans (u1.mono V0.size)
       have hV := hV1.alloc hV1.size (.cells #[.int .i64 s0, .int .i64 s1, .slice b n d] 44)
       have hR := (R0.below u1).alloc (.cells #[.int .i64 s0, .int .i64 s1, .slice b n d] 44)
       have hQ : Hid (∀ q ∈ foot b d, q ≠ w1.heap.size) := Lib.hid (fun q hq => by have := (o1.feet q hq).2; omega)
       have hO := (o1.alloc (.cells #[.int .i64 s0, .int .i64 s1, .slice b n d] 44)).lower (b' := w.heap.size + 2) S0
       have hBO : Blk (w1.alloc (.cells #[.int .i64 s0, .int .i64 s1, .slice b n d] 44)) w1.heap.size 44 #[.int .i64 s0, .int .i64 s1, .slice b n d] := Blk.new w1 44 #[.int .i64 s0, .int .i64 s1, .slice b n d]
       have hob : w.heap.size + 2 ≤ w1.heap.size := Nat.le_trans S0 u1.size
       clear u1 hV1 u o1 V0 B0 R0 S0 x0 x1 x2
       generalize (w1.alloc (.cells #[.int .i64 s0, .int .i64 s1, .slice b n d] 44)) = W at *
       generalize w1.heap.size = ob at *)
  all_goals
    obtain ⟨g, rfl, g0, g1, y0, y1, y2⟩ := hO.at i hi
    rw [HX.out] at y0
    have hgo : g ≠ ob := hQ.out g (foot_mem (x := ⟨g, 0, none⟩) (by have := hO.cap; omega))
    have hgo' : ¬ ob = g := fun h => hgo h.symm
    have x0 : W.cell? ⟨ob, 0, none⟩ = some (.int .i64 s0) := hBO.cell 0
    have x1 : W.cell? ⟨ob, 1, none⟩ = some (.int .i64 s1) := hBO.cell 1
    have x2 : W.cell? ⟨ob, 2, none⟩ = some (.slice (some ⟨g, 0, none⟩) n d) := hBO.cell 2
    go_wp2
    refine wp_region_still_tail 13 (by kernel_rfl) (by kernel_rfl) ?_
    simp only [List.take_succ_cons, List.take_zero, List.drop_succ_cons, List.drop_zero]
    repeat still_step
    refine wpStill_nil ?_
    change wpList _ _ _ _ _ W.drew
    have o3 := hO.drew
    have V3 := hV.drew
    have B3 := hBO.drew
    have R3 := hR.drew
    clear y0 y1 y2 x0 x1 x2 hO hV hBO hR
    generalize W.drew = w3 at *
    obtain ⟨_, E, _, _, y0, y1, y2⟩ := o3.at i hi
    cases E
    have y3 := y2 ((x + k) % p)
    rw [← HBI.out] at y3
    have x0 : w3.cell? ⟨ob, 0, none⟩ = some (.int .i64 s0) := B3.cell 0
    have x1 : w3.cell? ⟨ob, 1, none⟩ = some (.int .i64 s1) := B3.cell 1
    have x2 : w3.cell? ⟨ob, 2, none⟩ = some (.slice (some ⟨g, 0, none⟩) n d) := B3.cell 2
    have r0 : w3.cell? ⟨w.heap.size + 1, 0, none⟩ = some (.int .i64 0) := R3.cell 0
    have r1 : w3.cell? ⟨w.heap.size + 1, 1, none⟩ = some (.int .i64 0) := R3.cell 1
    have r2 : w3.cell? ⟨w.heap.size + 1, 2, none⟩ = some (.slice none 0 0) := R3.cell 2
    have q0 : w3.frozen? ⟨w.heap.size + 1, 0, none⟩ = false := R3.frozen 0
    have q1 : w3.frozen? ⟨w.heap.size + 1, 1, none⟩ = false := R3.frozen 1
    have q2 : w3.frozen? ⟨w.heap.size + 1, 2, none⟩ = false := R3.frozen 2
    have HY := Lib.hid y3
    clear y2 y3
    go_wp2
    have G := (((Only.refl [w.heap.size + 1] (w3.setCell ⟨g, i, none⟩ (.int .i64 ((x + k) % p)))).setCell ⟨w.heap.size + 1, 0, none⟩ (.int .i64 s0) (by simp)).setCell ⟨w.heap.size + 1, 1, none⟩ (.int .i64 s1) (by simp)).setCell ⟨w.heap.size + 1, 2, none⟩ (.slice (some ⟨g, 0, none⟩) n d) (by simp)
    have V4 := V3.setCell (p := ⟨g, i, none⟩) (by show w.heap.size ≤ g; omega) (.int .i64 ((x + k) % p))
    exact bodyPost_ret (v := .agg #[.int .i64 s0, .int .i64 s1, .slice (some ⟨g, 0, none⟩) n d]) (by simp [results, Tryd.results119, go_sem, r0, r1, r2]) rfl ⟨_, _, rfl, (HY.out.only G (fun q hq hq' => by
      obtain ⟨z, hz, _, rfl⟩ := mem_foot hq
      cases hz
      simp at hq'; omega)).lower (by omega), V4.trans (G.below V4.size (by simp))⟩
end Go.Proofs.YtlmdckcohoddnaaDoor
