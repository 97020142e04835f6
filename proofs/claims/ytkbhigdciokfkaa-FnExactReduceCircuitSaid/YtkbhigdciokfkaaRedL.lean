/- The circuit that adds modulo a prime: the law. -/
import Derived.Test.YtkbhigdciokfkaaRed
import Derived.Test.YtkbhigdciokfkaaMkV
import Derived.Test.YtkbhigdciokfkaaCik
namespace Go.Proofs.Ytkbhigdciokfkaa
open Go.RowKit
theorem re_at {p : Int} (h : isPr p = true) : ciB (wid p) (wid p) ((reG p).length / 3) (reG p) (reO p) = true ∧ (reG p).length ≤ 900 ∧ (reO p).length ≤ 900 := by
  obtain ⟨h1, h2⟩ := isPr_range h
  have hn8 := wid_le p
  have hn1 := wid_cases p
  unfold reG reO
  obtain ⟨n, hn⟩ : ∃ n, n = wid p := ⟨_, rfl⟩
  rw [← hn] at hn1 hn8 ⊢
  replace hn1 : 1 ≤ n := by omega
  clear hn
  have hB : (0 : Int) ≤ (n : Int) + n := by omega
  have la := adG_len ((n : Int) + n) (spL 0 n) (spL n n) [] n
  obtain ⟨ga, ma, wa, ca⟩ := adG_good (Gd.nil hB) (spL_ws (B := (n : Int) + n) (G := []) n (Int.le_refl 0) (by omega)) (spL_ws (B := (n : Int) + n) (f := n) (G := []) n (by omega) (by omega)) n (by rw [spL_len]; exact Nat.le_refl _) (by rw [spL_len]; exact Nat.le_refl _)
  have e1 : re1 n = adG ((n : Int) + n) (spL 0 n) (spL n n) [] n := rfl
  rw [← e1] at la ga ma wa ca
  clear e1
  generalize re1 n = r at *
  replace ca := ca (by omega)
  have g2 := ga.one
  have n2 := Wr.new (G := r.1) hB 3 0 0
  have g3 := g2.not n2
  have m2 := Mo.gt ((n : Int) + n) r.1 3 0 0
  have m3 := Mo.gt ((n : Int) + n) (gt r.1 3 0 0) 2 (gW ((n : Int) + n) r.1) 0
  have n3 := Wr.new (G := gt r.1 3 0 0) hB 2 (gW ((n : Int) + n) r.1) 0
  have ws := ((m2.trans m3).ws wa).app (Ws.one ((m2.trans m3).wr ca))
  have wc : Ws ((n : Int) + n) (gt (gt r.1 3 0 0) 2 (gW ((n : Int) + n) r.1) 0) (coL (gW ((n : Int) + n) (gt r.1 3 0 0)) p (n + 1)) := coL_ws (n + 1) n3 (by rw [gW_gt, show gW ((n : Int) + n) r.1 + 1 - 1 = gW ((n : Int) + n) r.1 by omega]; exact m3.wr n2)
  have ls := suG_len ((n : Int) + n) (r.2.1 ++ [r.2.2]) (coL (gW ((n : Int) + n) (gt r.1 3 0 0)) p (n + 1)) (gt (gt r.1 3 0 0) 2 (gW ((n : Int) + n) r.1) 0) (n + 1)
  obtain ⟨gs, ms, wd, cd⟩ := suG_good g3 ws wc (n + 1) (by rw [List.length_append]; simp; omega) (by rw [coL_len]; exact Nat.le_refl _)
  have e3 : re3 n p r = suG ((n : Int) + n) (r.2.1 ++ [r.2.2]) (coL (gW ((n : Int) + n) (gt r.1 3 0 0)) p (n + 1)) (gt (gt r.1 3 0 0) 2 (gW ((n : Int) + n) r.1) 0) (n + 1) := rfl
  rw [← e3] at ls gs ms wd cd
  clear e3
  generalize re3 n p r = q at *
  replace cd := cd (by omega)
  have lc := chG_len ((n : Int) + n) q.2.2 (r.2.1 ++ [r.2.2]) q.2.1 q.1 n
  obtain ⟨gz, mz, wz⟩ := chG_good gs cd (ms.ws ws) wd n (by rw [List.length_append]; omega) (by omega)
  have e4 : re4 n r q = chG ((n : Int) + n) q.2.2 (r.2.1 ++ [r.2.2]) q.2.1 q.1 n := rfl
  rw [← e4] at lc gz mz wz
  simp only [gt_len, List.length_nil] at ls la
  exact ⟨ci_good (by omega) (by omega) gz wz rfl (by omega) (by omega), by omega, by omega⟩
theorem re_ok {p : Int} (h : isPr p = true) : ciB (wid p) (wid p) ((reG p).length / 3) (reG p) (reO p) = true := (re_at h).1
def rcS (p : Int) : Int := if isPr p then (wid p : Nat) else 0
def rcG (p : Int) : List Int := if isPr p then reG p else []
def rcO (p : Int) : List Int := if isPr p then reO p else []
theorem rc_len (p : Int) : (rcG p).length ≤ 900 ∧ (rcO p).length ≤ 900 := by
  unfold rcG rcO
  split
  · rename_i h; exact (re_at h).2
  · simp
set_option maxHeartbeats 8000000 in
set_option maxRecDepth 100000 in
theorem valid_yes (i0 i1 : Int) (ga : Option Addr) (gn gc : Nat) (G : List Int) (oa : Option Addr) (on oc : Nat) (O : List Int) (w : World) (hG : Flat 3 w ga gn gc G) (hO : Ints w oa on oc O) (hv : ciB i0 i1 gn G O = true) :
    Calls Try.prog 44 #[.agg #[.int .i64 i0, .int .i64 i1, .slice ga gn gc, .slice oa on oc]] w fun e w' => e = .returned (.tuple #[.agg #[.int .i64 i0, .int .i64 i1, .slice ga gn gc, .slice oa on oc], .bool true]) ∧ Below w.heap.size w w' := by
  have V2 : Below w.heap.size w ((w.alloc (.cells #[.int .i64 i0, .int .i64 i1, .slice ga gn gc, .slice oa on oc] 25)).alloc (.cells #[.int .i64 0, .int .i64 0, .slice none 0 0, .slice none 0 0] 25)) := ((Below.refl _ _).alloc (Nat.le_refl _) _).alloc (by simp) _
  have P2 : Blk ((w.alloc (.cells #[.int .i64 i0, .int .i64 i1, .slice ga gn gc, .slice oa on oc] 25)).alloc (.cells #[.int .i64 0, .int .i64 0, .slice none 0 0, .slice none 0 0] 25)) w.heap.size 25 #[.int .i64 i0, .int .i64 i1, .slice ga gn gc, .slice oa on oc] := (Blk.new w _ _).alloc _
  have R2 : Blk ((w.alloc (.cells #[.int .i64 i0, .int .i64 i1, .slice ga gn gc, .slice oa on oc] 25)).alloc (.cells #[.int .i64 0, .int .i64 0, .slice none 0 0, .slice none 0 0] 25)) (w.heap.size + 1) 25 #[.int .i64 0, .int .i64 0, .slice none 0 0, .slice none 0 0] := by simpa using (Blk.new (w.alloc (.cells #[.int .i64 i0, .int .i64 i1, .slice ga gn gc, .slice oa on oc] 25)) 25 #[.int .i64 0, .int .i64 0, .slice none 0 0, .slice none 0 0])
  go_enter Try.func44, Try.ntmps44
  go_wp2_with fail
  refine (IsCircuit_any _ _ _ _ _ G _ _ _ O _ (hG.below V2) (hO.below V2)).mono ?_; rintro e w3 ⟨rfl, u3⟩
  rw [hv]
  have V3 := V2.trans (u3.mono V2.size)
  have P3 := P2.below u3
  have R3 := R2.below u3
  have x0 : w3.cell? ⟨w.heap.size, 0, none⟩ = some (.int .i64 i0) := P3.cell 0
  have x1 : w3.cell? ⟨w.heap.size, 1, none⟩ = some (.int .i64 i1) := P3.cell 1
  have x2 : w3.cell? ⟨w.heap.size, 2, none⟩ = some (.slice ga gn gc) := P3.cell 2
  have x3 : w3.cell? ⟨w.heap.size, 3, none⟩ = some (.slice oa on oc) := P3.cell 3
  have r0 : w3.cell? ⟨w.heap.size + 1, 0, none⟩ = some (.int .i64 0) := R3.cell 0
  have q0 : w3.frozen? ⟨w.heap.size + 1, 0, none⟩ = false := R3.frozen 0
  have r1 : w3.cell? ⟨w.heap.size + 1, 1, none⟩ = some (.int .i64 0) := R3.cell 1
  have q1 : w3.frozen? ⟨w.heap.size + 1, 1, none⟩ = false := R3.frozen 1
  have r2 : w3.cell? ⟨w.heap.size + 1, 2, none⟩ = some (.slice none 0 0) := R3.cell 2
  have q2 : w3.frozen? ⟨w.heap.size + 1, 2, none⟩ = false := R3.frozen 2
  have r3 : w3.cell? ⟨w.heap.size + 1, 3, none⟩ = some (.slice none 0 0) := R3.cell 3
  have q3 : w3.frozen? ⟨w.heap.size + 1, 3, none⟩ = false := R3.frozen 3
  clear P2 R2 V2 u3 P3 R3
  go_wp2
  have GG := (((((Only.refl [w.heap.size + 1] w3).setCell ⟨w.heap.size + 1, 0, none⟩ (.int .i64 i0) (by simp)).setCell ⟨w.heap.size + 1, 1, none⟩ (.int .i64 i1) (by simp)).setCell ⟨w.heap.size + 1, 2, none⟩ (.slice ga gn gc) (by simp)).setCell ⟨w.heap.size + 1, 3, none⟩ (.slice oa on oc) (by simp))
  exact bodyPost_ret (v := .tuple #[.agg #[.int .i64 i0, .int .i64 i1, .slice ga gn gc, .slice oa on oc], .bool true]) (by simp [results, Try.results44, go_sem, r0, r1, r2, r3]) rfl ⟨rfl, V3.trans (GG.below V3.size (by simp))⟩
set_option maxHeartbeats 8000000 in
set_option maxRecDepth 100000 in
theorem valid_no (i0 i1 : Int) (ga : Option Addr) (gn gc : Nat) (G : List Int) (oa : Option Addr) (on oc : Nat) (O : List Int) (w : World) (hG : Flat 3 w ga gn gc G) (hO : Ints w oa on oc O) (hv : ciB i0 i1 gn G O = false) :
    Calls Try.prog 44 #[.agg #[.int .i64 i0, .int .i64 i1, .slice ga gn gc, .slice oa on oc]] w fun e w' => e = .returned (.tuple #[.agg #[.int .i64 0, .int .i64 0, .slice none 0 0, .slice none 0 0], .bool false]) ∧ Below w.heap.size w w' := by
  have V2 : Below w.heap.size w ((w.alloc (.cells #[.int .i64 i0, .int .i64 i1, .slice ga gn gc, .slice oa on oc] 25)).alloc (.cells #[.int .i64 0, .int .i64 0, .slice none 0 0, .slice none 0 0] 25)) := ((Below.refl _ _).alloc (Nat.le_refl _) _).alloc (by simp) _
  have P2 : Blk ((w.alloc (.cells #[.int .i64 i0, .int .i64 i1, .slice ga gn gc, .slice oa on oc] 25)).alloc (.cells #[.int .i64 0, .int .i64 0, .slice none 0 0, .slice none 0 0] 25)) w.heap.size 25 #[.int .i64 i0, .int .i64 i1, .slice ga gn gc, .slice oa on oc] := (Blk.new w _ _).alloc _
  have R2 : Blk ((w.alloc (.cells #[.int .i64 i0, .int .i64 i1, .slice ga gn gc, .slice oa on oc] 25)).alloc (.cells #[.int .i64 0, .int .i64 0, .slice none 0 0, .slice none 0 0] 25)) (w.heap.size + 1) 25 #[.int .i64 0, .int .i64 0, .slice none 0 0, .slice none 0 0] := by simpa using (Blk.new (w.alloc (.cells #[.int .i64 i0, .int .i64 i1, .slice ga gn gc, .slice oa on oc] 25)) 25 #[.int .i64 0, .int .i64 0, .slice none 0 0, .slice none 0 0])
  go_enter Try.func44, Try.ntmps44
  go_wp2_with fail
  refine (IsCircuit_any _ _ _ _ _ G _ _ _ O _ (hG.below V2) (hO.below V2)).mono ?_; rintro e w3 ⟨rfl, u3⟩
  rw [hv]
  have V3 := V2.trans (u3.mono V2.size)
  have P3 := P2.below u3
  have R3 := R2.below u3
  have r0 : w3.cell? ⟨w.heap.size + 1, 0, none⟩ = some (.int .i64 0) := R3.cell 0
  have q0 : w3.frozen? ⟨w.heap.size + 1, 0, none⟩ = false := R3.frozen 0
  have r1 : w3.cell? ⟨w.heap.size + 1, 1, none⟩ = some (.int .i64 0) := R3.cell 1
  have q1 : w3.frozen? ⟨w.heap.size + 1, 1, none⟩ = false := R3.frozen 1
  have r2 : w3.cell? ⟨w.heap.size + 1, 2, none⟩ = some (.slice none 0 0) := R3.cell 2
  have q2 : w3.frozen? ⟨w.heap.size + 1, 2, none⟩ = false := R3.frozen 2
  have r3 : w3.cell? ⟨w.heap.size + 1, 3, none⟩ = some (.slice none 0 0) := R3.cell 3
  have q3 : w3.frozen? ⟨w.heap.size + 1, 3, none⟩ = false := R3.frozen 3
  clear P2 R2 V2 u3 P3 R3
  go_wp2
  have GG := (((((Only.refl [w.heap.size + 1] w3).setCell ⟨w.heap.size + 1, 0, none⟩ (.int .i64 0) (by simp)).setCell ⟨w.heap.size + 1, 1, none⟩ (.int .i64 0) (by simp)).setCell ⟨w.heap.size + 1, 2, none⟩ (.slice none 0 0) (by simp)).setCell ⟨w.heap.size + 1, 3, none⟩ (.slice none 0 0) (by simp))
  exact bodyPost_ret (v := .tuple #[.agg #[.int .i64 0, .int .i64 0, .slice none 0 0, .slice none 0 0], .bool false]) (by simp [results, Try.results44, go_sem, r0, r1, r2, r3]) rfl ⟨rfl, V3.trans (GG.below V3.size (by simp))⟩
set_option maxHeartbeats 8000000 in
set_option maxRecDepth 100000 in
theorem ciIf_yes (i0 i1 : Int) (ga : Option Addr) (gn gc : Nat) (G : List Int) (oa : Option Addr) (on oc : Nat) (O : List Int) (w : World) (hG : Flat 3 w ga gn gc G) (hO : Ints w oa on oc O) (hv : ciB i0 i1 gn G O = true) :
    Calls Try.prog 94 #[.agg #[.int .i64 i0, .int .i64 i1, .slice ga gn gc, .slice oa on oc]] w fun e w' => e = .returned (.tuple #[.agg #[.int .i64 i0, .int .i64 i1, .slice ga gn gc, .slice oa on oc], .bool true]) ∧ Below w.heap.size w w' := by
  have V2 : Below w.heap.size w ((w.alloc (.cells #[.int .i64 i0, .int .i64 i1, .slice ga gn gc, .slice oa on oc] 25)).alloc (.cells #[.int .i64 0, .int .i64 0, .slice none 0 0, .slice none 0 0] 25)) := ((Below.refl _ _).alloc (Nat.le_refl _) _).alloc (by simp) _
  have P2 : Blk ((w.alloc (.cells #[.int .i64 i0, .int .i64 i1, .slice ga gn gc, .slice oa on oc] 25)).alloc (.cells #[.int .i64 0, .int .i64 0, .slice none 0 0, .slice none 0 0] 25)) w.heap.size 25 #[.int .i64 i0, .int .i64 i1, .slice ga gn gc, .slice oa on oc] := (Blk.new w _ _).alloc _
  have R2 : Blk ((w.alloc (.cells #[.int .i64 i0, .int .i64 i1, .slice ga gn gc, .slice oa on oc] 25)).alloc (.cells #[.int .i64 0, .int .i64 0, .slice none 0 0, .slice none 0 0] 25)) (w.heap.size + 1) 25 #[.int .i64 0, .int .i64 0, .slice none 0 0, .slice none 0 0] := by simpa using (Blk.new (w.alloc (.cells #[.int .i64 i0, .int .i64 i1, .slice ga gn gc, .slice oa on oc] 25)) 25 #[.int .i64 0, .int .i64 0, .slice none 0 0, .slice none 0 0])
  go_enter Try.func94, Try.ntmps94
  go_wp2_with fail
  refine (ciGood_any _ _ _ _ _ G _ _ _ O _ (hG.below V2) (hO.below V2)).mono ?_; rintro e w3 ⟨rfl, u3⟩
  rw [hv]
  have V3 := V2.trans (u3.mono V2.size)
  have P3 := P2.below u3
  have R3 := R2.below u3
  have x0 : w3.cell? ⟨w.heap.size, 0, none⟩ = some (.int .i64 i0) := P3.cell 0
  have x1 : w3.cell? ⟨w.heap.size, 1, none⟩ = some (.int .i64 i1) := P3.cell 1
  have x2 : w3.cell? ⟨w.heap.size, 2, none⟩ = some (.slice ga gn gc) := P3.cell 2
  have x3 : w3.cell? ⟨w.heap.size, 3, none⟩ = some (.slice oa on oc) := P3.cell 3
  have r0 : w3.cell? ⟨w.heap.size + 1, 0, none⟩ = some (.int .i64 0) := R3.cell 0
  have q0 : w3.frozen? ⟨w.heap.size + 1, 0, none⟩ = false := R3.frozen 0
  have r1 : w3.cell? ⟨w.heap.size + 1, 1, none⟩ = some (.int .i64 0) := R3.cell 1
  have q1 : w3.frozen? ⟨w.heap.size + 1, 1, none⟩ = false := R3.frozen 1
  have r2 : w3.cell? ⟨w.heap.size + 1, 2, none⟩ = some (.slice none 0 0) := R3.cell 2
  have q2 : w3.frozen? ⟨w.heap.size + 1, 2, none⟩ = false := R3.frozen 2
  have r3 : w3.cell? ⟨w.heap.size + 1, 3, none⟩ = some (.slice none 0 0) := R3.cell 3
  have q3 : w3.frozen? ⟨w.heap.size + 1, 3, none⟩ = false := R3.frozen 3
  clear P2 R2 V2 u3 P3 R3
  go_wp2
  have GG := (((((Only.refl [w.heap.size + 1] w3).setCell ⟨w.heap.size + 1, 0, none⟩ (.int .i64 i0) (by simp)).setCell ⟨w.heap.size + 1, 1, none⟩ (.int .i64 i1) (by simp)).setCell ⟨w.heap.size + 1, 2, none⟩ (.slice ga gn gc) (by simp)).setCell ⟨w.heap.size + 1, 3, none⟩ (.slice oa on oc) (by simp))
  exact bodyPost_ret (v := .tuple #[.agg #[.int .i64 i0, .int .i64 i1, .slice ga gn gc, .slice oa on oc], .bool true]) (by simp [results, Try.results94, go_sem, r0, r1, r2, r3]) rfl ⟨rfl, V3.trans (GG.below V3.size (by simp))⟩
set_option maxHeartbeats 8000000 in
set_option maxRecDepth 100000 in
theorem ciIf_no (i0 i1 : Int) (ga : Option Addr) (gn gc : Nat) (G : List Int) (oa : Option Addr) (on oc : Nat) (O : List Int) (w : World) (hG : Flat 3 w ga gn gc G) (hO : Ints w oa on oc O) (hv : ciB i0 i1 gn G O = false) :
    Calls Try.prog 94 #[.agg #[.int .i64 i0, .int .i64 i1, .slice ga gn gc, .slice oa on oc]] w fun e w' => e = .returned (.tuple #[.agg #[.int .i64 0, .int .i64 0, .slice none 0 0, .slice none 0 0], .bool false]) ∧ Below w.heap.size w w' := by
  have V2 : Below w.heap.size w ((w.alloc (.cells #[.int .i64 i0, .int .i64 i1, .slice ga gn gc, .slice oa on oc] 25)).alloc (.cells #[.int .i64 0, .int .i64 0, .slice none 0 0, .slice none 0 0] 25)) := ((Below.refl _ _).alloc (Nat.le_refl _) _).alloc (by simp) _
  have P2 : Blk ((w.alloc (.cells #[.int .i64 i0, .int .i64 i1, .slice ga gn gc, .slice oa on oc] 25)).alloc (.cells #[.int .i64 0, .int .i64 0, .slice none 0 0, .slice none 0 0] 25)) w.heap.size 25 #[.int .i64 i0, .int .i64 i1, .slice ga gn gc, .slice oa on oc] := (Blk.new w _ _).alloc _
  have R2 : Blk ((w.alloc (.cells #[.int .i64 i0, .int .i64 i1, .slice ga gn gc, .slice oa on oc] 25)).alloc (.cells #[.int .i64 0, .int .i64 0, .slice none 0 0, .slice none 0 0] 25)) (w.heap.size + 1) 25 #[.int .i64 0, .int .i64 0, .slice none 0 0, .slice none 0 0] := by simpa using (Blk.new (w.alloc (.cells #[.int .i64 i0, .int .i64 i1, .slice ga gn gc, .slice oa on oc] 25)) 25 #[.int .i64 0, .int .i64 0, .slice none 0 0, .slice none 0 0])
  go_enter Try.func94, Try.ntmps94
  go_wp2_with fail
  refine (ciGood_any _ _ _ _ _ G _ _ _ O _ (hG.below V2) (hO.below V2)).mono ?_; rintro e w3 ⟨rfl, u3⟩
  rw [hv]
  have V3 := V2.trans (u3.mono V2.size)
  have P3 := P2.below u3
  have R3 := R2.below u3
  have r0 : w3.cell? ⟨w.heap.size + 1, 0, none⟩ = some (.int .i64 0) := R3.cell 0
  have q0 : w3.frozen? ⟨w.heap.size + 1, 0, none⟩ = false := R3.frozen 0
  have r1 : w3.cell? ⟨w.heap.size + 1, 1, none⟩ = some (.int .i64 0) := R3.cell 1
  have q1 : w3.frozen? ⟨w.heap.size + 1, 1, none⟩ = false := R3.frozen 1
  have r2 : w3.cell? ⟨w.heap.size + 1, 2, none⟩ = some (.slice none 0 0) := R3.cell 2
  have q2 : w3.frozen? ⟨w.heap.size + 1, 2, none⟩ = false := R3.frozen 2
  have r3 : w3.cell? ⟨w.heap.size + 1, 3, none⟩ = some (.slice none 0 0) := R3.cell 3
  have q3 : w3.frozen? ⟨w.heap.size + 1, 3, none⟩ = false := R3.frozen 3
  clear P2 R2 V2 u3 P3 R3
  go_wp2
  have GG := (((((Only.refl [w.heap.size + 1] w3).setCell ⟨w.heap.size + 1, 0, none⟩ (.int .i64 0) (by simp)).setCell ⟨w.heap.size + 1, 1, none⟩ (.int .i64 0) (by simp)).setCell ⟨w.heap.size + 1, 2, none⟩ (.slice none 0 0) (by simp)).setCell ⟨w.heap.size + 1, 3, none⟩ (.slice none 0 0) (by simp))
  exact bodyPost_ret (v := .tuple #[.agg #[.int .i64 0, .int .i64 0, .slice none 0 0, .slice none 0 0], .bool false]) (by simp [results, Try.results94, go_sem, r0, r1, r2, r3]) rfl ⟨rfl, V3.trans (GG.below V3.size (by simp))⟩
set_option maxHeartbeats 8000000 in
set_option maxRecDepth 100000 in
theorem ReduceCircuit_any (p : Int) (w : World) :
    Calls Try.prog 14 #[.int .i64 p] w fun e w' => ∃ ga gn gc oa on oc, e = .returned (.tuple #[.agg #[.int .i64 (rcS p), .int .i64 (rcS p), .slice ga gn gc, .slice oa on oc], .bool (isPr p)]) ∧ OwnF 3 eGate w' w.heap.size ga gn gc (rcG p) ∧ Own w' w.heap.size oa on oc (rcO p) ∧ Disj (foot ga gc) (foot oa oc) ∧ Below w.heap.size w w' := by
  have V1 : Below w.heap.size w (w.alloc (.cells #[.int .i64 0, .int .i64 0, .slice none 0 0, .slice none 0 0] 25)) := (Below.refl _ _).alloc (Nat.le_refl _) _
  have R1 : Blk (w.alloc (.cells #[.int .i64 0, .int .i64 0, .slice none 0 0, .slice none 0 0] 25)) w.heap.size 25 #[.int .i64 0, .int .i64 0, .slice none 0 0, .slice none 0 0] := Blk.new w _ _
  have Z1 : w.heap.size + 1 ≤ (w.alloc (.cells #[.int .i64 0, .int .i64 0, .slice none 0 0, .slice none 0 0] 25)).heap.size := by simp
  unfold rcS rcG rcO
  cases h1 : isPr p
  · simp only [Bool.false_eq_true, if_false]
    go_enter Try.func14, Try.ntmps14
    go_wp2_with fail
    refine (IsPrime_any _ _).mono ?_; rintro e w2 ⟨rfl, q2⟩
    rw [h1]
    have u2 := below_of_quiet q2
    clear q2
    generalize (w.alloc (.cells #[.int .i64 0, .int .i64 0, .slice none 0 0, .slice none 0 0] 25)) = w1 at *
    have V2 := V1.trans (u2.mono V1.size)
    have R2 := R1.below u2
    have Z2 : w.heap.size + 1 ≤ w2.heap.size := Nat.le_trans Z1 u2.size
    clear V1 R1 Z1 u2
    have r0 : w2.cell? ⟨w.heap.size, 0, none⟩ = some (.int .i64 0) := R2.cell 0
    have r1 : w2.cell? ⟨w.heap.size, 1, none⟩ = some (.int .i64 0) := R2.cell 1
    have r2 : w2.cell? ⟨w.heap.size, 2, none⟩ = some (.slice none 0 0) := R2.cell 2
    have r3 : w2.cell? ⟨w.heap.size, 3, none⟩ = some (.slice none 0 0) := R2.cell 3
    have q0 : w2.frozen? ⟨w.heap.size, 0, none⟩ = false := R2.frozen 0
    have q1 : w2.frozen? ⟨w.heap.size, 1, none⟩ = false := R2.frozen 1
    have q2 : w2.frozen? ⟨w.heap.size, 2, none⟩ = false := R2.frozen 2
    have q3 : w2.frozen? ⟨w.heap.size, 3, none⟩ = false := R2.frozen 3
    go_wp2
    have GG := (((((Only.refl [w.heap.size] w2).setCell ⟨w.heap.size, 0, none⟩ (.int .i64 0) (by simp)).setCell ⟨w.heap.size, 1, none⟩ (.int .i64 0) (by simp)).setCell ⟨w.heap.size, 2, none⟩ (.slice none 0 0) (by simp)).setCell ⟨w.heap.size, 3, none⟩ (.slice none 0 0) (by simp))
    exact bodyPost_ret (v := .tuple #[.agg #[.int .i64 0, .int .i64 0, .slice none 0 0, .slice none 0 0], .bool false]) (by simp [results, Try.results14, go_sem, r0, r1, r2, r3]) rfl ⟨none, 0, 0, none, 0, 0, rfl, OwnC.nil0 _ _ _ _ _, Own.nil0 _ _ _, foot_nil _ _, V2.trans (GG.below V2.size (by simp))⟩
  · simp only [if_true]
    obtain ⟨p1, p2⟩ := isPr_range h1
    have HOK := Lib.hid (re_ok h1)
    go_enter Try.func14, Try.ntmps14
    go_wp2_with fail
    refine (IsPrime_any _ _).mono ?_; rintro e w2 ⟨rfl, q2⟩
    rw [h1]
    have u2 := below_of_quiet q2
    clear q2
    generalize (w.alloc (.cells #[.int .i64 0, .int .i64 0, .slice none 0 0, .slice none 0 0] 25)) = w1 at *
    have V2 := V1.trans (u2.mono V1.size)
    have R2 := R1.below u2
    have Z2 : w.heap.size + 1 ≤ w2.heap.size := Nat.le_trans Z1 u2.size
    clear V1 R1 Z1 u2
    go_wp2_with fail
    refine (reduceCircuit_any p _ p1 (by omega)).mono ?_; rintro e w3 ⟨ga, gn, gc, oa, on, oc, rfl, og, oo, dd, u3⟩
    have V3 := V2.trans (u3.mono V2.size)
    have R3 := R2.below u3
    have Q1 := Lib.hid og.feet
    have Q2 := Lib.hid oo.feet
    have Z3 := u3.size
    clear V2 R2 u3
    have HV : Hid (ciB (wid p : Nat) (wid p : Nat) gn (reG p) (reO p) = true) := Lib.hid (by rw [show gn = (reG p).length / 3 by have := og.len; omega]; exact HOK.out)
    go_wp2_with fail
    refine (valid_yes _ _ _ _ _ (reG p) _ _ _ (reO p) _ og.flat oo.ints HV.out).mono ?_; rintro e w4 ⟨rfl, u4⟩
    have V4 := V3.trans (u4.mono V3.size)
    have R4 := R3.below u4
    have og4 := og.below u4
    have oo4 := oo.below u4
    clear V3 R3 og oo u4
    have r0 : w4.cell? ⟨w.heap.size, 0, none⟩ = some (.int .i64 0) := R4.cell 0
    have r1 : w4.cell? ⟨w.heap.size, 1, none⟩ = some (.int .i64 0) := R4.cell 1
    have r2 : w4.cell? ⟨w.heap.size, 2, none⟩ = some (.slice none 0 0) := R4.cell 2
    have r3 : w4.cell? ⟨w.heap.size, 3, none⟩ = some (.slice none 0 0) := R4.cell 3
    have q0 : w4.frozen? ⟨w.heap.size, 0, none⟩ = false := R4.frozen 0
    have q1 : w4.frozen? ⟨w.heap.size, 1, none⟩ = false := R4.frozen 1
    have q2 : w4.frozen? ⟨w.heap.size, 2, none⟩ = false := R4.frozen 2
    have q3 : w4.frozen? ⟨w.heap.size, 3, none⟩ = false := R4.frozen 3
    go_wp2
    have GG := (((((Only.refl [w.heap.size] w4).setCell ⟨w.heap.size, 0, none⟩ (.int .i64 (wid p : Nat)) (by simp)).setCell ⟨w.heap.size, 1, none⟩ (.int .i64 (wid p : Nat)) (by simp)).setCell ⟨w.heap.size, 2, none⟩ (.slice ga gn gc) (by simp)).setCell ⟨w.heap.size, 3, none⟩ (.slice oa on oc) (by simp))
    exact bodyPost_ret (v := .tuple #[.agg #[.int .i64 (wid p : Nat), .int .i64 (wid p : Nat), .slice ga gn gc, .slice oa on oc], .bool true]) (by simp [results, Try.results14, go_sem, r0, r1, r2, r3]) rfl ⟨ga, gn, gc, oa, on, oc, rfl, (og4.only GG (fun k hk hk' => by have := Q1.out k hk; simp at hk'; omega)).lower (by omega), (oo4.only GG (fun k hk hk' => by have := Q2.out k hk; simp at hk'; omega)).lower (by omega), dd, V4.trans (GG.below V4.size (by simp))⟩
set_option maxHeartbeats 8000000 in
set_option maxRecDepth 100000 in
theorem spec_ReduceCircuit_any (p : Int) (w : World) :
    Calls Try.prog 13 #[.int .i64 p] w fun e w' => ∃ ga gn gc oa on oc, e = .returned (.tuple #[.agg #[.int .i64 (rcS p), .int .i64 (rcS p), .slice ga gn gc, .slice oa on oc], .bool (isPr p)]) ∧ OwnF 3 eGate w' w.heap.size ga gn gc (rcG p) ∧ Own w' w.heap.size oa on oc (rcO p) ∧ Disj (foot ga gc) (foot oa oc) ∧ Below w.heap.size w w' := by
  have V1 : Below w.heap.size w (w.alloc (.cells #[.int .i64 0, .int .i64 0, .slice none 0 0, .slice none 0 0] 25)) := (Below.refl _ _).alloc (Nat.le_refl _) _
  have R1 : Blk (w.alloc (.cells #[.int .i64 0, .int .i64 0, .slice none 0 0, .slice none 0 0] 25)) w.heap.size 25 #[.int .i64 0, .int .i64 0, .slice none 0 0, .slice none 0 0] := Blk.new w _ _
  have Z1 : w.heap.size + 1 ≤ (w.alloc (.cells #[.int .i64 0, .int .i64 0, .slice none 0 0, .slice none 0 0] 25)).heap.size := by simp
  unfold rcS rcG rcO
  cases h1 : isPr p
  · simp only [Bool.false_eq_true, if_false]
    go_enter Try.func13, Try.ntmps13
    go_wp2_with fail
    refine (fpGood_any _ _).mono ?_; rintro e w2 ⟨rfl, q2⟩
    rw [h1]
    have u2 := below_of_quiet q2
    clear q2
    generalize (w.alloc (.cells #[.int .i64 0, .int .i64 0, .slice none 0 0, .slice none 0 0] 25)) = w1 at *
    have V2 := V1.trans (u2.mono V1.size)
    have R2 := R1.below u2
    have Z2 : w.heap.size + 1 ≤ w2.heap.size := Nat.le_trans Z1 u2.size
    clear V1 R1 Z1 u2
    have r0 : w2.cell? ⟨w.heap.size, 0, none⟩ = some (.int .i64 0) := R2.cell 0
    have r1 : w2.cell? ⟨w.heap.size, 1, none⟩ = some (.int .i64 0) := R2.cell 1
    have r2 : w2.cell? ⟨w.heap.size, 2, none⟩ = some (.slice none 0 0) := R2.cell 2
    have r3 : w2.cell? ⟨w.heap.size, 3, none⟩ = some (.slice none 0 0) := R2.cell 3
    have q0 : w2.frozen? ⟨w.heap.size, 0, none⟩ = false := R2.frozen 0
    have q1 : w2.frozen? ⟨w.heap.size, 1, none⟩ = false := R2.frozen 1
    have q2 : w2.frozen? ⟨w.heap.size, 2, none⟩ = false := R2.frozen 2
    have q3 : w2.frozen? ⟨w.heap.size, 3, none⟩ = false := R2.frozen 3
    go_wp2
    have GG := (((((Only.refl [w.heap.size] w2).setCell ⟨w.heap.size, 0, none⟩ (.int .i64 0) (by simp)).setCell ⟨w.heap.size, 1, none⟩ (.int .i64 0) (by simp)).setCell ⟨w.heap.size, 2, none⟩ (.slice none 0 0) (by simp)).setCell ⟨w.heap.size, 3, none⟩ (.slice none 0 0) (by simp))
    exact bodyPost_ret (v := .tuple #[.agg #[.int .i64 0, .int .i64 0, .slice none 0 0, .slice none 0 0], .bool false]) (by simp [results, Try.results13, go_sem, r0, r1, r2, r3]) rfl ⟨none, 0, 0, none, 0, 0, rfl, OwnC.nil0 _ _ _ _ _, Own.nil0 _ _ _, foot_nil _ _, V2.trans (GG.below V2.size (by simp))⟩
  · simp only [if_true]
    obtain ⟨p1, p2⟩ := isPr_range h1
    have HOK := Lib.hid (re_ok h1)
    go_enter Try.func13, Try.ntmps13
    go_wp2_with fail
    refine (fpGood_any _ _).mono ?_; rintro e w2 ⟨rfl, q2⟩
    rw [h1]
    have u2 := below_of_quiet q2
    clear q2
    generalize (w.alloc (.cells #[.int .i64 0, .int .i64 0, .slice none 0 0, .slice none 0 0] 25)) = w1 at *
    have V2 := V1.trans (u2.mono V1.size)
    have R2 := R1.below u2
    have Z2 : w.heap.size + 1 ≤ w2.heap.size := Nat.le_trans Z1 u2.size
    clear V1 R1 Z1 u2
    go_wp2_with fail
    refine (cvReduce_any p _ p1 (by omega)).mono ?_; rintro e w3 ⟨ga, gn, gc, oa, on, oc, rfl, og, oo, dd, u3⟩
    have V3 := V2.trans (u3.mono V2.size)
    have R3 := R2.below u3
    have Q1 := Lib.hid og.feet
    have Q2 := Lib.hid oo.feet
    have Z3 := u3.size
    clear V2 R2 u3
    have r0 : w3.cell? ⟨w.heap.size, 0, none⟩ = some (.int .i64 0) := R3.cell 0
    have r1 : w3.cell? ⟨w.heap.size, 1, none⟩ = some (.int .i64 0) := R3.cell 1
    have r2 : w3.cell? ⟨w.heap.size, 2, none⟩ = some (.slice none 0 0) := R3.cell 2
    have r3 : w3.cell? ⟨w.heap.size, 3, none⟩ = some (.slice none 0 0) := R3.cell 3
    have q0 : w3.frozen? ⟨w.heap.size, 0, none⟩ = false := R3.frozen 0
    have q1 : w3.frozen? ⟨w.heap.size, 1, none⟩ = false := R3.frozen 1
    have q2 : w3.frozen? ⟨w.heap.size, 2, none⟩ = false := R3.frozen 2
    have q3 : w3.frozen? ⟨w.heap.size, 3, none⟩ = false := R3.frozen 3
    go_wp2
    have GG := (((((Only.refl [w.heap.size] w3).setCell ⟨w.heap.size, 0, none⟩ (.int .i64 (wid p : Nat)) (by simp)).setCell ⟨w.heap.size, 1, none⟩ (.int .i64 (wid p : Nat)) (by simp)).setCell ⟨w.heap.size, 2, none⟩ (.slice ga gn gc) (by simp)).setCell ⟨w.heap.size, 3, none⟩ (.slice oa on oc) (by simp))
    exact bodyPost_ret (v := .tuple #[.agg #[.int .i64 (wid p : Nat), .int .i64 (wid p : Nat), .slice ga gn gc, .slice oa on oc], .bool true]) (by simp [results, Try.results13, go_sem, r0, r1, r2, r3]) rfl ⟨ga, gn, gc, oa, on, oc, rfl, (og.only GG (fun k hk hk' => by have := Q1.out k hk; simp at hk'; omega)).lower (by omega), (oo.only GG (fun k hk hk' => by have := Q2.out k hk; simp at hk'; omega)).lower (by omega), dd, V3.trans (GG.below V3.size (by simp))⟩
set_option maxHeartbeats 8000000 in
set_option maxRecDepth 100000 in
theorem FnExactReduceCircuit_walk (a0 : Int) (w : World) (_w0 : -9223372036854775808 ≤ a0 ∧ a0 ≤ 9223372036854775807) :
    Calls Try.prog 3 #[.int .i64 a0] w fun e w' => e = .returned (.bool true) ∧ Below w.heap.size w w' := by
  go_enter Try.func3, Try.ntmps3
  go_wp2_with fail
  refine (spec_ReduceCircuit_any _ _ ).mono ?_
  rintro e w1' ⟨r_a0_2, r_n0_2, r_c0_2, r_a0_3, r_n0_3, r_c0_3, rfl, r0_2, r0_3, dj_r0_2_0_3, u_w1'⟩
  have V_w1' := (Below.refl w.heap.size w).trans (u_w1'.mono ((Below.refl w.heap.size w)).size)
  have S_w1' := u_w1'.size
  clear u_w1'
  have Q_r0_2 := Lib.hid r0_2.feet
  have Q_r0_3 := Lib.hid r0_3.feet
  go_wp2_with fail
  have V_w2' : Below w.heap.size w (w1'.alloc (.cells #[.int .i64 (rcS a0), .int .i64 (rcS a0), .slice r_a0_2 r_n0_2 r_c0_2, .slice r_a0_3 r_n0_3 r_c0_3] 25)) := ((V_w1').alloc (by have := (V_w1').size; first | exact this | (simp; omega) | simp) _)
  replace r0_2 := r0_2.alloc (.cells #[.int .i64 (rcS a0), .int .i64 (rcS a0), .slice r_a0_2 r_n0_2 r_c0_2, .slice r_a0_3 r_n0_3 r_c0_3] 25)
  replace r0_3 := r0_3.alloc (.cells #[.int .i64 (rcS a0), .int .i64 (rcS a0), .slice r_a0_2 r_n0_2 r_c0_2, .slice r_a0_3 r_n0_3 r_c0_3] 25)
  have B_r0 : Blk (w1'.alloc (.cells #[.int .i64 (rcS a0), .int .i64 (rcS a0), .slice r_a0_2 r_n0_2 r_c0_2, .slice r_a0_3 r_n0_3 r_c0_3] 25)) (w1'.heap.size) 25 #[.int .i64 (rcS a0), .int .i64 (rcS a0), .slice r_a0_2 r_n0_2 r_c0_2, .slice r_a0_3 r_n0_3 r_c0_3] := Blk.new w1' 25 #[.int .i64 (rcS a0), .int .i64 (rcS a0), .slice r_a0_2 r_n0_2 r_c0_2, .slice r_a0_3 r_n0_3 r_c0_3]
  have S_w2' : w1'.heap.size + 1 ≤ (w1'.alloc (.cells #[.int .i64 (rcS a0), .int .i64 (rcS a0), .slice r_a0_2 r_n0_2 r_c0_2, .slice r_a0_3 r_n0_3 r_c0_3] 25)).heap.size := by simp
  generalize (w1'.alloc (.cells #[.int .i64 (rcS a0), .int .i64 (rcS a0), .slice r_a0_2 r_n0_2 r_c0_2, .slice r_a0_3 r_n0_3 r_c0_3] 25)) = w2' at *
  clear V_w1'
  refine (ReduceCircuit_any _ _ ).mono ?_
  rintro e w3' ⟨g_a0_2, g_n0_2, g_c0_2, g_a0_3, g_n0_3, g_c0_3, rfl, g0_2, g0_3, dj_g0_2_0_3, u_w3'⟩
  replace B_r0 := B_r0.below u_w3'
  replace r0_2 := r0_2.below u_w3'
  replace r0_3 := r0_3.below u_w3'
  have V_w3' := V_w2'.trans (u_w3'.mono (V_w2').size)
  have S_w3' := u_w3'.size
  clear u_w3' V_w2'
  have Q_g0_2 := Lib.hid g0_2.feet
  have Q_g0_3 := Lib.hid g0_3.feet
  have e_r0_0 : w3'.cell? ⟨w1'.heap.size, 0, none⟩ = some (.int .i64 (rcS a0)) := B_r0.cell 0
  have e_r0_0_0 : (w3'.alloc (.cells #[.int .i64 (rcS a0), .int .i64 (rcS a0), .slice g_a0_2 g_n0_2 g_c0_2, .slice g_a0_3 g_n0_3 g_c0_3] 25)).cell? ⟨w1'.heap.size, 0, none⟩ = some (.int .i64 (rcS a0)) := keepA _ e_r0_0
  have e_r0_1 : w3'.cell? ⟨w1'.heap.size, 1, none⟩ = some (.int .i64 (rcS a0)) := B_r0.cell 1
  have e_r0_1_0 : (w3'.alloc (.cells #[.int .i64 (rcS a0), .int .i64 (rcS a0), .slice g_a0_2 g_n0_2 g_c0_2, .slice g_a0_3 g_n0_3 g_c0_3] 25)).cell? ⟨w1'.heap.size, 1, none⟩ = some (.int .i64 (rcS a0)) := keepA _ e_r0_1
  have e_r0_2 : w3'.cell? ⟨w1'.heap.size, 2, none⟩ = some (.slice r_a0_2 r_n0_2 r_c0_2) := B_r0.cell 2
  have e_r0_2_0 : (w3'.alloc (.cells #[.int .i64 (rcS a0), .int .i64 (rcS a0), .slice g_a0_2 g_n0_2 g_c0_2, .slice g_a0_3 g_n0_3 g_c0_3] 25)).cell? ⟨w1'.heap.size, 2, none⟩ = some (.slice r_a0_2 r_n0_2 r_c0_2) := keepA _ e_r0_2
  have e_r0_3 : w3'.cell? ⟨w1'.heap.size, 3, none⟩ = some (.slice r_a0_3 r_n0_3 r_c0_3) := B_r0.cell 3
  have e_r0_3_0 : (w3'.alloc (.cells #[.int .i64 (rcS a0), .int .i64 (rcS a0), .slice g_a0_2 g_n0_2 g_c0_2, .slice g_a0_3 g_n0_3 g_c0_3] 25)).cell? ⟨w1'.heap.size, 3, none⟩ = some (.slice r_a0_3 r_n0_3 r_c0_3) := keepA _ e_r0_3
  go_wp2_with fail
  clear e_r0_0 e_r0_0_0 e_r0_1 e_r0_1_0 e_r0_2 e_r0_2_0 e_r0_3 e_r0_3_0
  have V_w4' : Below w.heap.size w (w3'.alloc (.cells #[.int .i64 (rcS a0), .int .i64 (rcS a0), .slice g_a0_2 g_n0_2 g_c0_2, .slice g_a0_3 g_n0_3 g_c0_3] 25)) := ((V_w3').alloc (by have := (V_w3').size; first | exact this | (simp; omega) | simp) _)
  replace B_r0 := B_r0.alloc (.cells #[.int .i64 (rcS a0), .int .i64 (rcS a0), .slice g_a0_2 g_n0_2 g_c0_2, .slice g_a0_3 g_n0_3 g_c0_3] 25)
  replace r0_2 := r0_2.alloc (.cells #[.int .i64 (rcS a0), .int .i64 (rcS a0), .slice g_a0_2 g_n0_2 g_c0_2, .slice g_a0_3 g_n0_3 g_c0_3] 25)
  replace r0_3 := r0_3.alloc (.cells #[.int .i64 (rcS a0), .int .i64 (rcS a0), .slice g_a0_2 g_n0_2 g_c0_2, .slice g_a0_3 g_n0_3 g_c0_3] 25)
  replace g0_2 := g0_2.alloc (.cells #[.int .i64 (rcS a0), .int .i64 (rcS a0), .slice g_a0_2 g_n0_2 g_c0_2, .slice g_a0_3 g_n0_3 g_c0_3] 25)
  replace g0_3 := g0_3.alloc (.cells #[.int .i64 (rcS a0), .int .i64 (rcS a0), .slice g_a0_2 g_n0_2 g_c0_2, .slice g_a0_3 g_n0_3 g_c0_3] 25)
  have B_g0 : Blk (w3'.alloc (.cells #[.int .i64 (rcS a0), .int .i64 (rcS a0), .slice g_a0_2 g_n0_2 g_c0_2, .slice g_a0_3 g_n0_3 g_c0_3] 25)) (w3'.heap.size) 25 #[.int .i64 (rcS a0), .int .i64 (rcS a0), .slice g_a0_2 g_n0_2 g_c0_2, .slice g_a0_3 g_n0_3 g_c0_3] := Blk.new w3' 25 #[.int .i64 (rcS a0), .int .i64 (rcS a0), .slice g_a0_2 g_n0_2 g_c0_2, .slice g_a0_3 g_n0_3 g_c0_3]
  have S_w4' : w3'.heap.size + 1 ≤ (w3'.alloc (.cells #[.int .i64 (rcS a0), .int .i64 (rcS a0), .slice g_a0_2 g_n0_2 g_c0_2, .slice g_a0_3 g_n0_3 g_c0_3] 25)).heap.size := by simp
  generalize (w3'.alloc (.cells #[.int .i64 (rcS a0), .int .i64 (rcS a0), .slice g_a0_2 g_n0_2 g_c0_2, .slice g_a0_3 g_n0_3 g_c0_3] 25)) = w4' at *
  clear V_w3'
  refine (eqCircuit_same _ _ _ _ _ _ _ _ _ _ _ _ _ _ _ _ _ g0_2.flat r0_2.flat g0_3.ints r0_3.ints).mono ?_
  rintro e w5' ⟨rfl, u_w5'⟩
  replace B_r0 := B_r0.below u_w5'
  replace B_g0 := B_g0.below u_w5'
  replace r0_2 := r0_2.below u_w5'
  replace r0_3 := r0_3.below u_w5'
  replace g0_2 := g0_2.below u_w5'
  replace g0_3 := g0_3.below u_w5'
  have V_w5' := V_w4'.trans (u_w5'.mono (V_w4').size)
  have S_w5' := u_w5'.size
  clear u_w5' V_w4'
  have hlg0_2 : g_n0_2 ≤ 1000000 := by have h1 := g0_2.len; have h2 := (rc_len a0).1; omega
  have hlg0_3 : g_n0_3 ≤ 1000000 := by rw [g0_3.len]; exact Nat.le_trans (rc_len a0).2 (by omega)
  have e_g0_0 : w5'.cell? ⟨w3'.heap.size, 0, none⟩ = some (.int .i64 (rcS a0)) := B_g0.cell 0
  have e_g0_1 : w5'.cell? ⟨w3'.heap.size, 1, none⟩ = some (.int .i64 (rcS a0)) := B_g0.cell 1
  have e_g0_2 : w5'.cell? ⟨w3'.heap.size, 2, none⟩ = some (.slice g_a0_2 g_n0_2 g_c0_2) := B_g0.cell 2
  have e_g0_3 : w5'.cell? ⟨w3'.heap.size, 3, none⟩ = some (.slice g_a0_3 g_n0_3 g_c0_3) := B_g0.cell 3
  go_wp2_with fail
  clear e_g0_0 e_g0_1 e_g0_2 e_g0_3
  refine (markCircuit_any _ _ _ _ _ _ _ _ _ _ _ _ _ _ g0_2 g0_3 dj_g0_2_0_3 (by omega) (by omega)).mono ?_
  rintro e w6' ⟨rfl, ⟨L_g0_2, g0_2, U_g0_2⟩, ⟨L_g0_3, g0_3, U_g0_3⟩, G⟩
  replace U_g0_2 := Lib.hid U_g0_2
  replace U_g0_3 := Lib.hid U_g0_3
  have RG : ∀ k ∈ foot g_a0_2 g_c0_2 ++ foot g_a0_3 g_c0_3, k ∈ foot g_a0_2 g_c0_2 ∨ k ∈ foot g_a0_3 g_c0_3 := fun k hk => by
    simpa [or_assoc] using hk
  replace r0_2 := r0_2.only G (Disj.app (fun k hk hk' => by have := Q_r0_2.out k hk; have := Q_g0_2.out k hk'; omega) (fun k hk hk' => by have := Q_r0_2.out k hk; have := Q_g0_3.out k hk'; omega))
  replace r0_3 := r0_3.only G (Disj.app (fun k hk hk' => by have := Q_r0_3.out k hk; have := Q_g0_2.out k hk'; omega) (fun k hk hk' => by have := Q_r0_3.out k hk; have := Q_g0_3.out k hk'; omega))
  replace B_r0 := B_r0.only G (fun hm => by rcases RG _ hm with h | h <;> first | (have := Q_g0_2.out _ h; omega) | (have := Q_g0_3.out _ h; omega))
  replace B_g0 := B_g0.only G (fun hm => by rcases RG _ hm with h | h <;> first | (have := Q_g0_2.out _ h; omega) | (have := Q_g0_3.out _ h; omega))
  have V_w6' := V_w5'.trans (G.below V_w5'.size (fun k hm => by have := V_w5'.size; rcases RG _ hm with h | h <;> first | (have := Q_g0_2.out _ h; omega) | (have := Q_g0_3.out _ h; omega)))
  have S_w6' := G.size
  clear G RG V_w5'
  have e_g0_0 : w6'.cell? ⟨w3'.heap.size, 0, none⟩ = some (.int .i64 (rcS a0)) := B_g0.cell 0
  have e_g0_1 : w6'.cell? ⟨w3'.heap.size, 1, none⟩ = some (.int .i64 (rcS a0)) := B_g0.cell 1
  have e_g0_2 : w6'.cell? ⟨w3'.heap.size, 2, none⟩ = some (.slice g_a0_2 g_n0_2 g_c0_2) := B_g0.cell 2
  have e_g0_3 : w6'.cell? ⟨w3'.heap.size, 3, none⟩ = some (.slice g_a0_3 g_n0_3 g_c0_3) := B_g0.cell 3
  go_wp2_with fail
  clear e_g0_0 e_g0_1 e_g0_2 e_g0_3
  refine (heldCircuit_any _ _ _ _ _ _ _ _ _ _ _ _ g0_2.flat g0_3.ints U_g0_2.out U_g0_3.out (by omega) (by omega)).mono ?_
  rintro e w7' ⟨rfl, u_w7'⟩
  replace B_r0 := B_r0.below u_w7'
  replace B_g0 := B_g0.below u_w7'
  replace r0_2 := r0_2.below u_w7'
  replace r0_3 := r0_3.below u_w7'
  replace g0_2 := g0_2.below u_w7'
  replace g0_3 := g0_3.below u_w7'
  have V_w7' := V_w6'.trans (u_w7'.mono (V_w6').size)
  have S_w7' := u_w7'.size
  clear u_w7' V_w6'
  go_wp2_with fail
  refine (ReduceCircuit_any _ _ ).mono ?_
  rintro e w8' ⟨h_a0_2, h_n0_2, h_c0_2, h_a0_3, h_n0_3, h_c0_3, rfl, h0_2, h0_3, dj_h0_2_0_3, u_w8'⟩
  replace B_r0 := B_r0.below u_w8'
  replace B_g0 := B_g0.below u_w8'
  replace r0_2 := r0_2.below u_w8'
  replace r0_3 := r0_3.below u_w8'
  replace g0_2 := g0_2.below u_w8'
  replace g0_3 := g0_3.below u_w8'
  have V_w8' := V_w7'.trans (u_w8'.mono (V_w7').size)
  have S_w8' := u_w8'.size
  clear u_w8' V_w7'
  have Q_h0_2 := Lib.hid h0_2.feet
  have Q_h0_3 := Lib.hid h0_3.feet
  have e_r0_0 : w8'.cell? ⟨w1'.heap.size, 0, none⟩ = some (.int .i64 (rcS a0)) := B_r0.cell 0
  have e_r0_0_0 : (w8'.alloc (.cells #[.int .i64 (rcS a0), .int .i64 (rcS a0), .slice h_a0_2 h_n0_2 h_c0_2, .slice h_a0_3 h_n0_3 h_c0_3] 25)).cell? ⟨w1'.heap.size, 0, none⟩ = some (.int .i64 (rcS a0)) := keepA _ e_r0_0
  have e_r0_1 : w8'.cell? ⟨w1'.heap.size, 1, none⟩ = some (.int .i64 (rcS a0)) := B_r0.cell 1
  have e_r0_1_0 : (w8'.alloc (.cells #[.int .i64 (rcS a0), .int .i64 (rcS a0), .slice h_a0_2 h_n0_2 h_c0_2, .slice h_a0_3 h_n0_3 h_c0_3] 25)).cell? ⟨w1'.heap.size, 1, none⟩ = some (.int .i64 (rcS a0)) := keepA _ e_r0_1
  have e_r0_2 : w8'.cell? ⟨w1'.heap.size, 2, none⟩ = some (.slice r_a0_2 r_n0_2 r_c0_2) := B_r0.cell 2
  have e_r0_2_0 : (w8'.alloc (.cells #[.int .i64 (rcS a0), .int .i64 (rcS a0), .slice h_a0_2 h_n0_2 h_c0_2, .slice h_a0_3 h_n0_3 h_c0_3] 25)).cell? ⟨w1'.heap.size, 2, none⟩ = some (.slice r_a0_2 r_n0_2 r_c0_2) := keepA _ e_r0_2
  have e_r0_3 : w8'.cell? ⟨w1'.heap.size, 3, none⟩ = some (.slice r_a0_3 r_n0_3 r_c0_3) := B_r0.cell 3
  have e_r0_3_0 : (w8'.alloc (.cells #[.int .i64 (rcS a0), .int .i64 (rcS a0), .slice h_a0_2 h_n0_2 h_c0_2, .slice h_a0_3 h_n0_3 h_c0_3] 25)).cell? ⟨w1'.heap.size, 3, none⟩ = some (.slice r_a0_3 r_n0_3 r_c0_3) := keepA _ e_r0_3
  go_wp2_with fail
  clear e_r0_0 e_r0_0_0 e_r0_1 e_r0_1_0 e_r0_2 e_r0_2_0 e_r0_3 e_r0_3_0
  have V_w9' : Below w.heap.size w (w8'.alloc (.cells #[.int .i64 (rcS a0), .int .i64 (rcS a0), .slice h_a0_2 h_n0_2 h_c0_2, .slice h_a0_3 h_n0_3 h_c0_3] 25)) := ((V_w8').alloc (by have := (V_w8').size; first | exact this | (simp; omega) | simp) _)
  replace B_r0 := B_r0.alloc (.cells #[.int .i64 (rcS a0), .int .i64 (rcS a0), .slice h_a0_2 h_n0_2 h_c0_2, .slice h_a0_3 h_n0_3 h_c0_3] 25)
  replace B_g0 := B_g0.alloc (.cells #[.int .i64 (rcS a0), .int .i64 (rcS a0), .slice h_a0_2 h_n0_2 h_c0_2, .slice h_a0_3 h_n0_3 h_c0_3] 25)
  replace r0_2 := r0_2.alloc (.cells #[.int .i64 (rcS a0), .int .i64 (rcS a0), .slice h_a0_2 h_n0_2 h_c0_2, .slice h_a0_3 h_n0_3 h_c0_3] 25)
  replace r0_3 := r0_3.alloc (.cells #[.int .i64 (rcS a0), .int .i64 (rcS a0), .slice h_a0_2 h_n0_2 h_c0_2, .slice h_a0_3 h_n0_3 h_c0_3] 25)
  replace g0_2 := g0_2.alloc (.cells #[.int .i64 (rcS a0), .int .i64 (rcS a0), .slice h_a0_2 h_n0_2 h_c0_2, .slice h_a0_3 h_n0_3 h_c0_3] 25)
  replace g0_3 := g0_3.alloc (.cells #[.int .i64 (rcS a0), .int .i64 (rcS a0), .slice h_a0_2 h_n0_2 h_c0_2, .slice h_a0_3 h_n0_3 h_c0_3] 25)
  replace h0_2 := h0_2.alloc (.cells #[.int .i64 (rcS a0), .int .i64 (rcS a0), .slice h_a0_2 h_n0_2 h_c0_2, .slice h_a0_3 h_n0_3 h_c0_3] 25)
  replace h0_3 := h0_3.alloc (.cells #[.int .i64 (rcS a0), .int .i64 (rcS a0), .slice h_a0_2 h_n0_2 h_c0_2, .slice h_a0_3 h_n0_3 h_c0_3] 25)
  have B_h0 : Blk (w8'.alloc (.cells #[.int .i64 (rcS a0), .int .i64 (rcS a0), .slice h_a0_2 h_n0_2 h_c0_2, .slice h_a0_3 h_n0_3 h_c0_3] 25)) (w8'.heap.size) 25 #[.int .i64 (rcS a0), .int .i64 (rcS a0), .slice h_a0_2 h_n0_2 h_c0_2, .slice h_a0_3 h_n0_3 h_c0_3] := Blk.new w8' 25 #[.int .i64 (rcS a0), .int .i64 (rcS a0), .slice h_a0_2 h_n0_2 h_c0_2, .slice h_a0_3 h_n0_3 h_c0_3]
  have S_w9' : w8'.heap.size + 1 ≤ (w8'.alloc (.cells #[.int .i64 (rcS a0), .int .i64 (rcS a0), .slice h_a0_2 h_n0_2 h_c0_2, .slice h_a0_3 h_n0_3 h_c0_3] 25)).heap.size := by simp
  generalize (w8'.alloc (.cells #[.int .i64 (rcS a0), .int .i64 (rcS a0), .slice h_a0_2 h_n0_2 h_c0_2, .slice h_a0_3 h_n0_3 h_c0_3] 25)) = w9' at *
  clear V_w8'
  refine (eqCircuit_same _ _ _ _ _ _ _ _ _ _ _ _ _ _ _ _ _ h0_2.flat r0_2.flat h0_3.ints r0_3.ints).mono ?_
  rintro e w10' ⟨rfl, u_w10'⟩
  replace B_r0 := B_r0.below u_w10'
  replace B_g0 := B_g0.below u_w10'
  replace B_h0 := B_h0.below u_w10'
  replace r0_2 := r0_2.below u_w10'
  replace r0_3 := r0_3.below u_w10'
  replace g0_2 := g0_2.below u_w10'
  replace g0_3 := g0_3.below u_w10'
  replace h0_2 := h0_2.below u_w10'
  replace h0_3 := h0_3.below u_w10'
  have V_w10' := V_w9'.trans (u_w10'.mono (V_w9').size)
  have S_w10' := u_w10'.size
  clear u_w10' V_w9'
  have e_g0_0 : w10'.cell? ⟨w3'.heap.size, 0, none⟩ = some (.int .i64 (rcS a0)) := B_g0.cell 0
  have e_g0_1 : w10'.cell? ⟨w3'.heap.size, 1, none⟩ = some (.int .i64 (rcS a0)) := B_g0.cell 1
  have e_g0_2 : w10'.cell? ⟨w3'.heap.size, 2, none⟩ = some (.slice g_a0_2 g_n0_2 g_c0_2) := B_g0.cell 2
  have e_g0_3 : w10'.cell? ⟨w3'.heap.size, 3, none⟩ = some (.slice g_a0_3 g_n0_3 g_c0_3) := B_g0.cell 3
  go_wp2_with fail
  clear e_g0_0 e_g0_1 e_g0_2 e_g0_3
  refine (heldCircuit_any _ _ _ _ _ _ _ _ _ _ _ _ g0_2.flat g0_3.ints U_g0_2.out U_g0_3.out (by omega) (by omega)).mono ?_
  rintro e w11' ⟨rfl, u_w11'⟩
  replace B_r0 := B_r0.below u_w11'
  replace B_g0 := B_g0.below u_w11'
  replace B_h0 := B_h0.below u_w11'
  replace r0_2 := r0_2.below u_w11'
  replace r0_3 := r0_3.below u_w11'
  replace g0_2 := g0_2.below u_w11'
  replace g0_3 := g0_3.below u_w11'
  replace h0_2 := h0_2.below u_w11'
  replace h0_3 := h0_3.below u_w11'
  have V_w11' := V_w10'.trans (u_w11'.mono (V_w10').size)
  have S_w11' := u_w11'.size
  clear u_w11' V_w10'
  go_wp2
  go_ret
  exact ⟨rfl, V_w11'⟩
end Go.Proofs.Ytkbhigdciokfkaa
