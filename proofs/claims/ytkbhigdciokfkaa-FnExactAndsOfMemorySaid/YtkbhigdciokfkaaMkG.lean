/- The gates of a maker. -/
import Derived.Test.YtkbhigdciokfkaaMkB
namespace Go.Proofs.Ytkbhigdciokfkaa
open Go.RowKit
set_option maxHeartbeats 4000000 in
set_option maxRecDepth 100000 in
theorem gate_any (kd ka kb : Int) {oa : Option Addr} {on oc : Nat} (b g : Nat) (i0 i1 : Int) (G : List Int) (F : List Nat) (w : World) (h : Mk 81 w b g i0 i1 G F oa on oc) (hb : b ≤ w.heap.size) (h0 : 0 ≤ i0 ∧ i0 ≤ 1000) (h1 : 0 ≤ i1 ∧ i1 ≤ 1000) (hl : G.length ≤ 30000) :
    Calls Try.prog 101 #[.pointer (some ⟨g, 0, none⟩), .int .i64 kd, .int .i64 ka, .int .i64 kb] w fun e w' => e = .returned (.int .i64 (gW (i0 + i1) G)) ∧ ∃ F', Mk 81 w' b g i0 i1 (gt G kd ka kb) F' oa on oc ∧ Stp F w F' w' := by
  obtain ⟨a, n, c, hB, ho, hg, hbg, rfl⟩ := h
  have hn := ho.len
  have HW : Hid (gW (i0 + i1) G = i0 + i1 + (n : Int)) := Lib.hid (by unfold gW; rw [hn, Nat.mul_div_cancel _ (by decide)])
  rw [HW.out]
  have hcap := ho.cap
  have x2 : w.cell? ⟨g, 2, none⟩ = some (.slice a n c) := hB.cell 2
  have hgl := hB.lt
  go_enter Try.func101, Try.ntmps101
  go_wp2_with (at_builtin; refine wpList_appG _ rfl _ _ rfl b a n c G rfl (ho.alloc _) (some ⟨w.heap.size, 0, none⟩) 1 kd ka kb rfl (RowC.gate w kd ka kb _) (by omega) (by simp; omega) ?_)
  intro a5 c5 w3 o5 g5 m5
  have V1 : Below w.heap.size w (w.alloc (.cells #[.int .i64 kd, .int .i64 ka, .int .i64 kb] 87)) := (Below.refl _ _).alloc (Nat.le_refl _) _
  have G3 : Only (foot a c) (w.alloc (.cells #[.int .i64 kd, .int .i64 ka, .int .i64 kb] 87)) w3 := Only.of_grown g5
  have B3 := (hB.below V1).only G3 hg
  have x0 : w3.cell? ⟨g, 0, none⟩ = some (.int .i64 i0) := B3.cell 0
  have x1 : w3.cell? ⟨g, 1, none⟩ = some (.int .i64 i1) := B3.cell 1
  replace x2 : w3.cell? ⟨g, 2, none⟩ = some (.slice a n c) := B3.cell 2
  have x3 : w3.cell? ⟨g, 3, none⟩ = some (.slice oa on oc) := B3.cell 3
  have y2 : w3.frozen? ⟨g, 2, none⟩ = false := B3.frozen 2
  have hs3 : w.heap.size ≤ w3.heap.size := Nat.le_trans V1.size G3.size
  have hg5 : g ∉ foot a5 c5 := by
    intro hm
    have hd : Disj (foot a5 c5) [g] := m5.disj (fun k hk hk' => hg (by simp at hk'; subst hk'; exact hk)) (fun k hk => by simp at hk; subst hk; simp; omega)
    exact hd g hm (by simp)
  have B4 : Blk (w3.setCell ⟨g, 2, none⟩ (.slice a5 (n + 1) c5)) g 81 #[.int .i64 i0, .int .i64 i1, .slice a5 (n + 1) c5, .slice oa on oc] := B3.set_ 2 _
  have O4 : Only [g] w3 (w3.setCell ⟨g, 2, none⟩ (.slice a5 (n + 1) c5)) := (Only.refl _ _).setCell _ _ (by simp)
  have o4 := o5.only O4 (fun k hk hk' => hg5 (by simp at hk'; subst hk'; exact hk))
  have S4 : Stp (g :: foot a c) w (g :: foot a5 c5) (w3.setCell ⟨g, 2, none⟩ (.slice a5 (n + 1) c5)) := ⟨((Only.of_below V1).trans (G3.more (fun k hk => by simp [hk]))).trans (O4.more (fun k hk => by simp at hk; simp [hk])), fun k hk => by
    rcases List.mem_cons.1 hk with rfl | hk
    · exact .inl (by simp)
    · rcases m5 with ⟨rfl, rfl⟩ | m5
      · exact .inl (by simp [hk])
      · obtain ⟨x, hx, hc, rfl⟩ := mem_foot hk
        have := m5 x hc hx
        exact .inr (by simp at this; omega)⟩
  clear o5 G3 V1 m5 g5 hB ho O4 B3
  go_wp2_with fail
  clear x0 x1 x2 x3 y2
  generalize (w3.setCell ⟨g, 2, none⟩ (.slice a5 (n + 1) c5)) = w4 at *
  refine (wires_any _ _ _ _ _ _ _ _ _ (by omega) (by omega) (by omega)).mono ?_; rintro e w5 ⟨rfl, u5⟩
  go_wp2
  go_ret
  refine ⟨ret_int (by omega), _, ⟨a5, n + 1, c5, B4.below u5, o4.below u5, hg5, hbg, rfl⟩, S4.below u5⟩
set_option maxHeartbeats 4000000 in
theorem xor_any (ka : Int) (kb : Int) {oa : Option Addr} {on oc : Nat} (b g : Nat) (i0 i1 : Int) (G : List Int) (F : List Nat) (w : World) (h : Mk 81 w b g i0 i1 G F oa on oc) (hb : b ≤ w.heap.size) (h0 : 0 ≤ i0 ∧ i0 ≤ 1000) (h1 : 0 ≤ i1 ∧ i1 ≤ 1000) (hl : G.length ≤ 30000) :
    Calls Try.prog 58 #[.pointer (some ⟨g, 0, none⟩), .int .i64 ka, .int .i64 kb] w fun e w' => e = .returned (.int .i64 (gW (i0 + i1) G)) ∧ ∃ F', Mk 81 w' b g i0 i1 (gt G 0 ka kb) F' oa on oc ∧ Stp F w F' w' := by
  go_enter Try.func58, Try.ntmps58
  go_wp2_with fail
  refine (gate_any 0 ka kb b g i0 i1 G F _ h hb h0 h1 hl).mono ?_; rintro e w1 ⟨rfl, F1, m1, s1⟩
  go_wp2
  go_ret
  exact ⟨rfl, F1, m1, s1⟩
set_option maxHeartbeats 4000000 in
theorem and_any (ka : Int) (kb : Int) {oa : Option Addr} {on oc : Nat} (b g : Nat) (i0 i1 : Int) (G : List Int) (F : List Nat) (w : World) (h : Mk 81 w b g i0 i1 G F oa on oc) (hb : b ≤ w.heap.size) (h0 : 0 ≤ i0 ∧ i0 ≤ 1000) (h1 : 0 ≤ i1 ∧ i1 ≤ 1000) (hl : G.length ≤ 30000) :
    Calls Try.prog 57 #[.pointer (some ⟨g, 0, none⟩), .int .i64 ka, .int .i64 kb] w fun e w' => e = .returned (.int .i64 (gW (i0 + i1) G)) ∧ ∃ F', Mk 81 w' b g i0 i1 (gt G 1 ka kb) F' oa on oc ∧ Stp F w F' w' := by
  go_enter Try.func57, Try.ntmps57
  go_wp2_with fail
  refine (gate_any 1 ka kb b g i0 i1 G F _ h hb h0 h1 hl).mono ?_; rintro e w1 ⟨rfl, F1, m1, s1⟩
  go_wp2
  go_ret
  exact ⟨rfl, F1, m1, s1⟩
set_option maxHeartbeats 4000000 in
theorem not_any (ka : Int) {oa : Option Addr} {on oc : Nat} (b g : Nat) (i0 i1 : Int) (G : List Int) (F : List Nat) (w : World) (h : Mk 81 w b g i0 i1 G F oa on oc) (hb : b ≤ w.heap.size) (h0 : 0 ≤ i0 ∧ i0 ≤ 1000) (h1 : 0 ≤ i1 ∧ i1 ≤ 1000) (hl : G.length ≤ 30000) :
    Calls Try.prog 100 #[.pointer (some ⟨g, 0, none⟩), .int .i64 ka] w fun e w' => e = .returned (.int .i64 (gW (i0 + i1) G)) ∧ ∃ F', Mk 81 w' b g i0 i1 (gt G 2 ka 0) F' oa on oc ∧ Stp F w F' w' := by
  go_enter Try.func100, Try.ntmps100
  go_wp2_with fail
  refine (gate_any 2 ka 0 b g i0 i1 G F _ h hb h0 h1 hl).mono ?_; rintro e w1 ⟨rfl, F1, m1, s1⟩
  go_wp2
  go_ret
  exact ⟨rfl, F1, m1, s1⟩
set_option maxHeartbeats 4000000 in
theorem zero_any {oa : Option Addr} {on oc : Nat} (b g : Nat) (i0 i1 : Int) (G : List Int) (F : List Nat) (w : World) (h : Mk 81 w b g i0 i1 G F oa on oc) (hb : b ≤ w.heap.size) (h0 : 0 ≤ i0 ∧ i0 ≤ 1000) (h1 : 0 ≤ i1 ∧ i1 ≤ 1000) (hl : G.length ≤ 29000) :
    Calls Try.prog 129 #[.pointer (some ⟨g, 0, none⟩)] w fun e w' => e = .returned (.int .i64 (gW (i0 + i1) (gt G 3 0 0))) ∧ ∃ F', Mk 81 w' b g i0 i1 (gt (gt G 3 0 0) 2 (gW (i0 + i1) G) 0) F' oa on oc ∧ Stp F w F' w' := by
  go_enter Try.func129, Try.ntmps129
  go_wp2_with fail
  refine (gate_any 3 0 0 b g i0 i1 G F _ h hb h0 h1 (by omega)).mono ?_; rintro e w1 ⟨rfl, F1, m1, s1⟩
  go_wp2_with fail
  refine (not_any _ b g i0 i1 _ F1 _ m1 (Nat.le_trans hb s1.size) h0 h1 (by rw [gt_len]; omega)).mono ?_; rintro e w2 ⟨rfl, F2, m2, s2⟩
  go_wp2
  go_ret
  exact ⟨rfl, F2, m2, s1.trans s2⟩
set_option maxHeartbeats 4000000 in
set_option maxRecDepth 100000 in
theorem sgate_any (kd ka kb : Int) {oa : Option Addr} {on oc : Nat} (b g : Nat) (i0 i1 : Int) (G : List Int) (F : List Nat) (w : World) (h : Mk 79 w b g i0 i1 G F oa on oc) (hb : b ≤ w.heap.size) (h0 : 0 ≤ i0 ∧ i0 ≤ 1000) (h1 : 0 ≤ i1 ∧ i1 ≤ 1000) (hl : G.length ≤ 30000) :
    Calls Try.prog 148 #[.pointer (some ⟨g, 0, none⟩), .int .i64 kd, .int .i64 ka, .int .i64 kb] w fun e w' => e = .returned (.int .i64 (gW (i0 + i1) G)) ∧ ∃ F', Mk 79 w' b g i0 i1 (gt G kd ka kb) F' oa on oc ∧ Stp F w F' w' := by
  obtain ⟨a, n, c, hB, ho, hg, hbg, rfl⟩ := h
  have hn := ho.len
  have HW : Hid (gW (i0 + i1) G = i0 + i1 + (n : Int)) := Lib.hid (by unfold gW; rw [hn, Nat.mul_div_cancel _ (by decide)])
  rw [HW.out]
  have hcap := ho.cap
  have x2 : w.cell? ⟨g, 2, none⟩ = some (.slice a n c) := hB.cell 2
  have hgl := hB.lt
  go_enter Try.func148, Try.ntmps148
  go_wp2_with (at_builtin; refine wpList_appG _ rfl _ _ rfl b a n c G rfl (ho.alloc _) (some ⟨w.heap.size, 0, none⟩) 1 kd ka kb rfl (RowC.gate w kd ka kb _) (by omega) (by simp; omega) ?_)
  intro a5 c5 w3 o5 g5 m5
  have V1 : Below w.heap.size w (w.alloc (.cells #[.int .i64 kd, .int .i64 ka, .int .i64 kb] 87)) := (Below.refl _ _).alloc (Nat.le_refl _) _
  have G3 : Only (foot a c) (w.alloc (.cells #[.int .i64 kd, .int .i64 ka, .int .i64 kb] 87)) w3 := Only.of_grown g5
  have B3 := (hB.below V1).only G3 hg
  have x0 : w3.cell? ⟨g, 0, none⟩ = some (.int .i64 i0) := B3.cell 0
  have x1 : w3.cell? ⟨g, 1, none⟩ = some (.int .i64 i1) := B3.cell 1
  replace x2 : w3.cell? ⟨g, 2, none⟩ = some (.slice a n c) := B3.cell 2
  have x3 : w3.cell? ⟨g, 3, none⟩ = some (.slice oa on oc) := B3.cell 3
  have y2 : w3.frozen? ⟨g, 2, none⟩ = false := B3.frozen 2
  have hs3 : w.heap.size ≤ w3.heap.size := Nat.le_trans V1.size G3.size
  have hg5 : g ∉ foot a5 c5 := by
    intro hm
    have hd : Disj (foot a5 c5) [g] := m5.disj (fun k hk hk' => hg (by simp at hk'; subst hk'; exact hk)) (fun k hk => by simp at hk; subst hk; simp; omega)
    exact hd g hm (by simp)
  have B4 : Blk (w3.setCell ⟨g, 2, none⟩ (.slice a5 (n + 1) c5)) g 79 #[.int .i64 i0, .int .i64 i1, .slice a5 (n + 1) c5, .slice oa on oc] := B3.set_ 2 _
  have O4 : Only [g] w3 (w3.setCell ⟨g, 2, none⟩ (.slice a5 (n + 1) c5)) := (Only.refl _ _).setCell _ _ (by simp)
  have o4 := o5.only O4 (fun k hk hk' => hg5 (by simp at hk'; subst hk'; exact hk))
  have S4 : Stp (g :: foot a c) w (g :: foot a5 c5) (w3.setCell ⟨g, 2, none⟩ (.slice a5 (n + 1) c5)) := ⟨((Only.of_below V1).trans (G3.more (fun k hk => by simp [hk]))).trans (O4.more (fun k hk => by simp at hk; simp [hk])), fun k hk => by
    rcases List.mem_cons.1 hk with rfl | hk
    · exact .inl (by simp)
    · rcases m5 with ⟨rfl, rfl⟩ | m5
      · exact .inl (by simp [hk])
      · obtain ⟨x, hx, hc, rfl⟩ := mem_foot hk
        have := m5 x hc hx
        exact .inr (by simp at this; omega)⟩
  clear o5 G3 V1 m5 g5 hB ho O4 B3
  go_wp2_with fail
  clear x0 x1 x2 x3 y2
  generalize (w3.setCell ⟨g, 2, none⟩ (.slice a5 (n + 1) c5)) = w4 at *
  refine (ciWires_any _ _ _ _ _ _ _ _ _ (by omega) (by omega) (by omega)).mono ?_; rintro e w5 ⟨rfl, u5⟩
  go_wp2
  go_ret
  refine ⟨ret_int (by omega), _, ⟨a5, n + 1, c5, B4.below u5, o4.below u5, hg5, hbg, rfl⟩, S4.below u5⟩
set_option maxHeartbeats 4000000 in
theorem sxor_any (ka : Int) (kb : Int) {oa : Option Addr} {on oc : Nat} (b g : Nat) (i0 i1 : Int) (G : List Int) (F : List Nat) (w : World) (h : Mk 79 w b g i0 i1 G F oa on oc) (hb : b ≤ w.heap.size) (h0 : 0 ≤ i0 ∧ i0 ≤ 1000) (h1 : 0 ≤ i1 ∧ i1 ≤ 1000) (hl : G.length ≤ 30000) :
    Calls Try.prog 125 #[.pointer (some ⟨g, 0, none⟩), .int .i64 ka, .int .i64 kb] w fun e w' => e = .returned (.int .i64 (gW (i0 + i1) G)) ∧ ∃ F', Mk 79 w' b g i0 i1 (gt G 0 ka kb) F' oa on oc ∧ Stp F w F' w' := by
  go_enter Try.func125, Try.ntmps125
  go_wp2_with fail
  refine (sgate_any 0 ka kb b g i0 i1 G F _ h hb h0 h1 hl).mono ?_; rintro e w1 ⟨rfl, F1, m1, s1⟩
  go_wp2
  go_ret
  exact ⟨rfl, F1, m1, s1⟩
set_option maxHeartbeats 4000000 in
theorem sand_any (ka : Int) (kb : Int) {oa : Option Addr} {on oc : Nat} (b g : Nat) (i0 i1 : Int) (G : List Int) (F : List Nat) (w : World) (h : Mk 79 w b g i0 i1 G F oa on oc) (hb : b ≤ w.heap.size) (h0 : 0 ≤ i0 ∧ i0 ≤ 1000) (h1 : 0 ≤ i1 ∧ i1 ≤ 1000) (hl : G.length ≤ 30000) :
    Calls Try.prog 126 #[.pointer (some ⟨g, 0, none⟩), .int .i64 ka, .int .i64 kb] w fun e w' => e = .returned (.int .i64 (gW (i0 + i1) G)) ∧ ∃ F', Mk 79 w' b g i0 i1 (gt G 1 ka kb) F' oa on oc ∧ Stp F w F' w' := by
  go_enter Try.func126, Try.ntmps126
  go_wp2_with fail
  refine (sgate_any 1 ka kb b g i0 i1 G F _ h hb h0 h1 hl).mono ?_; rintro e w1 ⟨rfl, F1, m1, s1⟩
  go_wp2
  go_ret
  exact ⟨rfl, F1, m1, s1⟩
set_option maxHeartbeats 4000000 in
theorem snot_any (ka : Int) {oa : Option Addr} {on oc : Nat} (b g : Nat) (i0 i1 : Int) (G : List Int) (F : List Nat) (w : World) (h : Mk 79 w b g i0 i1 G F oa on oc) (hb : b ≤ w.heap.size) (h0 : 0 ≤ i0 ∧ i0 ≤ 1000) (h1 : 0 ≤ i1 ∧ i1 ≤ 1000) (hl : G.length ≤ 30000) :
    Calls Try.prog 127 #[.pointer (some ⟨g, 0, none⟩), .int .i64 ka] w fun e w' => e = .returned (.int .i64 (gW (i0 + i1) G)) ∧ ∃ F', Mk 79 w' b g i0 i1 (gt G 2 ka 0) F' oa on oc ∧ Stp F w F' w' := by
  go_enter Try.func127, Try.ntmps127
  go_wp2_with fail
  refine (sgate_any 2 ka 0 b g i0 i1 G F _ h hb h0 h1 hl).mono ?_; rintro e w1 ⟨rfl, F1, m1, s1⟩
  go_wp2
  go_ret
  exact ⟨rfl, F1, m1, s1⟩
set_option maxHeartbeats 4000000 in
theorem sone_any {oa : Option Addr} {on oc : Nat} (b g : Nat) (i0 i1 : Int) (G : List Int) (F : List Nat) (w : World) (h : Mk 79 w b g i0 i1 G F oa on oc) (hb : b ≤ w.heap.size) (h0 : 0 ≤ i0 ∧ i0 ≤ 1000) (h1 : 0 ≤ i1 ∧ i1 ≤ 1000) (hl : G.length ≤ 30000) :
    Calls Try.prog 128 #[.pointer (some ⟨g, 0, none⟩)] w fun e w' => e = .returned (.int .i64 (gW (i0 + i1) G)) ∧ ∃ F', Mk 79 w' b g i0 i1 (gt G 3 0 0) F' oa on oc ∧ Stp F w F' w' := by
  go_enter Try.func128, Try.ntmps128
  go_wp2_with fail
  refine (sgate_any 3 0 0 b g i0 i1 G F _ h hb h0 h1 hl).mono ?_; rintro e w1 ⟨rfl, F1, m1, s1⟩
  go_wp2
  go_ret
  exact ⟨rfl, F1, m1, s1⟩
end Go.Proofs.Ytkbhigdciokfkaa
