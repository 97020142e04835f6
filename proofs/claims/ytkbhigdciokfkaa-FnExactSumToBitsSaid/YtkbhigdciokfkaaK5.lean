/- Lemmas and walks that the claim's proof rests on, part 5. -/
import Derived.Deep.DeepCutAuto
import Derived.OrdersHeld
import Derived.RangeFuncNested
import Derived.RangeFuncBound
import Derived.RangeFuncCalls
import Derived.RangeFuncLeaves
import Derived.Shelf.Abstract
import Derived.Shelf.RegionOpen
import Derived.WalkKit
import Derived.OwnWalkIn
import Derived.TacticsInMore
import Derived.LoopNIn
import Derived.LoopIn
import Derived.Test.YtkbhigdciokfkaaK1
import Derived.Test.YtkbhigdciokfkaaK2
import Derived.Test.YtkbhigdciokfkaaK3
import Derived.Test.YtkbhigdciokfkaaK4
namespace Go.Proofs.Ytkbhigdciokfkaa
open Go.RowKit
def celT (w : Int) (l : List Int) (i : Int) : Bool := allB l 0 (2 ^ w.toNat - 1) && inB i 0 (2 ^ wid (l.length : Int) - 1)
def celB (w : Int) (l : List Int) (i : Int) : Bool := memB l.length w && celT w l i
def meCB (w : Int) (l : List Int) (i : Int) : Bool := (inB l.length 1 8 && inB w 1 4) && celT w l i
theorem celB_me (w : Int) (l : List Int) (i : Int) : celB w l i = (meCB w l i && memB l.length w) := by
  unfold celB meCB memB
  cases inB l.length 1 8 <;> cases inB w 1 4 <;> cases celT w l i <;> simp
theorem wid3 {n : Int} (h : n ≤ 8) : wid n = 0 ∨ wid n = 1 ∨ wid n = 2 ∨ wid n = 3 := by have := wid_cases n; omega
set_option maxHeartbeats 2000000 in
theorem areCells_1_any (x : Int) (wd : Nat) (p : Addr) (w : World) (hp : w.cell? p = some (.int .i64 (wd : Int))) (hw : 1 ≤ wd ∧ wd ≤ 4) :
    Calls Try.prog 121 #[.int .i64 x, .pointer (some p)] w fun e w' => e = .returned (.bool (decide (0 ≤ x ∧ x ≤ 2 ^ wd - 1))) ∧ ∃ m, w' = w.drewN m := by
  obtain ⟨h1, h2⟩ := hw
  rcases (by omega : wd = 1 ∨ wd = 2 ∨ wd = 3 ∨ wd = 4) with rfl | rfl | rfl | rfl
  all_goals
    clear h1 h2
    go_enter Try.func121, Try.ntmps121
    go_wp2_with (go_at_call 79; refine (within_any _ _ _ _).mono ?_; rintro e w' ⟨rfl, rfl⟩)
    go_ret
    exact ⟨ret_bool (by simp [inB]), 0, rfl⟩
theorem areCells_1_enters (args : Array Value) (W : World) : (callFunc 121 args).run Try.prog W = .ok (.enter 121 args) W :=
  enters Try.func121 (by kernel_rfl) (by kernel_rfl) args W
set_option maxHeartbeats 4000000 in
theorem areCells_any (wd : Int) (a : Option Addr) (n c : Nat) (l : List Int) (i : Int) (w : World) (h : Ints w a n c l) :
    Calls Try.prog 78 #[.int .i64 wd, .slice a n c, .int .i64 i] w fun e w' => e = .returned (.bool (celB wd l i)) ∧ Below w.heap.size w w' := by
  have hbel : Below w.heap.size w (w.alloc (.cells #[.int .i64 wd] 3)) := (Below.refl _ _).alloc (Nat.le_refl _) _
  have hc : (w.alloc (.cells #[.int .i64 wd] 3)).cell? ⟨w.heap.size, 0, none⟩ = some (.int .i64 wd) := cell_new _ _ _
  unfold celB
  rw [← h.len]
  cases hm : memB n wd
  · simp only [Bool.false_and]
    have HM := Lib.hid hm
    clear hm
    go_enter Try.func78, Try.ntmps78
    go_wp2_with (go_at_call 99; refine (isMemory_any _ _ _).mono ?_; rintro e w' ⟨rfl, rfl⟩; rw [HM.out])
    go_ret
    exact ⟨rfl, hbel⟩
  · obtain ⟨⟨h1, h8⟩, ⟨h3, h4⟩, _⟩ := memB_true hm
    obtain ⟨wn, rfl⟩ : ∃ k : Nat, wd = k := ⟨wd.toNat, by omega⟩
    simp only [Bool.true_and]
    have haa := areAll_any a n c l 121 #[.pointer (some ⟨w.heap.size, 0, none⟩)] (fun x => decide (0 ≤ x ∧ x ≤ 2 ^ wn - 1)) (w.alloc (.cells #[.int .i64 (wn : Int)] 3)) (h.alloc _) areCells_1_enters
      (fun W x hb _ => areCells_1_any x wn _ W (by rw [hb.cell (by simp)]; exact hc) (by omega))
    have hT : celT wn l i = ((l.all fun x => decide (0 ≤ x ∧ x ≤ 2 ^ wn - 1)) && inB i 0 (2 ^ wid (n : Int) - 1)) := by unfold celT allB; rw [← h.len, Int.toNat_natCast]
    rw [hT]
    clear hT
    have HM := Lib.hid hm
    clear hm
    cases ha : (l.all fun x => decide (0 ≤ x ∧ x ≤ 2 ^ wn - 1))
    · rw [ha] at haa
      simp only [Bool.false_and]
      have HAA := Lib.hid haa
      clear haa ha hc h3 h4 h1 h8
      go_enter Try.func78, Try.ntmps78
      go_wp2_with (first | (go_at_call 99; refine (isMemory_any _ _ _).mono ?_; rintro e w' ⟨rfl, rfl⟩; rw [HM.out]) | (go_at_call 120; refine HAA.out.mono ?_; rintro e w' ⟨rfl, u⟩))
      go_ret
      have u1 := ‹Below (World.alloc _ _).heap.size _ _›
      exact ⟨rfl, hbel.trans (u1.mono (by simp))⟩
    · rw [ha] at haa
      simp only [Bool.true_and]
      have HAA := Lib.hid haa
      have H1 := Lib.hid h1
      have H8 := Lib.hid h8
      clear haa ha hc h3 h4
      have hv := wid3 h8
      clear h1 h8
      generalize hV : wid (n : Int) = V at *
      have HV := Lib.hid hV
      clear hV
      rcases hv with rfl | rfl | rfl | rfl
      all_goals
        go_enter Try.func78, Try.ntmps78
        go_wp2_with (first | (go_at_call 99; refine (isMemory_any _ _ _).mono ?_; rintro e w' ⟨rfl, rfl⟩; rw [HM.out]) | (go_at_call 120; refine HAA.out.mono ?_; rintro e w' ⟨rfl, u⟩) | (go_at_call 81; refine (indexWidth_any _ _ H1.out (by have := H8.out; omega)).mono ?_; rintro e w' ⟨rfl, rfl⟩; rw [HV.out]) | (go_at_call 79; refine (within_any _ _ _ _).mono ?_; rintro e w' ⟨rfl, rfl⟩))
        go_ret
        have u1 := ‹Below (World.alloc _ _).heap.size _ _›
        exact ⟨ret_bool (by simp [inB]), hbel.trans (u1.mono (by simp))⟩
set_option maxHeartbeats 4000000 in
theorem meCells_any (wd : Int) (a : Option Addr) (n c : Nat) (l : List Int) (i : Int) (w : World) (h : Ints w a n c l) :
    Calls Try.prog 75 #[.int .i64 wd, .slice a n c, .int .i64 i] w fun e w' => e = .returned (.bool (meCB wd l i)) ∧ Below w.heap.size w w' := by
  unfold meCB
  rw [← h.len]
  cases hm : (inB n 1 8 && inB wd 1 4)
  · simp only [Bool.false_and]
    have HM := Lib.hid hm
    clear hm
    go_enter Try.func75, Try.ntmps75
    go_wp2_with (go_at_call 93; refine (meGood_any _ _ _).mono ?_; rintro e w' ⟨rfl, rfl⟩; rw [HM.out])
    go_ret
    exact ⟨rfl, Below.refl _ _⟩
  · have hh := hm
    rw [Bool.and_eq_true] at hh
    have h18 := inB_true hh.1
    have h14 := inB_true hh.2
    clear hh
    simp only [Bool.true_and]
    have hT : celT wd l i = (allB l 0 (2 ^ wd.toNat - 1) && inB i 0 (2 ^ wid (n : Int) - 1)) := by unfold celT; rw [← h.len]
    rw [hT]
    clear hT
    have HM := Lib.hid hm
    clear hm
    have hw4 : wd = 1 ∨ wd = 2 ∨ wd = 3 ∨ wd = 4 := by omega
    have hv := wid3 h18.2
    have H1 := Lib.hid h18.1
    have H8 := Lib.hid h18.2
    clear h18 h14
    generalize hV : wid (n : Int) = V at *
    have HV := Lib.hid hV
    clear hV
    generalize hP : (2 : Int) ^ wd.toNat - 1 = P
    have hP4 : (wd = 1 ∧ P = 1) ∨ (wd = 2 ∧ P = 3) ∨ (wd = 3 ∧ P = 7) ∨ (wd = 4 ∧ P = 15) := by
      rcases hw4 with rfl | rfl | rfl | rfl
      · exact Or.inl ⟨rfl, hP.symm.trans (by decide)⟩
      · exact Or.inr (Or.inl ⟨rfl, hP.symm.trans (by decide)⟩)
      · exact Or.inr (Or.inr (Or.inl ⟨rfl, hP.symm.trans (by decide)⟩))
      · exact Or.inr (Or.inr (Or.inr ⟨rfl, hP.symm.trans (by decide)⟩))
    clear hP hw4
    cases ha : allB l 0 P
    · have HA := Lib.hid ha
      clear ha hv
      simp only [Bool.false_and]
      rcases hP4 with ⟨rfl, rfl⟩ | ⟨rfl, rfl⟩ | ⟨rfl, rfl⟩ | ⟨rfl, rfl⟩
      all_goals
        go_enter Try.func75, Try.ntmps75
        go_wp2_with (first | (go_at_call 93; refine (meGood_any _ _ _).mono ?_; rintro e w' ⟨rfl, rfl⟩; rw [HM.out]) | (go_at_call 113; refine (l1All_any _ _ _ l _ _ _ h).mono ?_; rintro e w' ⟨rfl, m, rfl⟩; rw [HA.out]))
        go_ret
        exact ⟨rfl, below_of_drewN _⟩
    · have HA := Lib.hid ha
      clear ha
      simp only [Bool.true_and]
      rcases hP4 with ⟨rfl, rfl⟩ | ⟨rfl, rfl⟩ | ⟨rfl, rfl⟩ | ⟨rfl, rfl⟩
      all_goals
        rcases hv with rfl | rfl | rfl | rfl
        all_goals
          go_enter Try.func75, Try.ntmps75
          go_wp2_with (first | (go_at_call 93; refine (meGood_any _ _ _).mono ?_; rintro e w' ⟨rfl, rfl⟩; rw [HM.out]) | (go_at_call 113; refine (l1All_any _ _ _ l _ _ _ h).mono ?_; rintro e w' ⟨rfl, m, rfl⟩; rw [HA.out]) | (go_at_call 114; refine (meIndex_any _ _ H1.out (by have := H8.out; omega)).mono ?_; rintro e w' ⟨rfl, rfl⟩; rw [HV.out]) | (go_at_call 76; refine (l1In_any _ _ _ _).mono ?_; rintro e w' ⟨rfl, rfl⟩))
          go_ret
          exact ⟨ret_bool (by simp [inB]), below_of_drewN _⟩
end Go.Proofs.Ytkbhigdciokfkaa
namespace Go.Proofs.Ytkbhigdciokfkaa
open Go.RowKit
end Go.Proofs.Ytkbhigdciokfkaa
namespace Go.Proofs.Ytkbhigdciokfkaa
open Go.RowKit
/-- All are bits. -/
def Bt (l : List Int) : Prop := ∀ x ∈ l, x = 0 ∨ x = 1
theorem Bt.nil : Bt [] := fun x hx => by cases hx
theorem Bt.app {l l' : List Int} (h : Bt l) (k : Bt l') : Bt (l ++ l') := fun x hx => by
  rcases List.mem_append.1 hx with h1 | h1
  · exact h x h1
  · exact k x h1
theorem Bt.one {x : Int} (h : x = 0 ∨ x = 1) : Bt [x] := fun y hy => by rw [List.mem_singleton] at hy; subst hy; exact h
theorem Bt.at {l : List Int} (h : Bt l) (k : Nat) : l.getD k 0 = 0 ∨ l.getD k 0 = 1 := by
  by_cases hk : k < l.length
  · exact h _ (getD_mem l k hk)
  · left; simp [List.getD, Nat.not_lt.1 hk]
/-- The value of a gate. -/
def evS (kd x y : Int) : Int := if kd = 0 then bits BinOp.xor IntKind.i64 x y else if kd = 1 then bits BinOp.and IntKind.i64 x y else if kd = 2 then 1 - x else 1
theorem evS_bit (kd : Int) {x y : Int} (hx : x = 0 ∨ x = 1) (hy : y = 0 ∨ y = 1) : evS kd x y = 0 ∨ evS kd x y = 1 := by
  unfold evS
  split
  · rcases hx with rfl | rfl <;> rcases hy with rfl | rfl <;> decide
  · split
    · rcases hx with rfl | rfl <;> rcases hy with rfl | rfl <;> decide
    · split
      · omega
      · right; rfl
def evL (G V : List Int) : Nat → List Int
  | 0 => V
  | j + 1 => evL G V j ++ [evS (G.getD (j * 3) 0) ((evL G V j).getD (G.getD (j * 3 + 1) 0).toNat 0) ((evL G V j).getD (G.getD (j * 3 + 2) 0).toNat 0)]
theorem evL_succ (G V : List Int) (j : Nat) : evL G V (j + 1) = evL G V j ++ [evS (G.getD (j * 3) 0) ((evL G V j).getD (G.getD (j * 3 + 1) 0).toNat 0) ((evL G V j).getD (G.getD (j * 3 + 2) 0).toNat 0)] := rfl
theorem evL_bits (G : List Int) {V : List Int} (h : Bt V) (j : Nat) : Bt (evL G V j) := by
  induction j with
  | zero => exact h
  | succ j ih => rw [evL_succ]; exact ih.app (Bt.one (evS_bit _ (ih.at _) (ih.at _)))
theorem Ints.cl {w : World} {g n c : Nat} {l : List Int} (h : Ints w (some ⟨g, 0, none⟩) n c l) (k : Nat) (hk : k < n) {x : Int} (hx : l.getD k 0 = x) : w.cell? ⟨g, k, none⟩ = some (.int .i64 x) := by
  obtain ⟨g', o', e, hc⟩ := h.at k hk
  cases e
  rw [Nat.zero_add] at hc
  rw [← hx]
  exact hc
theorem keepG {w w' : World} {a : Option Addr} {c : Nat} {p : Addr} {v : Value} (h : w.grownBy w' (rowOf a c)) (hlt : p.block < w.heap.size) (hn : p.block ∉ foot a c) (hc : w.cell? p = some v) : w'.cell? p = some v := by
  unfold World.cell? at hc ⊢
  rw [(Only.of_grown h).block _ hlt hn]
  exact hc
theorem gb_cases {kd a b own : Int} (h : gbB kd a b own = true) : (kd = 0 ∧ 0 ≤ a ∧ a ≤ own - 1 ∧ 0 ≤ b ∧ b ≤ own - 1) ∨ (kd = 1 ∧ 0 ≤ a ∧ a ≤ own - 1 ∧ 0 ≤ b ∧ b ≤ own - 1) ∨ (kd = 2 ∧ 0 ≤ a ∧ a ≤ own - 1) ∨ kd = 3 := by
  unfold gbB at h
  split at h
  · rename_i hk
    simp only [Bool.and_eq_true, inB, decide_eq_true_eq] at h
    rcases hk with rfl | rfl
    · exact Or.inl ⟨rfl, h.1.1, h.1.2, h.2.1, h.2.2⟩
    · exact Or.inr (Or.inl ⟨rfl, h.1.1, h.1.2, h.2.1, h.2.2⟩)
  · split at h
    · rename_i hk
      simp only [Bool.and_eq_true, inB, decide_eq_true_eq] at h
      exact Or.inr (Or.inr (Or.inl ⟨hk, h.1.1, h.1.2⟩))
    · split at h
      · rename_i hk
        exact Or.inr (Or.inr (Or.inr hk))
      · cases h
set_option maxHeartbeats 8000000 in
set_option maxRecDepth 100000 in
theorem values_any (i0 i1 : Int) (ga : Option Addr) (gn gc : Nat) (oa : Option Addr) (on oc : Nat) (a : Option Addr) (n c : Nat) (G V : List Int) (w : World) (hg : Flat 3 w ga gn gc G) (hv : Ints w a n c V) (hk : ∀ j, j < gn → gbB (G.getD (j * 3) 0) (G.getD (j * 3 + 1) 0) (G.getD (j * 3 + 2) 0) ((n + j : Nat) : Int) = true) (hV : Bt V) (hn : n ≤ 100) (hgn : gn ≤ 1000) :
    Calls Try.prog 122 #[.agg #[.int .i64 i0, .int .i64 i1, .slice ga gn gc, .slice oa on oc], .slice a n c] w fun e w' => ∃ a1 c1, e = .returned (.slice a1 (n + gn) c1) ∧ Own w' w.heap.size a1 (n + gn) c1 (evL G V gn) ∧ Below w.heap.size w w' := by
  have HK := Lib.hid hk
  clear hk
  have HB := Lib.hid (fun j => evL_bits G hV j)
  clear hV
  have HL := Lib.hid hv.len
  have V0 : Below w.heap.size w (w.alloc (.cells #[.int .i64 i0, .int .i64 i1, .slice ga gn gc, .slice oa on oc] 25)) := (Below.refl _ _).alloc (Nat.le_refl _) _
  have R0 : Blk (w.alloc (.cells #[.int .i64 i0, .int .i64 i1, .slice ga gn gc, .slice oa on oc] 25)) w.heap.size 25 #[.int .i64 i0, .int .i64 i1, .slice ga gn gc, .slice oa on oc] := Blk.new w _ _
  have hv0 := hv.below V0
  have hg0 := hg.below V0
  have hz0 : w.heap.size < (w.alloc (.cells #[.int .i64 i0, .int .i64 i1, .slice ga gn gc, .slice oa on oc] 25)).heap.size := by simp
  go_enter Try.func122, Try.ntmps122
  go_wp2_with fail
  generalize (w.alloc (.cells #[.int .i64 i0, .int .i64 i1, .slice ga gn gc, .slice oa on oc] 25)) = w0 at *
  refine (Clone_any _ _ _ _ _ hv0 (by omega)).mono ?_; rintro e w1 ⟨a1, c1, rfl, o1, u1⟩
  have V1 := V0.trans (u1.mono V0.size)
  have R1 := R0.below u1
  have own1 := o1.lower V0.size
  have x2 : w1.cell? ⟨w.heap.size, 2, none⟩ = some (.slice ga gn gc) := R1.cell 2
  clear o1 u1 V0 R0 hg0 hv0 hz0 R1
  go_wp2
  go_loopw [14, 5] (fun u v wr => ∃ j, j ≤ gn ∧ u = .int .i64 (j : Nat) ∧ ∃ a1 c1, v = .slice a1 (n + j) c1 ∧ Own wr w.heap.size a1 (n + j) c1 (evL G V j) ∧ Below w.heap.size w wr) (fun u _ _ => gn - (intOf u).toNat)
  case atStart => exact ⟨0, Nat.zero_le _, rfl, _, _, rfl, own1, V1⟩
  case round =>
    obtain ⟨j, hj, rfl, a2, c2, rfl, own, hbel⟩ := hrel
    clear own1 V1
    by_cases hlt : j < gn
    · obtain ⟨g, o, rfl, hc⟩ := (hg.below hbel).at (by omega)
      have c0 : wr.cell? ⟨g, o + j * 3, none⟩ = some (.int .i64 (G.getD (j * 3) 0)) := by have := hc (j * 3) (by omega); simpa only [Nat.add_assoc] using this
      have c1 : wr.cell? ⟨g, o + j * 3 + 1, none⟩ = some (.int .i64 (G.getD (j * 3 + 1) 0)) := by have := hc (j * 3 + 1) (by omega); simpa only [Nat.add_assoc] using this
      have c2 : wr.cell? ⟨g, o + j * 3 + 2, none⟩ = some (.int .i64 (G.getD (j * 3 + 2) 0)) := by have := hc (j * 3 + 2) (by omega); simpa only [Nat.add_assoc] using this
      clear hc
      have hgb := HK.out j hlt
      have HS := Lib.hid (evL_succ G V j)
      have hbt := HB.out j
      generalize G.getD (j * 3) 0 = kd at *
      generalize G.getD (j * 3 + 1) 0 = ka at *
      generalize G.getD (j * 3 + 2) 0 = kb at *
      generalize evL G V j = L at *
      have HFT := Lib.hid (fun k hk => (own.feet k hk).2)
      obtain ⟨N, hN⟩ : ∃ N, N = n + j := ⟨_, rfl⟩
      rw [← hN] at own hgb ⊢
      have hN1 : n + (j + 1) = N + 1 := by omega
      have HN := Lib.hid hN1
      have hNb : N ≤ 2000 := by omega
      clear hN1 hN
      go_upto_region 5 with fail
      have u2 : Below wr.heap.size wr (wr.alloc (.cells #[.int .i64 kd, .int .i64 ka, .int .i64 kb] 87)) := (Below.refl _ _).alloc (Nat.le_refl _) _
      have B2 : Blk (wr.alloc (.cells #[.int .i64 kd, .int .i64 ka, .int .i64 kb] 87)) wr.heap.size 87 #[.int .i64 kd, .int .i64 ka, .int .i64 kb] := Blk.new wr _ _
      have hw2 : wr.heap.size < (wr.alloc (.cells #[.int .i64 kd, .int .i64 ka, .int .i64 kb] 87)).heap.size := by simp
      have own2 := own.below u2
      have bel2 := hbel.trans (u2.mono hbel.size)
      clear own hbel u2 c0 c1 c2
      generalize (wr.alloc (.cells #[.int .i64 kd, .int .i64 ka, .int .i64 kb] 87)) = w2 at *
      have y0 : w2.cell? ⟨wr.heap.size, 0, none⟩ = some (.int .i64 kd) := B2.cell 0
      have y1 : w2.cell? ⟨wr.heap.size, 1, none⟩ = some (.int .i64 ka) := B2.cell 1
      have y2 : w2.cell? ⟨wr.heap.size, 2, none⟩ = some (.int .i64 kb) := B2.cell 2
      have hs2 : w.heap.size ≤ w2.heap.size := bel2.size
      clear B2
      rcases gb_cases hgb with ⟨rfl, ha0, ha1, hb0, hb1⟩ | ⟨rfl, ha0, ha1, hb0, hb1⟩ | ⟨rfl, ha0, ha1⟩ | rfl
      · clear hgb
        obtain ⟨ia, rfl⟩ : ∃ ia : Nat, ka = ia := ⟨ka.toNat, by omega⟩
        have hia : ia < N := by omega
        obtain ⟨g1, rfl, hgb1, hgw1, d1, -⟩ := own2.at ia hia
        have hx := hbt.at ia
        simp only [Int.toNat_natCast] at HS
        have hia2 : (ia : Int) < (N : Int) := by omega
        obtain ⟨ib, rfl⟩ : ∃ ib : Nat, kb = ib := ⟨kb.toNat, by omega⟩
        have hib : ib < N := by omega
        obtain ⟨_, E, -, -, d2, -⟩ := own2.at ib hib
        cases E
        simp only [Int.toNat_natCast] at HS
        have hib2 : (ib : Int) < (N : Int) := by omega
        generalize hy : L.getD ib 0 = y at *
        have HY := Lib.hid hy
        clear hy
        generalize hx1 : L.getD ia 0 = x at *
        have HX := Lib.hid hx1
        clear hx1
        have HE : Hid (evL G V (j + 1) = L ++ [bits BinOp.xor IntKind.i64 x y]) := HS.out
        clear HS
        go_wp2_with fail
        go_quiet (fail)
        go_wp2_with (at_builtin; refine wpList_appI _ rfl _ _ rfl w.heap.size _ N _ L rfl ((own2.below (below_of_drewN _)).alloc _) _ 1 1 [bits BinOp.xor IntKind.i64 x y] rfl (Ints.lit1 _ _ _) (by omega) (by simp; omega) ?_)
        intro a6 c6 w5 o6 u6 _
        have b3 := ((below_drewN bel2 _).alloc (below_drewN bel2 _).size (.cells #[.int .i64 (bits BinOp.xor IntKind.i64 x y)] 3)).trans u6
        rw [← HE.out] at o6
        clear u6 bel2 own2 y0 y1 y2 d1 d2
        go_wp2
        go_roundw
        case rel => exact ⟨j + 1, by omega, by go_num, a6, c6, by rw [HN.out], by rw [HN.out]; exact o6, b3⟩
        case measure => simp [intOf]; omega
      · clear hgb
        obtain ⟨ia, rfl⟩ : ∃ ia : Nat, ka = ia := ⟨ka.toNat, by omega⟩
        have hia : ia < N := by omega
        obtain ⟨g1, rfl, hgb1, hgw1, d1, -⟩ := own2.at ia hia
        have hx := hbt.at ia
        simp only [Int.toNat_natCast] at HS
        have hia2 : (ia : Int) < (N : Int) := by omega
        obtain ⟨ib, rfl⟩ : ∃ ib : Nat, kb = ib := ⟨kb.toNat, by omega⟩
        have hib : ib < N := by omega
        obtain ⟨_, E, -, -, d2, -⟩ := own2.at ib hib
        cases E
        simp only [Int.toNat_natCast] at HS
        have hib2 : (ib : Int) < (N : Int) := by omega
        generalize hy : L.getD ib 0 = y at *
        have HY := Lib.hid hy
        clear hy
        generalize hx1 : L.getD ia 0 = x at *
        have HX := Lib.hid hx1
        clear hx1
        have HE : Hid (evL G V (j + 1) = L ++ [bits BinOp.and IntKind.i64 x y]) := HS.out
        clear HS
        go_wp2_with fail
        go_quiet (fail)
        go_wp2_with (at_builtin; refine wpList_appI _ rfl _ _ rfl w.heap.size _ N _ L rfl ((own2.below (below_of_drewN _)).alloc _) _ 1 1 [bits BinOp.and IntKind.i64 x y] rfl (Ints.lit1 _ _ _) (by omega) (by simp; omega) ?_)
        intro a6 c6 w5 o6 u6 _
        have b3 := ((below_drewN bel2 _).alloc (below_drewN bel2 _).size (.cells #[.int .i64 (bits BinOp.and IntKind.i64 x y)] 3)).trans u6
        rw [← HE.out] at o6
        clear u6 bel2 own2 y0 y1 y2 d1 d2
        go_wp2
        go_roundw
        case rel => exact ⟨j + 1, by omega, by go_num, a6, c6, by rw [HN.out], by rw [HN.out]; exact o6, b3⟩
        case measure => simp [intOf]; omega
      · clear hgb
        obtain ⟨ia, rfl⟩ : ∃ ia : Nat, ka = ia := ⟨ka.toNat, by omega⟩
        have hia : ia < N := by omega
        obtain ⟨g1, rfl, hgb1, hgw1, d1, -⟩ := own2.at ia hia
        have hx := hbt.at ia
        simp only [Int.toNat_natCast] at HS
        have hia2 : (ia : Int) < (N : Int) := by omega
        generalize hx1 : L.getD ia 0 = x at *
        have HX := Lib.hid hx1
        clear hx1
        have HE : Hid (evL G V (j + 1) = L ++ [1 - x]) := HS.out
        clear HS
        have t1 : IntKind.i64.wrap (1 - x) = 1 - x := IntWalk.i64_in _ (by omega)
        go_wp2_with (at_builtin; refine wpList_appI _ rfl _ _ rfl w.heap.size _ N _ L rfl (own2.alloc _) _ 1 1 [1 - x] rfl (Ints.lit1 _ _ _) (by omega) (by simp; omega) ?_)
        intro a6 c6 w5 o6 u6 _
        have b3 := (bel2.alloc bel2.size (.cells #[.int .i64 (1 - x)] 3)).trans u6
        rw [← HE.out] at o6
        clear u6 bel2 own2 y0 y1 y2 d1
        go_wp2
        go_roundw
        case rel => exact ⟨j + 1, by omega, by go_num, a6, c6, by rw [HN.out], by rw [HN.out]; exact o6, b3⟩
        case measure => simp [intOf]; omega
      · clear hgb
        have HE : Hid (evL G V (j + 1) = L ++ [1]) := HS.out
        clear HS
        go_wp2_with (at_builtin; refine wpList_appI _ rfl _ _ rfl w.heap.size _ N _ L rfl (own2.alloc _) _ 1 1 [1] rfl (Ints.lit1 _ _ _) (by omega) (by simp; omega) ?_)
        intro a6 c6 w5 o6 u6 _
        have b3 := (bel2.alloc bel2.size (.cells #[.int .i64 (1)] 3)).trans u6
        rw [← HE.out] at o6
        clear u6 bel2 own2 y0 y1 y2
        go_wp2
        go_roundw
        case rel => exact ⟨j + 1, by omega, by go_num, a6, c6, by rw [HN.out], by rw [HN.out]; exact o6, b3⟩
        case measure => simp [intOf]; omega
    · obtain rfl : j = gn := by omega
      go_wp2
      go_ret
      exact ⟨_, _, rfl, own, hbel⟩
set_option maxHeartbeats 8000000 in
set_option maxRecDepth 100000 in
theorem ciValues_any (i0 i1 : Int) (ga : Option Addr) (gn gc : Nat) (oa : Option Addr) (on oc : Nat) (a : Option Addr) (n c : Nat) (G V : List Int) (w : World) (hg : Flat 3 w ga gn gc G) (hv : Ints w a n c V) (hk : ∀ j, j < gn → gbB (G.getD (j * 3) 0) (G.getD (j * 3 + 1) 0) (G.getD (j * 3 + 2) 0) ((n + j : Nat) : Int) = true) (hV : Bt V) (hn : n ≤ 100) (hgn : gn ≤ 1000) :
    Calls Try.prog 144 #[.agg #[.int .i64 i0, .int .i64 i1, .slice ga gn gc, .slice oa on oc], .slice a n c] w fun e w' => ∃ a1 c1, e = .returned (.slice a1 (n + gn) c1) ∧ Own w' w.heap.size a1 (n + gn) c1 (evL G V gn) ∧ Below w.heap.size w w' := by
  have HK := Lib.hid hk
  clear hk
  have HB := Lib.hid (fun j => evL_bits G hV j)
  clear hV
  have HL := Lib.hid hv.len
  have V0 : Below w.heap.size w (w.alloc (.cells #[.int .i64 i0, .int .i64 i1, .slice ga gn gc, .slice oa on oc] 25)) := (Below.refl _ _).alloc (Nat.le_refl _) _
  have R0 : Blk (w.alloc (.cells #[.int .i64 i0, .int .i64 i1, .slice ga gn gc, .slice oa on oc] 25)) w.heap.size 25 #[.int .i64 i0, .int .i64 i1, .slice ga gn gc, .slice oa on oc] := Blk.new w _ _
  have hv0 := hv.below V0
  have hg0 := hg.below V0
  have hz0 : w.heap.size < (w.alloc (.cells #[.int .i64 i0, .int .i64 i1, .slice ga gn gc, .slice oa on oc] 25)).heap.size := by simp
  go_enter Try.func144, Try.ntmps144
  go_wp2_with fail
  generalize (w.alloc (.cells #[.int .i64 i0, .int .i64 i1, .slice ga gn gc, .slice oa on oc] 25)) = w0 at *
  refine (l1Own_any _ _ _ _ _ hv0 (by omega)).mono ?_; rintro e w1 ⟨a1, c1, rfl, o1, u1⟩
  have V1 := V0.trans (u1.mono V0.size)
  have R1 := R0.below u1
  have own1 := o1.lower V0.size
  have x2 : w1.cell? ⟨w.heap.size, 2, none⟩ = some (.slice ga gn gc) := R1.cell 2
  clear o1 u1 V0 R0 hg0 hv0 hz0 R1
  go_wp2
  go_loopw [13, 5] (fun u v wr => ∃ j, j ≤ gn ∧ u = .int .i64 (j : Nat) ∧ ∃ a1 c1, v = .slice a1 (n + j) c1 ∧ Own wr w.heap.size a1 (n + j) c1 (evL G V j) ∧ Below w.heap.size w wr) (fun u _ _ => gn - (intOf u).toNat)
  case atStart => exact ⟨0, Nat.zero_le _, rfl, _, _, rfl, own1, V1⟩
  case round =>
    obtain ⟨j, hj, rfl, a2, c2, rfl, own, hbel⟩ := hrel
    clear own1 V1
    by_cases hlt : j < gn
    · obtain ⟨g, o, rfl, hc⟩ := (hg.below hbel).at (by omega)
      have c0 : wr.cell? ⟨g, o + j * 3, none⟩ = some (.int .i64 (G.getD (j * 3) 0)) := by have := hc (j * 3) (by omega); simpa only [Nat.add_assoc] using this
      have c1 : wr.cell? ⟨g, o + j * 3 + 1, none⟩ = some (.int .i64 (G.getD (j * 3 + 1) 0)) := by have := hc (j * 3 + 1) (by omega); simpa only [Nat.add_assoc] using this
      have c2 : wr.cell? ⟨g, o + j * 3 + 2, none⟩ = some (.int .i64 (G.getD (j * 3 + 2) 0)) := by have := hc (j * 3 + 2) (by omega); simpa only [Nat.add_assoc] using this
      clear hc
      have hgb := HK.out j hlt
      have HS := Lib.hid (evL_succ G V j)
      have hbt := HB.out j
      generalize G.getD (j * 3) 0 = kd at *
      generalize G.getD (j * 3 + 1) 0 = ka at *
      generalize G.getD (j * 3 + 2) 0 = kb at *
      generalize evL G V j = L at *
      have HFT := Lib.hid (fun k hk => (own.feet k hk).2)
      obtain ⟨N, hN⟩ : ∃ N, N = n + j := ⟨_, rfl⟩
      rw [← hN] at own hgb ⊢
      have hN1 : n + (j + 1) = N + 1 := by omega
      have HN := Lib.hid hN1
      have hNb : N ≤ 2000 := by omega
      clear hN1 hN
      go_upto_region 5 with fail
      have u2 : Below wr.heap.size wr (wr.alloc (.cells #[.int .i64 kd, .int .i64 ka, .int .i64 kb] 87)) := (Below.refl _ _).alloc (Nat.le_refl _) _
      have B2 : Blk (wr.alloc (.cells #[.int .i64 kd, .int .i64 ka, .int .i64 kb] 87)) wr.heap.size 87 #[.int .i64 kd, .int .i64 ka, .int .i64 kb] := Blk.new wr _ _
      have hw2 : wr.heap.size < (wr.alloc (.cells #[.int .i64 kd, .int .i64 ka, .int .i64 kb] 87)).heap.size := by simp
      have own2 := own.below u2
      have bel2 := hbel.trans (u2.mono hbel.size)
      clear own hbel u2 c0 c1 c2
      generalize (wr.alloc (.cells #[.int .i64 kd, .int .i64 ka, .int .i64 kb] 87)) = w2 at *
      have y0 : w2.cell? ⟨wr.heap.size, 0, none⟩ = some (.int .i64 kd) := B2.cell 0
      have y1 : w2.cell? ⟨wr.heap.size, 1, none⟩ = some (.int .i64 ka) := B2.cell 1
      have y2 : w2.cell? ⟨wr.heap.size, 2, none⟩ = some (.int .i64 kb) := B2.cell 2
      have hs2 : w.heap.size ≤ w2.heap.size := bel2.size
      clear B2
      rcases gb_cases hgb with ⟨rfl, ha0, ha1, hb0, hb1⟩ | ⟨rfl, ha0, ha1, hb0, hb1⟩ | ⟨rfl, ha0, ha1⟩ | rfl
      · clear hgb
        obtain ⟨ia, rfl⟩ : ∃ ia : Nat, ka = ia := ⟨ka.toNat, by omega⟩
        have hia : ia < N := by omega
        obtain ⟨g1, rfl, hgb1, hgw1, d1, -⟩ := own2.at ia hia
        have hx := hbt.at ia
        simp only [Int.toNat_natCast] at HS
        have hia2 : (ia : Int) < (N : Int) := by omega
        obtain ⟨ib, rfl⟩ : ∃ ib : Nat, kb = ib := ⟨kb.toNat, by omega⟩
        have hib : ib < N := by omega
        obtain ⟨_, E, -, -, d2, -⟩ := own2.at ib hib
        cases E
        simp only [Int.toNat_natCast] at HS
        have hib2 : (ib : Int) < (N : Int) := by omega
        generalize hy : L.getD ib 0 = y at *
        have HY := Lib.hid hy
        clear hy
        generalize hx1 : L.getD ia 0 = x at *
        have HX := Lib.hid hx1
        clear hx1
        have HE : Hid (evL G V (j + 1) = L ++ [bits BinOp.xor IntKind.i64 x y]) := HS.out
        clear HS
        have HFN : Hid (wr.heap.size ∉ foot (some ⟨g1, 0, none⟩) c2) := fun h => Nat.lt_irrefl _ (HFT.out _ h)
        have HI := Lib.hid hia
        have HJ := Lib.hid hib
        go_wp2_with fail
        go_region_held3 (fun W => W.cell? ⟨wr.heap.size, 1, none⟩ = some (.int .i64 (ia : Int)) ∧ W.cell? ⟨wr.heap.size, 2, none⟩ = some (.int .i64 (ib : Int)) ∧ W.cell? ⟨g1, ia, none⟩ = some (.int .i64 x) ∧ W.cell? ⟨g1, ib, none⟩ = some (.int .i64 y))
          (first | exact ⟨keepG g6 (by simp; omega) HFN.out (keepA _ y1), keepG g6 (by simp; omega) HFN.out (keepA _ y2), hold6.cl _ HI.out HX.out, hold6.cl _ HJ.out HY.out⟩ | exact ⟨keepA _ y1, keepA _ y2, keepA _ d1, keepA _ d2⟩ | go_keep)
          (first | (refine step_appI _ (by rfl) _ _ (by rfl) w.heap.size _ N _ L (by rfl) (own2.alloc _).drew _ 1 1 [bits BinOp.xor IntKind.i64 x y] (by rfl) (Ints.lit1 _ _ _).drew (by omega) (by simp; omega) ?_; intro a6 c6 w5 o6 u6 g6 hold6))
        have b3 := (bel2.drew.alloc bel2.drew.size (.cells #[.int .i64 (bits BinOp.xor IntKind.i64 x y)] 3)).trans u6
        clear g6 hold6
        rw [← HE.out] at o6
        clear u6 bel2 own2 y0 y1 y2 d1 d2
        go_wp2
        go_roundw
        case rel => exact ⟨j + 1, by omega, by go_num, a6, c6, by rw [HN.out], by rw [HN.out]; exact o6, b3⟩
        case measure => simp [intOf]; omega
      · clear hgb
        obtain ⟨ia, rfl⟩ : ∃ ia : Nat, ka = ia := ⟨ka.toNat, by omega⟩
        have hia : ia < N := by omega
        obtain ⟨g1, rfl, hgb1, hgw1, d1, -⟩ := own2.at ia hia
        have hx := hbt.at ia
        simp only [Int.toNat_natCast] at HS
        have hia2 : (ia : Int) < (N : Int) := by omega
        obtain ⟨ib, rfl⟩ : ∃ ib : Nat, kb = ib := ⟨kb.toNat, by omega⟩
        have hib : ib < N := by omega
        obtain ⟨_, E, -, -, d2, -⟩ := own2.at ib hib
        cases E
        simp only [Int.toNat_natCast] at HS
        have hib2 : (ib : Int) < (N : Int) := by omega
        generalize hy : L.getD ib 0 = y at *
        have HY := Lib.hid hy
        clear hy
        generalize hx1 : L.getD ia 0 = x at *
        have HX := Lib.hid hx1
        clear hx1
        have HE : Hid (evL G V (j + 1) = L ++ [bits BinOp.and IntKind.i64 x y]) := HS.out
        clear HS
        have HFN : Hid (wr.heap.size ∉ foot (some ⟨g1, 0, none⟩) c2) := fun h => Nat.lt_irrefl _ (HFT.out _ h)
        have HI := Lib.hid hia
        have HJ := Lib.hid hib
        go_wp2_with fail
        go_region_held3 (fun W => W.cell? ⟨wr.heap.size, 1, none⟩ = some (.int .i64 (ia : Int)) ∧ W.cell? ⟨wr.heap.size, 2, none⟩ = some (.int .i64 (ib : Int)) ∧ W.cell? ⟨g1, ia, none⟩ = some (.int .i64 x) ∧ W.cell? ⟨g1, ib, none⟩ = some (.int .i64 y))
          (first | exact ⟨keepG g6 (by simp; omega) HFN.out (keepA _ y1), keepG g6 (by simp; omega) HFN.out (keepA _ y2), hold6.cl _ HI.out HX.out, hold6.cl _ HJ.out HY.out⟩ | exact ⟨keepA _ y1, keepA _ y2, keepA _ d1, keepA _ d2⟩ | go_keep)
          (first | (refine step_appI _ (by rfl) _ _ (by rfl) w.heap.size _ N _ L (by rfl) (own2.alloc _).drew _ 1 1 [bits BinOp.and IntKind.i64 x y] (by rfl) (Ints.lit1 _ _ _).drew (by omega) (by simp; omega) ?_; intro a6 c6 w5 o6 u6 g6 hold6))
        have b3 := (bel2.drew.alloc bel2.drew.size (.cells #[.int .i64 (bits BinOp.and IntKind.i64 x y)] 3)).trans u6
        clear g6 hold6
        rw [← HE.out] at o6
        clear u6 bel2 own2 y0 y1 y2 d1 d2
        go_wp2
        go_roundw
        case rel => exact ⟨j + 1, by omega, by go_num, a6, c6, by rw [HN.out], by rw [HN.out]; exact o6, b3⟩
        case measure => simp [intOf]; omega
      · clear hgb
        obtain ⟨ia, rfl⟩ : ∃ ia : Nat, ka = ia := ⟨ka.toNat, by omega⟩
        have hia : ia < N := by omega
        obtain ⟨g1, rfl, hgb1, hgw1, d1, -⟩ := own2.at ia hia
        have hx := hbt.at ia
        simp only [Int.toNat_natCast] at HS
        have hia2 : (ia : Int) < (N : Int) := by omega
        generalize hx1 : L.getD ia 0 = x at *
        have HX := Lib.hid hx1
        clear hx1
        have HE : Hid (evL G V (j + 1) = L ++ [1 - x]) := HS.out
        clear HS
        have t1 : IntKind.i64.wrap (1 - x) = 1 - x := IntWalk.i64_in _ (by omega)
        go_wp2_with (at_builtin; refine wpList_appI _ rfl _ _ rfl w.heap.size _ N _ L rfl (own2.alloc _) _ 1 1 [1 - x] rfl (Ints.lit1 _ _ _) (by omega) (by simp; omega) ?_)
        intro a6 c6 w5 o6 u6 _
        have b3 := (bel2.alloc bel2.size (.cells #[.int .i64 (1 - x)] 3)).trans u6
        rw [← HE.out] at o6
        clear u6 bel2 own2 y0 y1 y2 d1
        go_wp2
        go_roundw
        case rel => exact ⟨j + 1, by omega, by go_num, a6, c6, by rw [HN.out], by rw [HN.out]; exact o6, b3⟩
        case measure => simp [intOf]; omega
      · clear hgb
        have HE : Hid (evL G V (j + 1) = L ++ [1]) := HS.out
        clear HS
        go_wp2_with (at_builtin; refine wpList_appI _ rfl _ _ rfl w.heap.size _ N _ L rfl (own2.alloc _) _ 1 1 [1] rfl (Ints.lit1 _ _ _) (by omega) (by simp; omega) ?_)
        intro a6 c6 w5 o6 u6 _
        have b3 := (bel2.alloc bel2.size (.cells #[.int .i64 (1)] 3)).trans u6
        rw [← HE.out] at o6
        clear u6 bel2 own2 y0 y1 y2
        go_wp2
        go_roundw
        case rel => exact ⟨j + 1, by omega, by go_num, a6, c6, by rw [HN.out], by rw [HN.out]; exact o6, b3⟩
        case measure => simp [intOf]; omega
    · obtain rfl : j = gn := by omega
      go_wp2
      go_ret
      exact ⟨_, _, rfl, own, hbel⟩
end Go.Proofs.Ytkbhigdciokfkaa
namespace Go.Proofs.Ytkbhigdciokfkaa
open Go.RowKit
/-- The number of bits. -/
def num : List Int → Int
  | [] => 0
  | x :: l => x + 2 * num l
theorem num_snoc (l : List Int) (x : Int) : num (l ++ [x]) = num l + x * 2 ^ l.length := by
  induction l with
  | nil => simp [num]
  | cons y l ih => simp only [List.cons_append, num, ih, List.length_cons, Int.pow_succ]; rw [Int.mul_add, ← Int.add_assoc, Int.mul_left_comm 2 x, Int.mul_comm 2 (2 ^ l.length)]
theorem num_take (l : List Int) (k : Nat) (h : k < l.length) : num (l.take (k + 1)) = num (l.take k) + l.getD k 0 * 2 ^ k := by
  rw [List.take_succ_eq_append_getElem h, num_snoc, List.length_take, Nat.min_eq_left (by omega)]
  simp [List.getD, h]
theorem num_drop (l : List Int) (k : Nat) (h : k < l.length) : num (l.drop k) = 2 * num (l.drop (k + 1)) + l.getD k 0 := by
  rw [List.drop_eq_getElem_cons h, num, Int.add_comm]
  simp [List.getD, h]
theorem num_rng {l : List Int} (h : Bt l) (h4 : l.length ≤ 4) : 0 ≤ num l ∧ num l < 2 ^ l.length := by
  match l, h4 with
  | [], _ => simp [num]
  | [a], _ => have := h a (by simp); simp [num]; omega
  | [a, b], _ => have := h a (by simp); have := h b (by simp); simp [num]; omega
  | [a, b, c], _ => have := h a (by simp); have := h b (by simp); have := h c (by simp); simp [num]; omega
  | [a, b, c, d], _ => have := h a (by simp); have := h b (by simp); have := h c (by simp); have := h d (by simp); simp [num]; omega
theorem Bt.take {l : List Int} (h : Bt l) (k : Nat) : Bt (l.take k) := fun x hx => h x (List.mem_of_mem_take hx)
theorem Bt.drop {l : List Int} (h : Bt l) (k : Nat) : Bt (l.drop k) := fun x hx => h x (List.mem_of_mem_drop hx)
theorem or_bit (N x : Int) (k : Nat) (h0 : 0 ≤ N) (h1 : N < 2 ^ k) (hk : k < 4) (hx : x = 0 ∨ x = 1) : bits BinOp.or IntKind.i64 N (x * 2 ^ k) = N + x * 2 ^ k := by
  rcases hx with rfl | rfl
  · have : N < 8 := by rcases (by omega : k = 0 ∨ k = 1 ∨ k = 2 ∨ k = 3) with rfl | rfl | rfl | rfl <;> omega
    rw [Int.zero_mul]
    rcases (by omega : N = 0 ∨ N = 1 ∨ N = 2 ∨ N = 3 ∨ N = 4 ∨ N = 5 ∨ N = 6 ∨ N = 7) with rfl | rfl | rfl | rfl | rfl | rfl | rfl | rfl <;> decide
  · rcases (by omega : k = 0 ∨ k = 1 ∨ k = 2 ∨ k = 3) with rfl | rfl | rfl | rfl
    · rcases (by omega : N = 0) with rfl; decide
    · rcases (by omega : N = 0 ∨ N = 1) with rfl | rfl <;> decide
    · rcases (by omega : N = 0 ∨ N = 1 ∨ N = 2 ∨ N = 3) with rfl | rfl | rfl | rfl <;> decide
    · rcases (by omega : N = 0 ∨ N = 1 ∨ N = 2 ∨ N = 3 ∨ N = 4 ∨ N = 5 ∨ N = 6 ∨ N = 7) with rfl | rfl | rfl | rfl | rfl | rfl | rfl | rfl <;> decide
set_option maxHeartbeats 4000000 in
set_option maxRecDepth 100000 in
theorem btNum_any (a : Option Addr) (n c : Nat) (l : List Int) (w : World) (h : Ints w a n c l) (hb : Bt l) (hn : n ≤ 4) :
    Calls Try.prog 143 #[.slice a n c] w fun e w' => e = .returned (.int .i64 (num l)) ∧ ∃ m, w' = w.drewN m := by
  have HL := Lib.hid h.len
  have HT := Lib.hid hb.drop
  have HB := Lib.hid hb.at
  clear hb
  go_enter Try.func143, Try.ntmps143
  go_wp2
  go_loopw [4, 3] (fun v u wr => ∃ k : Nat, k ≤ n ∧ v = .int .i64 ((k : Int) - 1) ∧ u = .int .i64 (num (l.drop k)) ∧ ∃ m, wr = w.drewN m) (fun v _ _ => (intOf v + 1).toNat)
  case atStart => exact ⟨n, Nat.le_refl _, rfl, v_int (by rw [List.drop_of_length_le (by have := HL.out; omega)]; rfl), 0, rfl⟩
  case round =>
    obtain ⟨k, hkn, rfl, rfl, m, rfl⟩ := hrel
    cases k with
    | succ k =>
      have hlt : k < n := by omega
      obtain ⟨g, o, rfl, e0⟩ := h.at k hlt
      have hlen := HL.out
      have hx := HB.out k
      have HS := Lib.hid (num_drop l k (by omega))
      obtain ⟨r0, r1⟩ := num_rng (HT.out (k + 1)) (by rw [List.length_drop]; omega)
      have r2 : num (l.drop (k + 1)) < 16 := by
        refine Int.lt_of_lt_of_le r1 ?_
        rw [List.length_drop]
        rcases (by omega : l.length - (k + 1) = 0 ∨ l.length - (k + 1) = 1 ∨ l.length - (k + 1) = 2 ∨ l.length - (k + 1) = 3) with h | h | h | h <;> rw [h] <;> decide
      clear r1
      generalize num (l.drop (k + 1)) = N at *
      generalize l.getD k 0 = x at *
      have hki : ((k + 1 : Nat) : Int) - 1 = (k : Int) := by omega
      rw [hki]
      have t1 : IntKind.i64.wrap (2 * N) = 2 * N := IntWalk.i64_in _ (by omega)
      have t2 : IntKind.i64.wrap (2 * N + x) = 2 * N + x := IntWalk.i64_in _ (by omega)
      have hk0 : (0 : Int) ≤ (k : Int) := by omega
      clear hki
      go_wp2
      go_roundw
      case rel => exact ⟨k, by omega, rfl, v_int HS.out.symm, m, rfl⟩
      case measure => simp [intOf]
    | zero =>
      have hneg : ((0 : Nat) : Int) - 1 = -1 := by omega
      rw [hneg]
      go_wp2
      go_ret
      exact ⟨rfl, m, rfl⟩
/-- The elements of F at the places O. -/
def pkL (F O : List Int) (k : Nat) : List Int := (List.range k).map fun i => F.getD (O.getD i 0).toNat 0
theorem pkL_succ (F O : List Int) (k : Nat) : pkL F O (k + 1) = pkL F O k ++ [F.getD (O.getD k 0).toNat 0] := by simp [pkL, List.range_succ]
theorem pkL_bits {F : List Int} (h : Bt F) (O : List Int) (k : Nat) : Bt (pkL F O k) := fun x hx => by
  obtain ⟨i, _, rfl⟩ := List.mem_map.1 hx
  exact h.at _
set_option maxHeartbeats 4000000 in
set_option maxRecDepth 100000 in
theorem pk_at (a : Option Addr) (n c : Nat) (F : List Int) (oa : Option Addr) (on oc : Nat) (O : List Int) (w : World) (h : Ints w a n c F) (hO : Ints w oa on oc O) (_hn : n ≤ 100000) (hon : on ≤ 100000) (hr : ∀ x ∈ O, 0 ≤ x ∧ x ≤ (n : Int) - 1) :
    Calls Try.prog 74 #[.slice a n c, .slice oa on oc] w fun e w' => ∃ a1 c1, e = .returned (.slice a1 on c1) ∧ Own w' w.heap.size a1 on c1 (pkL F O on) ∧ Below w.heap.size w w' := by
  have HR := Lib.hid hr
  have HL := Lib.hid hO.len
  clear hr
  go_enter Try.func74, Try.ntmps74
  go_wp2
  go_loopw [11, 5] (fun v u wr => ∃ k : Nat, k ≤ on ∧ v = .int .i64 k ∧ Below w.heap.size w wr ∧ ∃ a1 c1, u = .slice a1 k c1 ∧ Own wr w.heap.size a1 k c1 (pkL F O k)) (fun v _ _ => on - (intOf v).toNat)
  case atStart => exact ⟨0, Nat.zero_le _, rfl, (Below.refl _ _).alloc (Nat.le_refl _) _, _, _, rfl, Own.nil0 _ _ _⟩
  case round =>
    obtain ⟨k, hkn, rfl, hbel, a1, c1, rfl, own⟩ := hrel
    by_cases hlt : k < on
    · have ro := HR.out _ (getD_mem O k (by rw [← HL.out]; exact hlt))
      have HS := Lib.hid (pkL_succ F O k)
      obtain ⟨g, o, rfl, e0⟩ := (hO.below hbel).at k hlt
      generalize O.getD k 0 = q at *
      obtain ⟨j, rfl⟩ : ∃ j : Nat, q = j := ⟨q.toNat, by omega⟩
      simp only [Int.toNat_natCast] at HS
      have hj : j < n := by omega
      obtain ⟨g', o', rfl, e1⟩ := (h.below hbel).at j hj
      generalize F.getD j 0 = x at *
      go_wp2_with (at_builtin; refine wpList_appI _ rfl _ _ rfl w.heap.size a1 k c1 (pkL F O k) rfl (own.alloc _) _ 1 1 [x] rfl (Ints.lit1 _ _ _) (by omega) (by have := hbel.size; simp; omega) ?_)
      intro a5 c5 w3 o5 u5 _
      rw [← HS.out] at o5
      have b3 := (hbel.alloc hbel.size _).trans u5
      clear u5 hbel own e0 e1
      go_wp2
      go_roundw
      case rel => exact ⟨k + 1, by omega, by go_num, b3, a5, c5, rfl, o5⟩
      case measure => simp [intOf]; omega
    · obtain rfl : k = on := by omega
      go_wp2
      go_ret
      exact ⟨_, _, rfl, own, hbel⟩
set_option maxHeartbeats 4000000 in
set_option maxRecDepth 100000 in
theorem pk_ciPick (a : Option Addr) (n c : Nat) (F : List Int) (oa : Option Addr) (on oc : Nat) (O : List Int) (w : World) (h : Ints w a n c F) (hO : Ints w oa on oc O) (_hn : n ≤ 100000) (hon : on ≤ 100000) (hr : ∀ x ∈ O, 0 ≤ x ∧ x ≤ (n : Int) - 1) :
    Calls Try.prog 68 #[.slice a n c, .slice oa on oc] w fun e w' => ∃ a1 c1, e = .returned (.slice a1 on c1) ∧ Own w' w.heap.size a1 on c1 (pkL F O on) ∧ Below w.heap.size w w' := by
  have HR := Lib.hid hr
  have HL := Lib.hid hO.len
  clear hr
  go_enter Try.func68, Try.ntmps68
  go_wp2
  go_loopw [10, 5] (fun v u wr => ∃ k : Nat, k ≤ on ∧ v = .int .i64 k ∧ Below w.heap.size w wr ∧ ∃ a1 c1, u = .slice a1 k c1 ∧ Own wr w.heap.size a1 k c1 (pkL F O k)) (fun v _ _ => on - (intOf v).toNat)
  case atStart => exact ⟨0, Nat.zero_le _, rfl, Below.refl _ _, _, _, rfl, Own.nil0 _ _ _⟩
  case round =>
    obtain ⟨k, hkn, rfl, hbel, a1, c1, rfl, own⟩ := hrel
    by_cases hlt : k < on
    · have ro := HR.out _ (getD_mem O k (by rw [← HL.out]; exact hlt))
      have HS := Lib.hid (pkL_succ F O k)
      obtain ⟨g, o, rfl, e0⟩ := (hO.below hbel).at k hlt
      generalize O.getD k 0 = q at *
      obtain ⟨j, rfl⟩ : ∃ j : Nat, q = j := ⟨q.toNat, by omega⟩
      simp only [Int.toNat_natCast] at HS
      have hj : j < n := by omega
      obtain ⟨g', o', rfl, e1⟩ := (h.below hbel).at j hj
      generalize F.getD j 0 = x at *
      go_wp2_with (at_builtin; refine wpList_appI _ rfl _ _ rfl w.heap.size a1 k c1 (pkL F O k) rfl (own.alloc _) _ 1 1 [x] rfl (Ints.lit1 _ _ _) (by omega) (by have := hbel.size; simp; omega) ?_)
      intro a5 c5 w3 o5 u5 _
      rw [← HS.out] at o5
      have b3 := (hbel.alloc hbel.size _).trans u5
      clear u5 hbel own e0 e1
      go_wp2
      go_roundw
      case rel => exact ⟨k + 1, by omega, by go_num, b3, a5, c5, rfl, o5⟩
      case measure => simp [intOf]; omega
    · obtain rfl : k = on := by omega
      go_wp2
      go_ret
      exact ⟨_, _, rfl, own, hbel⟩
end Go.Proofs.Ytkbhigdciokfkaa
namespace Go.Proofs.Ytkbhigdciokfkaa
open Go.RowKit
theorem Ints.cut {w : World} {a : Option Addr} {n c : Nat} {l : List Int} (h : Ints w a n c l) (lo hi mx : Nat) (h1 : lo ≤ hi) (h2 : hi ≤ n) (h3 : hi ≤ mx) (h4 : mx ≤ c) :
    Ints w (if mx = lo then a else a.map (·.add lo)) (hi - lo) (mx - lo) ((l.drop lo).take (hi - lo)) := by
  obtain ⟨e1, e2, e3, e4, g, o, e5, e6⟩ := h
  refine ⟨by rw [List.length_take, List.length_drop]; omega, by omega, by omega, fun e => ?_, g, o + lo, fun h0 => ?_, fun i hi' => ?_⟩
  · split at e
    · omega
    · cases a with
      | none => have := e4 rfl; omega
      | some x => simp at e
  · rw [if_neg (by omega), e5 (by omega)]
    simp [Addr.add]
  · have := e6 (lo + i) (by omega)
    rw [← Nat.add_assoc] at this
    rw [this]
    simp [List.getD, hi']
theorem Ints.from_ {w : World} {a : Option Addr} {n c : Nat} {l : List Int} (h : Ints w a n c l) (lo : Nat) (h1 : lo ≤ n) :
    Ints w (if c = lo then a else a.map (·.add lo)) (n - lo) (c - lo) (l.drop lo) := by
  have := h.cut lo n c h1 (Nat.le_refl _) h.2.1 (Nat.le_refl _)
  rw [List.take_of_length_le (by rw [List.length_drop, ← h.len]; exact Nat.le_refl _)] at this
  exact this
theorem Ints.upto {w : World} {a : Option Addr} {n c : Nat} {l : List Int} (h : Ints w a n c l) (hi : Nat) (h1 : hi ≤ n) : Ints w a hi c (l.take hi) := by
  obtain ⟨e1, e2, e3, e4, g, o, e5, e6⟩ := h
  refine ⟨by rw [List.length_take]; omega, by omega, e3, e4, g, o, fun h0 => e5 (by omega), fun i hi' => ?_⟩
  rw [e6 i (by omega)]
  simp [List.getD, hi']
/-- The bits of the first numbers. -/
def cbL (l : List Int) (w : Nat) : Nat → List Int
  | 0 => []
  | k + 1 => cbL l w k ++ btL (l.getD k 0) w
theorem cbL_succ (l : List Int) (w k : Nat) : cbL l w (k + 1) = cbL l w k ++ btL (l.getD k 0) w := rfl
theorem btL_bits (x : Int) (n : Nat) : Bt (btL x n) := fun y hy => by
  obtain ⟨i, _, rfl⟩ := List.mem_map.1 hy
  omega
theorem cbL_bits (l : List Int) (w k : Nat) : Bt (cbL l w k) := by
  induction k with
  | zero => exact Bt.nil
  | succ k ih => rw [cbL_succ]; exact ih.app (btL_bits _ _)
/-- The numbers of the first words of bits. -/
def cnL (l : List Int) (w : Nat) : Nat → List Int
  | 0 => []
  | k + 1 => cnL l w k ++ [num ((l.drop (k * w)).take w)]
theorem cnL_succ (l : List Int) (w k : Nat) : cnL l w (k + 1) = cnL l w k ++ [num ((l.drop (k * w)).take w)] := rfl
theorem cnL_len (l : List Int) (w k : Nat) : (cnL l w k).length = k := by
  induction k with
  | zero => rfl
  | succ k ih => rw [cnL_succ, List.length_append, ih]; rfl
set_option maxHeartbeats 4000000 in
theorem meWidths_any (x : Int) (n : Nat) (w : World) (hn : n ≤ 1000) :
    Calls Try.prog 117 #[.int .i64 x, .int .i64 n] w fun e w' => ∃ a c, e = .returned (.slice a n c) ∧ Own w' w.heap.size a n c (List.replicate n x) ∧ Below w.heap.size w w' := by
  go_enter Try.func117, Try.ntmps117
  go_wp2
  go_loopw [5, 1] (fun u y wr => ∃ k : Nat, k ≤ n ∧ y = .int .i64 ((n - k : Nat) : Int) ∧ Below w.heap.size w wr ∧ ∃ a1 c1, u = .slice a1 k c1 ∧ Own wr w.heap.size a1 k c1 (List.replicate k x)) (fun _ y _ => (intOf y).toNat)
  case atStart => exact ⟨0, by omega, rfl, Below.refl _ _, _, _, rfl, Own.nil0 _ _ _⟩
  case round =>
    obtain ⟨k, hk, rfl, hbel, a1, c1, rfl, own⟩ := hrel
    by_cases hlt : k < n
    · obtain ⟨m, hm⟩ : ∃ m, n - k = m + 1 := ⟨n - k - 1, by omega⟩
      have HM := Lib.hid (show n - (k + 1) = m by omega)
      have HS := Lib.hid (show List.replicate (k + 1) x = List.replicate k x ++ [x] from List.replicate_succ')
      rw [hm]
      have hm60 : m ≤ 1000 := by omega
      have hk0 : k ≤ 1000 := by omega
      clear hm
      go_wp2_with (at_builtin; refine wpList_appI _ rfl _ _ rfl w.heap.size a1 k c1 (List.replicate k x) rfl (own.alloc _) _ 1 1 [x] rfl (Ints.lit1 _ _ _) (by omega) (by have := hbel.size; simp; omega) ?_)
      intro a5 c5 w3 o5 u5 _
      rw [← HS.out] at o5
      have b3 := (hbel.alloc hbel.size (.cells #[.int .i64 x] 3)).trans u5
      clear u5 hbel own
      go_wp2
      go_roundw
      case rel => exact ⟨k + 1, by omega, by rw [HM.out], b3, a5, c5, rfl, o5⟩
      case measure => simp [intOf]
    · obtain rfl : k = n := by omega
      have hz : k - k = 0 := by omega
      rw [hz]
      go_wp2
      go_ret
      exact ⟨a1, c1, rfl, own, hbel⟩
set_option maxHeartbeats 4000000 in
theorem coBits_any (wd n : Nat) (a : Option Addr) (c : Nat) (a' : Option Addr) (n' c' : Nat) (l : List Int) (w : World) (h : Ints w a n c (List.replicate n (wd : Int))) (h' : Ints w a' n' c' l) (hn : n ≤ 100) (hnn : n ≤ n') (hw : wd ≤ 60) (hl : ∀ x ∈ l, 0 ≤ x ∧ x ≤ 1000000000) :
    Calls Try.prog 116 #[.slice a n c, .slice a' n' c'] w fun e w' => ∃ a1 c1, e = .returned (.slice a1 (n * wd) c1) ∧ Own w' w.heap.size a1 (n * wd) c1 (cbL l wd n) ∧ Below w.heap.size w w' := by
  have HR := Lib.hid hl
  have HL := Lib.hid h'.len
  clear hl
  go_enter Try.func116, Try.ntmps116
  go_wp2
  go_loopw [10, 5] (fun v u wr => ∃ k : Nat, k ≤ n ∧ v = .int .i64 k ∧ Below w.heap.size w wr ∧ ∃ a1 c1 K, u = .slice a1 K c1 ∧ K = k * wd ∧ Own wr w.heap.size a1 K c1 (cbL l wd k)) (fun v _ _ => n - (intOf v).toNat)
  case atStart => exact ⟨0, Nat.zero_le _, rfl, Below.refl _ _, _, _, 0, rfl, by simp, Own.nil0 _ _ _⟩
  case round =>
    obtain ⟨k, hkn, rfl, hbel, a1, c1, K, rfl, hK, own⟩ := hrel
    by_cases hlt : k < n
    · have ro := HR.out _ (getD_mem l k (by rw [← HL.out]; omega))
      have HS := Lib.hid (cbL_succ l wd k)
      have HK1 := Lib.hid (show K + wd = (k + 1) * wd by rw [hK, Nat.succ_mul])
      have hKb : K ≤ 6000 := by rw [hK]; exact Nat.le_trans (Nat.mul_le_mul (show k ≤ 100 by omega) hw) (by decide)
      clear hK
      obtain ⟨g, o, rfl, e0⟩ := (h.below hbel).at k hlt
      rw [show (List.replicate n (wd : Int)).getD k 0 = (wd : Int) by simp [List.getD, hlt]] at e0
      obtain ⟨g', o', rfl, e1⟩ := (h'.below hbel).at k (by omega)
      have hk2 : (k : Int) < (n' : Int) := by omega
      generalize l.getD k 0 = x at *
      go_wp2_with fail
      refine (btOf_any x wd _ ro hw).mono ?_; rintro e w2 ⟨a2, c2, rfl, o2, u2⟩
      have own2 := own.below u2
      have bel2 := hbel.trans (u2.mono hbel.size)
      clear own u2 e0 e1
      go_wp2_with (at_builtin; refine wpList_appI _ rfl _ _ rfl w.heap.size a1 K c1 (cbL l wd k) rfl own2 _ wd c2 (btL x wd) rfl o2.ints (by omega) bel2.size ?_)
      intro a5 c5 w3 o5 u5 _
      rw [← HS.out, HK1.out] at o5
      have b3 := bel2.trans u5
      clear u5 hbel own2 bel2 o2
      go_wp2
      go_roundw
      case rel => exact ⟨k + 1, by omega, by go_num, b3, a5, c5, _, rfl, HK1.out, by rw [HK1.out]; exact o5⟩
      case measure => simp [intOf]; omega
    · obtain rfl : k = n := by omega
      subst hK
      go_wp2
      go_ret
      exact ⟨_, _, rfl, own, hbel⟩
set_option maxHeartbeats 4000000 in
theorem coNumbers_any (wd m : Nat) (a : Option Addr) (c : Nat) (a' : Option Addr) (n' c' : Nat) (l : List Int) (w : World) (h : Ints w a m c (List.replicate m (wd : Int))) (h' : Ints w a' n' c' l) (hm : m ≤ 100) (hn : n' = m * wd) (hw : wd ≤ 4) (hb : Bt l) :
    Calls Try.prog 118 #[.slice a m c, .slice a' n' c'] w fun e w' => ∃ a1 c1, e = .returned (.slice a1 m c1) ∧ Own w' w.heap.size a1 m c1 (cnL l wd m) ∧ Below w.heap.size w w' := by
  have HB := Lib.hid (fun k => (hb.drop (k * wd)).take wd)
  have HL := Lib.hid h'.len
  have HN := Lib.hid hn
  clear hb
  go_enter Try.func118, Try.ntmps118
  go_wp2
  go_loopw [10, 5, 1] (fun v u y wr => ∃ k : Nat, k ≤ m ∧ v = .int .i64 k ∧ Below w.heap.size w wr ∧ (∃ a1 c1, u = .slice a1 k c1 ∧ Own wr w.heap.size a1 k c1 (cnL l wd k)) ∧ ∃ a2 n2 c2, y = .slice a2 n2 c2 ∧ n2 + k * wd = n' ∧ Ints w a2 n2 c2 (l.drop (k * wd))) (fun v _ _ _ => m - (intOf v).toNat)
  case atStart => exact ⟨0, Nat.zero_le _, rfl, Below.refl _ _, ⟨_, _, rfl, Own.nil0 _ _ _⟩, _, _, _, rfl, by simp, by simpa using h'⟩
  case round =>
    obtain ⟨k, hkn, rfl, hbel, ⟨a1, c1, rfl, own⟩, a2, n2, c2, rfl, hn2, hi2⟩ := hrel
    by_cases hlt : k < m
    · have HS := Lib.hid (cnL_succ l wd k)
      have hwn : wd ≤ n2 := by
        have : (k + 1) * wd ≤ m * wd := Nat.mul_le_mul_right _ hlt
        rw [Nat.succ_mul] at this
        omega
      have HN2 := Lib.hid (show n2 - wd + (k + 1) * wd = n' by rw [Nat.succ_mul]; omega)
      have hcap := hi2.2.1
      obtain ⟨g, o, rfl, e0⟩ := (h.below hbel).at k hlt
      rw [show (List.replicate m (wd : Int)).getD k 0 = (wd : Int) by simp [List.getD, hlt]] at e0
      have i1 := (hi2.below hbel).upto wd hwn
      have i2 := hi2.from_ wd hwn
      rw [List.drop_drop, show k * wd + wd = (k + 1) * wd by rw [Nat.succ_mul]] at i2
      have hb1 : (wd : Int) ≤ (c2 : Int) := by omega
      have hb2 : (wd : Int) ≤ (n2 : Int) := by omega
      have hb0 : (0 : Int) ≤ (wd : Int) := by omega
      have hbt := HB.out k
      generalize (l.drop (k * wd)).take wd = p at *
      go_wp2_with fail
      refine (btNum_any _ _ _ p _ i1 hbt hw).mono ?_; rintro e w2 ⟨rfl, q, rfl⟩
      go_wp2_with (at_builtin; refine wpList_appI _ rfl _ _ rfl w.heap.size a1 k c1 (cnL l wd k) rfl ((own.below (below_of_drewN q)).alloc _) _ 1 1 [num p] rfl (Ints.lit1 _ _ _) (by omega) (by have := hbel.size; simp; omega) ?_)
      intro a5 c5 w3 o5 u5 g5
      rw [← HS.out] at o5
      have b3 := ((below_drewN hbel q).alloc (below_drewN hbel q).size (.cells #[.int .i64 (num p)] 3)).trans u5
      clear u5 g5 own hbel i1 e0
      go_wp2
      go_roundw
      case rel => exact ⟨k + 1, by omega, by go_num, b3, ⟨a5, c5, rfl, o5⟩, _, _, _, rfl, HN2.out, i2⟩
      case measure => simp [intOf]; omega
    · obtain rfl : k = m := by omega
      go_wp2
      go_ret
      exact ⟨_, _, rfl, own, hbel⟩
end Go.Proofs.Ytkbhigdciokfkaa
namespace Go.Proofs.Ytkbhigdciokfkaa
open Go.RowKit
/-- The number of cells that a circuit returns. -/
def meN (k n : Nat) : Nat := if k = 0 ∨ k = 1 then 1 else n
theorem meO_len (k n w : Nat) (h1 : 1 ≤ n) (h2 : n ≤ 8) : (meG k n w).2.length = meN k n * w := by
  unfold meG meN
  have hce := ceL_len w n
  have hca := ceL_all w n
  by_cases k0 : k = 0
  · rw [if_pos k0, if_pos (Or.inl k0), Nat.one_mul]
    exact (scG_len hca n (by omega)).2 (by omega)
  · rw [if_neg k0]
    by_cases k1 : k = 1
    · rw [if_pos k1, if_pos (Or.inr k1), Nat.one_mul]
      obtain ⟨_, ⟨h3, _⟩, h4⟩ := trG_len (B := meB n w (wid n) 0) (idx := meI n w (wid n)) (G := []) hca (by omega) (by omega) (wid n)
      exact h4.at 0 h3
    · rw [if_neg k1, if_neg (show ¬ (k = 0 ∨ k = 1) by omega)]
      by_cases k2 : k = 2
      · rw [if_pos k2]
        have := (wrG_len (meB n w (wid n) w) (meI n w (wid n)) (spL ((n * w : Nat) + (wid n : Nat) : Int) w) (ceL w n) [] n).2
        rw [spL_len] at this
        rw [Nat.mul_comm n w]
        exact this
      · rw [if_neg k2]
        obtain ⟨_, h3, h4⟩ := tuG_len (B := meB n w (wid n) 0) (idx := meI n w (wid n)) (G := []) hca (wid n)
        have := flatten_len h4
        rw [h3, hce, Nat.mul_comm w n] at this
        exact this
def mrNI (k n w : Nat) : Nat := n * w + (wid n + meMore k w)
theorem mrNI_le (k n w : Nat) (h2 : n ≤ 8) (h4 : w ≤ 4) : mrNI k n w ≤ 39 := by
  unfold mrNI meMore
  have := wid8 n h2
  have : n * w ≤ 8 * 4 := Nat.mul_le_mul h2 h4
  split <;> omega
theorem mr_gates (k n w : Nat) (h : memB n w = true) : ∀ j, j < (meG k n w).1.length / 3 → gbB ((meG k n w).1.getD (j * 3) 0) ((meG k n w).1.getD (j * 3 + 1) 0) ((meG k n w).1.getD (j * 3 + 2) 0) ((mrNI k n w + j : Nat) : Int) = true := fun j hj => by
  have := m_ok k n w h
  unfold ciB at this
  simp only [Bool.and_eq_true] at this
  have h2 := List.all_eq_true.1 this.1.2 j (List.mem_range.2 hj)
  unfold gbAt at h2
  have e : ((mrNI k n w + j : Nat) : Int) = ((n * w : Nat) : Int) + (((wid (n : Int) : Nat) : Int) + ((meMore k w : Nat) : Int)) + (j : Int) := by unfold mrNI; omega
  rw [e]
  exact h2
theorem mr_outs (k n w : Nat) (h : memB n w = true) : ∀ x ∈ (meG k n w).2, 0 ≤ x ∧ x ≤ ((mrNI k n w + (meG k n w).1.length / 3 : Nat) : Int) - 1 := fun x hx => by
  have := m_ok k n w h
  unfold ciB at this
  simp only [Bool.and_eq_true] at this
  have h2 := (allB_iff _ _ _).1 this.2 x hx
  unfold mrNI
  omega
/-- The inputs of a run. -/
def mrV (n w : Nat) (l : List Int) (i : Int) (mo : List Int) : List Int := cbL l w n ++ (btL i (wid n) ++ mo)
theorem mrV_bits (n w : Nat) (l : List Int) (i : Int) (mo : List Int) (hm : Bt mo) : Bt (mrV n w l i mo) := (cbL_bits _ _ _).app ((btL_bits _ _).app hm)
def mrO (k n w : Nat) (l : List Int) (i : Int) (mo : List Int) : List Int := pkL (evL (meG k n w).1 (mrV n w l i mo) ((meG k n w).1.length / 3)) (meG k n w).2 (meN k n * w)
theorem mrO_bits (k n w : Nat) (l : List Int) (i : Int) (mo : List Int) (hm : Bt mo) : Bt (mrO k n w l i mo) := pkL_bits (evL_bits _ (mrV_bits _ _ _ _ _ hm) _) _ _
/-- The numbers that a run returns. -/
def mrR (k n w : Nat) (l : List Int) (i : Int) (mo : List Int) : List Int := cnL (mrO k n w l i mo) w (meN k n)
theorem mrR_len (k n w : Nat) (l : List Int) (i : Int) (mo : List Int) : (mrR k n w l i mo).length = meN k n := cnL_len _ _ _
end Go.Proofs.Ytkbhigdciokfkaa
namespace Go.Proofs.Ytkbhigdciokfkaa
open Go.RowKit
def tcR (wd : Int) (l : List Int) (i : Int) : List Int := if celB wd l i then mrR 3 l.length wd.toNat l i [] else []
theorem p2_le {k : Nat} (h : k ≤ 4) : (2 : Int) ^ k ≤ 16 ∧ (1 : Int) ≤ 2 ^ k := by
  rcases (by omega : k = 0 ∨ k = 1 ∨ k = 2 ∨ k = 3 ∨ k = 4) with rfl | rfl | rfl | rfl | rfl <;> decide
theorem celT_true {wd : Nat} {l : List Int} {i : Int} (hw : wd ≤ 4) (hl : l.length ≤ 8) (h : celT wd l i = true) : (∀ x ∈ l, 0 ≤ x ∧ x ≤ 1000000000) ∧ (0 ≤ i ∧ i ≤ 1000000000) := by
  unfold celT at h
  rw [Bool.and_eq_true] at h
  have h1 := (allB_iff _ _ _).1 h.1
  have h2 := of_decide_eq_true h.2
  have := p2_le hw
  have := p2_le (k := wid (l.length : Int)) (by have := wid8 l.length hl; omega)
  rw [Int.toNat_natCast] at h1
  exact ⟨fun x hx => by have := h1 x hx; omega, by omega⟩
end Go.Proofs.Ytkbhigdciokfkaa
namespace Go.Proofs.Ytkbhigdciokfkaa
open Go.RowKit Go.Shelf
attribute [local go_sem] Oper.semAt_some
/-- A part of a row of bits that lies in w0. -/
def Prt (w0 : World) : Type := { x : (Option Addr × Nat × Nat) × List Int // Ints w0 x.1.1 x.1.2.1 x.1.2.2 x.2 ∧ Bt x.2 ∧ x.1.2.1 ≤ 4 }
def Prt.enc {w0 : World} (x : Prt w0) : Array Value := #[.slice x.1.1.1 x.1.1.2.1 x.1.1.2.2]
theorem prt_ok {w0 : World} {a : Option Addr} {n c : Nat} {l : List Int} (h : Ints w0 a n c l) (hb : Bt l) {wd K : Nat} (hw : 1 ≤ wd ∧ wd ≤ 4) (hK : K + wd ≤ n) : Ints w0 (a.map (·.add K)) wd wd ((l.drop K).take wd) ∧ Bt ((l.drop K).take wd) ∧ wd ≤ 4 := by
  have h2 := h.cut K (K + wd) (K + wd) (by omega) hK (Nat.le_refl _) (Nat.le_trans hK h.2.1)
  rw [if_neg (by omega), Nat.add_sub_cancel_left] at h2
  exact ⟨h2, (hb.drop K).take wd, hw.2⟩
def prt {w0 : World} {a : Option Addr} {n c : Nat} {l : List Int} (h : Ints w0 a n c l) (hb : Bt l) {wd : Nat} (hw : 1 ≤ wd ∧ wd ≤ 4) (K : Nat) (hK : K + wd ≤ n) : Prt w0 := ⟨((a.map (·.add K), wd, wd), (l.drop K).take wd), prt_ok h hb hw hK⟩
set_option maxRecDepth 100000 in
set_option maxHeartbeats 2000000 in
theorem chunk1_in (F : Fence) (n : Nat) (h7 : F.fn 147) (hro : F.round = none) (hn : 1 ≤ n) (l Bs Bw : Nat) (w0 : World) (a : Option Addr) (m len cap wd : Nat) (zs : List Int) (hI : Ints w0 a len cap zs) (hb : Bt zs) (hw : 1 ≤ wd ∧ wd ≤ 4) (hlen : len = m * wd) (hm : m ≤ 100) (Kp : World → World → Prop) (hKp : ∀ A B, Kp A B → B.cell? ⟨Bs, 0, none⟩ = A.cell? ⟨Bs, 0, none⟩ ∧ B.cell? ⟨Bw, 0, none⟩ = A.cell? ⟨Bw, 0, none⟩) (J Jx : List (Prt w0) → World → Prop)
    (hY : ∀ pre x W, J pre W → pre.length < m → YieldAt F (n - 1) Try.prog l (Prt.enc x) W fun e W' =>
      (e = .returned (.bool true) ∧ J (pre ++ [x]) W' ∧ Kp W W') ∨ (e = .returned (.bool false) ∧ Jx (pre ++ [x]) W'))
    (hJd : ∀ ys W, J ys W → J ys W.drew) (W : World) (hBs : W.cell? ⟨Bs, 0, none⟩ = some (.slice a len cap)) (hBw : W.cell? ⟨Bw, 0, none⟩ = some (.int .i64 (wd : Int))) (h0 : J [] W) :
    CallsIn F n Try.prog 147 #[.func (.yield l) #[] #[], .pointer (some ⟨Bs, 0, none⟩), .pointer (some ⟨Bw, 0, none⟩)] W fun e W' => (∃ v, e = .returned v) ∧
      ((∃ ys : List (Prt w0), ys.map (fun x => x.1.2) = (List.range m).map (fun k => (zs.drop (k * wd)).take wd) ∧ J ys W') ∨ (∃ pre, Jx pre W')) := by
  refine callsIn_of_wp Try.func147 rfl h7 ?_ hro
  simp only [Try.ntmps147, List.size_toArray, List.length_cons, List.length_nil, Nat.reduceAdd, Nat.reduceSub, Array.replicate_succ, Array.replicate_zero, List.push_toArray, List.append_toArray, List.nil_append, List.cons_append]
  have HLEN := Lib.hid hlen
  clear hlen
  gi_wp2
  gi_loopw [4] (fun i wr => ∃ (k : Nat) (ys : List (Prt w0)), k ≤ m ∧ i = .int .i64 ((k * wd : Nat) : Int) ∧ ys.length = k ∧ ys.map (fun x => x.1.2) = (List.range k).map (fun k => (zs.drop (k * wd)).take wd) ∧ J ys wr ∧ wr.cell? ⟨Bs, 0, none⟩ = some (.slice a len cap) ∧ wr.cell? ⟨Bw, 0, none⟩ = some (.int .i64 (wd : Int)))
    (fun i _ => len - (intOf i).toNat)
  case atStart => exact ⟨0, [], Nat.zero_le _, by simp, rfl, rfl, h0, hBs, hBw⟩
  case round =>
    obtain ⟨k, ys, hk, rfl, hyl, hys, hJs, hc1, hc2⟩ := hrel
    by_cases hlt : k < m
    · have hKl : k * wd + wd ≤ len := by rw [HLEN.out, ← Nat.succ_mul]; exact Nat.mul_le_mul_right _ hlt
      have hK1 := Lib.hid (show (k + 1) * wd = k * wd + wd from Nat.succ_mul _ _)
      have hK2 : k * wd ≤ 400 := Nat.le_trans (Nat.mul_le_mul (show k ≤ 100 by omega) hw.2) (by decide)
      obtain ⟨K, hK⟩ : ∃ K, K = k * wd := ⟨_, rfl⟩
      obtain ⟨fn, tmps, assign, body, hy, hR⟩ := hY _ (prt (w0 := w0) hI hb hw (k * wd) hKl) wr.drew (hJd _ _ hJs) (by rw [hyl]; exact hlt)
      unfold Prt.enc prt at hy
      dsimp only at hy
      rw [← hK] at hK1 hK2 hKl hy ⊢
      have hKK := Lib.hid hK
      clear hK
      have f1 : (K : Int) < (len : Int) := by omega
      have f2 : (K : Int) ≤ (len : Int) := by omega
      have f3 : (0 : Int) ≤ (K : Int) := by omega
      have f4 : (K : Int) + (wd : Int) ≤ (cap : Int) := by have := hI.2.1; omega
      have f5 : IntKind.i64.wrap ((K : Int) + (wd : Int)) = (K : Int) + (wd : Int) := IntWalk.i64_in _ (by omega)
      have f6 : wd ≤ len - K := by omega
      have f7 : (wd : Int) ≤ ((len - K : Nat) : Int) := by omega
      have f8 : K ≤ len := by omega
      have f9 : wd ≤ cap := by have := hI.2.1; omega
      have f10 : ¬ cap = K := by have := hI.2.1; omega
      have f11 : ¬ len - K < wd := by omega
      have f12 : K + wd ≤ cap := by have := hI.2.1; omega
      clear hY
      gi_wp2
      gi_region
      all_goals
        gi_wp2
        refine hR.mono ?_
        rintro e W3 (⟨rfl, hJ3, hk3⟩ | ⟨rfl, hJx3⟩)
        · have hc3 : W3.cell? ⟨Bw, 0, none⟩ = some (.int .i64 (wd : Int)) := (hKp _ _ hk3).2.trans hc2
          have hc4 : W3.cell? ⟨Bs, 0, none⟩ = some (.slice a len cap) := (hKp _ _ hk3).1.trans hc1
          gi_wp2
          go_roundw
          · exact ⟨k + 1, _, by omega, by rw [hK1.out]; simp, by rw [List.length_append, hyl]; rfl, by rw [List.map_append, hys, List.range_succ, List.map_append]; rfl, hJ3, hc4, hc3⟩
          · simp [intOf]; omega
        · gi_wp2
          refine bodyPost_ret (results_none rfl _ _ _) rfl ?_
          exact ⟨⟨_, rfl⟩, .inr ⟨_, hJx3⟩⟩
    · obtain rfl : k = m := by omega
      rw [← HLEN.out]
      have hge : ¬ (len : Int) < (len : Int) := by omega
      gi_wp2
      go_end0
      exact ⟨⟨_, rfl⟩, .inl ⟨_, hys, hJs⟩⟩
end Go.Proofs.Ytkbhigdciokfkaa
namespace Go.Proofs.Ytkbhigdciokfkaa
open Go.RowKit Go.Shelf
set_option maxHeartbeats 2000000 in
theorem chunk_any (a : Option Addr) (n c wd : Nat) (w : World) (hw : 1 ≤ wd ∧ wd ≤ 4) :
    Calls Try.prog 123 #[.slice a n c, .int .i64 wd] w fun e w' => e = .returned (.func (.func 147) #[] #[.pointer (some ⟨w.heap.size, 0, none⟩), .pointer (some ⟨w.heap.size + 1, 0, none⟩)]) ∧
      w' = (w.alloc (.cells #[.slice a n c] 23)).alloc (.cells #[.int .i64 (wd : Int)] 3) := by
  have hge : ¬ (wd : Int) < 1 := by omega
  have hge2 : decide ((wd : Int) < 1) = false := decide_eq_false hge
  go_enter Try.func123, Try.ntmps123
  go_wp2
  go_ret
  exact ⟨rfl, rfl⟩
theorem chunk_stops (F : Fence) (n : Nat) (h7 : F.fn 147) (hro : F.round = none) (hn : 1 ≤ n) (Bs Bw : Nat) (wp w0 : World) (a : Option Addr) (m len cap wd : Nat) (zs : List Int) (hI : Ints wp a len cap zs) (hb : Bt zs) (hw : 1 ≤ wd ∧ wd ≤ 4) (hlen : len = m * wd) (hm : m ≤ 100)
    (Kp : World → World → Prop) (hKp : ∀ A B, Kp A B → B.cell? ⟨Bs, 0, none⟩ = A.cell? ⟨Bs, 0, none⟩ ∧ B.cell? ⟨Bw, 0, none⟩ = A.cell? ⟨Bw, 0, none⟩) (hBl : Bs < w0.heap.size ∧ Bw < w0.heap.size) (hBs : w0.cell? ⟨Bs, 0, none⟩ = some (.slice a len cap)) (hBw : w0.cell? ⟨Bw, 0, none⟩ = some (.int .i64 (wd : Int))) :
    SeqStopsK F n Try.prog 147 #[.pointer (some ⟨Bs, 0, none⟩), .pointer (some ⟨Bw, 0, none⟩)] (Prt.enc (w0 := wp)) Kp
      (fun ys => ys.map (fun x => x.1.2) = (List.range m).map (fun k => (zs.drop (k * wd)).take wd)) (fun _ => True) m w0 := fun l J Jx W hW hJ _ hY h0 => by
  refine (chunk1_in F n h7 hro hn l Bs Bw wp a m len cap wd zs hI hb hw hlen hm Kp hKp J Jx hY (fun ys W1 hJs => hJ ys W1 W1.drew none hJs ⟨rfl, rfl, rfl, Nat.le_refl _, fun _ _ _ => rfl⟩ (fun r e => by cases e)) W ((hW.cell (p := ⟨Bs, 0, none⟩) hBl.1).trans hBs) ((hW.cell (p := ⟨Bw, 0, none⟩) hBl.2).trans hBw) h0).mono ?_
  rintro e W' ⟨he, ⟨ys, hy, hj⟩ | ⟨pre, hj⟩⟩
  · exact ⟨he, .inl ⟨ys, hy, hj⟩⟩
  · exact ⟨he, .inr ⟨pre, trivial, hj⟩⟩
end Go.Proofs.Ytkbhigdciokfkaa
namespace Go.Proofs.Ytkbhigdciokfkaa
open Go.RowKit
set_option maxHeartbeats 4000000 in
theorem ciJoin_any (a : Option Addr) (n c : Nat) (l : List Int) (a' : Option Addr) (n' c' : Nat) (l' : List Int) (w : World) (h : Ints w a n c l) (h' : Ints w a' n' c' l') (hn : n ≤ 100000) (hn' : n' ≤ 100000) :
    Calls Try.prog 115 #[.slice a n c, .slice a' n' c'] w fun e w' => ∃ a1 c1, e = .returned (.slice a1 (n + n') c1) ∧ Own w' w.heap.size a1 (n + n') c1 (l ++ l') ∧ Below w.heap.size w w' := by
  go_enter Try.func115, Try.ntmps115
  go_wp2_with fail
  refine (l1Own_any a n c l w h (by omega)).mono ?_; rintro e w1 ⟨a1, c1, rfl, o1, u1⟩
  go_wp2_with (at_builtin; refine wpList_appI _ rfl _ _ rfl w.heap.size a1 n c1 l rfl o1 _ n' c' l' rfl (h'.below u1) (by omega) u1.size ?_)
  intro a5 c5 w3 o5 u5 _
  have b3 := u1.trans u5
  clear u1 u5 o1
  go_wp2
  go_ret
  exact ⟨_, _, rfl, o5, b3⟩
set_option maxHeartbeats 8000000 in
set_option maxRecDepth 100000 in
theorem ciOuts_any (i0 i1 : Int) (ga : Option Addr) (gn gc : Nat) (oa : Option Addr) (on oc : Nat) (a : Option Addr) (n c : Nat) (G V O : List Int) (w : World) (hg : Flat 3 w ga gn gc G) (hv : Ints w a n c V) (hO : Ints w oa on oc O) (hk : ∀ j, j < gn → gbB (G.getD (j * 3) 0) (G.getD (j * 3 + 1) 0) (G.getD (j * 3 + 2) 0) ((n + j : Nat) : Int) = true) (hV : Bt V) (hn : n ≤ 100) (hgn : gn ≤ 1000) (hon : on ≤ 1000) (hr : ∀ x ∈ O, 0 ≤ x ∧ x ≤ ((n + gn : Nat) : Int) - 1) :
    Calls Try.prog 119 #[.agg #[.int .i64 i0, .int .i64 i1, .slice ga gn gc, .slice oa on oc], .slice a n c] w fun e w' => ∃ a1 c1, e = .returned (.slice a1 on c1) ∧ Own w' w.heap.size a1 on c1 (pkL (evL G V gn) O on) ∧ Below w.heap.size w w' := by
  have HK := Lib.hid hk
  have HR := Lib.hid hr
  clear hk hr
  have V0 : Below w.heap.size w (w.alloc (.cells #[.int .i64 i0, .int .i64 i1, .slice ga gn gc, .slice oa on oc] 25)) := (Below.refl _ _).alloc (Nat.le_refl _) _
  have R0 : Blk (w.alloc (.cells #[.int .i64 i0, .int .i64 i1, .slice ga gn gc, .slice oa on oc] 25)) w.heap.size 25 #[.int .i64 i0, .int .i64 i1, .slice ga gn gc, .slice oa on oc] := Blk.new w _ _
  have hv0 := hv.below V0
  have hg0 := hg.below V0
  have hO0 := hO.below V0
  go_enter Try.func119, Try.ntmps119
  go_wp2_with fail
  generalize (w.alloc (.cells #[.int .i64 i0, .int .i64 i1, .slice ga gn gc, .slice oa on oc] 25)) = w0 at *
  have x0 : w0.cell? ⟨w.heap.size, 0, none⟩ = some (.int .i64 i0) := R0.cell 0
  have x1 : w0.cell? ⟨w.heap.size, 1, none⟩ = some (.int .i64 i1) := R0.cell 1
  have x2 : w0.cell? ⟨w.heap.size, 2, none⟩ = some (.slice ga gn gc) := R0.cell 2
  have x3 : w0.cell? ⟨w.heap.size, 3, none⟩ = some (.slice oa on oc) := R0.cell 3
  clear R0
  go_region_held3 (fun W => W.cell? ⟨w.heap.size, 0, none⟩ = some (.int .i64 i0) ∧ W.cell? ⟨w.heap.size, 1, none⟩ = some (.int .i64 i1) ∧ W.cell? ⟨w.heap.size, 2, none⟩ = some (.slice ga gn gc) ∧ W.cell? ⟨w.heap.size, 3, none⟩ = some (.slice oa on oc))
    (first | exact ⟨keepC u5 (keepC u4 x0), keepC u5 (keepC u4 x1), keepC u5 (keepC u4 x2), keepC u5 (keepC u4 x3)⟩ | exact ⟨keepC u4 x0, keepC u4 x1, keepC u4 x2, keepC u4 x3⟩ | go_keep)
    (first | (go_at_call 144; refine (ciValues_any i0 i1 ga gn gc oa on oc a n c G V _ hg0.drew hv0.drew HK.out hV hn hgn).mono ?_; rintro e w4 ⟨a4, c4, rfl, o4, u4⟩) | (go_at_call 68; have _ := u4; refine (pk_ciPick a4 (n + gn) c4 _ oa on oc O _ o4.ints (hO0.drew.below u4) (by omega) (by omega) HR.out).mono ?_; rintro e w5 ⟨a5, c5, rfl, o5, u5⟩))
  have V5 : Below w.heap.size w w5 := V0.trans ((Below.refl _ _).drew.trans ((u4.mono V0.size).trans (u5.mono (Nat.le_trans V0.size u4.size))))
  have o6 := o5.lower (b' := w.heap.size) (Nat.le_trans V0.size u4.size)
  clear o4 u4 u5 o5
  go_wp2
  go_ret
  exact ⟨_, _, rfl, o6, V5⟩
end Go.Proofs.Ytkbhigdciokfkaa
