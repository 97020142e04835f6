/- Further lemmas and walks that the claim's proof rests on, part 1. -/
import Derived.Test.YtmbheimjphhamaaRows
import Derived.WalkKit
import Derived.WalkSpells
import Derived.WalkLawsBesides
import Derived.Handy
import Derived.Lib.Hide
import Derived.Deep.QuietTactic
import Derived.BigQuiet
import Derived.Deep.RegionWith
import Derived.StillTailTactics
import Derived.Deep.RegionHeld3
import Derived.ArgAppend
import Derived.OrdersHeld
import Derived.RangeFuncNested
import Derived.RangeFuncBound
import Derived.RangeFuncCalls
import Derived.RangeFuncLeaves
import Derived.Shelf.Abstract
import Derived.Shelf.RegionOpen
import Derived.OwnWalkIn
import Derived.TacticsInMore
import Derived.LoopNIn
import Derived.LoopIn
import Derived.Test.YtmbheimjphhamaaK1
import Derived.Test.YtmbheimjphhamaaK2
import Derived.Test.YtmbheimjphhamaaK3
import Derived.Test.YtmbheimjphhamaaK4
import Derived.Test.YtmbheimjphhamaaK5
import Derived.Test.YtmbheimjphhamaaK6
import Derived.Test.YtmbheimjphhamaaK7
import Derived.Test.YtmbheimjphhamaaK8
import Derived.Test.YtmbheimjphhamaaK9
namespace Go.Proofs.Ytmbheimjphhamaa
open Go.RowKit
theorem results_tmp4 {fn : Func} {t u v x : Tmp} (h : fn.results = #[.tmp t, .tmp u, .tmp v, .tmp x]) (tmps : Array Value) (P : Program) (w : World) :
    (results fn tmps).run P w = .ok (.tuple #[tmps.getD t undef, tmps.getD u undef, tmps.getD v undef, tmps.getD x undef]) w := by simp [results, h]
end Go.Proofs.Ytmbheimjphhamaa
namespace Go.Proofs.Ytmbheimjphhamaa
open Go.RowKit
theorem list_ext_getD (l l' : List Int) (h : l.length = l'.length) (hh : ∀ i, i < l.length → l.getD i 0 = l'.getD i 0) : l = l' := by
  apply List.ext_getElem h
  intro i h1 h2
  have := hh i h1
  simpa [List.getD, h1, h2] using this
/-- The same inside a region that draws its order. -/
theorem step_appI (w : World) {ops : Array Oper} {o : Oper} {act : Act} {K : Act → World → Prop} {Q : Exit → Act → World → Prop} {E : Prop} (hgd : o.guard = none) (s x : Operand)
    (ho : o.op = .call { callee := .builtin .append, args := #[s, x], argTypes := #[26, 26] })
    (b : Nat) (a : Option Addr) (n c : Nat) (l : List Int) (hs : act.eval s = .slice a n c) (hown : Own w b a n c l)
    (a' : Option Addr) (m c' : Nat) (l' : List Int) (hx : act.eval x = .slice a' m c') (hrow : Ints w a' m c' l')
    (hlen : n + m ≤ 1000000000000) (hbase : b ≤ w.heap.size)
    (h : ∀ a2 c2 w', Own w' b a2 (n + m) c2 (l ++ l') → Below b w w' → w.grownBy w' (rowOf a c) → Ints w' a n c l → K (act.put o.dst (.slice a2 (n + m) c2)) w') :
    if Region.wanted o (yielded ops act.tmps) = true then Oper.wp Try.prog o act w K Q else E := by
  rw [if_pos (by simp [Region.wanted, hgd])]
  exact wp_appI w s x ho b a n c l hs hown a' m c' l' hx hrow hlen hbase h
end Go.Proofs.Ytmbheimjphhamaa
namespace Go.Proofs.Ytmbheimjphhamaa
open Go.RowKit
set_option maxHeartbeats 400000 in
theorem IndexFunc_any (a : Option Addr) (n c : Nat) (l : List Int) (f : Nat) (cap : Array Value) (q : Int → Bool) (w : World) (h : Ints w a n c l)
    (hf : ∀ args W, (callFunc f args).run Try.prog W = .ok (.enter f args) W)
    (hq : ∀ W x, Below w.heap.size w W → x ∈ l → Calls Try.prog f (#[.int .i64 x] ++ cap) W fun e w' => e = .returned (.bool (q x)) ∧ ∃ m, w' = W.drewN m) :
    Calls Try.prog 116 #[.slice a n c, .func (.func f) #[] cap] w fun e w' => ∃ i : Int, e = .returned (.int .i64 i) ∧ Hid (decide (0 ≤ i) = l.any q) ∧ ∃ m, w' = w.drewN m := by
  have hn := h.le
  have HQ := Lib.hid hq
  clear hq
  go_enter Try.func116, Try.ntmps116
  go_wp2
  go_loopw [8] (fun v wr => ∃ k : Nat, k ≤ n ∧ v = .int .i64 k ∧ (∀ i, i < k → q (l.getD i 0) = false) ∧ ∃ m, wr = w.drewN m) (fun v _ => n - (intOf v).toNat)
  case atStart => exact ⟨0, Nat.zero_le _, rfl, fun i hi => absurd hi (by omega), 0, rfl⟩
  case round =>
    obtain ⟨k, hk, rfl, hj, m, rfl⟩ := hrel
    have HJ := Lib.hid hj
    clear hj
    by_cases hlt : k < n
    · obtain ⟨g, o, rfl, hcell⟩ := h.at k hlt
      have HC := Lib.hid (HQ.out (w.drewN m) (l.getD k 0) (below_of_drewN m) (getD_mem l k (by rw [← h.len]; exact hlt)))
      cases hb : q (l.getD k 0)
      · rw [hb] at HC
        have HB := Lib.hid hb
        clear hb
        go_wp2_with (refine HC.out.mono ?_; rintro e w' ⟨rfl, m', rfl⟩)
        go_roundw
        case rel => exact ⟨k + 1, by omega, by go_num, fun i hi => by
          by_cases e : i = k
          · subst e; exact HB.out
          · exact HJ.out i (by omega), _, rfl⟩
        case measure => simp [intOf]; omega
      · rw [hb] at HC
        have HB := Lib.hid (any_hit l q k (by rw [← h.len]; exact hlt) hb)
        clear hb
        go_wp2_with (refine HC.out.mono ?_; rintro e w' ⟨rfl, m', rfl⟩)
        go_ret
        exact ⟨k, rfl, by unfold Hid; rw [HB.out]; simp, _, rfl⟩
    · have HB := Lib.hid (any_miss l q (fun i hi => HJ.out i (by have := h.len; omega)))
      go_wp2
      go_ret
      exact ⟨-1, rfl, by unfold Hid; rw [HB.out]; decide, _, rfl⟩
set_option maxHeartbeats 400000 in
theorem ContainsFunc_any (a : Option Addr) (n c : Nat) (l : List Int) (f : Nat) (cap : Array Value) (q : Int → Bool) (w : World) (h : Ints w a n c l)
    (hf : ∀ args W, (callFunc f args).run Try.prog W = .ok (.enter f args) W)
    (hq : ∀ W x, Below w.heap.size w W → x ∈ l → Calls Try.prog f (#[.int .i64 x] ++ cap) W fun e w' => e = .returned (.bool (q x)) ∧ ∃ m, w' = W.drewN m) :
    Calls Try.prog 105 #[.slice a n c, .func (.func f) #[] cap] w fun e w' => e = .returned (.bool (l.any q)) ∧ ∃ m, w' = w.drewN m := by
  have HF := Lib.hid hf
  have HQ := Lib.hid hq
  clear hf hq
  go_enter Try.func105, Try.ntmps105
  go_wp2_with (go_at_call 116; refine (IndexFunc_any _ _ _ l _ _ q _ h HF.out HQ.out).mono ?_; rintro e w' ⟨i, rfl, hi, m, rfl⟩)
  go_ret
  exact ⟨ret_bool (by assumption), _, rfl⟩
end Go.Proofs.Ytmbheimjphhamaa
namespace Go.Proofs.Ytmbheimjphhamaa
open Go.RowKit
theorem keepA {w : World} {p : Addr} {v : Value} (ob : Obj) (h : w.cell? p = some v) : (w.alloc ob).cell? p = some v := keepC ((Below.refl _ _).alloc (Nat.le_refl _) ob) h
end Go.Proofs.Ytmbheimjphhamaa
namespace Go.Proofs.Ytmbheimjphhamaa
open Go.RowKit
theorem Only.left {F G w w'} (h : Only F w w') : Only (F ++ G) w w' := h.more fun _ hk => List.mem_append_left _ hk
theorem Only.right {F G w w'} (h : Only G w w') : Only (F ++ G) w w' := h.more fun _ hk => List.mem_append_right _ hk
end Go.Proofs.Ytmbheimjphhamaa
namespace Go.Proofs.Ytmbheimjphhamaa
open Go.RowKit
def OneP (w : World) (g k : Nat) (e : Ending) (w' : World) : Prop := ∃ (b : Bool) (k' : Nat), e = .returned (.bool b) ∧ k' ≤ k + 2 ∧ Cur w' g k' ∧ Only [g] w w'
theorem one_any (g k : Nat) (n : Int) (w : World) (h : Cur w g k) (hk : k ≤ 900000000000000) :
    Calls Try.prog 58 #[.pointer (some ⟨g, 0, none⟩), .int .i64 n] w (OneP w g k) := by
  go_enter Try.func58, Try.ntmps58
  go_wp2_with fail
  refine (pick_any g k n _ h hk).mono ?_; rintro e w1 ⟨x, k', rfl, _, _, _, k1, c1, o1⟩
  go_wp2
  go_ret
  exact ⟨_, k', rfl, k1, c1, o1⟩
end Go.Proofs.Ytmbheimjphhamaa
namespace Go.Proofs.Ytmbheimjphhamaa
open Go.RowKit
theorem Only.thn {F G : List Nat} {w w1 w2 : World} (h : Only F w w1) (k : Only G w1 w2) (hG : ∀ q ∈ G, w.heap.size ≤ q ∨ q ∈ F) : Only F w w2 :=
  ⟨k.os.trans h.os, k.tape.trans h.tape, k.output.trans h.output, Nat.le_trans h.size k.size, fun i hi hn => (k.block i (Nat.lt_of_lt_of_le hi h.size) (fun hm => by
    rcases hG i hm with h1 | h1
    · omega
    · exact hn h1)).trans (h.block i hi hn)⟩
theorem l1Most_any (a b : Int) (w : World) :
    Calls Try.prog 88 #[.int .i64 a, .int .i64 b] w fun e w' => e = .returned (.int .i64 (max a b)) ∧ ∃ m, w' = w.drewN m := by
  by_cases h : a > b
  all_goals
    go_enter Try.func88, Try.ntmps88
    go_wp2
    go_ret
    exact ⟨ret_int (by omega), 0, rfl⟩
end Go.Proofs.Ytmbheimjphhamaa
namespace Go.Proofs.Ytmbheimjphhamaa
open Go.RowKit
def CelP (w : World) (g k : Nat) (e : Ending) (w' : World) : Prop := ∃ (x : Int) (a : Option Addr) (m c : Nat) (l : List Int) (y : Int) (k' : Nat), e = .returned (.tuple #[.int .i64 x, .slice a m c, .int .i64 y]) ∧ Own w' w.heap.size a m c l ∧ (0 ≤ x ∧ x ≤ 5) ∧ k' ≤ k + 60 ∧ Cur w' g k' ∧ Only [g] w w'
theorem p2_le5 {k : Nat} (h : k ≤ 5) : (2 : Int) ^ k ≤ 32 ∧ (1 : Int) ≤ 2 ^ k := by
  rcases (by omega : k = 0 ∨ k = 1 ∨ k = 2 ∨ k = 3 ∨ k = 4 ∨ k = 5) with rfl | rfl | rfl | rfl | rfl | rfl <;> decide
set_option maxHeartbeats 8000000 in
theorem cells_any (g k : Nat) (w : World) (h : Cur w g k) (hk : k ≤ 700000000000000) :
    Calls Try.prog 57 #[.pointer (some ⟨g, 0, none⟩)] w (CelP w g k) := by
  have hg := h.lt
  go_enter Try.func57, Try.ntmps57
  go_wp2_with fail
  refine (sizes_any g k _ h (by omega)).mono ?_; rintro e w1 ⟨n, wd, k1, rfl, ⟨n0, n1⟩, ⟨d0, d1⟩, hk1, hc1, ho1⟩
  obtain ⟨n, rfl⟩ : ∃ x : Nat, n = x := ⟨n.toNat, by omega⟩
  obtain ⟨wd, rfl⟩ : ∃ x : Nat, wd = x := ⟨wd.toNat, by omega⟩
  have hwd5 : wd ≤ 5 := by omega
  have hs64 : (wd : Int) < 64 := by omega
  have hu : IntKind.u64.wrap (wd : Int) = (wd : Int) := IntWalk.u64_in _ (by omega)
  have hq2 : wrap64 ((2 : Int) ^ wd) = 2 ^ wd := by obtain ⟨h1, h2⟩ := p2_le5 hwd5; generalize (2 : Int) ^ wd = P at *; exact IntWalk.wrap64_in _ (by omega)
  have hq3 : wrap64 (1 * 2 ^ wd) = 2 ^ wd := by rw [Int.one_mul]; exact hq2
  have hq5 : (1 : Int) * 2 ^ wd = 2 ^ wd := Int.one_mul _
  go_wp2
  go_loopw [8, 7] (fun v u wr => ∃ i : Nat, i ≤ n ∧ v = .int .i64 i ∧ Only [g] w wr ∧ ∃ (a : Option Addr) (c : Nat) (l : List Int) (k' : Nat), u = .slice a i c ∧ Own wr w.heap.size a i c l ∧ k' ≤ k1 + 2 * i ∧ Cur wr g k') (fun v _ _ => n - (intOf v).toNat)
  case atStart => exact ⟨0, Nat.zero_le _, rfl, ho1, none, 0, [], k1, rfl, Own.nil0 _ _ _, by omega, hc1⟩
  case round =>
    obtain ⟨i, hi, rfl, hO, a, c, l, k', rfl, own, hk', hc⟩ := hrel
    clear hc1 ho1
    by_cases hlt : i < n
    · go_wp2_with fail
      refine (pick_any g k' _ _ hc (by omega)).mono ?_; rintro e w2 ⟨x, k2, rfl, x0, x1, x2, kk, c2, o2⟩
      have own2 := own.cur o2 hg
      have hO2 := hO.trans o2
      have hsz := hO2.size
      clear own hO hc o2 x1
      go_wp2_with (at_builtin; refine wpList_appI _ rfl _ _ rfl w.heap.size a i c l rfl (own2.alloc _) _ 1 1 [x] rfl (Ints.lit1 _ _ _) (by omega) (by simp; omega) ?_)
      intro a5 c5 w3 o5 u5 g5
      have f5 : ∀ q ∈ foot a c, w.heap.size ≤ q ∨ q ∈ [g] := fun q hq => Or.inl (own2.feet q hq).1
      have hO3 := (hO2.alloc (.cells #[.int .i64 x] 3)).thn (Only.of_grown g5) f5
      have c3 := (c2.alloc (.cells #[.int .i64 x] 3)).only (Only.of_grown g5) (fun q hq => by have := (own2.feet q hq).1; omega)
      clear u5 g5 f5 own2 hO2 c2
      go_wp2
      go_roundw
      case rel => exact ⟨i + 1, by omega, by go_num, hO3, a5, c5, _, k2, rfl, o5, by omega, c3⟩
      case measure => simp [intOf]; omega
    · obtain rfl : i = n := by omega
      clear hs64 hu hq2 hq3 hq5
      have hsz := hO.size
      go_upto_region 7 with fail
      go_cut [33] (fun q wx => ∃ (b : Bool) (k2 : Nat), q = .bool b ∧ (b = true → 0 < i) ∧ Only [g] w wx ∧ Own wx w.heap.size a i c l ∧ k2 ≤ k' + 2 ∧ Cur wx g k2)
      case first =>
        by_cases h0 : i = 0
        · subst h0
          go_wp2_with fail
          go_meet
          exact ⟨false, _, rfl, (fun h => by cases h), hO, own, by omega, hc⟩
        · have hpos : (i : Int) > 0 := by omega
          have hposn : 0 < i := by omega
          go_wp2_with fail
          refine (one_any g k' _ _ hc (by omega)).mono ?_; rintro e w2 ⟨b, k2, rfl, kk, c2, o2⟩
          have own2 := own.cur o2 hg
          have hO2 := hO.trans o2
          clear own hO hc o2
          go_wp2_with fail
          go_meet
          exact ⟨b, _, rfl, fun _ => hposn, hO2, own2, by omega, c2⟩
      case rest =>
      rename World => w2
      obtain ⟨b, k2, rfl, hbp, hO2, own2, kk, c2⟩ := hcut
      have HBP := Lib.hid hbp
      clear hO own hc hsz hbp
      have hsz := hO2.size
      go_upto_if 33 with fail
      go_cut [7] (fun u wx => Only [g] w wx ∧ ∃ (a : Option Addr) (c : Nat) (l : List Int) (k' : Nat), u = .slice a i c ∧ Own wx w.heap.size a i c l ∧ k' ≤ k1 + 2 * i + 4 ∧ Cur wx g k')
      case first =>
        cases b
        · go_wp2_with fail
          go_meet
          exact ⟨hO2, _, _, _, _, rfl, own2, by omega, c2⟩
        · have hposn := HBP.out rfl
          go_wp2_with fail
          refine (among_r g k2 [-1, 16] (-1) 16 _ c2 (by omega) (by decide) (by decide) (by decide)).mono ?_; rintro e w3 ⟨x, k3, rfl, x0, x1, kk3, c3, o3⟩
          have own3 := own2.cur o3 hg
          have hO3 := hO2.trans o3
          clear own2 hO2 c2 o3
          obtain ⟨g', rfl, hb', hg', hc', hf', hst⟩ := own3.at 0 (by omega)
          have o4 := hst x
          have Z : Only [g'] w3 (w3.setCell ⟨g', 0, none⟩ (.int .i64 x)) := (Only.refl _ _).setCell ⟨g', 0, none⟩ _ (by simp)
          have hO4 := hO3.thn Z (fun q hq => Or.inl (by simp at hq; omega))
          have c4 := c3.only Z (fun q hq => by simp at hq; omega)
          have HZ := Lib.hid (And.intro hO4 (And.intro o4 c4))
          clear hst o4 hO4 c4 Z
          go_wp2_with fail
          go_meet
          exact ⟨HZ.out.1, _, _, _, _, rfl, HZ.out.2.1, by omega, HZ.out.2.2⟩
      case rest =>
        rename World => w4
        obtain ⟨hO4, a4, c4, l4, k4, rfl, own4, hk4, hc4⟩ := hcut
        clear hO2 own2 c2 hsz
        go_wp2_with fail
        refine (l1Most_any _ _ _).mono ?_; rintro e w4' ⟨rfl, mq, rfl⟩
        replace hO4 := hO4.drewN mq
        replace own4 := own4.drewN mq
        replace hc4 := hc4.drewN mq
        generalize w4.drewN mq = w4 at *
        have hm : 0 ≤ max (i : Int) 1 ∧ max (i : Int) 1 ≤ 9 := by omega
        generalize max (i : Int) 1 = mx at *
        go_wp2_with fail
        refine (pick_any g k4 _ _ hc4 (by omega)).mono ?_; rintro e w5 ⟨x, k5, rfl, x0, x1, x2, kk5, c5, o5⟩
        have own5 := own4.cur o5 hg
        have hO5 := hO4.trans o5
        clear own4 hO4 hc4 o5 x1
        go_wp2_with fail
        refine (pick_any g k5 _ _ c5 (by omega)).mono ?_; rintro e w6 ⟨y, k6, rfl, y0, y1, y2, kk6, c6, o6⟩
        have own6 := own5.cur o6 hg
        have hO6 := hO5.trans o6
        clear own5 hO5 c5 o6 y1
        go_wp2
        go_ret3
        exact ⟨_, _, _, _, _, _, _, rfl, own6, ⟨by omega, by omega⟩, by omega, c6, hO6⟩
def RcPo (w : World) (e : Ending) (w' : World) : Prop := ∃ (b : Bool) (x : Int) (a : Option Addr) (m c : Nat) (l : List Int) (y : Int), e = .returned (.tuple #[.bool b, .int .i64 x, .slice a m c, .int .i64 y]) ∧ Ints w' a m c l ∧ Below w.heap.size w w'
def WcPo (w : World) (e : Ending) (w' : World) : Prop := ∃ (x : Int) (a : Option Addr) (m c : Nat) (l : List Int) (y v : Int), e = .returned (.tuple #[.int .i64 x, .slice a m c, .int .i64 y, .int .i64 v]) ∧ Ints w' a m c l ∧ Below w.heap.size w w'
def TcPo (w : World) (e : Ending) (w' : World) : Prop := ∃ (x : Int) (a : Option Addr) (m c : Nat) (l : List Int) (y : Int), e = .returned (.tuple #[.int .i64 x, .slice a m c, .int .i64 y]) ∧ Ints w' a m c l ∧ Below w.heap.size w w'
set_option maxHeartbeats 4000000 in
theorem DrawTurnCells_any (a : Option Addr) (n c : Nat) (w : World) (h : Cod w w.heap.size a n c) :
    Calls Try.prog 30 #[.slice a n c] w (TcPo w) := by
  go_enter Try.func30, Try.ntmps30
  go_wp2_with fail
  have C_w1' : Cur (w.alloc (.cells #[.slice a n c, .int .i64 0, .int .u64 0] 55)) w.heap.size 0 := Cur.of_new h
  have V_w1' : Below w.heap.size w (w.alloc (.cells #[.slice a n c, .int .i64 0, .int .u64 0] 55)) := (Below.refl _ _).alloc (Nat.le_refl _) _
  have S_w1' : w.heap.size < (w.alloc (.cells #[.slice a n c, .int .i64 0, .int .u64 0] 55)).heap.size := by simp
  generalize (w.alloc (.cells #[.slice a n c, .int .i64 0, .int .u64 0] 55)) = w1' at *
  refine (cells_any w.heap.size _ _ C_w1' (by omega)).mono ?_
  rintro e w2' ⟨x, la, lm, lc, l, y, k_w2', rfl, ol, xr, q_w2', C_w2', o_w2'⟩
  have V_w2' := V_w1'.trans (o_w2'.below1 (Nat.le_refl _) V_w1'.size)
  have S_w2' := o_w2'.size
  clear o_w2' V_w1'
  go_wp2
  go_ret3
  exact ⟨_, _, _, _, _, _, rfl, ol.ints, V_w2'⟩
set_option maxHeartbeats 4000000 in
theorem DrawReadCell_any (a : Option Addr) (n c : Nat) (w : World) (h : Cod w w.heap.size a n c) :
    Calls Try.prog 24 #[.slice a n c] w (RcPo w) := by
  go_enter Try.func24, Try.ntmps24
  go_wp2_with fail
  have C_w1' : Cur (w.alloc (.cells #[.slice a n c, .int .i64 0, .int .u64 0] 55)) w.heap.size 0 := Cur.of_new h
  have V_w1' : Below w.heap.size w (w.alloc (.cells #[.slice a n c, .int .i64 0, .int .u64 0] 55)) := (Below.refl _ _).alloc (Nat.le_refl _) _
  have S_w1' : w.heap.size < (w.alloc (.cells #[.slice a n c, .int .i64 0, .int .u64 0] 55)).heap.size := by simp
  generalize (w.alloc (.cells #[.slice a n c, .int .i64 0, .int .u64 0] 55)) = w1' at *
  refine (cells_any w.heap.size _ _ C_w1' (by omega)).mono ?_
  rintro e w2' ⟨x, la, lm, lc, l, y, k_w2', rfl, ol, xr, q_w2', C_w2', o_w2'⟩
  have V_w2' := V_w1'.trans (o_w2'.below1 (Nat.le_refl _) V_w1'.size)
  have S_w2' := o_w2'.size
  clear o_w2' V_w1'
  go_wp2_with fail
  refine (one_any w.heap.size _ _ _ C_w2' (by omega)).mono ?_
  rintro e w3' ⟨b, k_w3', rfl, q_w3', C_w3', o_w3'⟩
  have V_w3' := V_w2'.trans (o_w3'.below1 (Nat.le_refl _) V_w2'.size)
  replace ol := ol.cur o_w3' (by omega)
  have S_w3' := o_w3'.size
  clear o_w3' V_w2'
  go_wp2
  refine bodyPost_ret (results_tmp4 rfl _ _ _) rfl ?_
  exact ⟨_, _, _, _, _, _, _, rfl, ol.ints, V_w3'⟩
set_option maxHeartbeats 4000000 in
theorem DrawWriteCell_any (a : Option Addr) (n c : Nat) (w : World) (h : Cod w w.heap.size a n c) :
    Calls Try.prog 27 #[.slice a n c] w (WcPo w) := by
  go_enter Try.func27, Try.ntmps27
  go_wp2_with fail
  have C_w1' : Cur (w.alloc (.cells #[.slice a n c, .int .i64 0, .int .u64 0] 55)) w.heap.size 0 := Cur.of_new h
  have V_w1' : Below w.heap.size w (w.alloc (.cells #[.slice a n c, .int .i64 0, .int .u64 0] 55)) := (Below.refl _ _).alloc (Nat.le_refl _) _
  have S_w1' : w.heap.size < (w.alloc (.cells #[.slice a n c, .int .i64 0, .int .u64 0] 55)).heap.size := by simp
  generalize (w.alloc (.cells #[.slice a n c, .int .i64 0, .int .u64 0] 55)) = w1' at *
  refine (cells_any w.heap.size _ _ C_w1' (by omega)).mono ?_
  rintro e w2' ⟨x, la, lm, lc, l, y, k_w2', rfl, ol, xr, q_w2', C_w2', o_w2'⟩
  have V_w2' := V_w1'.trans (o_w2'.below1 (Nat.le_refl _) V_w1'.size)
  have S_w2' := o_w2'.size
  clear o_w2' V_w1'
  obtain ⟨wd, rfl⟩ : ∃ k : Nat, x = k := ⟨x.toNat, by omega⟩
  have hwd5 : wd ≤ 5 := by omega
  have hs64 : (wd : Int) < 64 := by omega
  have hu : IntKind.u64.wrap (wd : Int) = (wd : Int) := IntWalk.u64_in _ (by omega)
  have hq2 : wrap64 ((2 : Int) ^ wd) = 2 ^ wd := by obtain ⟨h1, h2⟩ := p2_le5 hwd5; generalize (2 : Int) ^ wd = P at *; exact IntWalk.wrap64_in _ (by omega)
  have hq3 : wrap64 (1 * 2 ^ wd) = 2 ^ wd := by rw [Int.one_mul]; exact hq2
  have hq5 : (1 : Int) * 2 ^ wd = 2 ^ wd := Int.one_mul _
  go_wp2_with fail
  refine (pick_any w.heap.size _ _ _ C_w2' (by omega)).mono ?_
  rintro e w3' ⟨s, k_w3', rfl, s0, s1, s2, q_w3', C_w3', o_w3'⟩
  have V_w3' := V_w2'.trans (o_w3'.below1 (Nat.le_refl _) V_w2'.size)
  replace ol := ol.cur o_w3' (by omega)
  have S_w3' := o_w3'.size
  clear o_w3' V_w2'
  clear hs64 hu hq2 hq3 hq5 s1
  go_wp2_with fail
  refine (pick_any w.heap.size _ 20 _ C_w3' (by omega)).mono ?_
  rintro e w4' ⟨t, k_w4', rfl, t0, t1, t2, q_w4', C_w4', o_w4'⟩
  have V_w4' := V_w3'.trans (o_w4'.below1 (Nat.le_refl _) V_w3'.size)
  replace ol := ol.cur o_w4' (by omega)
  have S_w4' := o_w4'.size
  clear o_w4' V_w3'
  clear t1
  go_wp2
  refine bodyPost_ret (results_tmp4 rfl _ _ _) rfl ?_
  exact ⟨_, _, _, _, _, _, _, rfl, ol.ints, V_w4'⟩
end Go.Proofs.Ytmbheimjphhamaa
namespace Go.Proofs.Ytmbheimjphhamaa
open Go.RowKit
set_option maxHeartbeats 1000000 in
theorem areAll_1_any (x : Int) (p : Addr) (f : Nat) (cap : Array Value) (b : Bool) (w : World) (hp : w.cell? p = some (.func (.func f) #[] cap))
    (hf : ∀ args W, (callFunc f args).run Try.prog W = .ok (.enter f args) W)
    (hq : ∀ m, Calls Try.prog f (#[.int .i64 x] ++ cap) (w.drewN m) fun e w' => e = .returned (.bool b) ∧ ∃ m', w' = (w.drewN m).drewN m') :
    Calls Try.prog 106 #[.int .i64 x, .pointer (some p)] w fun e w' => e = .returned (.bool (!b)) ∧ ∃ m, w' = w.drewN m := by
  have HQ := Lib.hid (hq 0)
  clear hq
  go_enter Try.func106, Try.ntmps106
  go_wp2_with (refine HQ.out.mono ?_; rintro e w' ⟨rfl, m', rfl⟩)
  go_ret
  exact ⟨rfl, _, rfl⟩
set_option maxHeartbeats 1000000 in
theorem areAll_any (a : Option Addr) (n c : Nat) (l : List Int) (f : Nat) (cap : Array Value) (q : Int → Bool) (w : World) (h : Ints w a n c l)
    (hf : ∀ args W, (callFunc f args).run Try.prog W = .ok (.enter f args) W)
    (hq : ∀ W x, Below w.heap.size w W → x ∈ l → Calls Try.prog f (#[.int .i64 x] ++ cap) W fun e w' => e = .returned (.bool (q x)) ∧ ∃ m, w' = W.drewN m) :
    Calls Try.prog 81 #[.slice a n c, .func (.func f) #[] cap] w fun e w' => e = .returned (.bool (l.all q)) ∧ Below w.heap.size w w' := by
  have hall : (!l.any fun x => !q x) = l.all q := by rw [List.all_eq_not_any_not]
  have HALL := Lib.hid hall
  clear hall
  have hbel : Below w.heap.size w (w.alloc (.cells #[.func (.func f) #[] cap] 76)) := (Below.refl _ _).alloc (Nat.le_refl _) _
  have hc : (w.alloc (.cells #[.func (.func f) #[] cap] 76)).cell? ⟨w.heap.size, 0, none⟩ = some (.func (.func f) #[] cap) := cell_new _ _ _
  have hcf := ContainsFunc_any a n c l 106 #[.pointer (some ⟨w.heap.size, 0, none⟩)] (fun x => !q x) (w.alloc (.cells #[.func (.func f) #[] cap] 76)) (h.alloc _) areAll_1_enters
    (fun W x hb hx => areAll_1_any x _ f cap (q x) W (by rw [hb.cell (by simp)]; exact hc) hf (fun m => hq _ x (hbel.trans ((hb.mono (by simp)).trans ((below_of_drewN m).mono (by have := hb.size; simp at this; omega)))) hx))
  have HCF := Lib.hid hcf
  clear hcf hq hf
  go_enter Try.func81, Try.ntmps81
  go_wp2_with (go_at_call 105; refine HCF.out.mono ?_; rintro e w' ⟨rfl, m, rfl⟩)
  go_ret
  exact ⟨ret_bool HALL.out, below_drewN hbel _⟩
end Go.Proofs.Ytmbheimjphhamaa
namespace Go.Proofs.Ytmbheimjphhamaa
open Go.RowKit
theorem IntD.pre {w a n c l F} (h : IntD w a n c l F) (j : Nat) (hj : j ≤ n) (h0 : 0 < j) : IntD w a j c (l.take j) F := by
  obtain ⟨⟨h1, h2, h3, h4, g, o, h5, h6⟩, hd⟩ := h
  exact ⟨⟨by simp; omega, by omega, h3, h4, g, o, fun _ => h5 (by omega), fun i hi => by rw [h6 i (by omega)]; simp [List.getD_eq_getElem?_getD, hi]⟩, fun x _ hx => hd x (by omega) hx⟩
end Go.Proofs.Ytmbheimjphhamaa
namespace Go.Proofs.Ytmbheimjphhamaa
open Go.RowKit
theorem btL_len (n : Int) (k : Nat) : (btL n k).length = k := by simp [btL]
theorem spL_at (f : Int) (n k : Nat) (h : k < n) : (spL f n).getD k 0 = f + k := by simp [spL, List.getD, h]
end Go.Proofs.Ytmbheimjphhamaa
namespace Go.Proofs.Ytmbheimjphhamaa
open Go.RowKit
set_option maxHeartbeats 1000000 in
theorem l1Own_any (a : Option Addr) (n c : Nat) (l : List Int) (w : World) (h : Ints w a n c l) (hs : n ≤ 10000000) :
    Calls Try.prog 108 #[.slice a n c] w fun e w' => ∃ a' c', e = .returned (.slice a' n c') ∧ Own w' w.heap.size a' n c' l ∧ Below w.heap.size w w' := by
  have hn := h.le
  go_enter Try.func108, Try.ntmps108
  go_wp2_with (at_builtin; refine wpList_appI _ rfl _ _ rfl w.heap.size _ 0 0 [] rfl (Own.nil0 _ _ _) _ n c l rfl (h.alloc _) (by omega) (by simp) ?_)
  intro a2 c2 w1 own hb _
  try simp only [Nat.zero_add, List.nil_append] at own
  have hb1 := ((Below.refl _ w).alloc (Nat.le_refl _) _).trans hb
  clear hb
  go_wp2
  go_ret
  exact ⟨_, _, ret_slice (by omega), own, hb1⟩
end Go.Proofs.Ytmbheimjphhamaa
namespace Go.Proofs.Ytmbheimjphhamaa
open Go.RowKit
set_option maxHeartbeats 2000000 in
theorem bitsOf_any (x : Int) (n : Nat) (w : World) (hx : 0 ≤ x ∧ x ≤ 1000000000) (hn : n ≤ 60) :
    Calls Try.prog 61 #[.int .i64 x, .int .i64 n] w fun e w' => ∃ a c, e = .returned (.slice a n c) ∧ Own w' w.heap.size a n c (btL x n) ∧ Below w.heap.size w w' := by
  go_enter Try.func61, Try.ntmps61
  go_wp2
  have own0 : Own (w.alloc (.cells #[] 3)) w.heap.size (some ⟨w.heap.size, 0, none⟩) 0 0 (btL x 0) := Own.nil0 _ _ _
  have bel0 : Below w.heap.size w (w.alloc (.cells #[] 3)) := (Below.refl _ _).alloc (Nat.le_refl _) _
  go_loopw [5, 9] (fun u v wr => ∃ k : Nat, k ≤ n ∧ v = .int .i64 k ∧ Below w.heap.size w wr ∧ ∃ a1 c1, u = .slice a1 k c1 ∧ Own wr w.heap.size a1 k c1 (btL x k)) (fun _ v _ => n - (intOf v).toNat)
  case atStart => exact ⟨0, by omega, rfl, bel0, _, _, rfl, own0⟩
  case round =>
    obtain ⟨k, hk, rfl, hbel, a1, c1, rfl, own⟩ := hrel
    by_cases hlt : k < n
    · have HS := Lib.hid (btL_succ x k)
      have t2 : IntKind.u64.wrap (k : Int) = (k : Int) := IntWalk.u64_in _ (by omega)
      have hk64 : (k : Int) < 64 := by omega
      obtain ⟨r0, r1⟩ := shr_rng x k (by omega) (by omega)
      obtain ⟨X, hX⟩ : ∃ X, X = x / 2 ^ k := ⟨_, rfl⟩
      have t3 : bits BinOp.and IntKind.i64 (x / 2 ^ k) 1 = X % 2 := by rw [hX]; exact and_one_i64 _ (by omega) (by omega)
      rw [← hX] at HS r0 r1
      clear hX
      go_wp2_with (at_builtin; refine wpList_appI _ rfl _ _ rfl w.heap.size a1 k c1 (btL x k) rfl (own.alloc _) _ 1 1 [X % 2] rfl (Ints.lit1 _ _ _) (by omega) (by have := hbel.size; simp; omega) ?_)
      intro a5 c5 w3 o5 u5 _
      have b3 := (hbel.alloc hbel.size (.cells #[.int .i64 (X % 2)] 3)).trans u5
      clear u5 hbel own
      go_wp2
      go_roundw
      case rel => exact ⟨k + 1, by omega, by go_num, b3, a5, c5, rfl, by rw [HS.out]; exact o5⟩
      case measure => simp [intOf]; omega
    · obtain rfl : k = n := by omega
      go_wp2
      go_ret
      exact ⟨a1, c1, rfl, own, hbel⟩
end Go.Proofs.Ytmbheimjphhamaa
namespace Go.Proofs.Ytmbheimjphhamaa
theorem gappR (l l' : List Int) (k : Nat) (h : l.length ≤ k) : (l ++ l').getD k 0 = l'.getD (k - l.length) 0 := by simp [List.getD, List.getElem?_append_right h]
end Go.Proofs.Ytmbheimjphhamaa
namespace Go.Proofs.Ytmbheimjphhamaa
open Go.RowKit
def celT (w : Int) (l : List Int) (i : Int) : Bool := allB l 0 (2 ^ w.toNat - 1) && inB i 0 (2 ^ wid (l.length : Int) - 1)
def celB (w : Int) (l : List Int) (i : Int) : Bool := memB l.length w && celT w l i
def meCB (w : Int) (l : List Int) (i : Int) : Bool := (inB l.length 1 8 && inB w 1 4) && celT w l i
theorem celB_me (w : Int) (l : List Int) (i : Int) : celB w l i = (meCB w l i && memB l.length w) := by
  unfold celB meCB memB
  cases inB l.length 1 8 <;> cases inB w 1 4 <;> cases celT w l i <;> simp
theorem wid3 {n : Int} (h : n ≤ 8) : wid n = 0 ∨ wid n = 1 ∨ wid n = 2 ∨ wid n = 3 := by have := wid_cases n; omega
set_option maxHeartbeats 2000000 in
theorem areCells_1_any (x : Int) (wd : Nat) (p : Addr) (w : World) (hp : w.cell? p = some (.int .i64 (wd : Int))) (hw : 1 ≤ wd ∧ wd ≤ 4) :
    Calls Try.prog 89 #[.int .i64 x, .pointer (some p)] w fun e w' => e = .returned (.bool (decide (0 ≤ x ∧ x ≤ 2 ^ wd - 1))) ∧ ∃ m, w' = w.drewN m := by
  obtain ⟨h1, h2⟩ := hw
  rcases (by omega : wd = 1 ∨ wd = 2 ∨ wd = 3 ∨ wd = 4) with rfl | rfl | rfl | rfl
  all_goals
    clear h1 h2
    go_enter Try.func89, Try.ntmps89
    go_wp2_with (go_at_call 50; refine (within_any _ _ _ _).mono ?_; rintro e w' ⟨rfl, rfl⟩)
    go_ret
    exact ⟨ret_bool (by simp [inB]), 0, rfl⟩
theorem areCells_1_enters (args : Array Value) (W : World) : (callFunc 89 args).run Try.prog W = .ok (.enter 89 args) W :=
  enters Try.func89 (by kernel_rfl) (by kernel_rfl) args W
set_option maxHeartbeats 4000000 in
theorem areCells_any (wd : Int) (a : Option Addr) (n c : Nat) (l : List Int) (i : Int) (w : World) (h : Ints w a n c l) :
    Calls Try.prog 59 #[.int .i64 wd, .slice a n c, .int .i64 i] w fun e w' => e = .returned (.bool (celB wd l i)) ∧ Below w.heap.size w w' := by
  have hbel : Below w.heap.size w (w.alloc (.cells #[.int .i64 wd] 3)) := (Below.refl _ _).alloc (Nat.le_refl _) _
  have hc : (w.alloc (.cells #[.int .i64 wd] 3)).cell? ⟨w.heap.size, 0, none⟩ = some (.int .i64 wd) := cell_new _ _ _
  unfold celB
  rw [← h.len]
  cases hm : memB n wd
  · simp only [Bool.false_and]
    have HM := Lib.hid hm
    clear hm
    go_enter Try.func59, Try.ntmps59
    go_wp2_with (go_at_call 67; refine (isMemory_any _ _ _).mono ?_; rintro e w' ⟨rfl, rfl⟩; rw [HM.out])
    go_ret
    exact ⟨rfl, hbel⟩
  · obtain ⟨⟨h1, h8⟩, ⟨h3, h4⟩, _⟩ := memB_true hm
    obtain ⟨wn, rfl⟩ : ∃ k : Nat, wd = k := ⟨wd.toNat, by omega⟩
    simp only [Bool.true_and]
    have haa := areAll_any a n c l 89 #[.pointer (some ⟨w.heap.size, 0, none⟩)] (fun x => decide (0 ≤ x ∧ x ≤ 2 ^ wn - 1)) (w.alloc (.cells #[.int .i64 (wn : Int)] 3)) (h.alloc _) areCells_1_enters
      (fun W x hb _ => areCells_1_any x wn _ W (by rw [hb.cell (by simp)]; exact hc) (by omega))
    have hT : celT wn l i = ((l.all fun x => decide (0 ≤ x ∧ x ≤ 2 ^ wn - 1)) && inB i 0 (2 ^ wid (n : Int) - 1)) := by unfold celT allB; rw [← h.len, Int.toNat_natCast]
    rw [hT]
    clear hT
    have HM := Lib.hid hm
    clear hm
    cases ha : (l.all fun x => decide (0 ≤ x ∧ x ≤ 2 ^ wn - 1))
    · rw [ha] at haa
      simp only [Bool.false_and]
      have HAA := Lib.hid haa
      clear haa ha hc h3 h4 h1 h8
      go_enter Try.func59, Try.ntmps59
      go_wp2_with (first | (go_at_call 67; refine (isMemory_any _ _ _).mono ?_; rintro e w' ⟨rfl, rfl⟩; rw [HM.out]) | (go_at_call 81; refine HAA.out.mono ?_; rintro e w' ⟨rfl, u⟩))
      go_ret
      have u1 := ‹Below (World.alloc _ _).heap.size _ _›
      exact ⟨rfl, hbel.trans (u1.mono (by simp))⟩
    · rw [ha] at haa
      simp only [Bool.true_and]
      have HAA := Lib.hid haa
      have H1 := Lib.hid h1
      have H8 := Lib.hid h8
      clear haa ha hc h3 h4
      have hv := wid3 h8
      clear h1 h8
      generalize hV : wid (n : Int) = V at *
      have HV := Lib.hid hV
      clear hV
      rcases hv with rfl | rfl | rfl | rfl
      all_goals
        go_enter Try.func59, Try.ntmps59
        go_wp2_with (first | (go_at_call 67; refine (isMemory_any _ _ _).mono ?_; rintro e w' ⟨rfl, rfl⟩; rw [HM.out]) | (go_at_call 81; refine HAA.out.mono ?_; rintro e w' ⟨rfl, u⟩) | (go_at_call 51; refine (indexWidth_any _ _ H1.out (by have := H8.out; omega)).mono ?_; rintro e w' ⟨rfl, rfl⟩; rw [HV.out]) | (go_at_call 50; refine (within_any _ _ _ _).mono ?_; rintro e w' ⟨rfl, rfl⟩))
        go_ret
        have u1 := ‹Below (World.alloc _ _).heap.size _ _›
        exact ⟨ret_bool (by simp [inB]), hbel.trans (u1.mono (by simp))⟩
set_option maxHeartbeats 4000000 in
theorem meCells_any (wd : Int) (a : Option Addr) (n c : Nat) (l : List Int) (i : Int) (w : World) (h : Ints w a n c l) :
    Calls Try.prog 62 #[.int .i64 wd, .slice a n c, .int .i64 i] w fun e w' => e = .returned (.bool (meCB wd l i)) ∧ Below w.heap.size w w' := by
  unfold meCB
  rw [← h.len]
  cases hm : (inB n 1 8 && inB wd 1 4)
  · simp only [Bool.false_and]
    have HM := Lib.hid hm
    clear hm
    go_enter Try.func62, Try.ntmps62
    go_wp2_with (go_at_call 52; refine (meGood_any _ _ _).mono ?_; rintro e w' ⟨rfl, rfl⟩; rw [HM.out])
    go_ret
    exact ⟨rfl, Below.refl _ _⟩
  · have hh := hm
    rw [Bool.and_eq_true] at hh
    have h18 := inB_true hh.1
    have h14 := inB_true hh.2
    clear hh
    simp only [Bool.true_and]
    have hT : celT wd l i = (allB l 0 (2 ^ wd.toNat - 1) && inB i 0 (2 ^ wid (n : Int) - 1)) := by unfold celT; rw [← h.len]
    rw [hT]
    clear hT
    have HM := Lib.hid hm
    clear hm
    have hw4 : wd = 1 ∨ wd = 2 ∨ wd = 3 ∨ wd = 4 := by omega
    have hv := wid3 h18.2
    have H1 := Lib.hid h18.1
    have H8 := Lib.hid h18.2
    clear h18 h14
    generalize hV : wid (n : Int) = V at *
    have HV := Lib.hid hV
    clear hV
    generalize hP : (2 : Int) ^ wd.toNat - 1 = P
    have hP4 : (wd = 1 ∧ P = 1) ∨ (wd = 2 ∧ P = 3) ∨ (wd = 3 ∧ P = 7) ∨ (wd = 4 ∧ P = 15) := by
      rcases hw4 with rfl | rfl | rfl | rfl
      · exact Or.inl ⟨rfl, hP.symm.trans (by decide)⟩
      · exact Or.inr (Or.inl ⟨rfl, hP.symm.trans (by decide)⟩)
      · exact Or.inr (Or.inr (Or.inl ⟨rfl, hP.symm.trans (by decide)⟩))
      · exact Or.inr (Or.inr (Or.inr ⟨rfl, hP.symm.trans (by decide)⟩))
    clear hP hw4
    cases ha : allB l 0 P
    · have HA := Lib.hid ha
      clear ha hv
      simp only [Bool.false_and]
      rcases hP4 with ⟨rfl, rfl⟩ | ⟨rfl, rfl⟩ | ⟨rfl, rfl⟩ | ⟨rfl, rfl⟩
      all_goals
        go_enter Try.func62, Try.ntmps62
        go_wp2_with (first | (go_at_call 52; refine (meGood_any _ _ _).mono ?_; rintro e w' ⟨rfl, rfl⟩; rw [HM.out]) | (go_at_call 86; refine (l1All_any _ _ _ l _ _ _ h).mono ?_; rintro e w' ⟨rfl, m, rfl⟩; rw [HA.out]))
        go_ret
        exact ⟨rfl, below_of_drewN _⟩
    · have HA := Lib.hid ha
      clear ha
      simp only [Bool.true_and]
      rcases hP4 with ⟨rfl, rfl⟩ | ⟨rfl, rfl⟩ | ⟨rfl, rfl⟩ | ⟨rfl, rfl⟩
      all_goals
        rcases hv with rfl | rfl | rfl | rfl
        all_goals
          go_enter Try.func62, Try.ntmps62
          go_wp2_with (first | (go_at_call 52; refine (meGood_any _ _ _).mono ?_; rintro e w' ⟨rfl, rfl⟩; rw [HM.out]) | (go_at_call 86; refine (l1All_any _ _ _ l _ _ _ h).mono ?_; rintro e w' ⟨rfl, m, rfl⟩; rw [HA.out]) | (go_at_call 53; refine (meIndex_any _ _ H1.out (by have := H8.out; omega)).mono ?_; rintro e w' ⟨rfl, rfl⟩; rw [HV.out]) | (go_at_call 64; refine (l1In_any _ _ _ _).mono ?_; rintro e w' ⟨rfl, rfl⟩))
          go_ret
          exact ⟨ret_bool (by simp [inB]), below_of_drewN _⟩
end Go.Proofs.Ytmbheimjphhamaa
namespace Go.Proofs.Ytmbheimjphhamaa
open Go.RowKit
/-- All are bits. -/
def Bt (l : List Int) : Prop := ∀ x ∈ l, x = 0 ∨ x = 1
theorem Bt.nil : Bt [] := fun x hx => by cases hx
theorem Bt.app {l l' : List Int} (h : Bt l) (k : Bt l') : Bt (l ++ l') := fun x hx => by
  rcases List.mem_append.1 hx with h1 | h1
  · exact h x h1
  · exact k x h1
theorem Bt.one {x : Int} (h : x = 0 ∨ x = 1) : Bt [x] := fun y hy => by rw [List.mem_singleton] at hy; subst hy; exact h
theorem Bt.at {l : List Int} (h : Bt l) (k : Nat) : l.getD k 0 = 0 ∨ l.getD k 0 = 1 := by
  by_cases hk : k < l.length
  · exact h _ (getD_mem l k hk)
  · left; simp [List.getD, Nat.not_lt.1 hk]
/-- The value of a gate. -/
def evS (kd x y : Int) : Int := if kd = 0 then bits BinOp.xor IntKind.i64 x y else if kd = 1 then bits BinOp.and IntKind.i64 x y else if kd = 2 then 1 - x else 1
theorem evS_bit (kd : Int) {x y : Int} (hx : x = 0 ∨ x = 1) (hy : y = 0 ∨ y = 1) : evS kd x y = 0 ∨ evS kd x y = 1 := by
  unfold evS
  split
  · rcases hx with rfl | rfl <;> rcases hy with rfl | rfl <;> decide
  · split
    · rcases hx with rfl | rfl <;> rcases hy with rfl | rfl <;> decide
    · split
      · omega
      · right; rfl
def evL (G V : List Int) : Nat → List Int
  | 0 => V
  | j + 1 => evL G V j ++ [evS (G.getD (j * 3) 0) ((evL G V j).getD (G.getD (j * 3 + 1) 0).toNat 0) ((evL G V j).getD (G.getD (j * 3 + 2) 0).toNat 0)]
theorem evL_succ (G V : List Int) (j : Nat) : evL G V (j + 1) = evL G V j ++ [evS (G.getD (j * 3) 0) ((evL G V j).getD (G.getD (j * 3 + 1) 0).toNat 0) ((evL G V j).getD (G.getD (j * 3 + 2) 0).toNat 0)] := rfl
theorem evL_len (G V : List Int) (j : Nat) : (evL G V j).length = V.length + j := by
  induction j with
  | zero => rfl
  | succ j ih => rw [evL_succ, List.length_append, ih]; simp; omega
theorem evL_bits (G : List Int) {V : List Int} (h : Bt V) (j : Nat) : Bt (evL G V j) := by
  induction j with
  | zero => exact h
  | succ j ih => rw [evL_succ]; exact ih.app (Bt.one (evS_bit _ (ih.at _) (ih.at _)))
theorem Ints.cl {w : World} {g n c : Nat} {l : List Int} (h : Ints w (some ⟨g, 0, none⟩) n c l) (k : Nat) (hk : k < n) {x : Int} (hx : l.getD k 0 = x) : w.cell? ⟨g, k, none⟩ = some (.int .i64 x) := by
  obtain ⟨g', o', e, hc⟩ := h.at k hk
  cases e
  rw [Nat.zero_add] at hc
  rw [← hx]
  exact hc
theorem keepG {w w' : World} {a : Option Addr} {c : Nat} {p : Addr} {v : Value} (h : w.grownBy w' (rowOf a c)) (hlt : p.block < w.heap.size) (hn : p.block ∉ foot a c) (hc : w.cell? p = some v) : w'.cell? p = some v := by
  unfold World.cell? at hc ⊢
  rw [(Only.of_grown h).block _ hlt hn]
  exact hc
theorem gb_cases {kd a b own : Int} (h : gbB kd a b own = true) : (kd = 0 ∧ 0 ≤ a ∧ a ≤ own - 1 ∧ 0 ≤ b ∧ b ≤ own - 1) ∨ (kd = 1 ∧ 0 ≤ a ∧ a ≤ own - 1 ∧ 0 ≤ b ∧ b ≤ own - 1) ∨ (kd = 2 ∧ 0 ≤ a ∧ a ≤ own - 1) ∨ kd = 3 := by
  unfold gbB at h
  split at h
  · rename_i hk
    simp only [Bool.and_eq_true, inB, decide_eq_true_eq] at h
    rcases hk with rfl | rfl
    · exact Or.inl ⟨rfl, h.1.1, h.1.2, h.2.1, h.2.2⟩
    · exact Or.inr (Or.inl ⟨rfl, h.1.1, h.1.2, h.2.1, h.2.2⟩)
  · split at h
    · rename_i hk
      simp only [Bool.and_eq_true, inB, decide_eq_true_eq] at h
      exact Or.inr (Or.inr (Or.inl ⟨hk, h.1.1, h.1.2⟩))
    · split at h
      · rename_i hk
        exact Or.inr (Or.inr (Or.inr hk))
      · cases h
set_option maxHeartbeats 8000000 in
set_option maxRecDepth 100000 in
theorem values_any (i0 i1 : Int) (ga : Option Addr) (gn gc : Nat) (oa : Option Addr) (on oc : Nat) (a : Option Addr) (n c : Nat) (G V : List Int) (w : World) (hg : Flat 3 w ga gn gc G) (hv : Ints w a n c V) (hk : ∀ j, j < gn → gbB (G.getD (j * 3) 0) (G.getD (j * 3 + 1) 0) (G.getD (j * 3 + 2) 0) ((n + j : Nat) : Int) = true) (hV : Bt V) (hn : n ≤ 100) (hgn : gn ≤ 1000) :
    Calls Try.prog 91 #[.agg #[.int .i64 i0, .int .i64 i1, .slice ga gn gc, .slice oa on oc], .slice a n c] w fun e w' => ∃ a1 c1, e = .returned (.slice a1 (n + gn) c1) ∧ Own w' w.heap.size a1 (n + gn) c1 (evL G V gn) ∧ Below w.heap.size w w' := by
  have HK := Lib.hid hk
  clear hk
  have HB := Lib.hid (fun j => evL_bits G hV j)
  clear hV
  have HL := Lib.hid hv.len
  have V0 : Below w.heap.size w (w.alloc (.cells #[.int .i64 i0, .int .i64 i1, .slice ga gn gc, .slice oa on oc] 28)) := (Below.refl _ _).alloc (Nat.le_refl _) _
  have R0 : Blk (w.alloc (.cells #[.int .i64 i0, .int .i64 i1, .slice ga gn gc, .slice oa on oc] 28)) w.heap.size 28 #[.int .i64 i0, .int .i64 i1, .slice ga gn gc, .slice oa on oc] := Blk.new w _ _
  have hv0 := hv.below V0
  have hg0 := hg.below V0
  have hz0 : w.heap.size < (w.alloc (.cells #[.int .i64 i0, .int .i64 i1, .slice ga gn gc, .slice oa on oc] 28)).heap.size := by simp
  go_enter Try.func91, Try.ntmps91
  go_wp2_with fail
  generalize (w.alloc (.cells #[.int .i64 i0, .int .i64 i1, .slice ga gn gc, .slice oa on oc] 28)) = w0 at *
  refine (Clone_any _ _ _ _ _ hv0 (by omega)).mono ?_; rintro e w1 ⟨a1, c1, rfl, o1, u1⟩
  have V1 := V0.trans (u1.mono V0.size)
  have R1 := R0.below u1
  have own1 := o1.lower V0.size
  have x2 : w1.cell? ⟨w.heap.size, 2, none⟩ = some (.slice ga gn gc) := R1.cell 2
  clear o1 u1 V0 R0 hg0 hv0 hz0 R1
  go_wp2
  go_loopw [14, 5] (fun u v wr => ∃ j, j ≤ gn ∧ u = .int .i64 (j : Nat) ∧ ∃ a1 c1, v = .slice a1 (n + j) c1 ∧ Own wr w.heap.size a1 (n + j) c1 (evL G V j) ∧ Below w.heap.size w wr) (fun u _ _ => gn - (intOf u).toNat)
  case atStart => exact ⟨0, Nat.zero_le _, rfl, _, _, rfl, own1, V1⟩
  case round =>
    obtain ⟨j, hj, rfl, a2, c2, rfl, own, hbel⟩ := hrel
    clear own1 V1
    by_cases hlt : j < gn
    · obtain ⟨g, o, rfl, hc⟩ := (hg.below hbel).at (by omega)
      have c0 : wr.cell? ⟨g, o + j * 3, none⟩ = some (.int .i64 (G.getD (j * 3) 0)) := by have := hc (j * 3) (by omega); simpa only [Nat.add_assoc] using this
      have c1 : wr.cell? ⟨g, o + j * 3 + 1, none⟩ = some (.int .i64 (G.getD (j * 3 + 1) 0)) := by have := hc (j * 3 + 1) (by omega); simpa only [Nat.add_assoc] using this
      have c2 : wr.cell? ⟨g, o + j * 3 + 2, none⟩ = some (.int .i64 (G.getD (j * 3 + 2) 0)) := by have := hc (j * 3 + 2) (by omega); simpa only [Nat.add_assoc] using this
      clear hc
      have hgb := HK.out j hlt
      have HS := Lib.hid (evL_succ G V j)
      have hbt := HB.out j
      generalize G.getD (j * 3) 0 = kd at *
      generalize G.getD (j * 3 + 1) 0 = ka at *
      generalize G.getD (j * 3 + 2) 0 = kb at *
      generalize evL G V j = L at *
      have HFT := Lib.hid (fun k hk => (own.feet k hk).2)
      obtain ⟨N, hN⟩ : ∃ N, N = n + j := ⟨_, rfl⟩
      rw [← hN] at own hgb ⊢
      have hN1 : n + (j + 1) = N + 1 := by omega
      have HN := Lib.hid hN1
      have hNb : N ≤ 2000 := by omega
      clear hN1 hN
      go_upto_region 5 with fail
      have u2 : Below wr.heap.size wr (wr.alloc (.cells #[.int .i64 kd, .int .i64 ka, .int .i64 kb] 90)) := (Below.refl _ _).alloc (Nat.le_refl _) _
      have B2 : Blk (wr.alloc (.cells #[.int .i64 kd, .int .i64 ka, .int .i64 kb] 90)) wr.heap.size 90 #[.int .i64 kd, .int .i64 ka, .int .i64 kb] := Blk.new wr _ _
      have hw2 : wr.heap.size < (wr.alloc (.cells #[.int .i64 kd, .int .i64 ka, .int .i64 kb] 90)).heap.size := by simp
      have own2 := own.below u2
      have bel2 := hbel.trans (u2.mono hbel.size)
      clear own hbel u2 c0 c1 c2
      generalize (wr.alloc (.cells #[.int .i64 kd, .int .i64 ka, .int .i64 kb] 90)) = w2 at *
      have y0 : w2.cell? ⟨wr.heap.size, 0, none⟩ = some (.int .i64 kd) := B2.cell 0
      have y1 : w2.cell? ⟨wr.heap.size, 1, none⟩ = some (.int .i64 ka) := B2.cell 1
      have y2 : w2.cell? ⟨wr.heap.size, 2, none⟩ = some (.int .i64 kb) := B2.cell 2
      have hs2 : w.heap.size ≤ w2.heap.size := bel2.size
      clear B2
      rcases gb_cases hgb with ⟨rfl, ha0, ha1, hb0, hb1⟩ | ⟨rfl, ha0, ha1, hb0, hb1⟩ | ⟨rfl, ha0, ha1⟩ | rfl
      · clear hgb
        obtain ⟨ia, rfl⟩ : ∃ ia : Nat, ka = ia := ⟨ka.toNat, by omega⟩
        have hia : ia < N := by omega
        obtain ⟨g1, rfl, hgb1, hgw1, d1, -⟩ := own2.at ia hia
        have hx := hbt.at ia
        simp only [Int.toNat_natCast] at HS
        have hia2 : (ia : Int) < (N : Int) := by omega
        obtain ⟨ib, rfl⟩ : ∃ ib : Nat, kb = ib := ⟨kb.toNat, by omega⟩
        have hib : ib < N := by omega
        obtain ⟨_, E, -, -, d2, -⟩ := own2.at ib hib
        cases E
        simp only [Int.toNat_natCast] at HS
        have hib2 : (ib : Int) < (N : Int) := by omega
        generalize hy : L.getD ib 0 = y at *
        have HY := Lib.hid hy
        clear hy
        generalize hx1 : L.getD ia 0 = x at *
        have HX := Lib.hid hx1
        clear hx1
        have HE : Hid (evL G V (j + 1) = L ++ [bits BinOp.xor IntKind.i64 x y]) := HS.out
        clear HS
        go_wp2_with fail
        go_quiet (fail)
        go_wp2_with (at_builtin; refine wpList_appI _ rfl _ _ rfl w.heap.size _ N _ L rfl ((own2.below (below_of_drewN _)).alloc _) _ 1 1 [bits BinOp.xor IntKind.i64 x y] rfl (Ints.lit1 _ _ _) (by omega) (by simp; omega) ?_)
        intro a6 c6 w5 o6 u6 _
        have b3 := ((below_drewN bel2 _).alloc (below_drewN bel2 _).size (.cells #[.int .i64 (bits BinOp.xor IntKind.i64 x y)] 3)).trans u6
        rw [← HE.out] at o6
        clear u6 bel2 own2 y0 y1 y2 d1 d2
        go_wp2
        go_roundw
        case rel => exact ⟨j + 1, by omega, by go_num, a6, c6, by rw [HN.out], by rw [HN.out]; exact o6, b3⟩
        case measure => simp [intOf]; omega
      · clear hgb
        obtain ⟨ia, rfl⟩ : ∃ ia : Nat, ka = ia := ⟨ka.toNat, by omega⟩
        have hia : ia < N := by omega
        obtain ⟨g1, rfl, hgb1, hgw1, d1, -⟩ := own2.at ia hia
        have hx := hbt.at ia
        simp only [Int.toNat_natCast] at HS
        have hia2 : (ia : Int) < (N : Int) := by omega
        obtain ⟨ib, rfl⟩ : ∃ ib : Nat, kb = ib := ⟨kb.toNat, by omega⟩
        have hib : ib < N := by omega
        obtain ⟨_, E, -, -, d2, -⟩ := own2.at ib hib
        cases E
        simp only [Int.toNat_natCast] at HS
        have hib2 : (ib : Int) < (N : Int) := by omega
        generalize hy : L.getD ib 0 = y at *
        have HY := Lib.hid hy
        clear hy
        generalize hx1 : L.getD ia 0 = x at *
        have HX := Lib.hid hx1
        clear hx1
        have HE : Hid (evL G V (j + 1) = L ++ [bits BinOp.and IntKind.i64 x y]) := HS.out
        clear HS
        go_wp2_with fail
        go_quiet (fail)
        go_wp2_with (at_builtin; refine wpList_appI _ rfl _ _ rfl w.heap.size _ N _ L rfl ((own2.below (below_of_drewN _)).alloc _) _ 1 1 [bits BinOp.and IntKind.i64 x y] rfl (Ints.lit1 _ _ _) (by omega) (by simp; omega) ?_)
        intro a6 c6 w5 o6 u6 _
        have b3 := ((below_drewN bel2 _).alloc (below_drewN bel2 _).size (.cells #[.int .i64 (bits BinOp.and IntKind.i64 x y)] 3)).trans u6
        rw [← HE.out] at o6
        clear u6 bel2 own2 y0 y1 y2 d1 d2
        go_wp2
        go_roundw
        case rel => exact ⟨j + 1, by omega, by go_num, a6, c6, by rw [HN.out], by rw [HN.out]; exact o6, b3⟩
        case measure => simp [intOf]; omega
      · clear hgb
        obtain ⟨ia, rfl⟩ : ∃ ia : Nat, ka = ia := ⟨ka.toNat, by omega⟩
        have hia : ia < N := by omega
        obtain ⟨g1, rfl, hgb1, hgw1, d1, -⟩ := own2.at ia hia
        have hx := hbt.at ia
        simp only [Int.toNat_natCast] at HS
        have hia2 : (ia : Int) < (N : Int) := by omega
        generalize hx1 : L.getD ia 0 = x at *
        have HX := Lib.hid hx1
        clear hx1
        have HE : Hid (evL G V (j + 1) = L ++ [1 - x]) := HS.out
        clear HS
        have t1 : IntKind.i64.wrap (1 - x) = 1 - x := IntWalk.i64_in _ (by omega)
        go_wp2_with (at_builtin; refine wpList_appI _ rfl _ _ rfl w.heap.size _ N _ L rfl (own2.alloc _) _ 1 1 [1 - x] rfl (Ints.lit1 _ _ _) (by omega) (by simp; omega) ?_)
        intro a6 c6 w5 o6 u6 _
        have b3 := (bel2.alloc bel2.size (.cells #[.int .i64 (1 - x)] 3)).trans u6
        rw [← HE.out] at o6
        clear u6 bel2 own2 y0 y1 y2 d1
        go_wp2
        go_roundw
        case rel => exact ⟨j + 1, by omega, by go_num, a6, c6, by rw [HN.out], by rw [HN.out]; exact o6, b3⟩
        case measure => simp [intOf]; omega
      · clear hgb
        have HE : Hid (evL G V (j + 1) = L ++ [1]) := HS.out
        clear HS
        go_wp2_with (at_builtin; refine wpList_appI _ rfl _ _ rfl w.heap.size _ N _ L rfl (own2.alloc _) _ 1 1 [1] rfl (Ints.lit1 _ _ _) (by omega) (by simp; omega) ?_)
        intro a6 c6 w5 o6 u6 _
        have b3 := (bel2.alloc bel2.size (.cells #[.int .i64 (1)] 3)).trans u6
        rw [← HE.out] at o6
        clear u6 bel2 own2 y0 y1 y2
        go_wp2
        go_roundw
        case rel => exact ⟨j + 1, by omega, by go_num, a6, c6, by rw [HN.out], by rw [HN.out]; exact o6, b3⟩
        case measure => simp [intOf]; omega
    · obtain rfl : j = gn := by omega
      go_wp2
      go_ret
      exact ⟨_, _, rfl, own, hbel⟩
set_option maxHeartbeats 8000000 in
set_option maxRecDepth 100000 in
theorem ciValues_any (i0 i1 : Int) (ga : Option Addr) (gn gc : Nat) (oa : Option Addr) (on oc : Nat) (a : Option Addr) (n c : Nat) (G V : List Int) (w : World) (hg : Flat 3 w ga gn gc G) (hv : Ints w a n c V) (hk : ∀ j, j < gn → gbB (G.getD (j * 3) 0) (G.getD (j * 3 + 1) 0) (G.getD (j * 3 + 2) 0) ((n + j : Nat) : Int) = true) (hV : Bt V) (hn : n ≤ 100) (hgn : gn ≤ 1000) :
    Calls Try.prog 111 #[.agg #[.int .i64 i0, .int .i64 i1, .slice ga gn gc, .slice oa on oc], .slice a n c] w fun e w' => ∃ a1 c1, e = .returned (.slice a1 (n + gn) c1) ∧ Own w' w.heap.size a1 (n + gn) c1 (evL G V gn) ∧ Below w.heap.size w w' := by
  have HK := Lib.hid hk
  clear hk
  have HB := Lib.hid (fun j => evL_bits G hV j)
  clear hV
  have HL := Lib.hid hv.len
  have V0 : Below w.heap.size w (w.alloc (.cells #[.int .i64 i0, .int .i64 i1, .slice ga gn gc, .slice oa on oc] 28)) := (Below.refl _ _).alloc (Nat.le_refl _) _
  have R0 : Blk (w.alloc (.cells #[.int .i64 i0, .int .i64 i1, .slice ga gn gc, .slice oa on oc] 28)) w.heap.size 28 #[.int .i64 i0, .int .i64 i1, .slice ga gn gc, .slice oa on oc] := Blk.new w _ _
  have hv0 := hv.below V0
  have hg0 := hg.below V0
  have hz0 : w.heap.size < (w.alloc (.cells #[.int .i64 i0, .int .i64 i1, .slice ga gn gc, .slice oa on oc] 28)).heap.size := by simp
  go_enter Try.func111, Try.ntmps111
  go_wp2_with fail
  generalize (w.alloc (.cells #[.int .i64 i0, .int .i64 i1, .slice ga gn gc, .slice oa on oc] 28)) = w0 at *
  refine (l1Own_any _ _ _ _ _ hv0 (by omega)).mono ?_; rintro e w1 ⟨a1, c1, rfl, o1, u1⟩
  have V1 := V0.trans (u1.mono V0.size)
  have R1 := R0.below u1
  have own1 := o1.lower V0.size
  have x2 : w1.cell? ⟨w.heap.size, 2, none⟩ = some (.slice ga gn gc) := R1.cell 2
  clear o1 u1 V0 R0 hg0 hv0 hz0 R1
  go_wp2
  go_loopw [13, 5] (fun u v wr => ∃ j, j ≤ gn ∧ u = .int .i64 (j : Nat) ∧ ∃ a1 c1, v = .slice a1 (n + j) c1 ∧ Own wr w.heap.size a1 (n + j) c1 (evL G V j) ∧ Below w.heap.size w wr) (fun u _ _ => gn - (intOf u).toNat)
  case atStart => exact ⟨0, Nat.zero_le _, rfl, _, _, rfl, own1, V1⟩
  case round =>
    obtain ⟨j, hj, rfl, a2, c2, rfl, own, hbel⟩ := hrel
    clear own1 V1
    by_cases hlt : j < gn
    · obtain ⟨g, o, rfl, hc⟩ := (hg.below hbel).at (by omega)
      have c0 : wr.cell? ⟨g, o + j * 3, none⟩ = some (.int .i64 (G.getD (j * 3) 0)) := by have := hc (j * 3) (by omega); simpa only [Nat.add_assoc] using this
      have c1 : wr.cell? ⟨g, o + j * 3 + 1, none⟩ = some (.int .i64 (G.getD (j * 3 + 1) 0)) := by have := hc (j * 3 + 1) (by omega); simpa only [Nat.add_assoc] using this
      have c2 : wr.cell? ⟨g, o + j * 3 + 2, none⟩ = some (.int .i64 (G.getD (j * 3 + 2) 0)) := by have := hc (j * 3 + 2) (by omega); simpa only [Nat.add_assoc] using this
      clear hc
      have hgb := HK.out j hlt
      have HS := Lib.hid (evL_succ G V j)
      have hbt := HB.out j
      generalize G.getD (j * 3) 0 = kd at *
      generalize G.getD (j * 3 + 1) 0 = ka at *
      generalize G.getD (j * 3 + 2) 0 = kb at *
      generalize evL G V j = L at *
      have HFT := Lib.hid (fun k hk => (own.feet k hk).2)
      obtain ⟨N, hN⟩ : ∃ N, N = n + j := ⟨_, rfl⟩
      rw [← hN] at own hgb ⊢
      have hN1 : n + (j + 1) = N + 1 := by omega
      have HN := Lib.hid hN1
      have hNb : N ≤ 2000 := by omega
      clear hN1 hN
      go_upto_region 5 with fail
      have u2 : Below wr.heap.size wr (wr.alloc (.cells #[.int .i64 kd, .int .i64 ka, .int .i64 kb] 90)) := (Below.refl _ _).alloc (Nat.le_refl _) _
      have B2 : Blk (wr.alloc (.cells #[.int .i64 kd, .int .i64 ka, .int .i64 kb] 90)) wr.heap.size 90 #[.int .i64 kd, .int .i64 ka, .int .i64 kb] := Blk.new wr _ _
      have hw2 : wr.heap.size < (wr.alloc (.cells #[.int .i64 kd, .int .i64 ka, .int .i64 kb] 90)).heap.size := by simp
      have own2 := own.below u2
      have bel2 := hbel.trans (u2.mono hbel.size)
      clear own hbel u2 c0 c1 c2
      generalize (wr.alloc (.cells #[.int .i64 kd, .int .i64 ka, .int .i64 kb] 90)) = w2 at *
      have y0 : w2.cell? ⟨wr.heap.size, 0, none⟩ = some (.int .i64 kd) := B2.cell 0
      have y1 : w2.cell? ⟨wr.heap.size, 1, none⟩ = some (.int .i64 ka) := B2.cell 1
      have y2 : w2.cell? ⟨wr.heap.size, 2, none⟩ = some (.int .i64 kb) := B2.cell 2
      have hs2 : w.heap.size ≤ w2.heap.size := bel2.size
      clear B2
      rcases gb_cases hgb with ⟨rfl, ha0, ha1, hb0, hb1⟩ | ⟨rfl, ha0, ha1, hb0, hb1⟩ | ⟨rfl, ha0, ha1⟩ | rfl
      · clear hgb
        obtain ⟨ia, rfl⟩ : ∃ ia : Nat, ka = ia := ⟨ka.toNat, by omega⟩
        have hia : ia < N := by omega
        obtain ⟨g1, rfl, hgb1, hgw1, d1, -⟩ := own2.at ia hia
        have hx := hbt.at ia
        simp only [Int.toNat_natCast] at HS
        have hia2 : (ia : Int) < (N : Int) := by omega
        obtain ⟨ib, rfl⟩ : ∃ ib : Nat, kb = ib := ⟨kb.toNat, by omega⟩
        have hib : ib < N := by omega
        obtain ⟨_, E, -, -, d2, -⟩ := own2.at ib hib
        cases E
        simp only [Int.toNat_natCast] at HS
        have hib2 : (ib : Int) < (N : Int) := by omega
        generalize hy : L.getD ib 0 = y at *
        have HY := Lib.hid hy
        clear hy
        generalize hx1 : L.getD ia 0 = x at *
        have HX := Lib.hid hx1
        clear hx1
        have HE : Hid (evL G V (j + 1) = L ++ [bits BinOp.xor IntKind.i64 x y]) := HS.out
        clear HS
        have HFN : Hid (wr.heap.size ∉ foot (some ⟨g1, 0, none⟩) c2) := fun h => Nat.lt_irrefl _ (HFT.out _ h)
        have HI := Lib.hid hia
        have HJ := Lib.hid hib
        go_wp2_with fail
        go_region_held3 (fun W => W.cell? ⟨wr.heap.size, 1, none⟩ = some (.int .i64 (ia : Int)) ∧ W.cell? ⟨wr.heap.size, 2, none⟩ = some (.int .i64 (ib : Int)) ∧ W.cell? ⟨g1, ia, none⟩ = some (.int .i64 x) ∧ W.cell? ⟨g1, ib, none⟩ = some (.int .i64 y))
          (first | exact ⟨keepG g6 (by simp; omega) HFN.out (keepA _ y1), keepG g6 (by simp; omega) HFN.out (keepA _ y2), hold6.cl _ HI.out HX.out, hold6.cl _ HJ.out HY.out⟩ | exact ⟨keepA _ y1, keepA _ y2, keepA _ d1, keepA _ d2⟩ | go_keep)
          (first | (refine step_appI _ (by rfl) _ _ (by rfl) w.heap.size _ N _ L (by rfl) (own2.alloc _).drew _ 1 1 [bits BinOp.xor IntKind.i64 x y] (by rfl) (Ints.lit1 _ _ _).drew (by omega) (by simp; omega) ?_; intro a6 c6 w5 o6 u6 g6 hold6))
        have b3 := (bel2.drew.alloc bel2.drew.size (.cells #[.int .i64 (bits BinOp.xor IntKind.i64 x y)] 3)).trans u6
        clear g6 hold6
        rw [← HE.out] at o6
        clear u6 bel2 own2 y0 y1 y2 d1 d2
        go_wp2
        go_roundw
        case rel => exact ⟨j + 1, by omega, by go_num, a6, c6, by rw [HN.out], by rw [HN.out]; exact o6, b3⟩
        case measure => simp [intOf]; omega
      · clear hgb
        obtain ⟨ia, rfl⟩ : ∃ ia : Nat, ka = ia := ⟨ka.toNat, by omega⟩
        have hia : ia < N := by omega
        obtain ⟨g1, rfl, hgb1, hgw1, d1, -⟩ := own2.at ia hia
        have hx := hbt.at ia
        simp only [Int.toNat_natCast] at HS
        have hia2 : (ia : Int) < (N : Int) := by omega
        obtain ⟨ib, rfl⟩ : ∃ ib : Nat, kb = ib := ⟨kb.toNat, by omega⟩
        have hib : ib < N := by omega
        obtain ⟨_, E, -, -, d2, -⟩ := own2.at ib hib
        cases E
        simp only [Int.toNat_natCast] at HS
        have hib2 : (ib : Int) < (N : Int) := by omega
        generalize hy : L.getD ib 0 = y at *
        have HY := Lib.hid hy
        clear hy
        generalize hx1 : L.getD ia 0 = x at *
        have HX := Lib.hid hx1
        clear hx1
        have HE : Hid (evL G V (j + 1) = L ++ [bits BinOp.and IntKind.i64 x y]) := HS.out
        clear HS
        have HFN : Hid (wr.heap.size ∉ foot (some ⟨g1, 0, none⟩) c2) := fun h => Nat.lt_irrefl _ (HFT.out _ h)
        have HI := Lib.hid hia
        have HJ := Lib.hid hib
        go_wp2_with fail
        go_region_held3 (fun W => W.cell? ⟨wr.heap.size, 1, none⟩ = some (.int .i64 (ia : Int)) ∧ W.cell? ⟨wr.heap.size, 2, none⟩ = some (.int .i64 (ib : Int)) ∧ W.cell? ⟨g1, ia, none⟩ = some (.int .i64 x) ∧ W.cell? ⟨g1, ib, none⟩ = some (.int .i64 y))
          (first | exact ⟨keepG g6 (by simp; omega) HFN.out (keepA _ y1), keepG g6 (by simp; omega) HFN.out (keepA _ y2), hold6.cl _ HI.out HX.out, hold6.cl _ HJ.out HY.out⟩ | exact ⟨keepA _ y1, keepA _ y2, keepA _ d1, keepA _ d2⟩ | go_keep)
          (first | (refine step_appI _ (by rfl) _ _ (by rfl) w.heap.size _ N _ L (by rfl) (own2.alloc _).drew _ 1 1 [bits BinOp.and IntKind.i64 x y] (by rfl) (Ints.lit1 _ _ _).drew (by omega) (by simp; omega) ?_; intro a6 c6 w5 o6 u6 g6 hold6))
        have b3 := (bel2.drew.alloc bel2.drew.size (.cells #[.int .i64 (bits BinOp.and IntKind.i64 x y)] 3)).trans u6
        clear g6 hold6
        rw [← HE.out] at o6
        clear u6 bel2 own2 y0 y1 y2 d1 d2
        go_wp2
        go_roundw
        case rel => exact ⟨j + 1, by omega, by go_num, a6, c6, by rw [HN.out], by rw [HN.out]; exact o6, b3⟩
        case measure => simp [intOf]; omega
      · clear hgb
        obtain ⟨ia, rfl⟩ : ∃ ia : Nat, ka = ia := ⟨ka.toNat, by omega⟩
        have hia : ia < N := by omega
        obtain ⟨g1, rfl, hgb1, hgw1, d1, -⟩ := own2.at ia hia
        have hx := hbt.at ia
        simp only [Int.toNat_natCast] at HS
        have hia2 : (ia : Int) < (N : Int) := by omega
        generalize hx1 : L.getD ia 0 = x at *
        have HX := Lib.hid hx1
        clear hx1
        have HE : Hid (evL G V (j + 1) = L ++ [1 - x]) := HS.out
        clear HS
        have t1 : IntKind.i64.wrap (1 - x) = 1 - x := IntWalk.i64_in _ (by omega)
        go_wp2_with (at_builtin; refine wpList_appI _ rfl _ _ rfl w.heap.size _ N _ L rfl (own2.alloc _) _ 1 1 [1 - x] rfl (Ints.lit1 _ _ _) (by omega) (by simp; omega) ?_)
        intro a6 c6 w5 o6 u6 _
        have b3 := (bel2.alloc bel2.size (.cells #[.int .i64 (1 - x)] 3)).trans u6
        rw [← HE.out] at o6
        clear u6 bel2 own2 y0 y1 y2 d1
        go_wp2
        go_roundw
        case rel => exact ⟨j + 1, by omega, by go_num, a6, c6, by rw [HN.out], by rw [HN.out]; exact o6, b3⟩
        case measure => simp [intOf]; omega
      · clear hgb
        have HE : Hid (evL G V (j + 1) = L ++ [1]) := HS.out
        clear HS
        go_wp2_with (at_builtin; refine wpList_appI _ rfl _ _ rfl w.heap.size _ N _ L rfl (own2.alloc _) _ 1 1 [1] rfl (Ints.lit1 _ _ _) (by omega) (by simp; omega) ?_)
        intro a6 c6 w5 o6 u6 _
        have b3 := (bel2.alloc bel2.size (.cells #[.int .i64 (1)] 3)).trans u6
        rw [← HE.out] at o6
        clear u6 bel2 own2 y0 y1 y2
        go_wp2
        go_roundw
        case rel => exact ⟨j + 1, by omega, by go_num, a6, c6, by rw [HN.out], by rw [HN.out]; exact o6, b3⟩
        case measure => simp [intOf]; omega
    · obtain rfl : j = gn := by omega
      go_wp2
      go_ret
      exact ⟨_, _, rfl, own, hbel⟩
end Go.Proofs.Ytmbheimjphhamaa
namespace Go.Proofs.Ytmbheimjphhamaa
open Go.RowKit
/-- The number of bits. -/
def num : List Int → Int
  | [] => 0
  | x :: l => x + 2 * num l
theorem num_snoc (l : List Int) (x : Int) : num (l ++ [x]) = num l + x * 2 ^ l.length := by
  induction l with
  | nil => simp [num]
  | cons y l ih => simp only [List.cons_append, num, ih, List.length_cons, Int.pow_succ]; rw [Int.mul_add, ← Int.add_assoc, Int.mul_left_comm 2 x, Int.mul_comm 2 (2 ^ l.length)]
theorem num_take (l : List Int) (k : Nat) (h : k < l.length) : num (l.take (k + 1)) = num (l.take k) + l.getD k 0 * 2 ^ k := by
  rw [List.take_succ_eq_append_getElem h, num_snoc, List.length_take, Nat.min_eq_left (by omega)]
  simp [List.getD, h]
theorem num_drop (l : List Int) (k : Nat) (h : k < l.length) : num (l.drop k) = 2 * num (l.drop (k + 1)) + l.getD k 0 := by
  rw [List.drop_eq_getElem_cons h, num, Int.add_comm]
  simp [List.getD, h]
theorem num_rng {l : List Int} (h : Bt l) (h4 : l.length ≤ 4) : 0 ≤ num l ∧ num l < 2 ^ l.length := by
  match l, h4 with
  | [], _ => simp [num]
  | [a], _ => have := h a (by simp); simp [num]; omega
  | [a, b], _ => have := h a (by simp); have := h b (by simp); simp [num]; omega
  | [a, b, c], _ => have := h a (by simp); have := h b (by simp); have := h c (by simp); simp [num]; omega
  | [a, b, c, d], _ => have := h a (by simp); have := h b (by simp); have := h c (by simp); have := h d (by simp); simp [num]; omega
theorem Bt.take {l : List Int} (h : Bt l) (k : Nat) : Bt (l.take k) := fun x hx => h x (List.mem_of_mem_take hx)
theorem Bt.drop {l : List Int} (h : Bt l) (k : Nat) : Bt (l.drop k) := fun x hx => h x (List.mem_of_mem_drop hx)
theorem or_bit (N x : Int) (k : Nat) (h0 : 0 ≤ N) (h1 : N < 2 ^ k) (hk : k < 4) (hx : x = 0 ∨ x = 1) : bits BinOp.or IntKind.i64 N (x * 2 ^ k) = N + x * 2 ^ k := by
  rcases hx with rfl | rfl
  · have : N < 8 := by rcases (by omega : k = 0 ∨ k = 1 ∨ k = 2 ∨ k = 3) with rfl | rfl | rfl | rfl <;> omega
    rw [Int.zero_mul]
    rcases (by omega : N = 0 ∨ N = 1 ∨ N = 2 ∨ N = 3 ∨ N = 4 ∨ N = 5 ∨ N = 6 ∨ N = 7) with rfl | rfl | rfl | rfl | rfl | rfl | rfl | rfl <;> decide
  · rcases (by omega : k = 0 ∨ k = 1 ∨ k = 2 ∨ k = 3) with rfl | rfl | rfl | rfl
    · rcases (by omega : N = 0) with rfl; decide
    · rcases (by omega : N = 0 ∨ N = 1) with rfl | rfl <;> decide
    · rcases (by omega : N = 0 ∨ N = 1 ∨ N = 2 ∨ N = 3) with rfl | rfl | rfl | rfl <;> decide
    · rcases (by omega : N = 0 ∨ N = 1 ∨ N = 2 ∨ N = 3 ∨ N = 4 ∨ N = 5 ∨ N = 6 ∨ N = 7) with rfl | rfl | rfl | rfl | rfl | rfl | rfl | rfl <;> decide
set_option maxHeartbeats 4000000 in
set_option maxRecDepth 100000 in
theorem btNum_any (a : Option Addr) (n c : Nat) (l : List Int) (w : World) (h : Ints w a n c l) (hb : Bt l) (hn : n ≤ 4) :
    Calls Try.prog 109 #[.slice a n c] w fun e w' => e = .returned (.int .i64 (num l)) ∧ ∃ m, w' = w.drewN m := by
  have HL := Lib.hid h.len
  have HT := Lib.hid hb.drop
  have HB := Lib.hid hb.at
  clear hb
  go_enter Try.func109, Try.ntmps109
  go_wp2
  go_loopw [4, 3] (fun v u wr => ∃ k : Nat, k ≤ n ∧ v = .int .i64 ((k : Int) - 1) ∧ u = .int .i64 (num (l.drop k)) ∧ ∃ m, wr = w.drewN m) (fun v _ _ => (intOf v + 1).toNat)
  case atStart => exact ⟨n, Nat.le_refl _, rfl, v_int (by rw [List.drop_of_length_le (by have := HL.out; omega)]; rfl), 0, rfl⟩
  case round =>
    obtain ⟨k, hkn, rfl, rfl, m, rfl⟩ := hrel
    cases k with
    | succ k =>
      have hlt : k < n := by omega
      obtain ⟨g, o, rfl, e0⟩ := h.at k hlt
      have hlen := HL.out
      have hx := HB.out k
      have HS := Lib.hid (num_drop l k (by omega))
      obtain ⟨r0, r1⟩ := num_rng (HT.out (k + 1)) (by rw [List.length_drop]; omega)
      have r2 : num (l.drop (k + 1)) < 16 := by
        refine Int.lt_of_lt_of_le r1 ?_
        rw [List.length_drop]
        rcases (by omega : l.length - (k + 1) = 0 ∨ l.length - (k + 1) = 1 ∨ l.length - (k + 1) = 2 ∨ l.length - (k + 1) = 3) with h | h | h | h <;> rw [h] <;> decide
      clear r1
      generalize num (l.drop (k + 1)) = N at *
      generalize l.getD k 0 = x at *
      have hki : ((k + 1 : Nat) : Int) - 1 = (k : Int) := by omega
      rw [hki]
      have t1 : IntKind.i64.wrap (2 * N) = 2 * N := IntWalk.i64_in _ (by omega)
      have t2 : IntKind.i64.wrap (2 * N + x) = 2 * N + x := IntWalk.i64_in _ (by omega)
      have hk0 : (0 : Int) ≤ (k : Int) := by omega
      clear hki
      go_wp2
      go_roundw
      case rel => exact ⟨k, by omega, rfl, v_int HS.out.symm, m, rfl⟩
      case measure => simp [intOf]
    | zero =>
      have hneg : ((0 : Nat) : Int) - 1 = -1 := by omega
      rw [hneg]
      go_wp2
      go_ret
      exact ⟨rfl, m, rfl⟩
/-- The elements of F at the places O. -/
def pkL (F O : List Int) (k : Nat) : List Int := (List.range k).map fun i => F.getD (O.getD i 0).toNat 0
theorem pkL_succ (F O : List Int) (k : Nat) : pkL F O (k + 1) = pkL F O k ++ [F.getD (O.getD k 0).toNat 0] := by simp [pkL, List.range_succ]
theorem pkL_len (F O : List Int) (k : Nat) : (pkL F O k).length = k := by simp [pkL]
theorem pkL_bits {F : List Int} (h : Bt F) (O : List Int) (k : Nat) : Bt (pkL F O k) := fun x hx => by
  obtain ⟨i, _, rfl⟩ := List.mem_map.1 hx
  exact h.at _
set_option maxHeartbeats 4000000 in
set_option maxRecDepth 100000 in
theorem pk_at (a : Option Addr) (n c : Nat) (F : List Int) (oa : Option Addr) (on oc : Nat) (O : List Int) (w : World) (h : Ints w a n c F) (hO : Ints w oa on oc O) (_hn : n ≤ 100000) (hon : on ≤ 100000) (hr : ∀ x ∈ O, 0 ≤ x ∧ x ≤ (n : Int) - 1) :
    Calls Try.prog 90 #[.slice a n c, .slice oa on oc] w fun e w' => ∃ a1 c1, e = .returned (.slice a1 on c1) ∧ Own w' w.heap.size a1 on c1 (pkL F O on) ∧ Below w.heap.size w w' := by
  have HR := Lib.hid hr
  have HL := Lib.hid hO.len
  clear hr
  go_enter Try.func90, Try.ntmps90
  go_wp2
  go_loopw [11, 5] (fun v u wr => ∃ k : Nat, k ≤ on ∧ v = .int .i64 k ∧ Below w.heap.size w wr ∧ ∃ a1 c1, u = .slice a1 k c1 ∧ Own wr w.heap.size a1 k c1 (pkL F O k)) (fun v _ _ => on - (intOf v).toNat)
  case atStart => exact ⟨0, Nat.zero_le _, rfl, (Below.refl _ _).alloc (Nat.le_refl _) _, _, _, rfl, Own.nil0 _ _ _⟩
  case round =>
    obtain ⟨k, hkn, rfl, hbel, a1, c1, rfl, own⟩ := hrel
    by_cases hlt : k < on
    · have ro := HR.out _ (getD_mem O k (by rw [← HL.out]; exact hlt))
      have HS := Lib.hid (pkL_succ F O k)
      obtain ⟨g, o, rfl, e0⟩ := (hO.below hbel).at k hlt
      generalize O.getD k 0 = q at *
      obtain ⟨j, rfl⟩ : ∃ j : Nat, q = j := ⟨q.toNat, by omega⟩
      simp only [Int.toNat_natCast] at HS
      have hj : j < n := by omega
      obtain ⟨g', o', rfl, e1⟩ := (h.below hbel).at j hj
      generalize F.getD j 0 = x at *
      go_wp2_with (at_builtin; refine wpList_appI _ rfl _ _ rfl w.heap.size a1 k c1 (pkL F O k) rfl (own.alloc _) _ 1 1 [x] rfl (Ints.lit1 _ _ _) (by omega) (by have := hbel.size; simp; omega) ?_)
      intro a5 c5 w3 o5 u5 _
      rw [← HS.out] at o5
      have b3 := (hbel.alloc hbel.size _).trans u5
      clear u5 hbel own e0 e1
      go_wp2
      go_roundw
      case rel => exact ⟨k + 1, by omega, by go_num, b3, a5, c5, rfl, o5⟩
      case measure => simp [intOf]; omega
    · obtain rfl : k = on := by omega
      go_wp2
      go_ret
      exact ⟨_, _, rfl, own, hbel⟩
set_option maxHeartbeats 4000000 in
set_option maxRecDepth 100000 in
theorem pk_ciPick (a : Option Addr) (n c : Nat) (F : List Int) (oa : Option Addr) (on oc : Nat) (O : List Int) (w : World) (h : Ints w a n c F) (hO : Ints w oa on oc O) (_hn : n ≤ 100000) (hon : on ≤ 100000) (hr : ∀ x ∈ O, 0 ≤ x ∧ x ≤ (n : Int) - 1) :
    Calls Try.prog 110 #[.slice a n c, .slice oa on oc] w fun e w' => ∃ a1 c1, e = .returned (.slice a1 on c1) ∧ Own w' w.heap.size a1 on c1 (pkL F O on) ∧ Below w.heap.size w w' := by
  have HR := Lib.hid hr
  have HL := Lib.hid hO.len
  clear hr
  go_enter Try.func110, Try.ntmps110
  go_wp2
  go_loopw [10, 5] (fun v u wr => ∃ k : Nat, k ≤ on ∧ v = .int .i64 k ∧ Below w.heap.size w wr ∧ ∃ a1 c1, u = .slice a1 k c1 ∧ Own wr w.heap.size a1 k c1 (pkL F O k)) (fun v _ _ => on - (intOf v).toNat)
  case atStart => exact ⟨0, Nat.zero_le _, rfl, Below.refl _ _, _, _, rfl, Own.nil0 _ _ _⟩
  case round =>
    obtain ⟨k, hkn, rfl, hbel, a1, c1, rfl, own⟩ := hrel
    by_cases hlt : k < on
    · have ro := HR.out _ (getD_mem O k (by rw [← HL.out]; exact hlt))
      have HS := Lib.hid (pkL_succ F O k)
      obtain ⟨g, o, rfl, e0⟩ := (hO.below hbel).at k hlt
      generalize O.getD k 0 = q at *
      obtain ⟨j, rfl⟩ : ∃ j : Nat, q = j := ⟨q.toNat, by omega⟩
      simp only [Int.toNat_natCast] at HS
      have hj : j < n := by omega
      obtain ⟨g', o', rfl, e1⟩ := (h.below hbel).at j hj
      generalize F.getD j 0 = x at *
      go_wp2_with (at_builtin; refine wpList_appI _ rfl _ _ rfl w.heap.size a1 k c1 (pkL F O k) rfl (own.alloc _) _ 1 1 [x] rfl (Ints.lit1 _ _ _) (by omega) (by have := hbel.size; simp; omega) ?_)
      intro a5 c5 w3 o5 u5 _
      rw [← HS.out] at o5
      have b3 := (hbel.alloc hbel.size _).trans u5
      clear u5 hbel own e0 e1
      go_wp2
      go_roundw
      case rel => exact ⟨k + 1, by omega, by go_num, b3, a5, c5, rfl, o5⟩
      case measure => simp [intOf]; omega
    · obtain rfl : k = on := by omega
      go_wp2
      go_ret
      exact ⟨_, _, rfl, own, hbel⟩
end Go.Proofs.Ytmbheimjphhamaa
namespace Go.Proofs.Ytmbheimjphhamaa
open Go.RowKit
theorem Ints.cut {w : World} {a : Option Addr} {n c : Nat} {l : List Int} (h : Ints w a n c l) (lo hi mx : Nat) (h1 : lo ≤ hi) (h2 : hi ≤ n) (h3 : hi ≤ mx) (h4 : mx ≤ c) :
    Ints w (if mx = lo then a else a.map (·.add lo)) (hi - lo) (mx - lo) ((l.drop lo).take (hi - lo)) := by
  obtain ⟨e1, e2, e3, e4, g, o, e5, e6⟩ := h
  refine ⟨by rw [List.length_take, List.length_drop]; omega, by omega, by omega, fun e => ?_, g, o + lo, fun h0 => ?_, fun i hi' => ?_⟩
  · split at e
    · omega
    · cases a with
      | none => have := e4 rfl; omega
      | some x => simp at e
  · rw [if_neg (by omega), e5 (by omega)]
    simp [Addr.add]
  · have := e6 (lo + i) (by omega)
    rw [← Nat.add_assoc] at this
    rw [this]
    simp [List.getD, hi']
theorem Ints.from_ {w : World} {a : Option Addr} {n c : Nat} {l : List Int} (h : Ints w a n c l) (lo : Nat) (h1 : lo ≤ n) :
    Ints w (if c = lo then a else a.map (·.add lo)) (n - lo) (c - lo) (l.drop lo) := by
  have := h.cut lo n c h1 (Nat.le_refl _) h.2.1 (Nat.le_refl _)
  rw [List.take_of_length_le (by rw [List.length_drop, ← h.len]; exact Nat.le_refl _)] at this
  exact this
theorem Ints.upto {w : World} {a : Option Addr} {n c : Nat} {l : List Int} (h : Ints w a n c l) (hi : Nat) (h1 : hi ≤ n) : Ints w a hi c (l.take hi) := by
  obtain ⟨e1, e2, e3, e4, g, o, e5, e6⟩ := h
  refine ⟨by rw [List.length_take]; omega, by omega, e3, e4, g, o, fun h0 => e5 (by omega), fun i hi' => ?_⟩
  rw [e6 i (by omega)]
  simp [List.getD, hi']
/-- The bits of the first numbers. -/
def cbL (l : List Int) (w : Nat) : Nat → List Int
  | 0 => []
  | k + 1 => cbL l w k ++ btL (l.getD k 0) w
theorem cbL_succ (l : List Int) (w k : Nat) : cbL l w (k + 1) = cbL l w k ++ btL (l.getD k 0) w := rfl
theorem cbL_len (l : List Int) (w k : Nat) : (cbL l w k).length = k * w := by
  induction k with
  | zero => simp [cbL]
  | succ k ih => rw [cbL_succ, List.length_append, ih, btL_len, Nat.succ_mul]
theorem btL_bits (x : Int) (n : Nat) : Bt (btL x n) := fun y hy => by
  obtain ⟨i, _, rfl⟩ := List.mem_map.1 hy
  omega
theorem cbL_bits (l : List Int) (w k : Nat) : Bt (cbL l w k) := by
  induction k with
  | zero => exact Bt.nil
  | succ k ih => rw [cbL_succ]; exact ih.app (btL_bits _ _)
/-- The numbers of the first words of bits. -/
def cnL (l : List Int) (w : Nat) : Nat → List Int
  | 0 => []
  | k + 1 => cnL l w k ++ [num ((l.drop (k * w)).take w)]
theorem cnL_succ (l : List Int) (w k : Nat) : cnL l w (k + 1) = cnL l w k ++ [num ((l.drop (k * w)).take w)] := rfl
theorem cnL_len (l : List Int) (w k : Nat) : (cnL l w k).length = k := by
  induction k with
  | zero => rfl
  | succ k ih => rw [cnL_succ, List.length_append, ih]; rfl
set_option maxHeartbeats 4000000 in
theorem meWidths_any (x : Int) (n : Nat) (w : World) (hn : n ≤ 1000) :
    Calls Try.prog 96 #[.int .i64 x, .int .i64 n] w fun e w' => ∃ a c, e = .returned (.slice a n c) ∧ Own w' w.heap.size a n c (List.replicate n x) ∧ Below w.heap.size w w' := by
  go_enter Try.func96, Try.ntmps96
  go_wp2
  go_loopw [5, 1] (fun u y wr => ∃ k : Nat, k ≤ n ∧ y = .int .i64 ((n - k : Nat) : Int) ∧ Below w.heap.size w wr ∧ ∃ a1 c1, u = .slice a1 k c1 ∧ Own wr w.heap.size a1 k c1 (List.replicate k x)) (fun _ y _ => (intOf y).toNat)
  case atStart => exact ⟨0, by omega, rfl, Below.refl _ _, _, _, rfl, Own.nil0 _ _ _⟩
  case round =>
    obtain ⟨k, hk, rfl, hbel, a1, c1, rfl, own⟩ := hrel
    by_cases hlt : k < n
    · obtain ⟨m, hm⟩ : ∃ m, n - k = m + 1 := ⟨n - k - 1, by omega⟩
      have HM := Lib.hid (show n - (k + 1) = m by omega)
      have HS := Lib.hid (show List.replicate (k + 1) x = List.replicate k x ++ [x] from List.replicate_succ')
      rw [hm]
      have hm60 : m ≤ 1000 := by omega
      have hk0 : k ≤ 1000 := by omega
      clear hm
      go_wp2_with (at_builtin; refine wpList_appI _ rfl _ _ rfl w.heap.size a1 k c1 (List.replicate k x) rfl (own.alloc _) _ 1 1 [x] rfl (Ints.lit1 _ _ _) (by omega) (by have := hbel.size; simp; omega) ?_)
      intro a5 c5 w3 o5 u5 _
      rw [← HS.out] at o5
      have b3 := (hbel.alloc hbel.size (.cells #[.int .i64 x] 3)).trans u5
      clear u5 hbel own
      go_wp2
      go_roundw
      case rel => exact ⟨k + 1, by omega, by rw [HM.out], b3, a5, c5, rfl, o5⟩
      case measure => simp [intOf]
    · obtain rfl : k = n := by omega
      have hz : k - k = 0 := by omega
      rw [hz]
      go_wp2
      go_ret
      exact ⟨a1, c1, rfl, own, hbel⟩
set_option maxHeartbeats 4000000 in
theorem coBits_any (wd n : Nat) (a : Option Addr) (c : Nat) (a' : Option Addr) (n' c' : Nat) (l : List Int) (w : World) (h : Ints w a n c (List.replicate n (wd : Int))) (h' : Ints w a' n' c' l) (hn : n ≤ 100) (hnn : n ≤ n') (hw : wd ≤ 60) (hl : ∀ x ∈ l, 0 ≤ x ∧ x ≤ 1000000000) :
    Calls Try.prog 95 #[.slice a n c, .slice a' n' c'] w fun e w' => ∃ a1 c1, e = .returned (.slice a1 (n * wd) c1) ∧ Own w' w.heap.size a1 (n * wd) c1 (cbL l wd n) ∧ Below w.heap.size w w' := by
  have HR := Lib.hid hl
  have HL := Lib.hid h'.len
  clear hl
  go_enter Try.func95, Try.ntmps95
  go_wp2
  go_loopw [10, 5] (fun v u wr => ∃ k : Nat, k ≤ n ∧ v = .int .i64 k ∧ Below w.heap.size w wr ∧ ∃ a1 c1 K, u = .slice a1 K c1 ∧ K = k * wd ∧ Own wr w.heap.size a1 K c1 (cbL l wd k)) (fun v _ _ => n - (intOf v).toNat)
  case atStart => exact ⟨0, Nat.zero_le _, rfl, Below.refl _ _, _, _, 0, rfl, by simp, Own.nil0 _ _ _⟩
  case round =>
    obtain ⟨k, hkn, rfl, hbel, a1, c1, K, rfl, hK, own⟩ := hrel
    by_cases hlt : k < n
    · have ro := HR.out _ (getD_mem l k (by rw [← HL.out]; omega))
      have HS := Lib.hid (cbL_succ l wd k)
      have HK1 := Lib.hid (show K + wd = (k + 1) * wd by rw [hK, Nat.succ_mul])
      have hKb : K ≤ 6000 := by rw [hK]; exact Nat.le_trans (Nat.mul_le_mul (show k ≤ 100 by omega) hw) (by decide)
      clear hK
      obtain ⟨g, o, rfl, e0⟩ := (h.below hbel).at k hlt
      rw [show (List.replicate n (wd : Int)).getD k 0 = (wd : Int) by simp [List.getD, hlt]] at e0
      obtain ⟨g', o', rfl, e1⟩ := (h'.below hbel).at k (by omega)
      have hk2 : (k : Int) < (n' : Int) := by omega
      generalize l.getD k 0 = x at *
      go_wp2_with fail
      refine (btOf_any x wd _ ro hw).mono ?_; rintro e w2 ⟨a2, c2, rfl, o2, u2⟩
      have own2 := own.below u2
      have bel2 := hbel.trans (u2.mono hbel.size)
      clear own u2 e0 e1
      go_wp2_with (at_builtin; refine wpList_appI _ rfl _ _ rfl w.heap.size a1 K c1 (cbL l wd k) rfl own2 _ wd c2 (btL x wd) rfl o2.ints (by omega) bel2.size ?_)
      intro a5 c5 w3 o5 u5 _
      rw [← HS.out, HK1.out] at o5
      have b3 := bel2.trans u5
      clear u5 hbel own2 bel2 o2
      go_wp2
      go_roundw
      case rel => exact ⟨k + 1, by omega, by go_num, b3, a5, c5, _, rfl, HK1.out, by rw [HK1.out]; exact o5⟩
      case measure => simp [intOf]; omega
    · obtain rfl : k = n := by omega
      subst hK
      go_wp2
      go_ret
      exact ⟨_, _, rfl, own, hbel⟩
set_option maxHeartbeats 4000000 in
theorem coNumbers_any (wd m : Nat) (a : Option Addr) (c : Nat) (a' : Option Addr) (n' c' : Nat) (l : List Int) (w : World) (h : Ints w a m c (List.replicate m (wd : Int))) (h' : Ints w a' n' c' l) (hm : m ≤ 100) (hn : n' = m * wd) (hw : wd ≤ 4) (hb : Bt l) :
    Calls Try.prog 97 #[.slice a m c, .slice a' n' c'] w fun e w' => ∃ a1 c1, e = .returned (.slice a1 m c1) ∧ Own w' w.heap.size a1 m c1 (cnL l wd m) ∧ Below w.heap.size w w' := by
  have HB := Lib.hid (fun k => (hb.drop (k * wd)).take wd)
  have HL := Lib.hid h'.len
  have HN := Lib.hid hn
  clear hb
  go_enter Try.func97, Try.ntmps97
  go_wp2
  go_loopw [10, 5, 1] (fun v u y wr => ∃ k : Nat, k ≤ m ∧ v = .int .i64 k ∧ Below w.heap.size w wr ∧ (∃ a1 c1, u = .slice a1 k c1 ∧ Own wr w.heap.size a1 k c1 (cnL l wd k)) ∧ ∃ a2 n2 c2, y = .slice a2 n2 c2 ∧ n2 + k * wd = n' ∧ Ints w a2 n2 c2 (l.drop (k * wd))) (fun v _ _ _ => m - (intOf v).toNat)
  case atStart => exact ⟨0, Nat.zero_le _, rfl, Below.refl _ _, ⟨_, _, rfl, Own.nil0 _ _ _⟩, _, _, _, rfl, by simp, by simpa using h'⟩
  case round =>
    obtain ⟨k, hkn, rfl, hbel, ⟨a1, c1, rfl, own⟩, a2, n2, c2, rfl, hn2, hi2⟩ := hrel
    by_cases hlt : k < m
    · have HS := Lib.hid (cnL_succ l wd k)
      have hwn : wd ≤ n2 := by
        have : (k + 1) * wd ≤ m * wd := Nat.mul_le_mul_right _ hlt
        rw [Nat.succ_mul] at this
        omega
      have HN2 := Lib.hid (show n2 - wd + (k + 1) * wd = n' by rw [Nat.succ_mul]; omega)
      have hcap := hi2.2.1
      obtain ⟨g, o, rfl, e0⟩ := (h.below hbel).at k hlt
      rw [show (List.replicate m (wd : Int)).getD k 0 = (wd : Int) by simp [List.getD, hlt]] at e0
      have i1 := (hi2.below hbel).upto wd hwn
      have i2 := hi2.from_ wd hwn
      rw [List.drop_drop, show k * wd + wd = (k + 1) * wd by rw [Nat.succ_mul]] at i2
      have hb1 : (wd : Int) ≤ (c2 : Int) := by omega
      have hb2 : (wd : Int) ≤ (n2 : Int) := by omega
      have hb0 : (0 : Int) ≤ (wd : Int) := by omega
      have hbt := HB.out k
      generalize (l.drop (k * wd)).take wd = p at *
      go_wp2_with fail
      refine (btNum_any _ _ _ p _ i1 hbt hw).mono ?_; rintro e w2 ⟨rfl, q, rfl⟩
      go_wp2_with (at_builtin; refine wpList_appI _ rfl _ _ rfl w.heap.size a1 k c1 (cnL l wd k) rfl ((own.below (below_of_drewN q)).alloc _) _ 1 1 [num p] rfl (Ints.lit1 _ _ _) (by omega) (by have := hbel.size; simp; omega) ?_)
      intro a5 c5 w3 o5 u5 g5
      rw [← HS.out] at o5
      have b3 := ((below_drewN hbel q).alloc (below_drewN hbel q).size (.cells #[.int .i64 (num p)] 3)).trans u5
      clear u5 g5 own hbel i1 e0
      go_wp2
      go_roundw
      case rel => exact ⟨k + 1, by omega, by go_num, b3, ⟨a5, c5, rfl, o5⟩, _, _, _, rfl, HN2.out, i2⟩
      case measure => simp [intOf]; omega
    · obtain rfl : k = m := by omega
      go_wp2
      go_ret
      exact ⟨_, _, rfl, own, hbel⟩
end Go.Proofs.Ytmbheimjphhamaa
namespace Go.Proofs.Ytmbheimjphhamaa
open Go.RowKit
/-- The number of cells that a circuit returns. -/
def meN (k n : Nat) : Nat := if k = 0 ∨ k = 1 then 1 else n
theorem meO_len (k n w : Nat) (h1 : 1 ≤ n) (h2 : n ≤ 8) : (meG k n w).2.length = meN k n * w := by
  unfold meG meN
  have hce := ceL_len w n
  have hca := ceL_all w n
  by_cases k0 : k = 0
  · rw [if_pos k0, if_pos (Or.inl k0), Nat.one_mul]
    exact (scG_len hca n (by omega)).2 (by omega)
  · rw [if_neg k0]
    by_cases k1 : k = 1
    · rw [if_pos k1, if_pos (Or.inr k1), Nat.one_mul]
      obtain ⟨_, ⟨h3, _⟩, h4⟩ := trG_len (B := meB n w (wid n) 0) (idx := meI n w (wid n)) (G := []) hca (by omega) (by omega) (wid n)
      exact h4.at 0 h3
    · rw [if_neg k1, if_neg (show ¬ (k = 0 ∨ k = 1) by omega)]
      by_cases k2 : k = 2
      · rw [if_pos k2]
        have := (wrG_len (meB n w (wid n) w) (meI n w (wid n)) (spL ((n * w : Nat) + (wid n : Nat) : Int) w) (ceL w n) [] n).2
        rw [spL_len] at this
        rw [Nat.mul_comm n w]
        exact this
      · rw [if_neg k2]
        obtain ⟨_, h3, h4⟩ := tuG_len (B := meB n w (wid n) 0) (idx := meI n w (wid n)) (G := []) hca (wid n)
        have := flatten_len h4
        rw [h3, hce, Nat.mul_comm w n] at this
        exact this
def mrNI (k n w : Nat) : Nat := n * w + (wid n + meMore k w)
theorem mrNI_le (k n w : Nat) (h2 : n ≤ 8) (h4 : w ≤ 4) : mrNI k n w ≤ 39 := by
  unfold mrNI meMore
  have := wid8 n h2
  have : n * w ≤ 8 * 4 := Nat.mul_le_mul h2 h4
  split <;> omega
theorem mr_gates (k n w : Nat) (h : memB n w = true) : ∀ j, j < (meG k n w).1.length / 3 → gbB ((meG k n w).1.getD (j * 3) 0) ((meG k n w).1.getD (j * 3 + 1) 0) ((meG k n w).1.getD (j * 3 + 2) 0) ((mrNI k n w + j : Nat) : Int) = true := fun j hj => by
  have := m_ok k n w h
  unfold ciB at this
  simp only [Bool.and_eq_true] at this
  have h2 := List.all_eq_true.1 this.1.2 j (List.mem_range.2 hj)
  unfold gbAt at h2
  have e : ((mrNI k n w + j : Nat) : Int) = ((n * w : Nat) : Int) + (((wid (n : Int) : Nat) : Int) + ((meMore k w : Nat) : Int)) + (j : Int) := by unfold mrNI; omega
  rw [e]
  exact h2
theorem mr_outs (k n w : Nat) (h : memB n w = true) : ∀ x ∈ (meG k n w).2, 0 ≤ x ∧ x ≤ ((mrNI k n w + (meG k n w).1.length / 3 : Nat) : Int) - 1 := fun x hx => by
  have := m_ok k n w h
  unfold ciB at this
  simp only [Bool.and_eq_true] at this
  have h2 := (allB_iff _ _ _).1 this.2 x hx
  unfold mrNI
  omega
/-- The inputs of a run. -/
def mrV (n w : Nat) (l : List Int) (i : Int) (mo : List Int) : List Int := cbL l w n ++ (btL i (wid n) ++ mo)
theorem mrV_len (k n w : Nat) (l : List Int) (i : Int) (mo : List Int) (hm : mo.length = meMore k w) : (mrV n w l i mo).length = mrNI k n w := by
  unfold mrV mrNI
  rw [List.length_append, List.length_append, cbL_len, btL_len, hm]
theorem mrV_bits (n w : Nat) (l : List Int) (i : Int) (mo : List Int) (hm : Bt mo) : Bt (mrV n w l i mo) := (cbL_bits _ _ _).app ((btL_bits _ _).app hm)
def mrO (k n w : Nat) (l : List Int) (i : Int) (mo : List Int) : List Int := pkL (evL (meG k n w).1 (mrV n w l i mo) ((meG k n w).1.length / 3)) (meG k n w).2 (meN k n * w)
theorem mrO_len (k n w : Nat) (l : List Int) (i : Int) (mo : List Int) : (mrO k n w l i mo).length = meN k n * w := pkL_len _ _ _
theorem mrO_bits (k n w : Nat) (l : List Int) (i : Int) (mo : List Int) (hm : Bt mo) : Bt (mrO k n w l i mo) := pkL_bits (evL_bits _ (mrV_bits _ _ _ _ _ hm) _) _ _
/-- The numbers that a run returns. -/
def mrR (k n w : Nat) (l : List Int) (i : Int) (mo : List Int) : List Int := cnL (mrO k n w l i mo) w (meN k n)
theorem mrR_len (k n w : Nat) (l : List Int) (i : Int) (mo : List Int) : (mrR k n w l i mo).length = meN k n := cnL_len _ _ _
end Go.Proofs.Ytmbheimjphhamaa
namespace Go.Proofs.Ytmbheimjphhamaa
open Go.RowKit
def tcR (wd : Int) (l : List Int) (i : Int) : List Int := if celB wd l i then mrR 3 l.length wd.toNat l i [] else []
def wcB (wd : Int) (l : List Int) (i v : Int) : Bool := celB wd l i && inB v 0 (2 ^ wd.toNat - 1)
def wcR (wd : Int) (l : List Int) (i v : Int) : List Int := if wcB wd l i v then mrR 2 l.length wd.toNat l i (btL v wd.toNat) else []
def rcV (k : Nat) (wd : Int) (l : List Int) (i : Int) : Int := if celB wd l i then (mrR k l.length wd.toNat l i []).getD 0 0 else 0
def trK (t : Bool) : Nat := if t then 1 else 0
theorem p2_le {k : Nat} (h : k ≤ 4) : (2 : Int) ^ k ≤ 16 ∧ (1 : Int) ≤ 2 ^ k := by
  rcases (by omega : k = 0 ∨ k = 1 ∨ k = 2 ∨ k = 3 ∨ k = 4) with rfl | rfl | rfl | rfl | rfl <;> decide
theorem celT_true {wd : Nat} {l : List Int} {i : Int} (hw : wd ≤ 4) (hl : l.length ≤ 8) (h : celT wd l i = true) : (∀ x ∈ l, 0 ≤ x ∧ x ≤ 1000000000) ∧ (0 ≤ i ∧ i ≤ 1000000000) := by
  unfold celT at h
  rw [Bool.and_eq_true] at h
  have h1 := (allB_iff _ _ _).1 h.1
  have h2 := of_decide_eq_true h.2
  have := p2_le hw
  have := p2_le (k := wid (l.length : Int)) (by have := wid8 l.length hl; omega)
  rw [Int.toNat_natCast] at h1
  exact ⟨fun x hx => by have := h1 x hx; omega, by omega⟩
end Go.Proofs.Ytmbheimjphhamaa
namespace Go.Proofs.Ytmbheimjphhamaa
open Go.RowKit Go.Shelf
attribute [local go_sem] Oper.semAt_some
/-- A part of a row of bits that lies in w0. -/
def Prt (w0 : World) : Type := { x : (Option Addr × Nat × Nat) × List Int // Ints w0 x.1.1 x.1.2.1 x.1.2.2 x.2 ∧ Bt x.2 ∧ x.1.2.1 ≤ 4 }
def Prt.enc {w0 : World} (x : Prt w0) : Array Value := #[.slice x.1.1.1 x.1.1.2.1 x.1.1.2.2]
theorem prt_ok {w0 : World} {a : Option Addr} {n c : Nat} {l : List Int} (h : Ints w0 a n c l) (hb : Bt l) {wd K : Nat} (hw : 1 ≤ wd ∧ wd ≤ 4) (hK : K + wd ≤ n) : Ints w0 (a.map (·.add K)) wd wd ((l.drop K).take wd) ∧ Bt ((l.drop K).take wd) ∧ wd ≤ 4 := by
  have h2 := h.cut K (K + wd) (K + wd) (by omega) hK (Nat.le_refl _) (Nat.le_trans hK h.2.1)
  rw [if_neg (by omega), Nat.add_sub_cancel_left] at h2
  exact ⟨h2, (hb.drop K).take wd, hw.2⟩
def prt {w0 : World} {a : Option Addr} {n c : Nat} {l : List Int} (h : Ints w0 a n c l) (hb : Bt l) {wd : Nat} (hw : 1 ≤ wd ∧ wd ≤ 4) (K : Nat) (hK : K + wd ≤ n) : Prt w0 := ⟨((a.map (·.add K), wd, wd), (l.drop K).take wd), prt_ok h hb hw hK⟩
set_option maxRecDepth 100000 in
set_option maxHeartbeats 2000000 in
theorem chunk1_in (F : Fence) (n : Nat) (h7 : F.fn 107) (hro : F.round = none) (hn : 1 ≤ n) (l Bs Bw : Nat) (w0 : World) (a : Option Addr) (m len cap wd : Nat) (zs : List Int) (hI : Ints w0 a len cap zs) (hb : Bt zs) (hw : 1 ≤ wd ∧ wd ≤ 4) (hlen : len = m * wd) (hm : m ≤ 100) (Kp : World → World → Prop) (hKp : ∀ A B, Kp A B → B.cell? ⟨Bs, 0, none⟩ = A.cell? ⟨Bs, 0, none⟩ ∧ B.cell? ⟨Bw, 0, none⟩ = A.cell? ⟨Bw, 0, none⟩) (J Jx : List (Prt w0) → World → Prop)
    (hY : ∀ pre x W, J pre W → pre.length < m → YieldAt F (n - 1) Try.prog l (Prt.enc x) W fun e W' =>
      (e = .returned (.bool true) ∧ J (pre ++ [x]) W' ∧ Kp W W') ∨ (e = .returned (.bool false) ∧ Jx (pre ++ [x]) W'))
    (hJd : ∀ ys W, J ys W → J ys W.drew) (W : World) (hBs : W.cell? ⟨Bs, 0, none⟩ = some (.slice a len cap)) (hBw : W.cell? ⟨Bw, 0, none⟩ = some (.int .i64 (wd : Int))) (h0 : J [] W) :
    CallsIn F n Try.prog 107 #[.func (.yield l) #[] #[], .pointer (some ⟨Bs, 0, none⟩), .pointer (some ⟨Bw, 0, none⟩)] W fun e W' => (∃ v, e = .returned v) ∧
      ((∃ ys : List (Prt w0), ys.map (fun x => x.1.2) = (List.range m).map (fun k => (zs.drop (k * wd)).take wd) ∧ J ys W') ∨ (∃ pre, Jx pre W')) := by
  refine callsIn_of_wp Try.func107 rfl h7 ?_ hro
  simp only [Try.ntmps107, List.size_toArray, List.length_cons, List.length_nil, Nat.reduceAdd, Nat.reduceSub, Array.replicate_succ, Array.replicate_zero, List.push_toArray, List.append_toArray, List.nil_append, List.cons_append]
  have HLEN := Lib.hid hlen
  clear hlen
  gi_wp2
  gi_loopw [4] (fun i wr => ∃ (k : Nat) (ys : List (Prt w0)), k ≤ m ∧ i = .int .i64 ((k * wd : Nat) : Int) ∧ ys.length = k ∧ ys.map (fun x => x.1.2) = (List.range k).map (fun k => (zs.drop (k * wd)).take wd) ∧ J ys wr ∧ wr.cell? ⟨Bs, 0, none⟩ = some (.slice a len cap) ∧ wr.cell? ⟨Bw, 0, none⟩ = some (.int .i64 (wd : Int)))
    (fun i _ => len - (intOf i).toNat)
  case atStart => exact ⟨0, [], Nat.zero_le _, by simp, rfl, rfl, h0, hBs, hBw⟩
  case round =>
    obtain ⟨k, ys, hk, rfl, hyl, hys, hJs, hc1, hc2⟩ := hrel
    by_cases hlt : k < m
    · have hKl : k * wd + wd ≤ len := by rw [HLEN.out, ← Nat.succ_mul]; exact Nat.mul_le_mul_right _ hlt
      have hK1 := Lib.hid (show (k + 1) * wd = k * wd + wd from Nat.succ_mul _ _)
      have hK2 : k * wd ≤ 400 := Nat.le_trans (Nat.mul_le_mul (show k ≤ 100 by omega) hw.2) (by decide)
      obtain ⟨K, hK⟩ : ∃ K, K = k * wd := ⟨_, rfl⟩
      obtain ⟨fn, tmps, assign, body, hy, hR⟩ := hY _ (prt (w0 := w0) hI hb hw (k * wd) hKl) wr.drew (hJd _ _ hJs) (by rw [hyl]; exact hlt)
      unfold Prt.enc prt at hy
      dsimp only at hy
      rw [← hK] at hK1 hK2 hKl hy ⊢
      have hKK := Lib.hid hK
      clear hK
      have f1 : (K : Int) < (len : Int) := by omega
      have f2 : (K : Int) ≤ (len : Int) := by omega
      have f3 : (0 : Int) ≤ (K : Int) := by omega
      have f4 : (K : Int) + (wd : Int) ≤ (cap : Int) := by have := hI.2.1; omega
      have f5 : IntKind.i64.wrap ((K : Int) + (wd : Int)) = (K : Int) + (wd : Int) := IntWalk.i64_in _ (by omega)
      have f6 : wd ≤ len - K := by omega
      have f7 : (wd : Int) ≤ ((len - K : Nat) : Int) := by omega
      have f8 : K ≤ len := by omega
      have f9 : wd ≤ cap := by have := hI.2.1; omega
      have f10 : ¬ cap = K := by have := hI.2.1; omega
      have f11 : ¬ len - K < wd := by omega
      have f12 : K + wd ≤ cap := by have := hI.2.1; omega
      clear hY
      gi_wp2
      gi_region
      all_goals
        gi_wp2
        refine hR.mono ?_
        rintro e W3 (⟨rfl, hJ3, hk3⟩ | ⟨rfl, hJx3⟩)
        · have hc3 : W3.cell? ⟨Bw, 0, none⟩ = some (.int .i64 (wd : Int)) := (hKp _ _ hk3).2.trans hc2
          have hc4 : W3.cell? ⟨Bs, 0, none⟩ = some (.slice a len cap) := (hKp _ _ hk3).1.trans hc1
          gi_wp2
          go_roundw
          · exact ⟨k + 1, _, by omega, by rw [hK1.out]; simp, by rw [List.length_append, hyl]; rfl, by rw [List.map_append, hys, List.range_succ, List.map_append]; rfl, hJ3, hc4, hc3⟩
          · simp [intOf]; omega
        · gi_wp2
          refine bodyPost_ret (results_none rfl _ _ _) rfl ?_
          exact ⟨⟨_, rfl⟩, .inr ⟨_, hJx3⟩⟩
    · obtain rfl : k = m := by omega
      rw [← HLEN.out]
      have hge : ¬ (len : Int) < (len : Int) := by omega
      gi_wp2
      go_end0
      exact ⟨⟨_, rfl⟩, .inl ⟨_, hys, hJs⟩⟩
end Go.Proofs.Ytmbheimjphhamaa
namespace Go.Proofs.Ytmbheimjphhamaa
open Go.RowKit Go.Shelf
set_option maxHeartbeats 2000000 in
theorem chunk_any (a : Option Addr) (n c wd : Nat) (w : World) (hw : 1 ≤ wd ∧ wd ≤ 4) :
    Calls Try.prog 92 #[.slice a n c, .int .i64 wd] w fun e w' => e = .returned (.func (.func 107) #[] #[.pointer (some ⟨w.heap.size, 0, none⟩), .pointer (some ⟨w.heap.size + 1, 0, none⟩)]) ∧
      w' = (w.alloc (.cells #[.slice a n c] 26)).alloc (.cells #[.int .i64 (wd : Int)] 3) := by
  have hge : ¬ (wd : Int) < 1 := by omega
  have hge2 : decide ((wd : Int) < 1) = false := decide_eq_false hge
  go_enter Try.func92, Try.ntmps92
  go_wp2
  go_ret
  exact ⟨rfl, rfl⟩
theorem chunk_stops (F : Fence) (n : Nat) (h7 : F.fn 107) (hro : F.round = none) (hn : 1 ≤ n) (Bs Bw : Nat) (wp w0 : World) (a : Option Addr) (m len cap wd : Nat) (zs : List Int) (hI : Ints wp a len cap zs) (hb : Bt zs) (hw : 1 ≤ wd ∧ wd ≤ 4) (hlen : len = m * wd) (hm : m ≤ 100)
    (Kp : World → World → Prop) (hKp : ∀ A B, Kp A B → B.cell? ⟨Bs, 0, none⟩ = A.cell? ⟨Bs, 0, none⟩ ∧ B.cell? ⟨Bw, 0, none⟩ = A.cell? ⟨Bw, 0, none⟩) (hBl : Bs < w0.heap.size ∧ Bw < w0.heap.size) (hBs : w0.cell? ⟨Bs, 0, none⟩ = some (.slice a len cap)) (hBw : w0.cell? ⟨Bw, 0, none⟩ = some (.int .i64 (wd : Int))) :
    SeqStopsK F n Try.prog 107 #[.pointer (some ⟨Bs, 0, none⟩), .pointer (some ⟨Bw, 0, none⟩)] (Prt.enc (w0 := wp)) Kp
      (fun ys => ys.map (fun x => x.1.2) = (List.range m).map (fun k => (zs.drop (k * wd)).take wd)) (fun _ => True) m w0 := fun l J Jx W hW hJ _ hY h0 => by
  refine (chunk1_in F n h7 hro hn l Bs Bw wp a m len cap wd zs hI hb hw hlen hm Kp hKp J Jx hY (fun ys W1 hJs => hJ ys W1 W1.drew none hJs ⟨rfl, rfl, rfl, Nat.le_refl _, fun _ _ _ => rfl⟩ (fun r e => by cases e)) W ((hW.cell (p := ⟨Bs, 0, none⟩) hBl.1).trans hBs) ((hW.cell (p := ⟨Bw, 0, none⟩) hBl.2).trans hBw) h0).mono ?_
  rintro e W' ⟨he, ⟨ys, hy, hj⟩ | ⟨pre, hj⟩⟩
  · exact ⟨he, .inl ⟨ys, hy, hj⟩⟩
  · exact ⟨he, .inr ⟨pre, trivial, hj⟩⟩
end Go.Proofs.Ytmbheimjphhamaa
namespace Go.Proofs.Ytmbheimjphhamaa
open Go.RowKit
set_option maxHeartbeats 4000000 in
theorem ciJoin_any (a : Option Addr) (n c : Nat) (l : List Int) (a' : Option Addr) (n' c' : Nat) (l' : List Int) (w : World) (h : Ints w a n c l) (h' : Ints w a' n' c' l') (hn : n ≤ 100000) (hn' : n' ≤ 100000) :
    Calls Try.prog 94 #[.slice a n c, .slice a' n' c'] w fun e w' => ∃ a1 c1, e = .returned (.slice a1 (n + n') c1) ∧ Own w' w.heap.size a1 (n + n') c1 (l ++ l') ∧ Below w.heap.size w w' := by
  go_enter Try.func94, Try.ntmps94
  go_wp2_with fail
  refine (l1Own_any a n c l w h (by omega)).mono ?_; rintro e w1 ⟨a1, c1, rfl, o1, u1⟩
  go_wp2_with (at_builtin; refine wpList_appI _ rfl _ _ rfl w.heap.size a1 n c1 l rfl o1 _ n' c' l' rfl (h'.below u1) (by omega) u1.size ?_)
  intro a5 c5 w3 o5 u5 _
  have b3 := u1.trans u5
  clear u1 u5 o1
  go_wp2
  go_ret
  exact ⟨_, _, rfl, o5, b3⟩
set_option maxHeartbeats 8000000 in
set_option maxRecDepth 100000 in
theorem ciOuts_any (i0 i1 : Int) (ga : Option Addr) (gn gc : Nat) (oa : Option Addr) (on oc : Nat) (a : Option Addr) (n c : Nat) (G V O : List Int) (w : World) (hg : Flat 3 w ga gn gc G) (hv : Ints w a n c V) (hO : Ints w oa on oc O) (hk : ∀ j, j < gn → gbB (G.getD (j * 3) 0) (G.getD (j * 3 + 1) 0) (G.getD (j * 3 + 2) 0) ((n + j : Nat) : Int) = true) (hV : Bt V) (hn : n ≤ 100) (hgn : gn ≤ 1000) (hon : on ≤ 1000) (hr : ∀ x ∈ O, 0 ≤ x ∧ x ≤ ((n + gn : Nat) : Int) - 1) :
    Calls Try.prog 98 #[.agg #[.int .i64 i0, .int .i64 i1, .slice ga gn gc, .slice oa on oc], .slice a n c] w fun e w' => ∃ a1 c1, e = .returned (.slice a1 on c1) ∧ Own w' w.heap.size a1 on c1 (pkL (evL G V gn) O on) ∧ Below w.heap.size w w' := by
  have HK := Lib.hid hk
  have HR := Lib.hid hr
  clear hk hr
  have V0 : Below w.heap.size w (w.alloc (.cells #[.int .i64 i0, .int .i64 i1, .slice ga gn gc, .slice oa on oc] 28)) := (Below.refl _ _).alloc (Nat.le_refl _) _
  have R0 : Blk (w.alloc (.cells #[.int .i64 i0, .int .i64 i1, .slice ga gn gc, .slice oa on oc] 28)) w.heap.size 28 #[.int .i64 i0, .int .i64 i1, .slice ga gn gc, .slice oa on oc] := Blk.new w _ _
  have hv0 := hv.below V0
  have hg0 := hg.below V0
  have hO0 := hO.below V0
  go_enter Try.func98, Try.ntmps98
  go_wp2_with fail
  generalize (w.alloc (.cells #[.int .i64 i0, .int .i64 i1, .slice ga gn gc, .slice oa on oc] 28)) = w0 at *
  have x0 : w0.cell? ⟨w.heap.size, 0, none⟩ = some (.int .i64 i0) := R0.cell 0
  have x1 : w0.cell? ⟨w.heap.size, 1, none⟩ = some (.int .i64 i1) := R0.cell 1
  have x2 : w0.cell? ⟨w.heap.size, 2, none⟩ = some (.slice ga gn gc) := R0.cell 2
  have x3 : w0.cell? ⟨w.heap.size, 3, none⟩ = some (.slice oa on oc) := R0.cell 3
  clear R0
  go_region_held3 (fun W => W.cell? ⟨w.heap.size, 0, none⟩ = some (.int .i64 i0) ∧ W.cell? ⟨w.heap.size, 1, none⟩ = some (.int .i64 i1) ∧ W.cell? ⟨w.heap.size, 2, none⟩ = some (.slice ga gn gc) ∧ W.cell? ⟨w.heap.size, 3, none⟩ = some (.slice oa on oc))
    (first | exact ⟨keepC u5 (keepC u4 x0), keepC u5 (keepC u4 x1), keepC u5 (keepC u4 x2), keepC u5 (keepC u4 x3)⟩ | exact ⟨keepC u4 x0, keepC u4 x1, keepC u4 x2, keepC u4 x3⟩ | go_keep)
    (first | (go_at_call 111; refine (ciValues_any i0 i1 ga gn gc oa on oc a n c G V _ hg0.drew hv0.drew HK.out hV hn hgn).mono ?_; rintro e w4 ⟨a4, c4, rfl, o4, u4⟩) | (go_at_call 110; have _ := u4; refine (pk_ciPick a4 (n + gn) c4 _ oa on oc O _ o4.ints (hO0.drew.below u4) (by omega) (by omega) HR.out).mono ?_; rintro e w5 ⟨a5, c5, rfl, o5, u5⟩))
  have V5 : Below w.heap.size w w5 := V0.trans ((Below.refl _ _).drew.trans ((u4.mono V0.size).trans (u5.mono (Nat.le_trans V0.size u4.size))))
  have o6 := o5.lower (b' := w.heap.size) (Nat.le_trans V0.size u4.size)
  clear o4 u4 u5 o5
  go_wp2
  go_ret
  exact ⟨_, _, rfl, o6, V5⟩
end Go.Proofs.Ytmbheimjphhamaa
namespace Go.Proofs.Ytmbheimjphhamaa
open Go.RowKit
set_option maxHeartbeats 4000000 in
set_option maxRecDepth 100000 in
theorem number_same (a : Option Addr) (n c : Nat) (l : List Int) (w : World) (h : Ints w a n c l) (hb : Bt l) (hn : n ≤ 4) :
    Calls Try.prog 93 #[.slice a n c] w fun e w' => e = .returned (.int .i64 (num l)) ∧ w' = w := by
  have HL := Lib.hid h.len
  have HT := Lib.hid hb.take
  have HB := Lib.hid hb.at
  clear hb
  go_enter Try.func93, Try.ntmps93
  go_wp2
  go_loop [8, 3] (fun v u => ∃ k : Nat, k ≤ n ∧ v = .int .i64 k ∧ u = .int .i64 (num (l.take k))) (fun v _ => n - (intOf v).toNat)
  case atStart => exact ⟨0, Nat.zero_le _, rfl, rfl⟩
  case round =>
    obtain ⟨k, hkn, rfl, rfl⟩ := hrel
    by_cases hlt : k < n
    · obtain ⟨g, o, rfl, e0⟩ := h.at k hlt
      have hlen := HL.out
      have hx := HB.out k
      have HS := Lib.hid (num_take l k (by omega))
      obtain ⟨r0, r1⟩ := num_rng (HT.out k) (by rw [List.length_take]; omega)
      rw [List.length_take, Nat.min_eq_left (by omega)] at r1
      generalize num (l.take k) = N at *
      generalize l.getD k 0 = x at *
      have t3 := or_bit N x k r0 r1 (by omega) hx
      have t2 : IntKind.u64.wrap (k : Int) = (k : Int) := IntWalk.u64_in _ (by omega)
      have hp : (2 : Int) ^ k ≤ 8 ∧ (1 : Int) ≤ 2 ^ k := by rcases (by omega : k = 0 ∨ k = 1 ∨ k = 2 ∨ k = 3) with rfl | rfl | rfl | rfl <;> simp
      have hm : 0 ≤ x * 2 ^ k ∧ x * 2 ^ k ≤ 8 := by rcases hx with rfl | rfl <;> omega
      have t1 : wrap64 (x * 2 ^ k) = x * 2 ^ k := IntWalk.wrap64_in _ (by omega)
      have T := Lib.hid (show bits BinOp.or IntKind.i64 N (wrap64 (x * 2 ^ k)) = num (l.take (k + 1)) by rw [t1, t3, HS.out])
      have hk64 : (k : Int) < 64 := by omega
      clear hx r0 r1 hp hm t3 t1 HS
      go_wp2
      go_round
      case rel => exact ⟨k + 1, by omega, by go_num, v_int T.out⟩
      case measure => simp [intOf]; omega
    · obtain rfl : k = n := by omega
      have HX := Lib.hid (show num (l.take k) = num l by rw [List.take_of_length_le (by have := HL.out; omega)])
      go_wp2
      go_ret
      exact ⟨ret_int HX.out, rfl⟩
theorem stepIn_appI {F : Fence} {nn : Nat} (w : World) {ops : Array Oper} {o : Oper} {act : Act} {K : Act → World → Prop} {Q : Exit → Act → World → Prop} {E : Prop} (hgd : o.guard = none) (s x : Operand)
    (ho : o.op = .call { callee := .builtin .append, args := #[s, x], argTypes := #[26, 26] })
    (b : Nat) (a : Option Addr) (n c : Nat) (l : List Int) (hs : act.eval s = .slice a n c) (hown : Own w b a n c l)
    (a' : Option Addr) (m c' : Nat) (l' : List Int) (hx : act.eval x = .slice a' m c') (hrow : Ints w a' m c' l')
    (hlen : n + m ≤ 1000000000000) (hbase : b ≤ w.heap.size)
    (h : ∀ a2 c2 w', Own w' b a2 (n + m) c2 (l ++ l') → Below b w w' → w.grownBy w' (rowOf a c) → K (act.put o.dst (.slice a2 (n + m) c2)) w') :
    if Region.wanted o (yielded ops act.tmps) = true then Oper.wpIn F nn Try.prog o act w K Q else E := by
  rw [if_pos (by simp [Region.wanted, hgd])]
  obtain ⟨a2, c2, w', hrun, h1, h2, h3, _⟩ := run_appI w o.type b a n c l hown a' m c' l' hrow hlen hbase
  unfold Oper.wpIn
  refine ⟨?_, ?_⟩
  · simp [Oper.about, ho, resolve, Target.leads, Sem.run_pure]
  · rw [Oper.semAt_plain F _ _ (by rw [ho]; intro c hc'; cases hc')]
    simp [execOp, ho, resolve, invoke, builtin, hs, hx, hrun, Result.andThen]
    exact h a2 c2 w' h1 h2 h3
end Go.Proofs.Ytmbheimjphhamaa
namespace Go.Proofs.Ytmbheimjphhamaa
open Go.RowKit Go.Shelf
theorem keepL {B : Nat} {w w' : World} {p : Addr} {v : Value} (u : Below B w w') (hb : p.block < B) (h : w.cell? p = some v) : w'.cell? p = some v := (u.cell hb).trans h
theorem Own.keptR {w w' : World} {row : Option Nat} {b : Nat} {a : Option Addr} {n c : Nat} {l : List Int} (h : Own w b a n c l) (hg : w.grownBy w' row) (hr : ∀ r, row = some r → ∃ o : Obj, w.heap[r]? = some o ∧ o.isCells = false) : Own w' b a n c l :=
  ⟨h.1, h.2.1, h.2.2.1, h.2.2.2.1, fun hc => by
    obtain ⟨g, cur, e1, e2, e3, e4⟩ := h.2.2.2.2 hc
    refine ⟨g, cur, e1, e2, (hg.block g (Array.getElem?_eq_some_iff.1 e3).1 (fun e => ?_)).trans e3, e4⟩
    obtain ⟨o, ho, hc2⟩ := hr g e.symm
    rw [e3] at ho
    cases ho
    cases hc2⟩
theorem Own.rowCells {w : World} {b : Nat} {a : Option Addr} {n c : Nat} {l : List Int} (h : Own w b a n c l) : ∀ j o, rowOf a c = some j → w.heap[j]? = some o → o.isCells = true := fun j o hj ho => by
  unfold rowOf at hj
  split at hj
  · cases hj
  · obtain ⟨g, cur, e1, e2, e3, e4⟩ := h.2.2.2.2 (by omega)
    subst e1
    simp at hj
    subst hj
    rw [e3] at ho
    cases ho
    rfl
theorem cell_far (w : World) (p q : Addr) (u : Value) (h : q.block ≠ p.block) : (w.setCell p u).cell? q = w.cell? q := by unfold World.cell?; rw [Below.heap_setCell w p u q.block h]
theorem cnL_range (l : List Int) (w m : Nat) : cnL l w m = (List.range m).map fun k => num ((l.drop (k * w)).take w) := by
  induction m with
  | zero => rfl
  | succ m ih => rw [cnL_succ, ih, List.range_succ, List.map_append]; rfl
set_option maxHeartbeats 8000000 in
set_option maxRecDepth 100000 in
theorem runMemory_any (i0 i1 : Int) (ga : Option Addr) (gn gc : Nat) (oa : Option Addr) (on oc : Nat) (wd : Nat) (a : Option Addr) (n c : Nat) (wa : Option Addr) (wn wc : Nat) (G O l wo : List Int) (m : Nat) (w : World)
    (hg : Flat 3 w ga gn gc G) (hO : Ints w oa on oc O) (h : Ints w a n c l) (hwo : Ints w wa wn wc wo)
    (hk : ∀ j, j < gn → gbB (G.getD (j * 3) 0) (G.getD (j * 3 + 1) 0) (G.getD (j * 3 + 2) 0) ((n * wd + wn + j : Nat) : Int) = true) (hr : ∀ x ∈ O, 0 ≤ x ∧ x ≤ ((n * wd + wn + gn : Nat) : Int) - 1)
    (hb : Bt wo) (hl : ∀ x ∈ l, 0 ≤ x ∧ x ≤ 1000000000) (hn : n ≤ 8) (hw : 1 ≤ wd ∧ wd ≤ 4) (hwn : wn ≤ 8) (hgn : gn ≤ 1000) (hm : m ≤ 100) (hon : on = m * wd) :
    Calls Try.prog 60 #[.agg #[.int .i64 i0, .int .i64 i1, .slice ga gn gc, .slice oa on oc], .int .i64 wd, .slice a n c, .slice wa wn wc] w fun e w' => ∃ a1 c1, e = .returned (.slice a1 m c1) ∧ Own w' w.heap.size a1 m c1 (cnL (pkL (evL G (cbL l wd n ++ wo) gn) O on) wd m) ∧ Below w.heap.size w w' := by
  have hnw : n * wd ≤ 8 * 4 := Nat.mul_le_mul hn hw.2
  have hon4 : on ≤ 100 * 4 := by rw [hon]; exact Nat.mul_le_mul hm hw.2
  have HON := Lib.hid hon
  have HK := Lib.hid hk
  have HR := Lib.hid hr
  have HRL := Lib.hid hl
  have HL := Lib.hid h.len
  have HBV := Lib.hid ((cbL_bits l wd n).app hb)
  clear hk hr hon hl hb
  have V0 : Below w.heap.size w (w.alloc (.cells #[.int .i64 i0, .int .i64 i1, .slice ga gn gc, .slice oa on oc] 28)) := (Below.refl _ _).alloc (Nat.le_refl _) _
  have R0 : Blk (w.alloc (.cells #[.int .i64 i0, .int .i64 i1, .slice ga gn gc, .slice oa on oc] 28)) w.heap.size 28 #[.int .i64 i0, .int .i64 i1, .slice ga gn gc, .slice oa on oc] := Blk.new w _ _
  have hz0 : w.heap.size < (w.alloc (.cells #[.int .i64 i0, .int .i64 i1, .slice ga gn gc, .slice oa on oc] 28)).heap.size := by simp
  refine (callsIn_wide (n := 3)).1 ?_
  refine callsIn_of_wp_marks Try.func60 rfl trivial ?_ rfl
  simp only [Try.ntmps60, List.size_toArray, List.length_cons, List.length_nil, Nat.reduceAdd, Nat.reduceSub, Array.replicate_succ, Array.replicate_zero, List.push_toArray, List.append_toArray, List.nil_append, List.cons_append]
  refine wpIn_wide.2 ?_
  go_upto_region 1 with fail
  generalize (w.alloc (.cells #[.int .i64 i0, .int .i64 i1, .slice ga gn gc, .slice oa on oc] 28)) = w0 at *
  have own0 : Own (w0.alloc (.cells #[] 3)) w0.heap.size (some ⟨w0.heap.size, 0, none⟩) 0 0 (cbL l wd 0) := Own.nil0 _ _ _
  have bel0 : Below w0.heap.size w0 (w0.alloc (.cells #[] 3)) := (Below.refl _ _).alloc (Nat.le_refl _) _
  go_wp2
  go_loopw [18, 9] (fun v u wr => ∃ k : Nat, k ≤ n ∧ v = .int .i64 k ∧ Below w0.heap.size w0 wr ∧ ∃ a1 c1 K, u = .slice a1 K c1 ∧ K = k * wd ∧ Own wr w0.heap.size a1 K c1 (cbL l wd k)) (fun v _ _ => n - (intOf v).toNat)
  case atStart => exact ⟨0, Nat.zero_le _, rfl, bel0, _, _, 0, rfl, by simp, own0⟩
  case round =>
    obtain ⟨k, hkn, rfl, hbel, a1, c1, K, rfl, hK, own⟩ := hrel
    clear own0 bel0
    by_cases hlt : k < n
    · have ro := HRL.out _ (getD_mem l k (by rw [← HL.out]; omega))
      have HS := Lib.hid (cbL_succ l wd k)
      have HK1 := Lib.hid (show K + wd = (k + 1) * wd by rw [hK, Nat.succ_mul])
      have hKb : K ≤ 6000 := by rw [hK]; exact Nat.le_trans (Nat.mul_le_mul (show k ≤ 100 by omega) (show wd ≤ 60 by omega)) (by decide)
      clear hK
      obtain ⟨g, o, rfl, e1⟩ := (h.below (V0.trans (hbel.mono V0.size))).at k hlt
      have hwd60 : wd ≤ 60 := by omega
      generalize l.getD k 0 = x at *
      go_wp2_with fail
      refine (bitsOf_any x wd _ ro hwd60).mono ?_; rintro e w2 ⟨a2, c2, rfl, o2, u2⟩
      have own2 := own.below u2
      have bel2 := hbel.trans (u2.mono hbel.size)
      clear own u2 e1
      go_wp2_with (at_builtin; refine wpList_appI _ rfl _ _ rfl w0.heap.size a1 K c1 (cbL l wd k) rfl own2 _ wd c2 (btL x wd) rfl o2.ints (by omega) bel2.size ?_)
      intro a5 c5 w3 o5 u5 _
      rw [← HS.out, HK1.out] at o5
      have b3 := bel2.trans u5
      clear u5 hbel own2 bel2 o2
      go_wp2
      go_roundw
      case rel => exact ⟨k + 1, by omega, by go_num, b3, a5, c5, _, rfl, HK1.out, by rw [HK1.out]; exact o5⟩
      case measure => simp [intOf]; omega
    · obtain rfl : k = n := by omega
      subst hK
      go_upto_region 7 with fail
      have Vr := V0.trans (hbel.mono V0.size)
      have Rr := R0.below (hbel.mono (Nat.le_refl _))
      have x0 : wr.cell? ⟨w.heap.size, 0, none⟩ = some (.int .i64 i0) := Rr.cell 0
      have x1 : wr.cell? ⟨w.heap.size, 1, none⟩ = some (.int .i64 i1) := Rr.cell 1
      have x2 : wr.cell? ⟨w.heap.size, 2, none⟩ = some (.slice ga gn gc) := Rr.cell 2
      have x3 : wr.cell? ⟨w.heap.size, 3, none⟩ = some (.slice oa on oc) := Rr.cell 3
      have hgr := hg.below Vr
      have hOr := hO.below Vr
      have hwr := hwo.below Vr
      have hzr := hbel.size
      have Br := hbel
      clear R0 Rr HRL HL h hlt hkn hbel
      obtain ⟨K, hK⟩ : ∃ K, K = k * wd := ⟨_, rfl⟩
      rw [← hK] at hnw HK HR own
      obtain ⟨cb, hcb⟩ : ∃ cb, cb = cbL l wd k := ⟨_, rfl⟩
      rw [← hcb] at own HBV
      have HCB := Lib.hid hcb
      clear hcb
      go_region_held3 (fun W => W.cell? ⟨w.heap.size, 0, none⟩ = some (.int .i64 i0) ∧ W.cell? ⟨w.heap.size, 1, none⟩ = some (.int .i64 i1) ∧ W.cell? ⟨w.heap.size, 2, none⟩ = some (.slice ga gn gc) ∧ W.cell? ⟨w.heap.size, 3, none⟩ = some (.slice oa on oc))
        (first | exact ⟨keepC u5 (keepC u4 (keepL u3 hz0 x0)), keepC u5 (keepC u4 (keepL u3 hz0 x1)), keepC u5 (keepC u4 (keepL u3 hz0 x2)), keepC u5 (keepC u4 (keepL u3 hz0 x3))⟩ | exact ⟨keepC u4 (keepL u3 hz0 x0), keepC u4 (keepL u3 hz0 x1), keepC u4 (keepL u3 hz0 x2), keepC u4 (keepL u3 hz0 x3)⟩ | exact ⟨keepL u3 hz0 x0, keepL u3 hz0 x1, keepL u3 hz0 x2, keepL u3 hz0 x3⟩ | go_keep)
        (first | (refine step_appI _ (by rfl) _ _ (by rfl) w0.heap.size a1 (k * wd) c1 cb (by rfl) (by rw [← hK]; exact own.drew) _ wn wc wo (by rfl) hwr.drew (by omega) (by exact hzr) ?_; intro a3 c3 w3 o3 u3 g3 hold3) | (go_at_call 91; refine (values_any i0 i1 ga gn gc oa on oc a3 (k * wd + wn) c3 G (cb ++ wo) _ (hg.below (Vr.drew.trans (u3.mono V0.size))) o3.ints (by rw [← hK]; exact HK.out) HBV.out (by omega) hgn).mono ?_; rintro e w4 ⟨a4, c4, rfl, o4, u4⟩) | (go_at_call 90; refine (pk_at a4 (k * wd + wn + gn) c4 _ oa on oc O _ o4.ints ((hO.below ((Vr.drew.trans (u3.mono V0.size)))).below u4) (by omega) (by omega) (by rw [← hK]; exact HR.out)).mono ?_; rintro e w5 ⟨a5, c5, rfl, o5, u5⟩))
      have V3 := Vr.drew.trans (u3.mono V0.size)
      have V4 := V3.trans (u4.mono V3.size)
      have V5 := V4.trans (u5.mono V4.size)
      have i5 := o5.ints
      have HPB := Lib.hid (pkL_bits (evL_bits G HBV.out gn) O on)
      obtain ⟨P, hP⟩ : ∃ P, P = pkL (evL G (cb ++ wo) gn) O on := ⟨_, rfl⟩
      rw [← hP] at i5 HPB
      have HP := Lib.hid hP
      have HKK := Lib.hid hK
      clear hP hK o3 u3 o4 u4 o5 u5 g3 hold3 V3 V4 Vr x0 x1 x2 x3 hgr hOr hwr own
      go_wp2_with fail
      refine (chunk_any a5 on c5 wd _ hw).mono ?_; rintro e w7 ⟨rfl, hw7⟩
      go_wp2_with fail
      rw [← hw7]
      have hz7 : w7.heap.size = w5.heap.size + 4 := by rw [hw7]; simp
      have b7 : Below w5.heap.size w5 w7 := by rw [hw7]; exact ((((Below.refl _ w5).alloc (Nat.le_refl _) _).alloc (by simp) _).alloc (by simp; omega) _).alloc (by simp; omega) _
      have R1 : Blk ((w5.alloc (.cells #[] 3)).alloc (.cells #[.slice (some ⟨w5.heap.size, 0, none⟩) 0 0] 26)) (w5.heap.size + 1) 26 #[.slice (some ⟨w5.heap.size, 0, none⟩) 0 0] := by have := Blk.new (w5.alloc (.cells #[] 3)) 26 #[.slice (some ⟨w5.heap.size, 0, none⟩) 0 0]; rw [World.size_alloc] at this; exact this
      have R2 : Blk (((w5.alloc (.cells #[] 3)).alloc (.cells #[.slice (some ⟨w5.heap.size, 0, none⟩) 0 0] 26)).alloc (.cells #[.slice a5 on c5] 26)) (w5.heap.size + 1 + 1) 26 #[.slice a5 on c5] := by have := Blk.new ((w5.alloc (.cells #[] 3)).alloc (.cells #[.slice (some ⟨w5.heap.size, 0, none⟩) 0 0] 26)) 26 #[.slice a5 on c5]; rw [World.size_alloc, World.size_alloc] at this; exact this
      have R3 : Blk w7 (w5.heap.size + 1 + 1 + 1) 3 #[.int .i64 (wd : Int)] := by rw [hw7]; have := Blk.new (((w5.alloc (.cells #[] 3)).alloc (.cells #[.slice (some ⟨w5.heap.size, 0, none⟩) 0 0] 26)).alloc (.cells #[.slice a5 on c5] 26)) 3 #[.int .i64 (wd : Int)]; rw [World.size_alloc, World.size_alloc, World.size_alloc] at this; exact this
      have Q2 : Blk w7 (w5.heap.size + 1 + 1) 26 #[.slice a5 on c5] := by rw [hw7]; exact R2.below ((Below.refl _ _).alloc (Nat.le_refl _) _)
      have Q1 : Blk w7 (w5.heap.size + 1) 26 #[.slice (some ⟨w5.heap.size, 0, none⟩) 0 0] := by rw [hw7]; exact R1.below (((Below.refl _ _).alloc (Nat.le_refl _) _).alloc (by simp) _)
      have hB : w7.cell? ⟨w5.heap.size + 1, 0, none⟩ = some (.slice (some ⟨w5.heap.size, 0, none⟩) 0 0) ∧ w7.frozen? ⟨w5.heap.size + 1, 0, none⟩ = false := ⟨Q1.cell 0, Q1.frozen 0⟩
      have hBs : w7.cell? ⟨w5.heap.size + 1 + 1, 0, none⟩ = some (.slice a5 on c5) := Q2.cell 0
      have hBw : w7.cell? ⟨w5.heap.size + 1 + 1 + 1, 0, none⟩ = some (.int .i64 (wd : Int)) := R3.cell 0
      clear R1 R2 R3 Q1 Q2
      refine (wpIn_wide (n := 3)).1 ?_
      refine wpIn_rangeFunc_ownF (F := Fence.wide) (n := 3) rfl (by omega) (gf := 107) (lb := #[.pointer (some ⟨w5.heap.size + 1 + 1, 0, none⟩), .pointer (some ⟨w5.heap.size + 1 + 1 + 1, 0, none⟩)]) rfl trivial (enters_of Try.func107 (by kernel_rfl) (by kernel_rfl))
        (chunk_stops Fence.wide 2 trivial rfl (by omega) (w5.heap.size + 1 + 1) (w5.heap.size + 1 + 1 + 1) w5 w7 a5 m on c5 wd P i5 HPB.out hw HON.out hm
          (fun A B => Below w5.heap.size A B ∧ B.cell? ⟨w5.heap.size + 1 + 1, 0, none⟩ = A.cell? ⟨w5.heap.size + 1 + 1, 0, none⟩ ∧ B.cell? ⟨w5.heap.size + 1 + 1 + 1, 0, none⟩ = A.cell? ⟨w5.heap.size + 1 + 1 + 1, 0, none⟩) (fun A B h => h.2) ⟨by omega, by omega⟩ hBs hBw)
        (fun h h' => ⟨h.1.trans h'.1, h'.2.1.trans h.2.1, h'.2.2.trans h.2.2⟩) ?kb (Below.refl _ _) (fun _ => rfl)
        (fun pre W => (∃ a6 c6, W.cell? ⟨w5.heap.size + 1, 0, none⟩ = some (.slice a6 pre.length c6) ∧ W.frozen? ⟨w5.heap.size + 1, 0, none⟩ = false ∧ Own W w7.heap.size a6 pre.length c6 (pre.map fun x => num x.1.2)) ∧ (Below w5.heap.size w5 W ∧ w7.heap.size ≤ W.heap.size))
        (fun _ _ _ => False) ?own (fun _ _ _ _ _ hs _ _ => hs) ⟨⟨_, _, hB.1, hB.2, Own.nil0 _ _ _⟩, b7, Nat.le_refl _⟩
        (fun x => ?act) ?assign ?body ?done ?stop
      case kb =>
        intro W l2 o o' hl2 h1 h2 h3
        have u := belowK_b (n₀ := w7.heap.size) (w := w7) (Nat.le_refl _) W l2 o o' hl2 h1 h2 h3
        exact ⟨u.mono (by omega), u.cell (by simp; omega), u.cell (by simp; omega)⟩
      case own =>
        rintro s A B row ⟨⟨a6, c6, h1, h2, h3⟩, h4, hsz⟩ hg2 hr2
        exact ⟨⟨a6, c6, cell_kept h1 hg2 (fun r e => (hr2 r e).2), (frozen_kept h1 hg2 (fun r e => (hr2 r e).2)).trans h2, h3.keptR hg2 (fun r e => (hr2 r e).2)⟩, h4.grown hg2 h4.size (fun k e => by have := (hr2 k e).1; omega), Nat.le_trans hsz hg2.size⟩
      case done =>
        rintro D ys W hD hS ⟨⟨a6, c6, h1, h2, h3⟩, h4, _⟩ hK
        have hyl : ys.length = m := by have := congrArg List.length hS; simpa using this
        have e1 : (ys.map (fun x => x.1.2)).map num = ys.map (fun x => num x.1.2) := List.map_map
        have e2 : ((List.range m).map fun k => (P.drop (k * wd)).take wd).map num = (List.range m).map fun k => num ((P.drop (k * wd)).take wd) := List.map_map
        have hyn : (ys.map fun x => num x.1.2) = cnL P wd m := e1.symm.trans ((congrArg (List.map num) hS).trans (e2.trans (cnL_range P wd m).symm))
        clear e1 e2
        rw [hyl] at h1 h3
        rw [hyn] at h3
        have hK' : ∀ r, some D = some r → ∃ o : Obj, W.heap[r]? = some o ∧ o.isCells = false := fun r e => by cases e; exact ⟨_, hK, rfl⟩
        rw [HP.out, HCB.out] at h3
        have h5 := V5.trans (h4.mono V5.size)
        have hw5 := V5.size
        go_wp2
        refine ⟨by simp, .inl ⟨_, _, rfl, run_takeDeferred hK, ?_⟩⟩
        exact ⟨_, results_tmp rfl _ _ _, _, _, rfl, (h3.keptR (grownBy_putObj' W D _) hK').lower (by omega), h5.grown (grownBy_putObj' W D _) h5.size (fun k e => by cases e; omega)⟩
      case stop =>
        rintro D c2 pre W _ _ h _
        exact h.elim
      case act => exact { tmps := #[.agg #[.int .i64 i0, .int .i64 i1, .slice ga gn gc, .slice oa on oc], .int .i64 wd, .slice a k c, .slice wa wn wc, .pointer (some ⟨w.heap.size, 0, none⟩), undef, undef, undef, .slice none 0 0, .slice a1 (k * wd) c1, undef, u11, .slice a5 on c5, .pointer (some ⟨w5.heap.size + 1, 0, none⟩), .slice x.val.fst.fst x.val.fst.snd.fst x.val.fst.snd.snd, .slice (some ⟨w0.heap.size, 0, none⟩) 0 0, .slice a k c, .int .i64 k, .int .i64 k, .bool false, u20, u21, u22, u23, u24, u25, u26, u27, .agg #[.int .i64 i0, .int .i64 i1, .slice ga gn gc, .slice oa on oc], .slice a1 (k * wd) c1, .slice wa wn wc, .slice a3 (k * wd + wn) c3, .slice a4 (k * wd + wn + gn) c4, .pointer (some ⟨w.heap.size, 3, none⟩), .slice oa on oc, .slice a5 on c5, .slice (some ⟨w5.heap.size, 0, none⟩) 0 0, .slice a5 on c5, .int .i64 wd, .func (.func 107) #[] #[.pointer (some ⟨w5.heap.size + 1 + 1, 0, none⟩), .pointer (some ⟨w5.heap.size + 1 + 1 + 1, 0, none⟩)], .slice x.val.fst.fst x.val.fst.snd.fst x.val.fst.snd.snd, undef, undef, undef, undef, undef, undef], defers := [] }
      case assign =>
        intro l x W K hK
        have hsem : ∀ (ρ : Operand → Value) (o : Oper), (∀ c, o.op ≠ .defer c) → o.semAt (some l) ρ = execOp ρ o := fun ρ o h => Oper.semAt_some l ρ o h
        unfold Prt.enc
        gi_wp2
        exact hK
      case body =>
        rintro l pre x W ⟨⟨a6, c6, h1, h2, h3⟩, h4, hsz⟩ hlt
        obtain ⟨⟨⟨pa, pn, pc⟩, pl⟩, px1, px2, px3⟩ := x
        dsimp only at px1 px2 px3 ⊢
        have hp : Ints W.drew pa pn pc pl := (px1.below h4).drew
        have hmx : Try.prog.follows .mixedOrders = true := by kernel_rfl
        have hsem : ∀ (ρ : Operand → Value) (o : Oper), (∀ c, o.op ≠ .defer c) → o.semAt (some l) ρ = execOp ρ o := fun ρ o h => Oper.semAt_some l ρ o h
        have h3s := h3
        have T1 : 3 = 3 := rfl
        have hU : Below w5.heap.size W (W.drew.alloc (.cells #[.int .i64 (num pl)] 3)) := ((Below.refl _ W).drew).alloc (by simp; omega) _
        have hU7 : Below w7.heap.size W (W.drew.alloc (.cells #[.int .i64 (num pl)] 3)) := ((Below.refl _ W).drew).alloc (by simp; omega) _
        have hb1 : W.drew.cell? ⟨w5.heap.size + 1, 0, none⟩ = some (.slice a6 pre.length c6) := h1
        have hb2 : (W.drew.alloc (.cells #[.int .i64 (num pl)] 3)).cell? ⟨w5.heap.size + 1, 0, none⟩ = some (.slice a6 pre.length c6) := (hU7.cell (by simp; omega)).trans h1
        have hb3 : (W.drew.alloc (.cells #[.int .i64 (num pl)] 3)).frozen? ⟨w5.heap.size + 1, 0, none⟩ = false := (hU7.frozen (by simp; omega)).trans h2
        have hb4 : ((W.alloc (.cells #[.int .i64 (num pl)] 3)).drew).cell? ⟨w5.heap.size + 1, 0, none⟩ = some (.slice a6 pre.length c6) := hb2
        have hb5 : ((W.alloc (.cells #[.int .i64 (num pl)] 3))).cell? ⟨w5.heap.size + 1, 0, none⟩ = some (.slice a6 pre.length c6) := hb2
        have hbs := hU7.cell (p := ⟨w5.heap.size + 1 + 1, 0, none⟩) (by simp; omega)
        have hbw := hU7.cell (p := ⟨w5.heap.size + 1 + 1 + 1, 0, none⟩) (by simp; omega)
        have hro := ((h3s.drew.alloc (.cells #[.int .i64 (num pl)] 3))).rowCells
        have HH := Lib.hid (And.intro hbs hbw)
        clear hbs hbw T1
        gi_wp2
        obtain ⟨hbs, hbw⟩ := HH.out
        refine wpIn_region_any (by kernel_rfl) ?_
        change wpAnyIn _ _ _ _ _ _ _ _ _ (World.drew _)
        clear hbs hbw
        refine wpAnyIn_ready (rs := [0, 1]) (by kernel_rfl) (by simp) (AllReadyIn.cons rfl (fun K hK => ?_) (AllReadyIn.cons rfl (fun K hK => ?_) AllReadyIn.nil))
        · go_simp
          refine hK _ _ ?_; clear hK K
          refine wpAnyIn_ready (rs := [1]) (by kernel_rfl) (by simp) (AllReadyIn.cons rfl (fun K hK => ?_) AllReadyIn.nil)
          · go_simp
            refine hK _ _ ?_; clear hK K
            refine wpAnyIn_ready (rs := [2]) (by kernel_rfl) (by simp) (AllReadyIn.cons rfl (fun K hK => ?_) AllReadyIn.nil)
            · go_simp
              refine ⟨trivial, (CallsIn.inRound l (callsIn_wide.2 (number_same pa pn pc pl _ hp px2 px3))).mono ?_⟩; rintro e w' ⟨rfl, rfl⟩; refine hK _ _ ?_; clear hK K
              refine wpAnyIn_ready (rs := [3]) (by kernel_rfl) (by simp) (AllReadyIn.cons rfl (fun K hK => ?_) AllReadyIn.nil)
              · go_simp
                refine hK _ _ ?_; clear hK K
                obtain ⟨hbs, hbw⟩ := HH.out
                refine wpAnyIn_ready (rs := [4]) (by kernel_rfl) (by simp) (AllReadyIn.cons rfl (fun K hK => ?_) AllReadyIn.nil)
                refine stepIn_appI _ (by rfl) _ _ (by rfl) w7.heap.size a6 pre.length c6 _ (by rfl) (h3s.drew.alloc _) (some ⟨W.heap.size, 0, none⟩) 1 1 [num pl] (by rfl) (Ints.lit1 _ _ _) (by omega) (by simp; omega) ?_
                intro a8 c8 w8 o8 u8 g8
                refine hK _ _ ?_; clear hK K
                have hc8 := (u8.cell (p := ⟨w5.heap.size + 1, 0, none⟩) (by simp; omega)).trans hb2
                have hf8 := (u8.frozen (p := ⟨w5.heap.size + 1, 0, none⟩) (by simp; omega)).trans hb3
                refine wpAnyIn_ready (rs := [5]) (by kernel_rfl) (by simp) (AllReadyIn.cons rfl (fun K hK => ?_) AllReadyIn.nil)
                go_simp
                refine hK _ _ ?_; clear hK K
                refine wpAnyIn_done (by kernel_rfl) ?_ _
                gi_wp2
                refine ⟨(((KeepsOthers.drew W).trans (KeepsOthers.alloc _ _)).trans (KeepsOthers.of_grownBy g8 hro)).trans (KeepsOthers.setCell _ _ _), ⟨?_, ?_, ?_⟩, ⟨a8, c8, ?_, ?_, ?_⟩, ?_, ?_⟩
                · exact (hU.trans (u8.mono (by omega))).setCell (p := ⟨w5.heap.size + 1, 0, none⟩) (by simp) _
                · exact (cell_far w8 _ ⟨w5.heap.size + 1 + 1, 0, none⟩ _ (by show w5.heap.size + 1 + 1 ≠ w5.heap.size + 1; omega)).trans ((u8.cell (p := ⟨w5.heap.size + 1 + 1, 0, none⟩) (by simp; omega)).trans hbs)
                · exact (cell_far w8 _ ⟨w5.heap.size + 1 + 1 + 1, 0, none⟩ _ (by show w5.heap.size + 1 + 1 + 1 ≠ w5.heap.size + 1; omega)).trans ((u8.cell (p := ⟨w5.heap.size + 1 + 1 + 1, 0, none⟩) (by simp; omega)).trans hbw)
                · rw [List.length_append]
                  change _ = some (Value.slice a8 (pre.length + 1) c8)
                  exact World.cell?_setCell_same' _ _ _ (by rw [hc8]; rfl)
                · rw [World.frozen?_setCell]; exact hf8
                · rw [List.length_append, List.map_append]
                  change Own _ _ a8 (pre.length + 1) c8 (_ ++ [num pl])
                  exact o8.only ((Only.refl [w5.heap.size + 1] w8).setCell ⟨w5.heap.size + 1, 0, none⟩ _ (by simp)) (fun q hq hq' => by have := (o8.feet q hq).1; simp at hq'; omega)
                · exact (h4.trans (hU.trans (u8.mono (by omega)))).setCell (p := ⟨w5.heap.size + 1, 0, none⟩) (by simp) _
                · exact Nat.le_trans hsz (Nat.le_trans (by simp) (Nat.le_trans u8.size ((Only.refl [w5.heap.size + 1] w8).setCell ⟨w5.heap.size + 1, 0, none⟩ _ (by simp)).size))
        · go_simp
          refine hK _ _ ?_; clear hK K
          refine wpAnyIn_ready (rs := [0, 2]) (by kernel_rfl) (by simp) (AllReadyIn.cons rfl (fun K hK => ?_) (AllReadyIn.cons rfl (fun K hK => ?_) AllReadyIn.nil))
          · go_simp
            refine hK _ _ ?_; clear hK K
            refine wpAnyIn_ready (rs := [2]) (by kernel_rfl) (by simp) (AllReadyIn.cons rfl (fun K hK => ?_) AllReadyIn.nil)
            · go_simp
              refine ⟨trivial, (CallsIn.inRound l (callsIn_wide.2 (number_same pa pn pc pl _ hp px2 px3))).mono ?_⟩; rintro e w' ⟨rfl, rfl⟩; refine hK _ _ ?_; clear hK K
              refine wpAnyIn_ready (rs := [3]) (by kernel_rfl) (by simp) (AllReadyIn.cons rfl (fun K hK => ?_) AllReadyIn.nil)
              · go_simp
                refine hK _ _ ?_; clear hK K
                obtain ⟨hbs, hbw⟩ := HH.out
                refine wpAnyIn_ready (rs := [4]) (by kernel_rfl) (by simp) (AllReadyIn.cons rfl (fun K hK => ?_) AllReadyIn.nil)
                refine stepIn_appI _ (by rfl) _ _ (by rfl) w7.heap.size a6 pre.length c6 _ (by rfl) (h3s.drew.alloc _) (some ⟨W.heap.size, 0, none⟩) 1 1 [num pl] (by rfl) (Ints.lit1 _ _ _) (by omega) (by simp; omega) ?_
                intro a8 c8 w8 o8 u8 g8
                refine hK _ _ ?_; clear hK K
                have hc8 := (u8.cell (p := ⟨w5.heap.size + 1, 0, none⟩) (by simp; omega)).trans hb2
                have hf8 := (u8.frozen (p := ⟨w5.heap.size + 1, 0, none⟩) (by simp; omega)).trans hb3
                refine wpAnyIn_ready (rs := [5]) (by kernel_rfl) (by simp) (AllReadyIn.cons rfl (fun K hK => ?_) AllReadyIn.nil)
                go_simp
                refine hK _ _ ?_; clear hK K
                refine wpAnyIn_done (by kernel_rfl) ?_ _
                gi_wp2
                refine ⟨(((KeepsOthers.drew W).trans (KeepsOthers.alloc _ _)).trans (KeepsOthers.of_grownBy g8 hro)).trans (KeepsOthers.setCell _ _ _), ⟨?_, ?_, ?_⟩, ⟨a8, c8, ?_, ?_, ?_⟩, ?_, ?_⟩
                · exact (hU.trans (u8.mono (by omega))).setCell (p := ⟨w5.heap.size + 1, 0, none⟩) (by simp) _
                · exact (cell_far w8 _ ⟨w5.heap.size + 1 + 1, 0, none⟩ _ (by show w5.heap.size + 1 + 1 ≠ w5.heap.size + 1; omega)).trans ((u8.cell (p := ⟨w5.heap.size + 1 + 1, 0, none⟩) (by simp; omega)).trans hbs)
                · exact (cell_far w8 _ ⟨w5.heap.size + 1 + 1 + 1, 0, none⟩ _ (by show w5.heap.size + 1 + 1 + 1 ≠ w5.heap.size + 1; omega)).trans ((u8.cell (p := ⟨w5.heap.size + 1 + 1 + 1, 0, none⟩) (by simp; omega)).trans hbw)
                · rw [List.length_append]
                  change _ = some (Value.slice a8 (pre.length + 1) c8)
                  exact World.cell?_setCell_same' _ _ _ (by rw [hc8]; rfl)
                · rw [World.frozen?_setCell]; exact hf8
                · rw [List.length_append, List.map_append]
                  change Own _ _ a8 (pre.length + 1) c8 (_ ++ [num pl])
                  exact o8.only ((Only.refl [w5.heap.size + 1] w8).setCell ⟨w5.heap.size + 1, 0, none⟩ _ (by simp)) (fun q hq hq' => by have := (o8.feet q hq).1; simp at hq'; omega)
                · exact (h4.trans (hU.trans (u8.mono (by omega)))).setCell (p := ⟨w5.heap.size + 1, 0, none⟩) (by simp) _
                · exact Nat.le_trans hsz (Nat.le_trans (by simp) (Nat.le_trans u8.size ((Only.refl [w5.heap.size + 1] w8).setCell ⟨w5.heap.size + 1, 0, none⟩ _ (by simp)).size))
          · go_simp
            refine ⟨trivial, (CallsIn.inRound l (callsIn_wide.2 (number_same pa pn pc pl _ hp px2 px3))).mono ?_⟩; rintro e w' ⟨rfl, rfl⟩; refine hK _ _ ?_; clear hK K
            refine wpAnyIn_ready (rs := [0, 3]) (by kernel_rfl) (by simp) (AllReadyIn.cons rfl (fun K hK => ?_) (AllReadyIn.cons rfl (fun K hK => ?_) AllReadyIn.nil))
            · go_simp
              refine hK _ _ ?_; clear hK K
              refine wpAnyIn_ready (rs := [3]) (by kernel_rfl) (by simp) (AllReadyIn.cons rfl (fun K hK => ?_) AllReadyIn.nil)
              · go_simp
                refine hK _ _ ?_; clear hK K
                obtain ⟨hbs, hbw⟩ := HH.out
                refine wpAnyIn_ready (rs := [4]) (by kernel_rfl) (by simp) (AllReadyIn.cons rfl (fun K hK => ?_) AllReadyIn.nil)
                refine stepIn_appI _ (by rfl) _ _ (by rfl) w7.heap.size a6 pre.length c6 _ (by rfl) (h3s.drew.alloc _) (some ⟨W.heap.size, 0, none⟩) 1 1 [num pl] (by rfl) (Ints.lit1 _ _ _) (by omega) (by simp; omega) ?_
                intro a8 c8 w8 o8 u8 g8
                refine hK _ _ ?_; clear hK K
                have hc8 := (u8.cell (p := ⟨w5.heap.size + 1, 0, none⟩) (by simp; omega)).trans hb2
                have hf8 := (u8.frozen (p := ⟨w5.heap.size + 1, 0, none⟩) (by simp; omega)).trans hb3
                refine wpAnyIn_ready (rs := [5]) (by kernel_rfl) (by simp) (AllReadyIn.cons rfl (fun K hK => ?_) AllReadyIn.nil)
                go_simp
                refine hK _ _ ?_; clear hK K
                refine wpAnyIn_done (by kernel_rfl) ?_ _
                gi_wp2
                refine ⟨(((KeepsOthers.drew W).trans (KeepsOthers.alloc _ _)).trans (KeepsOthers.of_grownBy g8 hro)).trans (KeepsOthers.setCell _ _ _), ⟨?_, ?_, ?_⟩, ⟨a8, c8, ?_, ?_, ?_⟩, ?_, ?_⟩
                · exact (hU.trans (u8.mono (by omega))).setCell (p := ⟨w5.heap.size + 1, 0, none⟩) (by simp) _
                · exact (cell_far w8 _ ⟨w5.heap.size + 1 + 1, 0, none⟩ _ (by show w5.heap.size + 1 + 1 ≠ w5.heap.size + 1; omega)).trans ((u8.cell (p := ⟨w5.heap.size + 1 + 1, 0, none⟩) (by simp; omega)).trans hbs)
                · exact (cell_far w8 _ ⟨w5.heap.size + 1 + 1 + 1, 0, none⟩ _ (by show w5.heap.size + 1 + 1 + 1 ≠ w5.heap.size + 1; omega)).trans ((u8.cell (p := ⟨w5.heap.size + 1 + 1 + 1, 0, none⟩) (by simp; omega)).trans hbw)
                · rw [List.length_append]
                  change _ = some (Value.slice a8 (pre.length + 1) c8)
                  exact World.cell?_setCell_same' _ _ _ (by rw [hc8]; rfl)
                · rw [World.frozen?_setCell]; exact hf8
                · rw [List.length_append, List.map_append]
                  change Own _ _ a8 (pre.length + 1) c8 (_ ++ [num pl])
                  exact o8.only ((Only.refl [w5.heap.size + 1] w8).setCell ⟨w5.heap.size + 1, 0, none⟩ _ (by simp)) (fun q hq hq' => by have := (o8.feet q hq).1; simp at hq'; omega)
                · exact (h4.trans (hU.trans (u8.mono (by omega)))).setCell (p := ⟨w5.heap.size + 1, 0, none⟩) (by simp) _
                · exact Nat.le_trans hsz (Nat.le_trans (by simp) (Nat.le_trans u8.size ((Only.refl [w5.heap.size + 1] w8).setCell ⟨w5.heap.size + 1, 0, none⟩ _ (by simp)).size))
            · go_simp
              refine hK _ _ ?_; clear hK K
              refine wpAnyIn_ready (rs := [0]) (by kernel_rfl) (by simp) (AllReadyIn.cons rfl (fun K hK => ?_) AllReadyIn.nil)
              · go_simp
                refine hK _ _ ?_; clear hK K
                obtain ⟨hbs, hbw⟩ := HH.out
                refine wpAnyIn_ready (rs := [4]) (by kernel_rfl) (by simp) (AllReadyIn.cons rfl (fun K hK => ?_) AllReadyIn.nil)
                refine stepIn_appI _ (by rfl) _ _ (by rfl) w7.heap.size a6 pre.length c6 _ (by rfl) (h3s.drew.alloc _) (some ⟨W.heap.size, 0, none⟩) 1 1 [num pl] (by rfl) (Ints.lit1 _ _ _) (by omega) (by simp; omega) ?_
                intro a8 c8 w8 o8 u8 g8
                refine hK _ _ ?_; clear hK K
                have hc8 := (u8.cell (p := ⟨w5.heap.size + 1, 0, none⟩) (by simp; omega)).trans hb2
                have hf8 := (u8.frozen (p := ⟨w5.heap.size + 1, 0, none⟩) (by simp; omega)).trans hb3
                refine wpAnyIn_ready (rs := [5]) (by kernel_rfl) (by simp) (AllReadyIn.cons rfl (fun K hK => ?_) AllReadyIn.nil)
                go_simp
                refine hK _ _ ?_; clear hK K
                refine wpAnyIn_done (by kernel_rfl) ?_ _
                gi_wp2
                refine ⟨(((KeepsOthers.drew W).trans (KeepsOthers.alloc _ _)).trans (KeepsOthers.of_grownBy g8 hro)).trans (KeepsOthers.setCell _ _ _), ⟨?_, ?_, ?_⟩, ⟨a8, c8, ?_, ?_, ?_⟩, ?_, ?_⟩
                · exact (hU.trans (u8.mono (by omega))).setCell (p := ⟨w5.heap.size + 1, 0, none⟩) (by simp) _
                · exact (cell_far w8 _ ⟨w5.heap.size + 1 + 1, 0, none⟩ _ (by show w5.heap.size + 1 + 1 ≠ w5.heap.size + 1; omega)).trans ((u8.cell (p := ⟨w5.heap.size + 1 + 1, 0, none⟩) (by simp; omega)).trans hbs)
                · exact (cell_far w8 _ ⟨w5.heap.size + 1 + 1 + 1, 0, none⟩ _ (by show w5.heap.size + 1 + 1 + 1 ≠ w5.heap.size + 1; omega)).trans ((u8.cell (p := ⟨w5.heap.size + 1 + 1 + 1, 0, none⟩) (by simp; omega)).trans hbw)
                · rw [List.length_append]
                  change _ = some (Value.slice a8 (pre.length + 1) c8)
                  exact World.cell?_setCell_same' _ _ _ (by rw [hc8]; rfl)
                · rw [World.frozen?_setCell]; exact hf8
                · rw [List.length_append, List.map_append]
                  change Own _ _ a8 (pre.length + 1) c8 (_ ++ [num pl])
                  exact o8.only ((Only.refl [w5.heap.size + 1] w8).setCell ⟨w5.heap.size + 1, 0, none⟩ _ (by simp)) (fun q hq hq' => by have := (o8.feet q hq).1; simp at hq'; omega)
                · exact (h4.trans (hU.trans (u8.mono (by omega)))).setCell (p := ⟨w5.heap.size + 1, 0, none⟩) (by simp) _
                · exact Nat.le_trans hsz (Nat.le_trans (by simp) (Nat.le_trans u8.size ((Only.refl [w5.heap.size + 1] w8).setCell ⟨w5.heap.size + 1, 0, none⟩ _ (by simp)).size))
end Go.Proofs.Ytmbheimjphhamaa
