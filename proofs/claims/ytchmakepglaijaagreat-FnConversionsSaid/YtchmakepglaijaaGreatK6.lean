/- Lemmas and walks that the claim's proof rests on, part 6. -/
import Derived.Deep.DeepCutAuto
import Derived.OrdersHeld
import Derived.Deep.QuietTactic
import Derived.BigQuiet
import Derived.Test.YtchmakepglaijaaGreatK2
import Derived.Test.YtchmakepglaijaaGreatK3
import Derived.Test.YtchmakepglaijaaGreatK5
namespace Go.Proofs.YtchmakepglaijaaGreat
open Go.RowKit
def gbB (kd a b own : Int) : Bool :=
  if kd = 0 ∨ kd = 1 then inB a 0 (own - 1) && inB b 0 (own - 1) else if kd = 2 then inB a 0 (own - 1) && (b == 0) else if kd = 3 then (a == 0) && (b == 0) else false
def gbAt (own : Int) (G : List Int) (k : Nat) : Bool := gbB (G.getD (k * 3) 0) (G.getD (k * 3 + 1) 0) (G.getD (k * 3 + 2) 0) (own + k)
def gbsB (own : Int) (G : List Int) (n : Nat) : Bool := (List.range n).all (gbAt own G)
theorem gbsB_yes {own : Int} {G : List Int} {n : Nat} (h : ∀ k, k < n → gbAt own G k = true) : gbsB own G n = true :=
  List.all_eq_true.2 fun k hk => h k (List.mem_range.1 hk)
def ciB (i0 i1 : Int) (gn : Nat) (G O : List Int) : Bool :=
  inB i0 0 20 && inB i1 0 20 && decide (gn ≤ 300) && decide (O.length ≤ 40) && gbsB (i0 + i1) G gn && allB O 0 (i0 + i1 + gn - 1)
end Go.Proofs.YtchmakepglaijaaGreat
namespace Go.Proofs.YtchmakepglaijaaGreat
open Go.RowKit
end Go.Proofs.YtchmakepglaijaaGreat
namespace Go.Proofs.YtchmakepglaijaaGreat
open Go.RowKit
def Bt (l : List Int) : Prop := ∀ x ∈ l, x = 0 ∨ x = 1
theorem Bt.nil : Bt [] := fun x hx => by cases hx
theorem Bt.app {l l' : List Int} (h : Bt l) (k : Bt l') : Bt (l ++ l') := fun x hx => by
  rcases List.mem_append.1 hx with h1 | h1
  · exact h x h1
  · exact k x h1
theorem Bt.one {x : Int} (h : x = 0 ∨ x = 1) : Bt [x] := fun y hy => by rw [List.mem_singleton] at hy; subst hy; exact h
theorem Bt.at {l : List Int} (h : Bt l) (k : Nat) : l.getD k 0 = 0 ∨ l.getD k 0 = 1 := by
  by_cases hk : k < l.length
  · exact h _ (getD_mem l k hk)
  · left; simp [List.getD, Nat.not_lt.1 hk]
def evS (kd x y : Int) : Int := if kd = 0 then bits BinOp.xor IntKind.i64 x y else if kd = 1 then bits BinOp.and IntKind.i64 x y else if kd = 2 then 1 - x else 1
theorem evS_bit (kd : Int) {x y : Int} (hx : x = 0 ∨ x = 1) (hy : y = 0 ∨ y = 1) : evS kd x y = 0 ∨ evS kd x y = 1 := by
  unfold evS
  split
  · rcases hx with rfl | rfl <;> rcases hy with rfl | rfl <;> decide
  · split
    · rcases hx with rfl | rfl <;> rcases hy with rfl | rfl <;> decide
    · split
      · omega
      · right; rfl
def evL (G V : List Int) : Nat → List Int
  | 0 => V
  | j + 1 => evL G V j ++ [evS (G.getD (j * 3) 0) ((evL G V j).getD (G.getD (j * 3 + 1) 0).toNat 0) ((evL G V j).getD (G.getD (j * 3 + 2) 0).toNat 0)]
theorem evL_succ (G V : List Int) (j : Nat) : evL G V (j + 1) = evL G V j ++ [evS (G.getD (j * 3) 0) ((evL G V j).getD (G.getD (j * 3 + 1) 0).toNat 0) ((evL G V j).getD (G.getD (j * 3 + 2) 0).toNat 0)] := rfl
theorem evL_len (G V : List Int) (j : Nat) : (evL G V j).length = V.length + j := by
  induction j with
  | zero => rfl
  | succ j ih => rw [evL_succ, List.length_append, ih]; simp; omega
theorem evL_bits (G : List Int) {V : List Int} (h : Bt V) (j : Nat) : Bt (evL G V j) := by
  induction j with
  | zero => exact h
  | succ j ih => rw [evL_succ]; exact ih.app (Bt.one (evS_bit _ (ih.at _) (ih.at _)))
theorem gb_cases {kd a b own : Int} (h : gbB kd a b own = true) : (kd = 0 ∧ 0 ≤ a ∧ a ≤ own - 1 ∧ 0 ≤ b ∧ b ≤ own - 1) ∨ (kd = 1 ∧ 0 ≤ a ∧ a ≤ own - 1 ∧ 0 ≤ b ∧ b ≤ own - 1) ∨ (kd = 2 ∧ 0 ≤ a ∧ a ≤ own - 1) ∨ kd = 3 := by
  unfold gbB at h
  split at h
  · rename_i hk
    simp only [Bool.and_eq_true, inB, decide_eq_true_eq] at h
    rcases hk with rfl | rfl
    · exact Or.inl ⟨rfl, h.1.1, h.1.2, h.2.1, h.2.2⟩
    · exact Or.inr (Or.inl ⟨rfl, h.1.1, h.1.2, h.2.1, h.2.2⟩)
  · split at h
    · rename_i hk
      simp only [Bool.and_eq_true, inB, decide_eq_true_eq] at h
      exact Or.inr (Or.inr (Or.inl ⟨hk, h.1.1, h.1.2⟩))
    · split at h
      · rename_i hk
        exact Or.inr (Or.inr (Or.inr hk))
      · cases h
end Go.Proofs.YtchmakepglaijaaGreat
namespace Go.Proofs.YtchmakepglaijaaGreat
open Go.RowKit
theorem Bt.take {l : List Int} (h : Bt l) (k : Nat) : Bt (l.take k) := fun x hx => h x (List.mem_of_mem_take hx)
theorem Bt.drop {l : List Int} (h : Bt l) (k : Nat) : Bt (l.drop k) := fun x hx => h x (List.mem_of_mem_drop hx)
def pkL (F O : List Int) (k : Nat) : List Int := (List.range k).map fun i => F.getD (O.getD i 0).toNat 0
theorem pkL_succ (F O : List Int) (k : Nat) : pkL F O (k + 1) = pkL F O k ++ [F.getD (O.getD k 0).toNat 0] := by simp [pkL, List.range_succ]
theorem pkL_len (F O : List Int) (k : Nat) : (pkL F O k).length = k := by simp [pkL]
theorem pkL_bits {F : List Int} (h : Bt F) (O : List Int) (k : Nat) : Bt (pkL F O k) := fun x hx => by
  obtain ⟨i, _, rfl⟩ := List.mem_map.1 hx
  exact h.at _
set_option maxHeartbeats 4000000 in
set_option maxRecDepth 100000 in
theorem pk_at (a : Option Addr) (n c : Nat) (F : List Int) (oa : Option Addr) (on oc : Nat) (O : List Int) (w : World) (h : Ints w a n c F) (hO : Ints w oa on oc O) (_hn : n ≤ 100000) (hon : on ≤ 100000) (hr : ∀ x ∈ O, 0 ≤ x ∧ x ≤ (n : Int) - 1) :
    Calls Tryz.prog 52 #[.slice a n c, .slice oa on oc] w fun e w' => ∃ a1 c1, e = .returned (.slice a1 on c1) ∧ Own w' w.heap.size a1 on c1 (pkL F O on) ∧ Below w.heap.size w w' := by
  have HR := Lib.hid hr
  have HL := Lib.hid hO.len
  clear hr
  go_enter Tryz.func52, Tryz.ntmps52
  go_wp2
  go_loopw [11, 5] (fun v u wr => ∃ k : Nat, k ≤ on ∧ v = .int .i64 k ∧ Below w.heap.size w wr ∧ ∃ a1 c1, u = .slice a1 k c1 ∧ Own wr w.heap.size a1 k c1 (pkL F O k)) (fun v _ _ => on - (intOf v).toNat)
  case atStart => exact ⟨0, Nat.zero_le _, rfl, (Below.refl _ _).alloc (Nat.le_refl _) _, _, _, rfl, Own.nil0 _ _ _⟩
  case round =>
    obtain ⟨k, hkn, rfl, hbel, a1, c1, rfl, own⟩ := hrel
    by_cases hlt : k < on
    · have ro := HR.out _ (getD_mem O k (by rw [← HL.out]; exact hlt))
      have HS := Lib.hid (pkL_succ F O k)
      obtain ⟨g, o, rfl, e0⟩ := (hO.below hbel).at k hlt
      generalize O.getD k 0 = q at *
      obtain ⟨j, rfl⟩ : ∃ j : Nat, q = j := ⟨q.toNat, by omega⟩
      simp only [Int.toNat_natCast] at HS
      have hj : j < n := by omega
      obtain ⟨g', o', rfl, e1⟩ := (h.below hbel).at j hj
      generalize F.getD j 0 = x at *
      go_wp2_with (at_builtin; refine wpList_appI _ rfl _ _ rfl w.heap.size a1 k c1 (pkL F O k) rfl (own.alloc _) _ 1 1 [x] rfl (Ints.lit1 _ _ _) (by omega) (by have := hbel.size; simp; omega) ?_)
      intro a5 c5 w3 o5 u5 _
      rw [← HS.out] at o5
      have b3 := (hbel.alloc hbel.size _).trans u5
      clear u5 hbel own e0 e1
      go_wp2
      go_roundw
      case rel => exact ⟨k + 1, by omega, by go_num, b3, a5, c5, rfl, o5⟩
      case measure => simp [intOf]; omega
    · obtain rfl : k = on := by omega
      go_wp2
      go_ret
      exact ⟨_, _, rfl, own, hbel⟩
set_option maxHeartbeats 4000000 in
set_option maxRecDepth 100000 in
theorem pk_ciPick (a : Option Addr) (n c : Nat) (F : List Int) (oa : Option Addr) (on oc : Nat) (O : List Int) (w : World) (h : Ints w a n c F) (hO : Ints w oa on oc O) (_hn : n ≤ 100000) (hon : on ≤ 100000) (hr : ∀ x ∈ O, 0 ≤ x ∧ x ≤ (n : Int) - 1) :
    Calls Tryz.prog 58 #[.slice a n c, .slice oa on oc] w fun e w' => ∃ a1 c1, e = .returned (.slice a1 on c1) ∧ Own w' w.heap.size a1 on c1 (pkL F O on) ∧ Below w.heap.size w w' := by
  have HR := Lib.hid hr
  have HL := Lib.hid hO.len
  clear hr
  go_enter Tryz.func58, Tryz.ntmps58
  go_wp2
  go_loopw [10, 5] (fun v u wr => ∃ k : Nat, k ≤ on ∧ v = .int .i64 k ∧ Below w.heap.size w wr ∧ ∃ a1 c1, u = .slice a1 k c1 ∧ Own wr w.heap.size a1 k c1 (pkL F O k)) (fun v _ _ => on - (intOf v).toNat)
  case atStart => exact ⟨0, Nat.zero_le _, rfl, Below.refl _ _, _, _, rfl, Own.nil0 _ _ _⟩
  case round =>
    obtain ⟨k, hkn, rfl, hbel, a1, c1, rfl, own⟩ := hrel
    by_cases hlt : k < on
    · have ro := HR.out _ (getD_mem O k (by rw [← HL.out]; exact hlt))
      have HS := Lib.hid (pkL_succ F O k)
      obtain ⟨g, o, rfl, e0⟩ := (hO.below hbel).at k hlt
      generalize O.getD k 0 = q at *
      obtain ⟨j, rfl⟩ : ∃ j : Nat, q = j := ⟨q.toNat, by omega⟩
      simp only [Int.toNat_natCast] at HS
      have hj : j < n := by omega
      obtain ⟨g', o', rfl, e1⟩ := (h.below hbel).at j hj
      generalize F.getD j 0 = x at *
      go_wp2_with (at_builtin; refine wpList_appI _ rfl _ _ rfl w.heap.size a1 k c1 (pkL F O k) rfl (own.alloc _) _ 1 1 [x] rfl (Ints.lit1 _ _ _) (by omega) (by have := hbel.size; simp; omega) ?_)
      intro a5 c5 w3 o5 u5 _
      rw [← HS.out] at o5
      have b3 := (hbel.alloc hbel.size _).trans u5
      clear u5 hbel own e0 e1
      go_wp2
      go_roundw
      case rel => exact ⟨k + 1, by omega, by go_num, b3, a5, c5, rfl, o5⟩
      case measure => simp [intOf]; omega
    · obtain rfl : k = on := by omega
      go_wp2
      go_ret
      exact ⟨_, _, rfl, own, hbel⟩
end Go.Proofs.YtchmakepglaijaaGreat
namespace Go.Proofs.YtchmakepglaijaaGreat
open Go.RowKit
theorem Ints.cut {w : World} {a : Option Addr} {n c : Nat} {l : List Int} (h : Ints w a n c l) (lo hi mx : Nat) (h1 : lo ≤ hi) (h2 : hi ≤ n) (h3 : hi ≤ mx) (h4 : mx ≤ c) :
    Ints w (if mx = lo then a else a.map (·.add lo)) (hi - lo) (mx - lo) ((l.drop lo).take (hi - lo)) := by
  obtain ⟨e1, e2, e3, e4, g, o, e5, e6⟩ := h
  refine ⟨by rw [List.length_take, List.length_drop]; omega, by omega, by omega, fun e => ?_, g, o + lo, fun h0 => ?_, fun i hi' => ?_⟩
  · split at e
    · omega
    · cases a with
      | none => have := e4 rfl; omega
      | some x => simp at e
  · rw [if_neg (by omega), e5 (by omega)]
    simp [Addr.add]
  · have := e6 (lo + i) (by omega)
    rw [← Nat.add_assoc] at this
    rw [this]
    simp [List.getD, hi']
theorem Ints.from_ {w : World} {a : Option Addr} {n c : Nat} {l : List Int} (h : Ints w a n c l) (lo : Nat) (h1 : lo ≤ n) :
    Ints w (if c = lo then a else a.map (·.add lo)) (n - lo) (c - lo) (l.drop lo) := by
  have := h.cut lo n c h1 (Nat.le_refl _) h.2.1 (Nat.le_refl _)
  rw [List.take_of_length_le (by rw [List.length_drop, ← h.len]; exact Nat.le_refl _)] at this
  exact this
theorem btL_bits (x : Int) (n : Nat) : Bt (btL x n) := fun y hy => by
  obtain ⟨i, _, rfl⟩ := List.mem_map.1 hy
  omega
end Go.Proofs.YtchmakepglaijaaGreat
namespace Go.Proofs.YtchmakepglaijaaGreat
open Go.RowKit
def andI (a b : Int) : Int := bits BinOp.and IntKind.i64 a b
theorem andI_eq {a b : Int} (ha : a = 0 ∨ a = 1) (hb : b = 0 ∨ b = 1) : andI a b = if a = 1 then b else 0 := by
  rcases ha with rfl | rfl <;> rcases hb with rfl | rfl <;> decide
theorem andI_bit {a b : Int} (ha : a = 0 ∨ a = 1) (hb : b = 0 ∨ b = 1) : andI a b = 0 ∨ andI a b = 1 := by
  rw [andI_eq ha hb]; split
  · exact hb
  · exact Or.inl rfl
theorem xorI_comm {a b : Int} (ha : a = 0 ∨ a = 1) (hb : b = 0 ∨ b = 1) : xorI a b = xorI b a := by
  rcases ha with rfl | rfl <;> rcases hb with rfl | rfl <;> decide
theorem andI_mul {a b : Int} (ha : a = 0 ∨ a = 1) (hb : b = 0 ∨ b = 1) : a * b = andI a b := by
  rcases ha with rfl | rfl <;> rcases hb with rfl | rfl <;> decide
theorem keepLx {B : Nat} {w w' : World} {p : Addr} {v : Value} (u : Below B w w') (hb : p.block < B) (h : w.cell? p = some v) : w'.cell? p = some v := (u.cell hb).trans h
def xrL (l l' : List Int) (k : Nat) : List Int := (List.range k).map fun i => xorI (l.getD i 0) (l'.getD i 0)
theorem xrL_succ (l l' : List Int) (k : Nat) : xrL l l' (k + 1) = xrL l l' k ++ [xorI (l.getD k 0) (l'.getD k 0)] := by simp [xrL, List.range_succ]
theorem xrL_len (l l' : List Int) (k : Nat) : (xrL l l' k).length = k := by simp [xrL]
theorem xrL_bits {l l' : List Int} (h : Bt l) (h' : Bt l') (k : Nat) : Bt (xrL l l' k) := fun x hx => by
  simp only [xrL, List.mem_map, List.mem_range] at hx
  obtain ⟨i, _, rfl⟩ := hx
  exact xorI_bit (h.at i) (h'.at i)
theorem bitsI_bits (l : List Int) (n : Nat) : Bt (bitsI l n) := fun x hx => by
  simp only [bitsI, List.mem_map, List.mem_range] at hx
  obtain ⟨i, _, rfl⟩ := hx
  omega
set_option maxHeartbeats 4000000 in
set_option maxRecDepth 100000 in
theorem xored_any (a : Option Addr) (n c : Nat) (l : List Int) (a' : Option Addr) (n' c' : Nat) (l' : List Int) (w : World) (h : Ints w a n c l) (h' : Ints w a' n' c' l') (hn : n ≤ n') (hs : n ≤ 100000) :
    Calls Tryz.prog 131 #[.slice a n c, .slice a' n' c'] w fun e w' => ∃ a1 c1, e = .returned (.slice a1 n c1) ∧ Own w' w.heap.size a1 n c1 (xrL l l' n) ∧ Below w.heap.size w w' := by
  have hle := h'.le
  go_enter Tryz.func131, Tryz.ntmps131
  go_wp2
  go_loopw [10, 5] (fun v u wr => ∃ k : Nat, k ≤ n ∧ v = .int .i64 k ∧ Below w.heap.size w wr ∧ ∃ a1 c1, u = .slice a1 k c1 ∧ Own wr w.heap.size a1 k c1 (xrL l l' k)) (fun v _ _ => n - (intOf v).toNat)
  case atStart => exact ⟨0, Nat.zero_le _, rfl, (Below.refl _ _).alloc (Nat.le_refl _) _, _, _, rfl, Own.nil0 _ _ _⟩
  case round =>
    obtain ⟨k, hkn, rfl, hbel, a1, c1, rfl, own⟩ := hrel
    by_cases hlt : k < n
    · have HS := Lib.hid (xrL_succ l l' k)
      obtain ⟨g, o, rfl, e00⟩ := h.at k hlt
      obtain ⟨g', o', rfl, e11⟩ := h'.at k (by omega)
      have e0 := (hbel.cell (World.block_lt_of_cell? w _ e00)).trans e00
      have e1 := (hbel.cell (World.block_lt_of_cell? w _ e11)).trans e11
      have hx : bits BinOp.xor IntKind.i64 (l.getD k 0) (l'.getD k 0) = xorI (l.getD k 0) (l'.getD k 0) := rfl
      generalize l.getD k 0 = x at *
      generalize l'.getD k 0 = y at *
      have f0 : (0 : Int) ≤ (k : Int) := by omega
      have f1 : (k : Int) < (n : Int) := by omega
      have f2 : (k : Int) < (n' : Int) := by omega
      have hg : g < w.heap.size := World.block_lt_of_cell? w _ e00
      have hg' : g' < w.heap.size := World.block_lt_of_cell? w _ e11
      clear e00 e11
      go_wp2_with fail
      go_region_held3 (fun W => W.cell? ⟨g, o + k, none⟩ = some (.int .i64 x) ∧ W.cell? ⟨g', o' + k, none⟩ = some (.int .i64 y))
        (first | exact ⟨keepLx u5 hg (keepA _ e0), keepLx u5 hg' (keepA _ e1)⟩ | go_keep)
        (first | (refine step_appI _ (by rfl) _ _ (by rfl) w.heap.size _ k c1 (xrL l l' k) (by rfl) (own.drew.alloc _) _ 1 1 [xorI x y] (by rfl) (Ints.lit1 _ _ _) (by omega) (by simp; exact Nat.le_succ_of_le hbel.size) ?_; intro a5 c5 w3 o5 u5 g5 hold5))
      rw [← HS.out] at o5
      have b3 := ((hbel.drew).alloc hbel.size (.cells #[.int .i64 (xorI x y)] 3)).trans u5
      clear u5 hbel own g5 hold5 e0 e1
      go_wp2
      go_roundw
      case rel => exact ⟨k + 1, by omega, by go_num, b3, a5, c5, rfl, o5⟩
      case measure => simp [intOf]; omega
    · obtain rfl : k = n := by omega
      go_wp2
      go_ret
      exact ⟨_, _, rfl, own, hbel⟩
set_option maxHeartbeats 4000000 in
set_option maxRecDepth 100000 in
theorem btXor_any (a : Option Addr) (n c : Nat) (l : List Int) (a' : Option Addr) (n' c' : Nat) (l' : List Int) (w : World) (h : Ints w a n c l) (h' : Ints w a' n' c' l') (hn : n ≤ n') (hs : n ≤ 100000) :
    Calls Tryz.prog 137 #[.slice a n c, .slice a' n' c'] w fun e w' => ∃ a1 c1, e = .returned (.slice a1 n c1) ∧ Own w' w.heap.size a1 n c1 (xrL l l' n) ∧ Below w.heap.size w w' := by
  have hle := h'.le
  go_enter Tryz.func137, Tryz.ntmps137
  go_wp2
  go_loopw [10, 5] (fun v u wr => ∃ k : Nat, k ≤ n ∧ v = .int .i64 k ∧ Below w.heap.size w wr ∧ ∃ a1 c1, u = .slice a1 k c1 ∧ Own wr w.heap.size a1 k c1 (xrL l l' k)) (fun v _ _ => n - (intOf v).toNat)
  case atStart => exact ⟨0, Nat.zero_le _, rfl, Below.refl _ _, _, _, rfl, Own.nil0 _ _ _⟩
  case round =>
    obtain ⟨k, hkn, rfl, hbel, a1, c1, rfl, own⟩ := hrel
    by_cases hlt : k < n
    · have HS := Lib.hid (xrL_succ l l' k)
      obtain ⟨g, o, rfl, e0⟩ := (h.below hbel).at k hlt
      obtain ⟨g', o', rfl, e1⟩ := (h'.below hbel).at k (by omega)
      have hx : bits BinOp.xor IntKind.i64 (l.getD k 0) (l'.getD k 0) = xorI (l.getD k 0) (l'.getD k 0) := rfl
      generalize l.getD k 0 = x at *
      generalize l'.getD k 0 = y at *
      have f0 : (0 : Int) ≤ (k : Int) := by omega
      have f1 : (k : Int) < (n : Int) := by omega
      have f2 : (k : Int) < (n' : Int) := by omega
      go_wp2_with (at_builtin; refine wpList_appI _ rfl _ _ rfl w.heap.size _ k c1 (xrL l l' k) rfl (own.alloc _) _ 1 1 [xorI x y] rfl (Ints.lit1 _ _ _) (by omega) (by have := hbel.size; simp; omega) ?_)
      intro a5 c5 w3 o5 u5 _
      rw [← HS.out] at o5
      have b3 := (hbel.alloc hbel.size _).trans u5
      clear u5 hbel own e0 e1
      go_wp2
      go_roundw
      case rel => exact ⟨k + 1, by omega, by go_num, b3, a5, c5, rfl, o5⟩
      case measure => simp [intOf]; omega
    · obtain rfl : k = n := by omega
      go_wp2
      go_ret
      exact ⟨_, _, rfl, own, hbel⟩
end Go.Proofs.YtchmakepglaijaaGreat
namespace Go.Proofs.YtchmakepglaijaaGreat
open Go.RowKit
def InN (w : World) (B : Nat) (a : Option Addr) (n c : Nat) (l : List Int) : Prop := Ints w a n c l ∧ ∀ x, a = some x → B ≤ x.block
theorem InN.below {w w' : World} {B n c : Nat} {a : Option Addr} {l : List Int} (h : InN w B a n c l) (u : Below w.heap.size w w') : InN w' B a n c l := ⟨h.1.below u, h.2⟩
theorem InN.lower {w : World} {B B' n c : Nat} {a : Option Addr} {l : List Int} (h : InN w B a n c l) (hB : B' ≤ B) : InN w B' a n c l := ⟨h.1, fun x hx => Nat.le_trans hB (h.2 x hx)⟩
theorem Own.inn {w : World} {b n c : Nat} {a : Option Addr} {l : List Int} (h : Own w b a n c l) (hn : 0 < n) : InN w b a n c l := ⟨h.ints, fun x hx => (h.range x (by have := h.cap; omega) hx).1⟩
theorem InN.only {w w' : World} {B n c : Nat} {a : Option Addr} {l : List Int} {X : List Nat} (h : InN w B a n c l) (ho : Only X w w') (hX : ∀ q ∈ X, q < B) : InN w' B a n c l := by
  refine ⟨?_, h.2⟩
  obtain ⟨⟨h1, h2, h3, h4, g, o, h5, h6⟩, h7⟩ := h
  refine ⟨h1, h2, h3, h4, g, o, h5, fun i hi => ?_⟩
  have hc := h6 i hi
  have hg := h7 _ (h5 (by omega))
  unfold World.cell? at hc ⊢
  rw [ho.block g (World.block_lt_of_cell? w ⟨g, o + i, none⟩ (by unfold World.cell?; exact hc)) (fun hm => by have := hX g hm; simp at hg; omega)]
  exact hc
def stb (key n : Int) (k : Nat) : Int := (bitsI [key, n, 22] 5).getD k 0
theorem stb_bit (key n : Int) (k : Nat) (h : k < 5) : stb key n k = 0 ∨ stb key n k = 1 := bitsI_bit _ _ _ h
theorem bitsI_five (key n : Int) : bitsI [key, n, 22] 5 = [stb key n 0, stb key n 1, stb key n 2, stb key n 3, stb key n 4] := rfl
def tr1 (key n : Int) : List Int := [stb key n 2, stb key n 3, stb key n 4]
def tr2 (key n : Int) : List Int := [xorI (stb key n 0) (stb key n 2), xorI (stb key n 1) (stb key n 3), xorI (andI (stb key n 0) (stb key n 1)) (stb key n 4)]
theorem tr1_bits (key n : Int) : Bt (tr1 key n) := fun x hx => by
  simp only [tr1, List.mem_cons, List.not_mem_nil, or_false] at hx
  rcases hx with rfl | rfl | rfl <;> exact stb_bit _ _ _ (by decide)
theorem tr2_bits (key n : Int) : Bt (tr2 key n) := fun x hx => by
  simp only [tr2, List.mem_cons, List.not_mem_nil, or_false] at hx
  rcases hx with rfl | rfl | rfl
  · exact xorI_bit (stb_bit _ _ _ (by decide)) (stb_bit _ _ _ (by decide))
  · exact xorI_bit (stb_bit _ _ _ (by decide)) (stb_bit _ _ _ (by decide))
  · exact xorI_bit (andI_bit (stb_bit _ _ _ (by decide)) (stb_bit _ _ _ (by decide))) (stb_bit _ _ _ (by decide))
theorem InN.lit3 (w : World) (B : Nat) (x y z : Int) (hB : B ≤ w.heap.size) : InN (w.alloc (.cells #[.int .i64 x, .int .i64 y, .int .i64 z] 3)) B (some ⟨w.heap.size, 0, none⟩) 3 3 [x, y, z] := (Own.lit w B [x, y, z] hB (by simp [maxLen])).inn (show 0 < 3 by decide)
set_option maxHeartbeats 8000000 in
set_option maxRecDepth 100000 in
theorem bitTriple_any (key i : Int) (w : World) (hk : 0 ≤ key) (hk2 : key ≤ 1000000000) (hi : 0 ≤ i) (hi2 : i ≤ 1000000) :
    Calls Tryz.prog 96 #[.int .i64 key, .int .i64 i] w fun e w' => ∃ a c a' c', e = .returned (.tuple #[.slice a 3 c, .slice a' 3 c']) ∧ InN w' w.heap.size a 3 c (tr1 key i) ∧ InN w' w.heap.size a' 3 c' (tr2 key i) ∧ Below w.heap.size w w' := by
  have hb := bitsI_five key i
  have H1 : Hid (tr1 key i = [stb key i 2, stb key i 3, stb key i 4]) := rfl
  have H2 : Hid (tr2 key i = [xorI (stb key i 0) (stb key i 2), xorI (stb key i 1) (stb key i 3), xorI (andI (stb key i 0) (stb key i 1)) (stb key i 4)]) := rfl
  generalize stb key i 0 = b0 at *
  generalize stb key i 1 = b1 at *
  generalize stb key i 2 = b2 at *
  generalize stb key i 3 = b3 at *
  generalize stb key i 4 = b4 at *
  have HB := Lib.hid hb
  clear hb
  go_enter Tryz.func96, Tryz.ntmps96
  go_wp2_with fail
  refine (bitsFrom_any _ _ _ [key, i, 22] 5 _ (Ints.lit _ [key, i, 22] _ (by simp [maxLen])) (by simp) (WB.cons (by omega) (WB.two (by omega) (by omega))) (by omega) (by omega)).mono ?_; rintro e w1 ⟨a1, c1, rfl, o1, u1⟩
  have v1 := below_a1 u1
  have o1' : Own w1 w.heap.size a1 5 c1 [b0, b1, b2, b3, b4] := by rw [← HB.out]; exact o1.lower (by simp)
  clear u1 o1
  obtain ⟨g, rfl, _, _, x0, _, _⟩ := o1'.at 0 (by omega)
  obtain ⟨_, E, _, _, x1, _, _⟩ := o1'.at 1 (by omega)
  cases E
  obtain ⟨_, E, _, _, x2, _, _⟩ := o1'.at 2 (by omega)
  cases E
  obtain ⟨_, E, _, _, x3, _, _⟩ := o1'.at 3 (by omega)
  cases E
  obtain ⟨_, E, _, _, x4, _, _⟩ := o1'.at 4 (by omega)
  cases E
  change w1.cell? ⟨g, 0, none⟩ = some (.int .i64 b0) at x0
  change w1.cell? ⟨g, 1, none⟩ = some (.int .i64 b1) at x1
  change w1.cell? ⟨g, 2, none⟩ = some (.int .i64 b2) at x2
  change w1.cell? ⟨g, 3, none⟩ = some (.int .i64 b3) at x3
  change w1.cell? ⟨g, 4, none⟩ = some (.int .i64 b4) at x4
  have hcc := o1'.cap
  have hL := o1'.ints.from_ 2 (by omega)
  rw [if_neg (by omega)] at hL
  have hL2 : Ints w1 (some ⟨g, 2, none⟩) 3 (c1 - 2) [b2, b3, b4] := hL
  have hS1 := v1.size
  have f1 : (5 : Int) ≤ (c1 : Int) := by omega
  have f2 : (2 : Int) ≤ (c1 : Int) := by omega
  have f3 : ¬ c1 = 2 := by omega
  have f4 : 2 ≤ c1 := by omega
  have f5 : 5 ≤ c1 := by omega
  clear hcc hL o1'
  have y1 : bits BinOp.xor IntKind.i64 b0 b2 = xorI b0 b2 := rfl
  have y2 : bits BinOp.xor IntKind.i64 b1 b3 = xorI b1 b3 := rfl
  have y3 : bits BinOp.and IntKind.i64 b0 b1 = andI b0 b1 := rfl
  have y4 : bits BinOp.xor IntKind.i64 (andI b0 b1) b4 = xorI (andI b0 b1) b4 := rfl
  go_wp2_with fail
  go_region_held3 (fun W => W.cell? ⟨g, 0, none⟩ = some (.int .i64 b0) ∧ W.cell? ⟨g, 1, none⟩ = some (.int .i64 b1) ∧ W.cell? ⟨g, 2, none⟩ = some (.int .i64 b2) ∧ W.cell? ⟨g, 3, none⟩ = some (.int .i64 b3) ∧ W.cell? ⟨g, 4, none⟩ = some (.int .i64 b4))
    (first | exact ⟨keepC u3 x0, keepC u3 x1, keepC u3 x2, keepC u3 x3, keepC u3 x4⟩ | exact ⟨keepC u3 (keepA _ x0), keepC u3 (keepA _ x1), keepC u3 (keepA _ x2), keepC u3 (keepA _ x3), keepC u3 (keepA _ x4)⟩ | go_keep)
    (first | (go_at_call 73; refine (Clone_any _ 3 (c1 - 2) [b2, b3, b4] _ (by first | exact hL2.drew | exact (hL2.alloc _).drew) (by omega)).mono ?_; rintro e w3 ⟨a3, c3, rfl, o3, u3⟩))
  all_goals go_wp2
  all_goals go_ret2
  all_goals first
    | exact ⟨_, _, _, _, rfl, by rw [H1.out]; exact ((o3.inn (by omega)).lower hS1).below ((Below.refl _ w3).alloc (Nat.le_refl _) _), by rw [H2.out]; exact InN.lit3 w3 _ _ _ _ (Nat.le_trans hS1 u3.size), (v1.trans (((Below.refl w1.heap.size w1).drew.trans u3).mono hS1)).alloc (Nat.le_trans hS1 u3.size) _⟩
    | exact ⟨_, _, _, _, rfl, by rw [H1.out]; exact (o3.inn (by omega)).lower (by simp; omega), by rw [H2.out]; exact (InN.lit3 w1 w.heap.size _ _ _ hS1).below ((Below.refl _ _).drew.trans u3), v1.trans (((((Below.refl w1.heap.size w1).alloc (Nat.le_refl _) _).drew.trans (u3.mono (by simp)))).mono hS1)⟩
set_option maxHeartbeats 8000000 in
set_option maxRecDepth 100000 in
theorem sbTriple_any (key i : Int) (w : World) (hk : 0 ≤ key) (hk2 : key ≤ 1000000000) (hi : 0 ≤ i) (hi2 : i ≤ 1000000) :
    Calls Tryz.prog 107 #[.int .i64 key, .int .i64 i] w fun e w' => ∃ a c a' c', e = .returned (.tuple #[.slice a 3 c, .slice a' 3 c']) ∧ InN w' w.heap.size a 3 c (tr1 key i) ∧ InN w' w.heap.size a' 3 c' (tr2 key i) ∧ Below w.heap.size w w' := by
  have hb := bitsI_five key i
  have H1 : Hid (tr1 key i = [stb key i 2, stb key i 3, stb key i 4]) := rfl
  have d0 := stb_bit key i 0 (by omega)
  have d1 := stb_bit key i 1 (by omega)
  have d2 := stb_bit key i 2 (by omega)
  have d3 := stb_bit key i 3 (by omega)
  have d4 := stb_bit key i 4 (by omega)
  have H2 : Hid (tr2 key i = [xorI (stb key i 0) (stb key i 2), xorI (stb key i 1) (stb key i 3), xorI (andI (stb key i 0) (stb key i 1)) (stb key i 4)]) := rfl
  have H3 : Hid (xrL [stb key i 2, stb key i 3, stb key i 4] [stb key i 0, stb key i 1, andI (stb key i 0) (stb key i 1)] 3 = tr2 key i) := Lib.hid (by
    rw [H2.out, xorI_comm d0 d2, xorI_comm d1 d3, xorI_comm (andI_bit d0 d1) d4]; rfl)
  generalize stb key i 0 = b0 at *
  generalize stb key i 1 = b1 at *
  generalize stb key i 2 = b2 at *
  generalize stb key i 3 = b3 at *
  generalize stb key i 4 = b4 at *
  have HB := Lib.hid hb
  have HM := Lib.hid (andI_mul d0 d1)
  have hm : 0 ≤ b0 * b1 ∧ b0 * b1 ≤ 1 := by rw [HM.out]; have := andI_bit d0 d1; omega
  obtain ⟨m, hmm⟩ : ∃ m, m = b0 * b1 := ⟨_, rfl⟩
  have HMM := Lib.hid (hmm.trans HM.out)
  rw [← hmm] at hm
  have z1 : IntKind.i64.wrap (b0 * b1) = m := by rw [← hmm]; exact IntWalk.i64_in _ (by omega)
  have z2 : wrap64 (b0 * b1) = m := by rw [← hmm]; exact IntWalk.wrap64_in _ (by omega)
  have z3 : b0 * b1 = m := hmm.symm
  have z4 : IntKind.i64.wrap m = m := IntWalk.i64_in _ (by omega)
  clear hb d0 d1 d2 d3 d4 hmm HM
  go_enter Tryz.func107, Tryz.ntmps107
  go_wp2_with fail
  refine (dgBits_any _ _ _ [key, i, 22] 5 _ (Ints.lit _ [key, i, 22] _ (by simp [maxLen])) (by simp) (WB.cons (by omega) (WB.two (by omega) (by omega))) (by omega) (by omega)).mono ?_; rintro e w1 ⟨a1, c1, rfl, o1, u1⟩
  have v1 := below_a1 u1
  have o1' : Own w1 w.heap.size a1 5 c1 [b0, b1, b2, b3, b4] := by rw [← HB.out]; exact o1.lower (by simp)
  clear u1 o1
  obtain ⟨g, rfl, hgb, _, x0, _, _⟩ := o1'.at 0 (by omega)
  obtain ⟨_, E, _, _, x1, _, _⟩ := o1'.at 1 (by omega)
  cases E
  change w1.cell? ⟨g, 0, none⟩ = some (.int .i64 b0) at x0
  change w1.cell? ⟨g, 1, none⟩ = some (.int .i64 b1) at x1
  have hcc := o1'.cap
  have hL := o1'.ints.from_ 2 (by omega)
  rw [if_neg (by omega)] at hL
  have hL2 : Ints w1 (some ⟨g, 2, none⟩) 3 (c1 - 2) [b2, b3, b4] := hL
  have hS1 := v1.size
  have f1 : (5 : Int) ≤ (c1 : Int) := by omega
  have f2 : (2 : Int) ≤ (c1 : Int) := by omega
  have f3 : ¬ c1 = 2 := by omega
  have f4 : 2 ≤ c1 := by omega
  have f5 : 5 ≤ c1 := by omega
  clear hcc hL o1'
  go_wp2_with fail
  go_region_held3 (fun W => W.cell? ⟨g, 0, none⟩ = some (.int .i64 b0) ∧ W.cell? ⟨g, 1, none⟩ = some (.int .i64 b1))
    (first | exact ⟨keepC u3 (keepA _ x0), keepC u3 (keepA _ x1)⟩ | go_keep)
    (first | (go_at_call 137; refine (btXor_any _ 3 (c1 - 2) [b2, b3, b4] _ 3 3 [b0, b1, m] _ (by first | exact hL2.drew.alloc _ | exact (hL2.alloc _).drew) (by first | exact (Ints.lit w1.drew [b0, b1, m] _ (by simp [maxLen])) | exact (Ints.lit w1 [b0, b1, m] _ (by simp [maxLen])).drew) (by omega) (by omega)).mono ?_; rintro e w3 ⟨a3, c3, rfl, o3, u3⟩))
  all_goals have U : Below w1.heap.size w1 w3 := ((Below.refl w1.heap.size w1).alloc (Nat.le_refl _) _).drew.trans (u3.mono (by simp))
  all_goals have o4 := o3.lower (b' := w.heap.size) (by simp; exact Nat.le_succ_of_le hS1)
  all_goals rw [HMM.out, H3.out] at o4
  all_goals have hL3 := hL2.below U
  all_goals have V := v1.trans (U.mono hS1)
  all_goals clear x0 x1 u3 o3 U hL2
  all_goals go_wp2
  all_goals go_ret2
  all_goals exact ⟨_, _, _, _, rfl, ⟨by rw [H1.out]; exact hL3, fun x hx => by cases hx; exact hgb⟩, o4.inn (by omega), V⟩
end Go.Proofs.YtchmakepglaijaaGreat
namespace Go.Proofs.YtchmakepglaijaaGreat
open Go.RowKit
def soI (kd ka kb party : Int) (F : List Int) : Int := if kd = 0 then xorI (F.getD ka.toNat 0) (F.getD kb.toNat 0) else if kd = 2 then xorI (F.getD ka.toNat 0) (1 - party) else 1 - party
def anI (party : Int) (s : List Int) (d e : Int) : Int :=
  if party = 0 then xorI (xorI (xorI (s.getD 2 0) (andI d (s.getD 1 0))) (andI e (s.getD 0 0))) (andI d e) else xorI (xorI (s.getD 2 0) (andI d (s.getD 1 0))) (andI e (s.getD 0 0))
theorem soI_bit {kd ka kb party : Int} {F : List Int} (h : Bt F) (hp : party = 0 ∨ party = 1) : soI kd ka kb party F = 0 ∨ soI kd ka kb party F = 1 := by
  unfold soI
  have h1 : 1 - party = 0 ∨ 1 - party = 1 := by omega
  split
  · exact xorI_bit (h.at _) (h.at _)
  · split
    · exact xorI_bit (h.at _) h1
    · exact h1
theorem anI_bit {party : Int} {s : List Int} {d e : Int} (h : Bt s) (hd : d = 0 ∨ d = 1) (he : e = 0 ∨ e = 1) : anI party s d e = 0 ∨ anI party s d e = 1 := by
  have h1 := xorI_bit (xorI_bit (h.at 2) (andI_bit hd (h.at 1))) (andI_bit he (h.at 0))
  unfold anI
  split
  · exact xorI_bit h1 (andI_bit hd he)
  · exact h1
def goB (kd ka kb : Int) (n : Nat) : Prop := (kd = 0 ∧ (0 ≤ ka ∧ ka < n) ∧ (0 ≤ kb ∧ kb < n)) ∨ (kd = 2 ∧ (0 ≤ ka ∧ ka < n)) ∨ kd = 3
set_option maxHeartbeats 4000000 in
set_option maxRecDepth 100000 in
theorem shareOf_any (kd ka kb party : Int) (a : Option Addr) (n c : Nat) (F : List Int) (w : World) (h : Ints w a n c F) (hg : goB kd ka kb n) (hp : party = 0 ∨ party = 1) :
    Calls Tryz.prog 95 #[.agg #[.int .i64 kd, .int .i64 ka, .int .i64 kb], .int .i64 party, .slice a n c] w fun e w' => e = .returned (.int .i64 (soI kd ka kb party F)) ∧ Below w.heap.size w w' := by
  have hle := h.le
  have hb : Below w.heap.size w (w.alloc (.cells #[.int .i64 kd, .int .i64 ka, .int .i64 kb] 98)) := (Below.refl _ _).alloc (Nat.le_refl _) _
  rcases hg with ⟨rfl, ⟨a0, a1⟩, b0, b1⟩ | ⟨rfl, a0, a1⟩ | rfl
  · obtain ⟨ja, rfl⟩ : ∃ k : Nat, ka = k := ⟨ka.toNat, by omega⟩
    obtain ⟨jb, rfl⟩ : ∃ k : Nat, kb = k := ⟨kb.toNat, by omega⟩
    have HS : Hid (soI 0 (ja : Int) (jb : Int) party F = xorI (F.getD ja 0) (F.getD jb 0)) := rfl
    obtain ⟨g, o, rfl, e0⟩ := (h.alloc (.cells #[.int .i64 0, .int .i64 (ja : Int), .int .i64 (jb : Int)] 98)).at ja (by omega)
    obtain ⟨_, _, E, e1⟩ := (h.alloc (.cells #[.int .i64 0, .int .i64 (ja : Int), .int .i64 (jb : Int)] 98)).at jb (by omega)
    cases E
    have hx : bits BinOp.xor IntKind.i64 (F.getD ja 0) (F.getD jb 0) = xorI (F.getD ja 0) (F.getD jb 0) := rfl
    generalize F.getD ja 0 = x at *
    generalize F.getD jb 0 = y at *
    go_enter Tryz.func95, Tryz.ntmps95
    go_wp2
    go_quiet (fail)
    go_wp2
    go_ret
    exact ⟨ret_int HS.out.symm, hb.trans (below_drewN (Below.refl _ _) _)⟩
  · obtain ⟨ja, rfl⟩ : ∃ k : Nat, ka = k := ⟨ka.toNat, by omega⟩
    have HS : Hid (soI 2 (ja : Int) kb party F = xorI (F.getD ja 0) (1 - party)) := rfl
    obtain ⟨g, o, rfl, e0⟩ := (h.alloc (.cells #[.int .i64 2, .int .i64 (ja : Int), .int .i64 kb] 98)).at ja (by omega)
    generalize F.getD ja 0 = x at *
    rcases hp with rfl | rfl
    all_goals
      go_enter Tryz.func95, Tryz.ntmps95
      go_wp2
      go_ret
      exact ⟨ret_int HS.out.symm, hb⟩
  · have HS : Hid (soI 3 ka kb party F = 1 - party) := rfl
    rcases hp with rfl | rfl
    all_goals
      go_enter Tryz.func95, Tryz.ntmps95
      go_wp2
      go_ret
      exact ⟨ret_int HS.out.symm, hb⟩
set_option maxHeartbeats 4000000 in
set_option maxRecDepth 100000 in
theorem sbLocal_any (kd ka kb party : Int) (a : Option Addr) (n c : Nat) (F : List Int) (w : World) (h : Ints w a n c F) (hg : goB kd ka kb n) (hp : party = 0 ∨ party = 1) :
    Calls Tryz.prog 106 #[.int .i64 party, .agg #[.int .i64 kd, .int .i64 ka, .int .i64 kb], .slice a n c] w fun e w' => e = .returned (.int .i64 (soI kd ka kb party F)) ∧ Below w.heap.size w w' := by
  have hle := h.le
  have hb : Below w.heap.size w (w.alloc (.cells #[.int .i64 kd, .int .i64 ka, .int .i64 kb] 98)) := (Below.refl _ _).alloc (Nat.le_refl _) _
  rcases hg with ⟨rfl, ⟨a0, a1⟩, b0, b1⟩ | ⟨rfl, a0, a1⟩ | rfl
  · obtain ⟨ja, rfl⟩ : ∃ k : Nat, ka = k := ⟨ka.toNat, by omega⟩
    obtain ⟨jb, rfl⟩ : ∃ k : Nat, kb = k := ⟨kb.toNat, by omega⟩
    have HS : Hid (soI 0 (ja : Int) (jb : Int) party F = xorI (F.getD ja 0) (F.getD jb 0)) := rfl
    obtain ⟨g, o, rfl, e0⟩ := (h.alloc (.cells #[.int .i64 0, .int .i64 (ja : Int), .int .i64 (jb : Int)] 98)).at ja (by omega)
    obtain ⟨_, _, E, e1⟩ := (h.alloc (.cells #[.int .i64 0, .int .i64 (ja : Int), .int .i64 (jb : Int)] 98)).at jb (by omega)
    cases E
    have hx : bits BinOp.xor IntKind.i64 (F.getD ja 0) (F.getD jb 0) = xorI (F.getD ja 0) (F.getD jb 0) := rfl
    generalize F.getD ja 0 = x at *
    generalize F.getD jb 0 = y at *
    go_enter Tryz.func106, Tryz.ntmps106
    go_wp2
    go_quiet (fail)
    go_wp2
    go_ret
    exact ⟨ret_int HS.out.symm, hb.trans (below_drewN (Below.refl _ _) _)⟩
  · obtain ⟨ja, rfl⟩ : ∃ k : Nat, ka = k := ⟨ka.toNat, by omega⟩
    have HS : Hid (soI 2 (ja : Int) kb party F = xorI (F.getD ja 0) (1 - party)) := rfl
    obtain ⟨g, o, rfl, e0⟩ := (h.alloc (.cells #[.int .i64 2, .int .i64 (ja : Int), .int .i64 kb] 98)).at ja (by omega)
    generalize F.getD ja 0 = x at *
    rcases hp with rfl | rfl
    all_goals
      go_enter Tryz.func106, Tryz.ntmps106
      go_wp2
      go_ret
      exact ⟨ret_int HS.out.symm, hb⟩
  · have HS : Hid (soI 3 ka kb party F = 1 - party) := rfl
    rcases hp with rfl | rfl
    all_goals
      go_enter Tryz.func106, Tryz.ntmps106
      go_wp2
      go_ret
      exact ⟨ret_int HS.out.symm, hb⟩
theorem an_zero {x y : Int} (hx : x = 0 ∨ x = 1) (hy : y = 0 ∨ y = 1) : bits BinOp.xor IntKind.i64 x (bits BinOp.and IntKind.i64 y 0) = x := by
  rcases hx with rfl | rfl <;> rcases hy with rfl | rfl <;> decide
theorem an_one {y : Int} (hy : y = 0 ∨ y = 1) : bits BinOp.and IntKind.i64 y 1 = y := by rcases hy with rfl | rfl <;> decide
set_option maxHeartbeats 4000000 in
set_option maxRecDepth 100000 in
theorem andShare_any (party d e' : Int) (a : Option Addr) (c : Nat) (s : List Int) (w : World) (h : Ints w a 3 c s) (hs : Bt s) (hd : d = 0 ∨ d = 1) (he : e' = 0 ∨ e' = 1) (hp : party = 0 ∨ party = 1) :
    Calls Tryz.prog 97 #[.int .i64 party, .slice a 3 c, .int .i64 d, .int .i64 e'] w fun e w' => e = .returned (.int .i64 (anI party s d e')) ∧ ∃ m, w' = w.drewN m := by
  have b0 := hs.at 0
  have b1 := hs.at 1
  have b2 := hs.at 2
  obtain ⟨g, o, rfl, e0⟩ := h.at 0 (by omega)
  obtain ⟨_, _, E, e1⟩ := h.at 1 (by omega)
  cases E
  obtain ⟨_, _, E, e2⟩ := h.at 2 (by omega)
  cases E
  rw [Nat.add_zero] at e0
  have H0 : Hid (anI 0 s d e' = xorI (xorI (xorI (s.getD 2 0) (andI d (s.getD 1 0))) (andI e' (s.getD 0 0))) (andI d e')) := rfl
  have H1 : Hid (anI 1 s d e' = xorI (xorI (s.getD 2 0) (andI d (s.getD 1 0))) (andI e' (s.getD 0 0))) := rfl
  generalize s.getD 0 0 = s0 at *
  generalize s.getD 1 0 = s1 at *
  generalize s.getD 2 0 = s2 at *
  have y1 : bits BinOp.and IntKind.i64 d s1 = andI d s1 := rfl
  have y2 : bits BinOp.xor IntKind.i64 s2 (andI d s1) = xorI s2 (andI d s1) := rfl
  have y3 : bits BinOp.and IntKind.i64 e' s0 = andI e' s0 := rfl
  have y4 : bits BinOp.xor IntKind.i64 (xorI s2 (andI d s1)) (andI e' s0) = xorI (xorI s2 (andI d s1)) (andI e' s0) := rfl
  have y5 : bits BinOp.and IntKind.i64 d e' = andI d e' := rfl
  have h4 := xorI_bit (xorI_bit b2 (andI_bit hd b1)) (andI_bit he b0)
  have h5 := andI_bit hd he
  have y6 := an_one h5
  have y7 := an_zero h4 h5
  have y8 : bits BinOp.xor IntKind.i64 (xorI (xorI s2 (andI d s1)) (andI e' s0)) (andI d e') = xorI (xorI (xorI s2 (andI d s1)) (andI e' s0)) (andI d e') := rfl
  generalize xorI (xorI (xorI s2 (andI d s1)) (andI e' s0)) (andI d e') = X0 at *
  generalize xorI (xorI s2 (andI d s1)) (andI e' s0) = X1 at *
  generalize xorI s2 (andI d s1) = X2 at *
  generalize andI d s1 = X3 at *
  generalize andI e' s0 = X4 at *
  generalize andI d e' = X5 at *
  clear b0 b1 b2 h4 h5 hs hd he h
  rcases hp with rfl | rfl
  all_goals
    go_enter Tryz.func97, Tryz.ntmps97
    go_wp2
    go_quiet (fail)
    go_wp2
    go_ret
    first | exact ⟨ret_int H0.out.symm, _, rfl⟩ | exact ⟨ret_int H1.out.symm, _, rfl⟩
set_option maxHeartbeats 4000000 in
set_option maxRecDepth 100000 in
theorem sbAnd_any (party d e' : Int) (a : Option Addr) (c : Nat) (s : List Int) (w : World) (h : Ints w a 3 c s) (hp : party = 0 ∨ party = 1) :
    Calls Tryz.prog 108 #[.int .i64 party, .slice a 3 c, .int .i64 d, .int .i64 e'] w fun e w' => e = .returned (.int .i64 (anI party s d e')) ∧ ∃ m, w' = w.drewN m := by
  obtain ⟨g, o, rfl, e0⟩ := h.at 0 (by omega)
  obtain ⟨_, _, E, e1⟩ := h.at 1 (by omega)
  cases E
  obtain ⟨_, _, E, e2⟩ := h.at 2 (by omega)
  cases E
  rw [Nat.add_zero] at e0
  have H0 : Hid (anI 0 s d e' = xorI (xorI (xorI (s.getD 2 0) (andI d (s.getD 1 0))) (andI e' (s.getD 0 0))) (andI d e')) := rfl
  have H1 : Hid (anI 1 s d e' = xorI (xorI (s.getD 2 0) (andI d (s.getD 1 0))) (andI e' (s.getD 0 0))) := rfl
  generalize s.getD 0 0 = s0 at *
  generalize s.getD 1 0 = s1 at *
  generalize s.getD 2 0 = s2 at *
  have y1 : bits BinOp.and IntKind.i64 d s1 = andI d s1 := rfl
  have y2 : bits BinOp.xor IntKind.i64 s2 (andI d s1) = xorI s2 (andI d s1) := rfl
  have y3 : bits BinOp.and IntKind.i64 e' s0 = andI e' s0 := rfl
  have y4 : bits BinOp.xor IntKind.i64 (xorI s2 (andI d s1)) (andI e' s0) = xorI (xorI s2 (andI d s1)) (andI e' s0) := rfl
  have y5 : bits BinOp.and IntKind.i64 d e' = andI d e' := rfl
  have y8 : bits BinOp.xor IntKind.i64 (xorI (xorI s2 (andI d s1)) (andI e' s0)) (andI d e') = xorI (xorI (xorI s2 (andI d s1)) (andI e' s0)) (andI d e') := rfl
  generalize xorI (xorI (xorI s2 (andI d s1)) (andI e' s0)) (andI d e') = X0 at *
  generalize xorI (xorI s2 (andI d s1)) (andI e' s0) = X1 at *
  generalize xorI s2 (andI d s1) = X2 at *
  generalize andI d s1 = X3 at *
  generalize andI e' s0 = X4 at *
  generalize andI d e' = X5 at *
  clear h
  rcases hp with rfl | rfl
  all_goals
    go_enter Tryz.func108, Tryz.ntmps108
    go_wp2
    go_quiet (fail)
    go_wp2
    go_ret
    first | exact ⟨ret_int H0.out.symm, _, rfl⟩ | exact ⟨ret_int H1.out.symm, _, rfl⟩
end Go.Proofs.YtchmakepglaijaaGreat
namespace Go.Proofs.YtchmakepglaijaaGreat
open Go.RowKit
set_option maxHeartbeats 4000000 in
theorem ciJoin_any (a : Option Addr) (n c : Nat) (l : List Int) (a' : Option Addr) (n' c' : Nat) (l' : List Int) (w : World) (h : Ints w a n c l) (h' : Ints w a' n' c' l') (hn : n ≤ 100000) (hn' : n' ≤ 100000) :
    Calls Tryz.prog 136 #[.slice a n c, .slice a' n' c'] w fun e w' => ∃ a1 c1, e = .returned (.slice a1 (n + n') c1) ∧ Own w' w.heap.size a1 (n + n') c1 (l ++ l') ∧ Below w.heap.size w w' := by
  go_enter Tryz.func136, Tryz.ntmps136
  go_wp2_with fail
  refine (l1Own_any a n c l w h (by omega)).mono ?_; rintro e w1 ⟨a1, c1, rfl, o1, u1⟩
  go_wp2_with (at_builtin; refine wpList_appI _ rfl _ _ rfl w.heap.size a1 n c1 l rfl o1 _ n' c' l' rfl (h'.below u1) (by omega) u1.size ?_)
  intro a5 c5 w3 o5 u5 _
  have b3 := u1.trans u5
  clear u1 u5 o1
  go_wp2
  go_ret
  exact ⟨_, _, rfl, o5, b3⟩
end Go.Proofs.YtchmakepglaijaaGreat
namespace Go.Proofs.YtchmakepglaijaaGreat
open Go.RowKit
theorem bitsFrom_n (a : Option Addr) (m c : Nat) (l : List Int) (N : Nat) (w : World) (h : Ints w a m c l) (hs : m ≤ 900000) (hw : WB l) (hN : N ≤ 1000000) :
    Calls Tryz.prog 110 #[.slice a m c, .int .i64 N] w fun e w' => ∃ a' c', e = .returned (.slice a' N c') ∧ Own w' w.heap.size a' N c' (bitsI l N) ∧ Below w.heap.size w w' := by
  have h2 := bitsFrom_any a m c l (N : Int) w h hs hw (by omega) (by omega)
  rw [Int.toNat_natCast] at h2
  exact h2
theorem dgBits_n (a : Option Addr) (m c : Nat) (l : List Int) (N : Nat) (w : World) (h : Ints w a m c l) (hs : m ≤ 900000) (hw : WB l) (hN : N ≤ 1000000) :
    Calls Tryz.prog 112 #[.slice a m c, .int .i64 N] w fun e w' => ∃ a' c', e = .returned (.slice a' N c') ∧ Own w' w.heap.size a' N c' (bitsI l N) ∧ Below w.heap.size w w' := by
  have h2 := dgBits_any a m c l (N : Int) w h hs hw (by omega) (by omega)
  rw [Int.toNat_natCast] at h2
  exact h2
theorem ints2 {w : World} {b : Nat} {x y : Int} (h0 : w.cell? ⟨b, 0, none⟩ = some (.int .i64 x)) (h1 : w.cell? ⟨b, 1, none⟩ = some (.int .i64 y)) : Ints w (some ⟨b, 0, none⟩) 2 2 [x, y] :=
  ⟨rfl, Nat.le_refl _, by unfold maxLen; omega, (fun e => by cases e), b, 0, fun _ => rfl, fun i hi => by
    rcases (by omega : i = 0 ∨ i = 1) with rfl | rfl
    · exact h0
    · exact h1⟩
def siF (key : Int) (A : List Int) (i0 i1 : Nat) : List Int := xrL A (bitsI [key, 221] i0) i0 ++ bitsI [key, 222] i1
def siS (key : Int) (B : List Int) (i0 i1 : Nat) : List Int := bitsI [key, 221] i0 ++ xrL B (bitsI [key, 222] i1) i1
theorem siF_len (key : Int) (A : List Int) (i0 i1 : Nat) : (siF key A i0 i1).length = i0 + i1 := by unfold siF; rw [List.length_append, xrL_len, bitsI_len]
theorem siS_len (key : Int) (B : List Int) (i0 i1 : Nat) : (siS key B i0 i1).length = i0 + i1 := by unfold siS; rw [List.length_append, xrL_len, bitsI_len]
theorem siF_bits {key : Int} {A : List Int} (h : Bt A) (i0 i1 : Nat) : Bt (siF key A i0 i1) := (xrL_bits h (bitsI_bits _ _) _).app (bitsI_bits _ _)
theorem siS_bits {key : Int} {B : List Int} (h : Bt B) (i0 i1 : Nat) : Bt (siS key B i0 i1) := (bitsI_bits _ _).app (xrL_bits h (bitsI_bits _ _) _)
theorem disj_new {w1 w2 : World} {b1 b2 : Nat} {a1 a2 : Option Addr} {n1 c1 n2 c2 : Nat} {l1 l2 : List Int} (h1 : Own w1 b1 a1 n1 c1 l1) (h2 : Own w2 b2 a2 n2 c2 l2) (hb : w1.heap.size ≤ b2) : Disj (foot a1 c1) (foot a2 c2) := fun q hq hq' => by
  have := (h1.feet q hq).2
  have := (h2.feet q hq').1
  omega
set_option maxHeartbeats 4000000 in
set_option maxRecDepth 100000 in
theorem shareInputs_any (i0 i1 : Nat) (ga : Option Addr) (gn gc : Nat) (oa : Option Addr) (on oc : Nat) (key : Int) (aa : Option Addr) (ac : Nat) (A : List Int) (ba : Option Addr) (bc : Nat) (B : List Int) (w : World) (hA : Ints w aa i0 ac A) (hB : Ints w ba i1 bc B)
    (hk : 0 ≤ key) (hk2 : key ≤ 1000000000) (h0 : i0 ≤ 1000) (h1 : i1 ≤ 1000) :
    Calls Tryz.prog 94 #[.agg #[.int .i64 i0, .int .i64 i1, .slice ga gn gc, .slice oa on oc], .int .i64 key, .slice aa i0 ac, .slice ba i1 bc] w fun e w' => ∃ a1 c1 a2 c2, e = .returned (.tuple #[.slice a1 (i0 + i1) c1, .slice a2 (i0 + i1) c2]) ∧
      Own w' w.heap.size a1 (i0 + i1) c1 (siF key A i0 i1) ∧ Own w' w.heap.size a2 (i0 + i1) c2 (siS key B i0 i1) ∧ Disj (foot a1 c1) (foot a2 c2) ∧ Below w.heap.size w w' := by
  have V0 : Below w.heap.size w (w.alloc (.cells #[.int .i64 i0, .int .i64 i1, .slice ga gn gc, .slice oa on oc] 49)) := (Below.refl _ _).alloc (Nat.le_refl _) _
  have B0 : Blk (w.alloc (.cells #[.int .i64 i0, .int .i64 i1, .slice ga gn gc, .slice oa on oc] 49)) w.heap.size 49 #[.int .i64 i0, .int .i64 i1, .slice ga gn gc, .slice oa on oc] := Blk.new w _ _
  go_enter Tryz.func94, Tryz.ntmps94
  go_upto_region 1 with fail
  generalize (w.alloc (.cells #[.int .i64 i0, .int .i64 i1, .slice ga gn gc, .slice oa on oc] 49)) = w0 at *
  have x0 : w0.cell? ⟨w.heap.size, 0, none⟩ = some (.int .i64 i0) := B0.cell 0
  have x0' := keepA (.cells #[.int .i64 key, .int .i64 221] 3) x0
  go_wp2_with fail
  clear x0 x0'
  refine (bitsFrom_n _ _ _ [key, 221] i0 _ (Ints.lit _ [key, 221] _ (by simp [maxLen])) (by simp) (WB.two (by omega) (by omega)) (by omega)).mono ?_; rintro e w1 ⟨a1, c1, rfl, o1, u1⟩
  have v1 := below_a1 u1
  have B1 := B0.below v1
  have V1 := V0.trans (v1.mono V0.size)
  have p1 := o1.lower (b' := w.heap.size) (by have := V0.size; simp; omega)
  have x1 := B1.cell 1
  have x1' : w1.cell? ⟨w.heap.size, 1, none⟩ = some (.int .i64 i1) := x1
  have x2 := keepA (.cells #[.int .i64 key, .int .i64 222] 3) x1'
  clear u1 v1 x1 B1 B0 o1
  go_wp2_with fail
  refine (bitsFrom_n _ _ _ [key, 222] i1 _ (Ints.lit _ [key, 222] _ (by simp [maxLen])) (by simp) (WB.two (by omega) (by omega)) (by omega)).mono ?_; rintro e w2 ⟨a2, c2, rfl, o2, u2⟩
  have v2 := below_a1 u2
  have p1' := p1.below v2
  have V2 := V1.trans (v2.mono V1.size)
  have D12 := disj_new p1 o2 (by simp)
  have p2 := o2.lower (b' := w.heap.size) (by have := V1.size; simp; omega)
  clear u2 v2 x1' x2 o2 p1
  go_wp2_with fail
  refine (xored_any _ _ _ A _ _ _ _ _ (hA.below V2) p1'.ints (Nat.le_refl _) (by omega)).mono ?_; rintro e w3 ⟨a3, c3, rfl, o3, u3⟩
  have q1 := p1'.below u3
  have q2 := p2.below u3
  have V3 := V2.trans (u3.mono V2.size)
  have D13 := disj_new p1' o3 (Nat.le_refl _)
  have D23 := disj_new p2 o3 (Nat.le_refl _)
  have q3 := o3.lower (b' := w.heap.size) V2.size
  clear u3 p1' p2 o3
  go_wp2_with (at_builtin; refine wpList_appJ _ rfl _ _ rfl w.heap.size a3 i0 c3 _ rfl q3 _ i1 c2 _ rfl q2.ints (by omega) V3.size ?_)
  intro a4 c4 w4 o4 u4 g4 m4
  have r1 := q1.only (Only.of_grown g4) D13
  have r2 := q2.only (Only.of_grown g4) D23
  have D14 := (m4.disj D13.symm (fun q hq => (q1.feet q hq).2)).symm
  have D24 := (m4.disj D23.symm (fun q hq => (q2.feet q hq).2)).symm
  have V4 := V3.trans u4
  clear q1 q2 q3 u4 g4 m4 D13 D23
  go_wp2_with fail
  refine (xored_any _ _ _ B _ _ _ _ _ (hB.below V4) r2.ints (Nat.le_refl _) (by omega)).mono ?_; rintro e w5 ⟨a5, c5, rfl, o5, u5⟩
  have s1 := r1.below u5
  have s4 := o4.below u5
  have V5 := V4.trans (u5.mono V4.size)
  have q5 := o5.lower (b' := w.heap.size) V4.size
  clear u5 r1 r2 o4 o5
  go_wp2_with (at_builtin; refine wpList_appJ _ rfl _ _ rfl w.heap.size a1 i0 c1 _ rfl s1 _ i1 c5 _ rfl q5.ints (by omega) V5.size ?_)
  intro a6 c6 w6 o6 u6 g6 m6
  have t4 := s4.only (Only.of_grown g6) D14.symm
  have D46 := (m6.disj D14 (fun q hq => (s4.feet q hq).2)).symm
  have V6 := V5.trans u6
  clear s1 s4 q5 u6 g6 m6
  go_wp2
  go_ret2
  exact ⟨_, _, _, _, rfl, t4, o6, D46, V6⟩
set_option maxHeartbeats 4000000 in
set_option maxRecDepth 100000 in
theorem sbInputs_any (i0 i1 : Nat) (ga : Option Addr) (gn gc : Nat) (oa : Option Addr) (on oc : Nat) (key : Int) (aa : Option Addr) (ac : Nat) (A : List Int) (ba : Option Addr) (bc : Nat) (B : List Int) (w : World) (hA : Ints w aa i0 ac A) (hB : Ints w ba i1 bc B)
    (hk : 0 ≤ key) (hk2 : key ≤ 1000000000) (h0 : i0 ≤ 1000) (h1 : i1 ≤ 1000) :
    Calls Tryz.prog 105 #[.agg #[.int .i64 i0, .int .i64 i1, .slice ga gn gc, .slice oa on oc], .int .i64 key, .slice aa i0 ac, .slice ba i1 bc] w fun e w' => ∃ a1 c1 a2 c2, e = .returned (.tuple #[.slice a1 (i0 + i1) c1, .slice a2 (i0 + i1) c2]) ∧
      Own w' w.heap.size a1 (i0 + i1) c1 (siF key A i0 i1) ∧ Own w' w.heap.size a2 (i0 + i1) c2 (siS key B i0 i1) ∧ Disj (foot a1 c1) (foot a2 c2) ∧ Below w.heap.size w w' := by
  have V0 : Below w.heap.size w (w.alloc (.cells #[.int .i64 i0, .int .i64 i1, .slice ga gn gc, .slice oa on oc] 49)) := (Below.refl _ _).alloc (Nat.le_refl _) _
  have B0 : Blk (w.alloc (.cells #[.int .i64 i0, .int .i64 i1, .slice ga gn gc, .slice oa on oc] 49)) w.heap.size 49 #[.int .i64 i0, .int .i64 i1, .slice ga gn gc, .slice oa on oc] := Blk.new w _ _
  go_enter Tryz.func105, Tryz.ntmps105
  go_upto_region 1 with fail
  generalize (w.alloc (.cells #[.int .i64 i0, .int .i64 i1, .slice ga gn gc, .slice oa on oc] 49)) = w0 at *
  have x0 : w0.cell? ⟨w.heap.size, 0, none⟩ = some (.int .i64 i0) := B0.cell 0
  have x1 : w0.cell? ⟨w.heap.size, 1, none⟩ = some (.int .i64 i1) := B0.cell 1
  go_cut [10, 11] (fun s10 s11 wx => ∃ a1 c1 a2 c2, s10 = .slice a1 i0 c1 ∧ s11 = .slice a2 i1 c2 ∧ Own wx w.heap.size a1 i0 c1 (bitsI [key, 221] i0) ∧ Own wx w.heap.size a2 i1 c2 (bitsI [key, 222] i1) ∧ Disj (foot a1 c1) (foot a2 c2) ∧ Below w.heap.size w wx)
  case first =>
    have hz : w.heap.size < w0.heap.size := B0.lt
    go_region_held3 (fun W => W.cell? ⟨w.heap.size, 0, none⟩ = some (.int .i64 i0) ∧ W.cell? ⟨w.heap.size, 1, none⟩ = some (.int .i64 i1))
      (first | exact ⟨keepC u1 (keepA _ x0), keepC u1 (keepA _ x1)⟩ | exact ⟨keepC u1 (keepA _ (keepA _ x0)), keepC u1 (keepA _ (keepA _ x1))⟩ | exact ⟨keepA _ (keepC u1 (keepA _ x0)), keepA _ (keepC u1 (keepA _ x1))⟩ | exact ⟨keepC u2 (keepC u1 (keepA _ (keepA _ x0))), keepC u2 (keepC u1 (keepA _ (keepA _ x1)))⟩ | exact ⟨keepC u2 (keepA _ (keepC u1 (keepA _ x0))), keepC u2 (keepA _ (keepC u1 (keepA _ x1)))⟩ | go_keep)
      (first | (go_at_call 112; have _ := u1; refine (dgBits_n _ _ _ [key, 222] i1 _ (by first | exact ints2 (keepC u1 (by simp)) (keepC u1 (by simp)) | exact ints2 (by simp) (by simp)) (by simp) (WB.two (by omega) (by omega)) (by omega)).mono ?_; rintro e w2 ⟨a2, c2, rfl, o2, u2⟩) | (go_at_call 112; refine (dgBits_n _ _ _ [key, 221] i0 _ (ints2 (by simp) (by simp)) (by simp) (WB.two (by omega) (by omega)) (by omega)).mono ?_; rintro e w1 ⟨a1, c1, rfl, o1, u1⟩))
    all_goals first
      | (have U1 : Below w0.heap.size w0 w1 := ((Below.refl w0.heap.size w0).alloc (Nat.le_refl _) (.cells #[.int .i64 key, .int .i64 221] 3)).drew.trans (u1.mono (by simp)); have U2 := below_a1 u2; have D := disj_new o1 o2 (by simp); have q1 := (o1.lower (b' := w.heap.size) (by simp; omega)).below U2; have q2 := o2.lower (b' := w.heap.size) (by have := U1.size; simp; omega))
      | (have U1 : Below w0.heap.size w0 w1 := (((Below.refl w0.heap.size w0).alloc (Nat.le_refl _) (.cells #[.int .i64 key, .int .i64 221] 3)).alloc (by simp) (.cells #[.int .i64 key, .int .i64 222] 3)).drew.trans (u1.mono (by simp; omega)); have U2 := u2; have D := disj_new o1 o2 (Nat.le_refl _); have q1 := (o1.lower (b' := w.heap.size) (by simp; omega)).below U2; have q2 := o2.lower (b' := w.heap.size) (by have := U1.size; omega))
      | (have U1 : Below w0.heap.size w0 w1 := (((Below.refl w0.heap.size w0).alloc (Nat.le_refl _) (.cells #[.int .i64 key, .int .i64 222] 3)).alloc (by simp) (.cells #[.int .i64 key, .int .i64 221] 3)).drew.trans (u1.mono (by simp; omega)); have U2 := u2; have D := disj_new o1 o2 (Nat.le_refl _); have q1 := (o1.lower (b' := w.heap.size) (by simp; omega)).below U2; have q2 := o2.lower (b' := w.heap.size) (by have := U1.size; omega))
    all_goals have V := V0.trans ((U1.trans (U2.mono U1.size)).mono V0.size)
    all_goals have HX := Lib.hid (And.intro q1 (And.intro q2 (And.intro D V)))
    all_goals clear u1 u2 o1 o2 U1 U2 q1 q2 D V
    all_goals go_wp2_with fail
    all_goals go_meet
    all_goals exact ⟨_, _, _, _, rfl, rfl, HX.out⟩
  case rest =>
    rename World => w2
    obtain ⟨a1, c1, a2, c2, rfl, rfl, p1', p2, D12, V2⟩ := hcut
    clear x0 x1 B0 V0
    go_wp2_with fail
    refine (btXor_any _ _ _ A _ _ _ _ _ (hA.below V2) p1'.ints (Nat.le_refl _) (by omega)).mono ?_; rintro e w3 ⟨a3, c3, rfl, o3, u3⟩
    have q1 := p1'.below u3
    have q2 := p2.below u3
    have V3 := V2.trans (u3.mono V2.size)
    clear p1' p2
    go_wp2_with fail
    refine (ciJoin_any _ _ _ _ _ _ _ _ _ o3.ints q2.ints (by omega) (by omega)).mono ?_; rintro e w4 ⟨a4, c4, rfl, o4, u4⟩
    have r1 := q1.below u4
    have r2 := q2.below u4
    have V4 := V3.trans (u4.mono V3.size)
    have p4 := o4.lower (b' := w.heap.size) V3.size
    clear q1 q2 o3 u3 u4 o4
    go_wp2_with fail
    refine (btXor_any _ _ _ B _ _ _ _ _ (hB.below V4) r2.ints (Nat.le_refl _) (by omega)).mono ?_; rintro e w5 ⟨a5, c5, rfl, o5, u5⟩
    have s1 := r1.below u5
    have s4 := p4.below u5
    have V5 := V4.trans (u5.mono V4.size)
    clear r1 r2 p4
    go_wp2_with fail
    refine (ciJoin_any _ _ _ _ _ _ _ _ _ s1.ints o5.ints (by omega) (by omega)).mono ?_; rintro e w6 ⟨a6, c6, rfl, o6, u6⟩
    have t4 := s4.below u6
    have D46 := disj_new s4 o6 (Nat.le_refl _)
    have V6 := V5.trans (u6.mono V5.size)
    have q6 := o6.lower (b' := w.heap.size) V5.size
    clear s1 s4 o5 u5 u6 o6
    go_wp2
    go_ret2
    exact ⟨_, _, _, _, rfl, t4, q6, D46, V6⟩
end Go.Proofs.YtchmakepglaijaaGreat
namespace Go.Proofs.YtchmakepglaijaaGreat
open Go.RowKit
abbrev SbT : Type := List Int × List Int × Nat
def sbDd (key : Int) (n : Nat) (F S : List Int) (ka : Int) (j : Nat) : Int := xorI (xorI (xorI (F.getD ka.toNat 0) (S.getD ka.toNat 0)) ((tr1 key n).getD j 0)) ((tr2 key n).getD j 0)
def sbMul (key ka kb : Int) (r : SbT) : SbT := (r.1 ++ [anI 0 (tr1 key r.2.2) (sbDd key r.2.2 r.1 r.2.1 ka 0) (sbDd key r.2.2 r.1 r.2.1 kb 1)], r.2.1 ++ [anI 1 (tr2 key r.2.2) (sbDd key r.2.2 r.1 r.2.1 ka 0) (sbDd key r.2.2 r.1 r.2.1 kb 1)], r.2.2 + 1)
def sbLoc (kd ka kb : Int) (r : SbT) : SbT := (r.1 ++ [soI kd ka kb 0 r.1], r.2.1 ++ [soI kd ka kb 1 r.2.1], r.2.2)
def sbStep (key kd ka kb : Int) (r : SbT) : SbT := if kd = 1 then sbMul key ka kb r else sbLoc kd ka kb r
def sbR (key : Int) (G F0 S0 : List Int) : Nat → SbT
  | 0 => (F0, S0, 0)
  | k + 1 => sbStep key (G.getD (k * 3) 0) (G.getD (k * 3 + 1) 0) (G.getD (k * 3 + 2) 0) (sbR key G F0 S0 k)
theorem sbR_succ (key : Int) (G F0 S0 : List Int) (k : Nat) : sbR key G F0 S0 (k + 1) = sbStep key (G.getD (k * 3) 0) (G.getD (k * 3 + 1) 0) (G.getD (k * 3 + 2) 0) (sbR key G F0 S0 k) := rfl
structure SbOk (N : Nat) (r : SbT) : Prop where
  lf : r.1.length = N
  ls : r.2.1.length = N
  bf : Bt r.1
  bs : Bt r.2.1
theorem sbDd_bit (key : Int) (n : Nat) {F S : List Int} (hF : Bt F) (hS : Bt S) (ka : Int) (j : Nat) : sbDd key n F S ka j = 0 ∨ sbDd key n F S ka j = 1 :=
  xorI_bit (xorI_bit (xorI_bit (hF.at _) (hS.at _)) ((tr1_bits _ _).at _)) ((tr2_bits _ _).at _)
theorem sbR_ok (key : Int) (G : List Int) {F0 S0 : List Int} {B : Nat} (h : SbOk B (F0, S0, 0)) (k : Nat) : SbOk (B + k) (sbR key G F0 S0 k) ∧ (sbR key G F0 S0 k).2.2 ≤ k := by
  induction k with
  | zero => exact ⟨h, Nat.le_refl _⟩
  | succ k ih =>
    obtain ⟨⟨lf, ls, bf, bs⟩, hn⟩ := ih
    rw [sbR_succ]
    generalize sbR key G F0 S0 k = r at *
    unfold sbStep
    split
    · exact ⟨⟨by simp [sbMul, lf]; omega, by simp [sbMul, ls]; omega, bf.app (Bt.one (anI_bit (tr1_bits _ _) (sbDd_bit _ _ bf bs _ _) (sbDd_bit _ _ bf bs _ _))), bs.app (Bt.one (anI_bit (tr2_bits _ _) (sbDd_bit _ _ bf bs _ _) (sbDd_bit _ _ bf bs _ _)))⟩, by simp [sbMul]; omega⟩
    · exact ⟨⟨by simp [sbLoc, lf]; omega, by simp [sbLoc, ls]; omega, bf.app (Bt.one (soI_bit bf (Or.inl rfl))), bs.app (Bt.one (soI_bit bs (Or.inr rfl)))⟩, by simp [sbLoc]; omega⟩
end Go.Proofs.YtchmakepglaijaaGreat
namespace Go.Proofs.YtchmakepglaijaaGreat
open Go.RowKit
end Go.Proofs.YtchmakepglaijaaGreat
