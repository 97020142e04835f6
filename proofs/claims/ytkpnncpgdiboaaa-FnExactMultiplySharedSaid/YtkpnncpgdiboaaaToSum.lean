/- A bit as a sum; the law over it. -/
import Derived.Test.YtkpnncpgdiboaaaDouble
import Derived.Test.YtkpnncpgdiboaaaSums
namespace Go.Proofs.Ytkpnncpgdiboaaa
open Go.RowKit

def r0I (key i : Int) : Int := dbB key i 1
def r1I (key i : Int) : Int := xorI (dbB key i 0) (dbB key i 1)
def q0I (p key i : Int) : Int := dbN p key i
def q1I (p key i : Int) : Int := (dbB key i 0 - dbN p key i) % p
theorem db1_eq (key i : Int) : db1 key i = [r0I key i, r1I key i] := rfl
theorem db2_eq (p key i : Int) : db2 p key i = [q0I p key i, q1I p key i] := rfl
theorem r0I_bit (key i : Int) : r0I key i = 0 ∨ r0I key i = 1 := dbB_bit _ _ _ (by omega)
theorem r1I_bit (key i : Int) : r1I key i = 0 ∨ r1I key i = 1 := xorI_bit (dbB_bit _ _ _ (by omega)) (dbB_bit _ _ _ (by omega))
theorem q0I_range (p key i : Int) (h : 1 ≤ p) : 0 ≤ q0I p key i ∧ q0I p key i ≤ p - 1 := numI_range _ _ h
theorem q1I_range (p key i : Int) (h : 1 ≤ p) : 0 ≤ q1I p key i ∧ q1I p key i ≤ p - 1 := by
  unfold q1I
  exact ⟨Int.emod_nonneg _ (by omega), by have := Int.emod_lt_of_pos (dbB key i 0 - dbN p key i) (by omega : 0 < p); omega⟩
/-- The opened bit, and the pair. -/
def tsM (key i x : Int) : Int := xorI (xorI x (r0I key i)) (r1I key i)
def tsL (p key i x : Int) : List Int := [(tsM key i x + (1 - 2 * tsM key i x) * q0I p key i) % p, ((1 - 2 * tsM key i x) * q1I p key i) % p]
theorem tsM_bit (key i x : Int) (h : x = 0 ∨ x = 1) : tsM key i x = 0 ∨ tsM key i x = 1 := xorI_bit (xorI_bit h (r0I_bit _ _)) (r1I_bit _ _)
theorem sign_range {m q p : Int} (h : m = 0 ∨ m = 1) (h0 : 0 ≤ q) (h1 : q ≤ p) : -p ≤ (1 - 2 * m) * q ∧ (1 - 2 * m) * q ≤ p := by
  rcases h with rfl | rfl
  · simp; omega
  · have : (1 - 2 * 1 : Int) * q = -q := by omega
    rw [this]; omega
set_option maxHeartbeats 4000000 in
set_option maxRecDepth 100000 in
theorem bitToSum_any (p key i x : Int) (w : World) (hp : 1 ≤ p) (hp2 : p ≤ 1000) (hk : 0 ≤ key) (hk2 : key ≤ 1000000000) (hi : 0 ≤ i) (hi2 : i ≤ 1000000) (hx : x = 0 ∨ x = 1) :
    Calls Try.prog 75 #[.int .i64 p, .int .i64 key, .int .i64 i, .int .i64 x] w fun e w' => ∃ a c, e = .returned (.tuple #[.slice a 2 c, .int .i64 (tsM key i x)]) ∧ Own w' w.heap.size a 2 c (tsL p key i x) ∧ Below w.heap.size w w' := by
  have hm := tsM_bit key i x hx
  have b0 := r0I_bit key i
  have b1 := r1I_bit key i
  have rq0 := q0I_range p key i hp
  have rq1 := q1I_range p key i hp
  have HL : Hid (tsL p key i x = [(tsM key i x + (1 - 2 * tsM key i x) * q0I p key i) % p, ((1 - 2 * tsM key i x) * q1I p key i) % p]) := rfl
  have x1 : bits BinOp.xor IntKind.i64 x (r0I key i) = xorI x (r0I key i) := rfl
  have x2 : bits BinOp.xor IntKind.i64 (xorI x (r0I key i)) (r1I key i) = tsM key i x := rfl
  have HD1 := Lib.hid (db1_eq key i)
  have HD2 := Lib.hid (db2_eq p key i)
  generalize tsM key i x = m at *
  generalize r0I key i = r0 at *
  generalize r1I key i = r1 at *
  generalize q0I p key i = q0 at *
  generalize q1I p key i = q1 at *
  obtain ⟨rq0, rq0'⟩ := rq0
  obtain ⟨rq1, rq1'⟩ := rq1
  have sg0 := sign_range (p := p) hm rq0 (by omega)
  have sg1 := sign_range (p := p) hm rq1 (by omega)
  obtain ⟨sg0, sg0'⟩ := sg0
  obtain ⟨sg1, sg1'⟩ := sg1
  have m0 : 0 ≤ m := by omega
  have m1 : m ≤ 1 := by omega
  clear hm b0 b1 hx
  go_enter Try.func75, Try.ntmps75
  go_wp2_with fail
  refine (doubleBit_any _ _ _ _ hp hp2 hk hk2 hi hi2).mono ?_; rintro e w1 ⟨a1, c1, a2, c2, rfl, o1, o2, _, u1⟩
  rw [HD1.out] at o1
  rw [HD2.out] at o2
  obtain ⟨g, o, rfl, hc1⟩ := o1.ints.cells (by omega)
  obtain ⟨g', o', rfl, hc2⟩ := o2.ints.cells (by omega)
  have e0 : w1.cell? ⟨g, o, none⟩ = some (.int .i64 r0) := hc1 0 (by omega)
  have e1 : w1.cell? ⟨g, o + 1, none⟩ = some (.int .i64 r1) := hc1 1 (by omega)
  have e2 : w1.cell? ⟨g', o', none⟩ = some (.int .i64 q0) := hc2 0 (by omega)
  have e3 : w1.cell? ⟨g', o' + 1, none⟩ = some (.int .i64 q1) := hc2 1 (by omega)
  clear hc1 hc2 o1 o2
  go_wp2
  go_quiet (fail)
  have t1 : IntKind.i64.wrap (2 * m) = 2 * m := IntWalk.i64_in _ (by omega)
  have t2 : IntKind.i64.wrap (1 - 2 * m) = 1 - 2 * m := IntWalk.i64_in _ (by omega)
  have t3 : IntKind.i64.wrap ((1 - 2 * m) * q0) = (1 - 2 * m) * q0 := IntWalk.i64_in _ (by omega)
  have t4 : IntKind.i64.wrap (m + (1 - 2 * m) * q0) = m + (1 - 2 * m) * q0 := IntWalk.i64_in _ (by omega)
  have t5 : IntKind.i64.wrap ((1 - 2 * m) * q1) = (1 - 2 * m) * q1 := IntWalk.i64_in _ (by omega)
  have u2 := u1.trans ((below_of_drewN nq).mono u1.size)
  generalize hw2 : w1.drewN nq = w2 at *
  have e2' : w2.cell? ⟨g', o', none⟩ = some (.int .i64 q0) := by rw [← hw2]; exact e2
  have e3' : w2.cell? ⟨g', o' + 1, none⟩ = some (.int .i64 q1) := by rw [← hw2]; exact e3
  clear hw2 e0 e1 e2 e3 u1 x1 x2
  go_wp2
  go_region_held3 (fun W => W.cell? ⟨g', o', none⟩ = some (.int .i64 q0) ∧ W.cell? ⟨g', o' + 1, none⟩ = some (.int .i64 q1))
    (go_keep)
    (first | (go_at_call 83; refine (mod_same _ _ _ hp (by omega)).mono ?_; rintro e w' ⟨rfl, rfl⟩))
  all_goals go_wp2
  all_goals go_ret2
  all_goals exact ⟨_, _, rfl, by rw [HL.out]; exact (Own.lit2 _ _ _ _ u2.size).drew, (u2.alloc u2.size _).drew⟩
set_option maxHeartbeats 4000000 in
set_option maxRecDepth 100000 in
theorem cvToSum_any (p key i : Int) (a : Option Addr) (c : Nat) (y0 y1 : Int) (w : World) (hp : 1 ≤ p) (hp2 : p ≤ 1000) (hk : 0 ≤ key) (hk2 : key ≤ 1000000000) (hi : 0 ≤ i) (hi2 : i ≤ 1000000) (h : Ints w a 2 c [y0, y1]) (hx : xorI y0 y1 = 0 ∨ xorI y0 y1 = 1) :
    Calls Try.prog 73 #[.int .i64 p, .int .i64 key, .int .i64 i, .slice a 2 c] w fun e w' => ∃ a c, e = .returned (.tuple #[.slice a 2 c, .int .i64 (tsM key i (xorI y0 y1))]) ∧ Own w' w.heap.size a 2 c (tsL p key i (xorI y0 y1)) ∧ Below w.heap.size w w' := by
  have x0 : bits BinOp.xor IntKind.i64 y0 y1 = xorI y0 y1 := rfl
  generalize xorI y0 y1 = x at *
  have hm := tsM_bit key i x hx
  have b0 := r0I_bit key i
  have b1 := r1I_bit key i
  have rq0 := q0I_range p key i hp
  have rq1 := q1I_range p key i hp
  have HL : Hid (tsL p key i x = [(tsM key i x + (1 - 2 * tsM key i x) * q0I p key i) % p, ((1 - 2 * tsM key i x) * q1I p key i) % p]) := rfl
  have x1 : bits BinOp.xor IntKind.i64 x (r0I key i) = xorI x (r0I key i) := rfl
  have x2 : bits BinOp.xor IntKind.i64 (xorI x (r0I key i)) (r1I key i) = tsM key i x := rfl
  have HD1 := Lib.hid (db1_eq key i)
  have HD2 := Lib.hid (db2_eq p key i)
  generalize tsM key i x = m at *
  generalize r0I key i = r0 at *
  generalize r1I key i = r1 at *
  generalize q0I p key i = q0 at *
  generalize q1I p key i = q1 at *
  obtain ⟨rq0, rq0'⟩ := rq0
  obtain ⟨rq1, rq1'⟩ := rq1
  have sg0 := sign_range (p := p) hm rq0 (by omega)
  have sg1 := sign_range (p := p) hm rq1 (by omega)
  obtain ⟨sg0, sg0'⟩ := sg0
  obtain ⟨sg1, sg1'⟩ := sg1
  have m0 : 0 ≤ m := by omega
  have m1 : m ≤ 1 := by omega
  clear hm b0 b1 hx
  go_enter Try.func73, Try.ntmps73
  go_wp2_with fail
  refine (cvDouble_any _ _ _ _ hp hp2 hk hk2 hi hi2).mono ?_; rintro e w1 ⟨a1, c1, a2, c2, rfl, o1, o2, _, u1⟩
  rw [HD1.out] at o1
  rw [HD2.out] at o2
  obtain ⟨g0, o0, rfl, hc0⟩ := (h.below u1).cells (by omega)
  obtain ⟨g, o, rfl, hc1⟩ := o1.ints.cells (by omega)
  obtain ⟨g', o', rfl, hc2⟩ := o2.ints.cells (by omega)
  have d0 : w1.cell? ⟨g0, o0, none⟩ = some (.int .i64 y0) := hc0 0 (by omega)
  have d1 : w1.cell? ⟨g0, o0 + 1, none⟩ = some (.int .i64 y1) := hc0 1 (by omega)
  have e0 : w1.cell? ⟨g, o, none⟩ = some (.int .i64 r0) := hc1 0 (by omega)
  have e1 : w1.cell? ⟨g, o + 1, none⟩ = some (.int .i64 r1) := hc1 1 (by omega)
  have e2 : w1.cell? ⟨g', o', none⟩ = some (.int .i64 q0) := hc2 0 (by omega)
  have e3 : w1.cell? ⟨g', o' + 1, none⟩ = some (.int .i64 q1) := hc2 1 (by omega)
  clear hc1 hc2 hc0 o1 o2
  go_wp2
  go_quiet (fail)
  have t1 : IntKind.i64.wrap (2 * m) = 2 * m := IntWalk.i64_in _ (by omega)
  have t2 : IntKind.i64.wrap (1 - 2 * m) = 1 - 2 * m := IntWalk.i64_in _ (by omega)
  have t3 : IntKind.i64.wrap ((1 - 2 * m) * q0) = (1 - 2 * m) * q0 := IntWalk.i64_in _ (by omega)
  have t4 : IntKind.i64.wrap (m + (1 - 2 * m) * q0) = m + (1 - 2 * m) * q0 := IntWalk.i64_in _ (by omega)
  have t5 : IntKind.i64.wrap ((1 - 2 * m) * q1) = (1 - 2 * m) * q1 := IntWalk.i64_in _ (by omega)
  have u2 := u1.trans ((below_of_drewN nq).mono u1.size)
  generalize hw2 : w1.drewN nq = w2 at *
  have e2' : w2.cell? ⟨g', o', none⟩ = some (.int .i64 q0) := by rw [← hw2]; exact e2
  have e3' : w2.cell? ⟨g', o' + 1, none⟩ = some (.int .i64 q1) := by rw [← hw2]; exact e3
  clear hw2 e0 e1 e2 e3 u1 x1 x2 x0 d0 d1
  go_wp2
  go_region_held3 (fun W => W.cell? ⟨g', o', none⟩ = some (.int .i64 q0) ∧ W.cell? ⟨g', o' + 1, none⟩ = some (.int .i64 q1))
    (go_keep)
    (first | (go_at_call 89; refine (btMod_same _ _ _ hp (by omega)).mono ?_; rintro e w' ⟨rfl, rfl⟩))
  all_goals go_wp2
  all_goals go_ret2
  all_goals exact ⟨_, _, rfl, by rw [HL.out]; exact (Own.lit2 _ _ _ _ u2.size).drew, (u2.alloc u2.size _).drew⟩
def btsB (p key k : Int) (l : List Int) : Bool := cvB p key k && bpairB l
def btsM (p key k : Int) (l : List Int) : Int := if btsB p key k l then tsM key k (xorI (l.getD 0 0) (l.getD 1 0)) else 0
def btsL (p key k : Int) (l : List Int) : List Int := if btsB p key k l then tsL p key k (xorI (l.getD 0 0) (l.getD 1 0)) else []
theorem btsL_len (p key k : Int) (l : List Int) : (btsL p key k l).length ≤ 1000000 := by unfold btsL; split <;> simp [tsL]
theorem bpairB_true {l : List Int} (h : bpairB l = true) : ∃ y0 y1, l = [y0, y1] ∧ (y0 = 0 ∨ y0 = 1) ∧ (y1 = 0 ∨ y1 = 1) := by
  simp only [bpairB, Bool.and_eq_true, decide_eq_true_eq, allB_iff] at h
  obtain ⟨h1, h2⟩ := h
  match l, h1, h2 with
  | [x, y], _, h2 =>
    have := h2 x (by simp)
    have := h2 y (by simp)
    exact ⟨x, y, rfl, by omega, by omega⟩
set_option maxHeartbeats 4000000 in
set_option maxRecDepth 100000 in
theorem BitToSum_any (p key k : Int) (a : Option Addr) (n c : Nat) (l : List Int) (w : World) (h : Ints w a n c l) :
    Calls Try.prog 34 #[.int .i64 p, .int .i64 key, .int .i64 k, .slice a n c] w fun e w' => ∃ a' n' c', e = .returned (.tuple #[.slice a' n' c', .int .i64 (btsM p key k l), .bool (btsB p key k l)]) ∧ Own w' w.heap.size a' n' c' (btsL p key k l) ∧ Below w.heap.size w w' := by
  unfold btsM btsL btsB cvB
  cases h1 : isPr p
  · simp only [Bool.false_and, Bool.false_eq_true, if_false]
    go_enter Try.func34, Try.ntmps34
    go_wp2_with (first | (go_at_call 49; refine (IsPrime_any _ _).mono ?_; rintro e w' ⟨rfl, m, rfl⟩))
    go_ret3
    exact ⟨_, _, _, rfl, Own.nil0 _ _ _, below_of_drewN _⟩
  · cases h2 : inB key 0 1000000000
    · simp only [Bool.false_and, Bool.and_false, Bool.false_eq_true, if_false]
      go_enter Try.func34, Try.ntmps34
      go_wp2_with (first | (go_at_call 49; refine (IsPrime_any _ _).mono ?_; rintro e w' ⟨rfl, m, rfl⟩) | (go_at_call 50; refine (isKey_any _ _).mono ?_; rintro e w' ⟨rfl, rfl⟩))
      go_ret3
      exact ⟨_, _, _, rfl, Own.nil0 _ _ _, below_of_drewN _⟩
    · cases h3 : inB k 0 1000
      · simp only [Bool.false_and, Bool.and_false, Bool.false_eq_true, if_false]
        go_enter Try.func34, Try.ntmps34
        go_wp2_with (first | (go_at_call 49; refine (IsPrime_any _ _).mono ?_; rintro e w' ⟨rfl, m, rfl⟩) | (go_at_call 50; refine (isKey_any _ _).mono ?_; rintro e w' ⟨rfl, rfl⟩) | (go_at_call 51; refine (within_any _ _ _ _).mono ?_; rintro e w' ⟨rfl, rfl⟩))
        go_ret3
        exact ⟨_, _, _, rfl, Own.nil0 _ _ _, below_of_drewN _⟩
      · cases h4 : bpairB l
        · simp only [Bool.and_false, Bool.false_eq_true, if_false]
          go_enter Try.func34, Try.ntmps34
          go_wp2_with (first | (go_at_call 49; refine (IsPrime_any _ _).mono ?_; rintro e w' ⟨rfl, m, rfl⟩) | (go_at_call 50; refine (isKey_any _ _).mono ?_; rintro e w' ⟨rfl, rfl⟩) | (go_at_call 51; refine (within_any _ _ _ _).mono ?_; rintro e w' ⟨rfl, rfl⟩))
          refine (isBitPair_any _ _ _ l _ (h.drewN _)).mono ?_; rintro e w1 ⟨rfl, u⟩
          rw [h4]
          go_wp2
          go_ret3
          exact ⟨_, _, _, rfl, Own.nil0 _ _ _, (below_of_drewN _).trans (u.mono (by simp))⟩
        · simp only [Bool.and_self, if_true]
          obtain ⟨p1, p2⟩ := isPr_range h1
          obtain ⟨k1, k2⟩ := inB_true h2
          obtain ⟨j1, j2⟩ := inB_true h3
          obtain ⟨y0, y1, rfl, hy0, hy1⟩ := bpairB_true h4
          have hx := xorI_bit hy0 hy1
          have x0 : bits BinOp.xor IntKind.i64 y0 y1 = xorI y0 y1 := rfl
          simp only [List.getD_cons_zero, List.getD_cons_succ]
          have hn : n = 2 := h.len
          subst hn
          generalize xorI y0 y1 = x at *
          go_enter Try.func34, Try.ntmps34
          go_wp2_with (first | (go_at_call 49; refine (IsPrime_any _ _).mono ?_; rintro e w' ⟨rfl, m, rfl⟩) | (go_at_call 50; refine (isKey_any _ _).mono ?_; rintro e w' ⟨rfl, rfl⟩) | (go_at_call 51; refine (within_any _ _ _ _).mono ?_; rintro e w' ⟨rfl, rfl⟩))
          refine (isBitPair_any _ _ _ _ _ (h.drewN _)).mono ?_; rintro e w1 ⟨rfl, u⟩
          rw [h4]
          have u1 : Below w.heap.size w w1 := (below_of_drewN _).trans (u.mono (by simp))
          clear u
          obtain ⟨g0, o0, rfl, hc0⟩ := (h.below u1).cells (by omega)
          have d0 : w1.cell? ⟨g0, o0, none⟩ = some (.int .i64 y0) := hc0 0 (by omega)
          have d1 : w1.cell? ⟨g0, o0 + 1, none⟩ = some (.int .i64 y1) := hc0 1 (by omega)
          clear hc0
          go_wp2
          go_region_held3 (fun W => W.cell? ⟨g0, o0, none⟩ = some (.int .i64 y0) ∧ W.cell? ⟨g0, o0 + 1, none⟩ = some (.int .i64 y1))
            (first | go_keep | exact ⟨keepC u2 d0, keepC u2 d1⟩)
            (first | (go_at_call 75; refine (bitToSum_any _ _ _ _ _ (by omega) (by omega) k1 k2 j1 (by omega) hx).mono ?_; rintro e w' ⟨a2, c2, rfl, o2, u2⟩))
          all_goals go_wp2
          all_goals go_ret3
          all_goals exact ⟨_, _, _, rfl, o2.lower (by have := u1.size; simpa using this), u1.drew.trans (u2.mono (by have := u1.size; simpa using this))⟩
set_option maxHeartbeats 4000000 in
set_option maxRecDepth 100000 in
theorem spec_BitToSum_any (p key k : Int) (a : Option Addr) (n c : Nat) (l : List Int) (w : World) (h : Ints w a n c l) :
    Calls Try.prog 33 #[.int .i64 p, .int .i64 key, .int .i64 k, .slice a n c] w fun e w' => ∃ a' n' c', e = .returned (.tuple #[.slice a' n' c', .int .i64 (btsM p key k l), .bool (btsB p key k l)]) ∧ Own w' w.heap.size a' n' c' (btsL p key k l) ∧ Below w.heap.size w w' := by
  unfold btsM btsL btsB
  cases h1 : cvB p key k
  · simp only [Bool.false_and, Bool.false_eq_true, if_false]
    go_enter Try.func33, Try.ntmps33
    go_wp2_with (first | (go_at_call 53; refine (cvKey_any _ _ _ _).mono ?_; rintro e w' ⟨rfl, m, rfl⟩))
    go_ret3
    exact ⟨_, _, _, rfl, Own.nil0 _ _ _, below_of_drewN _⟩
  · cases h4 : bpairB l
    · simp only [Bool.and_false, Bool.false_eq_true, if_false]
      go_enter Try.func33, Try.ntmps33
      go_wp2_with (first | (go_at_call 53; refine (cvKey_any _ _ _ _).mono ?_; rintro e w' ⟨rfl, m, rfl⟩))
      refine (cvBit_any _ _ _ l _ (h.drewN _)).mono ?_; rintro e w1 ⟨rfl, u⟩
      rw [h4]
      go_wp2
      go_ret3
      exact ⟨_, _, _, rfl, Own.nil0 _ _ _, (below_of_drewN _).trans (u.mono (by simp))⟩
    · simp only [Bool.and_self, if_true]
      obtain ⟨⟨p1, p2⟩, ⟨k1, k2⟩, j1, j2⟩ := cvB_true h1
      obtain ⟨y0, y1, rfl, hy0, hy1⟩ := bpairB_true h4
      have hx := xorI_bit hy0 hy1
      simp only [List.getD_cons_zero, List.getD_cons_succ]
      have hn : n = 2 := h.len
      subst hn
      have HC := fun W hW => cvToSum_any p key k a c y0 y1 W (by omega) (by omega) k1 k2 j1 (by omega) hW hx
      generalize xorI y0 y1 = x at *
      go_enter Try.func33, Try.ntmps33
      go_wp2_with (first | (go_at_call 53; refine (cvKey_any _ _ _ _).mono ?_; rintro e w' ⟨rfl, m, rfl⟩))
      refine (cvBit_any _ _ _ _ _ (h.drewN _)).mono ?_; rintro e w1 ⟨rfl, u⟩
      rw [h4]
      have u1 : Below w.heap.size w w1 := (below_of_drewN _).trans (u.mono (by simp))
      clear u
      go_wp2_with fail
      refine (HC _ (h.below u1)).mono ?_; rintro e w2 ⟨a2, c2, rfl, o2, u2⟩
      go_wp2
      go_ret3
      exact ⟨_, _, _, rfl, o2.lower u1.size, u1.trans (u2.mono u1.size)⟩
set_option maxHeartbeats 2000000 in
set_option maxRecDepth 100000 in
theorem FnExactBitToSum_walk (a0 : Int) (a1 : Int) (a2 : Int) (a3 : Option Addr) (n3 c3 : Nat) (l3 : List Int) (w : World) (_w0 : -9223372036854775808 ≤ a0 ∧ a0 ≤ 9223372036854775807) (_w1 : -9223372036854775808 ≤ a1 ∧ a1 ≤ 9223372036854775807) (_w2 : -9223372036854775808 ≤ a2 ∧ a2 ≤ 9223372036854775807) (z3 : Ints w a3 n3 c3 l3) (_wf3 : Wf l3) :
    Calls Try.prog 8 #[.int .i64 a0, .int .i64 a1, .int .i64 a2, .slice a3 n3 c3] w fun e w' => e = .returned (.bool true) ∧ Below w.heap.size w w' := by
  by_cases hs3 : n3 ≤ 1048576
  · skip
    go_enter Try.func8, Try.ntmps8
    go_wp2_with fail
    refine (toIntS_any _ _ _ l3 _ z3 hs3).mono ?_
    rintro e w1' ⟨y_a3, y_c3, rfl, y3, u1⟩
    replace z3 := z3.below u1
    have V1 := u1
    clear u1
    go_wp2_with fail
    refine (spec_BitToSum_any _ _ _ _ _ _ l3 _ y3.ints).mono ?_
    rintro e w2' ⟨r_a0, r_n0, r_c0, rfl, r0, u2⟩
    replace z3 := z3.below u2
    replace y3 := y3.below u2
    have V2 : Below w.heap.size w w2' := V1.trans (u2.mono V1.size)
    clear V1
    clear u2
    clear y3
    have VB_x3 := V2.size
    go_wp2_with fail
    refine (toIntS_any _ _ _ l3 _ z3 hs3).mono ?_
    rintro e w3' ⟨x_a3, x_c3, rfl, x3, u3⟩
    have Dz3_x3 := z3.apart x3 (Nat.le_refl _)
    have Dr0_x3 := r0.apart x3 (Nat.le_refl _)
    replace z3 := z3.below u3
    replace r0 := r0.below u3
    have V3 : Below w.heap.size w w3' := V2.trans (u3.mono V2.size)
    clear V2
    clear u3
    have VB_g0 := V3.size
    go_wp2_with fail
    refine (BitToSum_any _ _ _ _ _ _ l3 _ x3.ints).mono ?_
    rintro e w4' ⟨g_a0, g_n0, g_c0, rfl, g0, u4⟩
    have Dz3_g0 := z3.apart g0 (Nat.le_refl _)
    have Dr0_g0 := r0.apart g0 (Nat.le_refl _)
    have Dx3_g0 := x3.apart g0 (Nat.le_refl _)
    replace z3 := z3.below u4
    replace r0 := r0.below u4
    replace x3 := x3.below u4
    have V4 : Below w.heap.size w w4' := V3.trans (u4.mono V3.size)
    clear V3
    clear u4
    go_wp2_with fail
    refine (eqIntS_same _ _ _ _ _ _ _ _ g0.ints r0.ints).mono ?_
    rintro e w5' ⟨rfl, q5⟩
    have u5 := below_of_quiet q5
    clear q5
    replace z3 := z3.below u5
    replace r0 := r0.below u5
    replace x3 := x3.below u5
    replace g0 := g0.below u5
    have V5 : Below w.heap.size w w5' := V4.trans (u5.mono V4.size)
    clear V4
    clear u5
    go_wp2_with fail
    refine (toIntS_any _ _ _ l3 _ z3 hs3).mono ?_
    rintro e w6' ⟨t_a3, t_c3, rfl, t3, u6⟩
    have Dx3_t3 := x3.apart t3 (Nat.le_refl _)
    have Dg0_t3 := g0.apart t3 (Nat.le_refl _)
    replace z3 := z3.below u6
    replace r0 := r0.below u6
    replace x3 := x3.below u6
    replace g0 := g0.below u6
    have V6 : Below w.heap.size w w6' := V5.trans (u6.mono V5.size)
    clear V5
    clear u6
    go_wp2_with fail
    refine (eqIntS_same _ _ _ _ _ _ l3 _ x3.ints t3.ints).mono ?_
    rintro e w7' ⟨rfl, q7⟩
    have u7 := below_of_quiet q7
    clear q7
    replace z3 := z3.below u7
    replace r0 := r0.below u7
    replace x3 := x3.below u7
    replace g0 := g0.below u7
    replace t3 := t3.below u7
    have V7 : Below w.heap.size w w7' := V6.trans (u7.mono V6.size)
    clear V6
    clear u7
    clear t3
    go_wp2_with fail
    refine (markIntS_any _ _ _ _ _ _ _ x3 (by omega) (by have := hs3; omega)).mono ?_
    rintro e w8' ⟨rfl, ⟨Lx3, mx3, Ux3⟩, G8⟩
    have HUx3 := Lib.hid Ux3
    clear Ux3
    replace z3 := z3.grown G8 Dz3_x3
    replace r0 := r0.grown G8 Dr0_x3
    replace g0 := g0.grown G8 Dx3_g0.symm
    have u8 : Below w.heap.size w7' w8' := below_grownBy G8 V7.size (fun x hc hx => Nat.le_trans VB_x3 (mx3.range x hc hx).1)
    have V8 : Below w.heap.size w w8' := V7.trans u8
    clear V7 u8 G8 x3
    have x3 := mx3
    clear mx3
    go_wp2_with fail
    refine (eqIntS_same _ _ _ _ _ _ _ _ g0.ints r0.ints).mono ?_
    rintro e w9' ⟨rfl, q9⟩
    have u9 := below_of_quiet q9
    clear q9
    replace z3 := z3.below u9
    replace r0 := r0.below u9
    replace x3 := x3.below u9
    replace g0 := g0.below u9
    have V9 : Below w.heap.size w w9' := V8.trans (u9.mono V8.size)
    clear V8
    clear u9
    clear x3
    have hlg0 : g_n0 ≤ 1000000 := by rw [g0.len]; exact btsL_len a0 a1 a2 l3
    go_wp2_with fail
    refine (markIntS_any _ _ _ _ _ _ _ g0 (by omega) (by have := hlg0; omega)).mono ?_
    rintro e w10' ⟨rfl, ⟨Lg0, mg0, Ug0⟩, G10⟩
    have HUg0 := Lib.hid Ug0
    clear Ug0
    replace z3 := z3.grown G10 Dz3_g0
    replace r0 := r0.grown G10 Dr0_g0
    have u10 : Below w.heap.size w9' w10' := below_grownBy G10 V9.size (fun x hc hx => Nat.le_trans VB_g0 (mg0.range x hc hx).1)
    have V10 : Below w.heap.size w w10' := V9.trans u10
    clear V9 u10 G10 g0
    have g0 := mg0
    clear mg0
    go_wp2_with fail
    refine (heldIntS_any _ _ _ _ _ _ g0.ints HUg0.out (by omega) (by have := hlg0; omega)).mono ?_
    rintro e w11' ⟨rfl, q11⟩
    have u11 := below_of_quiet q11
    clear q11
    replace z3 := z3.below u11
    replace r0 := r0.below u11
    replace g0 := g0.below u11
    have V11 : Below w.heap.size w w11' := V10.trans (u11.mono V10.size)
    clear V10
    clear u11
    go_wp2_with fail
    refine (toIntS_any _ _ _ l3 _ z3 hs3).mono ?_
    rintro e w12' ⟨x_a3, x_c3, rfl, x3, u12⟩
    have Dz3_x3 := z3.apart x3 (Nat.le_refl _)
    have Dr0_x3 := r0.apart x3 (Nat.le_refl _)
    have Dg0_x3 := g0.apart x3 (Nat.le_refl _)
    replace z3 := z3.below u12
    replace r0 := r0.below u12
    replace g0 := g0.below u12
    have V12 : Below w.heap.size w w12' := V11.trans (u12.mono V11.size)
    clear V11
    clear u12
    go_wp2_with fail
    refine (BitToSum_any _ _ _ _ _ _ l3 _ x3.ints).mono ?_
    rintro e w13' ⟨h_a0, h_n0, h_c0, rfl, h0, u13⟩
    replace z3 := z3.below u13
    replace r0 := r0.below u13
    replace g0 := g0.below u13
    replace x3 := x3.below u13
    have V13 : Below w.heap.size w w13' := V12.trans (u13.mono V12.size)
    clear V12
    clear u13
    clear x3
    go_wp2_with fail
    refine (eqIntS_same _ _ _ _ _ _ _ _ h0.ints r0.ints).mono ?_
    rintro e w14' ⟨rfl, q14⟩
    have u14 := below_of_quiet q14
    clear q14
    replace z3 := z3.below u14
    replace r0 := r0.below u14
    replace g0 := g0.below u14
    replace h0 := h0.below u14
    have V14 : Below w.heap.size w w14' := V13.trans (u14.mono V13.size)
    clear V13
    clear u14
    go_wp2_with fail
    refine (heldIntS_any _ _ _ _ _ _ g0.ints HUg0.out (by omega) (by have := hlg0; omega)).mono ?_
    rintro e w15' ⟨rfl, q15⟩
    have u15 := below_of_quiet q15
    clear q15
    replace z3 := z3.below u15
    replace r0 := r0.below u15
    replace g0 := g0.below u15
    replace h0 := h0.below u15
    have V15 : Below w.heap.size w w15' := V14.trans (u15.mono V14.size)
    clear V14
    clear u15
    go_wp2
    go_ret
    exact ⟨rfl, V15⟩
  · go_enter Try.func8, Try.ntmps8
    go_wp2
    go_ret
    exact ⟨rfl, Below.refl _ _⟩
end Go.Proofs.Ytkpnncpgdiboaaa
