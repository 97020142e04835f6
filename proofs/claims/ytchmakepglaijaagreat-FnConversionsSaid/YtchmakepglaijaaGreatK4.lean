/- Lemmas and walks that the claim's proof rests on, part 4. -/
import Derived.Test.YtchmakepglaijaaGreatK1
import Derived.Test.YtchmakepglaijaaGreatK3
namespace Go.Proofs.YtchmakepglaijaaGreat
open Go.RowKit
def r0I (key i : Int) : Int := dbB key i 1
def r1I (key i : Int) : Int := xorI (dbB key i 0) (dbB key i 1)
def q0I (p key i : Int) : Int := dbN p key i
def q1I (p key i : Int) : Int := (dbB key i 0 - dbN p key i) % p
theorem db1_eq (key i : Int) : db1 key i = [r0I key i, r1I key i] := rfl
theorem db2_eq (p key i : Int) : db2 p key i = [q0I p key i, q1I p key i] := rfl
theorem r0I_bit (key i : Int) : r0I key i = 0 ∨ r0I key i = 1 := dbB_bit _ _ _ (by omega)
theorem r1I_bit (key i : Int) : r1I key i = 0 ∨ r1I key i = 1 := xorI_bit (dbB_bit _ _ _ (by omega)) (dbB_bit _ _ _ (by omega))
theorem q0I_range (p key i : Int) (h : 1 ≤ p) : 0 ≤ q0I p key i ∧ q0I p key i ≤ p - 1 := numI_range _ _ h
theorem q1I_range (p key i : Int) (h : 1 ≤ p) : 0 ≤ q1I p key i ∧ q1I p key i ≤ p - 1 := by
  unfold q1I
  exact ⟨Int.emod_nonneg _ (by omega), by have := Int.emod_lt_of_pos (dbB key i 0 - dbN p key i) (by omega : 0 < p); omega⟩
def tsM (key i x : Int) : Int := xorI (xorI x (r0I key i)) (r1I key i)
def tsL (p key i x : Int) : List Int := [(tsM key i x + (1 - 2 * tsM key i x) * q0I p key i) % p, ((1 - 2 * tsM key i x) * q1I p key i) % p]
theorem tsM_bit (key i x : Int) (h : x = 0 ∨ x = 1) : tsM key i x = 0 ∨ tsM key i x = 1 := xorI_bit (xorI_bit h (r0I_bit _ _)) (r1I_bit _ _)
theorem sign_range {m q p : Int} (h : m = 0 ∨ m = 1) (h0 : 0 ≤ q) (h1 : q ≤ p) : -p ≤ (1 - 2 * m) * q ∧ (1 - 2 * m) * q ≤ p := by
  rcases h with rfl | rfl
  · simp; omega
  · have : (1 - 2 * 1 : Int) * q = -q := by omega
    rw [this]; omega
set_option maxHeartbeats 4000000 in
set_option maxRecDepth 100000 in
theorem bitToSum_any (p key i x : Int) (w : World) (hp : 1 ≤ p) (hp2 : p ≤ 1000) (hk : 0 ≤ key) (hk2 : key ≤ 1000000000) (hi : 0 ≤ i) (hi2 : i ≤ 1000000) (hx : x = 0 ∨ x = 1) :
    Calls Tryz.prog 40 #[.int .i64 p, .int .i64 key, .int .i64 i, .int .i64 x] w fun e w' => ∃ a c, e = .returned (.tuple #[.slice a 2 c, .int .i64 (tsM key i x)]) ∧ Own w' w.heap.size a 2 c (tsL p key i x) ∧ Below w.heap.size w w' := by
  have hm := tsM_bit key i x hx
  have b0 := r0I_bit key i
  have b1 := r1I_bit key i
  have rq0 := q0I_range p key i hp
  have rq1 := q1I_range p key i hp
  have HL : Hid (tsL p key i x = [(tsM key i x + (1 - 2 * tsM key i x) * q0I p key i) % p, ((1 - 2 * tsM key i x) * q1I p key i) % p]) := rfl
  have x1 : bits BinOp.xor IntKind.i64 x (r0I key i) = xorI x (r0I key i) := rfl
  have x2 : bits BinOp.xor IntKind.i64 (xorI x (r0I key i)) (r1I key i) = tsM key i x := rfl
  have HD1 := Lib.hid (db1_eq key i)
  have HD2 := Lib.hid (db2_eq p key i)
  generalize tsM key i x = m at *
  generalize r0I key i = r0 at *
  generalize r1I key i = r1 at *
  generalize q0I p key i = q0 at *
  generalize q1I p key i = q1 at *
  obtain ⟨rq0, rq0'⟩ := rq0
  obtain ⟨rq1, rq1'⟩ := rq1
  have sg0 := sign_range (p := p) hm rq0 (by omega)
  have sg1 := sign_range (p := p) hm rq1 (by omega)
  obtain ⟨sg0, sg0'⟩ := sg0
  obtain ⟨sg1, sg1'⟩ := sg1
  have m0 : 0 ≤ m := by omega
  have m1 : m ≤ 1 := by omega
  clear hm b0 b1 hx
  go_enter Tryz.func40, Tryz.ntmps40
  go_wp2_with fail
  refine (doubleBit_any _ _ _ _ hp hp2 hk hk2 hi hi2).mono ?_; rintro e w1 ⟨a1, c1, a2, c2, rfl, o1, o2, _, u1⟩
  rw [HD1.out] at o1
  rw [HD2.out] at o2
  obtain ⟨g, o, rfl, hc1⟩ := o1.ints.cells (by omega)
  obtain ⟨g', o', rfl, hc2⟩ := o2.ints.cells (by omega)
  have e0 : w1.cell? ⟨g, o, none⟩ = some (.int .i64 r0) := hc1 0 (by omega)
  have e1 : w1.cell? ⟨g, o + 1, none⟩ = some (.int .i64 r1) := hc1 1 (by omega)
  have e2 : w1.cell? ⟨g', o', none⟩ = some (.int .i64 q0) := hc2 0 (by omega)
  have e3 : w1.cell? ⟨g', o' + 1, none⟩ = some (.int .i64 q1) := hc2 1 (by omega)
  clear hc1 hc2 o1 o2
  go_wp2
  go_quiet (fail)
  have t1 : IntKind.i64.wrap (2 * m) = 2 * m := IntWalk.i64_in _ (by omega)
  have t2 : IntKind.i64.wrap (1 - 2 * m) = 1 - 2 * m := IntWalk.i64_in _ (by omega)
  have t3 : IntKind.i64.wrap ((1 - 2 * m) * q0) = (1 - 2 * m) * q0 := IntWalk.i64_in _ (by omega)
  have t4 : IntKind.i64.wrap (m + (1 - 2 * m) * q0) = m + (1 - 2 * m) * q0 := IntWalk.i64_in _ (by omega)
  have t5 : IntKind.i64.wrap ((1 - 2 * m) * q1) = (1 - 2 * m) * q1 := IntWalk.i64_in _ (by omega)
  have u2 := u1.trans ((below_of_drewN nq).mono u1.size)
  generalize hw2 : w1.drewN nq = w2 at *
  have e2' : w2.cell? ⟨g', o', none⟩ = some (.int .i64 q0) := by rw [← hw2]; exact e2
  have e3' : w2.cell? ⟨g', o' + 1, none⟩ = some (.int .i64 q1) := by rw [← hw2]; exact e3
  clear hw2 e0 e1 e2 e3 u1 x1 x2
  go_wp2
  go_region_held3 (fun W => W.cell? ⟨g', o', none⟩ = some (.int .i64 q0) ∧ W.cell? ⟨g', o' + 1, none⟩ = some (.int .i64 q1))
    (go_keep)
    (first | (go_at_call 41; refine (mod_same _ _ _ hp (by omega)).mono ?_; rintro e w' ⟨rfl, rfl⟩))
  all_goals go_wp2
  all_goals go_ret2
  all_goals exact ⟨_, _, rfl, by rw [HL.out]; exact (Own.lit2 _ _ _ _ u2.size).drew, (u2.alloc u2.size _).drew⟩
set_option maxHeartbeats 4000000 in
set_option maxRecDepth 100000 in
theorem cvToSum_any (p key i : Int) (a : Option Addr) (c : Nat) (y0 y1 : Int) (w : World) (hp : 1 ≤ p) (hp2 : p ≤ 1000) (hk : 0 ≤ key) (hk2 : key ≤ 1000000000) (hi : 0 ≤ i) (hi2 : i ≤ 1000000) (h : Ints w a 2 c [y0, y1]) (hx : xorI y0 y1 = 0 ∨ xorI y0 y1 = 1) :
    Calls Tryz.prog 66 #[.int .i64 p, .int .i64 key, .int .i64 i, .slice a 2 c] w fun e w' => ∃ a c, e = .returned (.tuple #[.slice a 2 c, .int .i64 (tsM key i (xorI y0 y1))]) ∧ Own w' w.heap.size a 2 c (tsL p key i (xorI y0 y1)) ∧ Below w.heap.size w w' := by
  have x0 : bits BinOp.xor IntKind.i64 y0 y1 = xorI y0 y1 := rfl
  generalize xorI y0 y1 = x at *
  have hm := tsM_bit key i x hx
  have b0 := r0I_bit key i
  have b1 := r1I_bit key i
  have rq0 := q0I_range p key i hp
  have rq1 := q1I_range p key i hp
  have HL : Hid (tsL p key i x = [(tsM key i x + (1 - 2 * tsM key i x) * q0I p key i) % p, ((1 - 2 * tsM key i x) * q1I p key i) % p]) := rfl
  have x1 : bits BinOp.xor IntKind.i64 x (r0I key i) = xorI x (r0I key i) := rfl
  have x2 : bits BinOp.xor IntKind.i64 (xorI x (r0I key i)) (r1I key i) = tsM key i x := rfl
  have HD1 := Lib.hid (db1_eq key i)
  have HD2 := Lib.hid (db2_eq p key i)
  generalize tsM key i x = m at *
  generalize r0I key i = r0 at *
  generalize r1I key i = r1 at *
  generalize q0I p key i = q0 at *
  generalize q1I p key i = q1 at *
  obtain ⟨rq0, rq0'⟩ := rq0
  obtain ⟨rq1, rq1'⟩ := rq1
  have sg0 := sign_range (p := p) hm rq0 (by omega)
  have sg1 := sign_range (p := p) hm rq1 (by omega)
  obtain ⟨sg0, sg0'⟩ := sg0
  obtain ⟨sg1, sg1'⟩ := sg1
  have m0 : 0 ≤ m := by omega
  have m1 : m ≤ 1 := by omega
  clear hm b0 b1 hx
  go_enter Tryz.func66, Tryz.ntmps66
  go_wp2_with fail
  refine (cvDouble_any _ _ _ _ hp hp2 hk hk2 hi hi2).mono ?_; rintro e w1 ⟨a1, c1, a2, c2, rfl, o1, o2, _, u1⟩
  rw [HD1.out] at o1
  rw [HD2.out] at o2
  obtain ⟨g0, o0, rfl, hc0⟩ := (h.below u1).cells (by omega)
  obtain ⟨g, o, rfl, hc1⟩ := o1.ints.cells (by omega)
  obtain ⟨g', o', rfl, hc2⟩ := o2.ints.cells (by omega)
  have d0 : w1.cell? ⟨g0, o0, none⟩ = some (.int .i64 y0) := hc0 0 (by omega)
  have d1 : w1.cell? ⟨g0, o0 + 1, none⟩ = some (.int .i64 y1) := hc0 1 (by omega)
  have e0 : w1.cell? ⟨g, o, none⟩ = some (.int .i64 r0) := hc1 0 (by omega)
  have e1 : w1.cell? ⟨g, o + 1, none⟩ = some (.int .i64 r1) := hc1 1 (by omega)
  have e2 : w1.cell? ⟨g', o', none⟩ = some (.int .i64 q0) := hc2 0 (by omega)
  have e3 : w1.cell? ⟨g', o' + 1, none⟩ = some (.int .i64 q1) := hc2 1 (by omega)
  clear hc1 hc2 hc0 o1 o2
  go_wp2
  go_quiet (fail)
  have t1 : IntKind.i64.wrap (2 * m) = 2 * m := IntWalk.i64_in _ (by omega)
  have t2 : IntKind.i64.wrap (1 - 2 * m) = 1 - 2 * m := IntWalk.i64_in _ (by omega)
  have t3 : IntKind.i64.wrap ((1 - 2 * m) * q0) = (1 - 2 * m) * q0 := IntWalk.i64_in _ (by omega)
  have t4 : IntKind.i64.wrap (m + (1 - 2 * m) * q0) = m + (1 - 2 * m) * q0 := IntWalk.i64_in _ (by omega)
  have t5 : IntKind.i64.wrap ((1 - 2 * m) * q1) = (1 - 2 * m) * q1 := IntWalk.i64_in _ (by omega)
  have u2 := u1.trans ((below_of_drewN nq).mono u1.size)
  generalize hw2 : w1.drewN nq = w2 at *
  have e2' : w2.cell? ⟨g', o', none⟩ = some (.int .i64 q0) := by rw [← hw2]; exact e2
  have e3' : w2.cell? ⟨g', o' + 1, none⟩ = some (.int .i64 q1) := by rw [← hw2]; exact e3
  clear hw2 e0 e1 e2 e3 u1 x1 x2 x0 d0 d1
  go_wp2
  go_region_held3 (fun W => W.cell? ⟨g', o', none⟩ = some (.int .i64 q0) ∧ W.cell? ⟨g', o' + 1, none⟩ = some (.int .i64 q1))
    (go_keep)
    (first | (go_at_call 70; refine (btMod_same _ _ _ hp (by omega)).mono ?_; rintro e w' ⟨rfl, rfl⟩))
  all_goals go_wp2
  all_goals go_ret2
  all_goals exact ⟨_, _, rfl, by rw [HL.out]; exact (Own.lit2 _ _ _ _ u2.size).drew, (u2.alloc u2.size _).drew⟩
def btsB (p key k : Int) (l : List Int) : Bool := cvB p key k && bpairB l
def btsM (p key k : Int) (l : List Int) : Int := if btsB p key k l then tsM key k (xorI (l.getD 0 0) (l.getD 1 0)) else 0
def btsL (p key k : Int) (l : List Int) : List Int := if btsB p key k l then tsL p key k (xorI (l.getD 0 0) (l.getD 1 0)) else []
theorem bpairB_true {l : List Int} (h : bpairB l = true) : ∃ y0 y1, l = [y0, y1] ∧ (y0 = 0 ∨ y0 = 1) ∧ (y1 = 0 ∨ y1 = 1) := by
  simp only [bpairB, Bool.and_eq_true, decide_eq_true_eq, allB_iff] at h
  obtain ⟨h1, h2⟩ := h
  match l, h1, h2 with
  | [x, y], _, h2 =>
    have := h2 x (by simp)
    have := h2 y (by simp)
    exact ⟨x, y, rfl, by omega, by omega⟩
set_option maxHeartbeats 4000000 in
set_option maxRecDepth 100000 in
theorem BitToSum_any (p key k : Int) (a : Option Addr) (n c : Nat) (l : List Int) (w : World) (h : Ints w a n c l) :
    Calls Tryz.prog 12 #[.int .i64 p, .int .i64 key, .int .i64 k, .slice a n c] w fun e w' => ∃ a' n' c', e = .returned (.tuple #[.slice a' n' c', .int .i64 (btsM p key k l), .bool (btsB p key k l)]) ∧ Own w' w.heap.size a' n' c' (btsL p key k l) ∧ Below w.heap.size w w' := by
  unfold btsM btsL btsB cvB
  cases h1 : isPr p
  · simp only [Bool.false_and, Bool.false_eq_true, if_false]
    go_enter Tryz.func12, Tryz.ntmps12
    go_wp2_with (first | (go_at_call 36; refine (IsPrime_any _ _).mono ?_; rintro e w' ⟨rfl, m, rfl⟩))
    go_ret3
    exact ⟨_, _, _, rfl, Own.nil0 _ _ _, below_of_drewN _⟩
  · cases h2 : inB key 0 1000000000
    · simp only [Bool.false_and, Bool.and_false, Bool.false_eq_true, if_false]
      go_enter Tryz.func12, Tryz.ntmps12
      go_wp2_with (first | (go_at_call 36; refine (IsPrime_any _ _).mono ?_; rintro e w' ⟨rfl, m, rfl⟩) | (go_at_call 37; refine (isKey_any _ _).mono ?_; rintro e w' ⟨rfl, rfl⟩))
      go_ret3
      exact ⟨_, _, _, rfl, Own.nil0 _ _ _, below_of_drewN _⟩
    · cases h3 : inB k 0 1000
      · simp only [Bool.false_and, Bool.and_false, Bool.false_eq_true, if_false]
        go_enter Tryz.func12, Tryz.ntmps12
        go_wp2_with (first | (go_at_call 36; refine (IsPrime_any _ _).mono ?_; rintro e w' ⟨rfl, m, rfl⟩) | (go_at_call 37; refine (isKey_any _ _).mono ?_; rintro e w' ⟨rfl, rfl⟩) | (go_at_call 62; refine (within_any _ _ _ _).mono ?_; rintro e w' ⟨rfl, rfl⟩))
        go_ret3
        exact ⟨_, _, _, rfl, Own.nil0 _ _ _, below_of_drewN _⟩
      · cases h4 : bpairB l
        · simp only [Bool.and_false, Bool.false_eq_true, if_false]
          go_enter Tryz.func12, Tryz.ntmps12
          go_wp2_with (first | (go_at_call 36; refine (IsPrime_any _ _).mono ?_; rintro e w' ⟨rfl, m, rfl⟩) | (go_at_call 37; refine (isKey_any _ _).mono ?_; rintro e w' ⟨rfl, rfl⟩) | (go_at_call 62; refine (within_any _ _ _ _).mono ?_; rintro e w' ⟨rfl, rfl⟩))
          refine (isBitPair_any _ _ _ l _ (h.drewN _)).mono ?_; rintro e w1 ⟨rfl, u⟩
          rw [h4]
          go_wp2
          go_ret3
          exact ⟨_, _, _, rfl, Own.nil0 _ _ _, (below_of_drewN _).trans (u.mono (by simp))⟩
        · simp only [Bool.and_self, if_true]
          obtain ⟨p1, p2⟩ := isPr_range h1
          obtain ⟨k1, k2⟩ := inB_true h2
          obtain ⟨j1, j2⟩ := inB_true h3
          obtain ⟨y0, y1, rfl, hy0, hy1⟩ := bpairB_true h4
          have hx := xorI_bit hy0 hy1
          have x0 : bits BinOp.xor IntKind.i64 y0 y1 = xorI y0 y1 := rfl
          simp only [List.getD_cons_zero, List.getD_cons_succ]
          have hn : n = 2 := h.len
          subst hn
          generalize xorI y0 y1 = x at *
          go_enter Tryz.func12, Tryz.ntmps12
          go_wp2_with (first | (go_at_call 36; refine (IsPrime_any _ _).mono ?_; rintro e w' ⟨rfl, m, rfl⟩) | (go_at_call 37; refine (isKey_any _ _).mono ?_; rintro e w' ⟨rfl, rfl⟩) | (go_at_call 62; refine (within_any _ _ _ _).mono ?_; rintro e w' ⟨rfl, rfl⟩))
          refine (isBitPair_any _ _ _ _ _ (h.drewN _)).mono ?_; rintro e w1 ⟨rfl, u⟩
          rw [h4]
          have u1 : Below w.heap.size w w1 := (below_of_drewN _).trans (u.mono (by simp))
          clear u
          obtain ⟨g0, o0, rfl, hc0⟩ := (h.below u1).cells (by omega)
          have d0 : w1.cell? ⟨g0, o0, none⟩ = some (.int .i64 y0) := hc0 0 (by omega)
          have d1 : w1.cell? ⟨g0, o0 + 1, none⟩ = some (.int .i64 y1) := hc0 1 (by omega)
          clear hc0
          go_wp2
          go_region_held3 (fun W => W.cell? ⟨g0, o0, none⟩ = some (.int .i64 y0) ∧ W.cell? ⟨g0, o0 + 1, none⟩ = some (.int .i64 y1))
            (first | go_keep | exact ⟨keepC u2 d0, keepC u2 d1⟩)
            (first | (go_at_call 40; refine (bitToSum_any _ _ _ _ _ (by omega) (by omega) k1 k2 j1 (by omega) hx).mono ?_; rintro e w' ⟨a2, c2, rfl, o2, u2⟩))
          all_goals go_wp2
          all_goals go_ret3
          all_goals exact ⟨_, _, _, rfl, o2.lower (by have := u1.size; simpa using this), u1.drew.trans (u2.mono (by have := u1.size; simpa using this))⟩
set_option maxHeartbeats 4000000 in
set_option maxRecDepth 100000 in
theorem spec_BitToSum_any (p key k : Int) (a : Option Addr) (n c : Nat) (l : List Int) (w : World) (h : Ints w a n c l) :
    Calls Tryz.prog 13 #[.int .i64 p, .int .i64 key, .int .i64 k, .slice a n c] w fun e w' => ∃ a' n' c', e = .returned (.tuple #[.slice a' n' c', .int .i64 (btsM p key k l), .bool (btsB p key k l)]) ∧ Own w' w.heap.size a' n' c' (btsL p key k l) ∧ Below w.heap.size w w' := by
  unfold btsM btsL btsB
  cases h1 : cvB p key k
  · simp only [Bool.false_and, Bool.false_eq_true, if_false]
    go_enter Tryz.func13, Tryz.ntmps13
    go_wp2_with (first | (go_at_call 64; refine (cvKey_any _ _ _ _).mono ?_; rintro e w' ⟨rfl, m, rfl⟩))
    go_ret3
    exact ⟨_, _, _, rfl, Own.nil0 _ _ _, below_of_drewN _⟩
  · cases h4 : bpairB l
    · simp only [Bool.and_false, Bool.false_eq_true, if_false]
      go_enter Tryz.func13, Tryz.ntmps13
      go_wp2_with (first | (go_at_call 64; refine (cvKey_any _ _ _ _).mono ?_; rintro e w' ⟨rfl, m, rfl⟩))
      refine (cvBit_any _ _ _ l _ (h.drewN _)).mono ?_; rintro e w1 ⟨rfl, u⟩
      rw [h4]
      go_wp2
      go_ret3
      exact ⟨_, _, _, rfl, Own.nil0 _ _ _, (below_of_drewN _).trans (u.mono (by simp))⟩
    · simp only [Bool.and_self, if_true]
      obtain ⟨⟨p1, p2⟩, ⟨k1, k2⟩, j1, j2⟩ := cvB_true h1
      obtain ⟨y0, y1, rfl, hy0, hy1⟩ := bpairB_true h4
      have hx := xorI_bit hy0 hy1
      simp only [List.getD_cons_zero, List.getD_cons_succ]
      have hn : n = 2 := h.len
      subst hn
      have HC := fun W hW => cvToSum_any p key k a c y0 y1 W (by omega) (by omega) k1 k2 j1 (by omega) hW hx
      generalize xorI y0 y1 = x at *
      go_enter Tryz.func13, Tryz.ntmps13
      go_wp2_with (first | (go_at_call 64; refine (cvKey_any _ _ _ _).mono ?_; rintro e w' ⟨rfl, m, rfl⟩))
      refine (cvBit_any _ _ _ _ _ (h.drewN _)).mono ?_; rintro e w1 ⟨rfl, u⟩
      rw [h4]
      have u1 : Below w.heap.size w w1 := (below_of_drewN _).trans (u.mono (by simp))
      clear u
      go_wp2_with fail
      refine (HC _ (h.below u1)).mono ?_; rintro e w2 ⟨a2, c2, rfl, o2, u2⟩
      go_wp2
      go_ret3
      exact ⟨_, _, _, rfl, o2.lower u1.size, u1.trans (u2.mono u1.size)⟩
end Go.Proofs.YtchmakepglaijaaGreat
namespace Go.Proofs.YtchmakepglaijaaGreat
open Go.RowKit
def sh0 (p key i x : Int) : Int := (tsM key i x + (1 - 2 * tsM key i x) * q0I p key i) % p
def sh1 (p key i x : Int) : Int := ((1 - 2 * tsM key i x) * q1I p key i) % p
theorem tsL_sh (p key i x : Int) : tsL p key i x = [sh0 p key i x, sh1 p key i x] := rfl
theorem mod_range (x p : Int) (h : 1 ≤ p) : 0 ≤ x % p ∧ x % p ≤ p - 1 := ⟨Int.emod_nonneg _ (by omega), by have := Int.emod_lt_of_pos x (by omega : 0 < p); omega⟩
theorem sh0_range (p key i x : Int) (h : 1 ≤ p) : 0 ≤ sh0 p key i x ∧ sh0 p key i x ≤ p - 1 := mod_range _ _ h
theorem sh1_range (p key i x : Int) (h : 1 ≤ p) : 0 ≤ sh1 p key i x ∧ sh1 p key i x ≤ p - 1 := mod_range _ _ h
def acc0 (p key : Int) (u v : List Int) : Nat → Int
  | 0 => 0
  | k + 1 => (acc0 p key u v k + sh0 p key k (xorI (u.getD k 0) (v.getD k 0)) * 2 ^ k) % p
def acc1 (p key : Int) (u v : List Int) : Nat → Int
  | 0 => 0
  | k + 1 => (acc1 p key u v k + sh1 p key k (xorI (u.getD k 0) (v.getD k 0)) * 2 ^ k) % p
def accL (p key : Int) (u v : List Int) : List Int := [acc0 p key u v u.length, acc1 p key u v u.length]
theorem acc0_range (p key : Int) (u v : List Int) (k : Nat) (h : 1 ≤ p) : 0 ≤ acc0 p key u v k ∧ acc0 p key u v k ≤ p - 1 := by
  cases k with
  | zero => simp [acc0]; omega
  | succ k => exact mod_range _ _ h
theorem acc1_range (p key : Int) (u v : List Int) (k : Nat) (h : 1 ≤ p) : 0 ≤ acc1 p key u v k ∧ acc1 p key u v k ≤ p - 1 := by
  cases k with
  | zero => simp [acc1]; omega
  | succ k => exact mod_range _ _ h
theorem pow16 (k : Nat) (h : k < 16) : 1 ≤ (2 : Int) ^ k ∧ (2 : Int) ^ k ≤ 32768 := by
  rcases (by omega : k = 0 ∨ k = 1 ∨ k = 2 ∨ k = 3 ∨ k = 4 ∨ k = 5 ∨ k = 6 ∨ k = 7 ∨ k = 8 ∨ k = 9 ∨ k = 10 ∨ k = 11 ∨ k = 12 ∨ k = 13 ∨ k = 14 ∨ k = 15) with rfl | rfl | rfl | rfl | rfl | rfl | rfl | rfl | rfl | rfl | rfl | rfl | rfl | rfl | rfl | rfl <;> omega
theorem shift_range (q : Int) (k : Nat) (h0 : 0 ≤ q) (h1 : q ≤ 999) (hk : k < 16) : 0 ≤ q * 2 ^ k ∧ q * 2 ^ k ≤ 999 * 32768 := by
  obtain ⟨a, b⟩ := pow16 k hk
  exact ⟨Int.mul_nonneg h0 (by omega), Int.mul_le_mul h1 b (by omega) (by omega)⟩
def bitsB (u v : List Int) : Bool := decide (u.length = v.length) && decide (u.length ≤ 16) && allB u 0 1 && allB v 0 1
set_option maxHeartbeats 4000000 in
set_option maxRecDepth 100000 in
theorem cvAll_any (p key : Int) (a : Option Addr) (n c : Nat) (l : List Int) (a' : Option Addr) (c' : Nat) (l' : List Int) (w : World) (h : Ints w a n c l) (h' : Ints w a' n c' l') (hp : 1 ≤ p) (hp2 : p ≤ 1000) (hk0 : 0 ≤ key) (hk2 : key ≤ 1000000000) (hs : n ≤ 16)
    (hl : ∀ x ∈ l, 0 ≤ x ∧ x ≤ 1) (hl' : ∀ x ∈ l', 0 ≤ x ∧ x ≤ 1) :
    Calls Tryz.prog 45 #[.int .i64 p, .int .i64 key, .slice a n c, .slice a' n c'] w fun e w' => ∃ a1 c1, e = .returned (.slice a1 2 c1) ∧ Own w' w.heap.size a1 2 c1 (accL p key l l') ∧ Below w.heap.size w w' := by
  have HL := Lib.hid hl
  have HL' := Lib.hid hl'
  have HLen := Lib.hid h.len
  have HAcc : Hid (accL p key l l' = [acc0 p key l l' l.length, acc1 p key l l' l.length]) := rfl
  clear hl hl'
  go_enter Tryz.func45, Tryz.ntmps45
  go_wp2
  have own0 : Own (w.alloc (.cells #[.int .i64 0, .int .i64 0] 3)) w.heap.size (some ⟨w.heap.size, 0, none⟩) 2 2 [acc0 p key l l' 0, acc1 p key l l' 0] := Own.lit2 w _ 0 0 (Nat.le_refl _)
  have bel0 := (Below.refl w.heap.size w).alloc (Nat.le_refl _) (.cells #[.int .i64 0, .int .i64 0] 3)
  go_loopw [9, 17] (fun u v wr => ∃ k : Nat, k ≤ n ∧ v = .int .i64 k ∧ Below w.heap.size w wr ∧ ∃ a1 c1, u = .slice a1 2 c1 ∧ Own wr w.heap.size a1 2 c1 [acc0 p key l l' k, acc1 p key l l' k]) (fun _ v _ => n - (intOf v).toNat)
  case atStart => exact ⟨0, by omega, rfl, bel0, _, _, rfl, own0⟩
  case round =>
    obtain ⟨k, hk, rfl, hbel, a1, c1, rfl, own⟩ := hrel
    have h1 := h.below hbel
    have h2 := h'.below hbel
    by_cases hlt : k < n
    · have r1 := getD_range l _ _ HL.out k (by have := HLen.out; omega)
      have r2 := getD_range l' _ _ HL'.out k (by have := h'.len; omega)
      have HS0 : Hid (acc0 p key l l' (k + 1) = (acc0 p key l l' k + sh0 p key k (xorI (l.getD k 0) (l'.getD k 0)) * 2 ^ k) % p) := rfl
      have HS1 : Hid (acc1 p key l l' (k + 1) = (acc1 p key l l' k + sh1 p key k (xorI (l.getD k 0) (l'.getD k 0)) * 2 ^ k) % p) := rfl
      have HG0 := Lib.hid (acc0_range p key l l' k hp)
      have HG1 := Lib.hid (acc1_range p key l l' k hp)
      obtain ⟨g, o, hg, hc⟩ := h1.at k hlt
      obtain ⟨g', o', hg', hc'⟩ := h2.at k hlt
      generalize l.getD k 0 = x at *
      generalize l'.getD k 0 = y at *
      have hx : xorI x y = 0 ∨ xorI x y = 1 := xorI_bit (by omega) (by omega)
      have HC := fun W a c hW => cvToSum_any p key k a c x y W hp hp2 hk0 hk2 (by omega) (by omega) hW hx
      have HQ := Lib.hid (tsL_sh p key k (xorI x y))
      have z0 := sh0_range p key k (xorI x y) hp
      have z1 := sh1_range p key k (xorI x y) hp
      generalize sh0 p key k (xorI x y) = q0 at *
      generalize sh1 p key k (xorI x y) = q1 at *
      obtain ⟨z0, z0'⟩ := z0
      obtain ⟨z1, z1'⟩ := z1
      generalize xorI x y = t at *
      clear r1 r2 hx h1 h2
      subst hg hg'
      go_wp2_with fail
      refine (HC _ _ _ (Ints.lit2 _ _ _ _)).mono ?_; rintro e w1 ⟨a2, c2, rfl, o2, u2⟩
      rw [HQ.out] at o2
      have v2 := (hbel.alloc hbel.size (.cells #[.int .i64 x, .int .i64 y] 3)).trans (u2.mono (by have := hbel.size; simp; omega))
      have own2 := (own.alloc (.cells #[.int .i64 x, .int .i64 y] 3)).below u2
      have sz : w.heap.size ≤ w1.heap.size := v2.size
      clear own hbel u2 hc hc'
      obtain ⟨g3, o3, rfl, hc3⟩ := o2.ints.cells (by omega)
      have e0 : w1.cell? ⟨g3, o3, none⟩ = some (.int .i64 q0) := hc3 0 (by omega)
      have e1 : w1.cell? ⟨g3, o3 + 1, none⟩ = some (.int .i64 q1) := hc3 1 (by omega)
      clear hc3 o2
      have s0 := shift_range q0 k z0 (by omega) (by omega)
      have s1 := shift_range q1 k z1 (by omega) (by omega)
      obtain ⟨s0, s0'⟩ := s0
      obtain ⟨s1, s1'⟩ := s1
      obtain ⟨X0, hX0⟩ : ∃ X, X = q0 * 2 ^ k := ⟨_, rfl⟩
      obtain ⟨X1, hX1⟩ : ∃ X, X = q1 * 2 ^ k := ⟨_, rfl⟩
      rw [← hX0] at s0 s0'
      rw [← hX1] at s1 s1'
      have t0 : IntKind.i64.wrap (q0 * 2 ^ k) = X0 := by rw [← hX0]; exact IntWalk.i64_in _ (by omega)
      have t1 : IntKind.i64.wrap (q1 * 2 ^ k) = X1 := by rw [← hX1]; exact IntWalk.i64_in _ (by omega)
      rw [← hX0] at HS0
      rw [← hX1] at HS1
      clear hX0 hX1
      have t2 : IntKind.u64.wrap (k : Int) = (k : Int) := IntWalk.u64_in _ (by omega)
      have m0 := mod_range X0 p hp
      have m1 := mod_range X1 p hp
      have t3 : X0.tmod p = X0 % p := Int.tmod_eq_emod_of_nonneg s0
      have t4 : X1.tmod p = X1 % p := Int.tmod_eq_emod_of_nonneg s1
      have t5 : IntKind.i64.wrap (X0 % p) = X0 % p := IntWalk.i64_in _ (by omega)
      have t6 : IntKind.i64.wrap (X1 % p) = X1 % p := IntWalk.i64_in _ (by omega)
      have t7 : (p == 0) = false := by simp; omega
      have t8 : (p = 0) = False := by simp; omega
      have HB1 : Hid (∀ x ∈ [acc0 p key l l' k, acc1 p key l l' k], 0 ≤ x ∧ x ≤ 1000000) := Lib.hid (by
        have := HG0.out; have := HG1.out
        intro x hx; simp only [List.mem_cons, List.not_mem_nil, or_false] at hx; rcases hx with rfl | rfl <;> omega)
      have HB2 : Hid (∀ x ∈ [X0 % p, X1 % p], 0 ≤ x ∧ x ≤ 1000000) := Lib.hid (by
        intro x hx; simp only [List.mem_cons, List.not_mem_nil, or_false] at hx; rcases hx with rfl | rfl <;> omega)
      clear m0 m1
      go_wp2
      go_region_held3 (fun W => W.cell? ⟨g3, o3, none⟩ = some (.int .i64 q0) ∧ W.cell? ⟨g3, o3 + 1, none⟩ = some (.int .i64 q1))
        (first | go_keep | exact ⟨keepC u3 (keepA _ e0), keepC u3 (keepA _ e1)⟩)
        (first | (go_at_call 71; refine (trSum_any p a1 2 c1 _ _ 2 2 [X0 % p, X1 % p] _ ((own2.alloc _).drew).ints (Ints.lit2 _ _ _ _) hp (by omega) (by omega) (by omega) HB1.out HB2.out).mono ?_; rintro e w3 ⟨a5, c5, rfl, o5, u3⟩))
      all_goals have b3 : Below w.heap.size w w3 := (v2.alloc v2.size _).drew.trans (u3.mono (by simp; omega))
      all_goals have o6 : Own w3 w.heap.size a5 2 c5 [acc0 p key l l' (k + 1), acc1 p key l l' (k + 1)] := by rw [HS0.out, HS1.out, ← add_mod2 (acc0 p key l l' k) X0 p, ← add_mod2 (acc1 p key l l' k) X1 p]; exact o5.lower (by simp; omega)
      all_goals clear u3 o5 own2 v2
      all_goals go_wp2
      all_goals go_roundw
      case rel => exact ⟨k + 1, by omega, by go_num, b3, a5, c5, rfl, o6⟩
      case measure => simp [intOf]; omega
    · have HE : Hid (l.length = k) := Lib.hid (by have := HLen.out; omega)
      go_wp2
      go_ret
      refine ⟨a1, c1, ?_, ?_, hbel⟩
      · rfl
      · rw [HAcc.out, HE.out]; exact own
def bsB (p key : Int) (u v : List Int) : Bool := isPr p && inB key 0 1000000000 && bitsB u v
def bsL (p key : Int) (u v : List Int) : List Int := if bsB p key u v then accL p key u v else []
theorem bitsB_true {u v : List Int} (h : bitsB u v = true) : u.length = v.length ∧ u.length ≤ 16 ∧ (∀ x ∈ u, 0 ≤ x ∧ x ≤ 1) ∧ ∀ x ∈ v, 0 ≤ x ∧ x ≤ 1 := by
  simp only [bitsB, Bool.and_eq_true, decide_eq_true_eq, allB_iff] at h
  exact ⟨h.1.1.1, h.1.1.2, h.1.2, h.2⟩
set_option maxHeartbeats 4000000 in
set_option maxRecDepth 100000 in
theorem BitsToSum_any (p key : Int) (a : Option Addr) (n c : Nat) (l : List Int) (a' : Option Addr) (n' c' : Nat) (l' : List Int) (w : World) (h : Ints w a n c l) (h' : Ints w a' n' c' l') :
    Calls Tryz.prog 6 #[.int .i64 p, .int .i64 key, .slice a n c, .slice a' n' c'] w fun e w' => ∃ a1 n1 c1, e = .returned (.tuple #[.slice a1 n1 c1, .bool (bsB p key l l')]) ∧ Own w' w.heap.size a1 n1 c1 (bsL p key l l') ∧ Below w.heap.size w w' := by
  unfold bsL bsB bitsB
  have hn := h.le
  have hn' := h'.le
  have HLen := Lib.hid h.len
  have HLen' := Lib.hid h'.len
  cases h1 : isPr p
  · simp only [Bool.false_and, Bool.false_eq_true, if_false]
    clear hn hn'
    go_enter Tryz.func6, Tryz.ntmps6
    go_wp2_with (first | (go_at_call 36; refine (IsPrime_any _ _).mono ?_; rintro e w' ⟨rfl, m, rfl⟩))
    go_ret2
    exact ⟨_, _, _, rfl, Own.nil0 _ _ _, below_of_drewN _⟩
  cases h2 : inB key 0 1000000000
  · simp only [Bool.false_and, Bool.and_false, Bool.false_eq_true, if_false]
    clear hn hn'
    go_enter Tryz.func6, Tryz.ntmps6
    go_wp2_with (first | (go_at_call 36; refine (IsPrime_any _ _).mono ?_; rintro e w' ⟨rfl, m, rfl⟩) | (go_at_call 37; refine (isKey_any _ _).mono ?_; rintro e w' ⟨rfl, rfl⟩))
    go_ret2
    exact ⟨_, _, _, rfl, Own.nil0 _ _ _, below_of_drewN _⟩
  obtain ⟨p1, p2⟩ := isPr_range h1
  obtain ⟨k1, k2⟩ := inB_true h2
  cases h3 : allB l 0 1
  · simp only [Bool.false_and, Bool.and_false, Bool.false_eq_true, if_false]
    clear hn hn'
    go_enter Tryz.func6, Tryz.ntmps6
    go_wp2_with (first | (go_at_call 36; refine (IsPrime_any _ _).mono ?_; rintro e w' ⟨rfl, m, rfl⟩) | (go_at_call 37; refine (isKey_any _ _).mono ?_; rintro e w' ⟨rfl, rfl⟩))
    refine (areBits_any _ _ _ l _ (h.drewN _)).mono ?_; rintro e w1 ⟨rfl, u⟩
    rw [h3]
    have u1 : Below w.heap.size w w1 := (below_of_drewN _).trans (u.mono (by simp))
    go_wp2
    go_ret2
    exact ⟨_, _, _, rfl, Own.nil0 _ _ _, u1⟩
  cases h4 : allB l' 0 1
  · simp only [Bool.and_false, Bool.false_eq_true, if_false]
    clear hn hn'
    go_enter Tryz.func6, Tryz.ntmps6
    go_wp2_with (first | (go_at_call 36; refine (IsPrime_any _ _).mono ?_; rintro e w' ⟨rfl, m, rfl⟩) | (go_at_call 37; refine (isKey_any _ _).mono ?_; rintro e w' ⟨rfl, rfl⟩))
    refine (areBits_any _ _ _ l _ (h.drewN _)).mono ?_; rintro e w1 ⟨rfl, u⟩
    rw [h3]
    have u1 : Below w.heap.size w w1 := (below_of_drewN _).trans (u.mono (by simp))
    clear u
    go_wp2_with fail
    refine (areBits_any _ _ _ l' _ (h'.below u1)).mono ?_; rintro e w2 ⟨rfl, u⟩
    rw [h4]
    have u2 : Below w.heap.size w w2 := u1.trans (u.mono u1.size)
    go_wp2
    go_ret2
    exact ⟨_, _, _, rfl, Own.nil0 _ _ _, u2⟩
  by_cases h5 : n = n'
  · rw [decide_eq_true (show l.length = l'.length by have := h.len; have := h'.len; omega)]
    subst h5
    have e5 : (((n : Int) != (n : Int)) : Bool) = false := by simp
    by_cases h6 : n ≤ 16
    · rw [decide_eq_true (show l.length ≤ 16 by have := h.len; omega)]
      have e6 : (decide ((n : Int) > 16) : Bool) = false := by simp; omega
      simp only [Bool.and_self, if_true]
      have HL : Hid (∀ x ∈ l, 0 ≤ x ∧ x ≤ 1) := Lib.hid ((allB_iff _ _ _).1 h3)
      have HL' : Hid (∀ x ∈ l', 0 ≤ x ∧ x ≤ 1) := Lib.hid ((allB_iff _ _ _).1 h4)
      have HAcc : Hid (accL p key l l' = [acc0 p key l l' l.length, acc1 p key l l' l.length]) := rfl
      go_enter Tryz.func6, Tryz.ntmps6
      go_wp2_with (first | (go_at_call 36; refine (IsPrime_any _ _).mono ?_; rintro e w' ⟨rfl, m, rfl⟩) | (go_at_call 37; refine (isKey_any _ _).mono ?_; rintro e w' ⟨rfl, rfl⟩))
      refine (areBits_any _ _ _ l _ (h.drewN _)).mono ?_; rintro e w1 ⟨rfl, u⟩
      rw [h3]
      have u1 : Below w.heap.size w w1 := (below_of_drewN _).trans (u.mono (by simp))
      clear u
      go_wp2_with fail
      refine (areBits_any _ _ _ l' _ (h'.below u1)).mono ?_; rintro e w2 ⟨rfl, u⟩
      rw [h4]
      have u2 : Below w.heap.size w w2 := u1.trans (u.mono u1.size)
      clear u
      go_wp2
      have own0 : Own (w2.alloc (.cells #[.int .i64 0, .int .i64 0] 3)) w.heap.size (some ⟨w2.heap.size, 0, none⟩) 2 2 [acc0 p key l l' 0, acc1 p key l l' 0] := Own.lit2 w2 _ 0 0 u2.size
      have bel0 := u2.alloc u2.size (.cells #[.int .i64 0, .int .i64 0] 3)
      go_loopw [10, 47] (fun u v wr => ∃ k : Nat, k ≤ n ∧ v = .int .i64 k ∧ Below w.heap.size w wr ∧ ∃ a1 c1, u = .slice a1 2 c1 ∧ Own wr w.heap.size a1 2 c1 [acc0 p key l l' k, acc1 p key l l' k]) (fun _ v _ => n - (intOf v).toNat)
      case atStart => exact ⟨0, by omega, rfl, bel0, _, _, rfl, own0⟩
      case round =>
        obtain ⟨k, hk, rfl, hbel, a1, c1, rfl, own⟩ := hrel
        have h1 := h.below hbel
        have h2 := h'.below hbel
        by_cases hlt : k < n
        · have r1 := getD_range l _ _ HL.out k (by have := HLen.out; omega)
          have r2 := getD_range l' _ _ HL'.out k (by have := HLen'.out; omega)
          have HS0 : Hid (acc0 p key l l' (k + 1) = (acc0 p key l l' k + sh0 p key k (xorI (l.getD k 0) (l'.getD k 0)) * 2 ^ k) % p) := rfl
          have HS1 : Hid (acc1 p key l l' (k + 1) = (acc1 p key l l' k + sh1 p key k (xorI (l.getD k 0) (l'.getD k 0)) * 2 ^ k) % p) := rfl
          have G0 := acc0_range p key l l' k (by omega)
          have G1 := acc1_range p key l l' k (by omega)
          obtain ⟨g, o, hg, hc⟩ := h1.at k hlt
          obtain ⟨g', o', hg', hc'⟩ := h2.at k hlt
          generalize acc0 p key l l' k = A0 at *
          generalize acc1 p key l l' k = A1 at *
          obtain ⟨G0, G0'⟩ := G0
          obtain ⟨G1, G1'⟩ := G1
          generalize l.getD k 0 = x at *
          generalize l'.getD k 0 = y at *
          have hx : xorI x y = 0 ∨ xorI x y = 1 := xorI_bit (by omega) (by omega)
          have x0 : bits BinOp.xor IntKind.i64 x y = xorI x y := rfl
          have HQ := Lib.hid (tsL_sh p key k (xorI x y))
          have z0 := sh0_range p key k (xorI x y) (by omega)
          have z1 := sh1_range p key k (xorI x y) (by omega)
          generalize sh0 p key k (xorI x y) = q0 at *
          generalize sh1 p key k (xorI x y) = q1 at *
          obtain ⟨z0, z0'⟩ := z0
          obtain ⟨z1, z1'⟩ := z1
          generalize xorI x y = t at *
          have HC := fun W => bitToSum_any p key k t W (by omega) (by omega) k1 k2 (by omega) (by omega) hx
          clear r1 r2 hx h1 h2
          subst hg hg'
          go_wp2
          go_region_held3 (fun W => W.cell? ⟨g, o + k, none⟩ = some (.int .i64 x) ∧ W.cell? ⟨g', o' + k, none⟩ = some (.int .i64 y))
            (first | go_keep | exact ⟨keepC u3 hc, keepC u3 hc'⟩)
            (first | (go_at_call 40; refine (HC _).mono ?_; rintro e w3 ⟨a2, c2, rfl, o2, u3⟩))
          rw [HQ.out] at o2
          have v2 := hbel.drew.trans (u3.mono hbel.size)
          have own2 := own.drew.below u3
          have sz : w.heap.size ≤ w3.heap.size := v2.size
          clear own hbel u3 hc hc'
          obtain ⟨g3, o3, rfl, hc3⟩ := o2.ints.cells (by omega)
          have e0 : w3.cell? ⟨g3, o3, none⟩ = some (.int .i64 q0) := hc3 0 (by omega)
          have e1 : w3.cell? ⟨g3, o3 + 1, none⟩ = some (.int .i64 q1) := hc3 1 (by omega)
          clear hc3 o2
          obtain ⟨g4, o4, rfl, hc4⟩ := own2.ints.cells (by omega)
          have f0 : w3.cell? ⟨g4, o4, none⟩ = some (.int .i64 A0) := hc4 0 (by omega)
          have f1 : w3.cell? ⟨g4, o4 + 1, none⟩ = some (.int .i64 A1) := hc4 1 (by omega)
          clear hc4 own2
          have s0 := shift_range q0 k z0 (by omega) (by omega)
          have s1 := shift_range q1 k z1 (by omega) (by omega)
          obtain ⟨s0, s0'⟩ := s0
          obtain ⟨s1, s1'⟩ := s1
          obtain ⟨X0, hX0⟩ : ∃ X, X = q0 * 2 ^ k := ⟨_, rfl⟩
          obtain ⟨X1, hX1⟩ : ∃ X, X = q1 * 2 ^ k := ⟨_, rfl⟩
          rw [← hX0] at s0 s0'
          rw [← hX1] at s1 s1'
          have t0 : IntKind.i64.wrap (q0 * 2 ^ k) = X0 := by rw [← hX0]; exact IntWalk.i64_in _ (by omega)
          have t1 : IntKind.i64.wrap (q1 * 2 ^ k) = X1 := by rw [← hX1]; exact IntWalk.i64_in _ (by omega)
          rw [← hX0] at HS0
          rw [← hX1] at HS1
          clear hX0 hX1
          have t2 : IntKind.u64.wrap (k : Int) = (k : Int) := IntWalk.u64_in _ (by omega)
          have t3 : IntKind.i64.wrap (A0 + X0) = A0 + X0 := IntWalk.i64_in _ (by omega)
          have t4 : IntKind.i64.wrap (A1 + X1) = A1 + X1 := IntWalk.i64_in _ (by omega)
          go_wp2
          go_region_held3 (fun W => W.cell? ⟨g3, o3, none⟩ = some (.int .i64 q0) ∧ W.cell? ⟨g3, o3 + 1, none⟩ = some (.int .i64 q1) ∧ W.cell? ⟨g4, o4, none⟩ = some (.int .i64 A0) ∧ W.cell? ⟨g4, o4 + 1, none⟩ = some (.int .i64 A1))
            (go_keep)
            (first | (go_at_call 41; refine (mod_same _ _ _ (by omega) (by omega)).mono ?_; rintro e w' ⟨rfl, rfl⟩))
          all_goals have b3 := (v2.alloc v2.size (.cells #[.int .i64 ((A0 + X0) % p), .int .i64 ((A1 + X1) % p)] 3)).drew
          all_goals have o6 := (Own.lit2 w3 w.heap.size ((A0 + X0) % p) ((A1 + X1) % p) v2.size).drew
          all_goals clear v2
          all_goals go_wp2
          all_goals go_roundw
          case rel => exact ⟨k + 1, by omega, by go_num, b3, _, _, rfl, by rw [HS0.out, HS1.out]; exact o6⟩
          case measure => simp [intOf]; omega
        · have HE : Hid (l.length = k) := Lib.hid (by have := HLen.out; omega)
          go_wp2
          go_ret2
          refine ⟨a1, 2, c1, ?_, ?_, hbel⟩
          · rfl
          · rw [HAcc.out, HE.out]; exact own
    · rw [decide_eq_false (show ¬ l.length ≤ 16 by have := h.len; omega)]
      have e6 : (decide ((n : Int) > 16) : Bool) = true := by simp; omega
      simp only [Bool.false_and, Bool.and_false, Bool.false_eq_true, if_false]
      go_enter Tryz.func6, Tryz.ntmps6
      go_wp2_with (first | (go_at_call 36; refine (IsPrime_any _ _).mono ?_; rintro e w' ⟨rfl, m, rfl⟩) | (go_at_call 37; refine (isKey_any _ _).mono ?_; rintro e w' ⟨rfl, rfl⟩))
      refine (areBits_any _ _ _ l _ (h.drewN _)).mono ?_; rintro e w1 ⟨rfl, u⟩
      rw [h3]
      have u1 : Below w.heap.size w w1 := (below_of_drewN _).trans (u.mono (by simp))
      clear u
      go_wp2_with fail
      refine (areBits_any _ _ _ l' _ (h'.below u1)).mono ?_; rintro e w2 ⟨rfl, u⟩
      rw [h4]
      have u2 : Below w.heap.size w w2 := u1.trans (u.mono u1.size)
      go_wp2
      go_ret2
      exact ⟨_, _, _, rfl, Own.nil0 _ _ _, u2⟩
  · rw [decide_eq_false (show ¬ l.length = l'.length by have := h.len; have := h'.len; omega)]
    have e5 : (((n : Int) != (n' : Int)) : Bool) = true := by simp; omega
    simp only [Bool.false_and, Bool.and_false, Bool.false_eq_true, if_false]
    clear h5
    go_enter Tryz.func6, Tryz.ntmps6
    go_wp2_with (first | (go_at_call 36; refine (IsPrime_any _ _).mono ?_; rintro e w' ⟨rfl, m, rfl⟩) | (go_at_call 37; refine (isKey_any _ _).mono ?_; rintro e w' ⟨rfl, rfl⟩))
    refine (areBits_any _ _ _ l _ (h.drewN _)).mono ?_; rintro e w1 ⟨rfl, u⟩
    rw [h3]
    have u1 : Below w.heap.size w w1 := (below_of_drewN _).trans (u.mono (by simp))
    clear u
    go_wp2_with fail
    refine (areBits_any _ _ _ l' _ (h'.below u1)).mono ?_; rintro e w2 ⟨rfl, u⟩
    rw [h4]
    have u2 : Below w.heap.size w w2 := u1.trans (u.mono u1.size)
    go_wp2
    go_ret2
    exact ⟨_, _, _, rfl, Own.nil0 _ _ _, u2⟩
set_option maxHeartbeats 1000000 in
theorem cvBits_any (a : Option Addr) (n c : Nat) (l : List Int) (a' : Option Addr) (n' c' : Nat) (l' : List Int) (w : World) (h : Ints w a n c l) (h' : Ints w a' n' c' l') :
    Calls Tryz.prog 44 #[.slice a n c, .slice a' n' c'] w fun e w' => e = .returned (.bool (bitsB l l')) ∧ Below w.heap.size w w' := by
  unfold bitsB
  have hn := h.le
  have hn' := h'.le
  by_cases h5 : n = n'
  · rw [decide_eq_true (show l.length = l'.length by have := h.len; have := h'.len; omega)]
    subst h5
    have e5 : (((n : Int) == (n : Int)) : Bool) = true := by simp
    by_cases h6 : n ≤ 16
    · rw [decide_eq_true (show l.length ≤ 16 by have := h.len; omega)]
      have e6 : (decide ((n : Int) ≤ 16) : Bool) = true := by simp; omega
      simp only [Bool.and_self, Bool.true_and]
      cases h3 : allB l 0 1
      · go_enter Tryz.func44, Tryz.ntmps44
        go_wp2_with fail
        refine (l1All_any _ _ _ l _ _ _ h).mono ?_; rintro e w1 ⟨rfl, q⟩
        rw [h3]
        go_wp2
        go_ret
        exact ⟨rfl, below_of_quiet (by assumption)⟩
      · go_enter Tryz.func44, Tryz.ntmps44
        go_wp2_with fail
        refine (l1All_any _ _ _ l _ _ _ h).mono ?_; rintro e w1 ⟨rfl, q⟩
        rw [h3]
        have u1 := below_of_quiet q
        clear q
        go_wp2_with fail
        refine (l1All_any _ _ _ l' _ _ _ (h'.below u1)).mono ?_; rintro e w2 ⟨rfl, q⟩
        have u2 := u1.trans ((below_of_quiet q).mono u1.size)
        clear q
        go_wp2
        go_ret
        exact ⟨rfl, u2⟩
    · rw [decide_eq_false (show ¬ l.length ≤ 16 by have := h.len; omega)]
      have e6 : (decide ((n : Int) ≤ 16) : Bool) = false := by simp; omega
      simp only [Bool.false_and, Bool.and_false]
      go_enter Tryz.func44, Tryz.ntmps44
      go_wp2
      go_ret
      exact ⟨rfl, Below.refl _ _⟩
  · rw [decide_eq_false (show ¬ l.length = l'.length by have := h.len; have := h'.len; omega)]
    have e5 : (((n : Int) == (n' : Int)) : Bool) = false := by simp; omega
    simp only [Bool.false_and]
    clear h5
    go_enter Tryz.func44, Tryz.ntmps44
    go_wp2
    go_ret
    exact ⟨rfl, Below.refl _ _⟩
set_option maxHeartbeats 1000000 in
theorem spec_BitsToSum_any (p key : Int) (a : Option Addr) (n c : Nat) (l : List Int) (a' : Option Addr) (n' c' : Nat) (l' : List Int) (w : World) (h : Ints w a n c l) (h' : Ints w a' n' c' l') :
    Calls Tryz.prog 7 #[.int .i64 p, .int .i64 key, .slice a n c, .slice a' n' c'] w fun e w' => ∃ a1 n1 c1, e = .returned (.tuple #[.slice a1 n1 c1, .bool (bsB p key l l')]) ∧ Own w' w.heap.size a1 n1 c1 (bsL p key l l') ∧ Below w.heap.size w w' := by
  unfold bsL bsB
  cases h1 : isPr p
  · simp only [Bool.false_and, Bool.false_eq_true, if_false]
    go_enter Tryz.func7, Tryz.ntmps7
    go_wp2_with (first | (go_at_call 42; refine (fpGood_any _ _).mono ?_; rintro e w' ⟨rfl, m, rfl⟩))
    go_ret2
    exact ⟨_, _, _, rfl, Own.nil0 _ _ _, below_of_drewN _⟩
  cases h2 : inB key 0 1000000000
  · simp only [Bool.false_and, Bool.and_false, Bool.false_eq_true, if_false]
    go_enter Tryz.func7, Tryz.ntmps7
    go_wp2_with (first | (go_at_call 42; refine (fpGood_any _ _).mono ?_; rintro e w' ⟨rfl, m, rfl⟩) | (go_at_call 43; refine (otKey_any _ _).mono ?_; rintro e w' ⟨rfl, rfl⟩))
    go_ret2
    exact ⟨_, _, _, rfl, Own.nil0 _ _ _, below_of_drewN _⟩
  obtain ⟨p1, p2⟩ := isPr_range h1
  obtain ⟨k1, k2⟩ := inB_true h2
  cases h3 : bitsB l l'
  · simp only [Bool.and_false, Bool.false_eq_true, if_false]
    go_enter Tryz.func7, Tryz.ntmps7
    go_wp2_with (first | (go_at_call 42; refine (fpGood_any _ _).mono ?_; rintro e w' ⟨rfl, m, rfl⟩) | (go_at_call 43; refine (otKey_any _ _).mono ?_; rintro e w' ⟨rfl, rfl⟩))
    refine (cvBits_any _ _ _ l _ _ _ l' _ (h.drewN _) (h'.drewN _)).mono ?_; rintro e w1 ⟨rfl, u⟩
    rw [h3]
    have u1 : Below w.heap.size w w1 := (below_of_drewN _).trans (u.mono (by simp))
    go_wp2
    go_ret2
    exact ⟨_, _, _, rfl, Own.nil0 _ _ _, u1⟩
  · simp only [Bool.and_self, if_true]
    obtain ⟨b1, b2, b3, b4⟩ := bitsB_true h3
    have hn : n' = n := by have := h.len; have := h'.len; omega
    subst hn
    have HC := fun W hW hW' => cvAll_any p key a n' c l a' c' l' W hW hW' (by omega) (by omega) k1 k2 (by have := h.len; omega) b3 b4
    clear b1 b2 b3 b4
    go_enter Tryz.func7, Tryz.ntmps7
    go_wp2_with (first | (go_at_call 42; refine (fpGood_any _ _).mono ?_; rintro e w' ⟨rfl, m, rfl⟩) | (go_at_call 43; refine (otKey_any _ _).mono ?_; rintro e w' ⟨rfl, rfl⟩))
    refine (cvBits_any _ _ _ l _ _ _ l' _ (h.drewN _) (h'.drewN _)).mono ?_; rintro e w1 ⟨rfl, u⟩
    rw [h3]
    have u1 : Below w.heap.size w w1 := (below_of_drewN _).trans (u.mono (by simp))
    clear u
    go_wp2_with fail
    refine (HC _ (h.below u1) (h'.below u1)).mono ?_; rintro e w2 ⟨a2, c2, rfl, o2, u2⟩
    go_wp2
    go_ret2
    exact ⟨_, _, _, rfl, o2.lower u1.size, u1.trans (u2.mono u1.size)⟩
theorem pairB_true {p : Int} {l : List Int} (h : pairB p l = true) : ∃ y0 y1, l = [y0, y1] ∧ (0 ≤ y0 ∧ y0 ≤ p - 1) ∧ (0 ≤ y1 ∧ y1 ≤ p - 1) ∧ isPr p = true := by
  simp only [pairB, Bool.and_eq_true, decide_eq_true_eq] at h
  obtain ⟨h1, h2⟩ := h
  obtain ⟨h3, _, _, h4⟩ := elsB_true h1
  rw [allB_iff] at h4
  match l, h2, h4 with
  | [x, y], _, h4 => exact ⟨x, y, rfl, h4 x (by simp), h4 y (by simp), h3⟩
end Go.Proofs.YtchmakepglaijaaGreat
namespace Go.Proofs.YtchmakepglaijaaGreat
open Go.RowKit
theorem xor_sign {x n : Int} (hx : x = 0 ∨ x = 1) (hn : n = 0 ∨ n = 1) : xorI x n + (1 - 2 * xorI x n) * n = x := by
  rcases hx with rfl | rfl <;> rcases hn with rfl | rfl <;> decide
theorem xor_mask {x a b : Int} (hx : x = 0 ∨ x = 1) (ha : a = 0 ∨ a = 1) (hb : b = 0 ∨ b = 1) : xorI (xorI x b) (xorI a b) = xorI x a := by
  rcases hx with rfl | rfl <;> rcases ha with rfl | rfl <;> rcases hb with rfl | rfl <;> decide
theorem xor_back {a b : Int} (ha : a = 0 ∨ a = 1) (hb : b = 0 ∨ b = 1) : xorI b (xorI a b) = a := by
  rcases ha with rfl | rfl <;> rcases hb with rfl | rfl <;> decide
theorem q_cg (p key i : Int) : Cg p (q0I p key i + q1I p key i) (dbB key i 0) := by
  unfold q0I q1I
  exact ((Cg.refl p _).add (Cg.emod p _)).trans (Cg.of_eq (by omega))
theorem ts_cg (p key i x : Int) (hx : x = 0 ∨ x = 1) : Cg p (sh0 p key i x + sh1 p key i x) x := by
  have hm : tsM key i x = xorI x (dbB key i 0) := xor_mask hx (dbB_bit key i 0 (by decide)) (dbB_bit key i 1 (by decide))
  unfold sh0 sh1
  rw [hm]
  have hs := xor_sign hx (dbB_bit key i 0 (by decide))
  have hq := q_cg p key i
  generalize xorI x (dbB key i 0) = m at *
  generalize dbB key i 0 = n at *
  refine ((Cg.emod p _).add (Cg.emod p _)).trans (Cg.trans ?_ (Cg.of_eq hs))
  have e : m + (1 - 2 * m) * q0I p key i + (1 - 2 * m) * q1I p key i = m + (1 - 2 * m) * (q0I p key i + q1I p key i) := by grind
  rw [e]
  exact (Cg.refl p _).add ((Cg.refl p _).mul hq)
def vb (u v : List Int) : Nat → Int
  | 0 => 0
  | k + 1 => vb u v k + xorI (u.getD k 0) (v.getD k 0) * 2 ^ k
def Bt' (l : List Int) : Prop := ∀ i, l.getD i 0 = 0 ∨ l.getD i 0 = 1
theorem bt'_of {l : List Int} (h : ∀ x ∈ l, 0 ≤ x ∧ x ≤ 1) : Bt' l := fun i => by
  by_cases hi : i < l.length
  · have := h _ (getD_mem l i hi); omega
  · left; simp [List.getD, Nat.not_lt.1 hi]
theorem vb_rng {u v : List Int} (hu : Bt' u) (hv : Bt' v) : ∀ k, 0 ≤ vb u v k ∧ vb u v k < 2 ^ k
  | 0 => by simp [vb]
  | k + 1 => by
    have h := vb_rng hu hv k
    rw [vb, Int.pow_succ]
    rcases xorI_bit (hu k) (hv k) with e | e <;> rw [e] <;> omega
theorem acc_cg (p key : Int) {u v : List Int} (hu : Bt' u) (hv : Bt' v) : ∀ k, Cg p (acc0 p key u v k + acc1 p key u v k) (vb u v k)
  | 0 => Cg.refl _ _
  | k + 1 => by
    have ih := acc_cg p key hu hv k
    have hs := ts_cg p key (k : Int) _ (xorI_bit (hu k) (hv k))
    rw [acc0, acc1, vb]
    refine ((Cg.emod p _).add (Cg.emod p _)).trans ?_
    generalize acc0 p key u v k = a at *
    generalize acc1 p key u v k = b at *
    generalize sh0 p key (k : Int) (xorI (u.getD k 0) (v.getD k 0)) = s at *
    generalize sh1 p key (k : Int) (xorI (u.getD k 0) (v.getD k 0)) = t at *
    have e : a + s * 2 ^ k + (b + t * 2 ^ k) = (a + b) + (s + t) * 2 ^ k := by grind
    rw [e]
    exact ih.add (hs.mul (Cg.refl p _))
theorem bs_law {p key : Int} {u v : List Int} (h : bsB p key u v = true) : u.length = v.length ∧ u.length ≤ 16 ∧ Bt' u ∧ Bt' v ∧ bsL p key u v = [acc0 p key u v u.length, acc1 p key u v u.length] ∧ (2 ≤ p ∧ p ≤ 251) ∧
    (0 ≤ acc0 p key u v u.length ∧ acc0 p key u v u.length ≤ p - 1) ∧ (0 ≤ acc1 p key u v u.length ∧ acc1 p key u v u.length ≤ p - 1) ∧ vb u v u.length % p = (acc0 p key u v u.length + acc1 p key u v u.length) % p := by
  have e : bsL p key u v = accL p key u v := if_pos h
  unfold bsB at h
  simp only [Bool.and_eq_true] at h
  obtain ⟨h1, h2, h3, h4⟩ := bitsB_true h.2
  have hp := isPr_range h.1.1
  exact ⟨h1, h2, bt'_of h3, bt'_of h4, e, hp, acc0_range _ _ _ _ _ (by omega), acc1_range _ _ _ _ _ (by omega), (acc_cg p key (bt'_of h3) (bt'_of h4) _).eq.symm⟩
theorem bts_law {p key i : Int} {l : List Int} (h : btsB p key i l = true) : ∃ y0 y1 s0 s1 b0 b1 q0 q1, l = [y0, y1] ∧ (y0 = 0 ∨ y0 = 1) ∧ (y1 = 0 ∨ y1 = 1) ∧ btsL p key i l = [s0, s1] ∧ dbO1 p key i = [b0, b1] ∧ dbO2 p key i = [q0, q1] ∧ cvB p key i = true ∧ (2 ≤ p ∧ p ≤ 251) ∧
    (0 ≤ s0 ∧ s0 ≤ p - 1) ∧ (0 ≤ s1 ∧ s1 ≤ p - 1) ∧ (0 ≤ q0 ∧ q0 ≤ p - 1) ∧ (0 ≤ q1 ∧ q1 ≤ p - 1) ∧ (b0 = 0 ∨ b0 = 1) ∧ (b1 = 0 ∨ b1 = 1) ∧ (s0 + s1) % p = xorI y0 y1 ∧ (q0 + q1) % p = xorI b0 b1 ∧ btsM p key i l = xorI (xorI (xorI y0 y1) b0) b1 := by
  have e1 : btsL p key i l = _ := if_pos h
  have e2 : btsM p key i l = _ := if_pos h
  unfold btsB at h
  rw [Bool.and_eq_true] at h
  obtain ⟨hc, hb⟩ := h
  obtain ⟨y0, y1, rfl, hy0, hy1⟩ := bpairB_true hb
  have e3 : dbO1 p key i = db1 key i := if_pos hc
  have e4 : dbO2 p key i = db2 p key i := if_pos hc
  have hpr : isPr p = true := by
    unfold cvB at hc
    simp only [Bool.and_eq_true] at hc
    exact hc.1.1
  have hp := isPr_range hpr
  rw [tsL_sh] at e1
  rw [db1_eq] at e3
  rw [db2_eq] at e4
  have hx := xorI_bit hy0 hy1
  refine ⟨y0, y1, _, _, _, _, _, _, rfl, hy0, hy1, e1, e3, e4, hc, hp, sh0_range _ _ _ _ (by omega), sh1_range _ _ _ _ (by omega), q0I_range _ _ _ (by omega), q1I_range _ _ _ (by omega), r0I_bit _ _, r1I_bit _ _, ?_, ?_, e2⟩
  · show (sh0 p key i (xorI y0 y1) + sh1 p key i (xorI y0 y1)) % p = xorI y0 y1
    rw [(ts_cg p key i _ hx).eq]
    exact Int.emod_eq_of_lt (by omega) (by omega)
  · have hd := dbB_bit key i 0 (by decide)
    rw [(q_cg p key i).eq]
    have : xorI (r0I key i) (r1I key i) = dbB key i 0 := xor_back hd (dbB_bit key i 1 (by decide))
    rw [this]
    exact Int.emod_eq_of_lt (by omega) (by omega)
end Go.Proofs.YtchmakepglaijaaGreat
