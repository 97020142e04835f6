/- Lemmas and walks that the claim's proof rests on, part 4. -/
import Derived.Test.YtchmakepglaijaaGreatK1
import Derived.Test.YtchmakepglaijaaGreatK3
namespace Go.Proofs.YtchmakepglaijaaGreat
open Go.RowKit
def xorI (a b : Int) : Int := bits BinOp.xor IntKind.i64 a b
theorem xorI_bit {a b : Int} (ha : a = 0 ∨ a = 1) (hb : b = 0 ∨ b = 1) : xorI a b = 0 ∨ xorI a b = 1 := by
  rcases ha with rfl | rfl <;> rcases hb with rfl | rfl
  · exact Or.inl (by decide +kernel)
  · exact Or.inr (by decide +kernel)
  · exact Or.inr (by decide +kernel)
  · exact Or.inl (by decide +kernel)
def dbB (key i : Int) (k : Nat) : Int := (bitsI [key, i, 24] 2).getD k 0
def dbN (p key i : Int) : Int := numI [key, i, 25] p
theorem dbB_bit (key i : Int) (k : Nat) (h : k < 2) : dbB key i k = 0 ∨ dbB key i k = 1 := bitsI_bit _ _ _ h
theorem bitsI_two (key i : Int) : bitsI [key, i, 24] 2 = [dbB key i 0, dbB key i 1] := rfl
def db1 (key i : Int) : List Int := [dbB key i 1, xorI (dbB key i 0) (dbB key i 1)]
def db2 (p key i : Int) : List Int := [dbN p key i, (dbB key i 0 - dbN p key i) % p]
theorem Own.lit2 (w : World) (b : Nat) (x y : Int) (hb : b ≤ w.heap.size) : Own (w.alloc (.cells #[.int .i64 x, .int .i64 y] 3)) b (some ⟨w.heap.size, 0, none⟩) 2 2 [x, y] := Own.lit w b [x, y] hb (by simp [maxLen])
theorem two_lits {w0 w : World} {B : Nat} (x y u v : Int) (hB : B ≤ w.heap.size) (hb : Below B w0 w) :
    Own ((w.alloc (.cells #[.int .i64 x, .int .i64 y] 3)).alloc (.cells #[.int .i64 u, .int .i64 v] 3)).drew B (some ⟨w.heap.size, 0, none⟩) 2 2 [x, y] ∧
    Own ((w.alloc (.cells #[.int .i64 x, .int .i64 y] 3)).alloc (.cells #[.int .i64 u, .int .i64 v] 3)).drew B (some ⟨w.heap.size + 1, 0, none⟩) 2 2 [u, v] ∧
    Apart (some ⟨w.heap.size, 0, none⟩) 2 (some ⟨w.heap.size + 1, 0, none⟩) 2 ∧
    Below B w0 ((w.alloc (.cells #[.int .i64 x, .int .i64 y] 3)).alloc (.cells #[.int .i64 u, .int .i64 v] 3)).drew := by
  refine ⟨((Own.lit2 w B x y hB).alloc _).drew, ?_, ?_, ((hb.alloc hB _).alloc (by simp; omega) _).drew⟩
  · have := Own.lit2 (w.alloc (.cells #[.int .i64 x, .int .i64 y] 3)) B u v (by simp; omega)
    simp only [World.size_alloc] at this
    exact this.drew
  · intro p q _ _ hp hq
    cases hp; cases hq
    show w.heap.size ≠ w.heap.size + 1
    omega
set_option maxHeartbeats 4000000 in
set_option maxRecDepth 100000 in
theorem doubleBit_any (p key i : Int) (w : World) (hp : 1 ≤ p) (hp2 : p ≤ 1000) (hk : 0 ≤ key) (hk2 : key ≤ 1000000000) (hi : 0 ≤ i) (hi2 : i ≤ 1000000) :
    Calls Tryz.prog 67 #[.int .i64 p, .int .i64 key, .int .i64 i] w fun e w' => ∃ a c a' c', e = .returned (.tuple #[.slice a 2 c, .slice a' 2 c']) ∧ Own w' w.heap.size a 2 c (db1 key i) ∧ Own w' w.heap.size a' 2 c' (db2 p key i) ∧ Apart a c a' c' ∧ Below w.heap.size w w' := by
  have hb := bitsI_two key i
  have d0 := dbB_bit key i 0 (by omega)
  have d1 := dbB_bit key i 1 (by omega)
  have dn := numI_range [key, i, 25] p hp
  have H1 : Hid (db1 key i = [dbB key i 1, xorI (dbB key i 0) (dbB key i 1)]) := rfl
  have H2 : Hid (db2 p key i = [numI [key, i, 25] p, (dbB key i 0 - numI [key, i, 25] p) % p]) := rfl
  generalize dbB key i 0 = b0 at *
  generalize dbB key i 1 = b1 at *
  have r0 : 0 ≤ b0 := by omega
  have r1 : b0 ≤ 1 := by omega
  obtain ⟨dn1, dn2⟩ := dn
  have HB := Lib.hid hb
  clear hb d0 d1
  go_enter Tryz.func67, Tryz.ntmps67
  go_wp2_with fail
  refine (bitsFrom_any _ _ _ [key, i, 24] 2 _ (Ints.lit _ [key, i, 24] _ (by simp [maxLen])) (by simp) (WB.cons (by omega) (WB.two (by omega) (by omega))) (by omega) (by omega)).mono ?_; rintro e w1 ⟨a1, c1, rfl, o1, u1⟩
  have v1 := below_a1 u1
  have o1' : Own w1 w.heap.size a1 2 c1 [b0, b1] := by rw [← HB.out]; exact o1.lower (by simp)
  clear u1 o1
  go_wp2_with fail
  refine (numberFrom_any _ _ _ [key, i, 25] _ _ (Ints.lit _ [key, i, 25] _ (by simp [maxLen])) (by simp) (WB.cons (by omega) (WB.two (by omega) (by omega))) hp (by omega)).mono ?_; rintro e w2 ⟨rfl, u2⟩
  have v2 := below_a1 u2
  have o2 := o1'.below v2
  have b2 := v1.trans (v2.mono v1.size)
  clear u2 v1 v2 o1'
  obtain ⟨g, o, rfl, hcells⟩ := o2.ints.cells (by omega)
  have e0 : w2.cell? ⟨g, o, none⟩ = some (.int .i64 b0) := hcells 0 (by omega)
  have e1 : w2.cell? ⟨g, o + 1, none⟩ = some (.int .i64 b1) := hcells 1 (by omega)
  clear hcells o2
  generalize hnn : numI [key, i, 25] p = nn at *
  clear hnn
  have hx : bits BinOp.xor IntKind.i64 b0 b1 = xorI b0 b1 := rfl
  have s1 : IntKind.i64.wrap (b0 - nn) = b0 - nn := IntWalk.i64_in _ (by omega)
  go_wp2
  go_region_held3 (fun W => W.cell? ⟨g, o, none⟩ = some (.int .i64 b0) ∧ W.cell? ⟨g, o + 1, none⟩ = some (.int .i64 b1))
    (go_keep)
    (first | (go_at_call 41; refine (mod_same _ _ _ hp (by omega)).mono ?_; rintro e w' ⟨rfl, rfl⟩))
  all_goals go_wp2
  all_goals go_ret2
  all_goals first
    | (obtain ⟨t1, t2, t3, t4⟩ := two_lits b1 (xorI b0 b1) nn ((b0 - nn) % p) b2.size b2; exact ⟨_, _, _, _, rfl, by rw [H1.out]; exact t1, by rw [H2.out]; exact t2, t3, t4⟩)
    | (obtain ⟨t1, t2, t3, t4⟩ := two_lits nn ((b0 - nn) % p) b1 (xorI b0 b1) b2.size b2; exact ⟨_, _, _, _, rfl, by rw [H1.out]; exact t2, by rw [H2.out]; exact t1, t3.symm, t4⟩)
set_option maxHeartbeats 4000000 in
set_option maxRecDepth 100000 in
theorem cvDouble_any (p key i : Int) (w : World) (hp : 1 ≤ p) (hp2 : p ≤ 1000) (hk : 0 ≤ key) (hk2 : key ≤ 1000000000) (hi : 0 ≤ i) (hi2 : i ≤ 1000000) :
    Calls Tryz.prog 68 #[.int .i64 p, .int .i64 key, .int .i64 i] w fun e w' => ∃ a c a' c', e = .returned (.tuple #[.slice a 2 c, .slice a' 2 c']) ∧ Own w' w.heap.size a 2 c (db1 key i) ∧ Own w' w.heap.size a' 2 c' (db2 p key i) ∧ Apart a c a' c' ∧ Below w.heap.size w w' := by
  have hb := bitsI_two key i
  have d0 := dbB_bit key i 0 (by omega)
  have d1 := dbB_bit key i 1 (by omega)
  have dn := numI_range [key, i, 25] p hp
  have H1 : Hid (db1 key i = [dbB key i 1, xorI (dbB key i 0) (dbB key i 1)]) := rfl
  have H2 : Hid (db2 p key i = [numI [key, i, 25] p, (dbB key i 0 - numI [key, i, 25] p) % p]) := rfl
  generalize dbB key i 0 = b0 at *
  generalize dbB key i 1 = b1 at *
  have r0 : 0 ≤ b0 := by omega
  have r1 : b0 ≤ 1 := by omega
  obtain ⟨dn1, dn2⟩ := dn
  have HB := Lib.hid hb
  clear hb d0 d1
  go_enter Tryz.func68, Tryz.ntmps68
  go_wp2_with fail
  refine (dgBits_any _ _ _ [key, i, 24] 2 _ (Ints.lit _ [key, i, 24] _ (by simp [maxLen])) (by simp) (WB.cons (by omega) (WB.two (by omega) (by omega))) (by omega) (by omega)).mono ?_; rintro e w1 ⟨a1, c1, rfl, o1, u1⟩
  have v1 := below_a1 u1
  have o1' : Own w1 w.heap.size a1 2 c1 [b0, b1] := by rw [← HB.out]; exact o1.lower (by simp)
  clear u1 o1
  go_wp2_with fail
  refine (dgBelow_any _ _ _ [key, i, 25] _ _ (Ints.lit _ [key, i, 25] _ (by simp [maxLen])) (by simp) (WB.cons (by omega) (WB.two (by omega) (by omega))) hp (by omega)).mono ?_; rintro e w2 ⟨rfl, u2⟩
  have v2 := below_a1 u2
  have o2 := o1'.below v2
  have b2 := v1.trans (v2.mono v1.size)
  clear u2 v1 v2 o1'
  obtain ⟨g, o, rfl, hcells⟩ := o2.ints.cells (by omega)
  have e0 : w2.cell? ⟨g, o, none⟩ = some (.int .i64 b0) := hcells 0 (by omega)
  have e1 : w2.cell? ⟨g, o + 1, none⟩ = some (.int .i64 b1) := hcells 1 (by omega)
  clear hcells o2
  generalize hnn : numI [key, i, 25] p = nn at *
  clear hnn
  have hx : bits BinOp.xor IntKind.i64 b0 b1 = xorI b0 b1 := rfl
  have s1 : IntKind.i64.wrap (b0 - nn) = b0 - nn := IntWalk.i64_in _ (by omega)
  go_wp2
  go_region_held3 (fun W => W.cell? ⟨g, o, none⟩ = some (.int .i64 b0) ∧ W.cell? ⟨g, o + 1, none⟩ = some (.int .i64 b1))
    (go_keep)
    (first | (go_at_call 70; refine (btMod_same _ _ _ hp (by omega)).mono ?_; rintro e w' ⟨rfl, rfl⟩))
  all_goals go_wp2
  all_goals go_ret2
  all_goals first
    | (obtain ⟨t1, t2, t3, t4⟩ := two_lits b1 (xorI b0 b1) nn ((b0 - nn) % p) b2.size b2; exact ⟨_, _, _, _, rfl, by rw [H1.out]; exact t1, by rw [H2.out]; exact t2, t3, t4⟩)
    | (obtain ⟨t1, t2, t3, t4⟩ := two_lits nn ((b0 - nn) % p) b1 (xorI b0 b1) b2.size b2; exact ⟨_, _, _, _, rfl, by rw [H1.out]; exact t2, by rw [H2.out]; exact t1, t3.symm, t4⟩)
end Go.Proofs.YtchmakepglaijaaGreat
namespace Go.Proofs.YtchmakepglaijaaGreat
open Go.RowKit
def r0I (key i : Int) : Int := dbB key i 1
def r1I (key i : Int) : Int := xorI (dbB key i 0) (dbB key i 1)
def q0I (p key i : Int) : Int := dbN p key i
def q1I (p key i : Int) : Int := (dbB key i 0 - dbN p key i) % p
theorem db1_eq (key i : Int) : db1 key i = [r0I key i, r1I key i] := rfl
theorem db2_eq (p key i : Int) : db2 p key i = [q0I p key i, q1I p key i] := rfl
theorem r0I_bit (key i : Int) : r0I key i = 0 ∨ r0I key i = 1 := dbB_bit _ _ _ (by omega)
theorem r1I_bit (key i : Int) : r1I key i = 0 ∨ r1I key i = 1 := xorI_bit (dbB_bit _ _ _ (by omega)) (dbB_bit _ _ _ (by omega))
theorem q0I_range (p key i : Int) (h : 1 ≤ p) : 0 ≤ q0I p key i ∧ q0I p key i ≤ p - 1 := numI_range _ _ h
theorem q1I_range (p key i : Int) (h : 1 ≤ p) : 0 ≤ q1I p key i ∧ q1I p key i ≤ p - 1 := by
  unfold q1I
  exact ⟨Int.emod_nonneg _ (by omega), by have := Int.emod_lt_of_pos (dbB key i 0 - dbN p key i) (by omega : 0 < p); omega⟩
def tsM (key i x : Int) : Int := xorI (xorI x (r0I key i)) (r1I key i)
def tsL (p key i x : Int) : List Int := [(tsM key i x + (1 - 2 * tsM key i x) * q0I p key i) % p, ((1 - 2 * tsM key i x) * q1I p key i) % p]
theorem tsM_bit (key i x : Int) (h : x = 0 ∨ x = 1) : tsM key i x = 0 ∨ tsM key i x = 1 := xorI_bit (xorI_bit h (r0I_bit _ _)) (r1I_bit _ _)
theorem sign_range {m q p : Int} (h : m = 0 ∨ m = 1) (h0 : 0 ≤ q) (h1 : q ≤ p) : -p ≤ (1 - 2 * m) * q ∧ (1 - 2 * m) * q ≤ p := by
  rcases h with rfl | rfl
  · simp; omega
  · have : (1 - 2 * 1 : Int) * q = -q := by omega
    rw [this]; omega
set_option maxHeartbeats 4000000 in
set_option maxRecDepth 100000 in
theorem bitToSum_any (p key i x : Int) (w : World) (hp : 1 ≤ p) (hp2 : p ≤ 1000) (hk : 0 ≤ key) (hk2 : key ≤ 1000000000) (hi : 0 ≤ i) (hi2 : i ≤ 1000000) (hx : x = 0 ∨ x = 1) :
    Calls Tryz.prog 40 #[.int .i64 p, .int .i64 key, .int .i64 i, .int .i64 x] w fun e w' => ∃ a c, e = .returned (.tuple #[.slice a 2 c, .int .i64 (tsM key i x)]) ∧ Own w' w.heap.size a 2 c (tsL p key i x) ∧ Below w.heap.size w w' := by
  have hm := tsM_bit key i x hx
  have b0 := r0I_bit key i
  have b1 := r1I_bit key i
  have rq0 := q0I_range p key i hp
  have rq1 := q1I_range p key i hp
  have HL : Hid (tsL p key i x = [(tsM key i x + (1 - 2 * tsM key i x) * q0I p key i) % p, ((1 - 2 * tsM key i x) * q1I p key i) % p]) := rfl
  have x1 : bits BinOp.xor IntKind.i64 x (r0I key i) = xorI x (r0I key i) := rfl
  have x2 : bits BinOp.xor IntKind.i64 (xorI x (r0I key i)) (r1I key i) = tsM key i x := rfl
  have HD1 := Lib.hid (db1_eq key i)
  have HD2 := Lib.hid (db2_eq p key i)
  generalize tsM key i x = m at *
  generalize r0I key i = r0 at *
  generalize r1I key i = r1 at *
  generalize q0I p key i = q0 at *
  generalize q1I p key i = q1 at *
  obtain ⟨rq0, rq0'⟩ := rq0
  obtain ⟨rq1, rq1'⟩ := rq1
  have sg0 := sign_range (p := p) hm rq0 (by omega)
  have sg1 := sign_range (p := p) hm rq1 (by omega)
  obtain ⟨sg0, sg0'⟩ := sg0
  obtain ⟨sg1, sg1'⟩ := sg1
  have m0 : 0 ≤ m := by omega
  have m1 : m ≤ 1 := by omega
  clear hm b0 b1 hx
  go_enter Tryz.func40, Tryz.ntmps40
  go_wp2_with fail
  refine (doubleBit_any _ _ _ _ hp hp2 hk hk2 hi hi2).mono ?_; rintro e w1 ⟨a1, c1, a2, c2, rfl, o1, o2, _, u1⟩
  rw [HD1.out] at o1
  rw [HD2.out] at o2
  obtain ⟨g, o, rfl, hc1⟩ := o1.ints.cells (by omega)
  obtain ⟨g', o', rfl, hc2⟩ := o2.ints.cells (by omega)
  have e0 : w1.cell? ⟨g, o, none⟩ = some (.int .i64 r0) := hc1 0 (by omega)
  have e1 : w1.cell? ⟨g, o + 1, none⟩ = some (.int .i64 r1) := hc1 1 (by omega)
  have e2 : w1.cell? ⟨g', o', none⟩ = some (.int .i64 q0) := hc2 0 (by omega)
  have e3 : w1.cell? ⟨g', o' + 1, none⟩ = some (.int .i64 q1) := hc2 1 (by omega)
  clear hc1 hc2 o1 o2
  go_wp2
  go_quiet (fail)
  have t1 : IntKind.i64.wrap (2 * m) = 2 * m := IntWalk.i64_in _ (by omega)
  have t2 : IntKind.i64.wrap (1 - 2 * m) = 1 - 2 * m := IntWalk.i64_in _ (by omega)
  have t3 : IntKind.i64.wrap ((1 - 2 * m) * q0) = (1 - 2 * m) * q0 := IntWalk.i64_in _ (by omega)
  have t4 : IntKind.i64.wrap (m + (1 - 2 * m) * q0) = m + (1 - 2 * m) * q0 := IntWalk.i64_in _ (by omega)
  have t5 : IntKind.i64.wrap ((1 - 2 * m) * q1) = (1 - 2 * m) * q1 := IntWalk.i64_in _ (by omega)
  have u2 := u1.trans ((below_of_drewN nq).mono u1.size)
  generalize hw2 : w1.drewN nq = w2 at *
  have e2' : w2.cell? ⟨g', o', none⟩ = some (.int .i64 q0) := by rw [← hw2]; exact e2
  have e3' : w2.cell? ⟨g', o' + 1, none⟩ = some (.int .i64 q1) := by rw [← hw2]; exact e3
  clear hw2 e0 e1 e2 e3 u1 x1 x2
  go_wp2
  go_region_held3 (fun W => W.cell? ⟨g', o', none⟩ = some (.int .i64 q0) ∧ W.cell? ⟨g', o' + 1, none⟩ = some (.int .i64 q1))
    (go_keep)
    (first | (go_at_call 41; refine (mod_same _ _ _ hp (by omega)).mono ?_; rintro e w' ⟨rfl, rfl⟩))
  all_goals go_wp2
  all_goals go_ret2
  all_goals exact ⟨_, _, rfl, by rw [HL.out]; exact (Own.lit2 _ _ _ _ u2.size).drew, (u2.alloc u2.size _).drew⟩
set_option maxHeartbeats 4000000 in
set_option maxRecDepth 100000 in
theorem cvToSum_any (p key i : Int) (a : Option Addr) (c : Nat) (y0 y1 : Int) (w : World) (hp : 1 ≤ p) (hp2 : p ≤ 1000) (hk : 0 ≤ key) (hk2 : key ≤ 1000000000) (hi : 0 ≤ i) (hi2 : i ≤ 1000000) (h : Ints w a 2 c [y0, y1]) (hx : xorI y0 y1 = 0 ∨ xorI y0 y1 = 1) :
    Calls Tryz.prog 66 #[.int .i64 p, .int .i64 key, .int .i64 i, .slice a 2 c] w fun e w' => ∃ a c, e = .returned (.tuple #[.slice a 2 c, .int .i64 (tsM key i (xorI y0 y1))]) ∧ Own w' w.heap.size a 2 c (tsL p key i (xorI y0 y1)) ∧ Below w.heap.size w w' := by
  have x0 : bits BinOp.xor IntKind.i64 y0 y1 = xorI y0 y1 := rfl
  generalize xorI y0 y1 = x at *
  have hm := tsM_bit key i x hx
  have b0 := r0I_bit key i
  have b1 := r1I_bit key i
  have rq0 := q0I_range p key i hp
  have rq1 := q1I_range p key i hp
  have HL : Hid (tsL p key i x = [(tsM key i x + (1 - 2 * tsM key i x) * q0I p key i) % p, ((1 - 2 * tsM key i x) * q1I p key i) % p]) := rfl
  have x1 : bits BinOp.xor IntKind.i64 x (r0I key i) = xorI x (r0I key i) := rfl
  have x2 : bits BinOp.xor IntKind.i64 (xorI x (r0I key i)) (r1I key i) = tsM key i x := rfl
  have HD1 := Lib.hid (db1_eq key i)
  have HD2 := Lib.hid (db2_eq p key i)
  generalize tsM key i x = m at *
  generalize r0I key i = r0 at *
  generalize r1I key i = r1 at *
  generalize q0I p key i = q0 at *
  generalize q1I p key i = q1 at *
  obtain ⟨rq0, rq0'⟩ := rq0
  obtain ⟨rq1, rq1'⟩ := rq1
  have sg0 := sign_range (p := p) hm rq0 (by omega)
  have sg1 := sign_range (p := p) hm rq1 (by omega)
  obtain ⟨sg0, sg0'⟩ := sg0
  obtain ⟨sg1, sg1'⟩ := sg1
  have m0 : 0 ≤ m := by omega
  have m1 : m ≤ 1 := by omega
  clear hm b0 b1 hx
  go_enter Tryz.func66, Tryz.ntmps66
  go_wp2_with fail
  refine (cvDouble_any _ _ _ _ hp hp2 hk hk2 hi hi2).mono ?_; rintro e w1 ⟨a1, c1, a2, c2, rfl, o1, o2, _, u1⟩
  rw [HD1.out] at o1
  rw [HD2.out] at o2
  obtain ⟨g0, o0, rfl, hc0⟩ := (h.below u1).cells (by omega)
  obtain ⟨g, o, rfl, hc1⟩ := o1.ints.cells (by omega)
  obtain ⟨g', o', rfl, hc2⟩ := o2.ints.cells (by omega)
  have d0 : w1.cell? ⟨g0, o0, none⟩ = some (.int .i64 y0) := hc0 0 (by omega)
  have d1 : w1.cell? ⟨g0, o0 + 1, none⟩ = some (.int .i64 y1) := hc0 1 (by omega)
  have e0 : w1.cell? ⟨g, o, none⟩ = some (.int .i64 r0) := hc1 0 (by omega)
  have e1 : w1.cell? ⟨g, o + 1, none⟩ = some (.int .i64 r1) := hc1 1 (by omega)
  have e2 : w1.cell? ⟨g', o', none⟩ = some (.int .i64 q0) := hc2 0 (by omega)
  have e3 : w1.cell? ⟨g', o' + 1, none⟩ = some (.int .i64 q1) := hc2 1 (by omega)
  clear hc1 hc2 hc0 o1 o2
  go_wp2
  go_quiet (fail)
  have t1 : IntKind.i64.wrap (2 * m) = 2 * m := IntWalk.i64_in _ (by omega)
  have t2 : IntKind.i64.wrap (1 - 2 * m) = 1 - 2 * m := IntWalk.i64_in _ (by omega)
  have t3 : IntKind.i64.wrap ((1 - 2 * m) * q0) = (1 - 2 * m) * q0 := IntWalk.i64_in _ (by omega)
  have t4 : IntKind.i64.wrap (m + (1 - 2 * m) * q0) = m + (1 - 2 * m) * q0 := IntWalk.i64_in _ (by omega)
  have t5 : IntKind.i64.wrap ((1 - 2 * m) * q1) = (1 - 2 * m) * q1 := IntWalk.i64_in _ (by omega)
  have u2 := u1.trans ((below_of_drewN nq).mono u1.size)
  generalize hw2 : w1.drewN nq = w2 at *
  have e2' : w2.cell? ⟨g', o', none⟩ = some (.int .i64 q0) := by rw [← hw2]; exact e2
  have e3' : w2.cell? ⟨g', o' + 1, none⟩ = some (.int .i64 q1) := by rw [← hw2]; exact e3
  clear hw2 e0 e1 e2 e3 u1 x1 x2 x0 d0 d1
  go_wp2
  go_region_held3 (fun W => W.cell? ⟨g', o', none⟩ = some (.int .i64 q0) ∧ W.cell? ⟨g', o' + 1, none⟩ = some (.int .i64 q1))
    (go_keep)
    (first | (go_at_call 70; refine (btMod_same _ _ _ hp (by omega)).mono ?_; rintro e w' ⟨rfl, rfl⟩))
  all_goals go_wp2
  all_goals go_ret2
  all_goals exact ⟨_, _, rfl, by rw [HL.out]; exact (Own.lit2 _ _ _ _ u2.size).drew, (u2.alloc u2.size _).drew⟩
theorem bpairB_true {l : List Int} (h : bpairB l = true) : ∃ y0 y1, l = [y0, y1] ∧ (y0 = 0 ∨ y0 = 1) ∧ (y1 = 0 ∨ y1 = 1) := by
  simp only [bpairB, Bool.and_eq_true, decide_eq_true_eq, allB_iff] at h
  obtain ⟨h1, h2⟩ := h
  match l, h1, h2 with
  | [x, y], _, h2 =>
    have := h2 x (by simp)
    have := h2 y (by simp)
    exact ⟨x, y, rfl, by omega, by omega⟩
end Go.Proofs.YtchmakepglaijaaGreat
namespace Go.Proofs.YtchmakepglaijaaGreat
open Go.RowKit
def sh0 (p key i x : Int) : Int := (tsM key i x + (1 - 2 * tsM key i x) * q0I p key i) % p
def sh1 (p key i x : Int) : Int := ((1 - 2 * tsM key i x) * q1I p key i) % p
theorem tsL_sh (p key i x : Int) : tsL p key i x = [sh0 p key i x, sh1 p key i x] := rfl
theorem mod_range (x p : Int) (h : 1 ≤ p) : 0 ≤ x % p ∧ x % p ≤ p - 1 := ⟨Int.emod_nonneg _ (by omega), by have := Int.emod_lt_of_pos x (by omega : 0 < p); omega⟩
theorem sh0_range (p key i x : Int) (h : 1 ≤ p) : 0 ≤ sh0 p key i x ∧ sh0 p key i x ≤ p - 1 := mod_range _ _ h
theorem sh1_range (p key i x : Int) (h : 1 ≤ p) : 0 ≤ sh1 p key i x ∧ sh1 p key i x ≤ p - 1 := mod_range _ _ h
def acc0 (p key : Int) (u v : List Int) : Nat → Int
  | 0 => 0
  | k + 1 => (acc0 p key u v k + sh0 p key k (xorI (u.getD k 0) (v.getD k 0)) * 2 ^ k) % p
def acc1 (p key : Int) (u v : List Int) : Nat → Int
  | 0 => 0
  | k + 1 => (acc1 p key u v k + sh1 p key k (xorI (u.getD k 0) (v.getD k 0)) * 2 ^ k) % p
def accL (p key : Int) (u v : List Int) : List Int := [acc0 p key u v u.length, acc1 p key u v u.length]
theorem acc0_range (p key : Int) (u v : List Int) (k : Nat) (h : 1 ≤ p) : 0 ≤ acc0 p key u v k ∧ acc0 p key u v k ≤ p - 1 := by
  cases k with
  | zero => simp [acc0]; omega
  | succ k => exact mod_range _ _ h
theorem acc1_range (p key : Int) (u v : List Int) (k : Nat) (h : 1 ≤ p) : 0 ≤ acc1 p key u v k ∧ acc1 p key u v k ≤ p - 1 := by
  cases k with
  | zero => simp [acc1]; omega
  | succ k => exact mod_range _ _ h
theorem pow16 (k : Nat) (h : k < 16) : 1 ≤ (2 : Int) ^ k ∧ (2 : Int) ^ k ≤ 32768 := by
  rcases (by omega : k = 0 ∨ k = 1 ∨ k = 2 ∨ k = 3 ∨ k = 4 ∨ k = 5 ∨ k = 6 ∨ k = 7 ∨ k = 8 ∨ k = 9 ∨ k = 10 ∨ k = 11 ∨ k = 12 ∨ k = 13 ∨ k = 14 ∨ k = 15) with rfl | rfl | rfl | rfl | rfl | rfl | rfl | rfl | rfl | rfl | rfl | rfl | rfl | rfl | rfl | rfl <;> omega
theorem shift_range (q : Int) (k : Nat) (h0 : 0 ≤ q) (h1 : q ≤ 999) (hk : k < 16) : 0 ≤ q * 2 ^ k ∧ q * 2 ^ k ≤ 999 * 32768 := by
  obtain ⟨a, b⟩ := pow16 k hk
  exact ⟨Int.mul_nonneg h0 (by omega), Int.mul_le_mul h1 b (by omega) (by omega)⟩
def bitsB (u v : List Int) : Bool := decide (u.length = v.length) && decide (u.length ≤ 16) && allB u 0 1 && allB v 0 1
set_option maxHeartbeats 4000000 in
set_option maxRecDepth 100000 in
theorem cvAll_any (p key : Int) (a : Option Addr) (n c : Nat) (l : List Int) (a' : Option Addr) (c' : Nat) (l' : List Int) (w : World) (h : Ints w a n c l) (h' : Ints w a' n c' l') (hp : 1 ≤ p) (hp2 : p ≤ 1000) (hk0 : 0 ≤ key) (hk2 : key ≤ 1000000000) (hs : n ≤ 16)
    (hl : ∀ x ∈ l, 0 ≤ x ∧ x ≤ 1) (hl' : ∀ x ∈ l', 0 ≤ x ∧ x ≤ 1) :
    Calls Tryz.prog 45 #[.int .i64 p, .int .i64 key, .slice a n c, .slice a' n c'] w fun e w' => ∃ a1 c1, e = .returned (.slice a1 2 c1) ∧ Own w' w.heap.size a1 2 c1 (accL p key l l') ∧ Below w.heap.size w w' := by
  have HL := Lib.hid hl
  have HL' := Lib.hid hl'
  have HLen := Lib.hid h.len
  have HAcc : Hid (accL p key l l' = [acc0 p key l l' l.length, acc1 p key l l' l.length]) := rfl
  clear hl hl'
  go_enter Tryz.func45, Tryz.ntmps45
  go_wp2
  have own0 : Own (w.alloc (.cells #[.int .i64 0, .int .i64 0] 3)) w.heap.size (some ⟨w.heap.size, 0, none⟩) 2 2 [acc0 p key l l' 0, acc1 p key l l' 0] := Own.lit2 w _ 0 0 (Nat.le_refl _)
  have bel0 := (Below.refl w.heap.size w).alloc (Nat.le_refl _) (.cells #[.int .i64 0, .int .i64 0] 3)
  go_loopw [9, 17] (fun u v wr => ∃ k : Nat, k ≤ n ∧ v = .int .i64 k ∧ Below w.heap.size w wr ∧ ∃ a1 c1, u = .slice a1 2 c1 ∧ Own wr w.heap.size a1 2 c1 [acc0 p key l l' k, acc1 p key l l' k]) (fun _ v _ => n - (intOf v).toNat)
  case atStart => exact ⟨0, by omega, rfl, bel0, _, _, rfl, own0⟩
  case round =>
    obtain ⟨k, hk, rfl, hbel, a1, c1, rfl, own⟩ := hrel
    have h1 := h.below hbel
    have h2 := h'.below hbel
    by_cases hlt : k < n
    · have r1 := getD_range l _ _ HL.out k (by have := HLen.out; omega)
      have r2 := getD_range l' _ _ HL'.out k (by have := h'.len; omega)
      have HS0 : Hid (acc0 p key l l' (k + 1) = (acc0 p key l l' k + sh0 p key k (xorI (l.getD k 0) (l'.getD k 0)) * 2 ^ k) % p) := rfl
      have HS1 : Hid (acc1 p key l l' (k + 1) = (acc1 p key l l' k + sh1 p key k (xorI (l.getD k 0) (l'.getD k 0)) * 2 ^ k) % p) := rfl
      have HG0 := Lib.hid (acc0_range p key l l' k hp)
      have HG1 := Lib.hid (acc1_range p key l l' k hp)
      obtain ⟨g, o, hg, hc⟩ := h1.at k hlt
      obtain ⟨g', o', hg', hc'⟩ := h2.at k hlt
      generalize l.getD k 0 = x at *
      generalize l'.getD k 0 = y at *
      have hx : xorI x y = 0 ∨ xorI x y = 1 := xorI_bit (by omega) (by omega)
      have HC := fun W a c hW => cvToSum_any p key k a c x y W hp hp2 hk0 hk2 (by omega) (by omega) hW hx
      have HQ := Lib.hid (tsL_sh p key k (xorI x y))
      have z0 := sh0_range p key k (xorI x y) hp
      have z1 := sh1_range p key k (xorI x y) hp
      generalize sh0 p key k (xorI x y) = q0 at *
      generalize sh1 p key k (xorI x y) = q1 at *
      obtain ⟨z0, z0'⟩ := z0
      obtain ⟨z1, z1'⟩ := z1
      generalize xorI x y = t at *
      clear r1 r2 hx h1 h2
      subst hg hg'
      go_wp2_with fail
      refine (HC _ _ _ (Ints.lit2 _ _ _ _)).mono ?_; rintro e w1 ⟨a2, c2, rfl, o2, u2⟩
      rw [HQ.out] at o2
      have v2 := (hbel.alloc hbel.size (.cells #[.int .i64 x, .int .i64 y] 3)).trans (u2.mono (by have := hbel.size; simp; omega))
      have own2 := (own.alloc (.cells #[.int .i64 x, .int .i64 y] 3)).below u2
      have sz : w.heap.size ≤ w1.heap.size := v2.size
      clear own hbel u2 hc hc'
      obtain ⟨g3, o3, rfl, hc3⟩ := o2.ints.cells (by omega)
      have e0 : w1.cell? ⟨g3, o3, none⟩ = some (.int .i64 q0) := hc3 0 (by omega)
      have e1 : w1.cell? ⟨g3, o3 + 1, none⟩ = some (.int .i64 q1) := hc3 1 (by omega)
      clear hc3 o2
      have s0 := shift_range q0 k z0 (by omega) (by omega)
      have s1 := shift_range q1 k z1 (by omega) (by omega)
      obtain ⟨s0, s0'⟩ := s0
      obtain ⟨s1, s1'⟩ := s1
      obtain ⟨X0, hX0⟩ : ∃ X, X = q0 * 2 ^ k := ⟨_, rfl⟩
      obtain ⟨X1, hX1⟩ : ∃ X, X = q1 * 2 ^ k := ⟨_, rfl⟩
      rw [← hX0] at s0 s0'
      rw [← hX1] at s1 s1'
      have t0 : IntKind.i64.wrap (q0 * 2 ^ k) = X0 := by rw [← hX0]; exact IntWalk.i64_in _ (by omega)
      have t1 : IntKind.i64.wrap (q1 * 2 ^ k) = X1 := by rw [← hX1]; exact IntWalk.i64_in _ (by omega)
      rw [← hX0] at HS0
      rw [← hX1] at HS1
      clear hX0 hX1
      have t2 : IntKind.u64.wrap (k : Int) = (k : Int) := IntWalk.u64_in _ (by omega)
      have m0 := mod_range X0 p hp
      have m1 := mod_range X1 p hp
      have t3 : X0.tmod p = X0 % p := Int.tmod_eq_emod_of_nonneg s0
      have t4 : X1.tmod p = X1 % p := Int.tmod_eq_emod_of_nonneg s1
      have t5 : IntKind.i64.wrap (X0 % p) = X0 % p := IntWalk.i64_in _ (by omega)
      have t6 : IntKind.i64.wrap (X1 % p) = X1 % p := IntWalk.i64_in _ (by omega)
      have t7 : (p == 0) = false := by simp; omega
      have t8 : (p = 0) = False := by simp; omega
      have HB1 : Hid (∀ x ∈ [acc0 p key l l' k, acc1 p key l l' k], 0 ≤ x ∧ x ≤ 1000000) := Lib.hid (by
        have := HG0.out; have := HG1.out
        intro x hx; simp only [List.mem_cons, List.not_mem_nil, or_false] at hx; rcases hx with rfl | rfl <;> omega)
      have HB2 : Hid (∀ x ∈ [X0 % p, X1 % p], 0 ≤ x ∧ x ≤ 1000000) := Lib.hid (by
        intro x hx; simp only [List.mem_cons, List.not_mem_nil, or_false] at hx; rcases hx with rfl | rfl <;> omega)
      clear m0 m1
      go_wp2
      go_region_held3 (fun W => W.cell? ⟨g3, o3, none⟩ = some (.int .i64 q0) ∧ W.cell? ⟨g3, o3 + 1, none⟩ = some (.int .i64 q1))
        (first | go_keep | exact ⟨keepC u3 (keepA _ e0), keepC u3 (keepA _ e1)⟩)
        (first | (go_at_call 71; refine (trSum_any p a1 2 c1 _ _ 2 2 [X0 % p, X1 % p] _ ((own2.alloc _).drew).ints (Ints.lit2 _ _ _ _) hp (by omega) (by omega) (by omega) HB1.out HB2.out).mono ?_; rintro e w3 ⟨a5, c5, rfl, o5, u3⟩))
      all_goals have b3 : Below w.heap.size w w3 := (v2.alloc v2.size _).drew.trans (u3.mono (by simp; omega))
      all_goals have o6 : Own w3 w.heap.size a5 2 c5 [acc0 p key l l' (k + 1), acc1 p key l l' (k + 1)] := by rw [HS0.out, HS1.out, ← add_mod2 (acc0 p key l l' k) X0 p, ← add_mod2 (acc1 p key l l' k) X1 p]; exact o5.lower (by simp; omega)
      all_goals clear u3 o5 own2 v2
      all_goals go_wp2
      all_goals go_roundw
      case rel => exact ⟨k + 1, by omega, by go_num, b3, a5, c5, rfl, o6⟩
      case measure => simp [intOf]; omega
    · have HE : Hid (l.length = k) := Lib.hid (by have := HLen.out; omega)
      go_wp2
      go_ret
      refine ⟨a1, c1, ?_, ?_, hbel⟩
      · rfl
      · rw [HAcc.out, HE.out]; exact own
def bsB (p key : Int) (u v : List Int) : Bool := isPr p && inB key 0 1000000000 && bitsB u v
def bsL (p key : Int) (u v : List Int) : List Int := if bsB p key u v then accL p key u v else []
theorem bitsB_true {u v : List Int} (h : bitsB u v = true) : u.length = v.length ∧ u.length ≤ 16 ∧ (∀ x ∈ u, 0 ≤ x ∧ x ≤ 1) ∧ ∀ x ∈ v, 0 ≤ x ∧ x ≤ 1 := by
  simp only [bitsB, Bool.and_eq_true, decide_eq_true_eq, allB_iff] at h
  exact ⟨h.1.1.1, h.1.1.2, h.1.2, h.2⟩
set_option maxHeartbeats 4000000 in
set_option maxRecDepth 100000 in
theorem BitsToSum_any (p key : Int) (a : Option Addr) (n c : Nat) (l : List Int) (a' : Option Addr) (n' c' : Nat) (l' : List Int) (w : World) (h : Ints w a n c l) (h' : Ints w a' n' c' l') :
    Calls Tryz.prog 6 #[.int .i64 p, .int .i64 key, .slice a n c, .slice a' n' c'] w fun e w' => ∃ a1 n1 c1, e = .returned (.tuple #[.slice a1 n1 c1, .bool (bsB p key l l')]) ∧ Own w' w.heap.size a1 n1 c1 (bsL p key l l') ∧ Below w.heap.size w w' := by
  unfold bsL bsB bitsB
  have hn := h.le
  have hn' := h'.le
  have HLen := Lib.hid h.len
  have HLen' := Lib.hid h'.len
  cases h1 : isPr p
  · simp only [Bool.false_and, Bool.false_eq_true, if_false]
    clear hn hn'
    go_enter Tryz.func6, Tryz.ntmps6
    go_wp2_with (first | (go_at_call 36; refine (IsPrime_any _ _).mono ?_; rintro e w' ⟨rfl, m, rfl⟩))
    go_ret2
    exact ⟨_, _, _, rfl, Own.nil0 _ _ _, below_of_drewN _⟩
  cases h2 : inB key 0 1000000000
  · simp only [Bool.false_and, Bool.and_false, Bool.false_eq_true, if_false]
    clear hn hn'
    go_enter Tryz.func6, Tryz.ntmps6
    go_wp2_with (first | (go_at_call 36; refine (IsPrime_any _ _).mono ?_; rintro e w' ⟨rfl, m, rfl⟩) | (go_at_call 37; refine (isKey_any _ _).mono ?_; rintro e w' ⟨rfl, rfl⟩))
    go_ret2
    exact ⟨_, _, _, rfl, Own.nil0 _ _ _, below_of_drewN _⟩
  obtain ⟨p1, p2⟩ := isPr_range h1
  obtain ⟨k1, k2⟩ := inB_true h2
  cases h3 : allB l 0 1
  · simp only [Bool.false_and, Bool.and_false, Bool.false_eq_true, if_false]
    clear hn hn'
    go_enter Tryz.func6, Tryz.ntmps6
    go_wp2_with (first | (go_at_call 36; refine (IsPrime_any _ _).mono ?_; rintro e w' ⟨rfl, m, rfl⟩) | (go_at_call 37; refine (isKey_any _ _).mono ?_; rintro e w' ⟨rfl, rfl⟩))
    refine (areBits_any _ _ _ l _ (h.drewN _)).mono ?_; rintro e w1 ⟨rfl, u⟩
    rw [h3]
    have u1 : Below w.heap.size w w1 := (below_of_drewN _).trans (u.mono (by simp))
    go_wp2
    go_ret2
    exact ⟨_, _, _, rfl, Own.nil0 _ _ _, u1⟩
  cases h4 : allB l' 0 1
  · simp only [Bool.and_false, Bool.false_eq_true, if_false]
    clear hn hn'
    go_enter Tryz.func6, Tryz.ntmps6
    go_wp2_with (first | (go_at_call 36; refine (IsPrime_any _ _).mono ?_; rintro e w' ⟨rfl, m, rfl⟩) | (go_at_call 37; refine (isKey_any _ _).mono ?_; rintro e w' ⟨rfl, rfl⟩))
    refine (areBits_any _ _ _ l _ (h.drewN _)).mono ?_; rintro e w1 ⟨rfl, u⟩
    rw [h3]
    have u1 : Below w.heap.size w w1 := (below_of_drewN _).trans (u.mono (by simp))
    clear u
    go_wp2_with fail
    refine (areBits_any _ _ _ l' _ (h'.below u1)).mono ?_; rintro e w2 ⟨rfl, u⟩
    rw [h4]
    have u2 : Below w.heap.size w w2 := u1.trans (u.mono u1.size)
    go_wp2
    go_ret2
    exact ⟨_, _, _, rfl, Own.nil0 _ _ _, u2⟩
  by_cases h5 : n = n'
  · rw [decide_eq_true (show l.length = l'.length by have := h.len; have := h'.len; omega)]
    subst h5
    have e5 : (((n : Int) != (n : Int)) : Bool) = false := by simp
    by_cases h6 : n ≤ 16
    · rw [decide_eq_true (show l.length ≤ 16 by have := h.len; omega)]
      have e6 : (decide ((n : Int) > 16) : Bool) = false := by simp; omega
      simp only [Bool.and_self, if_true]
      have HL : Hid (∀ x ∈ l, 0 ≤ x ∧ x ≤ 1) := Lib.hid ((allB_iff _ _ _).1 h3)
      have HL' : Hid (∀ x ∈ l', 0 ≤ x ∧ x ≤ 1) := Lib.hid ((allB_iff _ _ _).1 h4)
      have HAcc : Hid (accL p key l l' = [acc0 p key l l' l.length, acc1 p key l l' l.length]) := rfl
      go_enter Tryz.func6, Tryz.ntmps6
      go_wp2_with (first | (go_at_call 36; refine (IsPrime_any _ _).mono ?_; rintro e w' ⟨rfl, m, rfl⟩) | (go_at_call 37; refine (isKey_any _ _).mono ?_; rintro e w' ⟨rfl, rfl⟩))
      refine (areBits_any _ _ _ l _ (h.drewN _)).mono ?_; rintro e w1 ⟨rfl, u⟩
      rw [h3]
      have u1 : Below w.heap.size w w1 := (below_of_drewN _).trans (u.mono (by simp))
      clear u
      go_wp2_with fail
      refine (areBits_any _ _ _ l' _ (h'.below u1)).mono ?_; rintro e w2 ⟨rfl, u⟩
      rw [h4]
      have u2 : Below w.heap.size w w2 := u1.trans (u.mono u1.size)
      clear u
      go_wp2
      have own0 : Own (w2.alloc (.cells #[.int .i64 0, .int .i64 0] 3)) w.heap.size (some ⟨w2.heap.size, 0, none⟩) 2 2 [acc0 p key l l' 0, acc1 p key l l' 0] := Own.lit2 w2 _ 0 0 u2.size
      have bel0 := u2.alloc u2.size (.cells #[.int .i64 0, .int .i64 0] 3)
      go_loopw [10, 47] (fun u v wr => ∃ k : Nat, k ≤ n ∧ v = .int .i64 k ∧ Below w.heap.size w wr ∧ ∃ a1 c1, u = .slice a1 2 c1 ∧ Own wr w.heap.size a1 2 c1 [acc0 p key l l' k, acc1 p key l l' k]) (fun _ v _ => n - (intOf v).toNat)
      case atStart => exact ⟨0, by omega, rfl, bel0, _, _, rfl, own0⟩
      case round =>
        obtain ⟨k, hk, rfl, hbel, a1, c1, rfl, own⟩ := hrel
        have h1 := h.below hbel
        have h2 := h'.below hbel
        by_cases hlt : k < n
        · have r1 := getD_range l _ _ HL.out k (by have := HLen.out; omega)
          have r2 := getD_range l' _ _ HL'.out k (by have := HLen'.out; omega)
          have HS0 : Hid (acc0 p key l l' (k + 1) = (acc0 p key l l' k + sh0 p key k (xorI (l.getD k 0) (l'.getD k 0)) * 2 ^ k) % p) := rfl
          have HS1 : Hid (acc1 p key l l' (k + 1) = (acc1 p key l l' k + sh1 p key k (xorI (l.getD k 0) (l'.getD k 0)) * 2 ^ k) % p) := rfl
          have G0 := acc0_range p key l l' k (by omega)
          have G1 := acc1_range p key l l' k (by omega)
          obtain ⟨g, o, hg, hc⟩ := h1.at k hlt
          obtain ⟨g', o', hg', hc'⟩ := h2.at k hlt
          generalize acc0 p key l l' k = A0 at *
          generalize acc1 p key l l' k = A1 at *
          obtain ⟨G0, G0'⟩ := G0
          obtain ⟨G1, G1'⟩ := G1
          generalize l.getD k 0 = x at *
          generalize l'.getD k 0 = y at *
          have hx : xorI x y = 0 ∨ xorI x y = 1 := xorI_bit (by omega) (by omega)
          have x0 : bits BinOp.xor IntKind.i64 x y = xorI x y := rfl
          have HQ := Lib.hid (tsL_sh p key k (xorI x y))
          have z0 := sh0_range p key k (xorI x y) (by omega)
          have z1 := sh1_range p key k (xorI x y) (by omega)
          generalize sh0 p key k (xorI x y) = q0 at *
          generalize sh1 p key k (xorI x y) = q1 at *
          obtain ⟨z0, z0'⟩ := z0
          obtain ⟨z1, z1'⟩ := z1
          generalize xorI x y = t at *
          have HC := fun W => bitToSum_any p key k t W (by omega) (by omega) k1 k2 (by omega) (by omega) hx
          clear r1 r2 hx h1 h2
          subst hg hg'
          go_wp2
          go_region_held3 (fun W => W.cell? ⟨g, o + k, none⟩ = some (.int .i64 x) ∧ W.cell? ⟨g', o' + k, none⟩ = some (.int .i64 y))
            (first | go_keep | exact ⟨keepC u3 hc, keepC u3 hc'⟩)
            (first | (go_at_call 40; refine (HC _).mono ?_; rintro e w3 ⟨a2, c2, rfl, o2, u3⟩))
          rw [HQ.out] at o2
          have v2 := hbel.drew.trans (u3.mono hbel.size)
          have own2 := own.drew.below u3
          have sz : w.heap.size ≤ w3.heap.size := v2.size
          clear own hbel u3 hc hc'
          obtain ⟨g3, o3, rfl, hc3⟩ := o2.ints.cells (by omega)
          have e0 : w3.cell? ⟨g3, o3, none⟩ = some (.int .i64 q0) := hc3 0 (by omega)
          have e1 : w3.cell? ⟨g3, o3 + 1, none⟩ = some (.int .i64 q1) := hc3 1 (by omega)
          clear hc3 o2
          obtain ⟨g4, o4, rfl, hc4⟩ := own2.ints.cells (by omega)
          have f0 : w3.cell? ⟨g4, o4, none⟩ = some (.int .i64 A0) := hc4 0 (by omega)
          have f1 : w3.cell? ⟨g4, o4 + 1, none⟩ = some (.int .i64 A1) := hc4 1 (by omega)
          clear hc4 own2
          have s0 := shift_range q0 k z0 (by omega) (by omega)
          have s1 := shift_range q1 k z1 (by omega) (by omega)
          obtain ⟨s0, s0'⟩ := s0
          obtain ⟨s1, s1'⟩ := s1
          obtain ⟨X0, hX0⟩ : ∃ X, X = q0 * 2 ^ k := ⟨_, rfl⟩
          obtain ⟨X1, hX1⟩ : ∃ X, X = q1 * 2 ^ k := ⟨_, rfl⟩
          rw [← hX0] at s0 s0'
          rw [← hX1] at s1 s1'
          have t0 : IntKind.i64.wrap (q0 * 2 ^ k) = X0 := by rw [← hX0]; exact IntWalk.i64_in _ (by omega)
          have t1 : IntKind.i64.wrap (q1 * 2 ^ k) = X1 := by rw [← hX1]; exact IntWalk.i64_in _ (by omega)
          rw [← hX0] at HS0
          rw [← hX1] at HS1
          clear hX0 hX1
          have t2 : IntKind.u64.wrap (k : Int) = (k : Int) := IntWalk.u64_in _ (by omega)
          have t3 : IntKind.i64.wrap (A0 + X0) = A0 + X0 := IntWalk.i64_in _ (by omega)
          have t4 : IntKind.i64.wrap (A1 + X1) = A1 + X1 := IntWalk.i64_in _ (by omega)
          go_wp2
          go_region_held3 (fun W => W.cell? ⟨g3, o3, none⟩ = some (.int .i64 q0) ∧ W.cell? ⟨g3, o3 + 1, none⟩ = some (.int .i64 q1) ∧ W.cell? ⟨g4, o4, none⟩ = some (.int .i64 A0) ∧ W.cell? ⟨g4, o4 + 1, none⟩ = some (.int .i64 A1))
            (go_keep)
            (first | (go_at_call 41; refine (mod_same _ _ _ (by omega) (by omega)).mono ?_; rintro e w' ⟨rfl, rfl⟩))
          all_goals have b3 := (v2.alloc v2.size (.cells #[.int .i64 ((A0 + X0) % p), .int .i64 ((A1 + X1) % p)] 3)).drew
          all_goals have o6 := (Own.lit2 w3 w.heap.size ((A0 + X0) % p) ((A1 + X1) % p) v2.size).drew
          all_goals clear v2
          all_goals go_wp2
          all_goals go_roundw
          case rel => exact ⟨k + 1, by omega, by go_num, b3, _, _, rfl, by rw [HS0.out, HS1.out]; exact o6⟩
          case measure => simp [intOf]; omega
        · have HE : Hid (l.length = k) := Lib.hid (by have := HLen.out; omega)
          go_wp2
          go_ret2
          refine ⟨a1, 2, c1, ?_, ?_, hbel⟩
          · rfl
          · rw [HAcc.out, HE.out]; exact own
    · rw [decide_eq_false (show ¬ l.length ≤ 16 by have := h.len; omega)]
      have e6 : (decide ((n : Int) > 16) : Bool) = true := by simp; omega
      simp only [Bool.false_and, Bool.and_false, Bool.false_eq_true, if_false]
      go_enter Tryz.func6, Tryz.ntmps6
      go_wp2_with (first | (go_at_call 36; refine (IsPrime_any _ _).mono ?_; rintro e w' ⟨rfl, m, rfl⟩) | (go_at_call 37; refine (isKey_any _ _).mono ?_; rintro e w' ⟨rfl, rfl⟩))
      refine (areBits_any _ _ _ l _ (h.drewN _)).mono ?_; rintro e w1 ⟨rfl, u⟩
      rw [h3]
      have u1 : Below w.heap.size w w1 := (below_of_drewN _).trans (u.mono (by simp))
      clear u
      go_wp2_with fail
      refine (areBits_any _ _ _ l' _ (h'.below u1)).mono ?_; rintro e w2 ⟨rfl, u⟩
      rw [h4]
      have u2 : Below w.heap.size w w2 := u1.trans (u.mono u1.size)
      go_wp2
      go_ret2
      exact ⟨_, _, _, rfl, Own.nil0 _ _ _, u2⟩
  · rw [decide_eq_false (show ¬ l.length = l'.length by have := h.len; have := h'.len; omega)]
    have e5 : (((n : Int) != (n' : Int)) : Bool) = true := by simp; omega
    simp only [Bool.false_and, Bool.and_false, Bool.false_eq_true, if_false]
    clear h5
    go_enter Tryz.func6, Tryz.ntmps6
    go_wp2_with (first | (go_at_call 36; refine (IsPrime_any _ _).mono ?_; rintro e w' ⟨rfl, m, rfl⟩) | (go_at_call 37; refine (isKey_any _ _).mono ?_; rintro e w' ⟨rfl, rfl⟩))
    refine (areBits_any _ _ _ l _ (h.drewN _)).mono ?_; rintro e w1 ⟨rfl, u⟩
    rw [h3]
    have u1 : Below w.heap.size w w1 := (below_of_drewN _).trans (u.mono (by simp))
    clear u
    go_wp2_with fail
    refine (areBits_any _ _ _ l' _ (h'.below u1)).mono ?_; rintro e w2 ⟨rfl, u⟩
    rw [h4]
    have u2 : Below w.heap.size w w2 := u1.trans (u.mono u1.size)
    go_wp2
    go_ret2
    exact ⟨_, _, _, rfl, Own.nil0 _ _ _, u2⟩
set_option maxHeartbeats 1000000 in
theorem cvBits_any (a : Option Addr) (n c : Nat) (l : List Int) (a' : Option Addr) (n' c' : Nat) (l' : List Int) (w : World) (h : Ints w a n c l) (h' : Ints w a' n' c' l') :
    Calls Tryz.prog 44 #[.slice a n c, .slice a' n' c'] w fun e w' => e = .returned (.bool (bitsB l l')) ∧ Below w.heap.size w w' := by
  unfold bitsB
  have hn := h.le
  have hn' := h'.le
  by_cases h5 : n = n'
  · rw [decide_eq_true (show l.length = l'.length by have := h.len; have := h'.len; omega)]
    subst h5
    have e5 : (((n : Int) == (n : Int)) : Bool) = true := by simp
    by_cases h6 : n ≤ 16
    · rw [decide_eq_true (show l.length ≤ 16 by have := h.len; omega)]
      have e6 : (decide ((n : Int) ≤ 16) : Bool) = true := by simp; omega
      simp only [Bool.and_self, Bool.true_and]
      cases h3 : allB l 0 1
      · go_enter Tryz.func44, Tryz.ntmps44
        go_wp2_with fail
        refine (l1All_any _ _ _ l _ _ _ h).mono ?_; rintro e w1 ⟨rfl, q⟩
        rw [h3]
        go_wp2
        go_ret
        exact ⟨rfl, below_of_quiet (by assumption)⟩
      · go_enter Tryz.func44, Tryz.ntmps44
        go_wp2_with fail
        refine (l1All_any _ _ _ l _ _ _ h).mono ?_; rintro e w1 ⟨rfl, q⟩
        rw [h3]
        have u1 := below_of_quiet q
        clear q
        go_wp2_with fail
        refine (l1All_any _ _ _ l' _ _ _ (h'.below u1)).mono ?_; rintro e w2 ⟨rfl, q⟩
        have u2 := u1.trans ((below_of_quiet q).mono u1.size)
        clear q
        go_wp2
        go_ret
        exact ⟨rfl, u2⟩
    · rw [decide_eq_false (show ¬ l.length ≤ 16 by have := h.len; omega)]
      have e6 : (decide ((n : Int) ≤ 16) : Bool) = false := by simp; omega
      simp only [Bool.false_and, Bool.and_false]
      go_enter Tryz.func44, Tryz.ntmps44
      go_wp2
      go_ret
      exact ⟨rfl, Below.refl _ _⟩
  · rw [decide_eq_false (show ¬ l.length = l'.length by have := h.len; have := h'.len; omega)]
    have e5 : (((n : Int) == (n' : Int)) : Bool) = false := by simp; omega
    simp only [Bool.false_and]
    clear h5
    go_enter Tryz.func44, Tryz.ntmps44
    go_wp2
    go_ret
    exact ⟨rfl, Below.refl _ _⟩
def pairSum (p : Int) (x y : List Int) : List Int := [(x.getD 0 0 + y.getD 0 0) % p, (x.getD 1 0 + y.getD 1 0) % p]
def msB (p key : Int) (u v x : List Int) : Bool := bsB p key u v && pairB p x
def msL (p key : Int) (u v x : List Int) : List Int := if msB p key u v x then pairSum p x (accL p key u v) else []
theorem pairB_true {p : Int} {l : List Int} (h : pairB p l = true) : ∃ y0 y1, l = [y0, y1] ∧ (0 ≤ y0 ∧ y0 ≤ p - 1) ∧ (0 ≤ y1 ∧ y1 ≤ p - 1) ∧ isPr p = true := by
  simp only [pairB, Bool.and_eq_true, decide_eq_true_eq] at h
  obtain ⟨h1, h2⟩ := h
  obtain ⟨h3, _, _, h4⟩ := elsB_true h1
  rw [allB_iff] at h4
  match l, h2, h4 with
  | [x, y], _, h4 => exact ⟨x, y, rfl, h4 x (by simp), h4 y (by simp), h3⟩
set_option maxHeartbeats 4000000 in
set_option maxRecDepth 100000 in
theorem MixedSum_any (p key : Int) (a : Option Addr) (n c : Nat) (l : List Int) (a' : Option Addr) (n' c' : Nat) (l' : List Int) (b : Option Addr) (m d : Nat) (x : List Int) (w : World) (h : Ints w a n c l) (h' : Ints w a' n' c' l') (hx : Ints w b m d x) :
    Calls Tryz.prog 23 #[.int .i64 p, .int .i64 key, .slice a n c, .slice a' n' c', .slice b m d] w fun e w' => ∃ a1 n1 c1, e = .returned (.tuple #[.slice a1 n1 c1, .bool (msB p key l l' x)]) ∧ Own w' w.heap.size a1 n1 c1 (msL p key l l' x) ∧ Below w.heap.size w w' := by
  unfold msL msB
  have HB := BitsToSum_any p key a n c l a' n' c' l' w h h'
  unfold bsL at HB
  cases h1 : bsB p key l l'
  · simp only [Bool.false_and, Bool.false_eq_true, if_false]
    rw [h1] at HB
    simp only [Bool.false_eq_true, if_false] at HB
    go_enter Tryz.func23, Tryz.ntmps23
    go_wp2_with fail
    refine HB.mono ?_; rintro e w1 ⟨a1, n1, c1, rfl, o1, u1⟩
    go_wp2
    go_ret2
    exact ⟨_, _, _, rfl, Own.nil0 _ _ _, u1⟩
  rw [h1] at HB
  simp only [if_true] at HB
  cases h2 : pairB p x
  · simp only [Bool.and_false, Bool.false_eq_true, if_false]
    go_enter Tryz.func23, Tryz.ntmps23
    go_wp2_with fail
    refine HB.mono ?_; rintro e w1 ⟨a1, n1, c1, rfl, o1, u1⟩
    go_wp2_with fail
    refine (isPair_any _ _ _ _ x _ (hx.below u1)).mono ?_; rintro e w2 ⟨rfl, u2⟩
    rw [h2]
    have v2 := u1.trans (u2.mono u1.size)
    go_wp2
    go_ret2
    exact ⟨_, _, _, rfl, Own.nil0 _ _ _, v2⟩
  · simp only [Bool.and_self, if_true]
    obtain ⟨x0, x1, rfl, ⟨r0, r0'⟩, ⟨r1, r1'⟩, hp⟩ := pairB_true h2
    obtain ⟨p1, p2⟩ := isPr_range hp
    obtain ⟨A0, A1, hA, ⟨G0, G0'⟩, ⟨G1, G1'⟩⟩ : ∃ A0 A1, accL p key l l' = [A0, A1] ∧ (0 ≤ A0 ∧ A0 ≤ p - 1) ∧ (0 ≤ A1 ∧ A1 ≤ p - 1) := ⟨_, _, rfl, acc0_range _ _ _ _ _ (by omega), acc1_range _ _ _ _ _ (by omega)⟩
    rw [hA] at HB ⊢
    have HP : Hid (pairSum p [x0, x1] [A0, A1] = [(x0 + A0) % p, (x1 + A1) % p]) := rfl
    have t1 : IntKind.i64.wrap (x0 + A0) = x0 + A0 := IntWalk.i64_in _ (by omega)
    have t2 : IntKind.i64.wrap (x1 + A1) = x1 + A1 := IntWalk.i64_in _ (by omega)
    clear hA
    go_enter Tryz.func23, Tryz.ntmps23
    go_wp2_with fail
    refine HB.mono ?_; rintro e w1 ⟨a1, n1, c1, rfl, o1, u1⟩
    have hn1 : n1 = 2 := o1.len
    subst hn1
    go_wp2_with fail
    refine (isPair_any _ _ _ _ [x0, x1] _ (hx.below u1)).mono ?_; rintro e w2 ⟨rfl, u2⟩
    rw [h2]
    have v2 := u1.trans (u2.mono u1.size)
    have hm : m = 2 := hx.len
    subst hm
    obtain ⟨g, o, rfl, hc⟩ := (hx.below v2).cells (by omega)
    have e0 : w2.cell? ⟨g, o, none⟩ = some (.int .i64 x0) := hc 0 (by omega)
    have e1 : w2.cell? ⟨g, o + 1, none⟩ = some (.int .i64 x1) := hc 1 (by omega)
    obtain ⟨g3, o3, rfl, hc3⟩ := (o1.below u2).ints.cells (by omega)
    have f0 : w2.cell? ⟨g3, o3, none⟩ = some (.int .i64 A0) := hc3 0 (by omega)
    have f1 : w2.cell? ⟨g3, o3 + 1, none⟩ = some (.int .i64 A1) := hc3 1 (by omega)
    clear hc hc3 o1 u1 u2 HB
    have hlit := Ints.lit2 w2 ((x0 + A0) % p) ((x1 + A1) % p) 3
    go_wp2
    go_region_held3 (fun W => W.cell? ⟨g, o, none⟩ = some (.int .i64 x0) ∧ W.cell? ⟨g, o + 1, none⟩ = some (.int .i64 x1) ∧ W.cell? ⟨g3, o3, none⟩ = some (.int .i64 A0) ∧ W.cell? ⟨g3, o3 + 1, none⟩ = some (.int .i64 A1))
      (first | go_keep | exact ⟨keepC u5 (keepA _ e0), keepC u5 (keepA _ e1), keepC u5 (keepA _ f0), keepC u5 (keepA _ f1)⟩)
      (first | (go_at_call 41; refine (mod_same _ _ _ (by omega) (by omega)).mono ?_; rintro e w' ⟨rfl, rfl⟩) | (go_at_call 73; refine (Clone_any _ 2 2 [(x0 + A0) % p, (x1 + A1) % p] _ hlit.drew (by omega)).mono ?_; rintro e w5 ⟨a5, c5, rfl, o5, u5⟩))
    all_goals go_wp2
    all_goals go_ret2
    all_goals exact ⟨_, _, _, rfl, by rw [HP.out]; exact o5.lower (by have := v2.size; simp; omega), (v2.alloc v2.size _).drew.trans (u5.mono (by have := v2.size; simp; omega))⟩
set_option maxHeartbeats 4000000 in
set_option maxRecDepth 100000 in
theorem spec_MixedSum_any (p key : Int) (a : Option Addr) (n c : Nat) (l : List Int) (a' : Option Addr) (n' c' : Nat) (l' : List Int) (b : Option Addr) (m d : Nat) (x : List Int) (w : World) (h : Ints w a n c l) (h' : Ints w a' n' c' l') (hx : Ints w b m d x) :
    Calls Tryz.prog 24 #[.int .i64 p, .int .i64 key, .slice a n c, .slice a' n' c', .slice b m d] w fun e w' => ∃ a1 n1 c1, e = .returned (.tuple #[.slice a1 n1 c1, .bool (msB p key l l' x)]) ∧ Own w' w.heap.size a1 n1 c1 (msL p key l l' x) ∧ Below w.heap.size w w' := by
  have HM : Hid (msB p key l l' x = (pairB p x && inB key 0 1000000000 && bitsB l l')) := Lib.hid (by
    unfold msB bsB
    cases h2 : pairB p x
    · simp
    · obtain ⟨_, _, _, _, _, hp⟩ := pairB_true h2
      rw [hp]; simp)
  unfold msL
  rw [HM.out]
  cases h2 : pairB p x
  · simp only [Bool.false_and, Bool.false_eq_true, if_false]
    go_enter Tryz.func24, Tryz.ntmps24
    go_wp2_with fail
    refine (trPair_any _ _ _ _ x _ hx).mono ?_; rintro e w2 ⟨rfl, u2⟩
    rw [h2]
    go_wp2
    go_ret2
    exact ⟨_, _, _, rfl, Own.nil0 _ _ _, u2⟩
  cases h3 : inB key 0 1000000000
  · simp only [Bool.false_and, Bool.and_false, Bool.false_eq_true, if_false]
    go_enter Tryz.func24, Tryz.ntmps24
    go_wp2_with fail
    refine (trPair_any _ _ _ _ x _ hx).mono ?_; rintro e w2 ⟨rfl, u2⟩
    rw [h2]
    go_wp2_with (first | (go_at_call 43; refine (otKey_any _ _).mono ?_; rintro e w' ⟨rfl, rfl⟩))
    go_ret2
    exact ⟨_, _, _, rfl, Own.nil0 _ _ _, u2⟩
  cases h4 : bitsB l l'
  · simp only [Bool.and_false, Bool.false_eq_true, if_false]
    go_enter Tryz.func24, Tryz.ntmps24
    go_wp2_with fail
    refine (trPair_any _ _ _ _ x _ hx).mono ?_; rintro e w2 ⟨rfl, u2⟩
    rw [h2]
    go_wp2_with (first | (go_at_call 43; refine (otKey_any _ _).mono ?_; rintro e w' ⟨rfl, rfl⟩))
    refine (cvBits_any _ _ _ l _ _ _ l' _ (h.below u2) (h'.below u2)).mono ?_; rintro e w1 ⟨rfl, u⟩
    rw [h4]
    have u1 := u2.trans (u.mono u2.size)
    go_wp2
    go_ret2
    exact ⟨_, _, _, rfl, Own.nil0 _ _ _, u1⟩
  · simp only [Bool.and_self, if_true]
    obtain ⟨b1, b2, b3, b4⟩ := bitsB_true h4
    obtain ⟨k1, k2⟩ := inB_true h3
    obtain ⟨x0, x1, rfl, ⟨r0, r0'⟩, ⟨r1, r1'⟩, hp⟩ := pairB_true h2
    obtain ⟨p1, p2⟩ := isPr_range hp
    have hn : n' = n := by have := h.len; have := h'.len; omega
    subst hn
    have HC := fun W hW hW' => cvAll_any p key a n' c l a' c' l' W hW hW' (by omega) (by omega) k1 k2 (by have := h.len; omega) b3 b4
    have HT := fun W a' n c' l' hW hW' (hn : 2 ≤ n) hl' => trSum_any p b m d [x0, x1] a' n c' l' W hW hW' (by omega) (by omega) (by have := hx.len; simp at this; omega) (by have := hx.len; simp at this; omega) (by intro y hy; simp only [List.mem_cons, List.not_mem_nil, or_false] at hy; rcases hy with rfl | rfl <;> omega) hl'
    have HG : Hid (∀ y ∈ accL p key l l', 0 ≤ y ∧ y ≤ 1000000) := Lib.hid (by
      have G0 := acc0_range p key l l' l.length (by omega)
      have G1 := acc1_range p key l l' l.length (by omega)
      intro y hy; simp only [accL, List.mem_cons, List.not_mem_nil, or_false] at hy; rcases hy with rfl | rfl <;> omega)
    have hm : m = 2 := hx.len
    subst hm
    clear b1 b2 b3 b4
    go_enter Tryz.func24, Tryz.ntmps24
    go_wp2_with fail
    refine (trPair_any _ _ _ _ [x0, x1] _ hx).mono ?_; rintro e w2 ⟨rfl, u2⟩
    rw [h2]
    go_wp2_with (first | (go_at_call 43; refine (otKey_any _ _).mono ?_; rintro e w' ⟨rfl, rfl⟩))
    refine (cvBits_any _ _ _ l _ _ _ l' _ (h.below u2) (h'.below u2)).mono ?_; rintro e w1 ⟨rfl, u⟩
    rw [h4]
    have u1 := u2.trans (u.mono u2.size)
    clear u u2
    go_wp2_with fail
    refine (HC _ (h.below u1) (h'.below u1)).mono ?_; rintro e w3 ⟨a2, c2, rfl, o2, u⟩
    have u3 := u1.trans (u.mono u1.size)
    clear u u1
    go_wp2_with fail
    refine (HT _ _ _ _ (accL p key l l') (hx.below u3) o2.ints (by omega) HG.out).mono ?_; rintro e w4 ⟨a4, c4, rfl, o4, u⟩
    have u4 := u3.trans (u.mono u3.size)
    go_wp2
    go_ret2
    exact ⟨_, _, _, rfl, o4.lower u3.size, u4⟩
end Go.Proofs.YtchmakepglaijaaGreat
namespace Go.Proofs.YtchmakepglaijaaGreat
open Go.RowKit
theorem xor_sign {x n : Int} (hx : x = 0 ∨ x = 1) (hn : n = 0 ∨ n = 1) : xorI x n + (1 - 2 * xorI x n) * n = x := by
  rcases hx with rfl | rfl <;> rcases hn with rfl | rfl <;> decide
theorem xor_mask {x a b : Int} (hx : x = 0 ∨ x = 1) (ha : a = 0 ∨ a = 1) (hb : b = 0 ∨ b = 1) : xorI (xorI x b) (xorI a b) = xorI x a := by
  rcases hx with rfl | rfl <;> rcases ha with rfl | rfl <;> rcases hb with rfl | rfl <;> decide
theorem q_cg (p key i : Int) : Cg p (q0I p key i + q1I p key i) (dbB key i 0) := by
  unfold q0I q1I
  exact ((Cg.refl p _).add (Cg.emod p _)).trans (Cg.of_eq (by omega))
theorem ts_cg (p key i x : Int) (hx : x = 0 ∨ x = 1) : Cg p (sh0 p key i x + sh1 p key i x) x := by
  have hm : tsM key i x = xorI x (dbB key i 0) := xor_mask hx (dbB_bit key i 0 (by decide)) (dbB_bit key i 1 (by decide))
  unfold sh0 sh1
  rw [hm]
  have hs := xor_sign hx (dbB_bit key i 0 (by decide))
  have hq := q_cg p key i
  generalize xorI x (dbB key i 0) = m at *
  generalize dbB key i 0 = n at *
  refine ((Cg.emod p _).add (Cg.emod p _)).trans (Cg.trans ?_ (Cg.of_eq hs))
  have e : m + (1 - 2 * m) * q0I p key i + (1 - 2 * m) * q1I p key i = m + (1 - 2 * m) * (q0I p key i + q1I p key i) := by grind
  rw [e]
  exact (Cg.refl p _).add ((Cg.refl p _).mul hq)
def vb (u v : List Int) : Nat → Int
  | 0 => 0
  | k + 1 => vb u v k + xorI (u.getD k 0) (v.getD k 0) * 2 ^ k
def Bt' (l : List Int) : Prop := ∀ i, l.getD i 0 = 0 ∨ l.getD i 0 = 1
theorem bt'_of {l : List Int} (h : ∀ x ∈ l, 0 ≤ x ∧ x ≤ 1) : Bt' l := fun i => by
  by_cases hi : i < l.length
  · have := h _ (getD_mem l i hi); omega
  · left; simp [List.getD, Nat.not_lt.1 hi]
theorem vb_rng {u v : List Int} (hu : Bt' u) (hv : Bt' v) : ∀ k, 0 ≤ vb u v k ∧ vb u v k < 2 ^ k
  | 0 => by simp [vb]
  | k + 1 => by
    have h := vb_rng hu hv k
    rw [vb, Int.pow_succ]
    rcases xorI_bit (hu k) (hv k) with e | e <;> rw [e] <;> omega
theorem acc_cg (p key : Int) {u v : List Int} (hu : Bt' u) (hv : Bt' v) : ∀ k, Cg p (acc0 p key u v k + acc1 p key u v k) (vb u v k)
  | 0 => Cg.refl _ _
  | k + 1 => by
    have ih := acc_cg p key hu hv k
    have hs := ts_cg p key (k : Int) _ (xorI_bit (hu k) (hv k))
    rw [acc0, acc1, vb]
    refine ((Cg.emod p _).add (Cg.emod p _)).trans ?_
    generalize acc0 p key u v k = a at *
    generalize acc1 p key u v k = b at *
    generalize sh0 p key (k : Int) (xorI (u.getD k 0) (v.getD k 0)) = s at *
    generalize sh1 p key (k : Int) (xorI (u.getD k 0) (v.getD k 0)) = t at *
    have e : a + s * 2 ^ k + (b + t * 2 ^ k) = (a + b) + (s + t) * 2 ^ k := by grind
    rw [e]
    exact ih.add (hs.mul (Cg.refl p _))
theorem bs_law {p key : Int} {u v : List Int} (h : bsB p key u v = true) : u.length = v.length ∧ u.length ≤ 16 ∧ Bt' u ∧ Bt' v ∧ bsL p key u v = [acc0 p key u v u.length, acc1 p key u v u.length] ∧ (2 ≤ p ∧ p ≤ 251) ∧
    (0 ≤ acc0 p key u v u.length ∧ acc0 p key u v u.length ≤ p - 1) ∧ (0 ≤ acc1 p key u v u.length ∧ acc1 p key u v u.length ≤ p - 1) ∧ vb u v u.length % p = (acc0 p key u v u.length + acc1 p key u v u.length) % p := by
  have e : bsL p key u v = accL p key u v := if_pos h
  unfold bsB at h
  simp only [Bool.and_eq_true] at h
  obtain ⟨h1, h2, h3, h4⟩ := bitsB_true h.2
  have hp := isPr_range h.1.1
  exact ⟨h1, h2, bt'_of h3, bt'_of h4, e, hp, acc0_range _ _ _ _ _ (by omega), acc1_range _ _ _ _ _ (by omega), (acc_cg p key (bt'_of h3) (bt'_of h4) _).eq.symm⟩
end Go.Proofs.YtchmakepglaijaaGreat
namespace Go.Proofs.YtchmakepglaijaaGreat
open Go.RowKit
theorem two_at {w : World} {a : Option Addr} {n c : Nat} {x y : Int} (h : Ints w a n c [x, y]) : n = 2 ∧ ∃ g o, a = some ⟨g, o, none⟩ ∧ w.cell? ⟨g, o, none⟩ = some (.int .i64 x) ∧ w.cell? ⟨g, o + 1, none⟩ = some (.int .i64 y) := by
  have hn : n = 2 := h.len
  obtain ⟨g, o, e, hc⟩ := h.cells (by omega)
  have h0 := hc 0 (by omega)
  have h1 := hc 1 (by omega)
  exact ⟨hn, g, o, e, by simpa using h0, by simpa using h1⟩
theorem qSum_two (a : Option Addr) (n c : Nat) (x y : Int) (w : World) (h : Ints w a n c [x, y]) (h0 : 0 ≤ x ∧ x ≤ 1000) (h1 : 0 ≤ y ∧ y ≤ 1000) :
    Calls Tryz.prog 17 #[.slice a n c] w fun e w' => e = .returned (.int .i64 (x + y)) ∧ ∃ m, w' = w.drewN m := by
  obtain ⟨rfl, g, o, rfl, c0, c1⟩ := two_at h
  clear h
  go_enter Tryz.func17, Tryz.ntmps17
  go_wp2
  go_loopw [8, 3] (fun v u wr => ∃ k : Nat, k ≤ 2 ∧ v = .int .i64 k ∧ u = .int .i64 (if k = 0 then 0 else if k = 1 then x else x + y) ∧ ∃ m, wr = w.drewN m) (fun v _ _ => 2 - (intOf v).toNat)
  case atStart => exact ⟨0, by omega, rfl, rfl, 0, rfl⟩
  case round =>
    obtain ⟨k, hk, rfl, rfl, m, rfl⟩ := hrel
    rcases (by omega : k = 0 ∨ k = 1 ∨ k = 2) with rfl | rfl | rfl
    · have t0 : IntKind.i64.wrap (0 + x) = x := by rw [Int.zero_add]; exact IntWalk.i64_in _ (by omega)
      go_wp2
      go_roundw
      case rel => exact ⟨1, by omega, rfl, rfl, m, rfl⟩
      case measure => simp [intOf]
    · have t0 : IntKind.i64.wrap (x + y) = x + y := IntWalk.i64_in _ (by omega)
      go_wp2
      go_roundw
      case rel => exact ⟨2, by omega, rfl, rfl, m, rfl⟩
      case measure => simp [intOf]
    · go_wp2
      go_ret
      exact ⟨rfl, m, rfl⟩
theorem vb_succ (u v : List Int) (k : Nat) : vb u v (k + 1) = vb u v k + xorI (u.getD k 0) (v.getD k 0) * 2 ^ k := rfl
end Go.Proofs.YtchmakepglaijaaGreat
