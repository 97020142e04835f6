/- The shares of all inputs. -/
import Derived.Test.YthpcmbdkboajcaaAsked
namespace Go.Proofs.Ythpcmbdkboajcaa
open Go.RowKit

theorem keepB {B : Nat} {w w' : World} {p : Addr} {v : Value} (u : Below B w w') (hb : p.block < B) (h : w.cell? p = some v) : w'.cell? p = some v := (u.cell hb).trans h
/-- The own numbers, and what the other party has. -/
def isN (P key : Int) (i : Nat) : Int := numI [key, (i : Int), 72] P
theorem isN_rng (P key : Int) (i : Nat) (h : 1 ≤ P) : 0 ≤ isN P key i ∧ isN P key i ≤ P - 1 := numI_range _ _ h
def isF (P key : Int) (k : Nat) : List Int := (List.range k).map (isN P key)
def isS (P key : Int) (V : List Int) (k : Nat) : List Int := (List.range k).map fun i => (V.getD i 0 - isN P key i) % P
theorem isF_succ (P key : Int) (k : Nat) : isF P key (k + 1) = isF P key k ++ [isN P key k] := by simp [isF, List.range_succ]
theorem isS_succ (P key : Int) (V : List Int) (k : Nat) : isS P key V (k + 1) = isS P key V k ++ [(V.getD k 0 - isN P key k) % P] := by simp [isS, List.range_succ]
theorem isF_len (P key : Int) (k : Nat) : (isF P key k).length = k := by simp [isF]
theorem isS_len (P key : Int) (V : List Int) (k : Nat) : (isS P key V k).length = k := by simp [isS]
theorem isF_rng (P key : Int) (k : Nat) (h : 1 ≤ P) : ∀ x ∈ isF P key k, 0 ≤ x ∧ x ≤ P - 1 := fun x hx => by
  obtain ⟨i, _, rfl⟩ := List.mem_map.1 hx
  exact isN_rng P key i h
theorem isS_rng (P key : Int) (V : List Int) (k : Nat) (h : 1 ≤ P) : ∀ x ∈ isS P key V k, 0 ≤ x ∧ x ≤ P - 1 := fun x hx => by
  obtain ⟨i, _, rfl⟩ := List.mem_map.1 hx
  exact mod_rng _ _ h
set_option maxHeartbeats 8000000 in
set_option maxRecDepth 100000 in
theorem inputShares_any (P i0 i1 : Int) (ga : Option Addr) (gn gc : Nat) (oa : Option Addr) (on oc : Nat) (key : Int) (aa : Option Addr) (an ac : Nat) (A : List Int) (ba : Option Addr) (bn bc : Nat) (B : List Int) (w : World) (hA : Ints w aa an ac A) (hB : Ints w ba bn bc B)
    (hp : 1 ≤ P) (hp2 : P ≤ 1000) (hk : 0 ≤ key) (hk2 : key ≤ 1000000000) (sa : an ≤ 8) (sb : bn ≤ 8) (ha : ∀ x ∈ A, 0 ≤ x ∧ x ≤ P - 1) (hb : ∀ x ∈ B, 0 ≤ x ∧ x ≤ P - 1) :
    Calls Try.prog 85 #[.agg #[.int .i64 P, .int .i64 i0, .int .i64 i1, .slice ga gn gc, .slice oa on oc], .int .i64 key, .slice aa an ac, .slice ba bn bc] w fun e w' => ∃ a1 c1 a2 c2, e = .returned (.tuple #[.slice a1 (an + bn) c1, .slice a2 (an + bn) c2]) ∧ Own w' w.heap.size a1 (an + bn) c1 (isF P key (an + bn)) ∧ Own w' w.heap.size a2 (an + bn) c2 (isS P key (A ++ B) (an + bn)) ∧ Disj (foot a1 c1) (foot a2 c2) ∧ Below w.heap.size w w' := by
  have hv : ∀ x ∈ A ++ B, 0 ≤ x ∧ x ≤ P - 1 := fun x hx => by
    rcases List.mem_append.1 hx with h | h
    · exact ha x h
    · exact hb x h
  have HV := Lib.hid hv
  have HLN : Hid ((A ++ B).length = an + bn) := Lib.hid (by rw [List.length_append, ← hA.len, ← hB.len])
  clear hv ha hb
  have W0 : Below w.heap.size w ((((w.alloc (.cells #[.int .i64 P, .int .i64 i0, .int .i64 i1, .slice ga gn gc, .slice oa on oc] 41))).alloc (.cells #[] 3)).alloc (.cells #[] 3)) := (((Below.refl _ _).alloc (Nat.le_refl _) _).alloc (by simp) _).alloc (by simp; omega) _
  have B0 : Blk ((((w.alloc (.cells #[.int .i64 P, .int .i64 i0, .int .i64 i1, .slice ga gn gc, .slice oa on oc] 41))).alloc (.cells #[] 3)).alloc (.cells #[] 3)) w.heap.size 41 #[.int .i64 P, .int .i64 i0, .int .i64 i1, .slice ga gn gc, .slice oa on oc] := ((Blk.new w _ _).alloc _).alloc _
  go_enter Try.func85, Try.ntmps85
  go_wp2_with fail
  have S0 : w.heap.size < ((((w.alloc (.cells #[.int .i64 P, .int .i64 i0, .int .i64 i1, .slice ga gn gc, .slice oa on oc] 41))).alloc (.cells #[] 3)).alloc (.cells #[] 3)).heap.size := by simp; omega
  generalize ((((w.alloc (.cells #[.int .i64 P, .int .i64 i0, .int .i64 i1, .slice ga gn gc, .slice oa on oc] 41))).alloc (.cells #[] 3)).alloc (.cells #[] 3)) = w0 at *
  refine (with_any _ _ _ A _ _ _ B _ (hA.below W0) (hB.below W0) (by omega) (by omega)).mono ?_; rintro e w2 ⟨va, vc, rfl, ov, u⟩
  have V2 := W0.trans (u.mono W0.size)
  have B2 := B0.below u
  have hs2 : w.heap.size < w2.heap.size := Nat.lt_of_lt_of_le S0 u.size
  have hV := ov.ints
  clear u W0 B0 S0 ov
  obtain ⟨V, hvl⟩ : ∃ V, A ++ B = V := ⟨_, rfl⟩
  rw [hvl] at hV HV HLN
  have HVL := Lib.hid hvl
  clear hvl
  have hvn := hV.le
  go_wp2
  go_loopw [21, 10, 11] (fun v f s wr => ∃ k : Nat, k ≤ an + bn ∧ v = .int .i64 k ∧ Below w2.heap.size w2 wr ∧ ∃ a1 c1 a2 c2, f = .slice a1 k c1 ∧ s = .slice a2 k c2 ∧ Own wr w2.heap.size a1 k c1 (isF P key k) ∧ Own wr w2.heap.size a2 k c2 (isS P key V k) ∧ Disj (foot a1 c1) (foot a2 c2)) (fun v _ _ _ => (an + bn) - (intOf v).toNat)
  case atStart => exact ⟨0, Nat.zero_le _, rfl, Below.refl _ _, _, _, _, _, rfl, rfl, Own.nil0 _ _ _, Own.nil0 _ _ _, fun k hk => by simp [foot, rowOf] at hk⟩
  case round =>
    obtain ⟨k, hkn, rfl, hbel, a1, c1, a2, c2, rfl, rfl, o1, o2, hd⟩ := hrel
    have HD := Lib.hid hd
    clear hd
    by_cases hlt : k < an + bn
    · have rx := getD_rng HV.out k (by rw [HLN.out]; exact hlt)
      have HF := Lib.hid (isF_succ P key k)
      have HS := Lib.hid (isS_succ P key V k)
      have HN : Hid (numI [key, (k : Int), 72] P = isN P key k) := rfl
      have rn := isN_rng P key k hp
      obtain ⟨g, o, rfl, hcell⟩ := (hV.below hbel).at k hlt
      generalize V.getD k 0 = x at *
      obtain ⟨nn, hnn⟩ : ∃ x, isN P key k = x := ⟨_, rfl⟩
      rw [hnn] at rn
      have HNN := Lib.hid hnn
      clear hnn
      have x0 : wr.cell? ⟨w.heap.size, 0, none⟩ = some (.int .i64 P) := (B2.below hbel).cell 0
      have x0' := keepA (.cells #[.int .i64 key, .int .i64 k, .int .i64 72] 3) x0
      have t1 : IntKind.i64.wrap (x - nn) = x - nn := IntWalk.i64_in _ (by omega)
      go_wp2_with fail
      refine (numberFrom_any _ _ _ [key, (k : Int), 72] _ _ (Ints.lit _ [key, (k : Int), 72] _ (by simp [maxLen])) (by simp) (WB.cons (by omega) (WB.two (by omega) (by omega))) hp (by omega)).mono ?_; rintro e w3 ⟨rfl, u3⟩
      rw [HN.out, HNN.out]
      have v3 := below_a1 u3
      have p1 := o1.below v3
      have p2 := o2.below v3
      have b3 := hbel.trans (v3.mono hbel.size)
      have y0 := keepC v3 x0
      have s3 := b3.size
      clear u3 v3 o1 o2 hbel x0 x0' hcell
      go_wp2
      go_region_held3 (fun W => W.cell? ⟨w.heap.size, 0, none⟩ = some (.int .i64 P))
        (first | go_keep | exact keepB u6 (by omega) (keepA _ (keepB u5 (by omega) (keepA _ y0))) | exact keepB u5 (by omega) (keepA _ y0) | exact keepA _ (keepB u5 (by omega) (keepA _ y0)))
        (first | (go_at_call 59; refine (mod_same _ _ _ hp (by omega)).mono ?_; rintro e w' ⟨rfl, rfl⟩) | (have _ := o5; refine step_appJ _ (by rfl) _ _ (by rfl) w2.heap.size a2 k c2 (isS P key V k) (by rfl) (((p2.alloc _).drew.only (Only.of_grown g5) HD.out.symm).alloc _) _ 1 1 [(x - nn) % P] (by rfl) (Ints.lit1 _ _ _) (by omega) (by have := u5.size; simp at *; omega) ?_; intro a6 c6 w5 o6 u6 g6 hold6 m6) | (refine step_appJ _ (by rfl) _ _ (by rfl) w2.heap.size a1 k c1 (isF P key k) (by rfl) (p1.alloc _).drew _ 1 1 [nn] (by rfl) (Ints.lit1 _ _ _).drew (by omega) (by simp; omega) ?_; intro a5 c5 w4 o5 u5 g5 hold5 m5))
      have D5 := m5.disj HD.out (fun q hq => by have := (p2.feet q hq).2; simp; omega)
      have q1 := (o5.alloc (.cells #[.int .i64 ((x - nn) % P)] 3)).only (Only.of_grown g6) D5
      have D6 := (m6.disj D5.symm (fun q hq => by have := (o5.feet q hq).2; simp; omega)).symm
      have b4 := ((b3.alloc b3.size _).drew).trans u5
      have b5 := (b4.alloc b4.size _).trans u6
      have HDD := Lib.hid D6
      rw [← HNN.out, ← HF.out] at q1
      rw [← HNN.out, ← HS.out] at o6
      clear D5 D6 m5 m6 g5 g6 u5 u6 o5 hold5 hold6 p1 p2 b3 b4 y0 t1
      go_wp2
      go_roundw
      case rel => exact ⟨k + 1, by omega, by go_num, b5, a5, c5, a6, c6, rfl, rfl, q1, o6, HDD.out⟩
      case measure => simp [intOf]; omega
    · obtain rfl : k = an + bn := by omega
      go_wp2
      go_ret2
      exact ⟨_, _, _, _, rfl, o1.lower (Nat.le_of_lt hs2), by rw [HVL.out]; exact o2.lower (Nat.le_of_lt hs2), HD.out, V2.trans (hbel.mono V2.size)⟩
def ssL (p kk : Int) (l l' : List Int) (k : Nat) : List Int := (List.range k).map fun i => (l.getD i 0 + kk * l'.getD i 0) % p
theorem ssL_succ (p kk : Int) (l l' : List Int) (k : Nat) : ssL p kk l l' (k + 1) = ssL p kk l l' k ++ [(l.getD k 0 + kk * l'.getD k 0) % p] := by simp [ssL, List.range_succ]
set_option maxHeartbeats 8000000 in
set_option maxRecDepth 100000 in
theorem shSum_any (p kk : Int) (a : Option Addr) (n c : Nat) (l : List Int) (a' : Option Addr) (n' c' : Nat) (l' : List Int) (w : World) (h : Ints w a n c l) (h' : Ints w a' n' c' l') (hp : 1 ≤ p) (hp2 : p ≤ 1000) (hn : n ≤ n') (hs : n ≤ 100000)
    (hl : ∀ x ∈ l, 0 ≤ x ∧ x ≤ p - 1) (hl' : ∀ x ∈ l', 0 ≤ x ∧ x ≤ p - 1) (hk : -1 ≤ kk) (hk2 : kk ≤ 1) :
    Calls Try.prog 102 #[.int .i64 p, .slice a n c, .slice a' n' c', .int .i64 kk] w fun e w' => ∃ a1 c1, e = .returned (.slice a1 n c1) ∧ Own w' w.heap.size a1 n c1 (ssL p kk l l' n) ∧ Below w.heap.size w w' := by
  have HL := Lib.hid hl
  have HL' := Lib.hid hl'
  have hln := h.le
  have hln' := h'.le
  clear hl hl'
  go_enter Try.func102, Try.ntmps102
  go_wp2
  go_loopw [14, 9] (fun v u wr => ∃ k : Nat, k ≤ n ∧ v = .int .i64 k ∧ Below w.heap.size w wr ∧ ∃ a1 c1, u = .slice a1 k c1 ∧ Own wr w.heap.size a1 k c1 (ssL p kk l l' k)) (fun v _ _ => n - (intOf v).toNat)
  case atStart => exact ⟨0, Nat.zero_le _, rfl, Below.refl _ _, _, _, rfl, Own.nil0 _ _ _⟩
  case round =>
    obtain ⟨k, hkn, rfl, hbel, a1, c1, rfl, own⟩ := hrel
    by_cases hlt : k < n
    · have rx := getD_rng HL.out k (by have := h.len; omega)
      have ry := getD_rng HL'.out k (by have := h'.len; omega)
      have HS := Lib.hid (ssL_succ p kk l l' k)
      obtain ⟨g, o, rfl, e0⟩ := (h.below hbel).at k hlt
      obtain ⟨g', o', rfl, e1⟩ := (h'.below hbel).at k (by omega)
      have hlt' : k < n' := by omega
      generalize l.getD k 0 = x at *
      generalize l'.getD k 0 = y at *
      obtain ⟨X, hX⟩ : ∃ X, X = kk * y := ⟨_, rfl⟩
      have rX : -1000 ≤ X ∧ X ≤ 1000 := by
        have : kk = -1 ∨ kk = 0 ∨ kk = 1 := by omega
        rcases this with h | h | h <;> subst h <;> omega
      rw [← hX] at HS
      have t1 : wrap64 (kk * y) = X := by rw [← hX]; exact IntWalk.wrap64_in (by omega) (by omega)
      have t2 : IntKind.i64.wrap (kk * y) = X := by rw [← hX]; exact IntWalk.i64_in _ (by omega)
      clear hX
      go_wp2_with fail
      refine (btMod_same _ _ _ hp (by omega)).mono ?_; rintro e w' ⟨rfl, rfl⟩
      go_wp2_with (at_builtin; refine wpList_appI _ rfl _ _ rfl w.heap.size a1 k c1 (ssL p kk l l' k) rfl (own.alloc _) _ 1 1 [(x + X) % p] rfl (Ints.lit1 _ _ _) (by omega) (by have := hbel.size; simp; omega) ?_)
      intro a5 c5 w3 o5 u5 _
      rw [← HS.out] at o5
      have b3 := (hbel.alloc hbel.size _).trans u5
      clear u5 hbel own t1 t2
      go_wp2
      go_roundw
      case rel => exact ⟨k + 1, by omega, by go_num, b3, a5, c5, rfl, o5⟩
      case measure => simp [intOf]; omega
    · obtain rfl : k = n := by omega
      go_wp2
      go_ret
      exact ⟨_, _, rfl, own, hbel⟩
theorem ssL_isS (P key : Int) (V : List Int) (n : Nat) : ssL P (-1) V (isF P key n) n = isS P key V n := by
  unfold ssL isS
  apply List.map_congr_left
  intro i hi
  have hi' : i < n := List.mem_range.1 hi
  have e : (isF P key n).getD i 0 = isN P key i := by simp [isF, List.getD, hi']
  rw [e]
  congr 1
  omega
set_option maxHeartbeats 8000000 in
set_option maxRecDepth 100000 in
theorem smInputs_any (P i0 i1 : Int) (ga : Option Addr) (gn gc : Nat) (oa : Option Addr) (on oc : Nat) (key : Int) (va : Option Addr) (vn vc : Nat) (V : List Int) (w : World) (hV : Ints w va vn vc V)
    (hp : 1 ≤ P) (hp2 : P ≤ 1000) (hk : 0 ≤ key) (hk2 : key ≤ 1000000000) (sv : vn ≤ 16) (hv : ∀ x ∈ V, 0 ≤ x ∧ x ≤ P - 1) :
    Calls Try.prog 86 #[.agg #[.int .i64 P, .int .i64 i0, .int .i64 i1, .slice ga gn gc, .slice oa on oc], .int .i64 key, .slice va vn vc] w fun e w' => ∃ a1 c1 a2 c2, e = .returned (.tuple #[.slice a1 vn c1, .slice a2 vn c2]) ∧ Own w' w.heap.size a1 vn c1 (isF P key vn) ∧ Own w' w.heap.size a2 vn c2 (isS P key V vn) ∧ Disj (foot a1 c1) (foot a2 c2) ∧ Below w.heap.size w w' := by
  have HV := Lib.hid hv
  clear hv
  have V0 : Below w.heap.size w (w.alloc (.cells #[.int .i64 P, .int .i64 i0, .int .i64 i1, .slice ga gn gc, .slice oa on oc] 41)) := (Below.refl _ _).alloc (Nat.le_refl _) _
  have B0 : Blk (w.alloc (.cells #[.int .i64 P, .int .i64 i0, .int .i64 i1, .slice ga gn gc, .slice oa on oc] 41)) w.heap.size 41 #[.int .i64 P, .int .i64 i0, .int .i64 i1, .slice ga gn gc, .slice oa on oc] := Blk.new w _ _
  have S0 : w.heap.size < (w.alloc (.cells #[.int .i64 P, .int .i64 i0, .int .i64 i1, .slice ga gn gc, .slice oa on oc] 41)).heap.size := by simp
  have hvn := hV.le
  go_enter Try.func86, Try.ntmps86
  go_wp2
  generalize (w.alloc (.cells #[.int .i64 P, .int .i64 i0, .int .i64 i1, .slice ga gn gc, .slice oa on oc] 41)) = w0 at *
  go_loopw [12, 8] (fun v u wr => ∃ k : Nat, k ≤ vn ∧ v = .int .i64 k ∧ Below w0.heap.size w0 wr ∧ ∃ a1 c1, u = .slice a1 k c1 ∧ Own wr w0.heap.size a1 k c1 (isF P key k)) (fun v _ _ => vn - (intOf v).toNat)
  case atStart => exact ⟨0, Nat.zero_le _, rfl, Below.refl _ _, _, _, rfl, Own.nil0 _ _ _⟩
  case round =>
    obtain ⟨k, hkn, rfl, hbel, a1, c1, rfl, o1⟩ := hrel
    by_cases hlt : k < vn
    · have HF := Lib.hid (isF_succ P key k)
      have HN : Hid (numI [key, (k : Int), 72] P = isN P key k) := rfl
      have x0 : wr.cell? ⟨w.heap.size, 0, none⟩ = some (.int .i64 P) := (B0.below hbel).cell 0
      have x0' := keepA (.cells #[.int .i64 key, .int .i64 k, .int .i64 72] 3) x0
      go_wp2_with fail
      refine (dgBelow_any _ _ _ [key, (k : Int), 72] _ _ (Ints.lit _ [key, (k : Int), 72] _ (by simp [maxLen])) (by simp) (WB.cons (by omega) (WB.two (by omega) (by omega))) hp (by omega)).mono ?_; rintro e w3 ⟨rfl, u3⟩
      rw [HN.out]
      have v3 := below_a1 u3
      have p1 := o1.below v3
      have b3 := hbel.trans (v3.mono hbel.size)
      clear u3 v3 o1 hbel x0 x0'
      go_wp2_with (at_builtin; refine wpList_appI _ rfl _ _ rfl w0.heap.size a1 k c1 (isF P key k) rfl (p1.alloc _) _ 1 1 [isN P key k] rfl (Ints.lit1 _ _ _) (by omega) (by have := b3.size; simp; omega) ?_)
      intro a5 c5 w4 o5 u5 _
      rw [← HF.out] at o5
      have b4 := (b3.alloc b3.size _).trans u5
      clear u5 b3 p1
      go_wp2
      go_roundw
      case rel => exact ⟨k + 1, by omega, by go_num, b4, a5, c5, rfl, o5⟩
      case measure => simp [intOf]; omega
    · obtain rfl : k = vn := by omega
      have x0 : wr.cell? ⟨w.heap.size, 0, none⟩ = some (.int .i64 P) := (B0.below hbel).cell 0
      have VV := V0.trans (hbel.mono V0.size)
      go_wp2_with fail
      refine (shSum_any P (-1) _ _ _ V _ _ _ (isF P key k) _ (hV.below VV) o1.ints hp hp2 (Nat.le_refl _) (by omega) HV.out (isF_rng P key k hp) (by omega) (by omega)).mono ?_; rintro e w5 ⟨a5, c5, rfl, o5, u5⟩
      rw [ssL_isS] at o5
      have q1 := o1.below u5
      have D := Disj.of_rng o1.feet o5.feet (Or.inl (Nat.le_refl _))
      have V5 := VV.trans (u5.mono VV.size)
      have h5 : w.heap.size ≤ wr.heap.size := VV.size
      have HD := Lib.hid D
      clear D x0
      go_wp2
      go_ret2
      exact ⟨_, _, _, _, rfl, q1.lower (Nat.le_of_lt S0), o5.lower h5, HD.out, V5⟩
def isL1 (P i0 i1 : Int) (gn : Nat) (G O : List Int) (key : Int) (A B : List Int) : List Int := if asB P i0 i1 gn G O key A B then isF P key (A.length + B.length) else []
def isL2 (P i0 i1 : Int) (gn : Nat) (G O : List Int) (key : Int) (A B : List Int) : List Int := if asB P i0 i1 gn G O key A B then isS P key (A ++ B) (A.length + B.length) else []
theorem asB_len {P i0 i1 : Int} {gn : Nat} {G O : List Int} {key : Int} {A B : List Int} (h : asB P i0 i1 gn G O key A B = true) : A.length ≤ 8 ∧ B.length ≤ 8 := by
  obtain ⟨h1, _, _, _, h5, h6, _⟩ := asB_true h
  obtain ⟨r0, r1, _⟩ := arB_all h1
  omega
theorem isL1_len (P i0 i1 : Int) (gn : Nat) (G O : List Int) (key : Int) (A B : List Int) : (isL1 P i0 i1 gn G O key A B).length ≤ 1000000 := by
  unfold isL1
  split
  · rename_i h; have := asB_len h; rw [isF_len]; omega
  · simp
theorem isL2_len (P i0 i1 : Int) (gn : Nat) (G O : List Int) (key : Int) (A B : List Int) : (isL2 P i0 i1 gn G O key A B).length ≤ 1000000 := by
  unfold isL2
  split
  · rename_i h; have := asB_len h; rw [isS_len]; omega
  · simp
theorem disj_nil0 (a : Option Addr) (F : List Nat) : Disj (foot a 0) F := fun k hk => by simp [foot, rowOf] at hk
theorem ciJoin_any (a : Option Addr) (n c : Nat) (l : List Int) (a' : Option Addr) (n' c' : Nat) (l' : List Int) (w : World) (h : Ints w a n c l) (h' : Ints w a' n' c' l') (hs : n ≤ 10000000) (hs' : n' ≤ 10000000) :
    Calls Try.prog 73 #[.slice a n c, .slice a' n' c'] w fun e w' => ∃ a2 c2, e = .returned (.slice a2 (n + n') c2) ∧ Own w' w.heap.size a2 (n + n') c2 (l ++ l') ∧ Below w.heap.size w w' := by
  go_enter Try.func73, Try.ntmps73
  go_wp2_with fail
  refine (l1Own_any _ _ _ l _ h hs).mono ?_; rintro e w1 ⟨a1, c1, rfl, o1, u1⟩
  go_wp2_with (at_builtin; refine wpList_appI _ rfl _ _ rfl w.heap.size a1 n c1 l rfl o1 _ n' c' l' rfl (h'.below u1) (by omega) u1.size ?_)
  intro a5 c5 w3 o5 u5 _
  have v5 := u1.trans u5
  go_wp2
  go_ret
  exact ⟨_, _, rfl, o5, v5⟩
set_option maxHeartbeats 8000000 in
set_option maxRecDepth 100000 in
theorem InputShares_any (P i0 i1 : Int) (ga : Option Addr) (gn gc : Nat) (G : List Int) (oa : Option Addr) (on oc : Nat) (O : List Int) (key : Int) (aa : Option Addr) (an ac : Nat) (A : List Int) (ba : Option Addr) (bn bc : Nat) (B : List Int) (w : World) (hG : Flat 3 w ga gn gc G) (hO : Ints w oa on oc O) (hA : Ints w aa an ac A) (hB : Ints w ba bn bc B) :
    Calls Try.prog 36 #[.agg #[.int .i64 P, .int .i64 i0, .int .i64 i1, .slice ga gn gc, .slice oa on oc], .int .i64 key, .slice aa an ac, .slice ba bn bc] w fun e w' => ∃ a1 n1 c1 a2 n2 c2, e = .returned (.tuple #[.slice a1 n1 c1, .slice a2 n2 c2, .bool (asB P i0 i1 gn G O key A B)]) ∧ Own w' w.heap.size a1 n1 c1 (isL1 P i0 i1 gn G O key A B) ∧ Own w' w.heap.size a2 n2 c2 (isL2 P i0 i1 gn G O key A B) ∧ Disj (foot a1 c1) (foot a2 c2) ∧ Below w.heap.size w w' := by
  have V0 : Below w.heap.size w (w.alloc (.cells #[.int .i64 P, .int .i64 i0, .int .i64 i1, .slice ga gn gc, .slice oa on oc] 41)) := (Below.refl _ _).alloc (Nat.le_refl _) _
  have B0 : Blk (w.alloc (.cells #[.int .i64 P, .int .i64 i0, .int .i64 i1, .slice ga gn gc, .slice oa on oc] 41)) w.heap.size 41 #[.int .i64 P, .int .i64 i0, .int .i64 i1, .slice ga gn gc, .slice oa on oc] := Blk.new w _ _
  unfold isL1 isL2
  cases h1 : asB P i0 i1 gn G O key A B
  · simp only [Bool.false_eq_true, if_false]
    go_enter Try.func36, Try.ntmps36
    go_wp2_with fail
    generalize (w.alloc (.cells #[.int .i64 P, .int .i64 i0, .int .i64 i1, .slice ga gn gc, .slice oa on oc] 41)) = w0 at *
    refine (areArithInputs_any _ _ _ _ _ _ G _ _ _ O _ _ _ _ A _ _ _ B _ (hG.below V0) (hO.below V0) (hA.below V0) (hB.below V0)).mono ?_; rintro e w1 ⟨rfl, u⟩
    rw [h1]
    have V1 := V0.trans (u.mono V0.size)
    have B1 := B0.below u
    clear u V0 B0
    go_wp2
    go_ret3
    exact ⟨_, _, _, _, _, _, rfl, Own.nil0 _ _ _, Own.nil0 _ _ _, disj_nil0 _ _, V1⟩
  simp only [if_true]
  obtain ⟨l1, l2⟩ := asB_len h1
  obtain ⟨hr, ⟨k0, k1⟩, ha, hb, _, _, hpr⟩ := asB_true h1
  obtain ⟨p1, p2⟩ := isPr_range hpr
  clear hr
  rw [← hA.len] at l1 ⊢
  rw [← hB.len] at l2 ⊢
  have HAA := Lib.hid ha
  have HBB := Lib.hid hb
  clear ha hb
  go_enter Try.func36, Try.ntmps36
  go_wp2_with fail
  generalize (w.alloc (.cells #[.int .i64 P, .int .i64 i0, .int .i64 i1, .slice ga gn gc, .slice oa on oc] 41)) = w0 at *
  refine (areArithInputs_any _ _ _ _ _ _ G _ _ _ O _ _ _ _ A _ _ _ B _ (hG.below V0) (hO.below V0) (hA.below V0) (hB.below V0)).mono ?_; rintro e w1 ⟨rfl, u⟩
  rw [h1]
  have V1 := V0.trans (u.mono V0.size)
  have B1 := B0.below u
  clear u V0 B0
  have x0 : w1.cell? ⟨w.heap.size, 0, none⟩ = some (.int .i64 P) := B1.cell 0
  have x1 : w1.cell? ⟨w.heap.size, 1, none⟩ = some (.int .i64 i0) := B1.cell 1
  have x2 : w1.cell? ⟨w.heap.size, 2, none⟩ = some (.int .i64 i1) := B1.cell 2
  have x3 : w1.cell? ⟨w.heap.size, 3, none⟩ = some (.slice ga gn gc) := B1.cell 3
  have x4 : w1.cell? ⟨w.heap.size, 4, none⟩ = some (.slice oa on oc) := B1.cell 4
  go_wp2_with fail
  refine (inputShares_any _ _ _ _ _ _ _ _ _ _ _ _ _ A _ _ _ B _ (hA.below V1) (hB.below V1) (by omega) (by omega) k0 k1 l1 l2 HAA.out HBB.out).mono ?_; rintro e w2 ⟨b1, d1, b2, d2, rfl, o1, o2, D, u⟩
  have HD := Lib.hid D
  clear D x0 x1 x2 x3 x4
  go_wp2
  go_ret3
  exact ⟨_, _, _, _, _, _, rfl, o1.lower V1.size, o2.lower V1.size, HD.out, V1.trans (u.mono V1.size)⟩
set_option maxHeartbeats 8000000 in
set_option maxRecDepth 100000 in
theorem spec_InputShares_any (P i0 i1 : Int) (ga : Option Addr) (gn gc : Nat) (G : List Int) (oa : Option Addr) (on oc : Nat) (O : List Int) (key : Int) (aa : Option Addr) (an ac : Nat) (A : List Int) (ba : Option Addr) (bn bc : Nat) (B : List Int) (w : World) (hG : Flat 3 w ga gn gc G) (hO : Ints w oa on oc O) (hA : Ints w aa an ac A) (hB : Ints w ba bn bc B) :
    Calls Try.prog 37 #[.agg #[.int .i64 P, .int .i64 i0, .int .i64 i1, .slice ga gn gc, .slice oa on oc], .int .i64 key, .slice aa an ac, .slice ba bn bc] w fun e w' => ∃ a1 n1 c1 a2 n2 c2, e = .returned (.tuple #[.slice a1 n1 c1, .slice a2 n2 c2, .bool (asB P i0 i1 gn G O key A B)]) ∧ Own w' w.heap.size a1 n1 c1 (isL1 P i0 i1 gn G O key A B) ∧ Own w' w.heap.size a2 n2 c2 (isL2 P i0 i1 gn G O key A B) ∧ Disj (foot a1 c1) (foot a2 c2) ∧ Below w.heap.size w w' := by
  have V0 : Below w.heap.size w (w.alloc (.cells #[.int .i64 P, .int .i64 i0, .int .i64 i1, .slice ga gn gc, .slice oa on oc] 41)) := (Below.refl _ _).alloc (Nat.le_refl _) _
  have B0 : Blk (w.alloc (.cells #[.int .i64 P, .int .i64 i0, .int .i64 i1, .slice ga gn gc, .slice oa on oc] 41)) w.heap.size 41 #[.int .i64 P, .int .i64 i0, .int .i64 i1, .slice ga gn gc, .slice oa on oc] := Blk.new w _ _
  unfold isL1 isL2
  cases h1 : asB P i0 i1 gn G O key A B
  · simp only [Bool.false_eq_true, if_false]
    go_enter Try.func37, Try.ntmps37
    go_wp2_with fail
    generalize (w.alloc (.cells #[.int .i64 P, .int .i64 i0, .int .i64 i1, .slice ga gn gc, .slice oa on oc] 41)) = w0 at *
    refine (smAsked_any _ _ _ _ _ _ G _ _ _ O _ _ _ _ A _ _ _ B _ (hG.below V0) (hO.below V0) (hA.below V0) (hB.below V0)).mono ?_; rintro e w1 ⟨rfl, u⟩
    rw [h1]
    have V1 := V0.trans (u.mono V0.size)
    have B1 := B0.below u
    clear u V0 B0
    go_wp2
    go_ret3
    exact ⟨_, _, _, _, _, _, rfl, Own.nil0 _ _ _, Own.nil0 _ _ _, disj_nil0 _ _, V1⟩
  simp only [if_true]
  obtain ⟨l1, l2⟩ := asB_len h1
  obtain ⟨hr, ⟨k0, k1⟩, ha, hb, _, _, hpr⟩ := asB_true h1
  obtain ⟨p1, p2⟩ := isPr_range hpr
  clear hr
  rw [← hA.len] at l1 ⊢
  rw [← hB.len] at l2 ⊢
  have HAA := Lib.hid ha
  have HBB := Lib.hid hb
  clear ha hb
  have hv : ∀ x ∈ A ++ B, 0 ≤ x ∧ x ≤ P - 1 := fun x hx => by
    rcases List.mem_append.1 hx with h | h
    · exact HAA.out x h
    · exact HBB.out x h
  have HV := Lib.hid hv
  clear hv
  go_enter Try.func37, Try.ntmps37
  go_wp2_with fail
  generalize (w.alloc (.cells #[.int .i64 P, .int .i64 i0, .int .i64 i1, .slice ga gn gc, .slice oa on oc] 41)) = w0 at *
  refine (smAsked_any _ _ _ _ _ _ G _ _ _ O _ _ _ _ A _ _ _ B _ (hG.below V0) (hO.below V0) (hA.below V0) (hB.below V0)).mono ?_; rintro e w1 ⟨rfl, u⟩
  rw [h1]
  have V1 := V0.trans (u.mono V0.size)
  have B1 := B0.below u
  clear u V0 B0
  have x0 : w1.cell? ⟨w.heap.size, 0, none⟩ = some (.int .i64 P) := B1.cell 0
  have x1 : w1.cell? ⟨w.heap.size, 1, none⟩ = some (.int .i64 i0) := B1.cell 1
  have x2 : w1.cell? ⟨w.heap.size, 2, none⟩ = some (.int .i64 i1) := B1.cell 2
  have x3 : w1.cell? ⟨w.heap.size, 3, none⟩ = some (.slice ga gn gc) := B1.cell 3
  have x4 : w1.cell? ⟨w.heap.size, 4, none⟩ = some (.slice oa on oc) := B1.cell 4
  go_wp2
  go_region_held3 (fun W => W.cell? ⟨w.heap.size, 0, none⟩ = some (.int .i64 P) ∧ W.cell? ⟨w.heap.size, 1, none⟩ = some (.int .i64 i0) ∧ W.cell? ⟨w.heap.size, 2, none⟩ = some (.int .i64 i1) ∧ W.cell? ⟨w.heap.size, 3, none⟩ = some (.slice ga gn gc) ∧ W.cell? ⟨w.heap.size, 4, none⟩ = some (.slice oa on oc))
    (first | go_keep | exact ⟨keepC u3 (keepC u2 x0), keepC u3 (keepC u2 x1), keepC u3 (keepC u2 x2), keepC u3 (keepC u2 x3), keepC u3 (keepC u2 x4)⟩ | exact ⟨keepC u2 x0, keepC u2 x1, keepC u2 x2, keepC u2 x3, keepC u2 x4⟩)
    (first | (go_at_call 73; refine (ciJoin_any _ _ _ A _ _ _ B _ (hA.below V1).drew (hB.below V1).drew (by omega) (by omega)).mono ?_; rintro e w2 ⟨va, vc, rfl, ov, u2⟩) | (go_at_call 86; refine (smInputs_any _ _ _ _ _ _ _ _ _ _ _ _ _ (A ++ B) _ ov.ints (by omega) (by omega) k0 k1 (by omega) HV.out).mono ?_; rintro e w3 ⟨b1, d1, b2, d2, rfl, o1, o2, D, u3⟩))
  all_goals have HD := Lib.hid D
  all_goals clear D x0 x1 x2 x3 x4
  all_goals have s2 : w.heap.size ≤ w2.heap.size := Nat.le_trans V1.size u2.size
  all_goals have u4 : Below w1.heap.size w1 w3 := (Below.refl _ _).drew.trans (u2.trans (u3.mono u2.size))
  all_goals clear u2 u3 ov
  all_goals go_wp2
  all_goals go_ret3
  all_goals exact ⟨_, _, _, _, _, _, rfl, o1.lower s2, o2.lower s2, HD.out, V1.trans (u4.mono V1.size)⟩
end Go.Proofs.Ythpcmbdkboajcaa
