/- The shares of all inputs. -/
import Derived.Test.YtjnblfnfegjbfaaAsked
namespace Go.Proofs.Ytjnblfnfegjbfaa
open Go.RowKit

theorem keepB {B : Nat} {w w' : World} {p : Addr} {v : Value} (u : Below B w w') (hb : p.block < B) (h : w.cell? p = some v) : w'.cell? p = some v := (u.cell hb).trans h
/-- The own numbers, and what the other party has. -/
def isN (P key : Int) (i : Nat) : Int := numI [key, (i : Int), 72] P
theorem isN_rng (P key : Int) (i : Nat) (h : 1 ≤ P) : 0 ≤ isN P key i ∧ isN P key i ≤ P - 1 := numI_range _ _ h
def isF (P key : Int) (k : Nat) : List Int := (List.range k).map (isN P key)
def isS (P key : Int) (V : List Int) (k : Nat) : List Int := (List.range k).map fun i => (V.getD i 0 - isN P key i) % P
theorem isF_succ (P key : Int) (k : Nat) : isF P key (k + 1) = isF P key k ++ [isN P key k] := by simp [isF, List.range_succ]
theorem isS_succ (P key : Int) (V : List Int) (k : Nat) : isS P key V (k + 1) = isS P key V k ++ [(V.getD k 0 - isN P key k) % P] := by simp [isS, List.range_succ]
theorem isF_len (P key : Int) (k : Nat) : (isF P key k).length = k := by simp [isF]
theorem isS_len (P key : Int) (V : List Int) (k : Nat) : (isS P key V k).length = k := by simp [isS]
theorem isF_rng (P key : Int) (k : Nat) (h : 1 ≤ P) : ∀ x ∈ isF P key k, 0 ≤ x ∧ x ≤ P - 1 := fun x hx => by
  obtain ⟨i, _, rfl⟩ := List.mem_map.1 hx
  exact isN_rng P key i h
theorem isS_rng (P key : Int) (V : List Int) (k : Nat) (h : 1 ≤ P) : ∀ x ∈ isS P key V k, 0 ≤ x ∧ x ≤ P - 1 := fun x hx => by
  obtain ⟨i, _, rfl⟩ := List.mem_map.1 hx
  exact mod_rng _ _ h
set_option maxHeartbeats 8000000 in
set_option maxRecDepth 100000 in
theorem inputShares_any (P i0 i1 : Int) (ga : Option Addr) (gn gc : Nat) (oa : Option Addr) (on oc : Nat) (key : Int) (aa : Option Addr) (an ac : Nat) (A : List Int) (ba : Option Addr) (bn bc : Nat) (B : List Int) (w : World) (hA : Ints w aa an ac A) (hB : Ints w ba bn bc B)
    (hp : 1 ≤ P) (hp2 : P ≤ 1000) (hk : 0 ≤ key) (hk2 : key ≤ 1000000000) (sa : an ≤ 8) (sb : bn ≤ 8) (ha : ∀ x ∈ A, 0 ≤ x ∧ x ≤ P - 1) (hb : ∀ x ∈ B, 0 ≤ x ∧ x ≤ P - 1) :
    Calls Try.prog 77 #[.agg #[.int .i64 P, .int .i64 i0, .int .i64 i1, .slice ga gn gc, .slice oa on oc], .int .i64 key, .slice aa an ac, .slice ba bn bc] w fun e w' => ∃ a1 c1 a2 c2, e = .returned (.tuple #[.slice a1 (an + bn) c1, .slice a2 (an + bn) c2]) ∧ Own w' w.heap.size a1 (an + bn) c1 (isF P key (an + bn)) ∧ Own w' w.heap.size a2 (an + bn) c2 (isS P key (A ++ B) (an + bn)) ∧ Disj (foot a1 c1) (foot a2 c2) ∧ Below w.heap.size w w' := by
  have hv : ∀ x ∈ A ++ B, 0 ≤ x ∧ x ≤ P - 1 := fun x hx => by
    rcases List.mem_append.1 hx with h | h
    · exact ha x h
    · exact hb x h
  have HV := Lib.hid hv
  have HLN : Hid ((A ++ B).length = an + bn) := Lib.hid (by rw [List.length_append, ← hA.len, ← hB.len])
  clear hv ha hb
  have W0 : Below w.heap.size w ((((w.alloc (.cells #[.int .i64 P, .int .i64 i0, .int .i64 i1, .slice ga gn gc, .slice oa on oc] 31))).alloc (.cells #[] 3)).alloc (.cells #[] 3)) := (((Below.refl _ _).alloc (Nat.le_refl _) _).alloc (by simp) _).alloc (by simp; omega) _
  have B0 : Blk ((((w.alloc (.cells #[.int .i64 P, .int .i64 i0, .int .i64 i1, .slice ga gn gc, .slice oa on oc] 31))).alloc (.cells #[] 3)).alloc (.cells #[] 3)) w.heap.size 31 #[.int .i64 P, .int .i64 i0, .int .i64 i1, .slice ga gn gc, .slice oa on oc] := ((Blk.new w _ _).alloc _).alloc _
  go_enter Try.func77, Try.ntmps77
  go_wp2_with fail
  have S0 : w.heap.size < ((((w.alloc (.cells #[.int .i64 P, .int .i64 i0, .int .i64 i1, .slice ga gn gc, .slice oa on oc] 31))).alloc (.cells #[] 3)).alloc (.cells #[] 3)).heap.size := by simp; omega
  generalize ((((w.alloc (.cells #[.int .i64 P, .int .i64 i0, .int .i64 i1, .slice ga gn gc, .slice oa on oc] 31))).alloc (.cells #[] 3)).alloc (.cells #[] 3)) = w0 at *
  refine (with_any _ _ _ A _ _ _ B _ (hA.below W0) (hB.below W0) (by omega) (by omega)).mono ?_; rintro e w2 ⟨va, vc, rfl, ov, u⟩
  have V2 := W0.trans (u.mono W0.size)
  have B2 := B0.below u
  have hs2 : w.heap.size < w2.heap.size := Nat.lt_of_lt_of_le S0 u.size
  have hV := ov.ints
  clear u W0 B0 S0 ov
  obtain ⟨V, hvl⟩ : ∃ V, A ++ B = V := ⟨_, rfl⟩
  rw [hvl] at hV HV HLN
  have HVL := Lib.hid hvl
  clear hvl
  have hvn := hV.le
  go_wp2
  go_loopw [21, 10, 11] (fun v f s wr => ∃ k : Nat, k ≤ an + bn ∧ v = .int .i64 k ∧ Below w2.heap.size w2 wr ∧ ∃ a1 c1 a2 c2, f = .slice a1 k c1 ∧ s = .slice a2 k c2 ∧ Own wr w2.heap.size a1 k c1 (isF P key k) ∧ Own wr w2.heap.size a2 k c2 (isS P key V k) ∧ Disj (foot a1 c1) (foot a2 c2)) (fun v _ _ _ => (an + bn) - (intOf v).toNat)
  case atStart => exact ⟨0, Nat.zero_le _, rfl, Below.refl _ _, _, _, _, _, rfl, rfl, Own.nil0 _ _ _, Own.nil0 _ _ _, fun k hk => by simp [foot, rowOf] at hk⟩
  case round =>
    obtain ⟨k, hkn, rfl, hbel, a1, c1, a2, c2, rfl, rfl, o1, o2, hd⟩ := hrel
    have HD := Lib.hid hd
    clear hd
    by_cases hlt : k < an + bn
    · have rx := getD_rng HV.out k (by rw [HLN.out]; exact hlt)
      have HF := Lib.hid (isF_succ P key k)
      have HS := Lib.hid (isS_succ P key V k)
      have HN : Hid (numI [key, (k : Int), 72] P = isN P key k) := rfl
      have rn := isN_rng P key k hp
      obtain ⟨g, o, rfl, hcell⟩ := (hV.below hbel).at k hlt
      generalize V.getD k 0 = x at *
      obtain ⟨nn, hnn⟩ : ∃ x, isN P key k = x := ⟨_, rfl⟩
      rw [hnn] at rn
      have HNN := Lib.hid hnn
      clear hnn
      have x0 : wr.cell? ⟨w.heap.size, 0, none⟩ = some (.int .i64 P) := (B2.below hbel).cell 0
      have x0' := keepA (.cells #[.int .i64 key, .int .i64 k, .int .i64 72] 3) x0
      have t1 : IntKind.i64.wrap (x - nn) = x - nn := IntWalk.i64_in _ (by omega)
      go_wp2_with fail
      refine (numberFrom_any _ _ _ [key, (k : Int), 72] _ _ (Ints.lit _ [key, (k : Int), 72] _ (by simp [maxLen])) (by simp) (WB.cons (by omega) (WB.two (by omega) (by omega))) hp (by omega)).mono ?_; rintro e w3 ⟨rfl, u3⟩
      rw [HN.out, HNN.out]
      have v3 := below_a1 u3
      have p1 := o1.below v3
      have p2 := o2.below v3
      have b3 := hbel.trans (v3.mono hbel.size)
      have y0 := keepC v3 x0
      have s3 := b3.size
      clear u3 v3 o1 o2 hbel x0 x0' hcell
      go_wp2
      go_region_held3 (fun W => W.cell? ⟨w.heap.size, 0, none⟩ = some (.int .i64 P))
        (first | go_keep | exact keepB u6 (by omega) (keepA _ (keepB u5 (by omega) (keepA _ y0))) | exact keepB u5 (by omega) (keepA _ y0) | exact keepA _ (keepB u5 (by omega) (keepA _ y0)))
        (first | (go_at_call 96; refine (mod_same _ _ _ hp (by omega)).mono ?_; rintro e w' ⟨rfl, rfl⟩) | (have _ := o5; refine step_appJ _ (by rfl) _ _ (by rfl) w2.heap.size a2 k c2 (isS P key V k) (by rfl) (((p2.alloc _).drew.only (Only.of_grown g5) HD.out.symm).alloc _) _ 1 1 [(x - nn) % P] (by rfl) (Ints.lit1 _ _ _) (by omega) (by have := u5.size; simp at *; omega) ?_; intro a6 c6 w5 o6 u6 g6 hold6 m6) | (refine step_appJ _ (by rfl) _ _ (by rfl) w2.heap.size a1 k c1 (isF P key k) (by rfl) (p1.alloc _).drew _ 1 1 [nn] (by rfl) (Ints.lit1 _ _ _).drew (by omega) (by simp; omega) ?_; intro a5 c5 w4 o5 u5 g5 hold5 m5))
      have D5 := m5.disj HD.out (fun q hq => by have := (p2.feet q hq).2; simp; omega)
      have q1 := (o5.alloc (.cells #[.int .i64 ((x - nn) % P)] 3)).only (Only.of_grown g6) D5
      have D6 := (m6.disj D5.symm (fun q hq => by have := (o5.feet q hq).2; simp; omega)).symm
      have b4 := ((b3.alloc b3.size _).drew).trans u5
      have b5 := (b4.alloc b4.size _).trans u6
      have HDD := Lib.hid D6
      rw [← HNN.out, ← HF.out] at q1
      rw [← HNN.out, ← HS.out] at o6
      clear D5 D6 m5 m6 g5 g6 u5 u6 o5 hold5 hold6 p1 p2 b3 b4 y0 t1
      go_wp2
      go_roundw
      case rel => exact ⟨k + 1, by omega, by go_num, b5, a5, c5, a6, c6, rfl, rfl, q1, o6, HDD.out⟩
      case measure => simp [intOf]; omega
    · obtain rfl : k = an + bn := by omega
      go_wp2
      go_ret2
      exact ⟨_, _, _, _, rfl, o1.lower (Nat.le_of_lt hs2), by rw [HVL.out]; exact o2.lower (Nat.le_of_lt hs2), HD.out, V2.trans (hbel.mono V2.size)⟩
def ssL (p kk : Int) (l l' : List Int) (k : Nat) : List Int := (List.range k).map fun i => (l.getD i 0 + kk * l'.getD i 0) % p
theorem ssL_succ (p kk : Int) (l l' : List Int) (k : Nat) : ssL p kk l l' (k + 1) = ssL p kk l l' k ++ [(l.getD k 0 + kk * l'.getD k 0) % p] := by simp [ssL, List.range_succ]
set_option maxHeartbeats 8000000 in
set_option maxRecDepth 100000 in
theorem shSum_any (p kk : Int) (a : Option Addr) (n c : Nat) (l : List Int) (a' : Option Addr) (n' c' : Nat) (l' : List Int) (w : World) (h : Ints w a n c l) (h' : Ints w a' n' c' l') (hp : 1 ≤ p) (hp2 : p ≤ 1000) (hn : n ≤ n') (hs : n ≤ 100000)
    (hl : ∀ x ∈ l, 0 ≤ x ∧ x ≤ p - 1) (hl' : ∀ x ∈ l', 0 ≤ x ∧ x ≤ p - 1) (hk : -1 ≤ kk) (hk2 : kk ≤ 1) :
    Calls Try.prog 120 #[.int .i64 p, .slice a n c, .slice a' n' c', .int .i64 kk] w fun e w' => ∃ a1 c1, e = .returned (.slice a1 n c1) ∧ Own w' w.heap.size a1 n c1 (ssL p kk l l' n) ∧ Below w.heap.size w w' := by
  have HL := Lib.hid hl
  have HL' := Lib.hid hl'
  have hln := h.le
  have hln' := h'.le
  clear hl hl'
  go_enter Try.func120, Try.ntmps120
  go_wp2
  go_loopw [14, 9] (fun v u wr => ∃ k : Nat, k ≤ n ∧ v = .int .i64 k ∧ Below w.heap.size w wr ∧ ∃ a1 c1, u = .slice a1 k c1 ∧ Own wr w.heap.size a1 k c1 (ssL p kk l l' k)) (fun v _ _ => n - (intOf v).toNat)
  case atStart => exact ⟨0, Nat.zero_le _, rfl, Below.refl _ _, _, _, rfl, Own.nil0 _ _ _⟩
  case round =>
    obtain ⟨k, hkn, rfl, hbel, a1, c1, rfl, own⟩ := hrel
    by_cases hlt : k < n
    · have rx := getD_rng HL.out k (by have := h.len; omega)
      have ry := getD_rng HL'.out k (by have := h'.len; omega)
      have HS := Lib.hid (ssL_succ p kk l l' k)
      obtain ⟨g, o, rfl, e0⟩ := (h.below hbel).at k hlt
      obtain ⟨g', o', rfl, e1⟩ := (h'.below hbel).at k (by omega)
      have hlt' : k < n' := by omega
      generalize l.getD k 0 = x at *
      generalize l'.getD k 0 = y at *
      obtain ⟨X, hX⟩ : ∃ X, X = kk * y := ⟨_, rfl⟩
      have rX : -1000 ≤ X ∧ X ≤ 1000 := by
        have : kk = -1 ∨ kk = 0 ∨ kk = 1 := by omega
        rcases this with h | h | h <;> subst h <;> omega
      rw [← hX] at HS
      have t1 : wrap64 (kk * y) = X := by rw [← hX]; exact IntWalk.wrap64_in (by omega) (by omega)
      have t2 : IntKind.i64.wrap (kk * y) = X := by rw [← hX]; exact IntWalk.i64_in _ (by omega)
      clear hX
      go_wp2_with fail
      refine (btMod_same _ _ _ hp (by omega)).mono ?_; rintro e w' ⟨rfl, rfl⟩
      go_wp2_with (at_builtin; refine wpList_appI _ rfl _ _ rfl w.heap.size a1 k c1 (ssL p kk l l' k) rfl (own.alloc _) _ 1 1 [(x + X) % p] rfl (Ints.lit1 _ _ _) (by omega) (by have := hbel.size; simp; omega) ?_)
      intro a5 c5 w3 o5 u5 _
      rw [← HS.out] at o5
      have b3 := (hbel.alloc hbel.size _).trans u5
      clear u5 hbel own t1 t2
      go_wp2
      go_roundw
      case rel => exact ⟨k + 1, by omega, by go_num, b3, a5, c5, rfl, o5⟩
      case measure => simp [intOf]; omega
    · obtain rfl : k = n := by omega
      go_wp2
      go_ret
      exact ⟨_, _, rfl, own, hbel⟩
theorem ssL_isS (P key : Int) (V : List Int) (n : Nat) : ssL P (-1) V (isF P key n) n = isS P key V n := by
  unfold ssL isS
  apply List.map_congr_left
  intro i hi
  have hi' : i < n := List.mem_range.1 hi
  have e : (isF P key n).getD i 0 = isN P key i := by simp [isF, List.getD, hi']
  rw [e]
  congr 1
  omega
set_option maxHeartbeats 8000000 in
set_option maxRecDepth 100000 in
theorem smInputs_any (P i0 i1 : Int) (ga : Option Addr) (gn gc : Nat) (oa : Option Addr) (on oc : Nat) (key : Int) (va : Option Addr) (vn vc : Nat) (V : List Int) (w : World) (hV : Ints w va vn vc V)
    (hp : 1 ≤ P) (hp2 : P ≤ 1000) (hk : 0 ≤ key) (hk2 : key ≤ 1000000000) (sv : vn ≤ 16) (hv : ∀ x ∈ V, 0 ≤ x ∧ x ≤ P - 1) :
    Calls Try.prog 74 #[.agg #[.int .i64 P, .int .i64 i0, .int .i64 i1, .slice ga gn gc, .slice oa on oc], .int .i64 key, .slice va vn vc] w fun e w' => ∃ a1 c1 a2 c2, e = .returned (.tuple #[.slice a1 vn c1, .slice a2 vn c2]) ∧ Own w' w.heap.size a1 vn c1 (isF P key vn) ∧ Own w' w.heap.size a2 vn c2 (isS P key V vn) ∧ Disj (foot a1 c1) (foot a2 c2) ∧ Below w.heap.size w w' := by
  have HV := Lib.hid hv
  clear hv
  have V0 : Below w.heap.size w (w.alloc (.cells #[.int .i64 P, .int .i64 i0, .int .i64 i1, .slice ga gn gc, .slice oa on oc] 31)) := (Below.refl _ _).alloc (Nat.le_refl _) _
  have B0 : Blk (w.alloc (.cells #[.int .i64 P, .int .i64 i0, .int .i64 i1, .slice ga gn gc, .slice oa on oc] 31)) w.heap.size 31 #[.int .i64 P, .int .i64 i0, .int .i64 i1, .slice ga gn gc, .slice oa on oc] := Blk.new w _ _
  have S0 : w.heap.size < (w.alloc (.cells #[.int .i64 P, .int .i64 i0, .int .i64 i1, .slice ga gn gc, .slice oa on oc] 31)).heap.size := by simp
  have hvn := hV.le
  go_enter Try.func74, Try.ntmps74
  go_wp2
  generalize (w.alloc (.cells #[.int .i64 P, .int .i64 i0, .int .i64 i1, .slice ga gn gc, .slice oa on oc] 31)) = w0 at *
  go_loopw [12, 8] (fun v u wr => ∃ k : Nat, k ≤ vn ∧ v = .int .i64 k ∧ Below w0.heap.size w0 wr ∧ ∃ a1 c1, u = .slice a1 k c1 ∧ Own wr w0.heap.size a1 k c1 (isF P key k)) (fun v _ _ => vn - (intOf v).toNat)
  case atStart => exact ⟨0, Nat.zero_le _, rfl, Below.refl _ _, _, _, rfl, Own.nil0 _ _ _⟩
  case round =>
    obtain ⟨k, hkn, rfl, hbel, a1, c1, rfl, o1⟩ := hrel
    by_cases hlt : k < vn
    · have HF := Lib.hid (isF_succ P key k)
      have HN : Hid (numI [key, (k : Int), 72] P = isN P key k) := rfl
      have x0 : wr.cell? ⟨w.heap.size, 0, none⟩ = some (.int .i64 P) := (B0.below hbel).cell 0
      have x0' := keepA (.cells #[.int .i64 key, .int .i64 k, .int .i64 72] 3) x0
      go_wp2_with fail
      refine (dgBelow_any _ _ _ [key, (k : Int), 72] _ _ (Ints.lit _ [key, (k : Int), 72] _ (by simp [maxLen])) (by simp) (WB.cons (by omega) (WB.two (by omega) (by omega))) hp (by omega)).mono ?_; rintro e w3 ⟨rfl, u3⟩
      rw [HN.out]
      have v3 := below_a1 u3
      have p1 := o1.below v3
      have b3 := hbel.trans (v3.mono hbel.size)
      clear u3 v3 o1 hbel x0 x0'
      go_wp2_with (at_builtin; refine wpList_appI _ rfl _ _ rfl w0.heap.size a1 k c1 (isF P key k) rfl (p1.alloc _) _ 1 1 [isN P key k] rfl (Ints.lit1 _ _ _) (by omega) (by have := b3.size; simp; omega) ?_)
      intro a5 c5 w4 o5 u5 _
      rw [← HF.out] at o5
      have b4 := (b3.alloc b3.size _).trans u5
      clear u5 b3 p1
      go_wp2
      go_roundw
      case rel => exact ⟨k + 1, by omega, by go_num, b4, a5, c5, rfl, o5⟩
      case measure => simp [intOf]; omega
    · obtain rfl : k = vn := by omega
      have x0 : wr.cell? ⟨w.heap.size, 0, none⟩ = some (.int .i64 P) := (B0.below hbel).cell 0
      have VV := V0.trans (hbel.mono V0.size)
      go_wp2_with fail
      refine (shSum_any P (-1) _ _ _ V _ _ _ (isF P key k) _ (hV.below VV) o1.ints hp hp2 (Nat.le_refl _) (by omega) HV.out (isF_rng P key k hp) (by omega) (by omega)).mono ?_; rintro e w5 ⟨a5, c5, rfl, o5, u5⟩
      rw [ssL_isS] at o5
      have q1 := o1.below u5
      have D := Disj.of_rng o1.feet o5.feet (Or.inl (Nat.le_refl _))
      have V5 := VV.trans (u5.mono VV.size)
      have h5 : w.heap.size ≤ wr.heap.size := VV.size
      have HD := Lib.hid D
      clear D x0
      go_wp2
      go_ret2
      exact ⟨_, _, _, _, rfl, q1.lower (Nat.le_of_lt S0), o5.lower h5, HD.out, V5⟩
def isL1 (P i0 i1 : Int) (gn : Nat) (G O : List Int) (key : Int) (A B : List Int) : List Int := if asB P i0 i1 gn G O key A B then isF P key (A.length + B.length) else []
def isL2 (P i0 i1 : Int) (gn : Nat) (G O : List Int) (key : Int) (A B : List Int) : List Int := if asB P i0 i1 gn G O key A B then isS P key (A ++ B) (A.length + B.length) else []
theorem asB_len {P i0 i1 : Int} {gn : Nat} {G O : List Int} {key : Int} {A B : List Int} (h : asB P i0 i1 gn G O key A B = true) : A.length ≤ 8 ∧ B.length ≤ 8 := by
  obtain ⟨h1, _, _, _, h5, h6, _⟩ := asB_true h
  obtain ⟨r0, r1, _⟩ := arB_all h1
  omega
theorem isL1_len (P i0 i1 : Int) (gn : Nat) (G O : List Int) (key : Int) (A B : List Int) : (isL1 P i0 i1 gn G O key A B).length ≤ 1000000 := by
  unfold isL1
  split
  · rename_i h; have := asB_len h; rw [isF_len]; omega
  · simp
theorem isL2_len (P i0 i1 : Int) (gn : Nat) (G O : List Int) (key : Int) (A B : List Int) : (isL2 P i0 i1 gn G O key A B).length ≤ 1000000 := by
  unfold isL2
  split
  · rename_i h; have := asB_len h; rw [isS_len]; omega
  · simp
theorem disj_nil0 (a : Option Addr) (F : List Nat) : Disj (foot a 0) F := fun k hk => by simp [foot, rowOf] at hk
theorem ciJoin_any (a : Option Addr) (n c : Nat) (l : List Int) (a' : Option Addr) (n' c' : Nat) (l' : List Int) (w : World) (h : Ints w a n c l) (h' : Ints w a' n' c' l') (hs : n ≤ 10000000) (hs' : n' ≤ 10000000) :
    Calls Try.prog 75 #[.slice a n c, .slice a' n' c'] w fun e w' => ∃ a2 c2, e = .returned (.slice a2 (n + n') c2) ∧ Own w' w.heap.size a2 (n + n') c2 (l ++ l') ∧ Below w.heap.size w w' := by
  go_enter Try.func75, Try.ntmps75
  go_wp2_with fail
  refine (l1Own_any _ _ _ l _ h hs).mono ?_; rintro e w1 ⟨a1, c1, rfl, o1, u1⟩
  go_wp2_with (at_builtin; refine wpList_appI _ rfl _ _ rfl w.heap.size a1 n c1 l rfl o1 _ n' c' l' rfl (h'.below u1) (by omega) u1.size ?_)
  intro a5 c5 w3 o5 u5 _
  have v5 := u1.trans u5
  go_wp2
  go_ret
  exact ⟨_, _, rfl, o5, v5⟩
set_option maxHeartbeats 8000000 in
set_option maxRecDepth 100000 in
theorem InputShares_any (P i0 i1 : Int) (ga : Option Addr) (gn gc : Nat) (G : List Int) (oa : Option Addr) (on oc : Nat) (O : List Int) (key : Int) (aa : Option Addr) (an ac : Nat) (A : List Int) (ba : Option Addr) (bn bc : Nat) (B : List Int) (w : World) (hG : Flat 3 w ga gn gc G) (hO : Ints w oa on oc O) (hA : Ints w aa an ac A) (hB : Ints w ba bn bc B) :
    Calls Try.prog 25 #[.agg #[.int .i64 P, .int .i64 i0, .int .i64 i1, .slice ga gn gc, .slice oa on oc], .int .i64 key, .slice aa an ac, .slice ba bn bc] w fun e w' => ∃ a1 n1 c1 a2 n2 c2, e = .returned (.tuple #[.slice a1 n1 c1, .slice a2 n2 c2, .bool (asB P i0 i1 gn G O key A B)]) ∧ Own w' w.heap.size a1 n1 c1 (isL1 P i0 i1 gn G O key A B) ∧ Own w' w.heap.size a2 n2 c2 (isL2 P i0 i1 gn G O key A B) ∧ Disj (foot a1 c1) (foot a2 c2) ∧ Below w.heap.size w w' := by
  have V0 : Below w.heap.size w (w.alloc (.cells #[.int .i64 P, .int .i64 i0, .int .i64 i1, .slice ga gn gc, .slice oa on oc] 31)) := (Below.refl _ _).alloc (Nat.le_refl _) _
  have B0 : Blk (w.alloc (.cells #[.int .i64 P, .int .i64 i0, .int .i64 i1, .slice ga gn gc, .slice oa on oc] 31)) w.heap.size 31 #[.int .i64 P, .int .i64 i0, .int .i64 i1, .slice ga gn gc, .slice oa on oc] := Blk.new w _ _
  unfold isL1 isL2
  cases h1 : asB P i0 i1 gn G O key A B
  · simp only [Bool.false_eq_true, if_false]
    go_enter Try.func25, Try.ntmps25
    go_wp2_with fail
    generalize (w.alloc (.cells #[.int .i64 P, .int .i64 i0, .int .i64 i1, .slice ga gn gc, .slice oa on oc] 31)) = w0 at *
    refine (areArithInputs_any _ _ _ _ _ _ G _ _ _ O _ _ _ _ A _ _ _ B _ (hG.below V0) (hO.below V0) (hA.below V0) (hB.below V0)).mono ?_; rintro e w1 ⟨rfl, u⟩
    rw [h1]
    have V1 := V0.trans (u.mono V0.size)
    have B1 := B0.below u
    clear u V0 B0
    go_wp2
    go_ret3
    exact ⟨_, _, _, _, _, _, rfl, Own.nil0 _ _ _, Own.nil0 _ _ _, disj_nil0 _ _, V1⟩
  simp only [if_true]
  obtain ⟨l1, l2⟩ := asB_len h1
  obtain ⟨hr, ⟨k0, k1⟩, ha, hb, _, _, hpr⟩ := asB_true h1
  obtain ⟨p1, p2⟩ := isPr_range hpr
  clear hr
  rw [← hA.len] at l1 ⊢
  rw [← hB.len] at l2 ⊢
  have HAA := Lib.hid ha
  have HBB := Lib.hid hb
  clear ha hb
  go_enter Try.func25, Try.ntmps25
  go_wp2_with fail
  generalize (w.alloc (.cells #[.int .i64 P, .int .i64 i0, .int .i64 i1, .slice ga gn gc, .slice oa on oc] 31)) = w0 at *
  refine (areArithInputs_any _ _ _ _ _ _ G _ _ _ O _ _ _ _ A _ _ _ B _ (hG.below V0) (hO.below V0) (hA.below V0) (hB.below V0)).mono ?_; rintro e w1 ⟨rfl, u⟩
  rw [h1]
  have V1 := V0.trans (u.mono V0.size)
  have B1 := B0.below u
  clear u V0 B0
  have x0 : w1.cell? ⟨w.heap.size, 0, none⟩ = some (.int .i64 P) := B1.cell 0
  have x1 : w1.cell? ⟨w.heap.size, 1, none⟩ = some (.int .i64 i0) := B1.cell 1
  have x2 : w1.cell? ⟨w.heap.size, 2, none⟩ = some (.int .i64 i1) := B1.cell 2
  have x3 : w1.cell? ⟨w.heap.size, 3, none⟩ = some (.slice ga gn gc) := B1.cell 3
  have x4 : w1.cell? ⟨w.heap.size, 4, none⟩ = some (.slice oa on oc) := B1.cell 4
  go_wp2_with fail
  refine (inputShares_any _ _ _ _ _ _ _ _ _ _ _ _ _ A _ _ _ B _ (hA.below V1) (hB.below V1) (by omega) (by omega) k0 k1 l1 l2 HAA.out HBB.out).mono ?_; rintro e w2 ⟨b1, d1, b2, d2, rfl, o1, o2, D, u⟩
  have HD := Lib.hid D
  clear D x0 x1 x2 x3 x4
  go_wp2
  go_ret3
  exact ⟨_, _, _, _, _, _, rfl, o1.lower V1.size, o2.lower V1.size, HD.out, V1.trans (u.mono V1.size)⟩
set_option maxHeartbeats 8000000 in
set_option maxRecDepth 100000 in
theorem spec_InputShares_any (P i0 i1 : Int) (ga : Option Addr) (gn gc : Nat) (G : List Int) (oa : Option Addr) (on oc : Nat) (O : List Int) (key : Int) (aa : Option Addr) (an ac : Nat) (A : List Int) (ba : Option Addr) (bn bc : Nat) (B : List Int) (w : World) (hG : Flat 3 w ga gn gc G) (hO : Ints w oa on oc O) (hA : Ints w aa an ac A) (hB : Ints w ba bn bc B) :
    Calls Try.prog 24 #[.agg #[.int .i64 P, .int .i64 i0, .int .i64 i1, .slice ga gn gc, .slice oa on oc], .int .i64 key, .slice aa an ac, .slice ba bn bc] w fun e w' => ∃ a1 n1 c1 a2 n2 c2, e = .returned (.tuple #[.slice a1 n1 c1, .slice a2 n2 c2, .bool (asB P i0 i1 gn G O key A B)]) ∧ Own w' w.heap.size a1 n1 c1 (isL1 P i0 i1 gn G O key A B) ∧ Own w' w.heap.size a2 n2 c2 (isL2 P i0 i1 gn G O key A B) ∧ Disj (foot a1 c1) (foot a2 c2) ∧ Below w.heap.size w w' := by
  have V0 : Below w.heap.size w (w.alloc (.cells #[.int .i64 P, .int .i64 i0, .int .i64 i1, .slice ga gn gc, .slice oa on oc] 31)) := (Below.refl _ _).alloc (Nat.le_refl _) _
  have B0 : Blk (w.alloc (.cells #[.int .i64 P, .int .i64 i0, .int .i64 i1, .slice ga gn gc, .slice oa on oc] 31)) w.heap.size 31 #[.int .i64 P, .int .i64 i0, .int .i64 i1, .slice ga gn gc, .slice oa on oc] := Blk.new w _ _
  unfold isL1 isL2
  cases h1 : asB P i0 i1 gn G O key A B
  · simp only [Bool.false_eq_true, if_false]
    go_enter Try.func24, Try.ntmps24
    go_wp2_with fail
    generalize (w.alloc (.cells #[.int .i64 P, .int .i64 i0, .int .i64 i1, .slice ga gn gc, .slice oa on oc] 31)) = w0 at *
    refine (smAsked_any _ _ _ _ _ _ G _ _ _ O _ _ _ _ A _ _ _ B _ (hG.below V0) (hO.below V0) (hA.below V0) (hB.below V0)).mono ?_; rintro e w1 ⟨rfl, u⟩
    rw [h1]
    have V1 := V0.trans (u.mono V0.size)
    have B1 := B0.below u
    clear u V0 B0
    go_wp2
    go_ret3
    exact ⟨_, _, _, _, _, _, rfl, Own.nil0 _ _ _, Own.nil0 _ _ _, disj_nil0 _ _, V1⟩
  simp only [if_true]
  obtain ⟨l1, l2⟩ := asB_len h1
  obtain ⟨hr, ⟨k0, k1⟩, ha, hb, _, _, hpr⟩ := asB_true h1
  obtain ⟨p1, p2⟩ := isPr_range hpr
  clear hr
  rw [← hA.len] at l1 ⊢
  rw [← hB.len] at l2 ⊢
  have HAA := Lib.hid ha
  have HBB := Lib.hid hb
  clear ha hb
  have hv : ∀ x ∈ A ++ B, 0 ≤ x ∧ x ≤ P - 1 := fun x hx => by
    rcases List.mem_append.1 hx with h | h
    · exact HAA.out x h
    · exact HBB.out x h
  have HV := Lib.hid hv
  clear hv
  go_enter Try.func24, Try.ntmps24
  go_wp2_with fail
  generalize (w.alloc (.cells #[.int .i64 P, .int .i64 i0, .int .i64 i1, .slice ga gn gc, .slice oa on oc] 31)) = w0 at *
  refine (smAsked_any _ _ _ _ _ _ G _ _ _ O _ _ _ _ A _ _ _ B _ (hG.below V0) (hO.below V0) (hA.below V0) (hB.below V0)).mono ?_; rintro e w1 ⟨rfl, u⟩
  rw [h1]
  have V1 := V0.trans (u.mono V0.size)
  have B1 := B0.below u
  clear u V0 B0
  have x0 : w1.cell? ⟨w.heap.size, 0, none⟩ = some (.int .i64 P) := B1.cell 0
  have x1 : w1.cell? ⟨w.heap.size, 1, none⟩ = some (.int .i64 i0) := B1.cell 1
  have x2 : w1.cell? ⟨w.heap.size, 2, none⟩ = some (.int .i64 i1) := B1.cell 2
  have x3 : w1.cell? ⟨w.heap.size, 3, none⟩ = some (.slice ga gn gc) := B1.cell 3
  have x4 : w1.cell? ⟨w.heap.size, 4, none⟩ = some (.slice oa on oc) := B1.cell 4
  go_wp2
  go_region_held3 (fun W => W.cell? ⟨w.heap.size, 0, none⟩ = some (.int .i64 P) ∧ W.cell? ⟨w.heap.size, 1, none⟩ = some (.int .i64 i0) ∧ W.cell? ⟨w.heap.size, 2, none⟩ = some (.int .i64 i1) ∧ W.cell? ⟨w.heap.size, 3, none⟩ = some (.slice ga gn gc) ∧ W.cell? ⟨w.heap.size, 4, none⟩ = some (.slice oa on oc))
    (first | go_keep | exact ⟨keepC u3 (keepC u2 x0), keepC u3 (keepC u2 x1), keepC u3 (keepC u2 x2), keepC u3 (keepC u2 x3), keepC u3 (keepC u2 x4)⟩ | exact ⟨keepC u2 x0, keepC u2 x1, keepC u2 x2, keepC u2 x3, keepC u2 x4⟩)
    (first | (go_at_call 75; refine (ciJoin_any _ _ _ A _ _ _ B _ (hA.below V1).drew (hB.below V1).drew (by omega) (by omega)).mono ?_; rintro e w2 ⟨va, vc, rfl, ov, u2⟩) | (go_at_call 74; refine (smInputs_any _ _ _ _ _ _ _ _ _ _ _ _ _ (A ++ B) _ ov.ints (by omega) (by omega) k0 k1 (by omega) HV.out).mono ?_; rintro e w3 ⟨b1, d1, b2, d2, rfl, o1, o2, D, u3⟩))
  all_goals have HD := Lib.hid D
  all_goals clear D x0 x1 x2 x3 x4
  all_goals have s2 : w.heap.size ≤ w2.heap.size := Nat.le_trans V1.size u2.size
  all_goals have u4 : Below w1.heap.size w1 w3 := (Below.refl _ _).drew.trans (u2.trans (u3.mono u2.size))
  all_goals clear u2 u3 ov
  all_goals go_wp2
  all_goals go_ret3
  all_goals exact ⟨_, _, _, _, _, _, rfl, o1.lower s2, o2.lower s2, HD.out, V1.trans (u4.mono V1.size)⟩
set_option maxHeartbeats 8000000 in
set_option maxRecDepth 100000 in
theorem FnExactInputShares_walk (a0_0 : Int) (a0_1 : Int) (a0_2 : Int) (a0_3 : Option Addr) (n0_3 c0_3 : Nat) (l0_3 : List Int) (a0_4 : Option Addr) (n0_4 c0_4 : Nat) (l0_4 : List Int) (a1 : Int) (a2 : Option Addr) (n2 c2 : Nat) (l2 : List Int) (a3 : Option Addr) (n3 c3 : Nat) (l3 : List Int) (w : World) (_w0_0 : -9223372036854775808 ≤ a0_0 ∧ a0_0 ≤ 9223372036854775807) (_w0_1 : -9223372036854775808 ≤ a0_1 ∧ a0_1 ≤ 9223372036854775807) (_w0_2 : -9223372036854775808 ≤ a0_2 ∧ a0_2 ≤ 9223372036854775807) (z0_3 : Flat 3 w a0_3 n0_3 c0_3 l0_3) (_wf0_3 : Wf l0_3) (z0_4 : Ints w a0_4 n0_4 c0_4 l0_4) (_wf0_4 : Wf l0_4) (_w1 : -9223372036854775808 ≤ a1 ∧ a1 ≤ 9223372036854775807) (z2 : Ints w a2 n2 c2 l2) (_wf2 : Wf l2) (z3 : Ints w a3 n3 c3 l3) (_wf3 : Wf l3) :
    Calls Try.prog 5 #[.agg #[.int .i64 a0_0, .int .i64 a0_1, .int .i64 a0_2, .slice a0_3 n0_3 c0_3, .slice a0_4 n0_4 c0_4], .int .i64 a1, .slice a2 n2 c2, .slice a3 n3 c3] w fun e w' => e = .returned (.bool true) ∧ Below w.heap.size w w' := by
  by_cases hs2 : n2 ≤ 1048576
  · skip
    by_cases hs3 : n3 ≤ 1048576
    · skip
      have hn0_3 : (n0_3 : Int) ≤ 9223372036854775807 := z0_3.le
      have hn0_4 : (n0_4 : Int) ≤ 9223372036854775807 := z0_4.le
      by_cases ht0 : (n0_3 : Int) + (n0_4 : Int) ≤ 1048576
      · skip
        go_enter Try.func5, Try.ntmps5
        go_wp2_with fail
        have V_w1' : Below w.heap.size w (w.alloc (.cells #[.int .i64 a0_0, .int .i64 a0_1, .int .i64 a0_2, .slice a0_3 n0_3 c0_3, .slice a0_4 n0_4 c0_4] 25)) := (((Below.refl w.heap.size w)).alloc (by have := ((Below.refl w.heap.size w)).size; first | exact this | (simp; omega) | simp) _)
        have B_p0 : Blk (w.alloc (.cells #[.int .i64 a0_0, .int .i64 a0_1, .int .i64 a0_2, .slice a0_3 n0_3 c0_3, .slice a0_4 n0_4 c0_4] 25)) (w.heap.size) 25 #[.int .i64 a0_0, .int .i64 a0_1, .int .i64 a0_2, .slice a0_3 n0_3 c0_3, .slice a0_4 n0_4 c0_4] := Blk.new w 25 #[.int .i64 a0_0, .int .i64 a0_1, .int .i64 a0_2, .slice a0_3 n0_3 c0_3, .slice a0_4 n0_4 c0_4]
        have S_w1' : w.heap.size + 1 ≤ (w.alloc (.cells #[.int .i64 a0_0, .int .i64 a0_1, .int .i64 a0_2, .slice a0_3 n0_3 c0_3, .slice a0_4 n0_4 c0_4] 25)).heap.size := by simp
        generalize (w.alloc (.cells #[.int .i64 a0_0, .int .i64 a0_1, .int .i64 a0_2, .slice a0_3 n0_3 c0_3, .slice a0_4 n0_4 c0_4] 25)) = w1' at *
        refine (szArith_yes _ _ _ _ _ _ _ _ _ _ _ hn0_3 hn0_4 (by omega) (by omega)).mono ?_
        rintro e w2' ⟨rfl, u_w2'⟩
        replace B_p0 := B_p0.below u_w2'
        have V_w2' := V_w1'.trans (u_w2'.mono (V_w1').size)
        have S_w2' := u_w2'.size
        clear u_w2' V_w1'
        have e_p0_0 : w2'.cell? ⟨w.heap.size, 0, none⟩ = some (.int .i64 a0_0) := B_p0.cell 0
        have e_p0_1 : w2'.cell? ⟨w.heap.size, 1, none⟩ = some (.int .i64 a0_1) := B_p0.cell 1
        have e_p0_2 : w2'.cell? ⟨w.heap.size, 2, none⟩ = some (.int .i64 a0_2) := B_p0.cell 2
        have e_p0_3 : w2'.cell? ⟨w.heap.size, 3, none⟩ = some (.slice a0_3 n0_3 c0_3) := B_p0.cell 3
        have e_p0_4 : w2'.cell? ⟨w.heap.size, 4, none⟩ = some (.slice a0_4 n0_4 c0_4) := B_p0.cell 4
        go_wp2_with fail
        clear e_p0_0 e_p0_1 e_p0_2 e_p0_3 e_p0_4
        refine (toArith_any _ _ _ _ _ _ l0_3 _ _ _ l0_4 _ (z0_3.below V_w2') (z0_4.below V_w2') (by omega) (by omega)).mono ?_
        rintro e w3' ⟨y_a0_3, y_c0_3, y_a0_4, y_c0_4, rfl, y0_3, y0_4, dj_y0_3_0_4, u_w3'⟩
        replace B_p0 := B_p0.below u_w3'
        have V_w3' := V_w2'.trans (u_w3'.mono (V_w2').size)
        have S_w3' := u_w3'.size
        clear u_w3' V_w2'
        have Q_y0_3 := Lib.hid y0_3.feet
        have Q_y0_4 := Lib.hid y0_4.feet
        go_wp2_with fail
        refine (toIntS_any _ _ _ l2 _ (z2.below V_w3') hs2).mono ?_
        rintro e w4' ⟨y_a2, y_c2, rfl, y2, u_w4'⟩
        replace B_p0 := B_p0.below u_w4'
        replace y0_3 := y0_3.below u_w4'
        replace y0_4 := y0_4.below u_w4'
        have V_w4' := V_w3'.trans (u_w4'.mono (V_w3').size)
        have S_w4' := u_w4'.size
        clear u_w4' V_w3'
        have Q_y2 := Lib.hid y2.feet
        go_wp2_with fail
        refine (toIntS_any _ _ _ l3 _ (z3.below V_w4') hs3).mono ?_
        rintro e w5' ⟨y_a3, y_c3, rfl, y3, u_w5'⟩
        replace B_p0 := B_p0.below u_w5'
        replace y0_3 := y0_3.below u_w5'
        replace y0_4 := y0_4.below u_w5'
        replace y2 := y2.below u_w5'
        have V_w5' := V_w4'.trans (u_w5'.mono (V_w4').size)
        have S_w5' := u_w5'.size
        clear u_w5' V_w4'
        have Q_y3 := Lib.hid y3.feet
        go_wp2_with fail
        refine (spec_InputShares_any _ _ _ _ _ _ l0_3 _ _ _ l0_4 _ _ _ _ l2 _ _ _ l3 _ y0_3.flat y0_4.ints y2.ints y3.ints).mono ?_
        rintro e w6' ⟨r_a0, r_n0, r_c0, r_a1, r_n1, r_c1, rfl, r0, r1, dj_r0_1, u_w6'⟩
        replace B_p0 := B_p0.below u_w6'
        replace y0_3 := y0_3.below u_w6'
        replace y0_4 := y0_4.below u_w6'
        replace y2 := y2.below u_w6'
        replace y3 := y3.below u_w6'
        have V_w6' := V_w5'.trans (u_w6'.mono (V_w5').size)
        have S_w6' := u_w6'.size
        clear u_w6' V_w5'
        have Q_r0 := Lib.hid r0.feet
        have Q_r1 := Lib.hid r1.feet
        clear y0_3
        clear y0_4
        clear y2
        clear y3
        have e_p0_0 : w6'.cell? ⟨w.heap.size, 0, none⟩ = some (.int .i64 a0_0) := B_p0.cell 0
        have e_p0_1 : w6'.cell? ⟨w.heap.size, 1, none⟩ = some (.int .i64 a0_1) := B_p0.cell 1
        have e_p0_2 : w6'.cell? ⟨w.heap.size, 2, none⟩ = some (.int .i64 a0_2) := B_p0.cell 2
        have e_p0_3 : w6'.cell? ⟨w.heap.size, 3, none⟩ = some (.slice a0_3 n0_3 c0_3) := B_p0.cell 3
        have e_p0_4 : w6'.cell? ⟨w.heap.size, 4, none⟩ = some (.slice a0_4 n0_4 c0_4) := B_p0.cell 4
        go_wp2_with fail
        clear e_p0_0 e_p0_1 e_p0_2 e_p0_3 e_p0_4
        refine (toArith_any _ _ _ _ _ _ l0_3 _ _ _ l0_4 _ (z0_3.below V_w6') (z0_4.below V_w6') (by omega) (by omega)).mono ?_
        rintro e w7' ⟨x_a0_3, x_c0_3, x_a0_4, x_c0_4, rfl, x0_3, x0_4, dj_x0_3_0_4, u_w7'⟩
        replace B_p0 := B_p0.below u_w7'
        replace r0 := r0.below u_w7'
        replace r1 := r1.below u_w7'
        have V_w7' := V_w6'.trans (u_w7'.mono (V_w6').size)
        have S_w7' := u_w7'.size
        clear u_w7' V_w6'
        have Q_x0_3 := Lib.hid x0_3.feet
        have Q_x0_4 := Lib.hid x0_4.feet
        go_wp2_with fail
        have V_w8' : Below w.heap.size w (w7'.alloc (.cells #[.int .i64 a0_0, .int .i64 a0_1, .int .i64 a0_2, .slice x_a0_3 n0_3 x_c0_3, .slice x_a0_4 n0_4 x_c0_4] 31)) := ((V_w7').alloc (by have := (V_w7').size; first | exact this | (simp; omega) | simp) _)
        replace B_p0 := B_p0.alloc (.cells #[.int .i64 a0_0, .int .i64 a0_1, .int .i64 a0_2, .slice x_a0_3 n0_3 x_c0_3, .slice x_a0_4 n0_4 x_c0_4] 31)
        replace r0 := r0.alloc (.cells #[.int .i64 a0_0, .int .i64 a0_1, .int .i64 a0_2, .slice x_a0_3 n0_3 x_c0_3, .slice x_a0_4 n0_4 x_c0_4] 31)
        replace r1 := r1.alloc (.cells #[.int .i64 a0_0, .int .i64 a0_1, .int .i64 a0_2, .slice x_a0_3 n0_3 x_c0_3, .slice x_a0_4 n0_4 x_c0_4] 31)
        replace x0_3 := x0_3.alloc (.cells #[.int .i64 a0_0, .int .i64 a0_1, .int .i64 a0_2, .slice x_a0_3 n0_3 x_c0_3, .slice x_a0_4 n0_4 x_c0_4] 31)
        replace x0_4 := x0_4.alloc (.cells #[.int .i64 a0_0, .int .i64 a0_1, .int .i64 a0_2, .slice x_a0_3 n0_3 x_c0_3, .slice x_a0_4 n0_4 x_c0_4] 31)
        have B_x0 : Blk (w7'.alloc (.cells #[.int .i64 a0_0, .int .i64 a0_1, .int .i64 a0_2, .slice x_a0_3 n0_3 x_c0_3, .slice x_a0_4 n0_4 x_c0_4] 31)) (w7'.heap.size) 31 #[.int .i64 a0_0, .int .i64 a0_1, .int .i64 a0_2, .slice x_a0_3 n0_3 x_c0_3, .slice x_a0_4 n0_4 x_c0_4] := Blk.new w7' 31 #[.int .i64 a0_0, .int .i64 a0_1, .int .i64 a0_2, .slice x_a0_3 n0_3 x_c0_3, .slice x_a0_4 n0_4 x_c0_4]
        have S_w8' : w7'.heap.size + 1 ≤ (w7'.alloc (.cells #[.int .i64 a0_0, .int .i64 a0_1, .int .i64 a0_2, .slice x_a0_3 n0_3 x_c0_3, .slice x_a0_4 n0_4 x_c0_4] 31)).heap.size := by simp
        generalize (w7'.alloc (.cells #[.int .i64 a0_0, .int .i64 a0_1, .int .i64 a0_2, .slice x_a0_3 n0_3 x_c0_3, .slice x_a0_4 n0_4 x_c0_4] 31)) = w8' at *
        clear V_w7'
        refine (toIntS_any _ _ _ l2 _ (z2.below V_w8') hs2).mono ?_
        rintro e w9' ⟨x_a2, x_c2, rfl, x2, u_w9'⟩
        replace B_p0 := B_p0.below u_w9'
        replace B_x0 := B_x0.below u_w9'
        replace r0 := r0.below u_w9'
        replace r1 := r1.below u_w9'
        replace x0_3 := x0_3.below u_w9'
        replace x0_4 := x0_4.below u_w9'
        have V_w9' := V_w8'.trans (u_w9'.mono (V_w8').size)
        have S_w9' := u_w9'.size
        clear u_w9' V_w8'
        have Q_x2 := Lib.hid x2.feet
        go_wp2_with fail
        refine (toIntS_any _ _ _ l3 _ (z3.below V_w9') hs3).mono ?_
        rintro e w10' ⟨x_a3, x_c3, rfl, x3, u_w10'⟩
        replace B_p0 := B_p0.below u_w10'
        replace B_x0 := B_x0.below u_w10'
        replace r0 := r0.below u_w10'
        replace r1 := r1.below u_w10'
        replace x0_3 := x0_3.below u_w10'
        replace x0_4 := x0_4.below u_w10'
        replace x2 := x2.below u_w10'
        have V_w10' := V_w9'.trans (u_w10'.mono (V_w9').size)
        have S_w10' := u_w10'.size
        clear u_w10' V_w9'
        have Q_x3 := Lib.hid x3.feet
        have e_x0_0 : w10'.cell? ⟨w7'.heap.size, 0, none⟩ = some (.int .i64 a0_0) := B_x0.cell 0
        have e_x0_1 : w10'.cell? ⟨w7'.heap.size, 1, none⟩ = some (.int .i64 a0_1) := B_x0.cell 1
        have e_x0_2 : w10'.cell? ⟨w7'.heap.size, 2, none⟩ = some (.int .i64 a0_2) := B_x0.cell 2
        have e_x0_3 : w10'.cell? ⟨w7'.heap.size, 3, none⟩ = some (.slice x_a0_3 n0_3 x_c0_3) := B_x0.cell 3
        have e_x0_4 : w10'.cell? ⟨w7'.heap.size, 4, none⟩ = some (.slice x_a0_4 n0_4 x_c0_4) := B_x0.cell 4
        go_wp2_with fail
        clear e_x0_0 e_x0_1 e_x0_2 e_x0_3 e_x0_4
        refine (InputShares_any _ _ _ _ _ _ l0_3 _ _ _ l0_4 _ _ _ _ l2 _ _ _ l3 _ x0_3.flat x0_4.ints x2.ints x3.ints).mono ?_
        rintro e w11' ⟨g_a0, g_n0, g_c0, g_a1, g_n1, g_c1, rfl, g0, g1, dj_g0_1, u_w11'⟩
        replace B_p0 := B_p0.below u_w11'
        replace B_x0 := B_x0.below u_w11'
        replace r0 := r0.below u_w11'
        replace r1 := r1.below u_w11'
        replace x0_3 := x0_3.below u_w11'
        replace x0_4 := x0_4.below u_w11'
        replace x2 := x2.below u_w11'
        replace x3 := x3.below u_w11'
        have V_w11' := V_w10'.trans (u_w11'.mono (V_w10').size)
        have S_w11' := u_w11'.size
        clear u_w11' V_w10'
        have Q_g0 := Lib.hid g0.feet
        have Q_g1 := Lib.hid g1.feet
        go_wp2_with fail
        refine (eqIntS_b _ _ _ _ _ _ _ _ g0.ints r0.ints).mono ?_
        rintro e w12' ⟨rfl, u_w12'⟩
        replace B_p0 := B_p0.below u_w12'
        replace B_x0 := B_x0.below u_w12'
        replace r0 := r0.below u_w12'
        replace r1 := r1.below u_w12'
        replace x0_3 := x0_3.below u_w12'
        replace x0_4 := x0_4.below u_w12'
        replace x2 := x2.below u_w12'
        replace x3 := x3.below u_w12'
        replace g0 := g0.below u_w12'
        replace g1 := g1.below u_w12'
        have V_w12' := V_w11'.trans (u_w12'.mono (V_w11').size)
        have S_w12' := u_w12'.size
        clear u_w12' V_w11'
        go_wp2_with fail
        refine (eqIntS_b _ _ _ _ _ _ _ _ g1.ints r1.ints).mono ?_
        rintro e w13' ⟨rfl, u_w13'⟩
        replace B_p0 := B_p0.below u_w13'
        replace B_x0 := B_x0.below u_w13'
        replace r0 := r0.below u_w13'
        replace r1 := r1.below u_w13'
        replace x0_3 := x0_3.below u_w13'
        replace x0_4 := x0_4.below u_w13'
        replace x2 := x2.below u_w13'
        replace x3 := x3.below u_w13'
        replace g0 := g0.below u_w13'
        replace g1 := g1.below u_w13'
        have V_w13' := V_w12'.trans (u_w13'.mono (V_w12').size)
        have S_w13' := u_w13'.size
        clear u_w13' V_w12'
        have e_x0_0 : w13'.cell? ⟨w7'.heap.size, 0, none⟩ = some (.int .i64 a0_0) := B_x0.cell 0
        have e_x0_1 : w13'.cell? ⟨w7'.heap.size, 1, none⟩ = some (.int .i64 a0_1) := B_x0.cell 1
        have e_x0_2 : w13'.cell? ⟨w7'.heap.size, 2, none⟩ = some (.int .i64 a0_2) := B_x0.cell 2
        have e_x0_3 : w13'.cell? ⟨w7'.heap.size, 3, none⟩ = some (.slice x_a0_3 n0_3 x_c0_3) := B_x0.cell 3
        have e_x0_4 : w13'.cell? ⟨w7'.heap.size, 4, none⟩ = some (.slice x_a0_4 n0_4 x_c0_4) := B_x0.cell 4
        have e_p0_0 : w13'.cell? ⟨w.heap.size, 0, none⟩ = some (.int .i64 a0_0) := B_p0.cell 0
        have e_p0_1 : w13'.cell? ⟨w.heap.size, 1, none⟩ = some (.int .i64 a0_1) := B_p0.cell 1
        have e_p0_2 : w13'.cell? ⟨w.heap.size, 2, none⟩ = some (.int .i64 a0_2) := B_p0.cell 2
        have e_p0_3 : w13'.cell? ⟨w.heap.size, 3, none⟩ = some (.slice a0_3 n0_3 c0_3) := B_p0.cell 3
        have e_p0_4 : w13'.cell? ⟨w.heap.size, 4, none⟩ = some (.slice a0_4 n0_4 c0_4) := B_p0.cell 4
        go_wp2
        go_region_held3 (fun W => W.cell? ⟨w7'.heap.size, 0, none⟩ = some (.int .i64 a0_0) ∧ W.cell? ⟨w7'.heap.size, 1, none⟩ = some (.int .i64 a0_1) ∧ W.cell? ⟨w7'.heap.size, 2, none⟩ = some (.int .i64 a0_2) ∧ W.cell? ⟨w7'.heap.size, 3, none⟩ = some (.slice x_a0_3 n0_3 x_c0_3) ∧ W.cell? ⟨w7'.heap.size, 4, none⟩ = some (.slice x_a0_4 n0_4 x_c0_4) ∧ W.cell? ⟨w.heap.size, 0, none⟩ = some (.int .i64 a0_0) ∧ W.cell? ⟨w.heap.size, 1, none⟩ = some (.int .i64 a0_1) ∧ W.cell? ⟨w.heap.size, 2, none⟩ = some (.int .i64 a0_2) ∧ W.cell? ⟨w.heap.size, 3, none⟩ = some (.slice a0_3 n0_3 c0_3) ∧ W.cell? ⟨w.heap.size, 4, none⟩ = some (.slice a0_4 n0_4 c0_4))
          (first | go_keep | exact ⟨keepC tv (keepC tu e_x0_0), keepC tv (keepC tu e_x0_1), keepC tv (keepC tu e_x0_2), keepC tv (keepC tu e_x0_3), keepC tv (keepC tu e_x0_4), keepC tv (keepC tu e_p0_0), keepC tv (keepC tu e_p0_1), keepC tv (keepC tu e_p0_2), keepC tv (keepC tu e_p0_3), keepC tv (keepC tu e_p0_4)⟩ | exact ⟨keepC tu e_x0_0, keepC tu e_x0_1, keepC tu e_x0_2, keepC tu e_x0_3, keepC tu e_x0_4, keepC tu e_p0_0, keepC tu e_p0_1, keepC tu e_p0_2, keepC tu e_p0_3, keepC tu e_p0_4⟩)
          (first | (go_at_call 14; refine (toArith_any _ _ _ _ _ _ l0_3 _ _ _ l0_4 _ (z0_3.below V_w13'.drew) (z0_4.below V_w13'.drew) (by omega) (by omega)).mono ?_; rintro e wt ⟨t_a0_3, t_c0_3, t_a0_4, t_c0_4, rfl, t0_3, t0_4, _, tu⟩) | (go_at_call 17; refine (eqArith_same _ _ _ _ _ _ _ _ _ l0_3 _ _ _ _ _ _ l0_4 _ (x0_3.drew.below tu).flat t0_3.flat (x0_4.drew.below tu).ints t0_4.ints).mono ?_; rintro e wq ⟨rfl, tv⟩))
        have u_w14' : Below w13'.heap.size w13' wq := (Below.refl _ _).drew.trans (tu.trans (tv.mono tu.size))
        clear tu tv e_x0_0 e_x0_1 e_x0_2 e_x0_3 e_x0_4 e_p0_0 e_p0_1 e_p0_2 e_p0_3 e_p0_4 t0_3 t0_4
        replace B_p0 := B_p0.below u_w14'
        replace B_x0 := B_x0.below u_w14'
        replace r0 := r0.below u_w14'
        replace r1 := r1.below u_w14'
        replace x0_3 := x0_3.below u_w14'
        replace x0_4 := x0_4.below u_w14'
        replace x2 := x2.below u_w14'
        replace x3 := x3.below u_w14'
        replace g0 := g0.below u_w14'
        replace g1 := g1.below u_w14'
        have V_wq := V_w13'.trans (u_w14'.mono (V_w13').size)
        have S_wq := u_w14'.size
        clear u_w14' V_w13'
        generalize wq = w14' at *
        have V_w14' := V_wq
        clear V_wq
        have S_w14' := S_wq
        clear S_wq
        go_wp2_with fail
        refine (toIntS_any _ _ _ l2 _ (z2.below V_w14') hs2).mono ?_
        rintro e w15' ⟨t_a2, t_c2, rfl, t2, u_w15'⟩
        replace B_p0 := B_p0.below u_w15'
        replace B_x0 := B_x0.below u_w15'
        replace r0 := r0.below u_w15'
        replace r1 := r1.below u_w15'
        replace x0_3 := x0_3.below u_w15'
        replace x0_4 := x0_4.below u_w15'
        replace x2 := x2.below u_w15'
        replace x3 := x3.below u_w15'
        replace g0 := g0.below u_w15'
        replace g1 := g1.below u_w15'
        have V_w15' := V_w14'.trans (u_w15'.mono (V_w14').size)
        have S_w15' := u_w15'.size
        clear u_w15' V_w14'
        have Q_t2 := Lib.hid t2.feet
        go_wp2_with fail
        refine (eqIntS_b _ _ _ _ _ _ _ _ x2.ints t2.ints).mono ?_
        rintro e w16' ⟨rfl, u_w16'⟩
        replace B_p0 := B_p0.below u_w16'
        replace B_x0 := B_x0.below u_w16'
        replace r0 := r0.below u_w16'
        replace r1 := r1.below u_w16'
        replace x0_3 := x0_3.below u_w16'
        replace x0_4 := x0_4.below u_w16'
        replace x2 := x2.below u_w16'
        replace x3 := x3.below u_w16'
        replace g0 := g0.below u_w16'
        replace g1 := g1.below u_w16'
        replace t2 := t2.below u_w16'
        have V_w16' := V_w15'.trans (u_w16'.mono (V_w15').size)
        have S_w16' := u_w16'.size
        clear u_w16' V_w15'
        clear t2
        go_wp2_with fail
        refine (toIntS_any _ _ _ l3 _ (z3.below V_w16') hs3).mono ?_
        rintro e w17' ⟨t_a3, t_c3, rfl, t3, u_w17'⟩
        replace B_p0 := B_p0.below u_w17'
        replace B_x0 := B_x0.below u_w17'
        replace r0 := r0.below u_w17'
        replace r1 := r1.below u_w17'
        replace x0_3 := x0_3.below u_w17'
        replace x0_4 := x0_4.below u_w17'
        replace x2 := x2.below u_w17'
        replace x3 := x3.below u_w17'
        replace g0 := g0.below u_w17'
        replace g1 := g1.below u_w17'
        have V_w17' := V_w16'.trans (u_w17'.mono (V_w16').size)
        have S_w17' := u_w17'.size
        clear u_w17' V_w16'
        have Q_t3 := Lib.hid t3.feet
        go_wp2_with fail
        refine (eqIntS_b _ _ _ _ _ _ _ _ x3.ints t3.ints).mono ?_
        rintro e w18' ⟨rfl, u_w18'⟩
        replace B_p0 := B_p0.below u_w18'
        replace B_x0 := B_x0.below u_w18'
        replace r0 := r0.below u_w18'
        replace r1 := r1.below u_w18'
        replace x0_3 := x0_3.below u_w18'
        replace x0_4 := x0_4.below u_w18'
        replace x2 := x2.below u_w18'
        replace x3 := x3.below u_w18'
        replace g0 := g0.below u_w18'
        replace g1 := g1.below u_w18'
        replace t3 := t3.below u_w18'
        have V_w18' := V_w17'.trans (u_w18'.mono (V_w17').size)
        have S_w18' := u_w18'.size
        clear u_w18' V_w17'
        clear t3
        have e_x0_0 : w18'.cell? ⟨w7'.heap.size, 0, none⟩ = some (.int .i64 a0_0) := B_x0.cell 0
        have e_x0_1 : w18'.cell? ⟨w7'.heap.size, 1, none⟩ = some (.int .i64 a0_1) := B_x0.cell 1
        have e_x0_2 : w18'.cell? ⟨w7'.heap.size, 2, none⟩ = some (.int .i64 a0_2) := B_x0.cell 2
        have e_x0_3 : w18'.cell? ⟨w7'.heap.size, 3, none⟩ = some (.slice x_a0_3 n0_3 x_c0_3) := B_x0.cell 3
        have e_x0_4 : w18'.cell? ⟨w7'.heap.size, 4, none⟩ = some (.slice x_a0_4 n0_4 x_c0_4) := B_x0.cell 4
        go_wp2_with fail
        clear e_x0_0 e_x0_1 e_x0_2 e_x0_3 e_x0_4
        refine (markArith_any _ _ _ _ _ _ _ _ _ _ _ _ _ _ _ x0_3 x0_4 dj_x0_3_0_4 (by omega) (by omega)).mono ?_
        rintro e w19' ⟨rfl, ⟨L_x0_3, x0_3, U_x0_3⟩, ⟨L_x0_4, x0_4, U_x0_4⟩, G⟩
        replace U_x0_3 := Lib.hid U_x0_3
        replace U_x0_4 := Lib.hid U_x0_4
        have RG : ∀ k ∈ foot x_a0_3 x_c0_3 ++ foot x_a0_4 x_c0_4, k ∈ foot x_a0_3 x_c0_3 ∨ k ∈ foot x_a0_4 x_c0_4 := fun k hk => by
          simpa [or_assoc] using hk
        replace r0 := r0.only G (Disj.app (fun k hk hk' => by have := Q_r0.out k hk; have := Q_x0_3.out k hk'; omega) (fun k hk hk' => by have := Q_r0.out k hk; have := Q_x0_4.out k hk'; omega))
        replace r1 := r1.only G (Disj.app (fun k hk hk' => by have := Q_r1.out k hk; have := Q_x0_3.out k hk'; omega) (fun k hk hk' => by have := Q_r1.out k hk; have := Q_x0_4.out k hk'; omega))
        replace x2 := x2.only G (Disj.app (fun k hk hk' => by have := Q_x2.out k hk; have := Q_x0_3.out k hk'; omega) (fun k hk hk' => by have := Q_x2.out k hk; have := Q_x0_4.out k hk'; omega))
        replace x3 := x3.only G (Disj.app (fun k hk hk' => by have := Q_x3.out k hk; have := Q_x0_3.out k hk'; omega) (fun k hk hk' => by have := Q_x3.out k hk; have := Q_x0_4.out k hk'; omega))
        replace g0 := g0.only G (Disj.app (fun k hk hk' => by have := Q_g0.out k hk; have := Q_x0_3.out k hk'; omega) (fun k hk hk' => by have := Q_g0.out k hk; have := Q_x0_4.out k hk'; omega))
        replace g1 := g1.only G (Disj.app (fun k hk hk' => by have := Q_g1.out k hk; have := Q_x0_3.out k hk'; omega) (fun k hk hk' => by have := Q_g1.out k hk; have := Q_x0_4.out k hk'; omega))
        replace B_p0 := B_p0.only G (fun hm => by rcases RG _ hm with h | h <;> first | (have := Q_x0_3.out _ h; omega) | (have := Q_x0_4.out _ h; omega))
        replace B_x0 := B_x0.only G (fun hm => by rcases RG _ hm with h | h <;> first | (have := Q_x0_3.out _ h; omega) | (have := Q_x0_4.out _ h; omega))
        have V_w19' := V_w18'.trans (G.below V_w18'.size (fun k hm => by have := V_w18'.size; rcases RG _ hm with h | h <;> first | (have := Q_x0_3.out _ h; omega) | (have := Q_x0_4.out _ h; omega)))
        have S_w19' := G.size
        clear G RG V_w18'
        go_wp2_with fail
        refine (markIntS_o _ _ _ _ _ _ _ x2 (by omega) (by omega)).mono ?_
        rintro e w20' ⟨rfl, ⟨L_x2, x2, U_x2⟩, G⟩
        replace U_x2 := Lib.hid U_x2
        have RG : ∀ k ∈ foot x_a2 x_c2, k ∈ foot x_a2 x_c2 := fun k hk => by
          simpa [or_assoc] using hk
        replace r0 := r0.only G (fun k hk hk' => by have := Q_r0.out k hk; have := Q_x2.out k hk'; omega)
        replace r1 := r1.only G (fun k hk hk' => by have := Q_r1.out k hk; have := Q_x2.out k hk'; omega)
        replace x0_3 := x0_3.only G (fun k hk hk' => by have := Q_x0_3.out k hk; have := Q_x2.out k hk'; omega)
        replace x0_4 := x0_4.only G (fun k hk hk' => by have := Q_x0_4.out k hk; have := Q_x2.out k hk'; omega)
        replace x3 := x3.only G (fun k hk hk' => by have := Q_x3.out k hk; have := Q_x2.out k hk'; omega)
        replace g0 := g0.only G (fun k hk hk' => by have := Q_g0.out k hk; have := Q_x2.out k hk'; omega)
        replace g1 := g1.only G (fun k hk hk' => by have := Q_g1.out k hk; have := Q_x2.out k hk'; omega)
        replace B_p0 := B_p0.only G (fun hm => by rcases RG _ hm with h <;> first | (have := Q_x2.out _ h; omega))
        replace B_x0 := B_x0.only G (fun hm => by rcases RG _ hm with h <;> first | (have := Q_x2.out _ h; omega))
        have V_w20' := V_w19'.trans (G.below V_w19'.size (fun k hm => by have := V_w19'.size; rcases RG _ hm with h <;> first | (have := Q_x2.out _ h; omega)))
        have S_w20' := G.size
        clear G RG V_w19'
        go_wp2_with fail
        refine (markIntS_o _ _ _ _ _ _ _ x3 (by omega) (by omega)).mono ?_
        rintro e w21' ⟨rfl, ⟨L_x3, x3, U_x3⟩, G⟩
        replace U_x3 := Lib.hid U_x3
        have RG : ∀ k ∈ foot x_a3 x_c3, k ∈ foot x_a3 x_c3 := fun k hk => by
          simpa [or_assoc] using hk
        replace r0 := r0.only G (fun k hk hk' => by have := Q_r0.out k hk; have := Q_x3.out k hk'; omega)
        replace r1 := r1.only G (fun k hk hk' => by have := Q_r1.out k hk; have := Q_x3.out k hk'; omega)
        replace x0_3 := x0_3.only G (fun k hk hk' => by have := Q_x0_3.out k hk; have := Q_x3.out k hk'; omega)
        replace x0_4 := x0_4.only G (fun k hk hk' => by have := Q_x0_4.out k hk; have := Q_x3.out k hk'; omega)
        replace x2 := x2.only G (fun k hk hk' => by have := Q_x2.out k hk; have := Q_x3.out k hk'; omega)
        replace g0 := g0.only G (fun k hk hk' => by have := Q_g0.out k hk; have := Q_x3.out k hk'; omega)
        replace g1 := g1.only G (fun k hk hk' => by have := Q_g1.out k hk; have := Q_x3.out k hk'; omega)
        replace B_p0 := B_p0.only G (fun hm => by rcases RG _ hm with h <;> first | (have := Q_x3.out _ h; omega))
        replace B_x0 := B_x0.only G (fun hm => by rcases RG _ hm with h <;> first | (have := Q_x3.out _ h; omega))
        have V_w21' := V_w20'.trans (G.below V_w20'.size (fun k hm => by have := V_w20'.size; rcases RG _ hm with h <;> first | (have := Q_x3.out _ h; omega)))
        have S_w21' := G.size
        clear G RG V_w20'
        go_wp2_with fail
        refine (eqIntS_b _ _ _ _ _ _ _ _ g0.ints r0.ints).mono ?_
        rintro e w22' ⟨rfl, u_w22'⟩
        replace B_p0 := B_p0.below u_w22'
        replace B_x0 := B_x0.below u_w22'
        replace r0 := r0.below u_w22'
        replace r1 := r1.below u_w22'
        replace x0_3 := x0_3.below u_w22'
        replace x0_4 := x0_4.below u_w22'
        replace x2 := x2.below u_w22'
        replace x3 := x3.below u_w22'
        replace g0 := g0.below u_w22'
        replace g1 := g1.below u_w22'
        have V_w22' := V_w21'.trans (u_w22'.mono (V_w21').size)
        have S_w22' := u_w22'.size
        clear u_w22' V_w21'
        go_wp2_with fail
        refine (eqIntS_b _ _ _ _ _ _ _ _ g1.ints r1.ints).mono ?_
        rintro e w23' ⟨rfl, u_w23'⟩
        replace B_p0 := B_p0.below u_w23'
        replace B_x0 := B_x0.below u_w23'
        replace r0 := r0.below u_w23'
        replace r1 := r1.below u_w23'
        replace x0_3 := x0_3.below u_w23'
        replace x0_4 := x0_4.below u_w23'
        replace x2 := x2.below u_w23'
        replace x3 := x3.below u_w23'
        replace g0 := g0.below u_w23'
        replace g1 := g1.below u_w23'
        have V_w23' := V_w22'.trans (u_w23'.mono (V_w22').size)
        have S_w23' := u_w23'.size
        clear u_w23' V_w22'
        clear x0_3
        clear x0_4
        clear x2
        clear x3
        clear B_x0
        have hlg0 : g_n0 ≤ 1000000 := by rw [g0.len]; exact isL1_len a0_0 a0_1 a0_2 n0_3 l0_3 l0_4 a1 l2 l3
        have hlg1 : g_n1 ≤ 1000000 := by rw [g1.len]; exact isL2_len a0_0 a0_1 a0_2 n0_3 l0_3 l0_4 a1 l2 l3
        go_wp2_with fail
        refine (markIntS_o _ _ _ _ _ _ _ g0 (by omega) (by omega)).mono ?_
        rintro e w24' ⟨rfl, ⟨L_g0, g0, U_g0⟩, G⟩
        replace U_g0 := Lib.hid U_g0
        have RG : ∀ k ∈ foot g_a0 g_c0, k ∈ foot g_a0 g_c0 := fun k hk => by
          simpa [or_assoc] using hk
        replace r0 := r0.only G (fun k hk hk' => by have := Q_r0.out k hk; have := Q_g0.out k hk'; omega)
        replace r1 := r1.only G (fun k hk hk' => by have := Q_r1.out k hk; have := Q_g0.out k hk'; omega)
        replace g1 := g1.only G dj_g0_1.symm
        replace B_p0 := B_p0.only G (fun hm => by rcases RG _ hm with h <;> first | (have := Q_g0.out _ h; omega))
        have V_w24' := V_w23'.trans (G.below V_w23'.size (fun k hm => by have := V_w23'.size; rcases RG _ hm with h <;> first | (have := Q_g0.out _ h; omega)))
        have S_w24' := G.size
        clear G RG V_w23'
        go_wp2_with fail
        refine (markIntS_o _ _ _ _ _ _ _ g1 (by omega) (by omega)).mono ?_
        rintro e w25' ⟨rfl, ⟨L_g1, g1, U_g1⟩, G⟩
        replace U_g1 := Lib.hid U_g1
        have RG : ∀ k ∈ foot g_a1 g_c1, k ∈ foot g_a1 g_c1 := fun k hk => by
          simpa [or_assoc] using hk
        replace r0 := r0.only G (fun k hk hk' => by have := Q_r0.out k hk; have := Q_g1.out k hk'; omega)
        replace r1 := r1.only G (fun k hk hk' => by have := Q_r1.out k hk; have := Q_g1.out k hk'; omega)
        replace g0 := g0.only G dj_g0_1
        replace B_p0 := B_p0.only G (fun hm => by rcases RG _ hm with h <;> first | (have := Q_g1.out _ h; omega))
        have V_w25' := V_w24'.trans (G.below V_w24'.size (fun k hm => by have := V_w24'.size; rcases RG _ hm with h <;> first | (have := Q_g1.out _ h; omega)))
        have S_w25' := G.size
        clear G RG V_w24'
        go_wp2_with fail
        refine (heldIntS_b _ _ _ _ _ _ g0.ints U_g0.out (by omega) (by omega)).mono ?_
        rintro e w26' ⟨rfl, u_w26'⟩
        replace B_p0 := B_p0.below u_w26'
        replace r0 := r0.below u_w26'
        replace r1 := r1.below u_w26'
        replace g0 := g0.below u_w26'
        replace g1 := g1.below u_w26'
        have V_w26' := V_w25'.trans (u_w26'.mono (V_w25').size)
        have S_w26' := u_w26'.size
        clear u_w26' V_w25'
        go_wp2_with fail
        refine (heldIntS_b _ _ _ _ _ _ g1.ints U_g1.out (by omega) (by omega)).mono ?_
        rintro e w27' ⟨rfl, u_w27'⟩
        replace B_p0 := B_p0.below u_w27'
        replace r0 := r0.below u_w27'
        replace r1 := r1.below u_w27'
        replace g0 := g0.below u_w27'
        replace g1 := g1.below u_w27'
        have V_w27' := V_w26'.trans (u_w27'.mono (V_w26').size)
        have S_w27' := u_w27'.size
        clear u_w27' V_w26'
        have e_p0_0 : w27'.cell? ⟨w.heap.size, 0, none⟩ = some (.int .i64 a0_0) := B_p0.cell 0
        have e_p0_1 : w27'.cell? ⟨w.heap.size, 1, none⟩ = some (.int .i64 a0_1) := B_p0.cell 1
        have e_p0_2 : w27'.cell? ⟨w.heap.size, 2, none⟩ = some (.int .i64 a0_2) := B_p0.cell 2
        have e_p0_3 : w27'.cell? ⟨w.heap.size, 3, none⟩ = some (.slice a0_3 n0_3 c0_3) := B_p0.cell 3
        have e_p0_4 : w27'.cell? ⟨w.heap.size, 4, none⟩ = some (.slice a0_4 n0_4 c0_4) := B_p0.cell 4
        go_wp2_with fail
        clear e_p0_0 e_p0_1 e_p0_2 e_p0_3 e_p0_4
        refine (toArith_any _ _ _ _ _ _ l0_3 _ _ _ l0_4 _ (z0_3.below V_w27') (z0_4.below V_w27') (by omega) (by omega)).mono ?_
        rintro e w28' ⟨x_a0_3, x_c0_3, x_a0_4, x_c0_4, rfl, x0_3, x0_4, dj_x0_3_0_4, u_w28'⟩
        replace B_p0 := B_p0.below u_w28'
        replace r0 := r0.below u_w28'
        replace r1 := r1.below u_w28'
        replace g0 := g0.below u_w28'
        replace g1 := g1.below u_w28'
        have V_w28' := V_w27'.trans (u_w28'.mono (V_w27').size)
        have S_w28' := u_w28'.size
        clear u_w28' V_w27'
        have Q_x0_3 := Lib.hid x0_3.feet
        have Q_x0_4 := Lib.hid x0_4.feet
        go_wp2_with fail
        refine (toIntS_any _ _ _ l2 _ (z2.below V_w28') hs2).mono ?_
        rintro e w29' ⟨x_a2, x_c2, rfl, x2, u_w29'⟩
        replace B_p0 := B_p0.below u_w29'
        replace r0 := r0.below u_w29'
        replace r1 := r1.below u_w29'
        replace g0 := g0.below u_w29'
        replace g1 := g1.below u_w29'
        replace x0_3 := x0_3.below u_w29'
        replace x0_4 := x0_4.below u_w29'
        have V_w29' := V_w28'.trans (u_w29'.mono (V_w28').size)
        have S_w29' := u_w29'.size
        clear u_w29' V_w28'
        have Q_x2 := Lib.hid x2.feet
        go_wp2_with fail
        refine (toIntS_any _ _ _ l3 _ (z3.below V_w29') hs3).mono ?_
        rintro e w30' ⟨x_a3, x_c3, rfl, x3, u_w30'⟩
        replace B_p0 := B_p0.below u_w30'
        replace r0 := r0.below u_w30'
        replace r1 := r1.below u_w30'
        replace g0 := g0.below u_w30'
        replace g1 := g1.below u_w30'
        replace x0_3 := x0_3.below u_w30'
        replace x0_4 := x0_4.below u_w30'
        replace x2 := x2.below u_w30'
        have V_w30' := V_w29'.trans (u_w30'.mono (V_w29').size)
        have S_w30' := u_w30'.size
        clear u_w30' V_w29'
        have Q_x3 := Lib.hid x3.feet
        go_wp2_with fail
        refine (InputShares_any _ _ _ _ _ _ l0_3 _ _ _ l0_4 _ _ _ _ l2 _ _ _ l3 _ x0_3.flat x0_4.ints x2.ints x3.ints).mono ?_
        rintro e w31' ⟨h_a0, h_n0, h_c0, h_a1, h_n1, h_c1, rfl, h0, h1, dj_h0_1, u_w31'⟩
        replace B_p0 := B_p0.below u_w31'
        replace r0 := r0.below u_w31'
        replace r1 := r1.below u_w31'
        replace g0 := g0.below u_w31'
        replace g1 := g1.below u_w31'
        replace x0_3 := x0_3.below u_w31'
        replace x0_4 := x0_4.below u_w31'
        replace x2 := x2.below u_w31'
        replace x3 := x3.below u_w31'
        have V_w31' := V_w30'.trans (u_w31'.mono (V_w30').size)
        have S_w31' := u_w31'.size
        clear u_w31' V_w30'
        have Q_h0 := Lib.hid h0.feet
        have Q_h1 := Lib.hid h1.feet
        clear x0_3
        clear x0_4
        clear x2
        clear x3
        go_wp2_with fail
        refine (eqIntS_b _ _ _ _ _ _ _ _ h0.ints r0.ints).mono ?_
        rintro e w32' ⟨rfl, u_w32'⟩
        replace B_p0 := B_p0.below u_w32'
        replace r0 := r0.below u_w32'
        replace r1 := r1.below u_w32'
        replace g0 := g0.below u_w32'
        replace g1 := g1.below u_w32'
        replace h0 := h0.below u_w32'
        replace h1 := h1.below u_w32'
        have V_w32' := V_w31'.trans (u_w32'.mono (V_w31').size)
        have S_w32' := u_w32'.size
        clear u_w32' V_w31'
        go_wp2_with fail
        refine (eqIntS_b _ _ _ _ _ _ _ _ h1.ints r1.ints).mono ?_
        rintro e w33' ⟨rfl, u_w33'⟩
        replace B_p0 := B_p0.below u_w33'
        replace r0 := r0.below u_w33'
        replace r1 := r1.below u_w33'
        replace g0 := g0.below u_w33'
        replace g1 := g1.below u_w33'
        replace h0 := h0.below u_w33'
        replace h1 := h1.below u_w33'
        have V_w33' := V_w32'.trans (u_w33'.mono (V_w32').size)
        have S_w33' := u_w33'.size
        clear u_w33' V_w32'
        go_wp2_with fail
        refine (heldIntS_b _ _ _ _ _ _ g0.ints U_g0.out (by omega) (by omega)).mono ?_
        rintro e w34' ⟨rfl, u_w34'⟩
        replace B_p0 := B_p0.below u_w34'
        replace r0 := r0.below u_w34'
        replace r1 := r1.below u_w34'
        replace g0 := g0.below u_w34'
        replace g1 := g1.below u_w34'
        replace h0 := h0.below u_w34'
        replace h1 := h1.below u_w34'
        have V_w34' := V_w33'.trans (u_w34'.mono (V_w33').size)
        have S_w34' := u_w34'.size
        clear u_w34' V_w33'
        go_wp2_with fail
        refine (heldIntS_b _ _ _ _ _ _ g1.ints U_g1.out (by omega) (by omega)).mono ?_
        rintro e w35' ⟨rfl, u_w35'⟩
        replace B_p0 := B_p0.below u_w35'
        replace r0 := r0.below u_w35'
        replace r1 := r1.below u_w35'
        replace g0 := g0.below u_w35'
        replace g1 := g1.below u_w35'
        replace h0 := h0.below u_w35'
        replace h1 := h1.below u_w35'
        have V_w35' := V_w34'.trans (u_w35'.mono (V_w34').size)
        have S_w35' := u_w35'.size
        clear u_w35' V_w34'
        go_wp2
        go_ret
        exact ⟨rfl, V_w35'⟩
      · skip
        go_enter Try.func5, Try.ntmps5
        go_wp2_with fail
        have V_w36' : Below w.heap.size w (w.alloc (.cells #[.int .i64 a0_0, .int .i64 a0_1, .int .i64 a0_2, .slice a0_3 n0_3 c0_3, .slice a0_4 n0_4 c0_4] 25)) := (((Below.refl w.heap.size w)).alloc (by have := ((Below.refl w.heap.size w)).size; first | exact this | (simp; omega) | simp) _)
        have B_p0 : Blk (w.alloc (.cells #[.int .i64 a0_0, .int .i64 a0_1, .int .i64 a0_2, .slice a0_3 n0_3 c0_3, .slice a0_4 n0_4 c0_4] 25)) (w.heap.size) 25 #[.int .i64 a0_0, .int .i64 a0_1, .int .i64 a0_2, .slice a0_3 n0_3 c0_3, .slice a0_4 n0_4 c0_4] := Blk.new w 25 #[.int .i64 a0_0, .int .i64 a0_1, .int .i64 a0_2, .slice a0_3 n0_3 c0_3, .slice a0_4 n0_4 c0_4]
        have S_w36' : w.heap.size + 1 ≤ (w.alloc (.cells #[.int .i64 a0_0, .int .i64 a0_1, .int .i64 a0_2, .slice a0_3 n0_3 c0_3, .slice a0_4 n0_4 c0_4] 25)).heap.size := by simp
        generalize (w.alloc (.cells #[.int .i64 a0_0, .int .i64 a0_1, .int .i64 a0_2, .slice a0_3 n0_3 c0_3, .slice a0_4 n0_4 c0_4] 25)) = w36' at *
        refine (szArith_no _ _ _ _ _ _ _ _ _ _ _ hn0_3 hn0_4 (by omega) (by omega) (by omega)).mono ?_
        rintro e w37' ⟨rfl, u_w37'⟩
        replace B_p0 := B_p0.below u_w37'
        have V_w37' := V_w36'.trans (u_w37'.mono (V_w36').size)
        have S_w37' := u_w37'.size
        clear u_w37' V_w36'
        go_wp2
        go_ret
        exact ⟨rfl, V_w37'⟩
    · skip
      go_enter Try.func5, Try.ntmps5
      go_wp2
      go_ret
      exact ⟨rfl, ((Below.refl w.heap.size w).alloc (by simp) _)⟩
  · skip
    go_enter Try.func5, Try.ntmps5
    go_wp2
    go_ret
    exact ⟨rfl, ((Below.refl w.heap.size w).alloc (by simp) _)⟩
end Go.Proofs.Ytjnblfnfegjbfaa
