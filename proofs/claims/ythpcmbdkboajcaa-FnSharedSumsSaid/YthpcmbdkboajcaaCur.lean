/- The cursor of the draws: numbers out of bytes. -/
import Derived.Test.YthpcmbdkboajcaaKinds
namespace Go.Proofs.Ythpcmbdkboajcaa
open Go.RowKit

/-- The bytes (a, n, c) can be read, in a block below B. -/
def Cod (w : World) (B : Nat) (a : Option Addr) (n c : Nat) : Prop :=
  n ≤ c ∧ c ≤ maxLen ∧ ∃ g o, (0 < n → a = some ⟨g, o, none⟩ ∧ g < B) ∧ ∀ i, i < n → ∃ x : Int, 0 ≤ x ∧ x ≤ 255 ∧ w.cell? ⟨g, o + i, none⟩ = some (.int .u8 x)
theorem Cod.below {w w' : World} {B b : Nat} {a : Option Addr} {n c : Nat} (h : Cod w B a n c) (hb : Below b w w') (hB : B ≤ b) : Cod w' B a n c := by
  obtain ⟨h1, h2, g, o, h3, h5⟩ := h
  exact ⟨h1, h2, g, o, h3, fun i hi => by
    obtain ⟨x, x0, x1, hx⟩ := h5 i hi
    exact ⟨x, x0, x1, by rw [hb.cell (p := ⟨g, o + i, none⟩) (by have := (h3 (by omega)).2; show g < b; omega)]; exact hx⟩⟩
theorem Cod.more {w : World} {B B' : Nat} {a : Option Addr} {n c : Nat} (h : Cod w B a n c) (hB : B ≤ B') : Cod w B' a n c := by
  obtain ⟨h1, h2, g, o, h3, h5⟩ := h
  exact ⟨h1, h2, g, o, fun hn => ⟨(h3 hn).1, by have := (h3 hn).2; omega⟩, h5⟩
theorem Cod.nil0 (w : World) (B : Nat) : Cod w B none 0 0 := ⟨Nat.le_refl _, Nat.zero_le _, 0, 0, fun h => absurd h (by omega), fun i hi => absurd hi (by omega)⟩
theorem Cod.of_row {w : World} {x : Addr} {n c B : Nat} {zs : List Int} (hl : n ≤ c) (hm : c ≤ maxLen) (hz : zs.length = c) (hcell : ∀ i, i < zs.length → w.cell? (x.add i) = some (.int .u8 (zs.getD i 0))) (hw : ∀ y ∈ zs, (Lit.int .u8 y).wf = true) (hB : w.heap.size ≤ B) : Cod w B (some x) n c := by
  by_cases h0 : 0 < zs.length
  · obtain ⟨b, off, rfl, hc⟩ := ints_at hcell h0
    refine ⟨hl, hm, b, off, fun _ => ⟨rfl, ?_⟩, fun i hi => ?_⟩
    · have := World.block_lt_of_cell? w _ (hc 0 h0)
      exact Nat.lt_of_lt_of_le this hB
    · have hy := hw (zs.getD i 0) (by
        have hi' : i < zs.length := by omega
        simp [List.getD, hi'])
      have hy' := bounds_u8 hy
      exact ⟨zs.getD i 0, by omega, by omega, hc i (by omega)⟩
  · exact ⟨hl, hm, 0, 0, fun h => absurd h (by omega), fun i hi => absurd hi (by omega)⟩
theorem Cod.drew {w : World} {B : Nat} {a : Option Addr} {n c : Nat} (h : Cod w B a n c) : Cod w.drew B a n c := h
theorem Cod.belowAll {w w' : World} {a : Option Addr} {n c : Nat} (h : Cod w w.heap.size a n c) (hb : Below w.heap.size w w') : Cod w' w'.heap.size a n c := (h.below hb (Nat.le_refl _)).more hb.size
/-- The cursor in block g has read k bytes. -/
def Cur (w : World) (g : Nat) (k : Nat) : Prop :=
  ∃ (a : Option Addr) (n c : Nat) (s : Int), Blk w g 62 #[.slice a n c, .int .i64 k, .int .u64 s] ∧ (0 ≤ s ∧ s ≤ 18446744073709551615) ∧ Cod w g a n c
theorem Cur.lt {w g k} (h : Cur w g k) : g < w.heap.size := by obtain ⟨_, _, _, _, h, _⟩ := h; exact h.lt
theorem Cur.below {w w' : World} {g k : Nat} (h : Cur w g k) (hb : Below w.heap.size w w') : Cur w' g k := by
  have hl := h.lt
  obtain ⟨a, n, c, s, h1, h2, h3⟩ := h
  exact ⟨a, n, c, s, h1.below hb, h2, h3.below hb (by omega)⟩
theorem Cur.alloc {w : World} {g k : Nat} (h : Cur w g k) (o : Obj) : Cur (w.alloc o) g k := h.below ((Below.refl _ _).alloc (Nat.le_refl _) _)
theorem Cur.only {X : List Nat} {w w' : World} {g k : Nat} (h : Cur w g k) (ho : Only X w w') (hX : ∀ q ∈ X, g < q) : Cur w' g k := by
  have hl := h.lt
  obtain ⟨a, n, c, s, h1, h2, h3⟩ := h
  exact ⟨a, n, c, s, h1.only ho (fun hm => by have := hX _ hm; omega), h2, h3.below (ho.below (B := g) (by omega) (fun q hq => by have := hX q hq; omega)) (Nat.le_refl _)⟩
theorem Cur.of_new {w : World} {a : Option Addr} {n c : Nat} (h : Cod w w.heap.size a n c) : Cur (w.alloc (.cells #[.slice a n c, .int .i64 0, .int .u64 0] 62)) w.heap.size 0 :=
  ⟨a, n, c, 0, Blk.new w _ _, by omega, h.below (b := w.heap.size) ((Below.refl _ _).alloc (Nat.le_refl _) _) (Nat.le_refl _)⟩
/-- What the cursor's writes leave. -/
theorem Only.below1 {g : Nat} {w w' : World} (h : Only [g] w w') {B : Nat} (hg : B ≤ g) (hB : B ≤ w.heap.size) : Below B w w' := h.below hB (fun k hk => by simp at hk; omega)
theorem Ints.onlyC {X : List Nat} {w w' : World} {a : Option Addr} {n c : Nat} {l : List Int} (h : Ints w a n c l) (ho : Only X w w') (hd : ∀ x, 0 < n → a = some x → x.block ∉ X) : Ints w' a n c l := by
  obtain ⟨h1, h2, h3, h4, g, o, h5, h6⟩ := h
  refine ⟨h1, h2, h3, h4, g, o, h5, fun i hi => ?_⟩
  have hc := h6 i hi
  have hlt := World.block_lt_of_cell? w _ hc
  have hb := ho.block g hlt (hd ⟨g, o, none⟩ (by omega) (h5 (by omega)))
  rw [World.cell?_of_block (w := w) (w' := w') (a := ⟨g, o + i, none⟩) hb]
  exact hc
theorem maskB (a : Nat) (ha : a < 18446744073709551616) : bits BinOp.and IntKind.u64 (a : Int) 255 = ((a % 256 : Nat) : Int) := by
  have h := u64_and_nat a 255 ha (by omega)
  have e : a &&& 255 = a % 256 := Nat.and_two_pow_sub_one_eq_mod a 8
  rw [e] at h
  exact h
theorem maskR (a : Int) (h0 : 0 ≤ a) (h1 : a ≤ 18446744073709551615) : ∃ x : Int, bits BinOp.and IntKind.u64 a 255 = x ∧ 0 ≤ x ∧ x ≤ 255 := by
  obtain ⟨n, rfl⟩ := Int.eq_ofNat_of_zero_le h0
  exact ⟨_, maskB n (by omega), by omega, by omega⟩
theorem Cur.drewN {w : World} {g k : Nat} (h : Cur w g k) (m : Nat) : Cur (w.drewN m) g k := h
theorem Cur.drew {w : World} {g k : Nat} (h : Cur w g k) : Cur w.drew g k := h
theorem Only.drewN {F : List Nat} {w w' : World} (h : Only F w w') (m : Nat) : Only F w (w'.drewN m) := h.trans (Only.of_below (below_of_drewN m))
theorem maskW (a : Int) (h0 : 0 ≤ a) (h1 : a ≤ 18446744073709551615) : 0 ≤ wrap64 (bits BinOp.and IntKind.u64 (a / 1099511627776) 255) ∧ wrap64 (bits BinOp.and IntKind.u64 (a / 1099511627776) 255) ≤ 255 := by
  obtain ⟨x, hx, x0, x1⟩ := maskR (a / 1099511627776) (by omega) (by omega)
  rw [hx]
  unfold wrap64
  omega
def NextP (w : World) (g k : Nat) (e : Ending) (w' : World) : Prop := ∃ x : Int, e = .returned (.int .i64 x) ∧ 0 ≤ x ∧ x ≤ 255 ∧ Cur w' g (k + 1) ∧ Only [g] w w'
set_option maxHeartbeats 4000000 in
set_option maxRecDepth 100000 in
theorem next_any (g k : Nat) (w : World) (h : Cur w g k) (hk : k ≤ 1000000000000000) :
    Calls Try.prog 90 #[.pointer (some ⟨g, 0, none⟩)] w (NextP w g k) := by
  obtain ⟨a, n, c, s, B, ⟨s0, s1⟩, hC⟩ := h
  have hC' := hC
  obtain ⟨c1, c2, cg, co, c3, c5⟩ := hC'
  have hcc : (n : Int) ≤ 9223372036854775807 := by unfold maxLen at c2; omega
  have e0 : w.cell? ⟨g, 0, none⟩ = some (.slice a n c) := B.cell 0
  have e1 : w.cell? ⟨g, 1, none⟩ = some (.int .i64 k) := B.cell 1
  have e2 : w.cell? ⟨g, 2, none⟩ = some (.int .u64 s) := B.cell 2
  have f1 : w.frozen? ⟨g, 1, none⟩ = false := B.frozen 1
  have f2 : w.frozen? ⟨g, 2, none⟩ = false := B.frozen 2
  have HB := Lib.hid B
  have HC := Lib.hid hC
  clear B hC
  have fin : ∀ (W : World) (x : Int), 0 ≤ x → x ≤ 18446744073709551615 → Only [] w W → Only [g] w ((W.setCell ⟨g, 1, none⟩ (.int .i64 ((k : Int) + 1))).setCell ⟨g, 2, none⟩ (.int .u64 x)) ∧ Cur ((W.setCell ⟨g, 1, none⟩ (.int .i64 ((k : Int) + 1))).setCell ⟨g, 2, none⟩ (.int .u64 x)) g (k + 1) := fun W x x0 x1 hW => by
    have hO : Only [g] w ((W.setCell ⟨g, 1, none⟩ (.int .i64 ((k : Int) + 1))).setCell ⟨g, 2, none⟩ (.int .u64 x)) := ((hW.more (fun _ h => by cases h)).setCell _ _ (by simp)).setCell _ _ (by simp)
    have hBW := HB.out.only hW (by simp)
    have h2 := (hBW.set_ 1 (.int .i64 ((k : Int) + 1))).set_ 2 (.int .u64 x)
    exact ⟨hO, a, n, c, x, by simpa using h2, ⟨x0, x1⟩, HC.out.below (hO.below1 (Nat.le_refl _) (Nat.le_of_lt HB.out.lt)) (Nat.le_refl _)⟩
  have FIN := Lib.hid fin
  clear fin
  have m0 : ∀ x : Int, 0 ≤ IntKind.u64.wrap x ∧ IntKind.u64.wrap x ≤ 18446744073709551615 := fun x => by rw [IntKind.wrap_u64]; omega
  have M0 := Lib.hid m0
  clear m0
  by_cases hlt : k < n
  · obtain ⟨x, x0, x1, cx⟩ := c5 k hlt
    obtain ⟨rfl, _⟩ := c3 (by omega)
    have hlt' : (k : Int) < (n : Int) := by omega
    have hle' : (k : Int) + 1 ≤ (n : Int) := by omega
    have hk0 : (0 : Int) ≤ (k : Int) := by omega
    clear c3 c5
    go_enter Try.func90, Try.ntmps90
    go_wp2
    go_quiet (fail)
    go_wp2
    go_quiet (fail)
    go_wp2
    go_quiet (fail)
    go_wp2
    go_ret
    obtain ⟨r1, r2⟩ := FIN.out (w.drewN _) _ (M0.out _).1 (M0.out _).2 (Only.of_below (below_of_drewN _))
    exact ⟨x, rfl, x0, x1, r2.drewN _, r1.drewN _⟩
  · clear c3 c5
    have hlt' : ¬ (k : Int) < (n : Int) := by omega
    have hd : decide ((k : Int) < (n : Int)) = false := by simp; omega
    go_enter Try.func90, Try.ntmps90
    go_wp2
    go_quiet (fail)
    go_wp2
    go_quiet (fail)
    go_wp2
    go_ret
    obtain ⟨r1, r2⟩ := FIN.out (w.drewN _) _ (M0.out _).1 (M0.out _).2 (Only.of_below (below_of_drewN _))
    exact ⟨_, rfl, (maskW _ (M0.out _).1 (M0.out _).2).1, (maskW _ (M0.out _).1 (M0.out _).2).2, r2.drewN _, r1.drewN _⟩
theorem emod_le' (x n : Int) (hx : 0 ≤ x) (hn : 0 < n) : x % n ≤ x := by
  have h1 := Int.emod_def x n
  have h2 : 0 ≤ n * (x / n) := Int.mul_nonneg (by omega) (Int.ediv_nonneg hx (by omega))
  omega
def PickP (w : World) (g k : Nat) (n : Int) (e : Ending) (w' : World) : Prop := ∃ (x : Int) (k' : Nat), e = .returned (.int .i64 x) ∧ 0 ≤ x ∧ (x = 0 ∨ x < n) ∧ x ≤ 65535 ∧ k' ≤ k + 2 ∧ Cur w' g k' ∧ Only [g] w w'
set_option maxHeartbeats 4000000 in
theorem pick_any (g k : Nat) (n : Int) (w : World) (h : Cur w g k) (hk : k ≤ 900000000000000) :
    Calls Try.prog 43 #[.pointer (some ⟨g, 0, none⟩), .int .i64 n] w (PickP w g k n) := by
  by_cases h1 : n ≤ 1
  · go_enter Try.func43, Try.ntmps43
    go_wp2
    go_ret
    exact ⟨0, k, rfl, Int.le_refl _, Or.inl rfl, by omega, by omega, h, Only.refl _ _⟩
  · have hrem : ∀ x : Int, 0 ≤ x → x.tmod n = x % n := fun x hx => Int.tmod_eq_emod_of_nonneg hx
    have hmr : ∀ x : Int, 0 ≤ x % n ∧ x % n < n := fun x => ⟨Int.emod_nonneg _ (by omega), Int.emod_lt_of_pos _ (by omega)⟩
    have hmx : ∀ x : Int, 0 ≤ x → x % n ≤ x := fun x hx => emod_le' x n hx (by omega)
    have HM := Lib.hid hmr
    have HX := Lib.hid hmx
    have HT := Lib.hid hrem
    clear hrem hmr hmx
    by_cases h2 : n > 200
    · go_enter Try.func43, Try.ntmps43
      go_wp2_with fail
      refine (next_any g k _ h (by omega)).mono ?_; rintro e w1 ⟨x, rfl, x0, x1, c1, o1⟩
      go_wp2_with fail
      refine (next_any g (k + 1) _ c1 (by omega)).mono ?_; rintro e w2 ⟨y, rfl, y0, y1, c2, o2⟩
      have t0 : 0 ≤ x * 256 + y := by omega
      have t1 := HT.out _ t0
      have hn0 : n ≠ 0 := by omega
      go_wp2
      go_ret
      have := HX.out _ t0
      exact ⟨_, k + 1 + 1, rfl, (HM.out _).1, Or.inr (HM.out _).2, by omega, by omega, c2, o1.trans o2⟩
    · go_enter Try.func43, Try.ntmps43
      go_wp2_with fail
      refine (next_any g k _ h (by omega)).mono ?_; rintro e w1 ⟨x, rfl, x0, x1, c1, o1⟩
      have t1 := HT.out _ x0
      go_wp2
      go_ret
      have := HX.out _ x0
      exact ⟨_, k + 1, rfl, (HM.out _).1, Or.inr (HM.out _).2, by omega, by omega, c1, o1⟩
def OneP (w : World) (g k : Nat) (e : Ending) (w' : World) : Prop := ∃ (b : Bool) (k' : Nat), e = .returned (.bool b) ∧ k' ≤ k + 2 ∧ Cur w' g k' ∧ Only [g] w w'
theorem one_any (g k : Nat) (n : Int) (w : World) (h : Cur w g k) (hk : k ≤ 900000000000000) :
    Calls Try.prog 41 #[.pointer (some ⟨g, 0, none⟩), .int .i64 n] w (OneP w g k) := by
  go_enter Try.func41, Try.ntmps41
  go_wp2_with fail
  refine (pick_any g k n _ h hk).mono ?_; rintro e w1 ⟨x, k', rfl, _, _, _, k1, c1, o1⟩
  go_wp2
  go_ret
  exact ⟨_, k', rfl, k1, c1, o1⟩
def AmongP (w : World) (g k : Nat) (l : List Int) (e : Ending) (w' : World) : Prop := ∃ (x : Int) (k' : Nat), e = .returned (.int .i64 x) ∧ x ∈ l ∧ k' ≤ k + 2 ∧ Cur w' g k' ∧ Only [g] w w'
set_option maxHeartbeats 4000000 in
theorem among_any (g k : Nat) (a : Option Addr) (n c : Nat) (l : List Int) (w : World) (h : Cur w g k) (hk : k ≤ 900000000000000) (hl : Ints w a n c l) (hn : 0 < n) (hd : ∀ x, 0 < n → a = some x → x.block ∉ [g]) :
    Calls Try.prog 51 #[.pointer (some ⟨g, 0, none⟩), .slice a n c] w (AmongP w g k l) := by
  have hle := hl.le
  have HL := Lib.hid hl.len
  go_enter Try.func51, Try.ntmps51
  go_wp2_with fail
  refine (pick_any g k n _ h hk).mono ?_; rintro e w1 ⟨x, k', rfl, x0, x1, _, k1, c1, o1⟩
  obtain ⟨i, rfl⟩ : ∃ i : Nat, x = i := ⟨x.toNat, by omega⟩
  have hi : i < n := by omega
  have hi' : (i : Int) < (n : Int) := by omega
  have HM := Lib.hid (getD_mem l i (by rw [← HL.out]; exact hi))
  obtain ⟨q, o, rfl, e1⟩ := (hl.onlyC o1 hd).at i hi
  clear x1
  go_wp2
  go_ret
  exact ⟨_, k', rfl, HM.out, k1, c1, o1⟩
end Go.Proofs.Ythpcmbdkboajcaa
