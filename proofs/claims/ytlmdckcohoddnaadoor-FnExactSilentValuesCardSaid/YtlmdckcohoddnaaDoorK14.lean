/- Lemmas and walks that the claim's proof rests on, part 14. -/
import Derived.Deep.RegionHeld
import Derived.Test.YtlmdckcohoddnaaDoorK2
import Derived.Test.YtlmdckcohoddnaaDoorK3
import Derived.Test.YtlmdckcohoddnaaDoorK9
import Derived.Test.YtlmdckcohoddnaaDoorK11
import Derived.Test.YtlmdckcohoddnaaDoorK13
namespace Go.Proofs.YtlmdckcohoddnaaDoor
open Go.RowKit
def RowT (W : World) (T X : List Nat) (r : MsRow) : Prop := Ints W r.2.2.1 r.2.2.2.2.length r.2.2.2.1 r.2.2.2.2 ∧ r.2.2.2.2.length ≤ 1000 ∧ ∀ x, 0 < r.2.2.2.2.length → r.2.2.1 = some x → x.block ∈ T ∧ x.block ∉ X
theorem RowT.only {W W' : World} {T X Y : List Nat} {r : MsRow} (h : RowT W T X r) (ho : Only Y W W') (hy : ∀ q ∈ T, q ∉ X → q ∉ Y) : RowT W' T X r :=
  ⟨h.1.onlyOff ho (fun hn x hx => hy _ (h.2.2 x hn hx).1 (h.2.2 x hn hx).2), h.2⟩
theorem RowT.more {W : World} {T T' X : List Nat} {r : MsRow} (h : RowT W T X r) (ht : ∀ q ∈ T, q ∈ T') : RowT W T' X r :=
  ⟨h.1, h.2.1, fun x hn hx => ⟨ht _ (h.2.2 x hn hx).1, (h.2.2 x hn hx).2⟩⟩
structure SixB (W : World) (T X : List Nat) (b : Nat) (rs : List MsRow) : Prop where
  blk : Blk W b 135 (rs.flatMap msC).toArray
  len : rs.length = 6
  row : ∀ r ∈ rs, RowT W T X r
theorem SixB.only {W W' : World} {T X Y : List Nat} {b : Nat} {rs : List MsRow} (h : SixB W T X b rs) (ho : Only Y W W') (hb : b ∉ Y) (hy : ∀ q ∈ T, q ∉ X → q ∉ Y) : SixB W' T X b rs :=
  ⟨h.blk.only ho hb, h.len, fun r hr => (h.row r hr).only ho hy⟩
theorem SixB.more {W : World} {T T' X : List Nat} {b : Nat} {rs : List MsRow} (h : SixB W T X b rs) (ht : ∀ q ∈ T, q ∈ T') : SixB W T' X b rs :=
  ⟨h.blk, h.len, fun r hr => (h.row r hr).more ht⟩
theorem SixB.at {W : World} {T X : List Nat} {b : Nat} {rs : List MsRow} (h : SixB W T X b rs) (k : Nat) (hk : k < 6) : (W.cell? ⟨b, k * 3, none⟩ = some (.int .i64 (msAt rs k).1) ∧ W.cell? ⟨b, k * 3 + 1, none⟩ = some (.int .i64 (msAt rs k).2.1) ∧ W.cell? ⟨b, k * 3 + 2, none⟩ = some (rowV (msAt rs k).2.2)) ∧
    W.frozen? ⟨b, k * 3, none⟩ = false ∧ W.frozen? ⟨b, k * 3 + 1, none⟩ = false ∧ W.frozen? ⟨b, k * 3 + 2, none⟩ = false := by
  have hl : k < rs.length := by rw [h.len]; exact hk
  refine ⟨⟨?_, ?_, ?_⟩, h.blk.frozen _, h.blk.frozen _, h.blk.frozen _⟩
  · have := h.blk.cell (k * 3 + 0)
    rw [List.getElem?_toArray, msC_at hl (by omega)] at this
    exact this
  · have := h.blk.cell (k * 3 + 1)
    rw [List.getElem?_toArray, msC_at hl (by omega)] at this
    exact this
  · have := h.blk.cell (k * 3 + 2)
    rw [List.getElem?_toArray, msC_at hl (by omega)] at this
    exact this
theorem SixB.put {W : World} {T X : List Nat} {b : Nat} {rs : List MsRow} (h : SixB W T X b rs) (k : Nat) (hk : k < 6) (hb : b ∈ X) (r : MsRow) (hr : RowT W T X r) :
    ∃ N, ((W.setCell ⟨b, k * 3, none⟩ (.int .i64 r.1)).setCell ⟨b, k * 3 + 1, none⟩ (.int .i64 r.2.1)).setCell ⟨b, k * 3 + 2, none⟩ (rowV r.2.2) = N ∧ SixB N T X b (rs.set k r) ∧ Only [b] W N := by
  have G : Only [b] W (((W.setCell ⟨b, k * 3, none⟩ (.int .i64 r.1)).setCell ⟨b, k * 3 + 1, none⟩ (.int .i64 r.2.1)).setCell ⟨b, k * 3 + 2, none⟩ (rowV r.2.2)) :=
    (((Only.refl [b] W).setCell _ _ (by simp)).setCell _ _ (by simp)).setCell _ _ (by simp)
  have hy : ∀ q ∈ T, q ∉ X → q ∉ [b] := fun q _ hx hq => by simp at hq; subst hq; exact hx hb
  refine ⟨_, rfl, ⟨?_, by simp [h.len], fun s hs => ?_⟩, G⟩
  · have := ((h.blk.set_ (k * 3) (.int .i64 r.1)).set_ (k * 3 + 1) (.int .i64 r.2.1)).set_ (k * 3 + 2) (rowV r.2.2)
    rw [msC_set r (by rw [h.len]; exact hk)]
    simpa only [List.setIfInBounds_toArray] using this
  · rcases List.mem_or_eq_of_mem_set hs with h1 | h1
    · exact (h.row s h1).only G hy
    · subst h1; exact hr.only G hy
theorem Flat.onlyOff {F : List Nat} {k : Nat} {w w' : World} {a : Option Addr} {n c : Nat} {l : List Int} (h : Flat k w a n c l) (ho : Only F w w') (hf : Off F a n) : Flat k w' a n c l := RowC.onlyOff h ho hf
structure SvI (a : Pl) (x : PlX) (bA bL bS bT : Nat) (g : Nat) (o cl : Nat) (ml : List Int) (W : World) (T : List Nat) : Prop where
  A : Blk W bA 31 #[.int .i64 a.P, .int .i64 a.party, .int .i64 a.input, .int .i64 a.mask, .int .i64 a.delta, .slice x.sa x.sn x.sc, .slice x.ka x.kn x.kc, .int .i64 a.step, .slice x.ha x.hn x.hc, .int .i64 a.status, .int .i64 a.out]
  L : Blk W bL 110 #[.slice (some ⟨g, o, none⟩) 1 cl]
  M : Flat 4 W (some ⟨g, o, none⟩) 1 cl ml
  S : ∃ rs, SixB W T [bS, bT] bS rs
  U : ∃ rs, SixB W T [bS, bT] bT rs
  tT : bA ∈ T ∧ bL ∈ T ∧ bS ∈ T ∧ bT ∈ T ∧ g ∈ T
  ne : bA ≠ bS ∧ bA ≠ bT ∧ bL ≠ bS ∧ bL ≠ bT ∧ g ≠ bS ∧ g ≠ bT ∧ bS ≠ bT
section
variable {a : Pl} {x : PlX} {bA bL bS bT g o cl : Nat} {ml : List Int} {W W' : World} {T : List Nat}
theorem SvI.only {Y : List Nat} (h : SvI a x bA bL bS bT g o cl ml W T) (ho : Only Y W W') (hd : Disj T Y) : SvI a x bA bL bS bT g o cl ml W' T := by
  obtain ⟨t1, t2, t3, t4, t5⟩ := h.tT
  obtain ⟨rs, hs⟩ := h.S
  obtain ⟨rt, ht⟩ := h.U
  exact ⟨h.A.only ho (hd _ t1), h.L.only ho (hd _ t2), h.M.onlyOff ho (fun _ y hy => by cases hy; exact hd _ t5), ⟨rs, hs.only ho (hd _ t3) (fun q hq _ => hd q hq)⟩, ⟨rt, ht.only ho (hd _ t4) (fun q hq _ => hd q hq)⟩, h.tT, h.ne⟩
theorem SvI.below (h : SvI a x bA bL bS bT g o cl ml W T) (hb : Below W.heap.size W W') : SvI a x bA bL bS bT g o cl ml W' T :=
  h.only (Only.of_below (F := []) hb) (Disj.nil_r _)
theorem SvI.drew (h : SvI a x bA bL bS bT g o cl ml W T) : SvI a x bA bL bS bT g o cl ml W.drew T := h.below ((Below.refl _ _).drew)
theorem SvI.more {T' : List Nat} (h : SvI a x bA bL bS bT g o cl ml W T) (ht : ∀ q ∈ T, q ∈ T') : SvI a x bA bL bS bT g o cl ml W T' := by
  obtain ⟨t1, t2, t3, t4, t5⟩ := h.tT
  obtain ⟨rs, hs⟩ := h.S
  obtain ⟨rt, hu⟩ := h.U
  exact ⟨h.A, h.L, h.M, ⟨rs, hs.more ht⟩, ⟨rt, hu.more ht⟩, ⟨ht _ t1, ht _ t2, ht _ t3, ht _ t4, ht _ t5⟩, h.ne⟩
theorem SvI.putS (h : SvI a x bA bL bS bT g o cl ml W T) (k : Nat) (hk : k < 6) (r : MsRow) (hr : RowT W T [bS, bT] r) :
    ∃ N, ((W.setCell ⟨bS, k * 3, none⟩ (.int .i64 r.1)).setCell ⟨bS, k * 3 + 1, none⟩ (.int .i64 r.2.1)).setCell ⟨bS, k * 3 + 2, none⟩ (rowV r.2.2) = N ∧ SvI a x bA bL bS bT g o cl ml N T ∧ Only [bS] W N := by
  obtain ⟨n1, n2, n3, n4, n5, n6, n7⟩ := h.ne
  obtain ⟨rs, hs⟩ := h.S
  obtain ⟨rt, ht⟩ := h.U
  obtain ⟨N, e, s1, G⟩ := hs.put k hk (by simp) r hr
  exact ⟨N, e, ⟨h.A.only G (by simpa using n1), h.L.only G (by simpa using n3), h.M.onlyOff G (fun _ y hy => by cases hy; simpa using n5), ⟨_, s1⟩, ⟨rt, ht.only G (by simpa using n7.symm) (fun q _ hx hq => by simp at hq hx; omega)⟩, h.tT, h.ne⟩, G⟩
theorem SvI.putU (h : SvI a x bA bL bS bT g o cl ml W T) (k : Nat) (hk : k < 6) (r : MsRow) (hr : RowT W T [bS, bT] r) :
    ∃ N, ((W.setCell ⟨bT, k * 3, none⟩ (.int .i64 r.1)).setCell ⟨bT, k * 3 + 1, none⟩ (.int .i64 r.2.1)).setCell ⟨bT, k * 3 + 2, none⟩ (rowV r.2.2) = N ∧ SvI a x bA bL bS bT g o cl ml N T ∧ Only [bT] W N := by
  obtain ⟨n1, n2, n3, n4, n5, n6, n7⟩ := h.ne
  obtain ⟨rs, hs⟩ := h.S
  obtain ⟨rt, ht⟩ := h.U
  obtain ⟨N, e, s1, G⟩ := ht.put k hk (by simp) r hr
  exact ⟨N, e, ⟨h.A.only G (by simpa using n2), h.L.only G (by simpa using n4), h.M.onlyOff G (fun _ y hy => by cases hy; simpa using n6), ⟨rs, hs.only G (by simpa using n7) (fun q _ hx hq => by simp at hq hx; omega)⟩, ⟨_, s1⟩, h.tT, h.ne⟩, G⟩
theorem SvI.atS (h : SvI a x bA bL bS bT g o cl ml W T) (k : Nat) (hk : k < 6) : ∃ r : MsRow, (W.cell? ⟨bS, k * 3, none⟩ = some (.int .i64 r.1) ∧ W.cell? ⟨bS, k * 3 + 1, none⟩ = some (.int .i64 r.2.1) ∧ W.cell? ⟨bS, k * 3 + 2, none⟩ = some (rowV r.2.2)) ∧
    W.frozen? ⟨bS, k * 3, none⟩ = false ∧ W.frozen? ⟨bS, k * 3 + 1, none⟩ = false ∧ W.frozen? ⟨bS, k * 3 + 2, none⟩ = false := by
  obtain ⟨rs, hs⟩ := h.S
  exact ⟨_, hs.at k hk⟩
theorem SvI.cM {l0 l1 l2 l3 : Int} (h : SvI a x bA bL bS bT g o cl [l0, l1, l2, l3] W T) : W.cell? ⟨g, o, none⟩ = some (.int .i64 l0) ∧ W.cell? ⟨g, o + 1, none⟩ = some (.int .i64 l1) ∧ W.cell? ⟨g, o + 2, none⟩ = some (.int .i64 l2) ∧ W.cell? ⟨g, o + 3, none⟩ = some (.int .i64 l3) := by
  obtain ⟨g', o', e, hc⟩ := h.M.at (by omega)
  cases e
  exact ⟨hc 0 (by omega), hc 1 (by omega), hc 2 (by omega), hc 3 (by omega)⟩
theorem SvI.atU (h : SvI a x bA bL bS bT g o cl ml W T) (k : Nat) (hk : k < 6) : ∃ r : MsRow, (W.cell? ⟨bT, k * 3, none⟩ = some (.int .i64 r.1) ∧ W.cell? ⟨bT, k * 3 + 1, none⟩ = some (.int .i64 r.2.1) ∧ W.cell? ⟨bT, k * 3 + 2, none⟩ = some (rowV r.2.2)) ∧
    W.frozen? ⟨bT, k * 3, none⟩ = false ∧ W.frozen? ⟨bT, k * 3 + 1, none⟩ = false ∧ W.frozen? ⟨bT, k * 3 + 2, none⟩ = false := by
  obtain ⟨rt, ht⟩ := h.U
  exact ⟨_, ht.at k hk⟩
end
set_option maxHeartbeats 4000000 in
set_option maxRecDepth 100000 in
theorem copyMessage_any (s0 s1 : Int) (a : Option Addr) (n c : Nat) (l : List Int) (w : World) (h : Ints w a n c l) (hs : n ≤ 1048576) :
    Calls Tryd.prog 130 #[.agg #[.int .i64 s0, .int .i64 s1, .slice a n c]] w fun e w' => ∃ b d, e = .returned (.agg #[.int .i64 s0, .int .i64 s1, .slice b n d]) ∧ Own w' w.heap.size b n d l ∧ Below w.heap.size w w' := by
  have LH := Lib.hid h
  clear h
  go_enter Tryd.func130, Tryd.ntmps130
  go_upto_region 1 with fail
  refine Exists.elim (Blk.new_ w (b := w.heap.size) rfl 44 #[.int .i64 s0, .int .i64 s1, .slice a n c]) (fun w1_a0' q => ?_)
  rw [q.1]; have B_m := q.2.1; have s_w1_a0' := q.2.2.1; have u_w1_a0' := q.2.2.2; clear q
  refine Exists.elim (Blk.new_ w1_a0' (b := w.heap.size + 1) s_w1_a0' 44 #[.int .i64 0, .int .i64 0, .slice none 0 0]) (fun w1' q => ?_)
  rw [q.1]; have B_r := q.2.1; have s_w1' := q.2.2.1; have u_w1' := q.2.2.2; clear q
  replace B_m := (B_m.below u_w1')
  have U := (u_w1_a0'.trans (u_w1'.mono u_w1_a0'.size))
  have S_w1' : w.heap.size + 2 ≤ w1'.heap.size := Nat.le_of_eq s_w1'.symm
  have V_w1' := (Below.refl w.heap.size w).trans (U.mono ((Below.refl w.heap.size w)).size)
  clear u_w1_a0' u_w1' s_w1_a0' s_w1' U
  have e_m_2 := B_m.a3_2
  go_wp2_with fail
  clear e_m_2
  refine (Clone_any _ _ _ l _ (LH.out.below V_w1') (by omega)).mono ?_
  rintro e w2' ⟨b, d, rfl, o1, u_w2'⟩
  replace B_m := B_m.below u_w2'
  replace B_r := B_r.below u_w2'
  have S_w2' := u_w2'.size
  have V_w2' : Below w.heap.size w w2' := V_w1'.trans (u_w2'.mono V_w1'.size)
  clear V_w1'
  clear u_w2'
  have Q_o1 := Lib.hid o1.feet
  have e_m := B_m.all3
  have f_m := B_m.frz3
  go_upto_region 2 with fail
  clear e_m f_m
  have g_1 : Only [w.heap.size] w2' (w2'.setCell ⟨w.heap.size, 2, none⟩ (.slice b n d)) := (Only.refl _ _).setCell _ _ (by simp)
  replace B_m := B_m.set_ 2 (.slice b n d)
  generalize w2'.setCell ⟨w.heap.size, 2, none⟩ (.slice b n d) = w3' at *
  have G := g_1
  clear g_1
  simp only [List.setIfInBounds_toArray, List.set_cons_zero, List.set_cons_succ] at B_m
  have V_w3' := (V_w2').trans (G.below (V_w2').size (fun q hq => by have := (V_w2').size; simp at hq; omega))
  replace B_r := B_r.only G (by first | (simp; done) | (simp; omega))
  replace o1 := o1.only G (fun q hq hq' => by have := Q_o1.out q hq; simp at hq'; omega)
  have sG0 := G.size
  clear G
  clear V_w2'
  have S_w3' : w2'.heap.size + 0 ≤ w3'.heap.size := by omega
  clear sG0
  have e_m := B_m.all3
  have e_r := B_r.all3
  have f_r := B_r.frz3
  go_wp2
  clear e_m e_r f_r
  clear B_m
  refine Exists.elim (B_r.row3 (.int .i64 s0) (.int .i64 s1) (.slice b n d)) (fun w4' q => ?_)
  rw [q.1]; replace B_r := q.2.1; have G := q.2.2; clear q
  have V_w4' := (V_w3').trans (G.below (V_w3').size (fun q hq => by have := (V_w3').size; simp at hq; omega))
  replace o1 := o1.only G (fun q hq hq' => by have := Q_o1.out q hq; simp at hq'; omega)
  have sG0 := G.size
  clear G
  clear V_w3'
  have S_w4' : w3'.heap.size + 0 ≤ w4'.heap.size := by omega
  clear sG0
  have e_r := B_r.all3
  exact bodyPost_ret (v := .agg #[.int .i64 s0, .int .i64 s1, .slice b n d]) (by simp [results, Tryd.results130, go_sem, e_r]) rfl ⟨b, d, rfl, o1.lower (by omega), V_w4'⟩
set_option maxHeartbeats 4000000 in
set_option maxRecDepth 100000 in
theorem IndexFuncM1 (a : Option Addr) (c : Nat) (l0 l1 l2 l3 : Int) (f : Nat) (cap : Array Value) (q : Bool) (w : World) (h : Flat 4 w a 1 c [l0, l1, l2, l3])
    (hf : ∀ args W, (callFunc f args).run Tryd.prog W = .ok (.enter f args) W)
    (hq : ∀ W, Below w.heap.size w W → Calls Tryd.prog f (#[.agg #[.int .i64 l0, .int .i64 l1, .int .i64 l2, .int .i64 l3]] ++ cap) W fun e w' => e = .returned (.bool q) ∧ Below W.heap.size W w') :
    Calls Tryd.prog 128 #[.slice a 1 c, .func (.func f) #[] cap] w fun e w' => e = .returned (.int .i64 (if q then 0 else -1)) ∧ Below w.heap.size w w' := by
  have HQ := Lib.hid hq
  clear hq
  go_enter Tryd.func128, Tryd.ntmps128
  go_wp2
  go_loopw [8] (fun v wr => ∃ k : Nat, k ≤ 1 ∧ v = .int .i64 k ∧ (k = 1 → q = false) ∧ Below w.heap.size w wr) (fun v _ => 1 - (intOf v).toNat)
  case atStart => exact ⟨0, Nat.zero_le _, rfl, fun e => absurd e (by omega), Below.refl _ _⟩
  case round =>
    obtain ⟨k, hk, rfl, hj, hbel⟩ := hrel
    by_cases hlt : k < 1
    · obtain rfl : k = 0 := by omega
      obtain ⟨g, o, rfl, hc⟩ := (h.below hbel).at (by omega)
      have c0 : wr.cell? ⟨g, o, none⟩ = some (.int .i64 l0) := hc 0 (by omega)
      have c1 : wr.cell? ⟨g, o + 1, none⟩ = some (.int .i64 l1) := hc 1 (by omega)
      have c2 : wr.cell? ⟨g, o + 2, none⟩ = some (.int .i64 l2) := hc 2 (by omega)
      have c3 : wr.cell? ⟨g, o + 3, none⟩ = some (.int .i64 l3) := hc 3 (by omega)
      have HC := Lib.hid (HQ.out wr hbel)
      clear hc hj
      cases q
      · go_wp2_with (refine HC.out.mono ?_; rintro e w' ⟨rfl, u⟩)
        have hbel' := hbel.trans (‹Below wr.heap.size wr _›.mono hbel.size)
        go_roundw
        case rel => exact ⟨1, by omega, by go_num, by simp, hbel'⟩
        case measure => simp [intOf]
      · go_wp2_with (refine HC.out.mono ?_; rintro e w' ⟨rfl, u⟩)
        have hbel' := hbel.trans (‹Below wr.heap.size wr _›.mono hbel.size)
        go_ret
        exact ⟨rfl, hbel'⟩
    · obtain rfl : k = 1 := by omega
      have hq0 := hj rfl
      subst hq0
      clear hj
      go_wp2
      go_ret
      exact ⟨rfl, hbel⟩
theorem IndexFuncM_hit (a : Option Addr) (c : Nat) (l0 l1 l2 l3 : Int) (f : Nat) (cap : Array Value) (w : World) (h : Flat 4 w a 1 c [l0, l1, l2, l3])
    (hf : ∀ args W, (callFunc f args).run Tryd.prog W = .ok (.enter f args) W)
    (hq : ∀ W, Below w.heap.size w W → Calls Tryd.prog f (#[.agg #[.int .i64 l0, .int .i64 l1, .int .i64 l2, .int .i64 l3]] ++ cap) W fun e w' => e = .returned (.bool true) ∧ Below W.heap.size W w') :
    Calls Tryd.prog 128 #[.slice a 1 c, .func (.func f) #[] cap] w fun e w' => e = .returned (.int .i64 0) ∧ Below w.heap.size w w' :=
  IndexFuncM1 a c l0 l1 l2 l3 f cap true w h hf hq
theorem IndexFuncM_miss (a : Option Addr) (c : Nat) (l0 l1 l2 l3 : Int) (f : Nat) (cap : Array Value) (w : World) (h : Flat 4 w a 1 c [l0, l1, l2, l3])
    (hf : ∀ args W, (callFunc f args).run Tryd.prog W = .ok (.enter f args) W)
    (hq : ∀ W, Below w.heap.size w W → Calls Tryd.prog f (#[.agg #[.int .i64 l0, .int .i64 l1, .int .i64 l2, .int .i64 l3]] ++ cap) W fun e w' => e = .returned (.bool false) ∧ Below W.heap.size W w') :
    Calls Tryd.prog 128 #[.slice a 1 c, .func (.func f) #[] cap] w fun e w' => e = .returned (.int .i64 (-1)) ∧ Below w.heap.size w w' :=
  IndexFuncM1 a c l0 l1 l2 l3 f cap false w h hf hq
theorem mm1_enters (args : Array Value) (W : World) : (callFunc 129 args).run Tryd.prog W = .ok (.enter 129 args) W :=
  enters Tryd.func129 (by kernel_rfl) (by kernel_rfl) args W
set_option maxHeartbeats 1000000 in
theorem mm1_any (l0 l1 l2 l3 at_ : Int) (bt : Nat) (w : World) (h : Blk w bt 3 #[.int .i64 at_]) :
    Calls Tryd.prog 129 (#[.agg #[.int .i64 l0, .int .i64 l1, .int .i64 l2, .int .i64 l3]] ++ #[.pointer (some ⟨bt, 0, none⟩)]) w fun e w' => e = .returned (.bool (l1 == at_)) ∧ Below w.heap.size w w' := by
  have B_t := h
  clear h
  go_enter Tryd.func129, Tryd.ntmps129
  go_upto_region 1 with fail
  refine Exists.elim (Blk.new_ w (b := w.heap.size) rfl 109 #[.int .i64 l0, .int .i64 l1, .int .i64 l2, .int .i64 l3]) (fun w1' q => ?_)
  rw [q.1]; have B_m := q.2.1; have s_w1' := q.2.2.1; have u_w1' := q.2.2.2; clear q
  replace B_t := B_t.below u_w1'
  have S_w1' : w.heap.size + 1 ≤ w1'.heap.size := Nat.le_of_eq s_w1'.symm
  have V_w1' := (Below.refl w.heap.size w).trans (u_w1'.mono ((Below.refl w.heap.size w)).size)
  clear u_w1' s_w1'
  have e_t_0 := B_t.a1_0
  have e_m := B_m.all4
  go_wp2
  go_ret
  exact ⟨rfl, V_w1'⟩
end Go.Proofs.YtlmdckcohoddnaaDoor
namespace Go.Proofs.YtlmdckcohoddnaaDoor
open Go
section
variable {P : Program} {ops : Array Oper} {Q : Exit → Act → World → Prop} {md : Region.Mode} {S : World → Prop}
def waitsB (md : Region.Mode) (ops : Array Oper) (i d : Nat) : Bool :=
  match ops[i]? with
  | none => false
  | some o => o.after.any fun e => Region.binds md e && e.on == d
def mkL : Array Bool → List Nat → List Bool → Array Bool
  | l, d :: D, t :: T => mkL (l.setIfInBounds d t) D T
  | l, _, _ => l
def bools : Nat → List (List Bool)
  | 0 => [[]]
  | n + 1 => (bools n).flatMap fun t => [false :: t, true :: t]
theorem mem_bools : ∀ (n : Nat) (T : List Bool), T.length = n → T ∈ bools n
  | 0, [], _ => by simp [bools]
  | n + 1, t :: T, h => by
    have := mem_bools n T (by simpa using h)
    unfold bools
    rw [List.mem_flatMap]
    refine ⟨T, this, ?_⟩
    cases t <;> simp
def cloB (md : Region.Mode) (ops : Array Oper) (l : Array Bool) : Bool :=
  (List.range ops.size).all fun i => !l.getD i false || ((ops[i]?).map (·.after.all fun e => !Region.binds md e || l.getD e.on false)).getD true
def chkI (md : Region.Mode) (ops : Array Oper) (L : Array Bool) (D : List Nat) : Bool :=
  (bools D.length).all fun T =>
    let l := mkL L D T
    !cloB md ops l || T.all id || (let r := Region.ready md ops l; !r.isEmpty && r.all fun i => D.contains i)
def unl (l : Array Bool) : Nat := l.toList.countP (fun b => !b)
theorem unl_set {l : Array Bool} {i : Nat} (h : l.getD i true = false) : unl (l.setIfInBounds i true) + 1 = unl l := by
  have hi : i < l.size := by
    rcases Nat.lt_or_ge i l.size with h' | h'
    · exact h'
    · simp [Array.getElem?_eq_none h'] at h
  have hv : l.toList[i]'(by simpa using hi) = false := by
    simpa [hi] using h
  unfold unl
  rw [Array.toList_setIfInBounds, List.countP_set (by simpa using hi)]
  have hp : 0 < l.toList.countP (fun b => !b) := List.countP_pos_iff.2 ⟨_, List.getElem_mem (by simpa using hi), by rw [hv]; rfl⟩
  rw [hv]
  simp only [Bool.not_false, if_true, Bool.not_true, Bool.false_eq_true, if_false, Nat.add_zero]
  omega
theorem cloB_set {l : Array Bool} {i : Nat} (hc : cloB md ops l = true) (hi : i ∈ Region.ready md ops l) : cloB md ops (l.setIfInBounds i true) = true := by
  unfold cloB at *
  rw [List.all_eq_true] at *
  intro j hj
  obtain ⟨h0, o, ho, hall⟩ := mem_ready.1 hi
  by_cases hij : i = j
  · subst hij
    rw [ho]
    simp only [Option.map_some, Option.getD_some, Bool.or_eq_true, Array.all_eq_true_iff_forall_mem]
    right
    intro e he
    cases hb : Region.binds md e
    · simp
    · right; exact getD_set_true (hall e he hb)
  · have := hc j hj
    rw [getD_set_ne false hij]
    cases hl : l.getD j false
    · simp
    · rw [hl] at this
      simp only [Bool.not_true, Bool.false_or] at this ⊢
      cases hoj : ops[j]? with
      | none => simp
      | some oj =>
        rw [hoj] at this
        simp only [Option.map_some, Option.getD_some, Array.all_eq_true_iff_forall_mem, Bool.or_eq_true] at this ⊢
        intro e he
        exact (this e he).imp id getD_set_true
def StepsI (P : Program) (md : Region.Mode) (ops : Array Oper) (Q : Exit → Act → World → Prop) (S : World → Prop) (J : Array Bool → Act → World → Prop) (is : List Nat) : Prop :=
  ∀ i ∈ is, ∀ l a w, S w → J l a w → i ∈ Region.ready md ops l → wpOp P ops Q i (fun a' w' => S w' ∧ J (l.setIfInBounds i true) a' w') a w
theorem StepsI.nil {J : Array Bool → Act → World → Prop} : StepsI P md ops Q S J [] := fun _ h => by cases h
theorem StepsI.cons {J : Array Bool → Act → World → Prop} {i : Nat} {o : Oper} {is : List Nat} (ho : ops[i]? = some o)
    (h : ∀ (l : Array Bool) (a : Act) (w : World) (K : Act → World → Prop), S w → J l a w → l.getD i true = false → (∀ d, waitsB md ops i d = true → l.getD d false = true) →
      Shut (∀ a w, S w → J (l.setIfInBounds i true) a w → K a w) → if Region.wanted o (yielded ops a.tmps) = true then Oper.wp P o a w K Q else K (a.put o.dst undef) w)
    (hs : StepsI P md ops Q S J is) : StepsI P md ops Q S J (i :: is) := fun j hj => by
  rcases List.mem_cons.1 hj with rfl | hj
  · intro l a w hS hJ hr
    obtain ⟨h0, o', ho', hall⟩ := mem_ready.1 hr
    refine wpOp_step ho (fun K' hK => h l a w K' hS hJ h0 ?_ (fun a w hS hW => hK a w ⟨hS, hW⟩))
    intro d hd
    unfold waitsB at hd
    rw [ho'] at hd
    simp only [Array.any_eq_true'] at hd
    obtain ⟨e, he, hb⟩ := hd
    rw [Bool.and_eq_true] at hb
    have := hall e he hb.1
    rw [eq_of_beq hb.2] at this
    exact this
  · exact hs j hj
theorem wpAnyH_inv0 (D : List Nat) (L : Array Bool) (f0 f1 : Nat) (J : Array Bool → Act → World → Prop)
    (hc : cloB md ops L = true) (hk : chkI md ops L D = true) (hf0 : unl L = f0) (hf1 : unl (mkL L D (D.map fun _ => true)) = f1)
    (hJ : ∀ l a w, J l a w → ∃ T, T.length = D.length ∧ l = mkL L D T) {a : Act} {w : World} (hS : S w) (hi : J L a w) (hs : StepsI P md ops Q S J D)
    (he : ∀ a w, S w → J (mkL L D (D.map fun _ => true)) a w → wpAnyH P md ops Q S f1 (mkL L D (D.map fun _ => true)) a w) : wpAnyH P md ops Q S f0 L a w := by
  have main : ∀ (fuel : Nat) (l : Array Bool) (a : Act) (w : World), unl l = fuel → cloB md ops l = true → S w → J l a w → wpAnyH P md ops Q S fuel l a w := by
    intro fuel
    induction fuel with
    | zero =>
      intro l a w hu hcl hS hj
      obtain ⟨T, hT, rfl⟩ := hJ l a w hj
      have hno : Region.ready md ops (mkL L D T) = [] := by
        cases hr : Region.ready md ops (mkL L D T) with
        | nil => rfl
        | cons i is =>
          have hm : i ∈ Region.ready md ops (mkL L D T) := by rw [hr]; simp
          have := unl_set (mem_ready.1 hm).1
          omega
      have hall : T.all id = true := by
        have h := List.all_eq_true.1 hk T (mem_bools _ _ hT)
        simp only [hcl, hno, Bool.not_true, Bool.false_or, List.isEmpty_nil, Bool.false_and, Bool.or_false] at h
        exact h
      have hTt : T = D.map fun _ => true := by
        apply List.ext_getElem (by simpa using hT)
        intro n h1 h2
        have := List.all_eq_true.1 hall _ (List.getElem_mem h1)
        simpa using this
      subst hTt
      have := he a w hS hj
      rw [← hf1, hu] at this
      exact this
    | succ fuel ih =>
      intro l a w hu hcl hS hj
      obtain ⟨T, hT, rfl⟩ := hJ l a w hj
      have h := List.all_eq_true.1 hk T (mem_bools _ _ hT)
      cases hall : T.all id
      · simp only [hcl, hall, Bool.not_true, Bool.false_or, Bool.and_eq_true, Bool.not_eq_true', List.all_eq_true] at h
        refine ⟨fun h' => by rw [h'] at h; simp at h, fun i hi => ?_⟩
        have hiD : i ∈ D := by simpa using h.2 i hi
        refine wpOp_mono (fun a' w' h3 => ⟨h3.1, ih _ a' w' ?_ (cloB_set hcl hi) h3.1 h3.2⟩) (hs i hiD _ a w hS hj hi)
        have := unl_set (mem_ready.1 hi).1
        omega
      · have hTt : T = D.map fun _ => true := by
          apply List.ext_getElem (by simpa using hT)
          intro n h1 h2
          have := List.all_eq_true.1 hall _ (List.getElem_mem h1)
          simpa using this
        subst hTt
        have := he a w hS hj
        rw [← hf1, hu] at this
        exact this
  exact main f0 L a w hf0 hc hS hi
theorem wpAnyH_inv (D : List Nat) (L L1 : Array Bool) (f0 f1 : Nat) (J : Act → Array Bool → Act → World → Prop) {a : Act} {w : World}
    (hc : cloB md ops L = true) (hk : chkI md ops L D = true) (hf0 : unl L = f0) (hl1 : mkL L D (D.map fun _ => true) = L1) (hf1 : unl L1 = f1)
    (hJ : ∀ l b w, J a l b w → ∃ T, T.length = D.length ∧ l = mkL L D T) (hS : S w) (hi : J a L a w) (hs : StepsI P md ops Q S (J a) D)
    (he : ∀ b w, S w → J a L1 b w → wpAnyH P md ops Q S f1 L1 b w) : wpAnyH P md ops Q S f0 L a w := by
  subst hl1
  exact wpAnyH_inv0 D L f0 f1 (J a) hc hk hf0 hf1 hJ hS hi hs he
/-! ### The same, where behind an operation of D others that are pure are taken first -/
def GoI (P : Program) (md : Region.Mode) (ops : Array Oper) (Q : Exit → Act → World → Prop) (S : World → Prop) (n : Nat) (l : Array Bool) (a : Act) (w : World) : Prop :=
  cloB md ops l = true → unl l ≤ n → wpAnyH P md ops Q S (unl l) l a w
theorem GoI.take {n i : Nat} {oi : Oper} {v : Value} {l : Array Bool} {a : Act} {w : World} (hi : ops[i]? = some oi) (hs : Region.noSelect ops = true) (hf : Region.free md ops l i = true) (hr : (Region.ready md ops l).contains i = true)
    (hQ : ∀ c a w, Q (.panic c) (a.put oi.dst v) w → Q (.panic c) a w) (hy : YieldsIf P ops S oi v a) (hS : S w) (h : GoI P md ops Q S n (l.setIfInBounds i true) (a.put oi.dst v) w) : GoI P md ops Q S n l a w := fun hc hu => by
  have hm : i ∈ Region.ready md ops l := by simpa using hr
  have h1 := unl_set (mem_ready.1 hm).1
  have h2 := h (cloB_set hc hm) (by omega)
  rw [← h1]
  exact wpAnyH_take hi hs hf hr hQ hy hS h2
def StepsG (P : Program) (md : Region.Mode) (ops : Array Oper) (Q : Exit → Act → World → Prop) (S : World → Prop) (J : Array Bool → Act → World → Prop) (is : List Nat) : Prop :=
  ∀ i ∈ is, ∀ n, (∀ l a w, S w → J l a w → GoI P md ops Q S n l a w) → ∀ l a w, S w → J l a w → i ∈ Region.ready md ops l → wpOp P ops Q i (fun a' w' => S w' ∧ GoI P md ops Q S n (l.setIfInBounds i true) a' w') a w
theorem StepsG.nil {J : Array Bool → Act → World → Prop} : StepsG P md ops Q S J [] := fun _ h => by cases h
theorem StepsG.cons {J : Array Bool → Act → World → Prop} {i : Nat} {o : Oper} {is : List Nat} (ho : ops[i]? = some o)
    (h : ∀ (n : Nat) (l : Array Bool) (a : Act) (w : World) (K : Act → World → Prop), Shut (∀ l a w, S w → J l a w → GoI P md ops Q S n l a w) → S w → J l a w → l.getD i true = false → (∀ d, waitsB md ops i d = true → l.getD d false = true) →
      Shut (∀ a w, S w → GoI P md ops Q S n (l.setIfInBounds i true) a w → K a w) → if Region.wanted o (yielded ops a.tmps) = true then Oper.wp P o a w K Q else K (a.put o.dst undef) w)
    (hs : StepsG P md ops Q S J is) : StepsG P md ops Q S J (i :: is) := fun j hj => by
  rcases List.mem_cons.1 hj with rfl | hj
  · intro n IH l a w hS hJ hr
    obtain ⟨h0, o', ho', hall⟩ := mem_ready.1 hr
    refine wpOp_step ho (fun K' hK => h n l a w K' IH hS hJ h0 ?_ (fun a w hS hW => hK a w ⟨hS, hW⟩))
    intro d hd
    unfold waitsB at hd
    rw [ho'] at hd
    simp only [Array.any_eq_true'] at hd
    obtain ⟨e, he, hb⟩ := hd
    rw [Bool.and_eq_true] at hb
    have := hall e he hb.1
    rw [eq_of_beq hb.2] at this
    exact this
  · exact hs j hj
theorem Act.selfs {a b : Act} (h : a = b) (d : Nat) : a = b.put (some d) (a.tmps.getD d undef) := by
  subst h
  unfold Act.put
  rcases Nat.lt_or_ge d a.tmps.size with h | h
  · simp [h, Array.setIfInBounds]
  · simp [Array.setIfInBounds, Nat.not_lt.2 h]
end
end Go.Proofs.YtlmdckcohoddnaaDoor
namespace Go.Proofs.YtlmdckcohoddnaaDoor
open Go.RowKit
set_option maxHeartbeats 16000000 in
set_option maxRecDepth 100000 in
theorem take_no (a : Pl) (x : PlX) (fr st : Int) (b : Option Addr) (n c : Nat) (body : List Int) (w : World) (h : PlR w x a.shares a.keys a.heard) (hM : Ints w b n c body) (hT : Tbl w) (hN : PlN a) (hs : a.step ≤ 2) (hacc : accB a fr st body = false) :
    Calls Tryd.prog 92 #[.agg #[.int .i64 a.P, .int .i64 a.party, .int .i64 a.input, .int .i64 a.mask, .int .i64 a.delta, .slice x.sa x.sn x.sc, .slice x.ka x.kn x.kc, .int .i64 a.step, .slice x.ha x.hn x.hc, .int .i64 a.status, .int .i64 a.out], .agg #[.int .i64 fr, .int .i64 st, .slice b n c]] w fun e w' => ∃ y F, e = .returned (.agg #[.int .i64 a.P, .int .i64 a.party, .int .i64 a.input, .int .i64 a.mask, .int .i64 a.delta, .slice y.sa y.sn y.sc, .slice y.ka y.kn y.kc, .int .i64 a.step, .slice y.ha y.hn y.hc, .int .i64 2, .int .i64 a.out]) ∧ PlO w' w.heap.size y a.shares a.keys (a.heard) F ∧ Below w.heap.size w w' := by
  have CA := Lib.hid (fun (W : World) (h2 : PlR W x a.shares a.keys a.heard) (h3 : Ints W b n c body) (h4 : Tbl W) => accepts_any a x fr st b n c body W h2 h3 h4 hN hs)
  rw [hacc] at CA
  have CP := Lib.hid (fun (W : World) (h2 : PlR W x a.shares a.keys a.heard) => copyPlayer_any a x W h2 hN)
  have LH := Lib.hid h
  have LM := Lib.hid hM
  have LX := Lib.hid hT
  clear h hM hT hs hN hacc
  go_enter Tryd.func92, Tryd.ntmps92
  go_wp2_with fail
  refine Exists.elim (Blk.new_ w (b := w.heap.size) rfl 31 #[.int .i64 a.P, .int .i64 a.party, .int .i64 a.input, .int .i64 a.mask, .int .i64 a.delta, .slice x.sa x.sn x.sc, .slice x.ka x.kn x.kc, .int .i64 a.step, .slice x.ha x.hn x.hc, .int .i64 a.status, .int .i64 a.out]) (fun w1_a0' q => ?_)
  rw [q.1]; have B_a := q.2.1; have s_w1_a0' := q.2.2.1; have u_w1_a0' := q.2.2.2; clear q
  refine Exists.elim (Blk.new_ w1_a0' (b := w.heap.size + 1) s_w1_a0' 44 #[.int .i64 fr, .int .i64 st, .slice b n c]) (fun w1_a1' q => ?_)
  rw [q.1]; have B_m := q.2.1; have s_w1_a1' := q.2.2.1; have u_w1_a1' := q.2.2.2; clear q
  refine Exists.elim (Blk.new_ w1_a1' (b := w.heap.size + 2) s_w1_a1' 31 #[.int .i64 0, .int .i64 0, .int .i64 0, .int .i64 0, .int .i64 0, .slice none 0 0, .slice none 0 0, .int .i64 0, .slice none 0 0, .int .i64 0, .int .i64 0]) (fun w1' q => ?_)
  rw [q.1]; have B_r := q.2.1; have s_w1' := q.2.2.1; have u_w1' := q.2.2.2; clear q
  replace B_a := ((B_a.below u_w1_a1').below u_w1')
  replace B_m := (B_m.below u_w1')
  have U := (u_w1_a0'.trans ((u_w1_a1'.trans (u_w1'.mono u_w1_a1'.size)).mono u_w1_a0'.size))
  have S_w1' : w.heap.size + 3 ≤ w1'.heap.size := Nat.le_of_eq s_w1'.symm
  have V_w1' := (Below.refl w.heap.size w).trans (U.mono ((Below.refl w.heap.size w)).size)
  clear u_w1_a0' u_w1_a1' u_w1' s_w1_a0' s_w1_a1' s_w1' U
  refine (CP.out _ (LH.out.below V_w1')).mono ?_
  rintro e w2' ⟨y, F, rfl, o, u_w2'⟩
  replace B_a := B_a.below u_w2'
  replace B_m := B_m.below u_w2'
  replace B_r := B_r.below u_w2'
  have S_w2' := u_w2'.size
  have V_w2' : Below w.heap.size w w2' := V_w1'.trans (u_w2'.mono V_w1'.size)
  clear V_w1'
  clear u_w2'
  replace o := o.lower (b' := w.heap.size + 3) S_w1'
  have Q_o := Lib.hid o.feet
  go_upto_region 2 with fail
  refine Exists.elim (Blk.new_ w2' (b := w2'.heap.size) rfl 31 #[.int .i64 a.P, .int .i64 a.party, .int .i64 a.input, .int .i64 a.mask, .int .i64 a.delta, .slice y.sa y.sn y.sc, .slice y.ka y.kn y.kc, .int .i64 a.step, .slice y.ha y.hn y.hc, .int .i64 a.status, .int .i64 a.out]) (fun w3' q => ?_)
  rw [q.1]; have B_b := q.2.1; have s_w3' := q.2.2.1; have u_w3' := q.2.2.2; clear q
  replace B_a := B_a.below u_w3'
  replace B_m := B_m.below u_w3'
  replace B_r := B_r.below u_w3'
  replace o := o.below u_w3'
  have S_w3' : w2'.heap.size + 1 ≤ w3'.heap.size := Nat.le_of_eq s_w3'.symm
  have V_w3' := V_w2'.trans (u_w3'.mono (V_w2').size)
  clear u_w3' s_w3' V_w2'
  have e_a := B_a.all11
  have e_m := B_m.all3
  go_wp2_with fail
  clear e_a e_m
  refine (CA.out _ (LH.out.below V_w3') (LM.out.below V_w3') (LX.out.below V_w3')).mono ?_
  rintro e w4' ⟨rfl, u_w4'⟩
  replace B_a := B_a.below u_w4'
  replace B_m := B_m.below u_w4'
  replace B_r := B_r.below u_w4'
  replace B_b := B_b.below u_w4'
  replace o := o.below u_w4'
  have S_w4' := u_w4'.size
  have V_w4' : Below w.heap.size w w4' := V_w3'.trans (u_w4'.mono V_w3'.size)
  clear V_w3'
  clear u_w4'
  have e_b := B_b.all11
  have f_b := B_b.frz11
  have e_r := B_r.all11
  have f_r := B_r.frz11
  go_wp2
  clear e_b f_b e_r f_r
  have g_1 : Only [w2'.heap.size] w4' (w4'.setCell ⟨w2'.heap.size, 9, none⟩ (.int .i64 2)) := (Only.refl _ _).setCell _ _ (by simp)
  replace B_b := B_b.set_ 9 (.int .i64 2)
  generalize w4'.setCell ⟨w2'.heap.size, 9, none⟩ (.int .i64 2) = w5_1' at *
  have G := g_1
  clear g_1
  simp only [List.setIfInBounds_toArray, List.set_cons_zero, List.set_cons_succ] at B_b
  have V_w5'_0 := (V_w4').trans (G.below (V_w4').size (fun q hq => by have := (V_w4').size; simp at hq; omega))
  replace B_a := B_a.only G (by first | (simp; done) | (simp; omega))
  replace B_m := B_m.only G (by first | (simp; done) | (simp; omega))
  replace B_r := B_r.only G (by first | (simp; done) | (simp; omega))
  replace o := o.only G (fun q hq hq' => by have := Q_o.out q hq; simp at hq'; omega)
  have sG0 := G.size
  clear G
  clear V_w4'
  refine Exists.elim (B_r.row11 (.int .i64 a.P) (.int .i64 a.party) (.int .i64 a.input) (.int .i64 a.mask) (.int .i64 a.delta) (.slice y.sa y.sn y.sc) (.slice y.ka y.kn y.kc) (.int .i64 a.step) (.slice y.ha y.hn y.hc) (.int .i64 2) (.int .i64 a.out)) (fun w5' q => ?_)
  rw [q.1]; replace B_r := q.2.1; have G := q.2.2; clear q
  have V_w5' := (V_w5'_0).trans (G.below (V_w5'_0).size (fun q hq => by have := (V_w5'_0).size; simp at hq; omega))
  replace B_a := B_a.only G (by first | (simp; done) | (simp; omega))
  replace B_m := B_m.only G (by first | (simp; done) | (simp; omega))
  replace B_b := B_b.only G (by first | (simp; done) | (simp; omega))
  replace o := o.only G (fun q hq hq' => by have := Q_o.out q hq; simp at hq'; omega)
  have sG1 := G.size
  clear G
  clear V_w5'_0
  have S_w5' : w4'.heap.size + 0 ≤ w5'.heap.size := by omega
  clear sG0 sG1
  have e_r := B_r.all11
  exact bodyPost_ret (v := .agg #[.int .i64 a.P, .int .i64 a.party, .int .i64 a.input, .int .i64 a.mask, .int .i64 a.delta, .slice y.sa y.sn y.sc, .slice y.ka y.kn y.kc, .int .i64 a.step, .slice y.ha y.hn y.hc, .int .i64 2, .int .i64 a.out]) (by simp [results, Tryd.results92, go_sem, e_r]) rfl ⟨y, F, rfl, o.lower (by omega), V_w5'⟩
theorem acc_parts {a : Pl} {fr st : Int} {b : List Int} (h : accB a fr st b = true) : b.length = blen a.step.toNat ∧ ∀ v ∈ b, 0 ≤ v ∧ v ≤ a.P - 1 := by
  unfold accB bodyB at h
  simp only [Bool.and_eq_true, decide_eq_true_eq] at h
  exact ⟨h.2.2.1.1, (allB_iff _ _ _).1 h.2.2.1.2⟩
end Go.Proofs.YtlmdckcohoddnaaDoor
namespace Go.Proofs.YtlmdckcohoddnaaDoor
open Go.RowKit
set_option maxHeartbeats 16000000 in
set_option maxRecDepth 100000 in
theorem take_go (a : Pl) (x : PlX) (fr st : Int) (b : Option Addr) (n c : Nat) (body : List Int) (w : World) (h : PlR w x a.shares a.keys a.heard) (hM : Ints w b n c body) (hT : Tbl w) (hN : PlN a) (hs : a.step ≤ 2) (hacc : accB a fr st body = true) (h2 : a.step < 2) :
    Calls Tryd.prog 92 #[.agg #[.int .i64 a.P, .int .i64 a.party, .int .i64 a.input, .int .i64 a.mask, .int .i64 a.delta, .slice x.sa x.sn x.sc, .slice x.ka x.kn x.kc, .int .i64 a.step, .slice x.ha x.hn x.hc, .int .i64 a.status, .int .i64 a.out], .agg #[.int .i64 fr, .int .i64 st, .slice b n c]] w fun e w' => ∃ y F, e = .returned (.agg #[.int .i64 a.P, .int .i64 a.party, .int .i64 a.input, .int .i64 a.mask, .int .i64 a.delta, .slice y.sa y.sn y.sc, .slice y.ka y.kn y.kc, .int .i64 (a.step + 1), .slice y.ha y.hn y.hc, .int .i64 a.status, .int .i64 a.out]) ∧ PlO w' w.heap.size y a.shares a.keys (a.heard ++ [body]) F ∧ Below w.heap.size w w' := by
  have hnb := hM.len
  subst hnb
  obtain ⟨hbl, hbr⟩ := acc_parts hacc
  have CA := Lib.hid (fun (W : World) (h2 : PlR W x a.shares a.keys a.heard) (h3 : Ints W b body.length c body) (h4 : Tbl W) => accepts_any a x fr st b body.length c body W h2 h3 h4 hN hs)
  rw [hacc] at CA
  have CP := Lib.hid (fun (W : World) (h2 : PlR W x a.shares a.keys a.heard) => copyPlayer_any a x W h2 hN)
  have LH := Lib.hid h
  have LM := Lib.hid hM
  have LX := Lib.hid hT
  have hst := hN.stp
  have hn4 : body.length ≤ 10000000 := by rw [hbl]; have := (blen_bd a.step.toNat).2; omega
  have t1 : IntKind.i64.wrap (a.step + 1) = a.step + 1 := IntWalk.i64_in _ (by omega)
  have hhl := hN.hl
  have d1 : ((a.step == 2) : Bool) = false := by simp; omega
  clear h hM hT hs hN hacc hbl hbr
  go_enter Tryd.func92, Tryd.ntmps92
  go_wp2_with fail
  refine Exists.elim (Blk.new_ w (b := w.heap.size) rfl 31 #[.int .i64 a.P, .int .i64 a.party, .int .i64 a.input, .int .i64 a.mask, .int .i64 a.delta, .slice x.sa x.sn x.sc, .slice x.ka x.kn x.kc, .int .i64 a.step, .slice x.ha x.hn x.hc, .int .i64 a.status, .int .i64 a.out]) (fun w1_a0' q => ?_)
  rw [q.1]; have B_a := q.2.1; have s_w1_a0' := q.2.2.1; have u_w1_a0' := q.2.2.2; clear q
  refine Exists.elim (Blk.new_ w1_a0' (b := w.heap.size + 1) s_w1_a0' 44 #[.int .i64 fr, .int .i64 st, .slice b body.length c]) (fun w1_a1' q => ?_)
  rw [q.1]; have B_m := q.2.1; have s_w1_a1' := q.2.2.1; have u_w1_a1' := q.2.2.2; clear q
  refine Exists.elim (Blk.new_ w1_a1' (b := w.heap.size + 2) s_w1_a1' 31 #[.int .i64 0, .int .i64 0, .int .i64 0, .int .i64 0, .int .i64 0, .slice none 0 0, .slice none 0 0, .int .i64 0, .slice none 0 0, .int .i64 0, .int .i64 0]) (fun w1' q => ?_)
  rw [q.1]; have B_r := q.2.1; have s_w1' := q.2.2.1; have u_w1' := q.2.2.2; clear q
  replace B_a := ((B_a.below u_w1_a1').below u_w1')
  replace B_m := (B_m.below u_w1')
  have U := (u_w1_a0'.trans ((u_w1_a1'.trans (u_w1'.mono u_w1_a1'.size)).mono u_w1_a0'.size))
  have S_w1' : w.heap.size + 3 ≤ w1'.heap.size := Nat.le_of_eq s_w1'.symm
  have V_w1' := (Below.refl w.heap.size w).trans (U.mono ((Below.refl w.heap.size w)).size)
  clear u_w1_a0' u_w1_a1' u_w1' s_w1_a0' s_w1_a1' s_w1' U
  refine (CP.out _ (LH.out.below V_w1')).mono ?_
  rintro e w2' ⟨y, F, rfl, o, u_w2'⟩
  replace B_a := B_a.below u_w2'
  replace B_m := B_m.below u_w2'
  replace B_r := B_r.below u_w2'
  have S_w2' := u_w2'.size
  have V_w2' : Below w.heap.size w w2' := V_w1'.trans (u_w2'.mono V_w1'.size)
  clear V_w1'
  clear u_w2'
  replace o := o.lower (b' := w.heap.size + 3) S_w1'
  have Q_o := Lib.hid o.feet
  go_upto_region 2 with fail
  refine Exists.elim (Blk.new_ w2' (b := w2'.heap.size) rfl 31 #[.int .i64 a.P, .int .i64 a.party, .int .i64 a.input, .int .i64 a.mask, .int .i64 a.delta, .slice y.sa y.sn y.sc, .slice y.ka y.kn y.kc, .int .i64 a.step, .slice y.ha y.hn y.hc, .int .i64 a.status, .int .i64 a.out]) (fun w3' q => ?_)
  rw [q.1]; have B_b := q.2.1; have s_w3' := q.2.2.1; have u_w3' := q.2.2.2; clear q
  replace B_a := B_a.below u_w3'
  replace B_m := B_m.below u_w3'
  replace B_r := B_r.below u_w3'
  replace o := o.below u_w3'
  have S_w3' : w2'.heap.size + 1 ≤ w3'.heap.size := Nat.le_of_eq s_w3'.symm
  have V_w3' := V_w2'.trans (u_w3'.mono (V_w2').size)
  clear u_w3' s_w3' V_w2'
  have e_a := B_a.all11
  have e_m := B_m.all3
  go_wp2_with fail
  clear e_a e_m
  refine (CA.out _ (LH.out.below V_w3') (LM.out.below V_w3') (LX.out.below V_w3')).mono ?_
  rintro e w4' ⟨rfl, u_w4'⟩
  replace B_a := B_a.below u_w4'
  replace B_m := B_m.below u_w4'
  replace B_r := B_r.below u_w4'
  replace B_b := B_b.below u_w4'
  replace o := o.below u_w4'
  have S_w4' := u_w4'.size
  have V_w4' : Below w.heap.size w w4' := V_w3'.trans (u_w4'.mono V_w3'.size)
  clear V_w3'
  clear u_w4'
  obtain ⟨o5, o6, rs, o8, hd, D56, D58, D68, rfl⟩ := o
  have Q_o5 := Lib.hid (fun q (hq : q ∈ foot y.sa y.sc) => Q_o.out q (List.mem_append_left _ hq))
  have Q_o6 := Lib.hid (fun q (hq : q ∈ foot y.ka y.kc) => Q_o.out q (List.mem_append_right _ (List.mem_append_left _ hq)))
  have Q_o8 := Lib.hid (fun q (hq : q ∈ feetSS y.ha y.hc rs) => Q_o.out q (List.mem_append_right _ (List.mem_append_right _ hq)))
  have hrl := o8.reads.len
  have hrn : y.hn ≤ 2 := by have : rs.length = a.heard.length := by rw [← hd, datas_len]
                            omega
  replace hd := Lib.hid hd
  have NN : ∀ q, q ∈ foot y.ha y.hc → w.heap.size + 3 ≤ q ∧ q < w2'.heap.size := fun q hq => (Q_o8.out q (List.mem_append_left _ hq))
  have SL : w.heap.size + 3 ≤ w4'.drew.heap.size := (show w.heap.size + 3 ≤ w4'.heap.size by omega)
  have hM7 := (LM.out.below V_w4').below (Below.refl _ _).drew
  have e_a_7 := B_a.a11_7
  have e_m_2 := B_m.a3_2
  have e_b_8 := B_b.a11_8
  have f_b_8 := B_b.frozen 8
  have e_b_7 := B_b.a11_7
  have f_b_7 := B_b.frozen 7
  go_wp2
  refine wp_region_noPanic ?_
  refine wp_region_held_drew (S := (fun W => Blk W (w.heap.size) 31 #[.int .i64 a.P, .int .i64 a.party, .int .i64 a.input, .int .i64 a.mask, .int .i64 a.delta, .slice x.sa x.sn x.sc, .slice x.ka x.kn x.kc, .int .i64 a.step, .slice x.ha x.hn x.hc, .int .i64 a.status, .int .i64 a.out] ∧ Blk W (w.heap.size + 1) 44 #[.int .i64 fr, .int .i64 st, .slice b body.length c])) (by kernel_rfl) ?hS1 (fun hHeld => ?go1)
  case hS1 => exact ⟨B_a.drew, B_m.drew⟩
  refine tk (i := 0) (oi := ⟨some 31, _, _, _, _, _⟩) (v := ?v0_2) hHeld rfl ?y0_2 ?r0_2
  case y0_2 => (intro w _; first | (go_simp; first | done | with_reducible rfl) | with_reducible rfl)
  (try simp only [pt_])
  refine tk (i := 2) (oi := ⟨some 33, _, _, _, _, _⟩) (v := ?v2_3) hHeld rfl ?y2_3 ?r2_3
  case y2_3 => (intro w _; first | (go_simp; first | done | with_reducible rfl) | with_reducible rfl)
  (try simp only [pt_])
  refine tk (i := 3) (oi := ⟨some 34, _, _, _, _, _⟩) (v := ?v3_4) hHeld rfl ?y3_4 ?r3_4
  case y3_4 => (intro w hSw; obtain ⟨qS0, qS1⟩ := hSw; have cS0 := qS0.all11; have cS1 := qS1.all3; first | (go_simp; first | done | with_reducible rfl) | with_reducible rfl)
  (try simp only [pt_])
  refine tk (i := 7) (oi := ⟨some 38, _, _, _, _, _⟩) (v := ?v7_5) hHeld rfl ?y7_5 ?r7_5
  case y7_5 => (intro w _; first | (go_simp; first | done | with_reducible rfl) | with_reducible rfl)
  (try simp only [pt_])
  refine tk (i := 8) (oi := ⟨some 39, _, _, _, _, _⟩) (v := ?v8_6) hHeld rfl ?y8_6 ?r8_6
  case y8_6 => (intro w hSw; obtain ⟨qS0, qS1⟩ := hSw; have cS0 := qS0.all11; have cS1 := qS1.all3; first | (go_simp; first | done | with_reducible rfl) | with_reducible rfl)
  (try simp only [pt_])
  refine tk (i := 9) (oi := ⟨some 40, _, _, _, _, _⟩) (v := ?v9_7) hHeld rfl ?y9_7 ?r9_7
  case y9_7 => (intro w _; first | (go_simp; first | done | with_reducible rfl) | with_reducible rfl)
  (try simp only [pt_])
  refine wpAnyH_ready (rs := [1, 4]) (by kernel_rfl) (by simp) ?_
  refine AllReadyH.cons (o := ⟨some 32, _, _, _, _, _⟩) rfl (fun K hK => ?_) ?_
  go_simp
  refine hK.out _ _ ?_ (fun hHeld => ?_)
  · (first | exact ⟨A8, M8⟩ | exact ⟨A7, M7⟩ | exact ⟨A9A, M9A⟩ | exact ⟨A9, M9⟩ | exact ⟨B_a.drew, B_m.drew⟩)
  clear hK K
  (try simp only [pt_])
  refine wpAnyH_ready (rs := [4]) (by kernel_rfl) (by simp) ?_
  refine AllReadyH.cons (o := ⟨some 35, _, _, _, _, _⟩) rfl (fun K hK => ?_) ?_
  go_simp
  refine (Clone_any _ _ _ body _ hM7 hn4).mono ?_
  rintro e wz ⟨b9, d9, rfl, o9, u9⟩
  have A9 := Blk.below B_a.drew u9
  have A9A := Blk.alloc A9 (.cells #[.slice b9 body.length d9] 23)
  have M9 := Blk.below B_m.drew u9
  have M9A := Blk.alloc M9 (.cells #[.slice b9 body.length d9] 23)
  have B9 := Blk.below B_b.drew u9
  have B9A := Blk.alloc B9 (.cells #[.slice b9 body.length d9] 23)
  have g9b := B9.cell 8
  have g9B := B9A.cell 8
  focus (try go_wp2_with fail)
  refine hK.out _ _ ?_ (fun hHeld => ?_)
  · (first | exact ⟨A8, M8⟩ | exact ⟨A7, M7⟩ | exact ⟨A9A, M9A⟩ | exact ⟨A9, M9⟩ | exact ⟨B_a.drew, B_m.drew⟩)
  clear hK K
  (try simp only [pt_])
  refine wpAnyH_ready (rs := [5]) (by kernel_rfl) (by simp) ?_
  refine AllReadyH.cons (o := ⟨some 36, _, _, _, _, _⟩) rfl (fun K hK => ?_) ?_
  go_simp
  refine hK.out _ _ ?_ (fun hHeld => ?_)
  · (first | exact ⟨A8, M8⟩ | exact ⟨A7, M7⟩ | exact ⟨A9A, M9A⟩ | exact ⟨A9, M9⟩ | exact ⟨B_a.drew, B_m.drew⟩)
  clear hK K
  (try simp only [pt_])
  refine wpAnyH_ready (rs := [6]) (by kernel_rfl) (by simp) ?_
  refine AllReadyH.cons (o := ⟨some 37, _, _, _, _, _⟩) rfl (fun K hK => ?_) ?_
  have hdj : Disj (foot b9 d9) (feetSS y.ha y.hc rs) := Disj.of_rng o9.feet o8.feet (Or.inr (Nat.le_refl _))
  have own2 := o8.below ((Below.refl _ _).drew.trans u9)
  have o10 := o9.lower (b' := w.heap.size + 3) SL
  have LIT := RowC.lit1 wz (rowV (b9, d9, body)) 23
  have own3 := OwnSS.alloc own2 (.cells #[rowV (b9, d9, body)] 23)
  have o11 := Own.alloc o10 (.cells #[rowV (b9, d9, body)] 23)
  have OO : OwnC (wz.alloc (.cells #[rowV (b9, d9, body)] 23)) (w.heap.size + 3) y.ha y.hn y.hc 23 1 (rs.map rowV) := own3.out
  have szz : w.heap.size + 3 ≤ (wz.alloc (.cells #[rowV (b9, d9, body)] 23)).heap.size := by have := u9.size; simp at *; omega
  refine step_appSS (by rfl) _ _ (by rfl) (w.heap.size + 3) y.ha y.hn y.hc (rs.map rowV) (by rfl) OO _ 1 1 [rowV (b9, d9, body)] (by rfl) LIT (by simp [rowV, Value.oneCell']) (by omega) szz ?_
  intro a7 c7 w7 oc u7 g7 m7
  have A7 := Blk.only A9A (Only.of_grown g7) (fun hq => by have := NN _ hq; omega)
  have M7 := Blk.only M9A (Only.of_grown g7) (fun hq => by have := NN _ hq; omega)
  have B7 := Blk.only B9A (Only.of_grown g7) (fun hq => by have := NN _ hq; omega)
  have j8 := B7.cell 8
  have j7 := B7.cell 7
  have f8 := B7.frozen 8
  have f7 := B7.frozen 7
  refine hK.out _ _ ?_ (fun hHeld => ?_)
  · (first | exact ⟨A8, M8⟩ | exact ⟨A7, M7⟩ | exact ⟨A9A, M9A⟩ | exact ⟨A9, M9⟩ | exact ⟨B_a.drew, B_m.drew⟩)
  clear hK K
  (try simp only [pt_])
  refine tk (i := 10) (oi := ⟨some 41, _, _, _, _, _⟩) (v := ?v10_8) hHeld rfl ?y10_8 ?r10_8
  case y10_8 => (intro w _; first | (go_simp; first | done | with_reducible rfl) | with_reducible rfl)
  (try simp only [pt_])
  refine wpAnyH_ready (rs := [11]) (by kernel_rfl) (by simp) ?_
  refine AllReadyH.cons (o := ⟨none, _, _, _, _, _⟩) rfl (fun K hK => ?_) ?_
  have G8 : Only [w2'.heap.size] w7 (w7.setCell ⟨w2'.heap.size, 8, none⟩ (.slice a7 (y.hn + 1) c7)) := (Only.refl _ _).setCell ⟨w2'.heap.size, 8, none⟩ _ (by simp)
  have A8 := Blk.only A7 G8 (by simp; omega)
  have M8 := Blk.only M7 G8 (by simp; omega)
  have B8 := B7.set_ 8 (.slice a7 (y.hn + 1) c7)
  have k7 := B8.frozen 7
  go_simp
  refine hK.out _ _ ?_ (fun hHeld => ?_)
  · (first | exact ⟨A8, M8⟩ | exact ⟨A7, M7⟩ | exact ⟨A9A, M9A⟩ | exact ⟨A9, M9⟩ | exact ⟨B_a.drew, B_m.drew⟩)
  clear hK K
  (try simp only [pt_])
  refine tk (i := 12) (oi := ⟨some 42, _, _, _, _, _⟩) (v := ?v12_9) hHeld rfl ?y12_9 ?r12_9
  case y12_9 => (intro w _; first | (go_simp; first | done | with_reducible rfl) | with_reducible rfl)
  (try simp only [pt_])
  refine wpAnyH_ready (rs := [13]) (by kernel_rfl) (by simp) ?_
  refine AllReadyH.cons (o := ⟨none, _, _, _, _, _⟩) rfl (fun K hK => ?_) ?_
  go_simp
  refine hK.out _ _ ?_ (fun hHeld => ?_)
  · (exact ⟨Blk.only A8 ((Only.refl [w2'.heap.size] _).setCell ⟨w2'.heap.size, 7, none⟩ _ (by simp)) (by simp; omega), Blk.only M8 ((Only.refl [w2'.heap.size] _).setCell ⟨w2'.heap.size, 7, none⟩ _ (by simp)) (by simp; omega)⟩)
  clear hK K
  (try simp only [pt_])
  refine wpAnyH_done (by kernel_rfl) ?_ _
  refine NoPanic.normal ?_
  rotate_left 1
  exact AllReadyH.nil
  exact AllReadyH.nil
  exact AllReadyH.nil
  exact AllReadyH.nil
  exact AllReadyH.nil
  refine AllReadyH.cons (o := ⟨some 35, _, _, _, _, _⟩) rfl (fun K hK => ?_) ?_
  go_simp
  refine (Clone_any _ _ _ body _ hM7 hn4).mono ?_
  rintro e wz ⟨b9, d9, rfl, o9, u9⟩
  have A9 := Blk.below B_a.drew u9
  have A9A := Blk.alloc A9 (.cells #[.slice b9 body.length d9] 23)
  have M9 := Blk.below B_m.drew u9
  have M9A := Blk.alloc M9 (.cells #[.slice b9 body.length d9] 23)
  have B9 := Blk.below B_b.drew u9
  have B9A := Blk.alloc B9 (.cells #[.slice b9 body.length d9] 23)
  have g9b := B9.cell 8
  have g9B := B9A.cell 8
  focus (try go_wp2_with fail)
  refine hK.out _ _ ?_ (fun hHeld => ?_)
  · (first | exact ⟨A8, M8⟩ | exact ⟨A7, M7⟩ | exact ⟨A9A, M9A⟩ | exact ⟨A9, M9⟩ | exact ⟨B_a.drew, B_m.drew⟩)
  clear hK K
  (try simp only [pt_])
  refine wpAnyH_ready (rs := [1, 5]) (by kernel_rfl) (by simp) ?_
  refine AllReadyH.cons (o := ⟨some 32, _, _, _, _, _⟩) rfl (fun K hK => ?_) ?_
  go_simp
  refine hK.out _ _ ?_ (fun hHeld => ?_)
  · (first | exact ⟨A8, M8⟩ | exact ⟨A7, M7⟩ | exact ⟨A9A, M9A⟩ | exact ⟨A9, M9⟩ | exact ⟨B_a.drew, B_m.drew⟩)
  clear hK K
  (try simp only [pt_])
  refine wpAnyH_ready (rs := [5]) (by kernel_rfl) (by simp) ?_
  refine AllReadyH.cons (o := ⟨some 36, _, _, _, _, _⟩) rfl (fun K hK => ?_) ?_
  go_simp
  refine hK.out _ _ ?_ (fun hHeld => ?_)
  · (first | exact ⟨A8, M8⟩ | exact ⟨A7, M7⟩ | exact ⟨A9A, M9A⟩ | exact ⟨A9, M9⟩ | exact ⟨B_a.drew, B_m.drew⟩)
  clear hK K
  (try simp only [pt_])
  refine wpAnyH_ready (rs := [6]) (by kernel_rfl) (by simp) ?_
  refine AllReadyH.cons (o := ⟨some 37, _, _, _, _, _⟩) rfl (fun K hK => ?_) ?_
  have hdj : Disj (foot b9 d9) (feetSS y.ha y.hc rs) := Disj.of_rng o9.feet o8.feet (Or.inr (Nat.le_refl _))
  have own2 := o8.below ((Below.refl _ _).drew.trans u9)
  have o10 := o9.lower (b' := w.heap.size + 3) SL
  have LIT := RowC.lit1 wz (rowV (b9, d9, body)) 23
  have own3 := OwnSS.alloc own2 (.cells #[rowV (b9, d9, body)] 23)
  have o11 := Own.alloc o10 (.cells #[rowV (b9, d9, body)] 23)
  have OO : OwnC (wz.alloc (.cells #[rowV (b9, d9, body)] 23)) (w.heap.size + 3) y.ha y.hn y.hc 23 1 (rs.map rowV) := own3.out
  have szz : w.heap.size + 3 ≤ (wz.alloc (.cells #[rowV (b9, d9, body)] 23)).heap.size := by have := u9.size; simp at *; omega
  refine step_appSS (by rfl) _ _ (by rfl) (w.heap.size + 3) y.ha y.hn y.hc (rs.map rowV) (by rfl) OO _ 1 1 [rowV (b9, d9, body)] (by rfl) LIT (by simp [rowV, Value.oneCell']) (by omega) szz ?_
  intro a7 c7 w7 oc u7 g7 m7
  have A7 := Blk.only A9A (Only.of_grown g7) (fun hq => by have := NN _ hq; omega)
  have M7 := Blk.only M9A (Only.of_grown g7) (fun hq => by have := NN _ hq; omega)
  have B7 := Blk.only B9A (Only.of_grown g7) (fun hq => by have := NN _ hq; omega)
  have j8 := B7.cell 8
  have j7 := B7.cell 7
  have f8 := B7.frozen 8
  have f7 := B7.frozen 7
  refine hK.out _ _ ?_ (fun hHeld => ?_)
  · (first | exact ⟨A8, M8⟩ | exact ⟨A7, M7⟩ | exact ⟨A9A, M9A⟩ | exact ⟨A9, M9⟩ | exact ⟨B_a.drew, B_m.drew⟩)
  clear hK K
  (try simp only [pt_])
  refine tk (i := 10) (oi := ⟨some 41, _, _, _, _, _⟩) (v := ?v10_10) hHeld rfl ?y10_10 ?r10_10
  case y10_10 => (intro w _; first | (go_simp; first | done | with_reducible rfl) | with_reducible rfl)
  (try simp only [pt_])
  refine wpAnyH_ready (rs := [11]) (by kernel_rfl) (by simp) ?_
  refine AllReadyH.cons (o := ⟨none, _, _, _, _, _⟩) rfl (fun K hK => ?_) ?_
  have G8 : Only [w2'.heap.size] w7 (w7.setCell ⟨w2'.heap.size, 8, none⟩ (.slice a7 (y.hn + 1) c7)) := (Only.refl _ _).setCell ⟨w2'.heap.size, 8, none⟩ _ (by simp)
  have A8 := Blk.only A7 G8 (by simp; omega)
  have M8 := Blk.only M7 G8 (by simp; omega)
  have B8 := B7.set_ 8 (.slice a7 (y.hn + 1) c7)
  have k7 := B8.frozen 7
  go_simp
  refine hK.out _ _ ?_ (fun hHeld => ?_)
  · (first | exact ⟨A8, M8⟩ | exact ⟨A7, M7⟩ | exact ⟨A9A, M9A⟩ | exact ⟨A9, M9⟩ | exact ⟨B_a.drew, B_m.drew⟩)
  clear hK K
  (try simp only [pt_])
  refine tk (i := 12) (oi := ⟨some 42, _, _, _, _, _⟩) (v := ?v12_11) hHeld rfl ?y12_11 ?r12_11
  case y12_11 => (intro w _; first | (go_simp; first | done | with_reducible rfl) | with_reducible rfl)
  (try simp only [pt_])
  refine wpAnyH_ready (rs := [13]) (by kernel_rfl) (by simp) ?_
  refine AllReadyH.cons (o := ⟨none, _, _, _, _, _⟩) rfl (fun K hK => ?_) ?_
  go_simp
  refine hK.out _ _ ?_ (fun hHeld => ?_)
  · (exact ⟨Blk.only A8 ((Only.refl [w2'.heap.size] _).setCell ⟨w2'.heap.size, 7, none⟩ _ (by simp)) (by simp; omega), Blk.only M8 ((Only.refl [w2'.heap.size] _).setCell ⟨w2'.heap.size, 7, none⟩ _ (by simp)) (by simp; omega)⟩)
  clear hK K
  (try simp only [pt_])
  refine wpAnyH_done (by kernel_rfl) ?_ _
  refine NoPanic.normal ?_
  rotate_left 1
  exact AllReadyH.nil
  exact AllReadyH.nil
  exact AllReadyH.nil
  exact AllReadyH.nil
  refine AllReadyH.cons (o := ⟨some 36, _, _, _, _, _⟩) rfl (fun K hK => ?_) ?_
  go_simp
  refine hK.out _ _ ?_ (fun hHeld => ?_)
  · (first | exact ⟨A8, M8⟩ | exact ⟨A7, M7⟩ | exact ⟨A9A, M9A⟩ | exact ⟨A9, M9⟩ | exact ⟨B_a.drew, B_m.drew⟩)
  clear hK K
  (try simp only [pt_])
  refine wpAnyH_ready (rs := [1]) (by kernel_rfl) (by simp) ?_
  refine AllReadyH.cons (o := ⟨some 32, _, _, _, _, _⟩) rfl (fun K hK => ?_) ?_
  go_simp
  refine hK.out _ _ ?_ (fun hHeld => ?_)
  · (first | exact ⟨A8, M8⟩ | exact ⟨A7, M7⟩ | exact ⟨A9A, M9A⟩ | exact ⟨A9, M9⟩ | exact ⟨B_a.drew, B_m.drew⟩)
  clear hK K
  (try simp only [pt_])
  refine wpAnyH_ready (rs := [6]) (by kernel_rfl) (by simp) ?_
  refine AllReadyH.cons (o := ⟨some 37, _, _, _, _, _⟩) rfl (fun K hK => ?_) ?_
  have hdj : Disj (foot b9 d9) (feetSS y.ha y.hc rs) := Disj.of_rng o9.feet o8.feet (Or.inr (Nat.le_refl _))
  have own2 := o8.below ((Below.refl _ _).drew.trans u9)
  have o10 := o9.lower (b' := w.heap.size + 3) SL
  have LIT := RowC.lit1 wz (rowV (b9, d9, body)) 23
  have own3 := OwnSS.alloc own2 (.cells #[rowV (b9, d9, body)] 23)
  have o11 := Own.alloc o10 (.cells #[rowV (b9, d9, body)] 23)
  have OO : OwnC (wz.alloc (.cells #[rowV (b9, d9, body)] 23)) (w.heap.size + 3) y.ha y.hn y.hc 23 1 (rs.map rowV) := own3.out
  have szz : w.heap.size + 3 ≤ (wz.alloc (.cells #[rowV (b9, d9, body)] 23)).heap.size := by have := u9.size; simp at *; omega
  refine step_appSS (by rfl) _ _ (by rfl) (w.heap.size + 3) y.ha y.hn y.hc (rs.map rowV) (by rfl) OO _ 1 1 [rowV (b9, d9, body)] (by rfl) LIT (by simp [rowV, Value.oneCell']) (by omega) szz ?_
  intro a7 c7 w7 oc u7 g7 m7
  have A7 := Blk.only A9A (Only.of_grown g7) (fun hq => by have := NN _ hq; omega)
  have M7 := Blk.only M9A (Only.of_grown g7) (fun hq => by have := NN _ hq; omega)
  have B7 := Blk.only B9A (Only.of_grown g7) (fun hq => by have := NN _ hq; omega)
  have j8 := B7.cell 8
  have j7 := B7.cell 7
  have f8 := B7.frozen 8
  have f7 := B7.frozen 7
  refine hK.out _ _ ?_ (fun hHeld => ?_)
  · (first | exact ⟨A8, M8⟩ | exact ⟨A7, M7⟩ | exact ⟨A9A, M9A⟩ | exact ⟨A9, M9⟩ | exact ⟨B_a.drew, B_m.drew⟩)
  clear hK K
  (try simp only [pt_])
  refine tk (i := 10) (oi := ⟨some 41, _, _, _, _, _⟩) (v := ?v10_12) hHeld rfl ?y10_12 ?r10_12
  case y10_12 => (intro w _; first | (go_simp; first | done | with_reducible rfl) | with_reducible rfl)
  (try simp only [pt_])
  refine wpAnyH_ready (rs := [11]) (by kernel_rfl) (by simp) ?_
  refine AllReadyH.cons (o := ⟨none, _, _, _, _, _⟩) rfl (fun K hK => ?_) ?_
  have G8 : Only [w2'.heap.size] w7 (w7.setCell ⟨w2'.heap.size, 8, none⟩ (.slice a7 (y.hn + 1) c7)) := (Only.refl _ _).setCell ⟨w2'.heap.size, 8, none⟩ _ (by simp)
  have A8 := Blk.only A7 G8 (by simp; omega)
  have M8 := Blk.only M7 G8 (by simp; omega)
  have B8 := B7.set_ 8 (.slice a7 (y.hn + 1) c7)
  have k7 := B8.frozen 7
  go_simp
  refine hK.out _ _ ?_ (fun hHeld => ?_)
  · (first | exact ⟨A8, M8⟩ | exact ⟨A7, M7⟩ | exact ⟨A9A, M9A⟩ | exact ⟨A9, M9⟩ | exact ⟨B_a.drew, B_m.drew⟩)
  clear hK K
  (try simp only [pt_])
  refine tk (i := 12) (oi := ⟨some 42, _, _, _, _, _⟩) (v := ?v12_13) hHeld rfl ?y12_13 ?r12_13
  case y12_13 => (intro w _; first | (go_simp; first | done | with_reducible rfl) | with_reducible rfl)
  (try simp only [pt_])
  refine wpAnyH_ready (rs := [13]) (by kernel_rfl) (by simp) ?_
  refine AllReadyH.cons (o := ⟨none, _, _, _, _, _⟩) rfl (fun K hK => ?_) ?_
  go_simp
  refine hK.out _ _ ?_ (fun hHeld => ?_)
  · (exact ⟨Blk.only A8 ((Only.refl [w2'.heap.size] _).setCell ⟨w2'.heap.size, 7, none⟩ _ (by simp)) (by simp; omega), Blk.only M8 ((Only.refl [w2'.heap.size] _).setCell ⟨w2'.heap.size, 7, none⟩ _ (by simp)) (by simp; omega)⟩)
  clear hK K
  (try simp only [pt_])
  refine wpAnyH_done (by kernel_rfl) ?_ _
  refine NoPanic.normal ?_
  rotate_left 1
  exact AllReadyH.nil
  exact AllReadyH.nil
  exact AllReadyH.nil
  exact AllReadyH.nil
  exact AllReadyH.nil
  exact AllReadyH.nil
  all_goals
    have own4 := own3.push (r := (b9, d9, body)) o11 hdj oc g7 m7
    have hd5 : datas' (rs ++ [(b9, d9, body)]) = a.heard ++ [body] := by rw [← hd.out]; simp [datas']
    replace hd5 := Lib.hid hd5
    have uA : Below w4'.heap.size w4' wz := (Below.refl _ _).drew.trans u9
    have Q9 := Lib.hid o9.feet
    have SW := V_w4'.size
    have E5 : Disj (foot y.sa y.sc) (feetSS a7 c7 (rs ++ [(b9, d9, body)])) := push_feet D58 (fun q hq hq' => by have := Q_o5.out q hq; have := (Q9.out q hq').1; simp at this; omega) m7 (fun q hq => by have := Q_o5.out q hq; have := uA.size; simp; omega)
    have E6 : Disj (foot y.ka y.kc) (feetSS a7 c7 (rs ++ [(b9, d9, body)])) := push_feet D68 (fun q hq hq' => by have := Q_o6.out q hq; have := (Q9.out q hq').1; simp at this; omega) m7 (fun q hq => by have := Q_o6.out q hq; have := uA.size; simp; omega)
    have E7 : Disj [w2'.heap.size] (feetSS a7 c7 (rs ++ [(b9, d9, body)])) := push_feet (fun q hq hq' => by have := Q_o8.out q hq'; simp at hq; omega) (fun q hq hq' => by have := (Q9.out q hq').1; simp at this hq; omega) m7 (fun q hq => by have := uA.size; simp at hq ⊢; omega)
    have Q_own4 := Lib.hid (fun q (hq : q ∈ feetSS a7 c7 (rs ++ [(b9, d9, body)])) => (show (w.heap.size + 3 ≤ q ∧ q < w7.heap.size) ∧ q ≠ w2'.heap.size from ⟨own4.feet q hq, fun e => E7 q (by simp [e]) hq⟩))
    clear own2 o9 o10 o11 own3 oc u9 m7 hdj LIT OO szz A9 M9 B9 A9A M9A B9A g9b g9B A7 M7 B7 j8 j7 f8 f7 G8 A8 M8 B8 k7 hM7 Q9 o8
    clear e_a_7 e_m_2 e_b_8 f_b_8 e_b_7 f_b_7
    replace B_a := B_a.below uA
    replace B_m := B_m.below uA
    replace B_r := B_r.below uA
    replace B_b := B_b.below uA
    replace o5 := o5.below uA
    replace o6 := o6.below uA
    have S_wz := uA.size
    have V_wz : Below w.heap.size w wz := V_w4'.trans (uA.mono V_w4'.size)
    clear V_w4'
    clear uA
    refine Exists.elim (Blk.new_ wz (b := wz.heap.size) rfl 23 #[.slice b9 body.length d9]) (fun w5' q => ?_)
    (try rw [q.1] at g7); (try rw [q.1] at u7); (try rw [q.1]); have B_z := q.2.1; have s_w5' := q.2.2.1; have u_w5' := q.2.2.2; clear q
    replace B_a := B_a.below u_w5'
    replace B_m := B_m.below u_w5'
    replace B_r := B_r.below u_w5'
    replace B_b := B_b.below u_w5'
    replace o5 := o5.below u_w5'
    replace o6 := o6.below u_w5'
    have S_w5' : wz.heap.size + 1 ≤ w5'.heap.size := Nat.le_of_eq s_w5'.symm
    have V_w5' := V_wz.trans (u_w5'.mono (V_wz).size)
    clear u_w5' s_w5' V_wz
    clear B_z
    have oG := Only.of_grown g7
    have V_w7 : Below w.heap.size w w7 := V_w5'.trans (u7.mono (show w.heap.size ≤ w.heap.size + 3 by omega))
    replace B_a := Blk.only B_a oG (fun hq => by have := NN _ hq; omega)
    replace B_m := Blk.only B_m oG (fun hq => by have := NN _ hq; omega)
    replace B_r := Blk.only B_r oG (fun hq => by have := NN _ hq; omega)
    replace B_b := Blk.only B_b oG (fun hq => by have := NN _ hq; omega)
    replace o5 := OwnF.only o5 oG (fun q hq hq' => D58 q hq (List.mem_append_left _ hq'))
    replace o6 := o6.only oG (fun q hq hq' => D68 q hq (List.mem_append_left _ hq'))
    have SLw := oG.size
    clear oG u7 g7 NN
    have g_1 : Only [w2'.heap.size] w7 (w7.setCell ⟨w2'.heap.size, 8, none⟩ (.slice a7 (y.hn + 1) c7)) := (Only.refl _ _).setCell _ _ (by simp)
    replace B_b := B_b.set_ 8 (.slice a7 (y.hn + 1) c7)
    generalize w7.setCell ⟨w2'.heap.size, 8, none⟩ (.slice a7 (y.hn + 1) c7) = w6_1' at *
    have G := g_1
    clear g_1
    have g_2 : Only [w2'.heap.size] w6_1' (w6_1'.setCell ⟨w2'.heap.size, 7, none⟩ (.int .i64 (a.step + 1))) := (Only.refl _ _).setCell _ _ (by simp)
    replace B_b := B_b.set_ 7 (.int .i64 (a.step + 1))
    generalize w6_1'.setCell ⟨w2'.heap.size, 7, none⟩ (.int .i64 (a.step + 1)) = w6' at *
    replace G := G.trans g_2
    clear g_2
    simp only [List.setIfInBounds_toArray, List.set_cons_zero, List.set_cons_succ] at B_b
    have V_w6' := (V_w7).trans (G.below (V_w7).size (fun q hq => by have := (V_w7).size; simp at hq; omega))
    replace B_a := B_a.only G (by first | (simp; done) | (simp; omega))
    replace B_m := B_m.only G (by first | (simp; done) | (simp; omega))
    replace B_r := B_r.only G (by first | (simp; done) | (simp; omega))
    replace o5 := o5.only G (fun q hq hq' => by have := Q_o5.out q hq; simp at hq'; omega)
    replace o6 := o6.only G (fun q hq hq' => by have := Q_o6.out q hq; simp at hq'; omega)
    replace own4 := own4.only G (fun q hq hq' => by have := Q_own4.out q hq; simp at hq'; omega)
    have sG0 := G.size
    clear G
    clear V_w7
    have S_w6' : w7.heap.size + 0 ≤ w6'.heap.size := by omega
    clear sG0
    have e_b := B_b.all11
    have e_r := B_r.all11
    have f_r := B_r.frz11
    go_wp2
    clear e_b e_r f_r
    refine Exists.elim (B_r.row11 (.int .i64 a.P) (.int .i64 a.party) (.int .i64 a.input) (.int .i64 a.mask) (.int .i64 a.delta) (.slice y.sa y.sn y.sc) (.slice y.ka y.kn y.kc) (.int .i64 (a.step + 1)) (.slice a7 (y.hn + 1) c7) (.int .i64 a.status) (.int .i64 a.out)) (fun w7' q => ?_)
    rw [q.1]; replace B_r := q.2.1; have G := q.2.2; clear q
    have V_w7' := (V_w6').trans (G.below (V_w6').size (fun q hq => by have := (V_w6').size; simp at hq; omega))
    replace B_a := B_a.only G (by first | (simp; done) | (simp; omega))
    replace B_m := B_m.only G (by first | (simp; done) | (simp; omega))
    replace B_b := B_b.only G (by first | (simp; done) | (simp; omega))
    replace o5 := o5.only G (fun q hq hq' => by have := Q_o5.out q hq; simp at hq'; omega)
    replace o6 := o6.only G (fun q hq hq' => by have := Q_o6.out q hq; simp at hq'; omega)
    replace own4 := own4.only G (fun q hq hq' => by have := Q_own4.out q hq; simp at hq'; omega)
    have sG0 := G.size
    clear G
    clear V_w6'
    have S_w7' : w6'.heap.size + 0 ≤ w7'.heap.size := by omega
    clear sG0
    have e_r := B_r.all11
    exact bodyPost_ret (v := .agg #[.int .i64 a.P, .int .i64 a.party, .int .i64 a.input, .int .i64 a.mask, .int .i64 a.delta, .slice y.sa y.sn y.sc, .slice y.ka y.kn y.kc, .int .i64 (a.step + 1), .slice a7 (y.hn + 1) c7, .int .i64 a.status, .int .i64 a.out]) (by simp [results, Tryd.results92, go_sem, e_r]) rfl ⟨⟨y.sa, y.sn, y.sc, y.ka, y.kn, y.kc, a7, y.hn + 1, c7⟩, _, rfl, ⟨OwnF.lower o5 (by omega), o6.lower (by omega), _, own4.lower (by omega), hd5.out, D56, E5, E6, rfl⟩, V_w7'⟩
end Go.Proofs.YtlmdckcohoddnaaDoor
