/- Lemmas and walks that the claim's proof rests on, part 6. -/
import Derived.OwnWalkIn
import Derived.Shelf.RegionOpen
import Derived.Deep.DeepCutAuto
import Derived.Deep.RegionLaw
import Derived.Test.YtkbhigdciokfkaaK4
import Derived.Test.YtkbhigdciokfkaaK5
namespace Go.Proofs.Ytkbhigdciokfkaa
open Go.RowKit
set_option maxHeartbeats 4000000 in
set_option maxRecDepth 100000 in
theorem number_same (a : Option Addr) (n c : Nat) (l : List Int) (w : World) (h : Ints w a n c l) (hb : Bt l) (hn : n ≤ 4) :
    Calls Try.prog 124 #[.slice a n c] w fun e w' => e = .returned (.int .i64 (num l)) ∧ w' = w := by
  have HL := Lib.hid h.len
  have HT := Lib.hid hb.take
  have HB := Lib.hid hb.at
  clear hb
  go_enter Try.func124, Try.ntmps124
  go_wp2
  go_loop [8, 3] (fun v u => ∃ k : Nat, k ≤ n ∧ v = .int .i64 k ∧ u = .int .i64 (num (l.take k))) (fun v _ => n - (intOf v).toNat)
  case atStart => exact ⟨0, Nat.zero_le _, rfl, rfl⟩
  case round =>
    obtain ⟨k, hkn, rfl, rfl⟩ := hrel
    by_cases hlt : k < n
    · obtain ⟨g, o, rfl, e0⟩ := h.at k hlt
      have hlen := HL.out
      have hx := HB.out k
      have HS := Lib.hid (num_take l k (by omega))
      obtain ⟨r0, r1⟩ := num_rng (HT.out k) (by rw [List.length_take]; omega)
      rw [List.length_take, Nat.min_eq_left (by omega)] at r1
      generalize num (l.take k) = N at *
      generalize l.getD k 0 = x at *
      have t3 := or_bit N x k r0 r1 (by omega) hx
      have t2 : IntKind.u64.wrap (k : Int) = (k : Int) := IntWalk.u64_in _ (by omega)
      have hp : (2 : Int) ^ k ≤ 8 ∧ (1 : Int) ≤ 2 ^ k := by rcases (by omega : k = 0 ∨ k = 1 ∨ k = 2 ∨ k = 3) with rfl | rfl | rfl | rfl <;> simp
      have hm : 0 ≤ x * 2 ^ k ∧ x * 2 ^ k ≤ 8 := by rcases hx with rfl | rfl <;> omega
      have t1 : wrap64 (x * 2 ^ k) = x * 2 ^ k := IntWalk.wrap64_in _ (by omega)
      have T := Lib.hid (show bits BinOp.or IntKind.i64 N (wrap64 (x * 2 ^ k)) = num (l.take (k + 1)) by rw [t1, t3, HS.out])
      have hk64 : (k : Int) < 64 := by omega
      clear hx r0 r1 hp hm t3 t1 HS
      go_wp2
      go_round
      case rel => exact ⟨k + 1, by omega, by go_num, v_int T.out⟩
      case measure => simp [intOf]; omega
    · obtain rfl : k = n := by omega
      have HX := Lib.hid (show num (l.take k) = num l by rw [List.take_of_length_le (by have := HL.out; omega)])
      go_wp2
      go_ret
      exact ⟨ret_int HX.out, rfl⟩
theorem stepIn_appI {F : Fence} {nn : Nat} (w : World) {ops : Array Oper} {o : Oper} {act : Act} {K : Act → World → Prop} {Q : Exit → Act → World → Prop} {E : Prop} (hgd : o.guard = none) (s x : Operand)
    (ho : o.op = .call { callee := .builtin .append, args := #[s, x], argTypes := #[23, 23] })
    (b : Nat) (a : Option Addr) (n c : Nat) (l : List Int) (hs : act.eval s = .slice a n c) (hown : Own w b a n c l)
    (a' : Option Addr) (m c' : Nat) (l' : List Int) (hx : act.eval x = .slice a' m c') (hrow : Ints w a' m c' l')
    (hlen : n + m ≤ 1000000000000) (hbase : b ≤ w.heap.size)
    (h : ∀ a2 c2 w', Own w' b a2 (n + m) c2 (l ++ l') → Below b w w' → w.grownBy w' (rowOf a c) → K (act.put o.dst (.slice a2 (n + m) c2)) w') :
    if Region.wanted o (yielded ops act.tmps) = true then Oper.wpIn F nn Try.prog o act w K Q else E := by
  rw [if_pos (by simp [Region.wanted, hgd])]
  obtain ⟨a2, c2, w', hrun, h1, h2, h3, _⟩ := run_appI w o.type b a n c l hown a' m c' l' hrow hlen hbase
  unfold Oper.wpIn
  refine ⟨?_, ?_⟩
  · simp [Oper.about, ho, resolve, Target.leads, Sem.run_pure]
  · rw [Oper.semAt_plain F _ _ (by rw [ho]; intro c hc'; cases hc')]
    simp [execOp, ho, resolve, invoke, builtin, hs, hx, hrun, Result.andThen]
    exact h a2 c2 w' h1 h2 h3
end Go.Proofs.Ytkbhigdciokfkaa
namespace Go.Proofs.Ytkbhigdciokfkaa
open Go.RowKit Go.Shelf
theorem keepL {B : Nat} {w w' : World} {p : Addr} {v : Value} (u : Below B w w') (hb : p.block < B) (h : w.cell? p = some v) : w'.cell? p = some v := (u.cell hb).trans h
theorem Own.keptR {w w' : World} {row : Option Nat} {b : Nat} {a : Option Addr} {n c : Nat} {l : List Int} (h : Own w b a n c l) (hg : w.grownBy w' row) (hr : ∀ r, row = some r → ∃ o : Obj, w.heap[r]? = some o ∧ o.isCells = false) : Own w' b a n c l :=
  ⟨h.1, h.2.1, h.2.2.1, h.2.2.2.1, fun hc => by
    obtain ⟨g, cur, e1, e2, e3, e4⟩ := h.2.2.2.2 hc
    refine ⟨g, cur, e1, e2, (hg.block g (Array.getElem?_eq_some_iff.1 e3).1 (fun e => ?_)).trans e3, e4⟩
    obtain ⟨o, ho, hc2⟩ := hr g e.symm
    rw [e3] at ho
    cases ho
    cases hc2⟩
theorem Own.rowCells {w : World} {b : Nat} {a : Option Addr} {n c : Nat} {l : List Int} (h : Own w b a n c l) : ∀ j o, rowOf a c = some j → w.heap[j]? = some o → o.isCells = true := fun j o hj ho => by
  unfold rowOf at hj
  split at hj
  · cases hj
  · obtain ⟨g, cur, e1, e2, e3, e4⟩ := h.2.2.2.2 (by omega)
    subst e1
    simp at hj
    subst hj
    rw [e3] at ho
    cases ho
    rfl
theorem cell_far (w : World) (p q : Addr) (u : Value) (h : q.block ≠ p.block) : (w.setCell p u).cell? q = w.cell? q := by unfold World.cell?; rw [Below.heap_setCell w p u q.block h]
theorem cnL_range (l : List Int) (w m : Nat) : cnL l w m = (List.range m).map fun k => num ((l.drop (k * w)).take w) := by
  induction m with
  | zero => rfl
  | succ m ih => rw [cnL_succ, ih, List.range_succ, List.map_append]; rfl
set_option maxHeartbeats 8000000 in
set_option maxRecDepth 100000 in
theorem runMemory_any (i0 i1 : Int) (ga : Option Addr) (gn gc : Nat) (oa : Option Addr) (on oc : Nat) (wd : Nat) (a : Option Addr) (n c : Nat) (wa : Option Addr) (wn wc : Nat) (G O l wo : List Int) (m : Nat) (w : World)
    (hg : Flat 3 w ga gn gc G) (hO : Ints w oa on oc O) (h : Ints w a n c l) (hwo : Ints w wa wn wc wo)
    (hk : ∀ j, j < gn → gbB (G.getD (j * 3) 0) (G.getD (j * 3 + 1) 0) (G.getD (j * 3 + 2) 0) ((n * wd + wn + j : Nat) : Int) = true) (hr : ∀ x ∈ O, 0 ≤ x ∧ x ≤ ((n * wd + wn + gn : Nat) : Int) - 1)
    (hb : Bt wo) (hl : ∀ x ∈ l, 0 ≤ x ∧ x ≤ 1000000000) (hn : n ≤ 8) (hw : 1 ≤ wd ∧ wd ≤ 4) (hwn : wn ≤ 8) (hgn : gn ≤ 1000) (hm : m ≤ 100) (hon : on = m * wd) :
    Calls Try.prog 80 #[.agg #[.int .i64 i0, .int .i64 i1, .slice ga gn gc, .slice oa on oc], .int .i64 wd, .slice a n c, .slice wa wn wc] w fun e w' => ∃ a1 c1, e = .returned (.slice a1 m c1) ∧ Own w' w.heap.size a1 m c1 (cnL (pkL (evL G (cbL l wd n ++ wo) gn) O on) wd m) ∧ Below w.heap.size w w' := by
  have hnw : n * wd ≤ 8 * 4 := Nat.mul_le_mul hn hw.2
  have hon4 : on ≤ 100 * 4 := by rw [hon]; exact Nat.mul_le_mul hm hw.2
  have HON := Lib.hid hon
  have HK := Lib.hid hk
  have HR := Lib.hid hr
  have HRL := Lib.hid hl
  have HL := Lib.hid h.len
  have HBV := Lib.hid ((cbL_bits l wd n).app hb)
  clear hk hr hon hl hb
  have V0 : Below w.heap.size w (w.alloc (.cells #[.int .i64 i0, .int .i64 i1, .slice ga gn gc, .slice oa on oc] 25)) := (Below.refl _ _).alloc (Nat.le_refl _) _
  have R0 : Blk (w.alloc (.cells #[.int .i64 i0, .int .i64 i1, .slice ga gn gc, .slice oa on oc] 25)) w.heap.size 25 #[.int .i64 i0, .int .i64 i1, .slice ga gn gc, .slice oa on oc] := Blk.new w _ _
  have hz0 : w.heap.size < (w.alloc (.cells #[.int .i64 i0, .int .i64 i1, .slice ga gn gc, .slice oa on oc] 25)).heap.size := by simp
  refine (callsIn_wide (n := 3)).1 ?_
  refine callsIn_of_wp_marks Try.func80 rfl trivial ?_ rfl
  simp only [Try.ntmps80, List.size_toArray, List.length_cons, List.length_nil, Nat.reduceAdd, Nat.reduceSub, Array.replicate_succ, Array.replicate_zero, List.push_toArray, List.append_toArray, List.nil_append, List.cons_append]
  refine wpIn_wide.2 ?_
  go_upto_region 1 with fail
  generalize (w.alloc (.cells #[.int .i64 i0, .int .i64 i1, .slice ga gn gc, .slice oa on oc] 25)) = w0 at *
  have own0 : Own (w0.alloc (.cells #[] 3)) w0.heap.size (some ⟨w0.heap.size, 0, none⟩) 0 0 (cbL l wd 0) := Own.nil0 _ _ _
  have bel0 : Below w0.heap.size w0 (w0.alloc (.cells #[] 3)) := (Below.refl _ _).alloc (Nat.le_refl _) _
  go_wp2
  go_loopw [18, 9] (fun v u wr => ∃ k : Nat, k ≤ n ∧ v = .int .i64 k ∧ Below w0.heap.size w0 wr ∧ ∃ a1 c1 K, u = .slice a1 K c1 ∧ K = k * wd ∧ Own wr w0.heap.size a1 K c1 (cbL l wd k)) (fun v _ _ => n - (intOf v).toNat)
  case atStart => exact ⟨0, Nat.zero_le _, rfl, bel0, _, _, 0, rfl, by simp, own0⟩
  case round =>
    obtain ⟨k, hkn, rfl, hbel, a1, c1, K, rfl, hK, own⟩ := hrel
    clear own0 bel0
    by_cases hlt : k < n
    · have ro := HRL.out _ (getD_mem l k (by rw [← HL.out]; omega))
      have HS := Lib.hid (cbL_succ l wd k)
      have HK1 := Lib.hid (show K + wd = (k + 1) * wd by rw [hK, Nat.succ_mul])
      have hKb : K ≤ 6000 := by rw [hK]; exact Nat.le_trans (Nat.mul_le_mul (show k ≤ 100 by omega) (show wd ≤ 60 by omega)) (by decide)
      clear hK
      obtain ⟨g, o, rfl, e1⟩ := (h.below (V0.trans (hbel.mono V0.size))).at k hlt
      have hwd60 : wd ≤ 60 := by omega
      generalize l.getD k 0 = x at *
      go_wp2_with fail
      refine (bitsOf_any x wd _ ro hwd60).mono ?_; rintro e w2 ⟨a2, c2, rfl, o2, u2⟩
      have own2 := own.below u2
      have bel2 := hbel.trans (u2.mono hbel.size)
      clear own u2 e1
      go_wp2_with (at_builtin; refine wpList_appI _ rfl _ _ rfl w0.heap.size a1 K c1 (cbL l wd k) rfl own2 _ wd c2 (btL x wd) rfl o2.ints (by omega) bel2.size ?_)
      intro a5 c5 w3 o5 u5 _
      rw [← HS.out, HK1.out] at o5
      have b3 := bel2.trans u5
      clear u5 hbel own2 bel2 o2
      go_wp2
      go_roundw
      case rel => exact ⟨k + 1, by omega, by go_num, b3, a5, c5, _, rfl, HK1.out, by rw [HK1.out]; exact o5⟩
      case measure => simp [intOf]; omega
    · obtain rfl : k = n := by omega
      subst hK
      go_upto_region 7 with fail
      have Vr := V0.trans (hbel.mono V0.size)
      have Rr := R0.below (hbel.mono (Nat.le_refl _))
      have x0 : wr.cell? ⟨w.heap.size, 0, none⟩ = some (.int .i64 i0) := Rr.cell 0
      have x1 : wr.cell? ⟨w.heap.size, 1, none⟩ = some (.int .i64 i1) := Rr.cell 1
      have x2 : wr.cell? ⟨w.heap.size, 2, none⟩ = some (.slice ga gn gc) := Rr.cell 2
      have x3 : wr.cell? ⟨w.heap.size, 3, none⟩ = some (.slice oa on oc) := Rr.cell 3
      have hgr := hg.below Vr
      have hOr := hO.below Vr
      have hwr := hwo.below Vr
      have hzr := hbel.size
      have Br := hbel
      clear R0 Rr HRL HL h hlt hkn hbel
      obtain ⟨K, hK⟩ : ∃ K, K = k * wd := ⟨_, rfl⟩
      rw [← hK] at hnw HK HR own
      obtain ⟨cb, hcb⟩ : ∃ cb, cb = cbL l wd k := ⟨_, rfl⟩
      rw [← hcb] at own HBV
      have HCB := Lib.hid hcb
      clear hcb
      go_region_held3 (fun W => W.cell? ⟨w.heap.size, 0, none⟩ = some (.int .i64 i0) ∧ W.cell? ⟨w.heap.size, 1, none⟩ = some (.int .i64 i1) ∧ W.cell? ⟨w.heap.size, 2, none⟩ = some (.slice ga gn gc) ∧ W.cell? ⟨w.heap.size, 3, none⟩ = some (.slice oa on oc))
        (first | exact ⟨keepC u5 (keepC u4 (keepL u3 hz0 x0)), keepC u5 (keepC u4 (keepL u3 hz0 x1)), keepC u5 (keepC u4 (keepL u3 hz0 x2)), keepC u5 (keepC u4 (keepL u3 hz0 x3))⟩ | exact ⟨keepC u4 (keepL u3 hz0 x0), keepC u4 (keepL u3 hz0 x1), keepC u4 (keepL u3 hz0 x2), keepC u4 (keepL u3 hz0 x3)⟩ | exact ⟨keepL u3 hz0 x0, keepL u3 hz0 x1, keepL u3 hz0 x2, keepL u3 hz0 x3⟩ | go_keep)
        (first | (refine step_appI _ (by rfl) _ _ (by rfl) w0.heap.size a1 (k * wd) c1 cb (by rfl) (by rw [← hK]; exact own.drew) _ wn wc wo (by rfl) hwr.drew (by omega) (by exact hzr) ?_; intro a3 c3 w3 o3 u3 g3 hold3) | (go_at_call 122; refine (values_any i0 i1 ga gn gc oa on oc a3 (k * wd + wn) c3 G (cb ++ wo) _ (hg.below (Vr.drew.trans (u3.mono V0.size))) o3.ints (by rw [← hK]; exact HK.out) HBV.out (by omega) hgn).mono ?_; rintro e w4 ⟨a4, c4, rfl, o4, u4⟩) | (go_at_call 74; refine (pk_at a4 (k * wd + wn + gn) c4 _ oa on oc O _ o4.ints ((hO.below ((Vr.drew.trans (u3.mono V0.size)))).below u4) (by omega) (by omega) (by rw [← hK]; exact HR.out)).mono ?_; rintro e w5 ⟨a5, c5, rfl, o5, u5⟩))
      have V3 := Vr.drew.trans (u3.mono V0.size)
      have V4 := V3.trans (u4.mono V3.size)
      have V5 := V4.trans (u5.mono V4.size)
      have i5 := o5.ints
      have HPB := Lib.hid (pkL_bits (evL_bits G HBV.out gn) O on)
      obtain ⟨P, hP⟩ : ∃ P, P = pkL (evL G (cb ++ wo) gn) O on := ⟨_, rfl⟩
      rw [← hP] at i5 HPB
      have HP := Lib.hid hP
      have HKK := Lib.hid hK
      clear hP hK o3 u3 o4 u4 o5 u5 g3 hold3 V3 V4 Vr x0 x1 x2 x3 hgr hOr hwr own
      go_wp2_with fail
      refine (chunk_any a5 on c5 wd _ hw).mono ?_; rintro e w7 ⟨rfl, hw7⟩
      go_wp2_with fail
      rw [← hw7]
      have hz7 : w7.heap.size = w5.heap.size + 4 := by rw [hw7]; simp
      have b7 : Below w5.heap.size w5 w7 := by rw [hw7]; exact ((((Below.refl _ w5).alloc (Nat.le_refl _) _).alloc (by simp) _).alloc (by simp; omega) _).alloc (by simp; omega) _
      have R1 : Blk ((w5.alloc (.cells #[] 3)).alloc (.cells #[.slice (some ⟨w5.heap.size, 0, none⟩) 0 0] 23)) (w5.heap.size + 1) 23 #[.slice (some ⟨w5.heap.size, 0, none⟩) 0 0] := by have := Blk.new (w5.alloc (.cells #[] 3)) 23 #[.slice (some ⟨w5.heap.size, 0, none⟩) 0 0]; rw [World.size_alloc] at this; exact this
      have R2 : Blk (((w5.alloc (.cells #[] 3)).alloc (.cells #[.slice (some ⟨w5.heap.size, 0, none⟩) 0 0] 23)).alloc (.cells #[.slice a5 on c5] 23)) (w5.heap.size + 1 + 1) 23 #[.slice a5 on c5] := by have := Blk.new ((w5.alloc (.cells #[] 3)).alloc (.cells #[.slice (some ⟨w5.heap.size, 0, none⟩) 0 0] 23)) 23 #[.slice a5 on c5]; rw [World.size_alloc, World.size_alloc] at this; exact this
      have R3 : Blk w7 (w5.heap.size + 1 + 1 + 1) 3 #[.int .i64 (wd : Int)] := by rw [hw7]; have := Blk.new (((w5.alloc (.cells #[] 3)).alloc (.cells #[.slice (some ⟨w5.heap.size, 0, none⟩) 0 0] 23)).alloc (.cells #[.slice a5 on c5] 23)) 3 #[.int .i64 (wd : Int)]; rw [World.size_alloc, World.size_alloc, World.size_alloc] at this; exact this
      have Q2 : Blk w7 (w5.heap.size + 1 + 1) 23 #[.slice a5 on c5] := by rw [hw7]; exact R2.below ((Below.refl _ _).alloc (Nat.le_refl _) _)
      have Q1 : Blk w7 (w5.heap.size + 1) 23 #[.slice (some ⟨w5.heap.size, 0, none⟩) 0 0] := by rw [hw7]; exact R1.below (((Below.refl _ _).alloc (Nat.le_refl _) _).alloc (by simp) _)
      have hB : w7.cell? ⟨w5.heap.size + 1, 0, none⟩ = some (.slice (some ⟨w5.heap.size, 0, none⟩) 0 0) ∧ w7.frozen? ⟨w5.heap.size + 1, 0, none⟩ = false := ⟨Q1.cell 0, Q1.frozen 0⟩
      have hBs : w7.cell? ⟨w5.heap.size + 1 + 1, 0, none⟩ = some (.slice a5 on c5) := Q2.cell 0
      have hBw : w7.cell? ⟨w5.heap.size + 1 + 1 + 1, 0, none⟩ = some (.int .i64 (wd : Int)) := R3.cell 0
      clear R1 R2 R3 Q1 Q2
      refine (wpIn_wide (n := 3)).1 ?_
      refine wpIn_rangeFunc_ownF (F := Fence.wide) (n := 3) rfl (by omega) (gf := 147) (lb := #[.pointer (some ⟨w5.heap.size + 1 + 1, 0, none⟩), .pointer (some ⟨w5.heap.size + 1 + 1 + 1, 0, none⟩)]) rfl trivial (enters_of Try.func147 (by kernel_rfl) (by kernel_rfl))
        (chunk_stops Fence.wide 2 trivial rfl (by omega) (w5.heap.size + 1 + 1) (w5.heap.size + 1 + 1 + 1) w5 w7 a5 m on c5 wd P i5 HPB.out hw HON.out hm
          (fun A B => Below w5.heap.size A B ∧ B.cell? ⟨w5.heap.size + 1 + 1, 0, none⟩ = A.cell? ⟨w5.heap.size + 1 + 1, 0, none⟩ ∧ B.cell? ⟨w5.heap.size + 1 + 1 + 1, 0, none⟩ = A.cell? ⟨w5.heap.size + 1 + 1 + 1, 0, none⟩) (fun A B h => h.2) ⟨by omega, by omega⟩ hBs hBw)
        (fun h h' => ⟨h.1.trans h'.1, h'.2.1.trans h.2.1, h'.2.2.trans h.2.2⟩) ?kb (Below.refl _ _) (fun _ => rfl)
        (fun pre W => (∃ a6 c6, W.cell? ⟨w5.heap.size + 1, 0, none⟩ = some (.slice a6 pre.length c6) ∧ W.frozen? ⟨w5.heap.size + 1, 0, none⟩ = false ∧ Own W w7.heap.size a6 pre.length c6 (pre.map fun x => num x.1.2)) ∧ (Below w5.heap.size w5 W ∧ w7.heap.size ≤ W.heap.size))
        (fun _ _ _ => False) ?own (fun _ _ _ _ _ hs _ _ => hs) ⟨⟨_, _, hB.1, hB.2, Own.nil0 _ _ _⟩, b7, Nat.le_refl _⟩
        (fun x => ?act) ?assign ?body ?done ?stop
      case kb =>
        intro W l2 o o' hl2 h1 h2 h3
        have u := belowK_b (n₀ := w7.heap.size) (w := w7) (Nat.le_refl _) W l2 o o' hl2 h1 h2 h3
        exact ⟨u.mono (by omega), u.cell (by simp; omega), u.cell (by simp; omega)⟩
      case own =>
        rintro s A B row ⟨⟨a6, c6, h1, h2, h3⟩, h4, hsz⟩ hg2 hr2
        exact ⟨⟨a6, c6, cell_kept h1 hg2 (fun r e => (hr2 r e).2), (frozen_kept h1 hg2 (fun r e => (hr2 r e).2)).trans h2, h3.keptR hg2 (fun r e => (hr2 r e).2)⟩, h4.grown hg2 h4.size (fun k e => by have := (hr2 k e).1; omega), Nat.le_trans hsz hg2.size⟩
      case done =>
        rintro D ys W hD hS ⟨⟨a6, c6, h1, h2, h3⟩, h4, _⟩ hK
        have hyl : ys.length = m := by have := congrArg List.length hS; simpa using this
        have e1 : (ys.map (fun x => x.1.2)).map num = ys.map (fun x => num x.1.2) := List.map_map
        have e2 : ((List.range m).map fun k => (P.drop (k * wd)).take wd).map num = (List.range m).map fun k => num ((P.drop (k * wd)).take wd) := List.map_map
        have hyn : (ys.map fun x => num x.1.2) = cnL P wd m := e1.symm.trans ((congrArg (List.map num) hS).trans (e2.trans (cnL_range P wd m).symm))
        clear e1 e2
        rw [hyl] at h1 h3
        rw [hyn] at h3
        have hK' : ∀ r, some D = some r → ∃ o : Obj, W.heap[r]? = some o ∧ o.isCells = false := fun r e => by cases e; exact ⟨_, hK, rfl⟩
        rw [HP.out, HCB.out] at h3
        have h5 := V5.trans (h4.mono V5.size)
        have hw5 := V5.size
        go_wp2
        refine ⟨by simp, .inl ⟨_, _, rfl, run_takeDeferred hK, ?_⟩⟩
        exact ⟨_, results_tmp rfl _ _ _, _, _, rfl, (h3.keptR (grownBy_putObj' W D _) hK').lower (by omega), h5.grown (grownBy_putObj' W D _) h5.size (fun k e => by cases e; omega)⟩
      case stop =>
        rintro D c2 pre W _ _ h _
        exact h.elim
      case act => exact { tmps := #[.agg #[.int .i64 i0, .int .i64 i1, .slice ga gn gc, .slice oa on oc], .int .i64 wd, .slice a k c, .slice wa wn wc, .pointer (some ⟨w.heap.size, 0, none⟩), undef, undef, undef, .slice none 0 0, .slice a1 (k * wd) c1, undef, u11, .slice a5 on c5, .pointer (some ⟨w5.heap.size + 1, 0, none⟩), .slice x.val.fst.fst x.val.fst.snd.fst x.val.fst.snd.snd, .slice (some ⟨w0.heap.size, 0, none⟩) 0 0, .slice a k c, .int .i64 k, .int .i64 k, .bool false, u20, u21, u22, u23, u24, u25, u26, u27, .agg #[.int .i64 i0, .int .i64 i1, .slice ga gn gc, .slice oa on oc], .slice a1 (k * wd) c1, .slice wa wn wc, .slice a3 (k * wd + wn) c3, .slice a4 (k * wd + wn + gn) c4, .pointer (some ⟨w.heap.size, 3, none⟩), .slice oa on oc, .slice a5 on c5, .slice (some ⟨w5.heap.size, 0, none⟩) 0 0, .slice a5 on c5, .int .i64 wd, .func (.func 147) #[] #[.pointer (some ⟨w5.heap.size + 1 + 1, 0, none⟩), .pointer (some ⟨w5.heap.size + 1 + 1 + 1, 0, none⟩)], .slice x.val.fst.fst x.val.fst.snd.fst x.val.fst.snd.snd, undef, undef, undef, undef, undef, undef], defers := [] }
      case assign =>
        intro l x W K hK
        have hsem : ∀ (ρ : Operand → Value) (o : Oper), (∀ c, o.op ≠ .defer c) → o.semAt (some l) ρ = execOp ρ o := fun ρ o h => Oper.semAt_some l ρ o h
        unfold Prt.enc
        gi_wp2
        exact hK
      case body =>
        rintro l pre x W ⟨⟨a6, c6, h1, h2, h3⟩, h4, hsz⟩ hlt
        obtain ⟨⟨⟨pa, pn, pc⟩, pl⟩, px1, px2, px3⟩ := x
        dsimp only at px1 px2 px3 ⊢
        have hp : Ints W.drew pa pn pc pl := (px1.below h4).drew
        have hmx : Try.prog.follows .mixedOrders = true := by kernel_rfl
        have hsem : ∀ (ρ : Operand → Value) (o : Oper), (∀ c, o.op ≠ .defer c) → o.semAt (some l) ρ = execOp ρ o := fun ρ o h => Oper.semAt_some l ρ o h
        have h3s := h3
        have T1 : 3 = 3 := rfl
        have hU : Below w5.heap.size W (W.drew.alloc (.cells #[.int .i64 (num pl)] 3)) := ((Below.refl _ W).drew).alloc (by simp; omega) _
        have hU7 : Below w7.heap.size W (W.drew.alloc (.cells #[.int .i64 (num pl)] 3)) := ((Below.refl _ W).drew).alloc (by simp; omega) _
        have hb1 : W.drew.cell? ⟨w5.heap.size + 1, 0, none⟩ = some (.slice a6 pre.length c6) := h1
        have hb2 : (W.drew.alloc (.cells #[.int .i64 (num pl)] 3)).cell? ⟨w5.heap.size + 1, 0, none⟩ = some (.slice a6 pre.length c6) := (hU7.cell (by simp; omega)).trans h1
        have hb3 : (W.drew.alloc (.cells #[.int .i64 (num pl)] 3)).frozen? ⟨w5.heap.size + 1, 0, none⟩ = false := (hU7.frozen (by simp; omega)).trans h2
        have hb4 : ((W.alloc (.cells #[.int .i64 (num pl)] 3)).drew).cell? ⟨w5.heap.size + 1, 0, none⟩ = some (.slice a6 pre.length c6) := hb2
        have hb5 : ((W.alloc (.cells #[.int .i64 (num pl)] 3))).cell? ⟨w5.heap.size + 1, 0, none⟩ = some (.slice a6 pre.length c6) := hb2
        have hbs := hU7.cell (p := ⟨w5.heap.size + 1 + 1, 0, none⟩) (by simp; omega)
        have hbw := hU7.cell (p := ⟨w5.heap.size + 1 + 1 + 1, 0, none⟩) (by simp; omega)
        have hro := ((h3s.drew.alloc (.cells #[.int .i64 (num pl)] 3))).rowCells
        have HH := Lib.hid (And.intro hbs hbw)
        clear hbs hbw T1
        gi_wp2
        obtain ⟨hbs, hbw⟩ := HH.out
        refine wpIn_region_any (by kernel_rfl) ?_
        change wpAnyIn _ _ _ _ _ _ _ _ _ (World.drew _)
        clear hbs hbw
        refine wpAnyIn_ready (rs := [0, 1]) (by kernel_rfl) (by simp) (AllReadyIn.cons rfl (fun K hK => ?_) (AllReadyIn.cons rfl (fun K hK => ?_) AllReadyIn.nil))
        · go_simp
          refine hK _ _ ?_; clear hK K
          refine wpAnyIn_ready (rs := [1]) (by kernel_rfl) (by simp) (AllReadyIn.cons rfl (fun K hK => ?_) AllReadyIn.nil)
          · go_simp
            refine hK _ _ ?_; clear hK K
            refine wpAnyIn_ready (rs := [2]) (by kernel_rfl) (by simp) (AllReadyIn.cons rfl (fun K hK => ?_) AllReadyIn.nil)
            · go_simp
              refine ⟨trivial, (CallsIn.inRound l (callsIn_wide.2 (number_same pa pn pc pl _ hp px2 px3))).mono ?_⟩; rintro e w' ⟨rfl, rfl⟩; refine hK _ _ ?_; clear hK K
              refine wpAnyIn_ready (rs := [3]) (by kernel_rfl) (by simp) (AllReadyIn.cons rfl (fun K hK => ?_) AllReadyIn.nil)
              · go_simp
                refine hK _ _ ?_; clear hK K
                obtain ⟨hbs, hbw⟩ := HH.out
                refine wpAnyIn_ready (rs := [4]) (by kernel_rfl) (by simp) (AllReadyIn.cons rfl (fun K hK => ?_) AllReadyIn.nil)
                refine stepIn_appI _ (by rfl) _ _ (by rfl) w7.heap.size a6 pre.length c6 _ (by rfl) (h3s.drew.alloc _) (some ⟨W.heap.size, 0, none⟩) 1 1 [num pl] (by rfl) (Ints.lit1 _ _ _) (by omega) (by simp; omega) ?_
                intro a8 c8 w8 o8 u8 g8
                refine hK _ _ ?_; clear hK K
                have hc8 := (u8.cell (p := ⟨w5.heap.size + 1, 0, none⟩) (by simp; omega)).trans hb2
                have hf8 := (u8.frozen (p := ⟨w5.heap.size + 1, 0, none⟩) (by simp; omega)).trans hb3
                refine wpAnyIn_ready (rs := [5]) (by kernel_rfl) (by simp) (AllReadyIn.cons rfl (fun K hK => ?_) AllReadyIn.nil)
                go_simp
                refine hK _ _ ?_; clear hK K
                refine wpAnyIn_done (by kernel_rfl) ?_ _
                gi_wp2
                refine ⟨(((KeepsOthers.drew W).trans (KeepsOthers.alloc _ _)).trans (KeepsOthers.of_grownBy g8 hro)).trans (KeepsOthers.setCell _ _ _), ⟨?_, ?_, ?_⟩, ⟨a8, c8, ?_, ?_, ?_⟩, ?_, ?_⟩
                · exact (hU.trans (u8.mono (by omega))).setCell (p := ⟨w5.heap.size + 1, 0, none⟩) (by simp) _
                · exact (cell_far w8 _ ⟨w5.heap.size + 1 + 1, 0, none⟩ _ (by show w5.heap.size + 1 + 1 ≠ w5.heap.size + 1; omega)).trans ((u8.cell (p := ⟨w5.heap.size + 1 + 1, 0, none⟩) (by simp; omega)).trans hbs)
                · exact (cell_far w8 _ ⟨w5.heap.size + 1 + 1 + 1, 0, none⟩ _ (by show w5.heap.size + 1 + 1 + 1 ≠ w5.heap.size + 1; omega)).trans ((u8.cell (p := ⟨w5.heap.size + 1 + 1 + 1, 0, none⟩) (by simp; omega)).trans hbw)
                · rw [List.length_append]
                  change _ = some (Value.slice a8 (pre.length + 1) c8)
                  exact World.cell?_setCell_same' _ _ _ (by rw [hc8]; rfl)
                · rw [World.frozen?_setCell]; exact hf8
                · rw [List.length_append, List.map_append]
                  change Own _ _ a8 (pre.length + 1) c8 (_ ++ [num pl])
                  exact o8.only ((Only.refl [w5.heap.size + 1] w8).setCell ⟨w5.heap.size + 1, 0, none⟩ _ (by simp)) (fun q hq hq' => by have := (o8.feet q hq).1; simp at hq'; omega)
                · exact (h4.trans (hU.trans (u8.mono (by omega)))).setCell (p := ⟨w5.heap.size + 1, 0, none⟩) (by simp) _
                · exact Nat.le_trans hsz (Nat.le_trans (by simp) (Nat.le_trans u8.size ((Only.refl [w5.heap.size + 1] w8).setCell ⟨w5.heap.size + 1, 0, none⟩ _ (by simp)).size))
        · go_simp
          refine hK _ _ ?_; clear hK K
          refine wpAnyIn_ready (rs := [0, 2]) (by kernel_rfl) (by simp) (AllReadyIn.cons rfl (fun K hK => ?_) (AllReadyIn.cons rfl (fun K hK => ?_) AllReadyIn.nil))
          · go_simp
            refine hK _ _ ?_; clear hK K
            refine wpAnyIn_ready (rs := [2]) (by kernel_rfl) (by simp) (AllReadyIn.cons rfl (fun K hK => ?_) AllReadyIn.nil)
            · go_simp
              refine ⟨trivial, (CallsIn.inRound l (callsIn_wide.2 (number_same pa pn pc pl _ hp px2 px3))).mono ?_⟩; rintro e w' ⟨rfl, rfl⟩; refine hK _ _ ?_; clear hK K
              refine wpAnyIn_ready (rs := [3]) (by kernel_rfl) (by simp) (AllReadyIn.cons rfl (fun K hK => ?_) AllReadyIn.nil)
              · go_simp
                refine hK _ _ ?_; clear hK K
                obtain ⟨hbs, hbw⟩ := HH.out
                refine wpAnyIn_ready (rs := [4]) (by kernel_rfl) (by simp) (AllReadyIn.cons rfl (fun K hK => ?_) AllReadyIn.nil)
                refine stepIn_appI _ (by rfl) _ _ (by rfl) w7.heap.size a6 pre.length c6 _ (by rfl) (h3s.drew.alloc _) (some ⟨W.heap.size, 0, none⟩) 1 1 [num pl] (by rfl) (Ints.lit1 _ _ _) (by omega) (by simp; omega) ?_
                intro a8 c8 w8 o8 u8 g8
                refine hK _ _ ?_; clear hK K
                have hc8 := (u8.cell (p := ⟨w5.heap.size + 1, 0, none⟩) (by simp; omega)).trans hb2
                have hf8 := (u8.frozen (p := ⟨w5.heap.size + 1, 0, none⟩) (by simp; omega)).trans hb3
                refine wpAnyIn_ready (rs := [5]) (by kernel_rfl) (by simp) (AllReadyIn.cons rfl (fun K hK => ?_) AllReadyIn.nil)
                go_simp
                refine hK _ _ ?_; clear hK K
                refine wpAnyIn_done (by kernel_rfl) ?_ _
                gi_wp2
                refine ⟨(((KeepsOthers.drew W).trans (KeepsOthers.alloc _ _)).trans (KeepsOthers.of_grownBy g8 hro)).trans (KeepsOthers.setCell _ _ _), ⟨?_, ?_, ?_⟩, ⟨a8, c8, ?_, ?_, ?_⟩, ?_, ?_⟩
                · exact (hU.trans (u8.mono (by omega))).setCell (p := ⟨w5.heap.size + 1, 0, none⟩) (by simp) _
                · exact (cell_far w8 _ ⟨w5.heap.size + 1 + 1, 0, none⟩ _ (by show w5.heap.size + 1 + 1 ≠ w5.heap.size + 1; omega)).trans ((u8.cell (p := ⟨w5.heap.size + 1 + 1, 0, none⟩) (by simp; omega)).trans hbs)
                · exact (cell_far w8 _ ⟨w5.heap.size + 1 + 1 + 1, 0, none⟩ _ (by show w5.heap.size + 1 + 1 + 1 ≠ w5.heap.size + 1; omega)).trans ((u8.cell (p := ⟨w5.heap.size + 1 + 1 + 1, 0, none⟩) (by simp; omega)).trans hbw)
                · rw [List.length_append]
                  change _ = some (Value.slice a8 (pre.length + 1) c8)
                  exact World.cell?_setCell_same' _ _ _ (by rw [hc8]; rfl)
                · rw [World.frozen?_setCell]; exact hf8
                · rw [List.length_append, List.map_append]
                  change Own _ _ a8 (pre.length + 1) c8 (_ ++ [num pl])
                  exact o8.only ((Only.refl [w5.heap.size + 1] w8).setCell ⟨w5.heap.size + 1, 0, none⟩ _ (by simp)) (fun q hq hq' => by have := (o8.feet q hq).1; simp at hq'; omega)
                · exact (h4.trans (hU.trans (u8.mono (by omega)))).setCell (p := ⟨w5.heap.size + 1, 0, none⟩) (by simp) _
                · exact Nat.le_trans hsz (Nat.le_trans (by simp) (Nat.le_trans u8.size ((Only.refl [w5.heap.size + 1] w8).setCell ⟨w5.heap.size + 1, 0, none⟩ _ (by simp)).size))
          · go_simp
            refine ⟨trivial, (CallsIn.inRound l (callsIn_wide.2 (number_same pa pn pc pl _ hp px2 px3))).mono ?_⟩; rintro e w' ⟨rfl, rfl⟩; refine hK _ _ ?_; clear hK K
            refine wpAnyIn_ready (rs := [0, 3]) (by kernel_rfl) (by simp) (AllReadyIn.cons rfl (fun K hK => ?_) (AllReadyIn.cons rfl (fun K hK => ?_) AllReadyIn.nil))
            · go_simp
              refine hK _ _ ?_; clear hK K
              refine wpAnyIn_ready (rs := [3]) (by kernel_rfl) (by simp) (AllReadyIn.cons rfl (fun K hK => ?_) AllReadyIn.nil)
              · go_simp
                refine hK _ _ ?_; clear hK K
                obtain ⟨hbs, hbw⟩ := HH.out
                refine wpAnyIn_ready (rs := [4]) (by kernel_rfl) (by simp) (AllReadyIn.cons rfl (fun K hK => ?_) AllReadyIn.nil)
                refine stepIn_appI _ (by rfl) _ _ (by rfl) w7.heap.size a6 pre.length c6 _ (by rfl) (h3s.drew.alloc _) (some ⟨W.heap.size, 0, none⟩) 1 1 [num pl] (by rfl) (Ints.lit1 _ _ _) (by omega) (by simp; omega) ?_
                intro a8 c8 w8 o8 u8 g8
                refine hK _ _ ?_; clear hK K
                have hc8 := (u8.cell (p := ⟨w5.heap.size + 1, 0, none⟩) (by simp; omega)).trans hb2
                have hf8 := (u8.frozen (p := ⟨w5.heap.size + 1, 0, none⟩) (by simp; omega)).trans hb3
                refine wpAnyIn_ready (rs := [5]) (by kernel_rfl) (by simp) (AllReadyIn.cons rfl (fun K hK => ?_) AllReadyIn.nil)
                go_simp
                refine hK _ _ ?_; clear hK K
                refine wpAnyIn_done (by kernel_rfl) ?_ _
                gi_wp2
                refine ⟨(((KeepsOthers.drew W).trans (KeepsOthers.alloc _ _)).trans (KeepsOthers.of_grownBy g8 hro)).trans (KeepsOthers.setCell _ _ _), ⟨?_, ?_, ?_⟩, ⟨a8, c8, ?_, ?_, ?_⟩, ?_, ?_⟩
                · exact (hU.trans (u8.mono (by omega))).setCell (p := ⟨w5.heap.size + 1, 0, none⟩) (by simp) _
                · exact (cell_far w8 _ ⟨w5.heap.size + 1 + 1, 0, none⟩ _ (by show w5.heap.size + 1 + 1 ≠ w5.heap.size + 1; omega)).trans ((u8.cell (p := ⟨w5.heap.size + 1 + 1, 0, none⟩) (by simp; omega)).trans hbs)
                · exact (cell_far w8 _ ⟨w5.heap.size + 1 + 1 + 1, 0, none⟩ _ (by show w5.heap.size + 1 + 1 + 1 ≠ w5.heap.size + 1; omega)).trans ((u8.cell (p := ⟨w5.heap.size + 1 + 1 + 1, 0, none⟩) (by simp; omega)).trans hbw)
                · rw [List.length_append]
                  change _ = some (Value.slice a8 (pre.length + 1) c8)
                  exact World.cell?_setCell_same' _ _ _ (by rw [hc8]; rfl)
                · rw [World.frozen?_setCell]; exact hf8
                · rw [List.length_append, List.map_append]
                  change Own _ _ a8 (pre.length + 1) c8 (_ ++ [num pl])
                  exact o8.only ((Only.refl [w5.heap.size + 1] w8).setCell ⟨w5.heap.size + 1, 0, none⟩ _ (by simp)) (fun q hq hq' => by have := (o8.feet q hq).1; simp at hq'; omega)
                · exact (h4.trans (hU.trans (u8.mono (by omega)))).setCell (p := ⟨w5.heap.size + 1, 0, none⟩) (by simp) _
                · exact Nat.le_trans hsz (Nat.le_trans (by simp) (Nat.le_trans u8.size ((Only.refl [w5.heap.size + 1] w8).setCell ⟨w5.heap.size + 1, 0, none⟩ _ (by simp)).size))
            · go_simp
              refine hK _ _ ?_; clear hK K
              refine wpAnyIn_ready (rs := [0]) (by kernel_rfl) (by simp) (AllReadyIn.cons rfl (fun K hK => ?_) AllReadyIn.nil)
              · go_simp
                refine hK _ _ ?_; clear hK K
                obtain ⟨hbs, hbw⟩ := HH.out
                refine wpAnyIn_ready (rs := [4]) (by kernel_rfl) (by simp) (AllReadyIn.cons rfl (fun K hK => ?_) AllReadyIn.nil)
                refine stepIn_appI _ (by rfl) _ _ (by rfl) w7.heap.size a6 pre.length c6 _ (by rfl) (h3s.drew.alloc _) (some ⟨W.heap.size, 0, none⟩) 1 1 [num pl] (by rfl) (Ints.lit1 _ _ _) (by omega) (by simp; omega) ?_
                intro a8 c8 w8 o8 u8 g8
                refine hK _ _ ?_; clear hK K
                have hc8 := (u8.cell (p := ⟨w5.heap.size + 1, 0, none⟩) (by simp; omega)).trans hb2
                have hf8 := (u8.frozen (p := ⟨w5.heap.size + 1, 0, none⟩) (by simp; omega)).trans hb3
                refine wpAnyIn_ready (rs := [5]) (by kernel_rfl) (by simp) (AllReadyIn.cons rfl (fun K hK => ?_) AllReadyIn.nil)
                go_simp
                refine hK _ _ ?_; clear hK K
                refine wpAnyIn_done (by kernel_rfl) ?_ _
                gi_wp2
                refine ⟨(((KeepsOthers.drew W).trans (KeepsOthers.alloc _ _)).trans (KeepsOthers.of_grownBy g8 hro)).trans (KeepsOthers.setCell _ _ _), ⟨?_, ?_, ?_⟩, ⟨a8, c8, ?_, ?_, ?_⟩, ?_, ?_⟩
                · exact (hU.trans (u8.mono (by omega))).setCell (p := ⟨w5.heap.size + 1, 0, none⟩) (by simp) _
                · exact (cell_far w8 _ ⟨w5.heap.size + 1 + 1, 0, none⟩ _ (by show w5.heap.size + 1 + 1 ≠ w5.heap.size + 1; omega)).trans ((u8.cell (p := ⟨w5.heap.size + 1 + 1, 0, none⟩) (by simp; omega)).trans hbs)
                · exact (cell_far w8 _ ⟨w5.heap.size + 1 + 1 + 1, 0, none⟩ _ (by show w5.heap.size + 1 + 1 + 1 ≠ w5.heap.size + 1; omega)).trans ((u8.cell (p := ⟨w5.heap.size + 1 + 1 + 1, 0, none⟩) (by simp; omega)).trans hbw)
                · rw [List.length_append]
                  change _ = some (Value.slice a8 (pre.length + 1) c8)
                  exact World.cell?_setCell_same' _ _ _ (by rw [hc8]; rfl)
                · rw [World.frozen?_setCell]; exact hf8
                · rw [List.length_append, List.map_append]
                  change Own _ _ a8 (pre.length + 1) c8 (_ ++ [num pl])
                  exact o8.only ((Only.refl [w5.heap.size + 1] w8).setCell ⟨w5.heap.size + 1, 0, none⟩ _ (by simp)) (fun q hq hq' => by have := (o8.feet q hq).1; simp at hq'; omega)
                · exact (h4.trans (hU.trans (u8.mono (by omega)))).setCell (p := ⟨w5.heap.size + 1, 0, none⟩) (by simp) _
                · exact Nat.le_trans hsz (Nat.le_trans (by simp) (Nat.le_trans u8.size ((Only.refl [w5.heap.size + 1] w8).setCell ⟨w5.heap.size + 1, 0, none⟩ _ (by simp)).size))
end Go.Proofs.Ytkbhigdciokfkaa
namespace Go.Proofs.Ytkbhigdciokfkaa
open Go.RowKit
end Go.Proofs.Ytkbhigdciokfkaa
namespace Go.Proofs.Ytkbhigdciokfkaa
open Go.RowKit
end Go.Proofs.Ytkbhigdciokfkaa
namespace Go.Proofs.Ytkbhigdciokfkaa
open Go.RowKit
end Go.Proofs.Ytkbhigdciokfkaa
namespace Go.Proofs.Ytkbhigdciokfkaa
open Go.RowKit
set_option maxHeartbeats 8000000 in
set_option maxRecDepth 100000 in
theorem meTurn_any (n wd v : Nat) (w : World) (hn : 1 ≤ n ∧ n ≤ 8) (hw : 1 ≤ wd ∧ wd ≤ 4) (hv : wid (n : Int) = v) :
    Calls Try.prog 98 #[.int .i64 n, .int .i64 wd] w fun e w' => ∃ ga gn gc oa on oc, e = .returned (.agg #[.int .i64 ((n * wd : Nat) : Int), .int .i64 ((v : Int) + ((0 : Nat) : Int)), .slice ga gn gc, .slice oa on oc]) ∧ OwnF 3 eGate w' w.heap.size ga gn gc (meG 3 n wd).1 ∧ Rd w' w.heap.size oa on oc (meG 3 n wd).2 ∧ Disj (foot ga gc) (foot oa oc) ∧ Below w.heap.size w w' := by
  have hv3 : v ≤ 3 := by rw [← hv]; exact wid8 n hn.2
  have hqb : n * wd ≤ 8 * 4 := Nat.mul_le_mul hn.2 hw.2
  have HE : Hid (meG 3 n wd = ((tuG (meB n wd v 0) (spL ((n * wd : Nat) : Int) v) (ceL wd n) [] v).1, (tuG (meB n wd v 0) (spL ((n * wd : Nat) : Int) v) (ceL wd n) [] v).2.flatten)) := Lib.hid (by unfold meG; rw [if_neg (by decide), if_neg (by decide), if_neg (by decide), hv]; rfl)
  have HB : Hid (meB n wd v 0 = ((n * wd : Nat) : Int) + ((v : Int) + ((0 : Nat) : Int))) := Lib.hid (by unfold meB; simp)
  rw [HE.out, HB.out]
  clear HE HB
  have hst := meStart_any n wd 0 v (w.alloc (.cells #[.int .i64 0, .int .i64 0, .slice none 0 0, .slice none 0 0] 25)) hn hw (by omega) hv
  have HST := Lib.hid hst
  clear hst hv
  have hqe : ((n : Int) * (wd : Int)) = ((n * wd : Nat) : Int) := (Int.natCast_mul _ _).symm
  obtain ⟨q, hq⟩ : ∃ q, q = n * wd := ⟨_, rfl⟩
  rw [← hq] at HST hqe hqb ⊢
  have t1 : IntKind.i64.wrap ((n : Int) * (wd : Int)) = (q : Int) := by rw [hqe]; exact IntWalk.i64_in _ (by omega)
  clear hqe hq
  have V1 : Below w.heap.size w (w.alloc (.cells #[.int .i64 0, .int .i64 0, .slice none 0 0, .slice none 0 0] 25)) := (Below.refl _ _).alloc (Nat.le_refl _) _
  have R1 : Blk (w.alloc (.cells #[.int .i64 0, .int .i64 0, .slice none 0 0, .slice none 0 0] 25)) w.heap.size 25 #[.int .i64 0, .int .i64 0, .slice none 0 0, .slice none 0 0] := Blk.new w _ _
  have Z1 : (w.alloc (.cells #[.int .i64 0, .int .i64 0, .slice none 0 0, .slice none 0 0] 25)).heap.size = w.heap.size + 1 := by simp
  obtain ⟨i1, hi1⟩ : ∃ i1, i1 = (v : Int) + ((0 : Nat) : Int) := ⟨_, rfl⟩
  rw [← hi1] at HST ⊢
  have h1 : 0 ≤ i1 ∧ i1 ≤ 1000 := by omega
  clear hi1
  have h0 : (0 : Int) ≤ (q : Int) ∧ (q : Int) ≤ 1000 := by omega
  go_enter Try.func98, Try.ntmps98
  go_wp2_with fail
  refine HST.out.mono ?_; rintro e w2 ⟨g, ca, cc, rs, ia, ic, rfl, h, dc, hd, hhi, dx, u2⟩
  have V2 := V1.trans (u2.mono V1.size)
  have R2 := R1.below u2
  have hgr : w.heap.size < g := by have := (h.feet g (by simp)).1; omega
  rw [Z1] at h hhi
  have hb : w.heap.size + 1 ≤ w2.heap.size := by have := u2.size; omega
  clear V1 R1 u2 Z1 HST
  have HI : Hid ((spL (q : Int) v).length = v) := spL_len _ _
  have HAL : Hid (AllL wd (datas' rs)) := Lib.hid (by rw [hd]; exact ceL_all wd n)
  have HR := Lib.hid dc.len
  have hle := dc.le
  have hle2 := dx.ints.le
  have HH := Lib.hid hhi
  have HD0 := Lib.hid hd
  clear hhi hd
  obtain ⟨I, hI⟩ : ∃ I, I = spL (q : Int) v := ⟨_, rfl⟩
  rw [← hI] at dx HI
  have HSI := Lib.hid hI
  clear hI
  go_wp2
  go_loopw [6, 23] (fun y u wr => ∃ k F1, k ≤ v ∧ u = .int .i64 (k : Nat) ∧ (∃ a1 c1 rs1, y = .slice a1 n c1 ∧ RwD wr a1 n c1 rs1 F1 ∧ datas' rs1 = (tuG ((q : Int) + i1) I (datas' rs) [] k).2 ∧ (∀ r ∈ rs1, ∀ k ∈ foot r.1 r.2.1, w.heap.size + 1 ≤ k)) ∧ Mk 79 wr (w.heap.size + 1) g q i1 (tuG ((q : Int) + i1) I (datas' rs) [] k).1 F1 ∧ Stp [g] w2 F1 wr) (fun _ u _ => v - (intOf u).toNat)
  case atStart => exact ⟨0, [g], Nat.zero_le _, rfl, ⟨_, _, rs, rfl, dc, rfl, HH.out⟩, h, Stp.refl _ _⟩
  case round =>
    obtain ⟨k, F1, hk, rfl, ⟨a1, c1, rs1, rfl, dc1, hd1, hh1⟩, M1, S1⟩ := hrel
    obtain ⟨hG, hG2, hG3⟩ := tuG_len (B := (q : Int) + i1) (idx := I) (G := []) HAL.out k
    rw [List.length_nil] at hG
    have hm := dc1.len
    have hml : (datas' rs1).length = n := by rw [datas_len]; exact hm
    rw [← hd1] at hG3
    have hGb : 9 * wd * (datas' rs).length * k ≤ 9 * 20 * 8 * 8 := by
      rw [datas_len, HR.out]; exact Nat.mul_le_mul (Nat.mul_le_mul (Nat.mul_le_mul_left _ (by omega)) hn.2) (by omega)
    have HH1 := Lib.hid hh1
    clear hh1
    by_cases hlt : k < v
    · obtain ⟨wo, rfl⟩ : ∃ wo, wo = wr := ⟨_, rfl⟩
      have HS0 := tuG_succ ((q : Int) + i1) I (datas' rs) [] k
      rw [← hd1, hml] at HS0
      obtain ⟨gx, ox, hgx, _⟩ := dx.ints.at k hlt
      subst hgx
      have cx := (dx.stp S1).ints.cellsAt k hlt
      generalize I.getD k 0 = x at *
      generalize hg1 : (tuG ((q : Int) + i1) I (datas' rs) [] k).1 = G1 at *
      have hP := pow8 k (by omega)
      obtain ⟨P, eP⟩ : ∃ P : Nat, P = 2 ^ k := ⟨_, rfl⟩
      rw [← eP] at HS0 hP
      have t1a : IntKind.i64.wrap (1 * 2 ^ k) = (P : Int) := by rw [Int.one_mul, show (2 : Int) ^ k = ((2 ^ k : Nat) : Int) by simp, ← eP]; exact IntWalk.i64_in _ (by omega)
      have t2 : IntKind.u64.wrap (k : Int) = (k : Int) := IntWalk.u64_in _ (by omega)
      have t1b : IntKind.i64.wrap (2 ^ k) = (P : Int) := by rw [← t1a, Int.one_mul]
      have t1d : IntKind.i64.wrap (P : Int) = (P : Int) := IntWalk.i64_in _ (by omega)
      have t1c : ((2 : Int) ^ k) = (P : Int) := by rw [eP]; simp
      have HS := Lib.hid HS0
      clear HS0 hg1 hd1 eP
      have HA3 := Lib.hid hG3
      have HML := Lib.hid hml
      clear hG3 hml
      have hb1 : w.heap.size + 1 ≤ wo.heap.size := Nat.le_trans hb S1.size
      go_wp2
      clear cx
      go_loopw [10, 30] (fun y u wx => ∃ j F2, j ≤ n ∧ u = .int .i64 (j : Nat) ∧ (∃ a2 c2 rs2, y = .slice a2 j c2 ∧ RwO wx wo.heap.size a2 j c2 rs2 F2 ∧ datas' rs2 = (tuJ ((q : Int) + i1) x P (datas' rs1) G1 j).2 ∧ (∀ r ∈ rs2, ∀ k ∈ foot r.1 r.2.1, w.heap.size + 1 ≤ k)) ∧ Mk 79 wx (w.heap.size + 1) g q i1 (tuJ ((q : Int) + i1) x P (datas' rs1) G1 j).1 F2 ∧ Stp F1 wo F2 wx) (fun _ u _ => n - (intOf u).toNat)
      case atStart => exact ⟨0, F1, by omega, rfl, ⟨_, _, [], rfl, RwO.nil _ _ _ _, rfl, fun r hr => by cases hr⟩, M1, Stp.refl _ _⟩
      case round =>
        obtain ⟨j, F2, hj, rfl, ⟨a2, c2, rs2, rfl, ro, hd2, hh2⟩, M2, S2⟩ := hrel
        clear M1
        have HH2 := Lib.hid hh2
        clear hh2
        obtain ⟨hJ, hJ2, hJ3⟩ := tuJ_len (B := (q : Int) + i1) (b := x) (s := P) (G := G1) HA3.out j (by rw [HML.out]; exact hj)
        have hJb : 9 * wd * j ≤ 9 * 20 * 8 := Nat.mul_le_mul (Nat.mul_le_mul_left _ (by omega)) (by omega)
        by_cases hlt2 : j < n
        · have HJ0 := tuJ_succ ((q : Int) + i1) x P (datas' rs1) G1 j
          unfold tuS at HJ0
          rw [HML.out, ← hd2] at HJ0
          have hqn : (j + P) % n < n := Nat.mod_lt _ (by omega)
          obtain ⟨Q, eQ⟩ : ∃ Q, Q = (j + P) % n := ⟨_, rfl⟩
          rw [← eQ] at HJ0 hqn
          have t3 : ((j : Int) + (P : Int)).tmod (n : Int) = (Q : Int) := by rw [Int.tmod_eq_emod_of_nonneg (by omega), eQ]; simp
          have t3b : ((j : Int) + (P : Int)) % (n : Int) = (Q : Int) := by rw [eQ]; simp
          have t4 : IntKind.i64.wrap ((j : Int) + (P : Int)) = (j : Int) + (P : Int) := IntWalk.i64_in _ (by omega)
          have t5 : IntKind.i64.wrap (Q : Int) = (Q : Int) := IntWalk.i64_in _ (by omega)
          have t6 : (((n : Nat) : Int) == 0) = false := by simp; omega
          have t7 : (((n : Nat) : Int) = 0) = False := by simp; omega
          have t8 : (n = 0) = False := by simp; omega
          have t9 : (n == 0) = false := by simp; omega
          clear eQ
          obtain ⟨gr, o_r, hgr, _, _⟩ := dc1.at j hlt2
          subst hgr
          have cj := (dc1.stp S2).cellsAt j hlt2
          have dj := dc1.innAt j hlt2
          have ck := (dc1.stp S2).cellsAt Q hqn
          have dk := dc1.innAt Q hqn
          rw [datas_getD _ j (by rw [← datas_len, HML.out]; exact hlt2), datas_getD _ Q (by rw [← datas_len, HML.out]; exact hqn)] at HJ0
          generalize hg2 : (tuJ ((q : Int) + i1) x P (datas' rs1) G1 j).1 = G2 at *
          clear hg2
          have lj := HA3.out.at j (by rw [HML.out]; exact hlt2)
          have lk := HA3.out.at Q (by rw [HML.out]; exact hqn)
          rw [datas_getD _ _ (by rw [← datas_len, HML.out]; omega)] at lj lk
          have HDC := fun (W : World) (F' : List Nat) (s : Stp F1 wo F' W) => And.intro ((dc1.stp s).cellsAt Q hqn) ((dc1.stp s).cellsAt j hlt2)
          obtain ⟨rj, hrj⟩ : ∃ r, r = rowAt rs1 j := ⟨_, rfl⟩
          obtain ⟨rk, hrk⟩ : ∃ r, r = rowAt rs1 Q := ⟨_, rfl⟩
          rw [← hrj] at cj dj lj HJ0
          rw [← hrk] at ck dk lk HJ0
          simp only [← hrj, ← hrk] at HDC
          clear hrj hrk
          have z0 : (0 : Int) ≤ (Q : Int) := by omega
          have z1 : (Q : Int) < (n : Int) := by omega
          have z2 : (0 : Int) ≤ (j : Int) := by omega
          have z3 : (j : Int) < (n : Int) := by omega
          obtain ⟨ja, jc, JL⟩ := rj
          obtain ⟨ka, kc, KL⟩ := rk
          simp only at cj dj lj ck dk lk HJ0 HDC
          have HDC2 := Lib.hid HDC
          clear HDC
          have lc := (chG_len ((q : Int) + i1) x KL JL G2 KL.length).2
          obtain ⟨⟨G3, L⟩, hr3⟩ : ∃ r, r = chG ((q : Int) + i1) x KL JL G2 KL.length := ⟨_, rfl⟩
          have HCH := Lib.hid hr3
          rw [← hr3] at HJ0 lc
          clear hr3
          simp only at HJ0 lc
          have HJ := Lib.hid HJ0
          clear HJ0
          rw [lj] at cj dj
          rw [lk] at ck dk lc
          go_wp2
          go_region_held3 (fun W => W.cell? ⟨gr, o_r + Q, none⟩ = some (.slice ka wd kc) ∧ W.cell? ⟨gr, o_r + j, none⟩ = some (.slice ja wd jc))
            (first | go_keep | exact (by have hh := HDC2.out _ _ (Stp.onto (Stp.alloc (S2.drew.trans s3) _) (Only.of_grown ga) (fun k hk => ((ro.drew.stp s3).out.feet k hk).1)); rw [lj, lk] at hh; exact hh) | exact (by have hh := HDC2.out _ _ (S2.drew.trans s3); rw [lj, lk] at hh; exact hh))
            (first | (go_at_call 87; refine (gdPick_any x _ wd _ _ _ wd _ _ (w.heap.size + 1) g q i1 G2 F2 _ M2.drew (Nat.le_trans hb1 S2.size) h0 h1 ((dk.stp S2).below ((Below.refl _ _).drew)) ((dj.stp S2).below ((Below.refl _ _).drew)) (Nat.le_refl _) (by omega) (by omega)).mono ?_; rintro e w3 ⟨a3, c3, F3, rfl, o3, d3, M3, s3⟩) | (refine step_appR _ (by rfl) _ _ (by rfl) wo.heap.size _ j _ _ (by rfl) (RwO.alloc (ro.drew.stp s3) _).out _ 1 (a3, c3, L) (by rfl) (RowC.litR _ _ _ (rowV_of lc) _) (by omega) (by have := (S2.drew.trans s3).size; simp; omega) ?_; intro aa ca' wa oo _ ga ma))
          all_goals have ro3 := ro.drew.stp s3
          all_goals have Oa := Only.of_grown ga
          all_goals have Ma := Mk.only (Mk.alloc M3 _) Oa ro3.dis
          all_goals have Sa := (Stp.onto (Stp.alloc (S2.drew.trans s3) _) (Only.of_grown ga) (fun k hk => ((ro.drew.stp s3).out.feet k hk).1))
          all_goals have hLe : L = (chG ((q : Int) + i1) x KL JL G2 wd).2 := by have := HCH.out; rw [lk] at this; rw [← this]
          all_goals have hGe : G3 = (chG ((q : Int) + i1) x KL JL G2 wd).1 := by have := HCH.out; rw [lk] at this; rw [← this]
          all_goals rw [← hLe] at o3
          all_goals rw [← hGe] at Ma
          all_goals have hh3 := Lib.hid (fun k (hk : k ∈ foot a3 c3) => (o3.feet k hk).1)
          all_goals have hrI := (o3.intD d3)
          all_goals have hrA := o3.away ro.drew.out (Nat.le_refl _)
          all_goals rw [← lc] at hrI hrA
          all_goals have hrB : ∀ y, 0 < L.length → a3 = some y → y.block ∉ foot a2 c2 := hrA
          all_goals have Ra := RwO.push (r := (a3, c3, L)) (RwO.alloc ro3 _) (fun k hk => by have := (M3.feet k hk).2; simp; omega) (hrI.below ((Below.refl _ _).alloc (Nat.le_refl _) _)) hrB oo ga ma
          all_goals have hb2 := Nat.le_trans hb1 S2.size
          all_goals have hdz : ∀ (W : World), W.drew.heap.size = W.heap.size := fun _ => rfl
          all_goals clear cj ck ro M2 S2 s3 o3 d3 M3 ro3 Oa oo ga ma hrI hrA hrB hLe hGe hdz
          go_wp2
          go_roundw
          case rel => exact ⟨j + 1, _, by omega, by go_num, ⟨_, _, _, rfl, Ra, by rw [datas_push, HJ.out], fun s hs k hk => by
            rcases List.mem_append.1 hs with hs | hs
            · exact HH2.out s hs k hk
            · rw [List.mem_singleton] at hs; subst hs; exact Nat.le_trans hb2 (hh3.out k hk)⟩, by rw [HJ.out]; exact Ma, Sa⟩
          case measure => simp [intOf]; omega
        · obtain rfl : j = n := by omega
          have HD2 := Lib.hid hd2
          clear hd2
          have rd := ro.rwD
          have ST := S1.trans S2
          clear ro S2 S1 dc1
          have hge : ¬ (j : Int) < (j : Int) := by omega
          go_wp2
          go_roundw
          case rel => exact ⟨k + 1, F2, by omega, by go_num, ⟨_, _, _, rfl, rd, by rw [HS.out]; exact HD2.out, HH2.out⟩, by rw [HS.out]; exact M2, ST⟩
          case measure => simp [intOf]; omega
    · obtain rfl : k = v := by omega
      have hge : ¬ (k : Int) < (k : Int) := by omega
      have HD := Lib.hid hd1
      have HA3 := Lib.hid hG3
      have HML := Lib.hid hml
      clear hd1 hG3 hml
      obtain ⟨wl, rfl⟩ : ∃ wl, wl = wr := ⟨_, rfl⟩
      go_wp2
      go_loopw [58] (fun u wr => ∃ j, j ≤ n ∧ u = .int .i64 (j : Nat) ∧ (∃ oa on oc, Own wr wl.heap.size oa on oc ((datas' rs1).take j).flatten ∧ Disj (foot oa oc) F1 ∧ Mk 79 wr (w.heap.size + 1) g q i1 (tuG ((q : Int) + i1) I (datas' rs) [] k).1 F1 oa on oc) ∧ Stp F1 wl F1 wr) (fun u _ => n - (intOf u).toNat)
      case atStart => exact ⟨0, Nat.zero_le _, rfl, ⟨_, _, _, Own.nil0 _ _ _, foot_nil _ _, M1⟩, Stp.refl _ _⟩
      case round =>
        obtain ⟨j, hj, rfl, ⟨oa, on, oc, own, dd, M2⟩, S2⟩ := hrel
        clear M1
        by_cases hlt2 : j < n
        · have hjl : j < (datas' rs1).length := by rw [HML.out]; exact hlt2
          have HF := Lib.hid (flat_take (datas' rs1) j hjl)
          have hfl := flat_len HA3.out j (Nat.le_of_lt hjl)
          have hon : on ≤ 8 * 8 := by rw [own.len, hfl]; exact Nat.mul_le_mul (by omega) (by omega)
          rw [datas_getD _ _ (by rw [← datas_len, HML.out]; exact hlt2)] at HF
          obtain ⟨gr, o_r, hgr, _, _⟩ := dc1.at j hlt2
          subst hgr
          have cj := (dc1.stp S2).cellsAt j hlt2
          have dj := (dc1.innAt j hlt2).stp S2
          have lj := HA3.out.at j hjl
          rw [datas_getD _ _ (by rw [← datas_len, HML.out]; exact hlt2)] at lj
          rw [lj] at cj dj
          generalize rowAt rs1 j = r at *
          obtain ⟨ra, rc, L⟩ := r
          simp only at cj dj HF
          clear lj hfl
          obtain ⟨_, x3, _, hgF⟩ := M2.outs none 0 0
          go_wp2_with (at_builtin; refine wpList_appJ _ rfl _ _ rfl wl.heap.size oa on oc _ rfl own _ wd _ L rfl dj.1 (by omega) S2.size ?_)
          intro a5 c5 w5 o5 _ g5 m5
          have O5 := Only.of_grown g5
          have M5 := Mk.only M2 O5 dd
          have S5 := Stp.onto S2 O5 (fun k hk => (own.feet k hk).1)
          have d5 : Disj (foot a5 c5) F1 := m5.disj dd (fun k hk => (M2.feet k hk).2)
          clear M2 S2 own dd O5 g5 m5 cj dj x3
          obtain ⟨M6, x5, y5, _⟩ := M5.outs a5 (on + wd) c5
          have O6 : Only F1 w5 (w5.setCell ⟨g, 3, none⟩ (.slice a5 (on + wd) c5)) := (Only.refl _ _).setCell _ _ hgF
          have o6 := Own.only o5 O6 d5
          have S6 : Stp F1 wl F1 _ := S5.trans ⟨O6, fun k hk => .inl hk⟩
          have HM6 := Lib.hid M6
          have HO6 := Lib.hid o6
          have HS6 := Lib.hid S6
          clear M6 o6 S6 O6 o5 S5 M5
          go_wp2
          go_roundw
          case rel => exact ⟨j + 1, by omega, by go_num, ⟨_, _, _, by rw [HF.out]; exact HO6.out, d5, HM6.out⟩, HS6.out⟩
          case measure => simp [intOf]; omega
        · obtain rfl : j = n := by omega
          rw [List.take_of_length_le (by rw [HML.out]; exact Nat.le_refl _), HD.out] at own
          rw [HSI.out, HD0.out] at M2 own
          have hge2 : ¬ (j : Int) < (j : Int) := by omega
          have hwl : w.heap.size + 1 ≤ wl.heap.size := Nat.le_trans hb S1.size
          have ST := S1.trans S2
          obtain ⟨ga, gn, gc, hB, ho, hg, hbg, hF⟩ := M2
          have R6 := R2.only ST.only (by simp; omega)
          have V6 := V2.trans (ST.out (B := w.heap.size) V2.size (by simp; omega))
          have Z6 := ST.size
          have hdd : Disj (foot ga gc) (foot oa oc) := fun k hk hk' => dd k hk' (by rw [hF]; exact List.mem_cons_of_mem _ hk)
          have R7 := R6
          have ho7 := ho
          have oo7 := own
          have V7 := V6
          have z0 : wr.cell? ⟨g, 0, none⟩ = some (.int .i64 (q : Int)) := hB.cell 0
          have z1 : wr.cell? ⟨g, 1, none⟩ = some (.int .i64 i1) := hB.cell 1
          have z2 : wr.cell? ⟨g, 2, none⟩ = some (.slice ga gn gc) := hB.cell 2
          have z3 : wr.cell? ⟨g, 3, none⟩ = some (.slice oa on oc) := hB.cell 3
          have r0 : wr.cell? ⟨w.heap.size, 0, none⟩ = some (.int .i64 0) := R7.cell 0
          have q0 : wr.frozen? ⟨w.heap.size, 0, none⟩ = false := R7.frozen 0
          have r1 : wr.cell? ⟨w.heap.size, 1, none⟩ = some (.int .i64 0) := R7.cell 1
          have q1 : wr.frozen? ⟨w.heap.size, 1, none⟩ = false := R7.frozen 1
          have r2 : wr.cell? ⟨w.heap.size, 2, none⟩ = some (.slice none 0 0) := R7.cell 2
          have q2 : wr.frozen? ⟨w.heap.size, 2, none⟩ = false := R7.frozen 2
          have r3 : wr.cell? ⟨w.heap.size, 3, none⟩ = some (.slice none 0 0) := R7.cell 3
          have q3 : wr.frozen? ⟨w.heap.size, 3, none⟩ = false := R7.frozen 3
          have Q1 := Lib.hid ho7.feet
          have Q2 := Lib.hid oo7.feet
          have GG := (((((Only.refl [w.heap.size] wr).setCell ⟨w.heap.size, 0, none⟩ (.int .i64 (q : Int)) (by simp)).setCell ⟨w.heap.size, 1, none⟩ (.int .i64 i1) (by simp)).setCell ⟨w.heap.size, 2, none⟩ (.slice ga gn gc) (by simp)).setCell ⟨w.heap.size, 3, none⟩ (.slice oa on oc) (by simp))
          have HG := Lib.hid GG
          clear GG
          go_wp2
          have GG := HG.out
          exact bodyPost_ret (v := .agg #[.int .i64 (q : Int), .int .i64 i1, .slice ga gn gc, .slice oa on oc]) (by simp [results, Try.results98, go_sem, r0, r1, r2, r3]) rfl ⟨_, _, _, _, _, _, rfl, (ho7.only GG (fun k hk hk' => by have := Q1.out k hk; simp at hk'; omega)).lower (by omega), ((oo7.only GG (fun k hk hk' => by have := Q2.out k hk; simp at hk'; omega)).lower (by omega)).rd, hdd, V7.trans (GG.below V7.size (by simp))⟩
end Go.Proofs.Ytkbhigdciokfkaa
namespace Go.Proofs.Ytkbhigdciokfkaa
open Go.RowKit
set_option maxHeartbeats 8000000 in
set_option maxRecDepth 100000 in
theorem meIf_3 (n wd : Int) (w : World) :
    Calls Try.prog 48 #[.int .i64 3, .int .i64 n, .int .i64 wd] w fun e w' => ∃ ga gn gc oa on oc, e = .returned (.tuple #[.agg #[.int .i64 (mS0 n wd), .int .i64 (mS1 3 n wd), .slice ga gn gc, .slice oa on oc], .bool (memB n wd)]) ∧ OwnF 3 eGate w' w.heap.size ga gn gc (mG 3 n wd) ∧ Rd w' w.heap.size oa on oc (mO 3 n wd) ∧ Disj (foot ga gc) (foot oa oc) ∧ Below w.heap.size w w' := by
  have V1 : Below w.heap.size w (w.alloc (.cells #[.int .i64 0, .int .i64 0, .slice none 0 0, .slice none 0 0] 25)) := (Below.refl _ _).alloc (Nat.le_refl _) _
  have R1 : Blk (w.alloc (.cells #[.int .i64 0, .int .i64 0, .slice none 0 0, .slice none 0 0] 25)) w.heap.size 25 #[.int .i64 0, .int .i64 0, .slice none 0 0, .slice none 0 0] := Blk.new w _ _
  have Z1 : w.heap.size + 1 ≤ (w.alloc (.cells #[.int .i64 0, .int .i64 0, .slice none 0 0, .slice none 0 0] 25)).heap.size := by simp
  cases hg : (inB n 1 8 && inB wd 1 4)
  · have hm : memB n wd = false := by unfold memB; rw [hg]; rfl
    unfold mS0 mS1 mG mO
    rw [hm]
    simp only [Bool.false_eq_true, if_false]
    go_enter Try.func48, Try.ntmps48
    go_wp2_with fail
    generalize (w.alloc (.cells #[.int .i64 0, .int .i64 0, .slice none 0 0, .slice none 0 0] 25)) = w1 at *
    refine (meGood_any n wd _).mono ?_; rintro e w' ⟨rfl, rfl⟩
    rw [hg]
    have r0 : w1.cell? ⟨w.heap.size, 0, none⟩ = some (.int .i64 0) := R1.cell 0
    have r1 : w1.cell? ⟨w.heap.size, 1, none⟩ = some (.int .i64 0) := R1.cell 1
    have r2 : w1.cell? ⟨w.heap.size, 2, none⟩ = some (.slice none 0 0) := R1.cell 2
    have r3 : w1.cell? ⟨w.heap.size, 3, none⟩ = some (.slice none 0 0) := R1.cell 3
    have q0 : w1.frozen? ⟨w.heap.size, 0, none⟩ = false := R1.frozen 0
    have q1 : w1.frozen? ⟨w.heap.size, 1, none⟩ = false := R1.frozen 1
    have q2 : w1.frozen? ⟨w.heap.size, 2, none⟩ = false := R1.frozen 2
    have q3 : w1.frozen? ⟨w.heap.size, 3, none⟩ = false := R1.frozen 3
    go_wp2
    have GG := (((((Only.refl [w.heap.size] w1).setCell ⟨w.heap.size, 0, none⟩ (.int .i64 0) (by simp)).setCell ⟨w.heap.size, 1, none⟩ (.int .i64 0) (by simp)).setCell ⟨w.heap.size, 2, none⟩ (.slice none 0 0) (by simp)).setCell ⟨w.heap.size, 3, none⟩ (.slice none 0 0) (by simp))
    exact bodyPost_ret (v := .tuple #[.agg #[.int .i64 0, .int .i64 0, .slice none 0 0, .slice none 0 0], .bool false]) (by simp [results, Try.results48, go_sem, r0, r1, r2, r3]) rfl ⟨none, 0, 0, none, 0, 0, rfl, OwnC.nil0 _ _ _ _ _, (Own.nil0 _ _ _).rd, foot_nil _ _, V1.trans (GG.below V1.size (by simp))⟩
  · have hg2 := hg
    simp only [Bool.and_eq_true] at hg2
    obtain ⟨⟨n1, n2⟩, d1, d2⟩ : (1 ≤ n ∧ n ≤ 8) ∧ 1 ≤ wd ∧ wd ≤ 4 := ⟨inB_true hg2.1, inB_true hg2.2⟩
    clear hg2
    obtain ⟨n, rfl⟩ : ∃ k : Nat, n = k := ⟨n.toNat, by omega⟩
    obtain ⟨wd, rfl⟩ : ∃ k : Nat, wd = k := ⟨wd.toNat, by omega⟩
    have hok := me_ok 3 n wd (by omega) (by omega) (by omega) (by omega)
    have eM : meMore 3 wd = 0 := by unfold meMore; simp
    have hmd : memB n wd = decide (n * wd ≤ 20) := by unfold memB; rw [hg, Bool.true_and]; rw [decide_eq_decide, ← Int.natCast_mul]; omega
    obtain ⟨v, hv⟩ : ∃ v, wid (n : Int) = v := ⟨_, rfl⟩
    rw [eM, hv, Int.natCast_add] at hok
    have HV := Lib.hid hv
    unfold mS0 mS1 mG mO
    rw [hmd]
    simp only [Int.toNat_natCast]
    rw [eM, hv]
    have e3 : ((n : Int) * (wd : Int)) = ((n * wd : Nat) : Int) := (Int.natCast_mul _ _).symm
    rw [e3]
    clear e3 hv eM hmd
    obtain ⟨p, hp⟩ : ∃ p, p = meG 3 n wd := ⟨_, rfl⟩
    rw [← hp] at hok ⊢
    have HP := Lib.hid hp
    clear hp
    obtain ⟨q, hq⟩ : ∃ q, q = n * wd := ⟨_, rfl⟩
    obtain ⟨i1, hi1⟩ : ∃ i1, i1 = (v : Int) + ((0 : Nat) : Int) := ⟨_, rfl⟩
    rw [← hq, ← hi1] at hok ⊢
    have HQ := Lib.hid hq
    have HI1 := Lib.hid hi1
    clear hq hi1
    by_cases hnw : q ≤ 20
    · rw [decide_eq_true hnw] at hok ⊢
      simp only [if_true]
      have HOK := Lib.hid hok
      clear hok hnw
      go_enter Try.func48, Try.ntmps48
      go_wp2_with fail
      generalize (w.alloc (.cells #[.int .i64 0, .int .i64 0, .slice none 0 0, .slice none 0 0] 25)) = w1 at *
      refine (meGood_any n wd _).mono ?_; rintro e w' ⟨rfl, rfl⟩
      rw [hg]
      go_wp2_with fail
      refine (l1In_any _ _ _ _).mono ?_; rintro e w' ⟨rfl, rfl⟩
      rw [show inB 3 0 3 = true from rfl]
      go_wp2_with fail
      refine (meTurn_any n wd v _ ⟨by omega, by omega⟩ ⟨by omega, by omega⟩ HV.out).mono ?_; rintro e w2 ⟨ga, gn, gc, oa, on, oc, rfl, og, oo, dd, u2⟩
      rw [← HP.out] at og oo
      rw [← HQ.out, ← HI1.out]
      have V2 := V1.trans (u2.mono V1.size)
      have R2 := R1.below u2
      have Z2 := u2.size
      have hgn := og.len
      have HC : Hid (ciB (q : Int) i1 gn p.1 p.2 = true) := Lib.hid (by have := HOK.out; rw [hgn, Nat.mul_div_cancel _ (by decide)] at this; exact this)
      clear hgn V1 R1 u2
      go_wp2_with fail
      refine (ciIf_yes _ _ _ _ _ p.1 _ _ _ p.2 _ og.flat oo.ints HC.out).mono ?_; rintro e w3 ⟨rfl, u3⟩
      have V3 := V2.trans (u3.mono V2.size)
      have R3 := R2.below u3
      have og3 := og.below u3
      have oo3 := oo.below u3
      have Q1 := Lib.hid og3.feet
      have Q2 := Lib.hid oo3.feet
      clear V2 R2 og oo u3
      have r0 : w3.cell? ⟨w.heap.size, 0, none⟩ = some (.int .i64 0) := R3.cell 0
      have r1 : w3.cell? ⟨w.heap.size, 1, none⟩ = some (.int .i64 0) := R3.cell 1
      have r2 : w3.cell? ⟨w.heap.size, 2, none⟩ = some (.slice none 0 0) := R3.cell 2
      have r3 : w3.cell? ⟨w.heap.size, 3, none⟩ = some (.slice none 0 0) := R3.cell 3
      have q0 : w3.frozen? ⟨w.heap.size, 0, none⟩ = false := R3.frozen 0
      have q1 : w3.frozen? ⟨w.heap.size, 1, none⟩ = false := R3.frozen 1
      have q2 : w3.frozen? ⟨w.heap.size, 2, none⟩ = false := R3.frozen 2
      have q3 : w3.frozen? ⟨w.heap.size, 3, none⟩ = false := R3.frozen 3
      go_wp2
      have GG := (((((Only.refl [w.heap.size] w3).setCell ⟨w.heap.size, 0, none⟩ (.int .i64 (q : Int)) (by simp)).setCell ⟨w.heap.size, 1, none⟩ (.int .i64 i1) (by simp)).setCell ⟨w.heap.size, 2, none⟩ (.slice ga gn gc) (by simp)).setCell ⟨w.heap.size, 3, none⟩ (.slice oa on oc) (by simp))
      exact bodyPost_ret (v := .tuple #[.agg #[.int .i64 (q : Int), .int .i64 i1, .slice ga gn gc, .slice oa on oc], .bool true]) (by simp [results, Try.results48, go_sem, r0, r1, r2, r3]) rfl ⟨ga, gn, gc, oa, on, oc, rfl, (og3.only GG (fun k hk hk' => by have := Q1.out k hk; simp at hk'; omega)).lower (by omega), (oo3.only GG (fun k hk hk' => by have := Q2.out k hk; simp at hk'; omega)).lower (by omega), dd, V3.trans (GG.below V3.size (by simp))⟩
    · rw [decide_eq_false hnw] at hok ⊢
      simp only [Bool.false_eq_true, if_false]
      have HOK := Lib.hid hok
      clear hok hnw
      go_enter Try.func48, Try.ntmps48
      go_wp2_with fail
      generalize (w.alloc (.cells #[.int .i64 0, .int .i64 0, .slice none 0 0, .slice none 0 0] 25)) = w1 at *
      refine (meGood_any n wd _).mono ?_; rintro e w' ⟨rfl, rfl⟩
      rw [hg]
      go_wp2_with fail
      refine (l1In_any _ _ _ _).mono ?_; rintro e w' ⟨rfl, rfl⟩
      rw [show inB 3 0 3 = true from rfl]
      go_wp2_with fail
      refine (meTurn_any n wd v _ ⟨by omega, by omega⟩ ⟨by omega, by omega⟩ HV.out).mono ?_; rintro e w2 ⟨ga, gn, gc, oa, on, oc, rfl, og, oo, dd, u2⟩
      rw [← HP.out] at og oo
      rw [← HQ.out, ← HI1.out]
      have V2 := V1.trans (u2.mono V1.size)
      have R2 := R1.below u2
      have Z2 := u2.size
      have hgn := og.len
      have HC : Hid (ciB (q : Int) i1 gn p.1 p.2 = false) := Lib.hid (by have := HOK.out; rw [hgn, Nat.mul_div_cancel _ (by decide)] at this; exact this)
      clear hgn V1 R1 u2
      go_wp2_with fail
      refine (ciIf_no _ _ _ _ _ p.1 _ _ _ p.2 _ og.flat oo.ints HC.out).mono ?_; rintro e w3 ⟨rfl, u3⟩
      have V3 := V2.trans (u3.mono V2.size)
      have R3 := R2.below u3
      clear V2 R2 og oo u3
      have r0 : w3.cell? ⟨w.heap.size, 0, none⟩ = some (.int .i64 0) := R3.cell 0
      have r1 : w3.cell? ⟨w.heap.size, 1, none⟩ = some (.int .i64 0) := R3.cell 1
      have r2 : w3.cell? ⟨w.heap.size, 2, none⟩ = some (.slice none 0 0) := R3.cell 2
      have r3 : w3.cell? ⟨w.heap.size, 3, none⟩ = some (.slice none 0 0) := R3.cell 3
      have q0 : w3.frozen? ⟨w.heap.size, 0, none⟩ = false := R3.frozen 0
      have q1 : w3.frozen? ⟨w.heap.size, 1, none⟩ = false := R3.frozen 1
      have q2 : w3.frozen? ⟨w.heap.size, 2, none⟩ = false := R3.frozen 2
      have q3 : w3.frozen? ⟨w.heap.size, 3, none⟩ = false := R3.frozen 3
      go_wp2
      have GG := (((((Only.refl [w.heap.size] w3).setCell ⟨w.heap.size, 0, none⟩ (.int .i64 0) (by simp)).setCell ⟨w.heap.size, 1, none⟩ (.int .i64 0) (by simp)).setCell ⟨w.heap.size, 2, none⟩ (.slice none 0 0) (by simp)).setCell ⟨w.heap.size, 3, none⟩ (.slice none 0 0) (by simp))
      exact bodyPost_ret (v := .tuple #[.agg #[.int .i64 0, .int .i64 0, .slice none 0 0, .slice none 0 0], .bool false]) (by simp [results, Try.results48, go_sem, r0, r1, r2, r3]) rfl ⟨none, 0, 0, none, 0, 0, rfl, OwnC.nil0 _ _ _ _ _, (Own.nil0 _ _ _).rd, foot_nil _ _, V3.trans (GG.below V3.size (by simp))⟩
end Go.Proofs.Ytkbhigdciokfkaa
namespace Go.Proofs.Ytkbhigdciokfkaa
open Go.RowKit
set_option maxHeartbeats 8000000 in
set_option maxRecDepth 100000 in
theorem TurnCells_any (wd : Int) (a : Option Addr) (n c : Nat) (l : List Int) (i : Int) (w : World) (h : Ints w a n c l) :
    Calls Try.prog 37 #[.int .i64 wd, .slice a n c, .int .i64 i] w fun e w' => ∃ a1 n1 c1, e = .returned (.tuple #[.slice a1 n1 c1, .bool (celB wd l i)]) ∧ Own w' w.heap.size a1 n1 c1 (tcR wd l i) ∧ Below w.heap.size w w' := by
  have hlen := h.len
  have hle := h.le
  cases hc : celB wd l i
  · have HC := Lib.hid hc
    have e1 : tcR wd l i = [] := by unfold tcR; rw [hc]; rfl
    rw [e1]
    clear hc e1 hlen
    go_enter Try.func37, Try.ntmps37
    go_wp2_with fail
    refine (areCells_any wd a n c l i _ h).mono ?_; rintro e w1 ⟨rfl, V1⟩; rw [HC.out]
    go_wp2
    go_ret2
    exact ⟨none, 0, 0, rfl, Own.nil0 _ _ _, V1⟩
  · have hc2 := hc
    unfold celB at hc2
    rw [Bool.and_eq_true] at hc2
    obtain ⟨hm, hT⟩ := hc2
    rw [← hlen] at hm
    obtain ⟨⟨n1, n8⟩, ⟨w1', w4'⟩, _⟩ := memB_true hm
    obtain ⟨wd, rfl⟩ : ∃ k : Nat, wd = k := ⟨wd.toNat, by omega⟩
    obtain ⟨hl, hi⟩ := celT_true (wd := wd) (by omega) (by omega) hT
    have e1 : tcR wd l i = mrR 3 n wd l i [] := by unfold tcR; rw [hc, if_pos rfl, hlen]; rfl
    rw [e1]
    clear e1
    have HC := Lib.hid hc
    have hw3 := wid8 n (by omega)
    have hNI := mrNI_le 3 n wd (by omega) (by omega)
    have hGA := mr_gates 3 n wd hm
    have hOU := mr_outs 3 n wd hm
    have hGL : mG 3 n wd = (meG 3 n wd).1 := by unfold mG; rw [if_pos hm]; rfl
    have hOL : mO 3 n wd = (meG 3 n wd).2 := by unfold mO; rw [if_pos hm]; rfl
    have hON := meO_len 3 n wd (by omega) (by omega)
    have hG3 := (m_len 3 n wd).1
    rw [hGL] at hG3
    have hQ : mrNI 3 n wd = n * wd + wid (n : Int) := by unfold mrNI meMore; simp
    rw [hQ] at hGA hOU hNI
    clear hQ
    have hM8 : meN 3 n ≤ 8 ∧ 1 ≤ meN 3 n := by unfold meN; split <;> omega
    obtain ⟨RS, hRS⟩ : ∃ r, r = mrR 3 n wd l i ([]) := ⟨_, rfl⟩
    rw [← hRS]
    have HR := Lib.hid (show RS = cnL (pkL (evL (meG 3 n wd).1 (cbL l wd n ++ (btL i (wid (n : Int)))) ((meG 3 n wd).1.length / 3)) (meG 3 n wd).2 (meN 3 n * wd)) wd (meN 3 n) from by rw [hRS]; unfold mrR mrO mrV; rw [List.append_nil])
    clear hRS
    have HBW : Hid (Bt (btL i (wid (n : Int)))) := Lib.hid (btL_bits _ _)
    have HM := Lib.hid hm
    have HL := Lib.hid hl
    have HI := Lib.hid hi
    clear hm hc hT hl hi hlen
    obtain ⟨V, hV⟩ : ∃ V, V = wid (n : Int) := ⟨_, rfl⟩
    rw [← hV] at hw3 HR HBW hGA hOU hNI
    have HV := Lib.hid hV
    clear hV
    replace hGA := Lib.hid hGA
    replace hOU := Lib.hid hOU
    obtain ⟨m, hmN⟩ : ∃ m, m = meN 3 n := ⟨_, rfl⟩
    rw [← hmN] at hON hM8 HR
    have HMN := Lib.hid hmN
    clear hmN
    obtain ⟨mw, hmw⟩ : ∃ mw, mw = m * wd := ⟨_, rfl⟩
    rw [← hmw] at hON HR
    have HMW := Lib.hid hmw
    clear hmw
    have hwd1 : 1 ≤ wd := by omega
    have hwd4 : wd ≤ 4 := by omega
    have hn1 : (1 : Int) ≤ n := by omega
    have hn256 : (n : Int) ≤ 256 := by omega
    have hM1 := hM8.1
    have hM2 := hM8.2
    clear hM8
    have hM0 : (0 : Int) < (m : Int) := by omega
    go_enter Try.func37, Try.ntmps37
    go_wp2_with fail
    refine (areCells_any wd a n c l i _ h).mono ?_; rintro e w1 ⟨rfl, V1⟩; rw [HC.out]
    go_wp2_with fail
    refine (TurnCircuit_any n wd _).mono ?_; rintro e w2 ⟨ga, gn, gc, oa, on, oc, rfl, og, ro, dd, u2⟩
    rw [HM.out]
    rw [hGL] at og
    rw [hOL] at ro
    clear dd hGL hOL
    generalize mS0 n wd = s0 at *
    generalize mS1 3 n wd = s1 at *
    generalize (meG 3 n wd).1 = G at *
    generalize (meG 3 n wd).2 = O at *
    have V2 := V1.trans (u2.mono V1.size)
    have Z2 := V2.size
    have VV := V2.alloc V2.size (.cells #[.int .i64 s0, .int .i64 s1, .slice ga gn gc, .slice oa on oc] 25)
    have R : Blk (w2.alloc (.cells #[.int .i64 s0, .int .i64 s1, .slice ga gn gc, .slice oa on oc] 25)) w2.heap.size 25 #[.int .i64 s0, .int .i64 s1, .slice ga gn gc, .slice oa on oc] := Blk.new w2 _ _
    have og2 := og.flat.below ((Below.refl w2.heap.size w2).alloc (Nat.le_refl _) (.cells #[.int .i64 s0, .int .i64 s1, .slice ga gn gc, .slice oa on oc] 25))
    have ro2 := ro.ints.below ((Below.refl w2.heap.size w2).alloc (Nat.le_refl _) (.cells #[.int .i64 s0, .int .i64 s1, .slice ga gn gc, .slice oa on oc] 25))
    have hon := ro.len
    have hgn := og.len
    clear u2 V1 V2 og ro
    have hon2 : on = mw := by rw [hon, hON]
    subst hon2
    have HGN : Hid (gn = G.length / 3) := Lib.hid (by omega)
    clear hon hgn hON
    go_wp2_with fail
    generalize (w2.alloc (.cells #[.int .i64 s0, .int .i64 s1, .slice ga gn gc, .slice oa on oc] 25)) = w9 at *
    have h9 := h.below VV
    have hz9 := VV.size
    have x0 : w9.cell? ⟨w2.heap.size, 0, none⟩ = some (.int .i64 s0) := R.cell 0
    have x1 : w9.cell? ⟨w2.heap.size, 1, none⟩ = some (.int .i64 s1) := R.cell 1
    have x2 : w9.cell? ⟨w2.heap.size, 2, none⟩ = some (.slice ga gn gc) := R.cell 2
    have x3 : w9.cell? ⟨w2.heap.size, 3, none⟩ = some (.slice oa on oc) := R.cell 3
    clear R h
    go_region_held3 (fun W => W.cell? ⟨w2.heap.size, 0, none⟩ = some (.int .i64 s0) ∧ W.cell? ⟨w2.heap.size, 1, none⟩ = some (.int .i64 s1) ∧ W.cell? ⟨w2.heap.size, 2, none⟩ = some (.slice ga gn gc) ∧ W.cell? ⟨w2.heap.size, 3, none⟩ = some (.slice oa on oc))
      (first | exact ⟨keepC u13 (keepC u10 x0), keepC u13 (keepC u10 x1), keepC u13 (keepC u10 x2), keepC u13 (keepC u10 x3)⟩ | exact ⟨keepC u10 x0, keepC u10 x1, keepC u10 x2, keepC u10 x3⟩ | go_keep)
      (first | (go_at_call 81; refine (indexWidth_any n _ hn1 hn256).mono ?_; rintro e w' ⟨rfl, rfl⟩; rw [← HV.out]) | (go_at_call 73; refine (bitsOf_any i V _ HI.out (by omega)).mono ?_; rintro e w10 ⟨a10, c10, rfl, o10, u10⟩) | (go_at_call 80; refine (runMemory_any s0 s1 ga gn gc oa on oc wd a n c a10 V c10 G O l (btL i V) m _ (og2.drew.below u10) (ro2.drew.below u10) (h9.drew.below u10) (o10.ints) (by rw [HGN.out]; exact hGA.out) (by rw [HGN.out]; exact hOU.out) HBW.out HL.out (by omega) ⟨hwd1, hwd4⟩ (by omega) (by have := HGN.out; omega) (by omega) HMW.out).mono ?_; rintro e w13 ⟨a13, c13, rfl, o13, u13⟩))
    all_goals
      rw [HGN.out, ← HR.out] at o13
      have U := (Below.refl w9.heap.size w9).drew.trans (u10.trans (u13.mono u10.size))
      have VF := VV.trans (U.mono VV.size)
      have oF := o13.lower (b' := w.heap.size) (Nat.le_trans hz9 u10.size)
      clear u10 u13 o10 o13 U
      go_wp2
      go_ret2
      exact ⟨_, _, _, rfl, oF, VF⟩
end Go.Proofs.Ytkbhigdciokfkaa
namespace Go.Proofs.Ytkbhigdciokfkaa
open Go.RowKit
end Go.Proofs.Ytkbhigdciokfkaa
namespace Go.Proofs.Ytkbhigdciokfkaa
open Go.RowKit
end Go.Proofs.Ytkbhigdciokfkaa
