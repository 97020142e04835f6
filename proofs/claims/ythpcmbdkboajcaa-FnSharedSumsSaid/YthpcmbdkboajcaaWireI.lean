/- The program's shares of all wires. -/
import Derived.Test.YthpcmbdkboajcaaWire
import Derived.Deep.DeepCutAuto
import Derived.Outline
namespace Go.Proofs.Ythpcmbdkboajcaa
open Go.RowKit

theorem cell_new1 (w : World) (o : Obj) (v : Value) (t : TypeId) : ((w.alloc o).alloc (.cells #[v] t)).cell? ⟨w.heap.size + 1, 0, none⟩ = some v := by simp
theorem cell_new2 (w : World) (o o' : Obj) (v : Value) (t : TypeId) : (((w.alloc o).alloc o').alloc (.cells #[v] t)).cell? ⟨w.heap.size + 2, 0, none⟩ = some v := by simpa using cell_new ((w.alloc o).alloc o') v t
theorem keepD {w : World} {p : Addr} {v : Value} (h : w.cell? p = some v) : w.drew.cell? p = some v := h
theorem keepG {w w' : World} {a : Option Addr} {c : Nat} {p : Addr} {v : Value} (g : w.grownBy w' (rowOf a c)) (hn : p.block ∉ foot a c) (h : w.cell? p = some v) : w'.cell? p = some v :=
  (World.cell?_of_block ((Only.of_grown g).block _ (World.block_lt_of_cell? w _ h) hn)).trans h
theorem WireM.only {X : List Nat} {w w' : World} {b n1 c1 n2 c2 n3 c3 : Nat} {a1 a2 a3 : Option Addr} {F S : List Int} {rs : List RowD} (h : WireM w b a1 n1 c1 F a2 n2 c2 S a3 n3 c3 rs) (ho : Only X w w') (h1 : ∀ k, k < w.heap.size → k ∈ X → False) : WireM w' b a1 n1 c1 F a2 n2 c2 S a3 n3 c3 rs :=
  ⟨h.f.only ho (fun k hk hx => h1 k (h.f.feet k hk).2 hx), h.s.only ho (fun k hk hx => h1 k (h.s.feet k hk).2 hx), h.o.only ho (fun k hk hx => h1 k (h.o.feet k hk).2 hx), h.fs, h.fo, h.so⟩
theorem WireM.only' {X : List Nat} {w w' : World} {b n1 c1 n2 c2 n3 c3 z : Nat} {a1 a2 a3 : Option Addr} {F S : List Int} {rs : List RowD} (h : WireM w b a1 n1 c1 F a2 n2 c2 S a3 n3 c3 rs) (ho : Only X w w') (hz : ∀ k ∈ foot a1 c1 ++ (foot a2 c2 ++ feetSS a3 c3 rs), k < z) (hX : ∀ k ∈ X, z ≤ k) : WireM w' b a1 n1 c1 F a2 n2 c2 S a3 n3 c3 rs :=
  ⟨h.f.only ho (fun k hk hx => by have := hz k (List.mem_append_left _ hk); have := hX k hx; omega),
   h.s.only ho (fun k hk hx => by have := hz k (List.mem_append_right _ (List.mem_append_left _ hk)); have := hX k hx; omega),
   h.o.only ho (fun k hk hx => by have := hz k (List.mem_append_right _ (List.mem_append_right _ hk)); have := hX k hx; omega), h.fs, h.fo, h.so⟩
theorem WireM.feet {w : World} {b n1 c1 n2 c2 n3 c3 : Nat} {a1 a2 a3 : Option Addr} {F S : List Int} {rs : List RowD} (h : WireM w b a1 n1 c1 F a2 n2 c2 S a3 n3 c3 rs) : ∀ k ∈ foot a1 c1 ++ (foot a2 c2 ++ feetSS a3 c3 rs), k < w.heap.size := fun k hk => by
  rcases List.mem_append.1 hk with hk | hk
  · exact (h.f.feet k hk).2
  · rcases List.mem_append.1 hk with hk | hk
    · exact (h.s.feet k hk).2
    · exact (h.o.feet k hk).2
theorem ints1 {w : World} {b : Nat} {x : Int} (h : w.cell? ⟨b, 0, none⟩ = some (.int .i64 x)) : Ints w (some ⟨b, 0, none⟩) 1 1 [x] := ⟨rfl, Nat.le_refl _, by simp [maxLen], fun h => (by cases h), b, 0, fun _ => rfl, fun i hi => by
  obtain rfl : i = 0 := by omega
  simpa using h⟩
theorem rowC1 {w : World} {b : Nat} {v : Value} (h : w.cell? ⟨b, 0, none⟩ = some v) : RowC w (some ⟨b, 0, none⟩) 1 1 1 [v] := ⟨rfl, Nat.le_refl _, by simp [maxLen], fun h => (by cases h), b, 0, fun _ => rfl, fun i u hu => by
  match i, hu with
  | 0, hu => simp at hu; subst hu; simpa using h⟩
theorem lit2_snd (w : World) (o : Obj) (x y : Int) (e : TypeId) : Ints ((w.alloc o).alloc (.cells #[.int .i64 x, .int .i64 y] e)) (some ⟨w.heap.size + 1, 0, none⟩) 2 2 [x, y] := by simpa using Ints.lit2 (w.alloc o) x y e
set_option maxHeartbeats 16000000 in
set_option maxRecDepth 100000 in
theorem wireShares_any (P i0 i1 : Int) (ga : Option Addr) (gn gc : Nat) (G : List Int) (oa : Option Addr) (on oc : Nat) (O : List Int) (key : Int) (aa : Option Addr) (an ac : Nat) (A : List Int) (ba : Option Addr) (bn bc : Nat) (B : List Int) (fault change : Int) (w : World) (hG : Flat 3 w ga gn gc G) (hA : Ints w aa an ac A) (hB : Ints w ba bn bc B)
    (hv : asB P i0 i1 gn G O key A B = true) (hch : 0 ≤ change) (hch2 : change ≤ P - 1) :
    Calls Try.prog 79 #[.agg #[.int .i64 P, .int .i64 i0, .int .i64 i1, .slice ga gn gc, .slice oa on oc], .int .i64 key, .slice aa an ac, .slice ba bn bc, .int .i64 fault, .int .i64 change] w fun e w' => ∃ a1 c1 a2 c2 a3 n3 c3 rs, e = .returned (.tuple #[.slice a1 (an + bn + gn) c1, .slice a2 (an + bn + gn) c2, .slice a3 n3 c3]) ∧
      WireM w' w.heap.size a1 (an + bn + gn) c1 (wsR P key fault change G (isF P key (an + bn)) (isS P key (A ++ B) (an + bn)) gn).1 a2 (an + bn + gn) c2 (wsR P key fault change G (isF P key (an + bn)) (isS P key (A ++ B) (an + bn)) gn).2.1 a3 n3 c3 rs ∧
      datas rs = (wsR P key fault change G (isF P key (an + bn)) (isS P key (A ++ B) (an + bn)) gn).2.2 ∧ Below w.heap.size w w' := by
  obtain ⟨l1, l2⟩ := asB_len hv
  obtain ⟨hr, ⟨k0, k1⟩, ha, hb, e0, e1, hpr⟩ := asB_true hv
  obtain ⟨⟨r0, r0'⟩, ⟨r1, r1'⟩, r2, r3, _, hga, _⟩ := arB_all hr
  obtain ⟨p1, p2⟩ := isPr_range hpr
  rw [← hA.len] at l1 e0
  rw [← hB.len] at l2 e1
  have HAA := Lib.hid ha
  have HBB := Lib.hid hb
  have HGA := Lib.hid hga
  have HOK := Lib.hid (fun k (hk : k ≤ gn) => wsR_ok (P := P) (key := key) (fault := fault) (change := change) (G := G) (by omega) (isF_len P key (an + bn)) (isS_len P key (A ++ B) (an + bn)) (isF_rng P key _ (by omega)) (isS_rng P key _ _ (by omega)) hga k hk)
  have hgl := hG.le
  have V0 : Below w.heap.size w (w.alloc (.cells #[.int .i64 P, .int .i64 i0, .int .i64 i1, .slice ga gn gc, .slice oa on oc] 41)) := (Below.refl _ _).alloc (Nat.le_refl _) _
  have B0 : Blk (w.alloc (.cells #[.int .i64 P, .int .i64 i0, .int .i64 i1, .slice ga gn gc, .slice oa on oc] 41)) w.heap.size 41 #[.int .i64 P, .int .i64 i0, .int .i64 i1, .slice ga gn gc, .slice oa on oc] := Blk.new w _ _
  have S0 : w.heap.size < (w.alloc (.cells #[.int .i64 P, .int .i64 i0, .int .i64 i1, .slice ga gn gc, .slice oa on oc] 41)).heap.size := by simp
  clear ha hb hga hr hpr r3
  obtain ⟨F0, hF0⟩ : ∃ x, isF P key (an + bn) = x := ⟨_, rfl⟩
  obtain ⟨S0', hS0⟩ : ∃ x, isS P key (A ++ B) (an + bn) = x := ⟨_, rfl⟩
  rw [hF0, hS0] at HOK ⊢
  have HF0 := Lib.hid hF0
  have HS0 := Lib.hid hS0
  clear hF0 hS0
  go_enter Try.func79, Try.ntmps79
  go_wp2_with fail
  generalize (w.alloc (.cells #[.int .i64 P, .int .i64 i0, .int .i64 i1, .slice ga gn gc, .slice oa on oc] 41)) = w0 at *
  refine (inputShares_any _ _ _ _ _ _ _ _ _ _ _ _ _ A _ _ _ B _ (hA.below V0) (hB.below V0) (by omega) (by omega) k0 k1 l1 l2 HAA.out HBB.out).mono ?_; rintro e w1 ⟨b1, d1, b2, d2, rfl, o1, o2, D, u⟩
  rw [HF0.out] at o1
  rw [HS0.out] at o2
  have M0 : WireM (w1.alloc (.cells #[] 24)) w0.heap.size b1 (an + bn) d1 F0 b2 (an + bn) d2 S0' (some ⟨w1.heap.size, 0, none⟩) 0 0 [] :=
    ⟨o1.alloc _, o2.alloc _, OwnSS.nil0 _ _ _, D, by rw [feetSS_nil]; exact Disj.nil_r _, by rw [feetSS_nil]; exact Disj.nil_r _⟩
  have V1 := u.alloc u.size (.cells #[] 24)
  have x3 : w1.cell? ⟨w.heap.size, 3, none⟩ = some (.slice ga gn gc) := (B0.below u).cell 3
  have x3' := keepA (.cells #[] 24) x3
  clear o1 o2 D u
  go_wp2
  clear x3 x3'
  go_loopw [37, 15, 16, 17] (fun v f s o wr => ∃ k : Nat, k ≤ gn ∧ v = .int .i64 k ∧ Below w0.heap.size w0 wr ∧ ∃ a1 c1 a2 c2 a3 n3 c3 rs, f = .slice a1 (an + bn + k) c1 ∧ s = .slice a2 (an + bn + k) c2 ∧ o = .slice a3 n3 c3 ∧ n3 ≤ k ∧
    WireM wr w0.heap.size a1 (an + bn + k) c1 (wsR P key fault change G F0 S0' k).1 a2 (an + bn + k) c2 (wsR P key fault change G F0 S0' k).2.1 a3 n3 c3 rs ∧ datas rs = (wsR P key fault change G F0 S0' k).2.2) (fun v _ _ _ _ => gn - (intOf v).toNat)
  case atStart => exact ⟨0, Nat.zero_le _, rfl, V1, _, _, _, _, _, _, _, _, rfl, rfl, rfl, Nat.le_refl _, M0, rfl⟩
  case round =>
    obtain ⟨k, hkn, rfl, hbel, a1, c1, a2, c2, a3, n3, c3, rs, rfl, rfl, rfl, hn3, hM, hda⟩ := hrel
    clear V1 M0
    by_cases hlt : k < gn
    · have ok := HOK.out k hkn
      rcases hR : wsR P key fault change G F0 S0' k with ⟨F, S, OP⟩
      rw [hR] at hM hda ok
      have HR := Lib.hid hR
      have HDA := Lib.hid hda
      obtain ⟨lF, lS, rF, rS⟩ := ok
      simp only at lF lS rF rS hM
      have HRF := Lib.hid rF
      have HRS := Lib.hid rS
      have HLF := Lib.hid lF
      have HLS := Lib.hid lS
      have HG := Lib.hid (HGA.out k hlt)
      have HST : Hid (wsR P key fault change G F0 S0' (k + 1) = wsStep P key fault change G k (F, S, OP)) := Lib.hid (by rw [wsR, hR])
      clear hR hda rF rS lF lS
      obtain ⟨g, o, rfl, hc⟩ := (hG.below (V0.trans (hbel.mono V0.size))).at (by omega)
      have c0 : wr.cell? ⟨g, o + k * 3, none⟩ = some (.int .i64 (G.getD (k * 3) 0)) := hc (k * 3) (by omega)
      have c1' : wr.cell? ⟨g, o + k * 3 + 1, none⟩ = some (.int .i64 (G.getD (k * 3 + 1) 0)) := by have := hc (k * 3 + 1) (by omega); simpa only [Nat.add_assoc] using this
      have c2' : wr.cell? ⟨g, o + k * 3 + 2, none⟩ = some (.int .i64 (G.getD (k * 3 + 2) 0)) := by have := hc (k * 3 + 2) (by omega); simpa only [Nat.add_assoc] using this
      have HGB : Hid (gateB P (G.getD (k * 3) 0) (G.getD (k * 3 + 1) 0) (G.getD (k * 3 + 2) 0) (i0 + i1 + k) = true) := Lib.hid HG.out
      have HSTP : Hid (wsStep P key fault change G k (F, S, OP) = if G.getD (k * 3) 0 = 1 then wsMul P key fault change (G.getD (k * 3 + 1) 0) (G.getD (k * 3 + 2) 0) k (F, S, OP) else wsLoc P (G.getD (k * 3) 0) (G.getD (k * 3 + 1) 0) (G.getD (k * 3 + 2) 0) (F, S, OP)) := rfl
      generalize G.getD (k * 3) 0 = kd at *
      generalize G.getD (k * 3 + 1) 0 = ka at *
      generalize G.getD (k * 3 + 2) 0 = kb at *
      have V3 := hbel.alloc hbel.size (.cells #[.int .i64 kd, .int .i64 ka, .int .i64 kb] 78)
      have M3 := hM.alloc (.cells #[.int .i64 kd, .int .i64 ka, .int .i64 kb] 78)
      have Bg : Blk (wr.alloc (.cells #[.int .i64 kd, .int .i64 ka, .int .i64 kb] 78)) wr.heap.size 78 #[.int .i64 kd, .int .i64 ka, .int .i64 kb] := Blk.new wr _ _
      clear hc hM
      by_cases hk1 : kd = 1
      · have f1 : ((kd != 1) : Bool) = false := by simp [hk1]
        have HS2 := Lib.hid (HSTP.out.trans (if_pos hk1))
        obtain ⟨⟨ka0, ka1⟩, kb0, kb1⟩ := gateB_mul HGB.out hk1
        obtain ⟨ja, rfl⟩ : ∃ n : Nat, ka = n := ⟨ka.toNat, by omega⟩
        obtain ⟨jb, rfl⟩ : ∃ n : Nat, kb = n := ⟨kb.toNat, by omega⟩
        have hja : ja < an + bn + k := by omega
        have hjb : jb < an + bn + k := by omega
        subst hk1
        have x0 := (B0.below V3).cell 0
        have x0' : (wr.alloc (.cells #[.int .i64 1, .int .i64 (ja : Int), .int .i64 (jb : Int)] 78)).cell? ⟨w.heap.size, 0, none⟩ = some (.int .i64 P) := x0
        have Z3 := Lib.hid M3.feet
        clear hbel x0
        go_wp2_with fail
        generalize (wr.alloc (.cells #[.int .i64 1, .int .i64 (ja : Int), .int .i64 (jb : Int)] 78)) = w3 at *
        refine (gateTriple_any P key k _ (by omega) (by omega) k0 k1 (by omega) (by omega)).mono ?_; rintro e w4 ⟨ta, tc, rfl, ot, u4⟩
        have HTF := Lib.hid ot.feet
        have M4 := M3.below u4
        have V4 := V3.trans (u4.mono V3.size)
        have Bg4 := Bg.below u4
        have hsz4 : w3.heap.size ≤ w4.heap.size := u4.size
        have hbl : wr.heap.size < w3.heap.size := Bg.lt
        clear c0 c1' c2' x0' u4 M3 Bg
        have HGT : Hid (gtL P key k = [gtN P key k 0, gtN P key k 1, gtN P key k 2, gtN P key k 3, gtN P key k 4, gtZ P key k]) := rfl
        rw [HGT.out] at ot
        have q0 := gtN_range P key k 0 (by omega)
        have q1 := gtN_range P key k 1 (by omega)
        have q2 := gtN_range P key k 2 (by omega)
        have q3 := gtN_range P key k 3 (by omega)
        have q4 := gtN_range P key k 4 (by omega)
        have q5 : 0 ≤ gtZ P key k ∧ gtZ P key k ≤ P - 1 := mod_rng _ _ (by omega)
        have x0 : w4.cell? ⟨w.heap.size, 0, none⟩ = some (.int .i64 P) := (B0.below V4).cell 0
        have FM3 : Hid (∀ q ∈ foot a1 c1 ++ (foot a2 c2 ++ feetSS a3 c3 rs), q < w3.heap.size) := Z3
        go_upto_if 70 with fail

        go_cut [22] (fun s22 wx => s22 = .slice ta 6 tc ∧ Own wx w3.heap.size ta 6 tc [gtN P key k 0, gtN P key k 1, gtN P key k 2, gtN P key k 3, gtN P key k 4, wsT P key fault change k] ∧ WireM wx w0.heap.size a1 (an + bn + k) c1 F a2 (an + bn + k) c2 S a3 n3 c3 rs ∧ Below w0.heap.size w0 wx ∧ Blk wx wr.heap.size 78 #[.int .i64 1, .int .i64 (ja : Int), .int .i64 (jb : Int)] ∧ w3.heap.size ≤ wx.heap.size)
        case first =>
          by_cases hf : (k : Int) = fault
          · have HT : Hid (wsT P key fault change k = (gtZ P key k + change) % P) := Lib.hid (by unfold wsT; rw [if_pos hf])
            have ff : (((k : Int) == fault) : Bool) = true := by simpa using hf
            have t1 : IntKind.i64.wrap (gtZ P key k + change) = gtZ P key k + change := IntWalk.i64_in _ (by omega)
            clear hf
            obtain ⟨gt, rfl, gt0, gt1, tz, tfz, tst⟩ := ot.at 5 (by omega)
            have tz' : w4.cell? ⟨gt, 5, none⟩ = some (.int .i64 (gtZ P key k)) := tz
            clear tz tst
            go_wp2_with fail
            refine wp_region_still_tail 10 (by kernel_rfl) (by kernel_rfl) ?_
            simp only [List.take_succ_cons, List.take_zero, List.drop_succ_cons, List.drop_zero]
            repeat (first | still_step | still_call (mod_same _ _ _ (by omega) (by omega)))
            refine wpStill_nil ?_
            change wpList _ _ _ _ _ w4.drew
            have ot5 := ot.drew
            have M5 := M4.drew
            have V5 := V4.drew
            have Bg5 := Bg4.drew
            have hsz5 : w3.heap.size ≤ w4.drew.heap.size := hsz4
            clear ot M4 V4 Bg4 tz' tfz x0
            generalize w4.drew = w5 at *
            obtain ⟨_, E, _, _, tz, tfz, tst⟩ := ot5.at 5 (by omega)
            cases E
            have ot6 := tst ((gtZ P key k + change) % P)
            have GT : Only [gt] w5 (w5.setCell ⟨gt, 5, none⟩ (.int .i64 ((gtZ P key k + change) % P))) := (Only.refl _ _).setCell ⟨gt, 5, none⟩ _ (by simp)
            have M6 := M5.only' GT Z3.out (fun q hq => by simp at hq; omega)
            have Bg6 := Bg5.only GT (by simp; omega)
            have V6 := V5.trans (GT.below V5.size (fun q hq => by have := V3.size; simp at hq; omega))
            have hsz6 : w3.heap.size ≤ (w5.setCell ⟨gt, 5, none⟩ (.int .i64 ((gtZ P key k + change) % P))).heap.size := Nat.le_trans hsz5 GT.size
            have ot7 : Own (w5.setCell ⟨gt, 5, none⟩ (.int .i64 ((gtZ P key k + change) % P))) w3.heap.size (some ⟨gt, 0, none⟩) 6 tc [gtN P key k 0, gtN P key k 1, gtN P key k 2, gtN P key k 3, gtN P key k 4, (gtZ P key k + change) % P] := ot6
            have tz' : w5.cell? ⟨gt, 5, none⟩ = some (.int .i64 (gtZ P key k)) := tz
            clear ot5 M5 V5 Bg5 tz tst ot6 GT hsz5 t1
            have OT := Lib.hid ot7
            have MM := Lib.hid M6
            have VV := Lib.hid V6
            have BB := Lib.hid Bg6
            clear ot7 M6 V6 Bg6
            go_wp2_with fail
            go_meet
            exact ⟨rfl, by rw [HT.out]; exact OT.out, MM.out, VV.out, BB.out, hsz6⟩
          · have HT : Hid (wsT P key fault change k = gtZ P key k) := Lib.hid (by unfold wsT; rw [if_neg hf])
            have ff : (((k : Int) == fault) : Bool) = false := by simpa using hf
            clear hf x0
            go_wp2_with fail
            go_meet
            exact ⟨rfl, by rw [HT.out]; exact ot, M4, V4, Bg4, hsz4⟩
        case rest =>
          clear ot M4 V4 Bg4 hsz4 x0
          rename World => w6
          obtain ⟨rfl, ot7, M6, V6, Bg6, hsz6⟩ := hcut
          have q6 : 0 ≤ wsT P key fault change k ∧ wsT P key fault change k ≤ P - 1 := by
            unfold wsT
            split
            · exact mod_rng _ _ (by omega)
            · exact q5
          obtain ⟨nk, hnk⟩ : ∃ x, an + bn + k = x := ⟨_, rfl⟩
          have HNK := Lib.hid hnk
          rw [hnk] at M6 hja hjb HLF HLS ⊢
          have lnk : nk ≤ 116 := by omega
          clear hnk
          obtain ⟨gF, rfl, _, _, fa, _, _⟩ := M6.f.at ja hja
          obtain ⟨_, E, _, _, fb, _, _⟩ := M6.f.at jb hjb
          cases E
          obtain ⟨gS, rfl, _, _, sa, _, _⟩ := M6.s.at ja hja
          obtain ⟨_, E, _, _, sb, _, _⟩ := M6.s.at jb hjb
          cases E
          have rX0 := getD_rng HRF.out ja (by rw [HLF.out]; exact hja)
          have rY0 := getD_rng HRF.out jb (by rw [HLF.out]; exact hjb)
          have rX1 := getD_rng HRS.out ja (by rw [HLS.out]; exact hja)
          have rY1 := getD_rng HRS.out jb (by rw [HLS.out]; exact hjb)
          have HMU : Hid (wsMul P key fault change (ja : Int) (jb : Int) k (F, S, OP) = (F ++ [shareI P 0 (gtN P key k 0) (gtN P key k 1) (gtN P key k 2) ((F.getD ja 0 + S.getD ja 0 - gtN P key k 0 - gtN P key k 3) % P) ((F.getD jb 0 + S.getD jb 0 - gtN P key k 1 - gtN P key k 4) % P)],
            S ++ [shareI P 1 (gtN P key k 3) (gtN P key k 4) (wsT P key fault change k) ((F.getD ja 0 + S.getD ja 0 - gtN P key k 0 - gtN P key k 3) % P) ((F.getD jb 0 + S.getD jb 0 - gtN P key k 1 - gtN P key k 4) % P)],
            OP ++ [[(F.getD ja 0 + S.getD ja 0 - gtN P key k 0 - gtN P key k 3) % P, (F.getD jb 0 + S.getD jb 0 - gtN P key k 1 - gtN P key k 4) % P]])) := Lib.hid rfl
          generalize wsT P key fault change k = T5 at *
          generalize F.getD ja 0 = X0 at *
          generalize F.getD jb 0 = Y0 at *
          generalize S.getD ja 0 = X1 at *
          generalize S.getD jb 0 = Y1 at *
          generalize gtN P key k 0 = T0 at *
          generalize gtN P key k 1 = T1 at *
          generalize gtN P key k 2 = T2 at *
          generalize gtN P key k 3 = T3 at *
          generalize gtN P key k 4 = T4 at *
          go_upto_region 12 with fail
          go_cut [23, 24] (fun s23 s24 wx => ∃ pb pd qb qd, s23 = .slice pb 2 pd ∧ s24 = .slice qb 2 qd ∧ Own wx w6.heap.size pb 2 pd [shareI P 0 T0 T1 T2 ((X0 + X1 - T0 - T3) % P) ((Y0 + Y1 - T1 - T4) % P), shareI P 1 T3 T4 T5 ((X0 + X1 - T0 - T3) % P) ((Y0 + Y1 - T1 - T4) % P)] ∧ Own wx w6.heap.size qb 2 qd [(X0 + X1 - T0 - T3) % P, (Y0 + Y1 - T1 - T4) % P] ∧ Below w6.heap.size w6 wx)
          case first =>
            have x0 : w6.cell? ⟨w.heap.size, 0, none⟩ = some (.int .i64 P) := (B0.below V6).cell 0
            have y1 : w6.cell? ⟨wr.heap.size, 1, none⟩ = some (.int .i64 ja) := Bg6.cell 1
            have y2 : w6.cell? ⟨wr.heap.size, 2, none⟩ = some (.int .i64 jb) := Bg6.cell 2
            have ia : (ja : Int) < (nk : Int) := by omega
            have ib : (jb : Int) < (nk : Int) := by omega
            have g0 : 0 ≤ T0 ∧ T0 ≤ 1000 := by omega
            have g1 : 0 ≤ T1 ∧ T1 ≤ 1000 := by omega
            have g2 : 0 ≤ T2 ∧ T2 ≤ 1000 := by omega
            have g3 : 0 ≤ T3 ∧ T3 ≤ 1000 := by omega
            have g4 : 0 ≤ T4 ∧ T4 ≤ 1000 := by omega
            have g5 : 0 ≤ T5 ∧ T5 ≤ 1000 := by omega
            have h0 : 0 ≤ X0 ∧ X0 ≤ 1000 := by omega
            have h1 : 0 ≤ X1 ∧ X1 ≤ 1000 := by omega
            have h2 : 0 ≤ Y0 ∧ Y0 ≤ 1000 := by omega
            have h3 : 0 ≤ Y1 ∧ Y1 ≤ 1000 := by omega
            have pl : 1 ≤ P := by omega
            have pu : P ≤ 1000 := by omega
            have LA : Ints ((w6.alloc (.cells #[.int .i64 X0, .int .i64 X1] 3)).alloc (.cells #[.int .i64 Y0, .int .i64 Y1] 3)).drew (some ⟨w6.heap.size, 0, none⟩) 2 2 [X0, X1] := ((Ints.lit2 w6 X0 X1 _).alloc _).drewN 1
            have LB : Ints ((w6.alloc (.cells #[.int .i64 X0, .int .i64 X1] 3)).alloc (.cells #[.int .i64 Y0, .int .i64 Y1] 3)).drew (some ⟨w6.heap.size + 1, 0, none⟩) 2 2 [Y0, Y1] := (lit2_snd w6 _ Y0 Y1 _).drewN 1
            have LC : Ints ((w6.alloc (.cells #[.int .i64 Y0, .int .i64 Y1] 3)).alloc (.cells #[.int .i64 X0, .int .i64 X1] 3)).drew (some ⟨w6.heap.size + 1, 0, none⟩) 2 2 [X0, X1] := (lit2_snd w6 _ X0 X1 _).drewN 1
            have LD : Ints ((w6.alloc (.cells #[.int .i64 Y0, .int .i64 Y1] 3)).alloc (.cells #[.int .i64 X0, .int .i64 X1] 3)).drew (some ⟨w6.heap.size, 0, none⟩) 2 2 [Y0, Y1] := ((Ints.lit2 w6 Y0 Y1 _).alloc _).drewN 1
            have LT1 : Ints ((w6.alloc (.cells #[.int .i64 X0, .int .i64 X1] 3)).alloc (.cells #[.int .i64 Y0, .int .i64 Y1] 3)).drew _ 6 tc [T0, T1, T2, T3, T4, T5] := ((ot7.ints.alloc _).alloc _).drewN 1
            have LT2 : Ints ((w6.alloc (.cells #[.int .i64 Y0, .int .i64 Y1] 3)).alloc (.cells #[.int .i64 X0, .int .i64 X1] 3)).drew _ 6 tc [T0, T1, T2, T3, T4, T5] := ((ot7.ints.alloc _).alloc _).drewN 1
            go_region_held3 (fun W => W.cell? ⟨w.heap.size, 0, none⟩ = some (.int .i64 P) ∧ W.cell? ⟨wr.heap.size, 1, none⟩ = some (.int .i64 ja) ∧ W.cell? ⟨wr.heap.size, 2, none⟩ = some (.int .i64 jb) ∧ W.cell? ⟨gF, ja, none⟩ = some (.int .i64 X0) ∧ W.cell? ⟨gF, jb, none⟩ = some (.int .i64 Y0) ∧ W.cell? ⟨gS, ja, none⟩ = some (.int .i64 X1) ∧ W.cell? ⟨gS, jb, none⟩ = some (.int .i64 Y1))
              (first | go_keep | exact ⟨keepC uu (keepA _ (keepA _ x0)), keepC uu (keepA _ (keepA _ y1)), keepC uu (keepA _ (keepA _ y2)), keepC uu (keepA _ (keepA _ fa)), keepC uu (keepA _ (keepA _ fb)), keepC uu (keepA _ (keepA _ sa)), keepC uu (keepA _ (keepA _ sb))⟩ | exact ⟨keepA _ (keepA _ x0), keepA _ (keepA _ y1), keepA _ (keepA _ y2), keepA _ (keepA _ fa), keepA _ (keepA _ fb), keepA _ (keepA _ sa), keepA _ (keepA _ sb)⟩ | exact ⟨keepA _ x0, keepA _ y1, keepA _ y2, keepA _ fa, keepA _ fb, keepA _ sa, keepA _ sb⟩)
              (first | (go_at_call 45; (with_reducible refine (multiplyShared_any P _ tc T0 T1 T2 T3 T4 T5 _ _ X0 X1 _ _ Y0 Y1 _ LT1 LA LB pl pu g0 g1 g2 g3 g4 g5 h0 h1 h2 h3).mono ?_); rintro e w7 ⟨pb, pd, qb, qd, rfl, op, oq, ap, uu⟩) | (go_at_call 45; (with_reducible refine (multiplyShared_any P _ tc T0 T1 T2 T3 T4 T5 _ _ X0 X1 _ _ Y0 Y1 _ LT2 LC LD pl pu g0 g1 g2 g3 g4 g5 h0 h1 h2 h3).mono ?_); rintro e w7 ⟨pb, pd, qb, qd, rfl, op, oq, ap, uu⟩))
            all_goals have RR := Lib.hid (And.intro (op.lower (b' := w6.heap.size) (by simp; omega)) (And.intro (oq.lower (b' := w6.heap.size) (by simp; omega)) ((((Below.refl w6.heap.size w6).alloc (Nat.le_refl _) _).alloc (by simp) _).drew.trans (uu.mono (by simp; omega)))))
            all_goals clear op oq ap uu
            all_goals go_wp2_with fail
            all_goals go_meet
            all_goals exact ⟨_, _, _, _, rfl, rfl, RR.out⟩
          case rest =>
            rename World => w7
            obtain ⟨pb, pd, qb, qd, rfl, rfl, op, oq, u⟩ := hcut
            clear fa fb sa sb ot7
            generalize shareI P 0 T0 T1 T2 ((X0 + X1 - T0 - T3) % P) ((Y0 + Y1 - T1 - T4) % P) = Z0 at *
            generalize shareI P 1 T3 T4 T5 ((X0 + X1 - T0 - T3) % P) ((Y0 + Y1 - T1 - T4) % P) = Z1 at *
            generalize (X0 + X1 - T0 - T3) % P = D at *
            generalize (Y0 + Y1 - T1 - T4) % P = E at *
            have FQ := Lib.hid oq.feet
            have FM := Lib.hid M6.feet
            have M7 := M6.below u
            have V7 := V6.trans (u.mono V6.size)
            have S7 := u.size
            clear M6 V6 u Bg6
            obtain ⟨gp, rfl, p0, p1, z0, _, _⟩ := op.at 0 (by omega)
            obtain ⟨_, E', _, _, z1, _, _⟩ := op.at 1 (by omega)
            cases E'
            have z0' : w7.cell? ⟨gp, 0, none⟩ = some (.int .i64 Z0) := z0
            have z1' : w7.cell? ⟨gp, 1, none⟩ = some (.int .i64 Z1) := z1
            have HNP1 := Lib.hid (show gp ∉ foot (some (⟨gF, 0, none⟩ : Addr)) c1 from fun hm => by have := FM.out gp (List.mem_append_left _ hm); omega)
            have HNP2 := Lib.hid (show gp ∉ foot (some (⟨gS, 0, none⟩ : Addr)) c2 from fun hm => by have := FM.out gp (List.mem_append_right _ (List.mem_append_left _ hm)); omega)
            have HNP3 := Lib.hid (show gp ∉ foot a3 c3 from fun hm => by have := FM.out gp (List.mem_append_right _ (List.mem_append_right _ (List.mem_append_left _ hm))); omega)
            clear z0 z1 op
            have KP : Hid (∀ q ∈ foot (some (⟨gF, 0, none⟩ : Addr)) c1, q < w7.heap.size) := Lib.hid fun q hq => (M7.f.feet q hq).2
            have KS : Hid (∀ q ∈ foot (some (⟨gS, 0, none⟩ : Addr)) c2, q < w7.heap.size) := Lib.hid fun q hq => (M7.s.feet q hq).2
            have DQ1 := Lib.hid (show Disj (foot (some (⟨gF, 0, none⟩ : Addr)) c1) (foot qb qd) from fun q hq hq' => by have := FM.out q (List.mem_append_left _ hq); have := FQ.out q hq'; omega)
            have DQ2 := Lib.hid (show Disj (foot (some (⟨gS, 0, none⟩ : Addr)) c2) (foot qb qd) from fun q hq hq' => by have := FM.out q (List.mem_append_right _ (List.mem_append_left _ hq)); have := FQ.out q hq'; omega)
            have DQ3 := Lib.hid (show Disj (foot qb qd) (feetSS a3 c3 rs) from fun q hq hq' => by have := FM.out q (List.mem_append_right _ (List.mem_append_right _ hq')); have := FQ.out q hq; omega)
            have OQ := Lib.hid (oq.lower (b' := w0.heap.size) (by have := V3.size; omega))
            clear oq
            go_upto_region 13 with fail
            go_region_held3 (fun W => W.cell? ⟨gp, 0, none⟩ = some (.int .i64 Z0) ∧ W.cell? ⟨gp, 1, none⟩ = some (.int .i64 Z1))
              (first | exact ⟨k100, k101⟩ | exact ⟨k90, k91⟩ | exact ⟨keepA _ (k90), keepA _ (k91)⟩ | exact ⟨k80, k81⟩ | exact ⟨keepA _ (k80), keepA _ (k81)⟩ | exact ⟨keepA _ (keepA _ (k80)), keepA _ (keepA _ (k81))⟩ | exact ⟨z0', z1'⟩ | exact ⟨keepA _ (z0'), keepA _ (z1')⟩ | exact ⟨keepD (keepA _ (z0')), keepD (keepA _ (z1'))⟩ | exact ⟨keepA _ (keepA _ (z0')), keepA _ (keepA _ (z1'))⟩ | exact ⟨keepD (keepA _ (keepA _ (z0'))), keepD (keepA _ (keepA _ (z1')))⟩ | exact ⟨keepA _ (keepA _ (keepA _ (z0'))), keepA _ (keepA _ (keepA _ (z1')))⟩ | exact ⟨keepD (keepA _ (keepA _ (keepA _ (z0')))), keepD (keepA _ (keepA _ (keepA _ (z1'))))⟩ | go_keep)
                (first | (have _ := M9; refine step_appR _ (by rfl) _ _ (by rfl) w0.heap.size a3 n3 c3 (rs.map rowV) (by rfl) (M9.below (by go_grown)).o.out _ 1 (qb, qd, [D, E]) (by rfl) (rowC1 (v := .slice qb 2 qd) (by first | (first | exact cell_new _ _ _ | exact keepD (cell_new _ _ _) | exact keepA _ (cell_new _ _ _) | exact keepD (keepA _ (cell_new _ _ _)) | exact keepA _ (keepA _ (cell_new _ _ _)) | exact keepD (keepA _ (keepA _ (cell_new _ _ _))) | exact cell_new1 _ _ _ _ | exact keepD (cell_new1 _ _ _ _) | exact keepA _ (cell_new1 _ _ _ _) | exact keepD (keepA _ (cell_new1 _ _ _ _)) | exact cell_new2 _ _ _ _ _ | exact keepD (cell_new2 _ _ _ _ _) | (simp; done)) | (refine keepC (by go_grown) (HO9.out _ _ ?_ (by omega)); (first | exact cell_new _ _ _ | exact keepD (cell_new _ _ _) | exact keepA _ (cell_new _ _ _) | exact keepD (keepA _ (cell_new _ _ _)) | exact keepA _ (keepA _ (cell_new _ _ _)) | exact keepD (keepA _ (keepA _ (cell_new _ _ _))) | exact cell_new1 _ _ _ _ | exact keepD (cell_new1 _ _ _ _) | exact keepA _ (cell_new1 _ _ _ _) | exact keepD (keepA _ (cell_new1 _ _ _ _)) | exact cell_new2 _ _ _ _ _ | exact keepD (cell_new2 _ _ _ _ _) | (simp; done))) | (refine keepC (by go_grown) (HO9.out _ _ (keepC (by go_grown) (HO8.out _ _ ?_ (by omega))) (by omega)); (first | exact cell_new _ _ _ | exact keepD (cell_new _ _ _) | exact keepA _ (cell_new _ _ _) | exact keepD (keepA _ (cell_new _ _ _)) | exact keepA _ (keepA _ (cell_new _ _ _)) | exact keepD (keepA _ (keepA _ (cell_new _ _ _))) | exact cell_new1 _ _ _ _ | exact keepD (cell_new1 _ _ _ _) | exact keepA _ (cell_new1 _ _ _ _) | exact keepD (keepA _ (cell_new1 _ _ _ _)) | exact cell_new2 _ _ _ _ _ | exact keepD (cell_new2 _ _ _ _ _) | (simp; done))))) (by omega) (by have := V9.size; (try simp); omega) ?_; intro a10 c10 w10 o10 uu10 g10 m10; have M10 := (M9.below (by go_grown)).appO (r := (qb, qd, [D, E])) (Q9.out.below (by go_grown)) F81.out F92.out DQ3.out o10 g10 m10; have V10 := (V9.trans (Below.mono (by go_grown) V9.size)).trans uu10; have k100 := keepG g10 HNP3.out (keepC (by go_grown) k90); have k101 := keepG g10 HNP3.out (keepC (by go_grown) k91)) | (have _ := M8; refine step_appJ _ (by rfl) _ _ (by rfl) w0.heap.size (some ⟨gS, 0, none⟩) nk c2 S (by rfl) (M8.below (by go_grown)).s _ 1 1 [Z1] (by rfl) (ints1 (by first | (first | exact cell_new _ _ _ | exact keepD (cell_new _ _ _) | exact keepA _ (cell_new _ _ _) | exact keepD (keepA _ (cell_new _ _ _)) | exact keepA _ (keepA _ (cell_new _ _ _)) | exact keepD (keepA _ (keepA _ (cell_new _ _ _))) | exact cell_new1 _ _ _ _ | exact keepD (cell_new1 _ _ _ _) | exact keepA _ (cell_new1 _ _ _ _) | exact keepD (keepA _ (cell_new1 _ _ _ _)) | exact cell_new2 _ _ _ _ _ | exact keepD (cell_new2 _ _ _ _ _) | (simp; done)) | (refine keepC (by go_grown) (HO8.out _ _ ?_ (by omega)); (first | exact cell_new _ _ _ | exact keepD (cell_new _ _ _) | exact keepA _ (cell_new _ _ _) | exact keepD (keepA _ (cell_new _ _ _)) | exact keepA _ (keepA _ (cell_new _ _ _)) | exact keepD (keepA _ (keepA _ (cell_new _ _ _))) | exact cell_new1 _ _ _ _ | exact keepD (cell_new1 _ _ _ _) | exact keepA _ (cell_new1 _ _ _ _) | exact keepD (keepA _ (cell_new1 _ _ _ _)) | exact cell_new2 _ _ _ _ _ | exact keepD (cell_new2 _ _ _ _ _) | (simp; done))))) (by omega) (by have := V8.size; (try simp); omega) ?_; intro a9 c9 w9 o9 uu9 g9 hold9 m9; have M9 := (M8.below (by go_grown)).appS o9 g9 m9; have V9 := (V8.trans (Below.mono (by go_grown) V8.size)).trans uu9; have Q9 := Lib.hid ((Q8.out.below (by go_grown)).only (Only.of_grown g9) DQ2.out.symm); have F92 := Lib.hid (m9.disj DQ2.out (fun q hq => by have := FQ.out q hq; (try simp); omega)); have k90 := keepG g9 HNP2.out (keepC (by go_grown) k80); have k91 := keepG g9 HNP2.out (keepC (by go_grown) k81); have HO9 := Lib.hid (fun (q : Nat) (v : Value) (hc : World.cell? _ ⟨q, 0, none⟩ = some v) (hq : w7.heap.size ≤ q) => keepG g9 (fun hm => by have := KS.out q hm; omega) hc); have S9 : w7.heap.size ≤ w9.heap.size := by have := g9.size; (try simp at this); omega) | (refine step_appJ _ (by rfl) _ _ (by rfl) w0.heap.size (some ⟨gF, 0, none⟩) nk c1 F (by rfl) (M7.below (by go_grown)).f _ 1 1 [Z0] (by rfl) (ints1 (by first | exact cell_new _ _ _ | exact keepD (cell_new _ _ _) | exact keepA _ (cell_new _ _ _) | exact keepD (keepA _ (cell_new _ _ _)) | exact keepA _ (keepA _ (cell_new _ _ _)) | exact keepD (keepA _ (keepA _ (cell_new _ _ _))) | exact cell_new1 _ _ _ _ | exact keepD (cell_new1 _ _ _ _) | exact keepA _ (cell_new1 _ _ _ _) | exact keepD (keepA _ (cell_new1 _ _ _ _)) | exact cell_new2 _ _ _ _ _ | exact keepD (cell_new2 _ _ _ _ _) | (simp; done))) (by omega) (by have := V7.size; (try simp); omega) ?_; intro a8 c8 w8 o8 uu8 g8 hold8 m8; have M8 := (M7.below (by go_grown)).appF o8 g8 m8; have V8 := (V7.trans (Below.mono (by go_grown) V7.size)).trans uu8; have Q8 := Lib.hid ((OQ.out.below (by go_grown)).only (Only.of_grown g8) DQ1.out.symm); have F81 := Lib.hid (m8.disj DQ1.out (fun q hq => by have := FQ.out q hq; (try simp); omega)); have k80 := keepG g8 HNP1.out (keepC (by go_grown) z0'); have k81 := keepG g8 HNP1.out (keepC (by go_grown) z1'); have HO8 := Lib.hid (fun (q : Nat) (v : Value) (hc : World.cell? _ ⟨q, 0, none⟩ = some v) (hq : w7.heap.size ≤ q) => keepG g8 (fun hm => by have := KP.out q hm; omega) hc); have S8 : w7.heap.size ≤ w8.heap.size := by have := g8.size; (try simp at this); omega))
            all_goals have HE := Lib.hid (show wsR P key fault change G F0 S0' (k + 1) = (F ++ [Z0], S ++ [Z1], OP ++ [[D, E]]) by rw [HST.out, HS2.out, HMU.out])
            all_goals have HM := Lib.hid M10
            all_goals have HV := Lib.hid V10
            all_goals clear M8 M9 M10 V8 V9 V10 Q8 Q9 F81 F92 HO8 HO9 k80 k81 k90 k91 k100 k101 z0' z1' o8 o9 o10 g8 g9 g10 m8 m9 m10 uu8 uu9 uu10 hold8 hold9
            all_goals
              go_wp2
              go_roundw
              case rel => exact ⟨k + 1, by omega, by go_num, HV.out, _, _, _, _, _, _, _, rs ++ [(qb, qd, [D, E])], v_slice (by have := HNK.out; omega), v_slice (by have := HNK.out; omega), rfl, by omega, by rw [HE.out, show an + bn + (k + 1) = nk + 1 by have := HNK.out; omega]; exact HM.out, by rw [HE.out, datas_app, HDA.out]⟩
              case measure => simp [intOf]; omega
      · have f1 : ((kd != 1) : Bool) = true := by simp [hk1]
        have HS2 := Lib.hid (HSTP.out.trans (if_neg hk1))
        have HK1 := Lib.hid hk1
        clear hk1
        go_wp2
        generalize (wr.alloc (.cells #[.int .i64 kd, .int .i64 ka, .int .i64 kb] 78)) = w3 at *
        have x0 : w3.cell? ⟨w.heap.size, 0, none⟩ = some (.int .i64 P) := (B0.below V3).cell 0
        have y0 : w3.cell? ⟨wr.heap.size, 0, none⟩ = some (.int .i64 kd) := Bg.cell 0
        have y1 : w3.cell? ⟨wr.heap.size, 1, none⟩ = some (.int .i64 ka) := Bg.cell 1
        have y2 : w3.cell? ⟨wr.heap.size, 2, none⟩ = some (.int .i64 kb) := Bg.cell 2
        clear c0 c1' c2' hbel Bg
        go_region_held3 (fun W => W.cell? ⟨w.heap.size, 0, none⟩ = some (.int .i64 P) ∧ W.cell? ⟨wr.heap.size, 0, none⟩ = some (.int .i64 kd) ∧ W.cell? ⟨wr.heap.size, 1, none⟩ = some (.int .i64 ka) ∧ W.cell? ⟨wr.heap.size, 2, none⟩ = some (.int .i64 kb))
          (first | go_keep | exact ⟨keepC u5 (keepC u4 x0), keepC u5 (keepC u4 y0), keepC u5 (keepC u4 y1), keepC u5 (keepC u4 y2)⟩ | exact ⟨keepC u4 x0, keepC u4 y0, keepC u4 y1, keepC u4 y2⟩)
          (first | (go_at_call 67; have _ := u4; refine (localGate_any P kd ka kb 1 (i0 + i1 + k) _ _ _ S _ (M3.s.ints.drew.below u4) (by omega) (by omega) HRS.out HGB.out HK1.out (by omega) (by omega) (by omega)).mono ?_; rintro e w5 ⟨rfl, u5⟩) | (go_at_call 67; refine (localGate_any P kd ka kb 0 (i0 + i1 + k) _ _ _ F _ M3.f.ints.drew (by omega) (by omega) HRF.out HGB.out HK1.out (by omega) (by omega) (by omega)).mono ?_; rintro e w4 ⟨rfl, u4⟩))
        all_goals have u : Below w3.heap.size w3 w5 := (Below.refl _ _).drew.trans (u4.trans (u5.mono u4.size))
        all_goals have M5 := M3.below u
        all_goals have V5 := V3.trans (u.mono V3.size)
        all_goals clear x0 y0 y1 y2 u4 u5 u M3 V3
        all_goals generalize hlf : localI P kd ka kb 0 F = lf at *
        all_goals generalize hls : localI P kd ka kb 1 S = ls at *
        all_goals have HLL := Lib.hid hlf
        all_goals have HSS := Lib.hid hls
        all_goals clear hlf hls
        go_wp2_with (at_builtin; refine wpList_appJ _ rfl _ _ rfl w0.heap.size a1 (an + bn + k) c1 F rfl (M5.f.alloc _) _ 1 1 [lf] rfl (Ints.lit1 _ _ _) (by omega) (by have := V5.size; simp; omega) ?_)
        intro a6 c6 w6 o6 u6 g6 m6
        have M6 := (M5.alloc (.cells #[.int .i64 lf] 3)).appF o6 g6 m6
        have V6 := (V5.alloc V5.size (.cells #[.int .i64 lf] 3)).trans u6
        clear M5 V5 o6 u6 g6 m6
        go_wp2_with (at_builtin; refine wpList_appJ _ rfl _ _ rfl w0.heap.size a2 (an + bn + k) c2 S rfl (M6.s.alloc _) _ 1 1 [ls] rfl (Ints.lit1 _ _ _) (by omega) (by have := V6.size; simp; omega) ?_)
        intro a7 c7 w7 o7 u7 g7 m7
        have M7 := (M6.alloc (.cells #[.int .i64 ls] 3)).appS o7 g7 m7
        have V7 := (V6.alloc V6.size (.cells #[.int .i64 ls] 3)).trans u7
        clear M6 V6 o7 u7 g7 m7
        have HE : Hid (wsR P key fault change G F0 S0' (k + 1) = (F ++ [lf], S ++ [ls], OP)) := Lib.hid (by rw [HST.out, HS2.out]; unfold wsLoc; rw [← HLL.out, ← HSS.out])
        go_wp2
        go_roundw
        case rel => exact ⟨k + 1, by omega, by go_num, V7, _, _, _, _, _, _, _, rs, rfl, rfl, rfl, by omega, by rw [HE.out]; exact M7, by rw [HE.out]; exact HDA.out⟩
        case measure => simp [intOf]; omega
    · obtain rfl : k = gn := by omega
      go_wp2
      go_ret3
      exact ⟨_, _, _, _, _, _, _, rs, rfl, ⟨hM.f.lower (Nat.le_of_lt S0), hM.s.lower (Nat.le_of_lt S0), hM.o.lower (Nat.le_of_lt S0), hM.fs, hM.fo, hM.so⟩, hda, V0.trans (hbel.mono V0.size)⟩
end Go.Proofs.Ythpcmbdkboajcaa
