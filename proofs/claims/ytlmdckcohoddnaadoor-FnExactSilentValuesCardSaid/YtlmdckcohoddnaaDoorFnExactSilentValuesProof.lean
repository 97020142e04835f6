/- The given statement on FnExactSilentValues: for every input the law returns true, and each argument reads afterwards as it read before. The one listed variable, the table of the bodies' lengths, reads as the program's text lays it (the card ties it). The frame is the kit's; the walk is FnExactSilentValues_walk. -/
import Derived.Test.YtlmdckcohoddnaaDoorRows
import Derived.WalkKit
import Derived.Test.YtlmdckcohoddnaaDoorK3
import Derived.Test.YtlmdckcohoddnaaDoorK20
import Derived.ProofKit
import Derived.OpenShut
import Derived.ShutString
import Derived.ChangeOld
import Derived.Below
import Derived.OpenVars
import Derived.Lay
import Derived.MakeChecks
import Derived.SevenTiedAt
import Derived.Test.YtlmdckcohoddnaaDoorTie
import Derived.Test.YtlmdckcohoddnaaDoorCards
namespace Go.Proofs.YtlmdckcohoddnaaDoor.fnExactSilentValues
open Go.ChangeShapes Go.WideShapes Go.ChangeAt Go.RowKit
open Go.ChangeMaps (open_string shut_string)

theorem own : ownKnob Tryd.prog.godebug = none := by kernel_rfl
theorem laidOut : laidOutB Tryd.prog = true := by kernel_rfl

theorem tblName : Tryd.prog.globalNamed "loop.example/g00877/impl.bodyLengths" = some 0 := by kernel_rfl
theorem tblType : (Tryd.prog.globals[0]?).map (·.type) = some 85 := by kernel_rfl
theorem tblCells : Tryd.prog.cellsOf 85 = 3 := by kernel_rfl
theorem intCells : Tryd.prog.cellsOf 3 = 1 := by kernel_rfl
theorem int_of_trod {H : Type} {enc : TypeId × Value → H} {P : Program} {w : World} {base : Nat} {sp : Nat → Bool} {held : Bool} {fuel : Nat} {t : TypeId} {k : IntKind} {c : Value} {y : DataW H × List MemPlace}
    (ht : P.underlying t = some (.int k)) (h : DataW.trod enc P w base sp held fuel t [c] = some y) : ∃ n, c = .int k n ∧ y = (.lit (.int k n), []) := by
  cases fuel with
  | zero => simp [DataW.trod] at h
  | succ fuel =>
    cases c <;> simp [DataW.trod, ht] at h
    rename_i k' n
    obtain ⟨⟨rfl, _⟩, rfl⟩ := h
    exact ⟨n, rfl, rfl⟩
theorem tbl_of_laid {W : World} (h : laidMet Tryd.prog Rows.fnExactSilentValuesRow.laid W) : Tbl W := by
  obtain ⟨ps, ⟨g, t, cs, fuel, p, q, hg, ht, hvar, hd, _, _⟩, _⟩ := h
  obtain rfl := Option.some.inj (tblName.symm.trans hg)
  obtain rfl := Option.some.inj (tblType.symm.trans ht)
  obtain ⟨l⟩ := cs
  cases fuel with
  | zero => simp [DataW.trod] at hd
  | succ fuel =>
    simp only [DataW.trod, Tryd.underlying85, tblCells, intCells] at hd
    split at hd
    · rename_i hl
      obtain ⟨c0, c1, c2, rfl⟩ : ∃ c0 c1 c2, l = [c0, c1, c2] := by
        match l, hl with
        | [a, b, c], _ => exact ⟨a, b, c, rfl⟩
      have e : List.range 3 = [0, 1, 2] := rfl
      rw [e] at hd
      simp only [Option.map_eq_some_iff, List.mapM_cons, List.mapM_nil, Option.bind_eq_bind, Option.bind_eq_some_iff, Option.pure_def, Option.some.injEq] at hd
      obtain ⟨xs, ⟨y0, h0, _, ⟨y1, h1, _, ⟨y2, h2, _, rfl, rfl⟩, rfl⟩, rfl⟩, hx⟩ := hd
      obtain ⟨n0, rfl, rfl⟩ := int_of_trod Tryd.underlying3 h0
      obtain ⟨n1, rfl, rfl⟩ := int_of_trod Tryd.underlying3 h1
      obtain ⟨n2, rfl, rfl⟩ := int_of_trod Tryd.underlying3 h2
      simp [Rows.laid_loop_example_g00877_impl_bodyLengths] at hx
      obtain ⟨⟨rfl, rfl, rfl⟩, _⟩ := hx
      exact ⟨World.var?_cell tblName hvar 0, World.var?_cell tblName hvar 1, World.var?_cell tblName hvar 2⟩
    · cases hd

set_option maxRecDepth 100000 in
theorem lifted (os : Os) (started : os.Started) (H : Type) (enc : TypeId × Value → H) :
    ReturnsInHanded {} Tryd.checked os 11 .any (fun w args => (Rows.fnExactSilentValuesSpec.pre enc Tryd.prog Tryd.f11 [] false w args ∧ laidMetH Tryd.prog Rows.fnExactSilentValuesRow.laid w) ∧ sizedMet enc Tryd.prog Tryd.f11 (OpenSpec.ofChange Rows.fnExactSilentValuesSpec) false w args)
      (Rows.fnExactSilentValuesSpec.post enc Tryd.prog Tryd.f11 false true false false) := by
  refine returnsInHanded_of_change_and (C := Tryd.checked) (X := fun w _ => laidMetH Tryd.prog Rows.fnExactSilentValuesRow.laid w) (fun _ _ _ hh h => h.of_heap hh) own started (by kernel_rfl) Tryd.func11
    (ChangeSpec.witness_shaped (enc := enc) (C := Tryd.checked) (os := os) (X := fun w _ => laidMetH Tryd.prog Rows.fnExactSilentValuesRow.laid w) false (World.laidAll Tryd.prog os Rows.fnExactSilentValuesRow.laid) #[.agg #[.int .i64 0, .int .i64 0, .int .i64 0, .int .i64 0, .int .i64 0, .slice none 0 0, .slice none 0 0, .int .i64 0, .slice none 0 0, .int .i64 0, .int .i64 0], .agg #[.int .i64 0, .int .i64 0, .int .i64 0, .int .i64 0, .int .i64 0, .slice none 0 0, .slice none 0 0, .int .i64 0, .slice none 0 0, .int .i64 0, .int .i64 0], .int .i64 0, .int .i64 0] 8 (World.laidAll_os _ _ _)
      (World.shaped_of_ZipB (by kernel_rfl) (by kernel_rfl)) (by kernel_rfl) (by kernel_rfl) (by kernel_rfl)
      (by rw [MakeChecks.laidMetH_plain _ _ _ (by kernel_rfl)]; exact laidMet_laidAll _ (by kernel_rfl) (by kernel_rfl))) ?_
  intro W base args ds gs before hval0 hW _ _ hL _
  have hval : ∀ (j : Nat) t v, Tryd.f11.params[j]? = some t → args[j]? = some v → Value.okWide Tryd.prog W .any base t v := hval0
  have hW' := hW
  obtain ⟨p, q, hA0, hV, rfl, hfz, hnd⟩ := hW
  have hA : DataW.TrodAll enc Tryd.prog W 0 (fun _ => true) true Tryd.f11.params.toList args.toList ds p := hA0
  rw [Tryd.params11] at hA hval
  obtain ⟨v0, vs0, d0, ds0, p0, q0, hargs, rfl, rfl, h0, r0⟩ := trodAll_cons hA
  obtain ⟨v1, vs1, d1, ds1, p1, q1, rfl, rfl, rfl, h1, r1⟩ := trodAll_cons r0
  obtain ⟨v2, vs2, d2, ds2, p2, q2, rfl, rfl, rfl, h2, r2⟩ := trodAll_cons r1
  obtain ⟨v3, vs3, d3, ds3, p3, q3, rfl, rfl, rfl, h3, r3⟩ := trodAll_cons r2
  obtain ⟨rfl, rfl, rfl⟩ := trodAll_nil r3
  obtain rfl : args = #[v0, v1, v2, v3] := by cases args; simp_all
  have hT : Tbl W := tbl_of_laid (by rw [← MakeChecks.laidMetH_plain _ _ _ (by kernel_rfl)]; exact hL)
  have hV0 : DataW.TrodVars enc Tryd.prog W (fun _ => true) ["loop.example/g00877/impl.bodyLengths"] gs q := hV
  obtain ⟨g9, t9, cs9, f9, d9, p9, rfl, hg9, ht9, hv9, hd9, hq9⟩ := trodVars_one hV0
  have k0 := h0
  have lt0 : ∀ x ∈ p0, x.block < W.heap.size := by obtain ⟨m, hm⟩ := k0; exact DataW.trod_lt m _ _ _ hm
  obtain ⟨vs0, m0, rfl, len0, f0⟩ := open_struct Tryd.underlying26 (by kernel_rfl) (by kernel_rfl) (hval 0 26 v0 rfl rfl) h0
  obtain ⟨x0_0, x0_1, x0_2, x0_3, x0_4, x0_5, x0_6, x0_7, x0_8, x0_9, x0_10, rfl⟩ := list11 len0
  obtain ⟨u0_0, y0_0, e0_0, t0_0⟩ := f0 0 _ rfl
  obtain rfl : u0_0 = x0_0 := by simpa using e0_0.symm
  obtain ⟨a0_0, rfl, w0_0⟩ := field_int Tryd.underlying3 t0_0
  obtain ⟨u0_1, y0_1, e0_1, t0_1⟩ := f0 1 _ rfl
  obtain rfl : u0_1 = x0_1 := by simpa using e0_1.symm
  obtain ⟨a0_1, rfl, w0_1⟩ := field_int Tryd.underlying3 t0_1
  obtain ⟨u0_2, y0_2, e0_2, t0_2⟩ := f0 2 _ rfl
  obtain rfl : u0_2 = x0_2 := by simpa using e0_2.symm
  obtain ⟨a0_2, rfl, w0_2⟩ := field_int Tryd.underlying3 t0_2
  obtain ⟨u0_3, y0_3, e0_3, t0_3⟩ := f0 3 _ rfl
  obtain rfl : u0_3 = x0_3 := by simpa using e0_3.symm
  obtain ⟨a0_3, rfl, w0_3⟩ := field_int Tryd.underlying3 t0_3
  obtain ⟨u0_4, y0_4, e0_4, t0_4⟩ := f0 4 _ rfl
  obtain rfl : u0_4 = x0_4 := by simpa using e0_4.symm
  obtain ⟨a0_4, rfl, w0_4⟩ := field_int Tryd.underlying3 t0_4
  obtain ⟨u0_5, y0_5, e0_5, t0_5⟩ := f0 5 _ rfl
  obtain rfl : u0_5 = x0_5 := by simpa using e0_5.symm
  obtain ⟨a0_5, n0_5, c0_5, l0_5, rfl, z0_5, wf0_5⟩ := field_flat Tryd.underlying22 Tryd.underlying114 (by kernel_rfl) (by kernel_rfl) (by decide) (by
    intro j f hj
    have hlt : j < 2 := (Array.getElem?_eq_some_iff.1 hj).1
    match j, hlt, hj with
    | 0, _, hj => cases hj; exact Tryd.underlying3
    | 1, _, hj => cases hj; exact Tryd.underlying3) t0_5
  obtain ⟨u0_6, y0_6, e0_6, t0_6⟩ := f0 6 _ rfl
  obtain rfl : u0_6 = x0_6 := by simpa using e0_6.symm
  obtain ⟨a0_6, n0_6, c0_6, l0_6, rfl, z0_6, wf0_6⟩ := field_ints Tryd.underlying23 Tryd.underlying3 (by kernel_rfl) t0_6
  obtain ⟨u0_7, y0_7, e0_7, t0_7⟩ := f0 7 _ rfl
  obtain rfl : u0_7 = x0_7 := by simpa using e0_7.symm
  obtain ⟨a0_7, rfl, w0_7⟩ := field_int Tryd.underlying3 t0_7
  obtain ⟨u0_8, y0_8, e0_8, t0_8⟩ := f0 8 _ rfl
  obtain rfl : u0_8 = x0_8 := by simpa using e0_8.symm
  obtain ⟨a0_8, n0_8, c0_8, l0_8, rfl, z0_8, wf0_8⟩ := field_intss Tryd.underlying24 (by kernel_rfl) Tryd.underlying23 Tryd.underlying3 (by kernel_rfl) t0_8
  obtain ⟨u0_9, y0_9, e0_9, t0_9⟩ := f0 9 _ rfl
  obtain rfl : u0_9 = x0_9 := by simpa using e0_9.symm
  obtain ⟨a0_9, rfl, w0_9⟩ := field_int Tryd.underlying3 t0_9
  obtain ⟨u0_10, y0_10, e0_10, t0_10⟩ := f0 10 _ rfl
  obtain rfl : u0_10 = x0_10 := by simpa using e0_10.symm
  obtain ⟨a0_10, rfl, w0_10⟩ := field_int Tryd.underlying3 t0_10
  have k1 := h1
  have lt1 : ∀ x ∈ p1, x.block < W.heap.size := by obtain ⟨m, hm⟩ := k1; exact DataW.trod_lt m _ _ _ hm
  obtain ⟨vs1, m1, rfl, len1, f1⟩ := open_struct Tryd.underlying26 (by kernel_rfl) (by kernel_rfl) (hval 1 26 v1 rfl rfl) h1
  obtain ⟨x1_0, x1_1, x1_2, x1_3, x1_4, x1_5, x1_6, x1_7, x1_8, x1_9, x1_10, rfl⟩ := list11 len1
  obtain ⟨u1_0, y1_0, e1_0, t1_0⟩ := f1 0 _ rfl
  obtain rfl : u1_0 = x1_0 := by simpa using e1_0.symm
  obtain ⟨a1_0, rfl, w1_0⟩ := field_int Tryd.underlying3 t1_0
  obtain ⟨u1_1, y1_1, e1_1, t1_1⟩ := f1 1 _ rfl
  obtain rfl : u1_1 = x1_1 := by simpa using e1_1.symm
  obtain ⟨a1_1, rfl, w1_1⟩ := field_int Tryd.underlying3 t1_1
  obtain ⟨u1_2, y1_2, e1_2, t1_2⟩ := f1 2 _ rfl
  obtain rfl : u1_2 = x1_2 := by simpa using e1_2.symm
  obtain ⟨a1_2, rfl, w1_2⟩ := field_int Tryd.underlying3 t1_2
  obtain ⟨u1_3, y1_3, e1_3, t1_3⟩ := f1 3 _ rfl
  obtain rfl : u1_3 = x1_3 := by simpa using e1_3.symm
  obtain ⟨a1_3, rfl, w1_3⟩ := field_int Tryd.underlying3 t1_3
  obtain ⟨u1_4, y1_4, e1_4, t1_4⟩ := f1 4 _ rfl
  obtain rfl : u1_4 = x1_4 := by simpa using e1_4.symm
  obtain ⟨a1_4, rfl, w1_4⟩ := field_int Tryd.underlying3 t1_4
  obtain ⟨u1_5, y1_5, e1_5, t1_5⟩ := f1 5 _ rfl
  obtain rfl : u1_5 = x1_5 := by simpa using e1_5.symm
  obtain ⟨a1_5, n1_5, c1_5, l1_5, rfl, z1_5, wf1_5⟩ := field_flat Tryd.underlying22 Tryd.underlying114 (by kernel_rfl) (by kernel_rfl) (by decide) (by
    intro j f hj
    have hlt : j < 2 := (Array.getElem?_eq_some_iff.1 hj).1
    match j, hlt, hj with
    | 0, _, hj => cases hj; exact Tryd.underlying3
    | 1, _, hj => cases hj; exact Tryd.underlying3) t1_5
  obtain ⟨u1_6, y1_6, e1_6, t1_6⟩ := f1 6 _ rfl
  obtain rfl : u1_6 = x1_6 := by simpa using e1_6.symm
  obtain ⟨a1_6, n1_6, c1_6, l1_6, rfl, z1_6, wf1_6⟩ := field_ints Tryd.underlying23 Tryd.underlying3 (by kernel_rfl) t1_6
  obtain ⟨u1_7, y1_7, e1_7, t1_7⟩ := f1 7 _ rfl
  obtain rfl : u1_7 = x1_7 := by simpa using e1_7.symm
  obtain ⟨a1_7, rfl, w1_7⟩ := field_int Tryd.underlying3 t1_7
  obtain ⟨u1_8, y1_8, e1_8, t1_8⟩ := f1 8 _ rfl
  obtain rfl : u1_8 = x1_8 := by simpa using e1_8.symm
  obtain ⟨a1_8, n1_8, c1_8, l1_8, rfl, z1_8, wf1_8⟩ := field_intss Tryd.underlying24 (by kernel_rfl) Tryd.underlying23 Tryd.underlying3 (by kernel_rfl) t1_8
  obtain ⟨u1_9, y1_9, e1_9, t1_9⟩ := f1 9 _ rfl
  obtain rfl : u1_9 = x1_9 := by simpa using e1_9.symm
  obtain ⟨a1_9, rfl, w1_9⟩ := field_int Tryd.underlying3 t1_9
  obtain ⟨u1_10, y1_10, e1_10, t1_10⟩ := f1 10 _ rfl
  obtain rfl : u1_10 = x1_10 := by simpa using e1_10.symm
  obtain ⟨a1_10, rfl, w1_10⟩ := field_int Tryd.underlying3 t1_10
  obtain ⟨a2, rfl, rfl, rfl, w2⟩ := open_int Tryd.underlying3 (hval 2 3 v2 rfl rfl) h2
  obtain ⟨a3, rfl, rfl, rfl, w3⟩ := open_int Tryd.underlying3 (hval 3 3 v3 rfl rfl) h3
  clear hA0 hval0
  refine (FnExactSilentValues_walk ⟨a0_0, a0_1, a0_2, a0_3, a0_4, l0_5, l0_6, a0_7, datas' l0_8, a0_9, a0_10⟩ ⟨a0_5, n0_5, c0_5, a0_6, n0_6, c0_6, a0_8, n0_8, c0_8⟩ ⟨a1_0, a1_1, a1_2, a1_3, a1_4, l1_5, l1_6, a1_7, datas' l1_8, a1_9, a1_10⟩ ⟨a1_5, n1_5, c1_5, a1_6, n1_6, c1_6, a1_8, n1_8, c1_8⟩ a2 a3 W ⟨z0_5, z0_6, l0_8, z0_8, rfl⟩ ⟨z1_5, z1_6, l1_8, z1_8, rfl⟩ (wf_range w2) (wf_range w3) hT).mono fun e W' ⟨he, bel⟩ => ?_
  subst he
  exact ⟨_, rfl, _, _, _, [], _, _, hW', trodAll_mk1 (shut_bool Tryd.underlying4 _), (trodAll_cons_mk (Below.trod laidOut (by kernel_rfl) (of_decide_eq_true (by kernel_rfl)) k0 bel lt0) (trodAll_cons_mk (Below.trod laidOut (by kernel_rfl) (of_decide_eq_true (by kernel_rfl)) k1 bel lt1) (trodAll_cons_mk (shut_int Tryd.underlying3 w2) (trodAll_cons_mk (shut_int Tryd.underlying3 w3) trodAll_mk0)))), bel.trodVars laidOut (by kernel_rfl) hV0, bel.frame _, fun h => by cases h⟩

theorem over : Rows.fnExactSilentValuesRow.holds Tryd.pinned (OpenSpec.ofChange Rows.fnExactSilentValuesSpec) :=
  OpenClaim.holds_of_wide 11 Tryd.f11 rfl rfl rfl rfl rfl rfl rfl ⟨rfl, rfl, rfl, rfl, rfl⟩ rfl rfl rfl rfl rfl (by kernel_rfl) Tryd.func11 (by kernel_rfl)
    (of_decide_eq_true (by kernel_rfl)) (by unfold Func.isWrapper; first | (rw [if_pos (by decide +kernel)]; kernel_rfl) | (rw [if_neg (by decide +kernel)]; exact ⟨rfl, rfl⟩))
    (fun os started H enc _ => lifted os started H enc)

theorem proved : Rows.FnExactSilentValuesCardSaid :=
  Claim7.holds_tied_plain_at .later [] [.data] true (true, "eb746857bc3c65babb17c8a0064bead42ed343ed9823e77fe3dab6078ac4089b") false over (fun _ h => by cases h) (by kernel_rfl) (fun _ h => by cases h) fnExactSilentValues_row_tie rfl ⟨rfl, rfl⟩ (by kernel_rfl) rfl
    (fun f fn hf hfn => by
      obtain rfl : f = 11 := Option.some.inj ((show Tryd.prog.funcNamed "loop.example/g00877/laws.FnExactSilentValues" = some 11 by kernel_rfl).symm.trans hf) |>.symm
      obtain rfl : fn = Tryd.f11 := (Option.some.inj (Tryd.func11.symm.trans hfn)).symm
      exact ⟨by kernel_rfl, fun j t ht => by
        rw [Tryd.params11] at ht
        have hm : t ∈ ([26, 26, 3, 3] : List Nat) := by simpa using Array.mem_of_getElem? ht
        have hall : (([26, 26, 3, 3] : List Nat).all fun u => !Tryd.prog.wantsStandIn u) = true := by kernel_rfl
        exact (show Tryd.prog.wantsStandIn t = false by simpa using List.all_eq_true.1 hall t hm)⟩)
    (by kernel_rfl)
#print axioms proved
end Go.Proofs.YtlmdckcohoddnaaDoor.fnExactSilentValues
