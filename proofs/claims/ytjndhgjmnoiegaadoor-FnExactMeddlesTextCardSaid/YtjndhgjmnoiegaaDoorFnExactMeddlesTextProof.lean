/- The given statement on FnExactMeddlesText: for every input the law returns true, and each argument reads afterwards as it read before. The listed variables (the tables of the bodies' lengths and of the words, and three of the library's) read as the texts lay them (the card ties them). The frame is the kit's; the walk is FnExactMeddlesText_walk. -/
import Derived.Test.YtjndhgjmnoiegaaDoorRows
import Derived.WalkKit
import Derived.Test.YtjndhgjmnoiegaaDoorMtL
import Derived.Test.YtjndhgjmnoiegaaDoorOpen
import Derived.ProofKit
import Derived.OpenShut
import Derived.ShutString
import Derived.ChangeOld
import Derived.Below
import Derived.OpenVars
import Derived.LaidSub
import Derived.Lib.LaidTab
import Derived.Lay
import Derived.MakeChecks
import Derived.SevenTiedAt
import Derived.Test.YtjndhgjmnoiegaaDoorTie
import Derived.Test.YtjndhgjmnoiegaaDoorCards
namespace Go.Proofs.YtjndhgjmnoiegaaDoor.fnExactMeddlesText
open Go.ChangeShapes Go.WideShapes Go.ChangeAt Go.RowKit
open Go.ChangeMaps (open_string shut_string)

theorem own : ownKnob Tryd.prog.godebug = none := by kernel_rfl
theorem laidOut : laidOutB Tryd.prog = true := by kernel_rfl

theorem tblName : Tryd.prog.globalNamed "loop.example/g00877/impl.bodyLengths" = some 1 := by kernel_rfl
theorem tblType : (Tryd.prog.globals[1]?).map (·.type) = some 48 := by kernel_rfl
theorem tblCells : Tryd.prog.cellsOf 48 = 3 := by kernel_rfl
theorem intCells : Tryd.prog.cellsOf 3 = 1 := by kernel_rfl
theorem int_of_trod {H : Type} {enc : TypeId × Value → H} {P : Program} {w : World} {base : Nat} {sp : Nat → Bool} {held : Bool} {fuel : Nat} {t : TypeId} {k : IntKind} {c : Value} {y : DataW H × List MemPlace}
    (ht : P.underlying t = some (.int k)) (h : DataW.trod enc P w base sp held fuel t [c] = some y) : ∃ n, c = .int k n ∧ y = (.lit (.int k n), []) := by
  cases fuel with
  | zero => simp [DataW.trod] at h
  | succ fuel =>
    cases c <;> simp [DataW.trod, ht] at h
    rename_i k' n
    obtain ⟨⟨rfl, _⟩, rfl⟩ := h
    exact ⟨n, rfl, rfl⟩
theorem tbl_of_laid {W : World} (h : laidMet Tryd.prog [("loop.example/g00877/impl.bodyLengths", Rows.laid_loop_example_g00877_impl_bodyLengths)] W) : Tbl W := by
  obtain ⟨ps, ⟨g, t, cs, fuel, p, q, hg, ht, hvar, hd, _, _⟩, _⟩ := h
  obtain rfl := Option.some.inj (tblName.symm.trans hg)
  obtain rfl := Option.some.inj (tblType.symm.trans ht)
  obtain ⟨l⟩ := cs
  cases fuel with
  | zero => simp [DataW.trod] at hd
  | succ fuel =>
    simp only [DataW.trod, Tryd.underlying48, tblCells, intCells] at hd
    split at hd
    · rename_i hl
      obtain ⟨c0, c1, c2, rfl⟩ : ∃ c0 c1 c2, l = [c0, c1, c2] := by
        match l, hl with
        | [a, b, c], _ => exact ⟨a, b, c, rfl⟩
      have e : List.range 3 = [0, 1, 2] := rfl
      rw [e] at hd
      simp only [Option.map_eq_some_iff, List.mapM_cons, List.mapM_nil, Option.bind_eq_bind, Option.bind_eq_some_iff, Option.pure_def, Option.some.injEq] at hd
      obtain ⟨xs, ⟨y0, h0, _, ⟨y1, h1, _, ⟨y2, h2, _, rfl, rfl⟩, rfl⟩, rfl⟩, hx⟩ := hd
      obtain ⟨n0, rfl, rfl⟩ := int_of_trod Tryd.underlying3 h0
      obtain ⟨n1, rfl, rfl⟩ := int_of_trod Tryd.underlying3 h1
      obtain ⟨n2, rfl, rfl⟩ := int_of_trod Tryd.underlying3 h2
      simp [Rows.laid_loop_example_g00877_impl_bodyLengths] at hx
      obtain ⟨⟨rfl, rfl, rfl⟩, _⟩ := hx
      exact ⟨World.var?_cell tblName hvar 0, World.var?_cell tblName hvar 1, World.var?_cell tblName hvar 2⟩
    · cases hd

theorem wdsName : Tryd.prog.globalNamed "loop.example/g00877/impl.meddleWords" = some 0 := by kernel_rfl
theorem wdsType : (Tryd.prog.globals[0]?).map (·.type) = some 45 := by kernel_rfl
theorem wdsCells : Tryd.prog.cellsOf 45 = 4 := by kernel_rfl
theorem strCells : Tryd.prog.cellsOf 9 = 1 := by kernel_rfl
theorem str_of_trod {H : Type} {enc : TypeId × Value → H} {P : Program} {w : World} {base : Nat} {sp : Nat → Bool} {held : Bool} {fuel : Nat} {t : TypeId} {c : Value} {y : DataW H × List MemPlace}
    (ht : P.underlying t = some .string) (h : DataW.trod enc P w base sp held fuel t [c] = some y) : ∃ s : ByteArray, c = .string s ∧ y = (.lit (.string s.data.toList), []) := by
  cases fuel with
  | zero => simp [DataW.trod] at h
  | succ fuel =>
    cases c <;> simp [DataW.trod, ht] at h
    rename_i s
    obtain ⟨_, rfl⟩ := h
    exact ⟨s, rfl, rfl⟩
theorem str_eq {s : ByteArray} {l : List UInt8} (h : s.data.toList = l) : s = ⟨l.toArray⟩ := by
  apply ByteArray.ext
  rw [← h]
theorem wds_of_laid {W : World} (h : laidMet Tryd.prog [("loop.example/g00877/impl.meddleWords", Rows.laid_loop_example_g00877_impl_meddleWords)] W) : Wds W := by
  obtain ⟨ps, ⟨g, t, cs, fuel, p, q, hg, ht, hvar, hd, _, _⟩, _⟩ := h
  obtain rfl := Option.some.inj (wdsName.symm.trans hg)
  obtain rfl := Option.some.inj (wdsType.symm.trans ht)
  obtain ⟨l⟩ := cs
  cases fuel with
  | zero => simp [DataW.trod] at hd
  | succ fuel =>
    simp only [DataW.trod, Tryd.underlying45, wdsCells, strCells] at hd
    split at hd
    · rename_i hl
      obtain ⟨c0, c1, c2, c3, rfl⟩ : ∃ c0 c1 c2 c3, l = [c0, c1, c2, c3] := by
        match l, hl with
        | [a, b, c, d], _ => exact ⟨a, b, c, d, rfl⟩
      have e : List.range 4 = [0, 1, 2, 3] := rfl
      rw [e] at hd
      simp only [Option.map_eq_some_iff, List.mapM_cons, List.mapM_nil, Option.bind_eq_bind, Option.bind_eq_some_iff, Option.pure_def, Option.some.injEq] at hd
      obtain ⟨xs, ⟨y0, h0, _, ⟨y1, h1, _, ⟨y2, h2, _, ⟨y3, h3, _, rfl, rfl⟩, rfl⟩, rfl⟩, rfl⟩, hx⟩ := hd
      obtain ⟨n0, rfl, rfl⟩ := str_of_trod Tryd.underlying9 h0
      obtain ⟨n1, rfl, rfl⟩ := str_of_trod Tryd.underlying9 h1
      obtain ⟨n2, rfl, rfl⟩ := str_of_trod Tryd.underlying9 h2
      obtain ⟨n3, rfl, rfl⟩ := str_of_trod Tryd.underlying9 h3
      simp [Rows.laid_loop_example_g00877_impl_meddleWords] at hx
      obtain ⟨⟨e0, e1, e2, e3⟩, _⟩ := hx
      obtain rfl := str_eq e0
      obtain rfl := str_eq e1
      obtain rfl := str_eq e2
      obtain rfl := str_eq e3
      exact ⟨World.var?_cell wdsName hvar 0, World.var?_cell wdsName hvar 1, World.var?_cell wdsName hvar 2, World.var?_cell wdsName hvar 3⟩
    · cases hd
theorem pow_of_laid {W : World} (h : laidMet Tryd.prog [("internal/strconv.uint64pow10", Rows.laid_internal_strconv_uint64pow10)] W) : Pow W :=
  Lib.tabIs_of_head (g := 2) (t := 59) (e := 53) (n := 20) (rest := []) (by kernel_rfl) (by kernel_rfl) Tryd.underlying59 Tryd.underlying53 (by kernel_rfl) (by kernel_rfl) h
theorem cut1 : Rows.fnExactMeddlesTextRow.laid.filter (fun x => x.1 == "loop.example/g00877/impl.bodyLengths") = [("loop.example/g00877/impl.bodyLengths", Rows.laid_loop_example_g00877_impl_bodyLengths)] := by kernel_rfl
theorem cut2 : Rows.fnExactMeddlesTextRow.laid.filter (fun x => x.1 == "loop.example/g00877/impl.meddleWords") = [("loop.example/g00877/impl.meddleWords", Rows.laid_loop_example_g00877_impl_meddleWords)] := by kernel_rfl
theorem cut3 : Rows.fnExactMeddlesTextRow.laid.filter (fun x => x.1 == "internal/strconv.uint64pow10") = [("internal/strconv.uint64pow10", Rows.laid_internal_strconv_uint64pow10)] := by kernel_rfl

set_option maxRecDepth 100000 in
theorem lifted (os : Os) (started : os.Started) (H : Type) (enc : TypeId × Value → H) :
    ReturnsInHanded {} Tryd.checked os 4 .any (fun w args => (Rows.fnExactMeddlesTextSpec.pre enc Tryd.prog Tryd.f4 [] false w args ∧ laidMetH Tryd.prog Rows.fnExactMeddlesTextRow.laid w) ∧ sizedMet enc Tryd.prog Tryd.f4 (OpenSpec.ofChange Rows.fnExactMeddlesTextSpec) false w args)
      (Rows.fnExactMeddlesTextSpec.post enc Tryd.prog Tryd.f4 false true false false) := by
  refine returnsInHanded_of_change_and (C := Tryd.checked) (X := fun w _ => laidMetH Tryd.prog Rows.fnExactMeddlesTextRow.laid w) (fun _ _ _ hh h => h.of_heap hh) own started (by kernel_rfl) Tryd.func4
    (ChangeSpec.witness_shaped (enc := enc) (C := Tryd.checked) (os := os) (X := fun w _ => laidMetH Tryd.prog Rows.fnExactMeddlesTextRow.laid w) false (World.laidAll Tryd.prog os Rows.fnExactMeddlesTextRow.laid) #[.int .i64 0, .slice none 0 0] 8 (World.laidAll_os _ _ _)
      (World.shaped_of_ZipB (by kernel_rfl) (by kernel_rfl)) (by kernel_rfl) (by kernel_rfl) (by kernel_rfl)
      (by rw [MakeChecks.laidMetH_plain _ _ _ (by kernel_rfl)]; exact laidMet_laidAll _ (by kernel_rfl) (by kernel_rfl))) ?_
  intro W base args ds gs before hval0 hW _ _ hL _
  have hval : ∀ (j : Nat) t v, Tryd.f4.params[j]? = some t → args[j]? = some v → Value.okWide Tryd.prog W .any base t v := hval0
  have hW' := hW
  obtain ⟨p, q, hA0, hV, rfl, hfz, hnd⟩ := hW
  have hA : DataW.TrodAll enc Tryd.prog W 0 (fun _ => true) true Tryd.f4.params.toList args.toList ds p := hA0
  rw [Tryd.params4] at hA hval
  obtain ⟨v0, vs0, d0, ds0, p0, q0, hargs, rfl, rfl, h0, r0⟩ := trodAll_cons hA
  obtain ⟨v1, vs1, d1, ds1, p1, q1, rfl, rfl, rfl, h1, r1⟩ := trodAll_cons r0
  obtain ⟨rfl, rfl, rfl⟩ := trodAll_nil r1
  obtain rfl : args = #[v0, v1] := by cases args; simp_all
  have hLL : laidMet Tryd.prog Rows.fnExactMeddlesTextRow.laid W := by rw [← MakeChecks.laidMetH_plain _ _ _ (by kernel_rfl)]; exact hL
  have hT : Tbl W := tbl_of_laid (by rw [← cut1]; exact hLL.filter _)
  have hWd : Wds W := wds_of_laid (by rw [← cut2]; exact hLL.filter _)
  have hPw : Pow W := pow_of_laid (by rw [← cut3]; exact hLL.filter _)
  have hV0 : DataW.TrodVars enc Tryd.prog W (fun _ => true) ["loop.example/g00877/impl.bodyLengths", "loop.example/g00877/impl.meddleWords"] gs q := hV
  obtain ⟨g8, t8, cs8, f8, d8, p8, g9, t9, cs9, f9, d9, p9, rfl, hg8, ht8, hv8, hd8, hg9, ht9, hv9, hd9, hq9⟩ := trodVars_two hV0
  obtain ⟨a0, rfl, rfl, rfl, w0⟩ := open_int Tryd.underlying3 (hval 0 3 v0 rfl rfl) h0
  have k1 := h1
  have lt1 : ∀ x ∈ p1, x.block < W.heap.size := by obtain ⟨m, hm⟩ := k1; exact DataW.trod_lt m _ _ _ hm
  obtain ⟨a1, n1, c1, rfl⟩ := okWide_slice Tryd.underlying22 (hval 1 22 v1 rfl rfl)
  obtain ⟨l1, z1⟩ : ∃ l, Flat 4 W a1 n1 c1 l := by
    obtain ⟨fuel, hf⟩ := h1
    obtain ⟨_, _, _, l, e, z, _⟩ := field_flat Tryd.underlying22 Tryd.underlying37 (by kernel_rfl) (by kernel_rfl) (by decide) (by
      intro j f hj
      have hlt : j < 4 := (Array.getElem?_eq_some_iff.1 hj).1
      match j, hlt, hj with
      | 0, _, hj => cases hj; exact Tryd.underlying3
      | 1, _, hj => cases hj; exact Tryd.underlying3
      | 2, _, hj => cases hj; exact Tryd.underlying3
      | 3, _, hj => cases hj; exact Tryd.underlying3) hf
    cases e
    exact ⟨l, z⟩
  clear hA0 hval0
  refine (FnExactMeddlesText_walk a0 a1 n1 c1 l1 W (wf_range w0) z1 hT hPw hWd).mono fun e W' ⟨he, bel⟩ => ?_
  subst he
  exact ⟨_, rfl, _, _, _, [], _, _, hW', trodAll_mk1 (shut_bool Tryd.underlying4 _), (trodAll_cons_mk (shut_int Tryd.underlying3 w0) (trodAll_cons_mk (Below.trod laidOut (by kernel_rfl) (of_decide_eq_true (by kernel_rfl)) k1 bel lt1) trodAll_mk0)), bel.trodVars laidOut (by kernel_rfl) hV0, bel.frame _, fun h => by cases h⟩

theorem over : Rows.fnExactMeddlesTextRow.holds Tryd.pinned (OpenSpec.ofChange Rows.fnExactMeddlesTextSpec) :=
  OpenClaim.holds_of_wide 4 Tryd.f4 rfl rfl rfl rfl rfl rfl rfl ⟨rfl, rfl, rfl, rfl, rfl⟩ rfl rfl rfl rfl rfl (by kernel_rfl) Tryd.func4 (by kernel_rfl)
    (of_decide_eq_true (by kernel_rfl)) (by unfold Func.isWrapper; first | (rw [if_pos (by decide +kernel)]; kernel_rfl) | (rw [if_neg (by decide +kernel)]; exact ⟨rfl, rfl⟩))
    (fun os started H enc _ => lifted os started H enc)

theorem proved : Rows.FnExactMeddlesTextCardSaid :=
  Claim7.holds_tied_plain_at .later [] [.data, .data, .data, .data, .widerDeep] true (true, "01def34db98bf7e5895f0a65782fc8a6112b2df2c6fe6514745ab30afdec572d") false over (fun _ h => by cases h) (by kernel_rfl) (fun _ h => by cases h) fnExactMeddlesText_row_tie rfl ⟨rfl, rfl⟩ (by kernel_rfl) rfl
    (fun f fn hf hfn => by
      obtain rfl : f = 4 := Option.some.inj ((show Tryd.prog.funcNamed "loop.example/g00877/laws.FnExactMeddlesText" = some 4 by kernel_rfl).symm.trans hf) |>.symm
      obtain rfl : fn = Tryd.f4 := (Option.some.inj (Tryd.func4.symm.trans hfn)).symm
      exact ⟨by kernel_rfl, fun j t ht => by
        rw [Tryd.params4] at ht
        have hm : t ∈ ([3, 22] : List Nat) := by simpa using Array.mem_of_getElem? ht
        have hall : (([3, 22] : List Nat).all fun u => !Tryd.prog.wantsStandIn u) = true := by kernel_rfl
        exact (show Tryd.prog.wantsStandIn t = false by simpa using List.all_eq_true.1 hall t hm)⟩)
    (by kernel_rfl)
#print axioms proved
end Go.Proofs.YtjndhgjmnoiegaaDoor.fnExactMeddlesText
