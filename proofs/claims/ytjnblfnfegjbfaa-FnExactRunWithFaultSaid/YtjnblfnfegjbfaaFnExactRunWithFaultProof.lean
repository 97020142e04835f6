/- The given statement on FnExactRunWithFault: for every input the law returns true, and each argument reads afterwards as it read before. No condition. The frame is the kit's; the walk is FnExactRunWithFault_walk. -/
import Derived.Test.YtjnblfnfegjbfaaRows
import Derived.WalkKit
import Derived.Test.YtjnblfnfegjbfaaFltL
import Derived.ProofKit
import Derived.OpenShut
import Derived.ShutString
import Derived.ChangeOld
import Derived.Below
import Derived.Test.YtjnblfnfegjbfaaOpen
namespace Go.Proofs.Ytjnblfnfegjbfaa.fnExactRunWithFault
open Go.ChangeShapes Go.WideShapes Go.ChangeAt Go.RowKit
open Go.ChangeMaps (open_string shut_string)

theorem own : ownKnob Try.prog.godebug = none := by kernel_rfl
theorem laidOut : laidOutB Try.prog = true := by kernel_rfl

set_option maxRecDepth 100000 in
theorem lifted (os : Os) (started : os.Started) (H : Type) (enc : TypeId × Value → H) :
    ReturnsInHanded {} Try.checked os 8 .any (Rows.fnExactRunWithFaultSpec.pre6 enc Try.prog Try.f8 Rows.fnExactRunWithFaultRow.domain false) (Rows.fnExactRunWithFaultSpec.post enc Try.prog Try.f8 false true false false) := by
  refine returnsInHanded_of_change (C := Try.checked) own started (by kernel_rfl) Try.func8
    (ChangeSpec.witness6 (enc := enc) (C := Try.checked) false ⟨#[], #[.agg #[.int .i64 0, .int .i64 0, .int .i64 0, .slice none 0 0, .slice none 0 0], .int .i64 0, .slice none 0 0, .slice none 0 0, .int .i64 0, .int .i64 0], []⟩ 8 (by kernel_rfl) (by kernel_rfl) (by kernel_rfl) (by kernel_rfl)) ?_
  intro W base args ds gs before hval0 hW hcnd _
  have hval : ∀ (j : Nat) t v, Try.f8.params[j]? = some t → args[j]? = some v → Value.okWide Try.prog W .any base t v := hval0
  have hW' := hW
  obtain ⟨p, q, hA0, hV, rfl, hfz, hnd⟩ := hW
  have hA : DataW.TrodAll enc Try.prog W 0 (fun _ => true) true Try.f8.params.toList args.toList ds p := hA0
  rw [Try.params8] at hA hval
  obtain ⟨v0, vs0, d0, ds0, p0, q0, hargs, rfl, rfl, h0, r0⟩ := trodAll_cons hA
  obtain ⟨v1, vs1, d1, ds1, p1, q1, rfl, rfl, rfl, h1, r1⟩ := trodAll_cons r0
  obtain ⟨v2, vs2, d2, ds2, p2, q2, rfl, rfl, rfl, h2, r2⟩ := trodAll_cons r1
  obtain ⟨v3, vs3, d3, ds3, p3, q3, rfl, rfl, rfl, h3, r3⟩ := trodAll_cons r2
  obtain ⟨v4, vs4, d4, ds4, p4, q4, rfl, rfl, rfl, h4, r4⟩ := trodAll_cons r3
  obtain ⟨v5, vs5, d5, ds5, p5, q5, rfl, rfl, rfl, h5, r5⟩ := trodAll_cons r4
  obtain ⟨rfl, rfl, rfl⟩ := trodAll_nil r5
  obtain rfl : args = #[v0, v1, v2, v3, v4, v5] := by cases args; simp_all
  obtain ⟨rfl, rfl⟩ := trodVars_none hV
  have k0 := h0
  have lt0 : ∀ x ∈ p0, x.block < W.heap.size := by obtain ⟨m, hm⟩ := k0; exact DataW.trod_lt m _ _ _ hm
  obtain ⟨vs0, m0, rfl, len0, f0⟩ := open_struct Try.underlying25 (by kernel_rfl) (by kernel_rfl) (hval 0 25 v0 rfl rfl) h0
  obtain ⟨x0_0, x0_1, x0_2, x0_3, x0_4, rfl⟩ := list5 len0
  obtain ⟨u0_0, y0_0, e0_0, t0_0⟩ := f0 0 _ rfl
  obtain rfl : u0_0 = x0_0 := by simpa using e0_0.symm
  obtain ⟨a0_0, rfl, w0_0⟩ := field_int Try.underlying3 t0_0
  obtain ⟨u0_1, y0_1, e0_1, t0_1⟩ := f0 1 _ rfl
  obtain rfl : u0_1 = x0_1 := by simpa using e0_1.symm
  obtain ⟨a0_1, rfl, w0_1⟩ := field_int Try.underlying3 t0_1
  obtain ⟨u0_2, y0_2, e0_2, t0_2⟩ := f0 2 _ rfl
  obtain rfl : u0_2 = x0_2 := by simpa using e0_2.symm
  obtain ⟨a0_2, rfl, w0_2⟩ := field_int Try.underlying3 t0_2
  obtain ⟨u0_3, y0_3, e0_3, t0_3⟩ := f0 3 _ rfl
  obtain rfl : u0_3 = x0_3 := by simpa using e0_3.symm
  obtain ⟨a0_3, n0_3, c0_3, l0_3, rfl, z0_3, wf0_3⟩ := field_flat Try.underlying22 Try.underlying114 (by kernel_rfl) (by kernel_rfl) (by decide) (by
    intro j f hj
    have hlt : j < 3 := (Array.getElem?_eq_some_iff.1 hj).1
    match j, hlt, hj with
    | 0, _, hj => cases hj; exact Try.underlying3
    | 1, _, hj => cases hj; exact Try.underlying3
    | 2, _, hj => cases hj; exact Try.underlying3) t0_3
  obtain ⟨u0_4, y0_4, e0_4, t0_4⟩ := f0 4 _ rfl
  obtain rfl : u0_4 = x0_4 := by simpa using e0_4.symm
  obtain ⟨a0_4, n0_4, c0_4, l0_4, rfl, z0_4, wf0_4⟩ := field_ints Try.underlying23 Try.underlying3 (by kernel_rfl) t0_4
  obtain ⟨a1, rfl, rfl, rfl, w1⟩ := open_int Try.underlying3 (hval 1 3 v1 rfl rfl) h1
  obtain ⟨a2, n2, c2, rfl⟩ := okWide_slice Try.underlying23 (hval 2 23 v2 rfl rfl)
  have k2 := h2
  have lt2 : ∀ x ∈ p2, x.block < W.heap.size := by obtain ⟨m, hm⟩ := k2; exact DataW.trod_lt m _ _ _ hm
  obtain ⟨l2, z2, wf2⟩ : ∃ l, Ints W a2 n2 c2 l ∧ Wf l := by
    obtain ⟨fuel, hf⟩ := h2
    rcases open_ints Try.underlying23 Try.underlying3 (by kernel_rfl) hf with ⟨hcs, _⟩ | ⟨x, l, c, zs, hcs, _, hl, hm, hz, _, hcell, hwz⟩
    · simp [Value.cells] at hcs
      obtain ⟨rfl, rfl, rfl⟩ := hcs
      exact ⟨[], Ints.nil0 W, fun x hx => by cases hx⟩
    · simp [Value.cells] at hcs
      obtain ⟨rfl, rfl, rfl⟩ := hcs
      exact ⟨zs.take n2, Ints.of_row hl hm (by simpa using hz) hcell, fun x hx => wf_range (hwz x (List.mem_of_mem_take hx))⟩
  obtain ⟨a3, n3, c3, rfl⟩ := okWide_slice Try.underlying23 (hval 3 23 v3 rfl rfl)
  have k3 := h3
  have lt3 : ∀ x ∈ p3, x.block < W.heap.size := by obtain ⟨m, hm⟩ := k3; exact DataW.trod_lt m _ _ _ hm
  obtain ⟨l3, z3, wf3⟩ : ∃ l, Ints W a3 n3 c3 l ∧ Wf l := by
    obtain ⟨fuel, hf⟩ := h3
    rcases open_ints Try.underlying23 Try.underlying3 (by kernel_rfl) hf with ⟨hcs, _⟩ | ⟨x, l, c, zs, hcs, _, hl, hm, hz, _, hcell, hwz⟩
    · simp [Value.cells] at hcs
      obtain ⟨rfl, rfl, rfl⟩ := hcs
      exact ⟨[], Ints.nil0 W, fun x hx => by cases hx⟩
    · simp [Value.cells] at hcs
      obtain ⟨rfl, rfl, rfl⟩ := hcs
      exact ⟨zs.take n3, Ints.of_row hl hm (by simpa using hz) hcell, fun x hx => wf_range (hwz x (List.mem_of_mem_take hx))⟩
  obtain ⟨a4, rfl, rfl, rfl, w4⟩ := open_int Try.underlying3 (hval 4 3 v4 rfl rfl) h4
  obtain ⟨a5, rfl, rfl, rfl, w5⟩ := open_int Try.underlying3 (hval 5 3 v5 rfl rfl) h5
  clear hA0 hval0
  refine (FnExactRunWithFault_walk a0_0 a0_1 a0_2 a0_3 n0_3 c0_3 l0_3 a0_4 n0_4 c0_4 l0_4 a1 a2 n2 c2 l2 a3 n3 c3 l3 a4 a5 W (wf_range w0_0) (wf_range w0_1) (wf_range w0_2) z0_3 wf0_3 z0_4 wf0_4 (wf_range w1) z2 wf2 z3 wf3 (wf_range w4) (wf_range w5)).mono fun e W' ⟨he, bel⟩ => ?_
  subst he
  exact ⟨_, rfl, _, _, _, [], _, [], hW', trodAll_mk1 (shut_bool Try.underlying4 _), (trodAll_cons_mk (Below.trod laidOut (by kernel_rfl) (of_decide_eq_true (by kernel_rfl)) k0 bel lt0) (trodAll_cons_mk (shut_int Try.underlying3 w1) (trodAll_cons_mk (Below.trod laidOut (by kernel_rfl) (of_decide_eq_true (by kernel_rfl)) k2 bel lt2) (trodAll_cons_mk (Below.trod laidOut (by kernel_rfl) (of_decide_eq_true (by kernel_rfl)) k3 bel lt3) (trodAll_cons_mk (shut_int Try.underlying3 w4) (trodAll_cons_mk (shut_int Try.underlying3 w5) trodAll_mk0)))))), rfl, bel.frame _, fun h => by cases h⟩

theorem over : Rows.fnExactRunWithFaultRow.holds Try.pinned (OpenSpec.ofChange Rows.fnExactRunWithFaultSpec) :=
  OpenClaim.holds_of_wide 8 Try.f8 rfl rfl rfl rfl rfl rfl rfl ⟨rfl, rfl, rfl, rfl, rfl⟩ rfl rfl rfl rfl rfl (by kernel_rfl) Try.func8 (by kernel_rfl)
    (of_decide_eq_true (by kernel_rfl)) (by unfold Func.isWrapper; first | (rw [if_pos (by decide +kernel)]; kernel_rfl) | (rw [if_neg (by decide +kernel)]; exact ⟨rfl, rfl⟩))
    (fun os started H enc _ => lifted os started H enc)

theorem proved : Rows.FnExactRunWithFaultSaid := over
#print axioms proved
end Go.Proofs.Ytjnblfnfegjbfaa.fnExactRunWithFault
