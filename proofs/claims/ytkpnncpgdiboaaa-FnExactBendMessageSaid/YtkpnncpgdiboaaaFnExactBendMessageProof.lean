/- The given statement on FnExactBendMessage: for every input the law returns true, and each argument reads afterwards as it read before. No condition. The frame is the kit's; the walk is FnExactBendMessage_walk. -/
import Derived.Test.YtkpnncpgdiboaaaRows
import Derived.WalkKit
import Derived.Test.YtkpnncpgdiboaaaBendM
import Derived.ProofKit
import Derived.OpenShut
import Derived.ShutString
import Derived.ChangeOld
import Derived.Below
import Derived.Test.YtkpnncpgdiboaaaOpen
namespace Go.Proofs.Ytkpnncpgdiboaaa.fnExactBendMessage
open Go.ChangeShapes Go.WideShapes Go.ChangeAt Go.RowKit
open Go.ChangeMaps (open_string shut_string)

theorem own : ownKnob Try.prog.godebug = none := by kernel_rfl
theorem laidOut : laidOutB Try.prog = true := by kernel_rfl

set_option maxRecDepth 100000 in
theorem lifted (os : Os) (started : os.Started) (H : Type) (enc : TypeId × Value → H) :
    ReturnsInHanded {} Try.checked os 6 .any (Rows.fnExactBendMessageSpec.pre6 enc Try.prog Try.f6 Rows.fnExactBendMessageRow.domain false) (Rows.fnExactBendMessageSpec.post enc Try.prog Try.f6 false true false false) := by
  refine returnsInHanded_of_change (C := Try.checked) own started (by kernel_rfl) Try.func6
    (ChangeSpec.witness6 (enc := enc) (C := Try.checked) false ⟨#[], #[.int .i64 0, .agg #[.int .i64 0, .int .i64 0, .slice none 0 0], .int .i64 0, .int .i64 0], []⟩ 8 (by kernel_rfl) (by kernel_rfl) (by kernel_rfl) (by kernel_rfl)) ?_
  intro W base args ds gs before hval0 hW hcnd _
  have hval : ∀ (j : Nat) t v, Try.f6.params[j]? = some t → args[j]? = some v → Value.okWide Try.prog W .any base t v := hval0
  have hW' := hW
  obtain ⟨p, q, hA0, hV, rfl, hfz, hnd⟩ := hW
  have hA : DataW.TrodAll enc Try.prog W 0 (fun _ => true) true Try.f6.params.toList args.toList ds p := hA0
  rw [Try.params6] at hA hval
  obtain ⟨v0, vs0, d0, ds0, p0, q0, hargs, rfl, rfl, h0, r0⟩ := trodAll_cons hA
  obtain ⟨v1, vs1, d1, ds1, p1, q1, rfl, rfl, rfl, h1, r1⟩ := trodAll_cons r0
  obtain ⟨v2, vs2, d2, ds2, p2, q2, rfl, rfl, rfl, h2, r2⟩ := trodAll_cons r1
  obtain ⟨v3, vs3, d3, ds3, p3, q3, rfl, rfl, rfl, h3, r3⟩ := trodAll_cons r2
  obtain ⟨rfl, rfl, rfl⟩ := trodAll_nil r3
  obtain rfl : args = #[v0, v1, v2, v3] := by cases args; simp_all
  obtain ⟨rfl, rfl⟩ := trodVars_none hV
  obtain ⟨a0, rfl, rfl, rfl, w0⟩ := open_int Try.underlying3 (hval 0 3 v0 rfl rfl) h0
  have k1 := h1
  have lt1 : ∀ x ∈ p1, x.block < W.heap.size := by obtain ⟨m, hm⟩ := k1; exact DataW.trod_lt m _ _ _ hm
  obtain ⟨vs1, m1, rfl, len1, f1⟩ := open_struct Try.underlying34 (by kernel_rfl) (by kernel_rfl) (hval 1 34 v1 rfl rfl) h1
  obtain ⟨x1_0, x1_1, x1_2, rfl⟩ := list3 len1
  obtain ⟨u1_0, y1_0, e1_0, t1_0⟩ := f1 0 _ rfl
  obtain rfl : u1_0 = x1_0 := by simpa using e1_0.symm
  obtain ⟨a1_0, rfl, w1_0⟩ := field_int Try.underlying3 t1_0
  obtain ⟨u1_1, y1_1, e1_1, t1_1⟩ := f1 1 _ rfl
  obtain rfl : u1_1 = x1_1 := by simpa using e1_1.symm
  obtain ⟨a1_1, rfl, w1_1⟩ := field_int Try.underlying3 t1_1
  obtain ⟨u1_2, y1_2, e1_2, t1_2⟩ := f1 2 _ rfl
  obtain rfl : u1_2 = x1_2 := by simpa using e1_2.symm
  obtain ⟨a1_2, n1_2, c1_2, l1_2, rfl, z1_2, wf1_2⟩ := field_ints Try.underlying22 Try.underlying3 (by kernel_rfl) t1_2
  obtain ⟨a2, rfl, rfl, rfl, w2⟩ := open_int Try.underlying3 (hval 2 3 v2 rfl rfl) h2
  obtain ⟨a3, rfl, rfl, rfl, w3⟩ := open_int Try.underlying3 (hval 3 3 v3 rfl rfl) h3
  clear hA0 hval0
  refine (FnExactBendMessage_walk a0 a1_0 a1_1 a1_2 n1_2 c1_2 l1_2 a2 a3 W (wf_range w0) (wf_range w1_0) (wf_range w1_1) z1_2 wf1_2 (wf_range w2) (wf_range w3)).mono fun e W' ⟨he, bel⟩ => ?_
  subst he
  exact ⟨_, rfl, _, _, _, [], _, [], hW', trodAll_mk1 (shut_bool Try.underlying4 _), (trodAll_cons_mk (shut_int Try.underlying3 w0) (trodAll_cons_mk (Below.trod laidOut (by kernel_rfl) (of_decide_eq_true (by kernel_rfl)) k1 bel lt1) (trodAll_cons_mk (shut_int Try.underlying3 w2) (trodAll_cons_mk (shut_int Try.underlying3 w3) trodAll_mk0)))), rfl, bel.frame _, fun h => by cases h⟩

theorem over : Rows.fnExactBendMessageRow.holds Try.pinned (OpenSpec.ofChange Rows.fnExactBendMessageSpec) :=
  OpenClaim.holds_of_wide 6 Try.f6 rfl rfl rfl rfl rfl rfl rfl ⟨rfl, rfl, rfl, rfl, rfl⟩ rfl rfl rfl rfl rfl (by kernel_rfl) Try.func6 (by kernel_rfl)
    (of_decide_eq_true (by kernel_rfl)) (by unfold Func.isWrapper; first | (rw [if_pos (by decide +kernel)]; kernel_rfl) | (rw [if_neg (by decide +kernel)]; exact ⟨rfl, rfl⟩))
    (fun os started H enc _ => lifted os started H enc)

theorem proved : Rows.FnExactBendMessageSaid := over
#print axioms proved
end Go.Proofs.Ytkpnncpgdiboaaa.fnExactBendMessage
