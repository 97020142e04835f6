/- Lemmas and walks that the claim's proof rests on, part 1. -/
import Derived.Deep.RegionHeld
import Derived.Test.YtlmdckcohoddnaaDoorRows
import Derived.WalkKit
import Derived.WalkSpells
import Derived.WalkLawsBesides
import Derived.Handy
import Derived.Lib.Hide
import Derived.Deep.QuietTactic
import Derived.BigQuiet
import Derived.Deep.RegionWith
import Derived.StillTailTactics
import Derived.Deep.RegionHeld3
import Derived.OpenShut
import Derived.ArgAppend
namespace Go.Proofs.YtlmdckcohoddnaaDoor
open Go
section
variable {P : Program} {ops : Array Oper} {Q : Exit → Act → World → Prop} {md : Region.Mode} {S : World → Prop}
def waitsB (md : Region.Mode) (ops : Array Oper) (i d : Nat) : Bool :=
  match ops[i]? with
  | none => false
  | some o => o.after.any fun e => Region.binds md e && e.on == d
def mkL : Array Bool → List Nat → List Bool → Array Bool
  | l, d :: D, t :: T => mkL (l.setIfInBounds d t) D T
  | l, _, _ => l
def bools : Nat → List (List Bool)
  | 0 => [[]]
  | n + 1 => (bools n).flatMap fun t => [false :: t, true :: t]
theorem mem_bools : ∀ (n : Nat) (T : List Bool), T.length = n → T ∈ bools n
  | 0, [], _ => by simp [bools]
  | n + 1, t :: T, h => by
    have := mem_bools n T (by simpa using h)
    unfold bools
    rw [List.mem_flatMap]
    refine ⟨T, this, ?_⟩
    cases t <;> simp
def cloB (md : Region.Mode) (ops : Array Oper) (l : Array Bool) : Bool :=
  (List.range ops.size).all fun i => !l.getD i false || ((ops[i]?).map (·.after.all fun e => !Region.binds md e || l.getD e.on false)).getD true
def chkI (md : Region.Mode) (ops : Array Oper) (L : Array Bool) (D : List Nat) : Bool :=
  (bools D.length).all fun T =>
    let l := mkL L D T
    !cloB md ops l || T.all id || (let r := Region.ready md ops l; !r.isEmpty && r.all fun i => D.contains i)
def unl (l : Array Bool) : Nat := l.toList.countP (fun b => !b)
theorem unl_set {l : Array Bool} {i : Nat} (h : l.getD i true = false) : unl (l.setIfInBounds i true) + 1 = unl l := by
  have hi : i < l.size := by
    rcases Nat.lt_or_ge i l.size with h' | h'
    · exact h'
    · simp [Array.getElem?_eq_none h'] at h
  have hv : l.toList[i]'(by simpa using hi) = false := by
    simpa [hi] using h
  unfold unl
  rw [Array.toList_setIfInBounds, List.countP_set (by simpa using hi)]
  have hp : 0 < l.toList.countP (fun b => !b) := List.countP_pos_iff.2 ⟨_, List.getElem_mem (by simpa using hi), by rw [hv]; rfl⟩
  rw [hv]
  simp only [Bool.not_false, if_true, Bool.not_true, Bool.false_eq_true, if_false, Nat.add_zero]
  omega
theorem cloB_set {l : Array Bool} {i : Nat} (hc : cloB md ops l = true) (hi : i ∈ Region.ready md ops l) : cloB md ops (l.setIfInBounds i true) = true := by
  unfold cloB at *
  rw [List.all_eq_true] at *
  intro j hj
  obtain ⟨h0, o, ho, hall⟩ := mem_ready.1 hi
  by_cases hij : i = j
  · subst hij
    rw [ho]
    simp only [Option.map_some, Option.getD_some, Bool.or_eq_true, Array.all_eq_true_iff_forall_mem]
    right
    intro e he
    cases hb : Region.binds md e
    · simp
    · right; exact getD_set_true (hall e he hb)
  · have := hc j hj
    rw [getD_set_ne false hij]
    cases hl : l.getD j false
    · simp
    · rw [hl] at this
      simp only [Bool.not_true, Bool.false_or] at this ⊢
      cases hoj : ops[j]? with
      | none => simp
      | some oj =>
        rw [hoj] at this
        simp only [Option.map_some, Option.getD_some, Array.all_eq_true_iff_forall_mem, Bool.or_eq_true] at this ⊢
        intro e he
        exact (this e he).imp id getD_set_true
def StepsI (P : Program) (md : Region.Mode) (ops : Array Oper) (Q : Exit → Act → World → Prop) (S : World → Prop) (J : Array Bool → Act → World → Prop) (is : List Nat) : Prop :=
  ∀ i ∈ is, ∀ l a w, S w → J l a w → i ∈ Region.ready md ops l → wpOp P ops Q i (fun a' w' => S w' ∧ J (l.setIfInBounds i true) a' w') a w
theorem StepsI.nil {J : Array Bool → Act → World → Prop} : StepsI P md ops Q S J [] := fun _ h => by cases h
theorem StepsI.cons {J : Array Bool → Act → World → Prop} {i : Nat} {o : Oper} {is : List Nat} (ho : ops[i]? = some o)
    (h : ∀ (l : Array Bool) (a : Act) (w : World) (K : Act → World → Prop), S w → J l a w → l.getD i true = false → (∀ d, waitsB md ops i d = true → l.getD d false = true) →
      Shut (∀ a w, S w → J (l.setIfInBounds i true) a w → K a w) → if Region.wanted o (yielded ops a.tmps) = true then Oper.wp P o a w K Q else K (a.put o.dst undef) w)
    (hs : StepsI P md ops Q S J is) : StepsI P md ops Q S J (i :: is) := fun j hj => by
  rcases List.mem_cons.1 hj with rfl | hj
  · intro l a w hS hJ hr
    obtain ⟨h0, o', ho', hall⟩ := mem_ready.1 hr
    refine wpOp_step ho (fun K' hK => h l a w K' hS hJ h0 ?_ (fun a w hS hW => hK a w ⟨hS, hW⟩))
    intro d hd
    unfold waitsB at hd
    rw [ho'] at hd
    simp only [Array.any_eq_true'] at hd
    obtain ⟨e, he, hb⟩ := hd
    rw [Bool.and_eq_true] at hb
    have := hall e he hb.1
    rw [eq_of_beq hb.2] at this
    exact this
  · exact hs j hj
theorem wpAnyH_inv0 (D : List Nat) (L : Array Bool) (f0 f1 : Nat) (J : Array Bool → Act → World → Prop)
    (hc : cloB md ops L = true) (hk : chkI md ops L D = true) (hf0 : unl L = f0) (hf1 : unl (mkL L D (D.map fun _ => true)) = f1)
    (hJ : ∀ l a w, J l a w → ∃ T, T.length = D.length ∧ l = mkL L D T) {a : Act} {w : World} (hS : S w) (hi : J L a w) (hs : StepsI P md ops Q S J D)
    (he : ∀ a w, S w → J (mkL L D (D.map fun _ => true)) a w → wpAnyH P md ops Q S f1 (mkL L D (D.map fun _ => true)) a w) : wpAnyH P md ops Q S f0 L a w := by
  have main : ∀ (fuel : Nat) (l : Array Bool) (a : Act) (w : World), unl l = fuel → cloB md ops l = true → S w → J l a w → wpAnyH P md ops Q S fuel l a w := by
    intro fuel
    induction fuel with
    | zero =>
      intro l a w hu hcl hS hj
      obtain ⟨T, hT, rfl⟩ := hJ l a w hj
      have hno : Region.ready md ops (mkL L D T) = [] := by
        cases hr : Region.ready md ops (mkL L D T) with
        | nil => rfl
        | cons i is =>
          have hm : i ∈ Region.ready md ops (mkL L D T) := by rw [hr]; simp
          have := unl_set (mem_ready.1 hm).1
          omega
      have hall : T.all id = true := by
        have h := List.all_eq_true.1 hk T (mem_bools _ _ hT)
        simp only [hcl, hno, Bool.not_true, Bool.false_or, List.isEmpty_nil, Bool.false_and, Bool.or_false] at h
        exact h
      have hTt : T = D.map fun _ => true := by
        apply List.ext_getElem (by simpa using hT)
        intro n h1 h2
        have := List.all_eq_true.1 hall _ (List.getElem_mem h1)
        simpa using this
      subst hTt
      have := he a w hS hj
      rw [← hf1, hu] at this
      exact this
    | succ fuel ih =>
      intro l a w hu hcl hS hj
      obtain ⟨T, hT, rfl⟩ := hJ l a w hj
      have h := List.all_eq_true.1 hk T (mem_bools _ _ hT)
      cases hall : T.all id
      · simp only [hcl, hall, Bool.not_true, Bool.false_or, Bool.and_eq_true, Bool.not_eq_true', List.all_eq_true] at h
        refine ⟨fun h' => by rw [h'] at h; simp at h, fun i hi => ?_⟩
        have hiD : i ∈ D := by simpa using h.2 i hi
        refine wpOp_mono (fun a' w' h3 => ⟨h3.1, ih _ a' w' ?_ (cloB_set hcl hi) h3.1 h3.2⟩) (hs i hiD _ a w hS hj hi)
        have := unl_set (mem_ready.1 hi).1
        omega
      · have hTt : T = D.map fun _ => true := by
          apply List.ext_getElem (by simpa using hT)
          intro n h1 h2
          have := List.all_eq_true.1 hall _ (List.getElem_mem h1)
          simpa using this
        subst hTt
        have := he a w hS hj
        rw [← hf1, hu] at this
        exact this
  exact main f0 L a w hf0 hc hS hi
theorem wpAnyH_inv (D : List Nat) (L L1 : Array Bool) (f0 f1 : Nat) (J : Act → Array Bool → Act → World → Prop) {a : Act} {w : World}
    (hc : cloB md ops L = true) (hk : chkI md ops L D = true) (hf0 : unl L = f0) (hl1 : mkL L D (D.map fun _ => true) = L1) (hf1 : unl L1 = f1)
    (hJ : ∀ l b w, J a l b w → ∃ T, T.length = D.length ∧ l = mkL L D T) (hS : S w) (hi : J a L a w) (hs : StepsI P md ops Q S (J a) D)
    (he : ∀ b w, S w → J a L1 b w → wpAnyH P md ops Q S f1 L1 b w) : wpAnyH P md ops Q S f0 L a w := by
  subst hl1
  exact wpAnyH_inv0 D L f0 f1 (J a) hc hk hf0 hf1 hJ hS hi hs he
/-! ### The same, where behind an operation of D others that are pure are taken first -/
def GoI (P : Program) (md : Region.Mode) (ops : Array Oper) (Q : Exit → Act → World → Prop) (S : World → Prop) (n : Nat) (l : Array Bool) (a : Act) (w : World) : Prop :=
  cloB md ops l = true → unl l ≤ n → wpAnyH P md ops Q S (unl l) l a w
theorem GoI.take {n i : Nat} {oi : Oper} {v : Value} {l : Array Bool} {a : Act} {w : World} (hi : ops[i]? = some oi) (hs : Region.noSelect ops = true) (hf : Region.free md ops l i = true) (hr : (Region.ready md ops l).contains i = true)
    (hQ : ∀ c a w, Q (.panic c) (a.put oi.dst v) w → Q (.panic c) a w) (hy : YieldsIf P ops S oi v a) (hS : S w) (h : GoI P md ops Q S n (l.setIfInBounds i true) (a.put oi.dst v) w) : GoI P md ops Q S n l a w := fun hc hu => by
  have hm : i ∈ Region.ready md ops l := by simpa using hr
  have h1 := unl_set (mem_ready.1 hm).1
  have h2 := h (cloB_set hc hm) (by omega)
  rw [← h1]
  exact wpAnyH_take hi hs hf hr hQ hy hS h2
def StepsG (P : Program) (md : Region.Mode) (ops : Array Oper) (Q : Exit → Act → World → Prop) (S : World → Prop) (J : Array Bool → Act → World → Prop) (is : List Nat) : Prop :=
  ∀ i ∈ is, ∀ n, (∀ l a w, S w → J l a w → GoI P md ops Q S n l a w) → ∀ l a w, S w → J l a w → i ∈ Region.ready md ops l → wpOp P ops Q i (fun a' w' => S w' ∧ GoI P md ops Q S n (l.setIfInBounds i true) a' w') a w
theorem StepsG.nil {J : Array Bool → Act → World → Prop} : StepsG P md ops Q S J [] := fun _ h => by cases h
theorem StepsG.cons {J : Array Bool → Act → World → Prop} {i : Nat} {o : Oper} {is : List Nat} (ho : ops[i]? = some o)
    (h : ∀ (n : Nat) (l : Array Bool) (a : Act) (w : World) (K : Act → World → Prop), Shut (∀ l a w, S w → J l a w → GoI P md ops Q S n l a w) → S w → J l a w → l.getD i true = false → (∀ d, waitsB md ops i d = true → l.getD d false = true) →
      Shut (∀ a w, S w → GoI P md ops Q S n (l.setIfInBounds i true) a w → K a w) → if Region.wanted o (yielded ops a.tmps) = true then Oper.wp P o a w K Q else K (a.put o.dst undef) w)
    (hs : StepsG P md ops Q S J is) : StepsG P md ops Q S J (i :: is) := fun j hj => by
  rcases List.mem_cons.1 hj with rfl | hj
  · intro n IH l a w hS hJ hr
    obtain ⟨h0, o', ho', hall⟩ := mem_ready.1 hr
    refine wpOp_step ho (fun K' hK => h n l a w K' IH hS hJ h0 ?_ (fun a w hS hW => hK a w ⟨hS, hW⟩))
    intro d hd
    unfold waitsB at hd
    rw [ho'] at hd
    simp only [Array.any_eq_true'] at hd
    obtain ⟨e, he, hb⟩ := hd
    rw [Bool.and_eq_true] at hb
    have := hall e he hb.1
    rw [eq_of_beq hb.2] at this
    exact this
  · exact hs j hj
theorem Act.selfs {a b : Act} (h : a = b) (d : Nat) : a = b.put (some d) (a.tmps.getD d undef) := by
  subst h
  unfold Act.put
  rcases Nat.lt_or_ge d a.tmps.size with h | h
  · simp [h, Array.setIfInBounds]
  · simp [Array.setIfInBounds, Nat.not_lt.2 h]
end
end Go.Proofs.YtlmdckcohoddnaaDoor
namespace Go.Proofs.YtlmdckcohoddnaaDoor
open Go.RowKit
theorem ret_int {k : IntKind} {a b : Int} (h : a = b) : Ending.returned (.int k a) = .returned (.int k b) := by rw [h]
theorem ret_bool {a b : Bool} (h : a = b) : Ending.returned (.bool a) = .returned (.bool b) := by rw [h]
theorem v_int {k : IntKind} {a b : Int} (h : a = b) : Value.int k a = .int k b := by rw [h]
theorem ret_slice {a : Option Addr} {n m c : Nat} (h : n = m) : Ending.returned (.slice a n c) = .returned (.slice a m c) := by rw [h]
end Go.Proofs.YtlmdckcohoddnaaDoor
namespace Go.Proofs.YtlmdckcohoddnaaDoor
open Go.RowKit
theorem mod_core (p n : Int) (h1 : 1 ≤ p) : (n.tmod p + p) % p = n % p := by
  have a1 := Int.emod_nonneg n (by omega : p ≠ 0)
  have a2 := Int.emod_lt_of_pos n (by omega : 0 < p)
  rw [Int.tmod_eq_emod (a := n)]
  split
  · simp
  · rw [show n % p - (p.natAbs : Int) + p = n % p from by omega, Int.emod_emod]
def inB (n lo hi : Int) : Bool := decide (lo ≤ n ∧ n ≤ hi)
theorem inB_true {n lo hi : Int} (h : inB n lo hi = true) : lo ≤ n ∧ n ≤ hi := of_decide_eq_true h
set_option maxHeartbeats 400000 in
theorem within_any (n lo hi : Int) (w : World) :
    Calls Tryd.prog 64 #[.int .i64 n, .int .i64 lo, .int .i64 hi] w fun e w' => e = .returned (.bool (inB n lo hi)) ∧ w = w' := by
  by_cases h1 : lo ≤ n
  · have b1 : decide (lo ≤ n) = true := decide_eq_true h1
    go_enter Tryd.func64, Tryd.ntmps64
    go_wp2
    go_ret
    exact ⟨ret_bool (by unfold inB; simp [h1]), rfl⟩
  · have b1 : decide (lo ≤ n) = false := decide_eq_false h1
    go_enter Tryd.func64, Tryd.ntmps64
    go_wp2
    go_ret
    exact ⟨ret_bool (decide_eq_false (by omega)).symm, rfl⟩
set_option maxHeartbeats 400000 in
theorem l1In_any (n lo hi : Int) (w : World) :
    Calls Tryd.prog 87 #[.int .i64 n, .int .i64 lo, .int .i64 hi] w fun e w' => e = .returned (.bool (inB n lo hi)) ∧ w = w' := by
  by_cases h1 : lo ≤ n
  · have b1 : decide (lo ≤ n) = true := decide_eq_true h1
    go_enter Tryd.func87, Tryd.ntmps87
    go_wp2
    go_ret
    exact ⟨ret_bool (by unfold inB; simp [h1]), rfl⟩
  · have b1 : decide (lo ≤ n) = false := decide_eq_false h1
    go_enter Tryd.func87, Tryd.ntmps87
    go_wp2
    go_ret
    exact ⟨ret_bool (decide_eq_false (by omega)).symm, rfl⟩
set_option maxHeartbeats 400000 in
theorem mod_same (p n : Int) (w : World) (h1 : 1 ≤ p) (h2 : p ≤ 1000000000) :
    Calls Tryd.prog 69 #[.int .i64 p, .int .i64 n] w fun e w' => e = .returned (.int .i64 (n % p)) ∧ w' = w := by
  have b1 := Int.tmod_lt_of_pos n (by omega : 0 < p)
  have b2 := Int.lt_tmod_of_pos n (by omega : 0 < p)
  have E2 := Lib.hid (mod_core p n h1)
  go_enter Tryd.func69, Tryd.ntmps69
  go_wp2
  go_ret
  exact ⟨ret_int (by exact E2.out), rfl⟩
def mb (n : Nat) : Nat → Nat
  | 0 => 1
  | i + 1 => mb n i * (n - i) / (i + 1)
def isPr (p : Int) : Bool := decide (2 ≤ p ∧ p ≤ 251 ∧ ∀ d : Nat, d < 16 → 2 ≤ d → (d : Int) * d ≤ p → p % d ≠ 0)
theorem isPr_range {p : Int} (h : isPr p = true) : 2 ≤ p ∧ p ≤ 251 := by
  unfold isPr at h; simp only [decide_eq_true_eq] at h; exact ⟨h.1, h.2.1⟩
theorem isPr_no {p : Int} (h : ¬ (2 ≤ p ∧ p ≤ 251)) : isPr p = false := by
  unfold isPr; simp only [decide_eq_false_iff_not]; exact fun k => h ⟨k.1, k.2.1⟩
theorem isPr_hit {p : Int} (d : Nat) (h1 : d < 16) (h2 : 2 ≤ d) (h3 : (d : Int) * d ≤ p) (h4 : p % d = 0) : isPr p = false := by
  unfold isPr; simp only [decide_eq_false_iff_not]; exact fun k => k.2.2 d h1 h2 h3 h4
theorem isPr_yes {p : Int} (h1 : 2 ≤ p) (h2 : p ≤ 251) (h : ∀ d : Nat, d < 16 → 2 ≤ d → (d : Int) * d ≤ p → p % d ≠ 0) : isPr p = true := by
  unfold isPr; simp only [decide_eq_true_eq]; exact ⟨h1, h2, h⟩
set_option maxHeartbeats 400000 in
theorem IsPrime_any (p : Int) (w : World) :
    Calls Tryd.prog 103 #[.int .i64 p] w fun e w' => e = .returned (.bool (isPr p)) ∧ ∃ m, w' = w.drewN m := by
  by_cases h1 : 2 ≤ p
  · by_cases h2 : p ≤ 251
    · go_enter Tryd.func103, Tryd.ntmps103
      go_wp2
      go_loop [3] (fun v => ∃ d : Nat, 2 ≤ d ∧ d ≤ 16 ∧ (∀ e : Nat, e < d → 2 ≤ e → (e : Int) * e ≤ p → p % e ≠ 0) ∧ v = .int .i64 d) (fun v => 20 - (intOf v).toNat)
      case atStart => exact ⟨2, by omega, by omega, fun e h h' => absurd h (by omega), rfl⟩
      case round =>
        obtain ⟨d, hd2, hd16, hd, rfl⟩ := hrel
        have HD := Lib.hid hd
        clear hd
        have hm : (d : Int) * d ≤ 256 := by
          have : d * d ≤ 16 * 16 := Nat.mul_le_mul hd16 hd16
          omega
        have hm0 : (0 : Int) ≤ (d : Int) * d := Int.mul_nonneg (by omega) (by omega)
        by_cases hlt : (d : Int) * d ≤ p
        · have hd15 : d < 16 := by
            by_cases e : d = 16
            · subst e; omega
            · omega
          by_cases hz : p % d = 0
          · have hz' : (p % (d : Int) == 0) = true := by simp [hz]
            have HR := Lib.hid (isPr_hit d hd15 hd2 hlt hz)
            clear hz
            go_wp2
            go_ret
            exact ⟨ret_bool HR.out.symm, 0, rfl⟩
          · have hz' : (p % (d : Int) == 0) = false := by simp [hz]
            have HZ := Lib.hid hz
            clear hz
            go_wp2
            go_round
            case rel =>
              refine ⟨d + 1, by omega, by omega, ?_, by go_num⟩
              intro e he h2e hee
              by_cases hed : e = d
              · subst hed; exact HZ.out
              · exact HD.out e (by omega) h2e hee
            case measure => simp [intOf]; omega
        · have HR := Lib.hid (isPr_yes h1 h2 (fun e _ h2e hee => HD.out e (by
            apply Nat.lt_of_not_le
            intro hde
            have : d * d ≤ e * e := Nat.mul_le_mul hde hde
            omega) h2e hee))
          go_wp2
          go_ret
          exact ⟨ret_bool HR.out.symm, 0, rfl⟩
    · have HR := Lib.hid (isPr_no (p := p) (by omega))
      go_enter Tryd.func103, Tryd.ntmps103
      go_wp2
      go_ret
      exact ⟨ret_bool HR.out.symm, 0, rfl⟩
  · have HR := Lib.hid (isPr_no (p := p) (by omega))
    go_enter Tryd.func103, Tryd.ntmps103
    go_wp2
    go_ret
    exact ⟨ret_bool HR.out.symm, 0, rfl⟩
set_option maxHeartbeats 400000 in
theorem fpGood_any (p : Int) (w : World) :
    Calls Tryd.prog 113 #[.int .i64 p] w fun e w' => e = .returned (.bool (isPr p)) ∧ ∃ m, w' = w.drewN m := by
  by_cases h1 : 2 ≤ p
  · by_cases h2 : p ≤ 251
    · go_enter Tryd.func113, Tryd.ntmps113
      go_wp2
      go_loop [3] (fun v => ∃ d : Nat, 2 ≤ d ∧ d ≤ 16 ∧ (∀ e : Nat, e < d → 2 ≤ e → (e : Int) * e ≤ p → p % e ≠ 0) ∧ v = .int .i64 d) (fun v => 20 - (intOf v).toNat)
      case atStart => exact ⟨2, by omega, by omega, fun e h h' => absurd h (by omega), rfl⟩
      case round =>
        obtain ⟨d, hd2, hd16, hd, rfl⟩ := hrel
        have HD := Lib.hid hd
        clear hd
        have hm : (d : Int) * d ≤ 256 := by
          have : d * d ≤ 16 * 16 := Nat.mul_le_mul hd16 hd16
          omega
        have hm0 : (0 : Int) ≤ (d : Int) * d := Int.mul_nonneg (by omega) (by omega)
        by_cases hlt : (d : Int) * d ≤ p
        · have hd15 : d < 16 := by
            by_cases e : d = 16
            · subst e; omega
            · omega
          by_cases hz : p % d = 0
          · have hz' : (p % (d : Int) == 0) = true := by simp [hz]
            have HR := Lib.hid (isPr_hit d hd15 hd2 hlt hz)
            clear hz
            go_wp2
            go_ret
            exact ⟨ret_bool HR.out.symm, 0, rfl⟩
          · have hz' : (p % (d : Int) == 0) = false := by simp [hz]
            have HZ := Lib.hid hz
            clear hz
            go_wp2
            go_round
            case rel =>
              refine ⟨d + 1, by omega, by omega, ?_, by go_num⟩
              intro e he h2e hee
              by_cases hed : e = d
              · subst hed; exact HZ.out
              · exact HD.out e (by omega) h2e hee
            case measure => simp [intOf]; omega
        · have HR := Lib.hid (isPr_yes h1 h2 (fun e _ h2e hee => HD.out e (by
            apply Nat.lt_of_not_le
            intro hde
            have : d * d ≤ e * e := Nat.mul_le_mul hde hde
            omega) h2e hee))
          go_wp2
          go_ret
          exact ⟨ret_bool HR.out.symm, 0, rfl⟩
    · have HR := Lib.hid (isPr_no (p := p) (by omega))
      go_enter Tryd.func113, Tryd.ntmps113
      go_wp2
      go_ret
      exact ⟨ret_bool HR.out.symm, 0, rfl⟩
  · have HR := Lib.hid (isPr_no (p := p) (by omega))
    go_enter Tryd.func113, Tryd.ntmps113
    go_wp2
    go_ret
    exact ⟨ret_bool HR.out.symm, 0, rfl⟩
end Go.Proofs.YtlmdckcohoddnaaDoor
namespace Go.Proofs.YtlmdckcohoddnaaDoor
open Go.RowKit
def Ints (w : World) (a : Option Addr) (n c : Nat) (l : List Int) : Prop :=
  n = l.length ∧ n ≤ c ∧ c ≤ maxLen ∧ (a = none → c = 0) ∧ ∃ g o, (0 < n → a = some ⟨g, o, none⟩) ∧ ∀ i, i < n → w.cell? ⟨g, o + i, none⟩ = some (.int .i64 (l.getD i 0))
theorem Ints.len {w a n c l} (h : Ints w a n c l) : n = l.length := h.1
theorem Ints.le {w a n c l} (h : Ints w a n c l) : (n : Int) ≤ 9223372036854775807 := by
  have := h.2.1; have := h.2.2.1; unfold maxLen at this; omega
theorem Ints.at {w a n c l} (h : Ints w a n c l) (k : Nat) (hk : k < n) : ∃ g o, a = some ⟨g, o, none⟩ ∧ w.cell? ⟨g, o + k, none⟩ = some (.int .i64 (l.getD k 0)) := by
  obtain ⟨_, _, _, _, g, o, h1, h2⟩ := h
  exact ⟨g, o, h1 (by omega), h2 k hk⟩
theorem Ints.drewN {w a n c l} (h : Ints w a n c l) (m : Nat) : Ints (w.drewN m) a n c l := h
theorem Ints.below {w w' a n c l} (h : Ints w a n c l) (hb : Below w.heap.size w w') : Ints w' a n c l := by
  obtain ⟨h1, h2, h3, hn, g, o, h4, h5⟩ := h
  exact ⟨h1, h2, h3, hn, g, o, h4, fun i hi => by rw [hb.cell (World.block_lt_of_cell? w _ (h5 i hi))]; exact h5 i hi⟩
theorem Ints.alloc {w a n c l} (h : Ints w a n c l) (ob : Obj) : Ints (w.alloc ob) a n c l :=
  h.below ((Below.refl _ _).alloc (Nat.le_refl _) _)
theorem cell_new (w : World) (v : Value) (t : TypeId) : (w.alloc (.cells #[v] t)).cell? ⟨w.heap.size, 0, none⟩ = some v := by
  simp
theorem below_of_drewN {w : World} (m : Nat) : Below w.heap.size w (w.drewN m) := below_drewN (Below.refl _ _) m
theorem below_of_quiet {w w' : World} (h : ∃ m, w' = w.drewN m) : Below w.heap.size w w' := by obtain ⟨m, rfl⟩ := h; exact below_of_drewN m
theorem Ints.lit (w : World) (l : List Int) (e : TypeId) (h : l.length ≤ maxLen) : Ints (w.alloc (.cells (l.map (Value.int .i64)).toArray e)) (some ⟨w.heap.size, 0, none⟩) l.length l.length l := by
  refine ⟨rfl, Nat.le_refl _, h, fun h => (by cases h), w.heap.size, 0, fun _ => rfl, fun i hi => ?_⟩
  rw [cell_of_row (w.alloc _) w.heap.size (0 + i) _ e (0, 0) (heap_alloc_new w _)]
  simp [hi]
theorem Ints.lit2 (w : World) (x y : Int) (e : TypeId) : Ints (w.alloc (.cells #[.int .i64 x, .int .i64 y] e)) (some ⟨w.heap.size, 0, none⟩) 2 2 [x, y] := Ints.lit w [x, y] e (by simp [maxLen])
theorem Ints.lit1 (w : World) (x : Int) (e : TypeId) : Ints (w.alloc (.cells #[.int .i64 x] e)) (some ⟨w.heap.size, 0, none⟩) 1 1 [x] := Ints.lit w [x] e (by simp [maxLen])
theorem Ints.nil0 (w : World) : Ints w none 0 0 [] := ⟨rfl, Nat.le_refl _, Nat.zero_le _, fun _ => rfl, 0, 0, fun h => absurd h (by omega), fun i hi => absurd hi (by omega)⟩
theorem wf_range {x : Int} (h : (Lit.int .i64 x).wf = true) : -9223372036854775808 ≤ x ∧ x ≤ 9223372036854775807 := by
  have := bounds_i64 h
  omega
def allB (l : List Int) (lo hi : Int) : Bool := l.all fun x => decide (lo ≤ x ∧ x ≤ hi)
theorem allB_iff (l : List Int) (lo hi : Int) : allB l lo hi = true ↔ ∀ x ∈ l, lo ≤ x ∧ x ≤ hi := by simp [allB]
theorem getD_mem (l : List Int) (k : Nat) (h : k < l.length) : l.getD k 0 ∈ l := by
  simp [List.getD, h]
theorem mem_getD (l : List Int) (x : Int) (h : x ∈ l) : ∃ k, k < l.length ∧ x = l.getD k 0 := by
  obtain ⟨k, hk, rfl⟩ := List.getElem_of_mem h
  exact ⟨k, hk, by simp [List.getD, hk]⟩
theorem allB_no (l : List Int) (lo hi : Int) (k : Nat) (h : k < l.length) (hx : ¬ (lo ≤ l.getD k 0 ∧ l.getD k 0 ≤ hi)) : allB l lo hi = false := by
  rw [Bool.eq_false_iff]; intro H; exact hx ((allB_iff ..).1 H _ (getD_mem l k h))
theorem allB_yes (l : List Int) (lo hi : Int) (h : ∀ j, j < l.length → lo ≤ l.getD j 0 ∧ l.getD j 0 ≤ hi) : allB l lo hi = true := by
  rw [allB_iff]; intro x hx; obtain ⟨k, hk, rfl⟩ := mem_getD l x hx; exact h k hk
set_option maxHeartbeats 400000 in
theorem l1All_any (a : Option Addr) (n c : Nat) (l : List Int) (lo hi : Int) (w : World) (h : Ints w a n c l) :
    Calls Tryd.prog 100 #[.slice a n c, .int .i64 lo, .int .i64 hi] w fun e w' => e = .returned (.bool (allB l lo hi)) ∧ ∃ m, w' = w.drewN m := by
  have hn := h.le
  go_enter Tryd.func100, Tryd.ntmps100
  go_wp2
  go_loop [11] (fun v => ∃ k : Nat, k ≤ n ∧ (∀ j, j < k → lo ≤ l.getD j 0 ∧ l.getD j 0 ≤ hi) ∧ v = .int .i64 k) (fun v => n - (intOf v).toNat)
  case atStart => exact ⟨0, Nat.zero_le _, fun j hj => absurd hj (by omega), rfl⟩
  case round =>
    obtain ⟨k, hk, hj, rfl⟩ := hrel
    have HJ := Lib.hid hj
    clear hj
    by_cases hlt : k < n
    · obtain ⟨g, o, rfl, hcell⟩ := h.at k hlt
      obtain ⟨x, hx⟩ : ∃ x, x = l.getD k 0 := ⟨_, rfl⟩
      rw [← hx] at hcell
      have HX := Lib.hid hx
      clear hx
      by_cases h1 : lo ≤ x
      · by_cases h2 : x ≤ hi
        · go_wp2
          go_round
          case rel => exact ⟨k + 1, by omega, fun j hj => by
            by_cases e : j = k
            · subst e; rw [← HX.out]; exact ⟨h1, h2⟩
            · exact HJ.out j (by omega), by go_num⟩
          case measure => simp [intOf]; omega
        · have HR := Lib.hid (allB_no l lo hi k (by rw [← h.len]; exact hlt) (by rw [← HX.out]; omega))
          go_wp2
          go_ret
          exact ⟨ret_bool HR.out.symm, 0, rfl⟩
      · have HR := Lib.hid (allB_no l lo hi k (by rw [← h.len]; exact hlt) (by rw [← HX.out]; omega))
        go_wp2
        go_ret
        exact ⟨ret_bool HR.out.symm, 0, rfl⟩
    · have HR := Lib.hid (allB_yes l lo hi (fun j hj => HJ.out j (by have := h.len; omega)))
      go_wp2
      go_ret
      exact ⟨ret_bool HR.out.symm, 0, rfl⟩
end Go.Proofs.YtlmdckcohoddnaaDoor
namespace Go.Proofs.YtlmdckcohoddnaaDoor
open Go.RowKit
def rowOf (a : Option Addr) (c : Nat) : Option Nat := if c = 0 then none else a.map Addr.block
def RowC (w : World) (a : Option Addr) (n c sz : Nat) (xs : List Value) : Prop :=
  xs.length = n * sz ∧ n ≤ c ∧ c ≤ maxLen ∧ (a = none → c = 0) ∧ ∃ g o, (0 < n → a = some ⟨g, o, none⟩) ∧ ∀ i u, xs[i]? = some u → w.cell? ⟨g, o + i, none⟩ = some u
def OwnC (w : World) (b : Nat) (a : Option Addr) (n c e sz : Nat) (xs : List Value) : Prop :=
  xs.length = n * sz ∧ n ≤ c ∧ c ≤ maxLen ∧ (a = none → c = 0) ∧
  (0 < c → ∃ g cur, a = some ⟨g, 0, none⟩ ∧ b ≤ g ∧ w.heap[g]? = some (.cells cur e (0, 0)) ∧ cur.size = c * sz ∧ cur.toList.take (n * sz) = xs)
theorem OwnC.below {w w' b a n c e sz xs} (h : OwnC w b a n c e sz xs) (hb : Below w.heap.size w w') : OwnC w' b a n c e sz xs :=
  ⟨h.1, h.2.1, h.2.2.1, h.2.2.2.1, fun hc => by
    obtain ⟨g, cur, h1, h2, h3, h4⟩ := h.2.2.2.2 hc
    exact ⟨g, cur, h1, h2, by rw [hb.block g (Array.getElem?_eq_some_iff.1 h3).1]; exact h3, h4⟩⟩
theorem OwnC.lower {w b b' a n c e sz xs} (h : OwnC w b a n c e sz xs) (hb : b' ≤ b) : OwnC w b' a n c e sz xs :=
  ⟨h.1, h.2.1, h.2.2.1, h.2.2.2.1, fun hc => by
    obtain ⟨g, cur, h1, h2, h3⟩ := h.2.2.2.2 hc
    exact ⟨g, cur, h1, by omega, h3⟩⟩
def Apart (a : Option Addr) (c : Nat) (a' : Option Addr) (c' : Nat) : Prop := ∀ x y, 0 < c → 0 < c' → a = some x → a' = some y → x.block ≠ y.block
theorem Apart.symm {a c a' c'} (h : Apart a c a' c') : Apart a' c' a c := fun x y h1 h2 hx hy => (h y x h2 h1 hy hx).symm
theorem rowOf_ne {g : Nat} {a' : Option Addr} {c' : Nat} (h : ∀ y, 0 < c' → a' = some y → g ≠ y.block) : some g ≠ rowOf a' c' := by
  unfold rowOf
  intro e
  split at e
  · cases e
  · cases a' with
    | none => simp at e
    | some y => simp at e; exact h y (by omega) rfl e
theorem OwnC.grown {w w' : World} {b a n c e sz xs} {a' : Option Addr} {c' : Nat} (h : OwnC w b a n c e sz xs) (hg : w.grownBy w' (rowOf a' c')) (hd : Apart a c a' c') : OwnC w' b a n c e sz xs :=
  ⟨h.1, h.2.1, h.2.2.1, h.2.2.2.1, fun hc => by
    obtain ⟨g, cur, h1, h2, h3, h4⟩ := h.2.2.2.2 hc
    exact ⟨g, cur, h1, h2, by rw [hg.block g (Array.getElem?_eq_some_iff.1 h3).1 (rowOf_ne fun y hc' hy => hd _ _ hc hc' h1 hy)]; exact h3, h4⟩⟩
theorem OwnC.range {w b a n c e sz xs} (h : OwnC w b a n c e sz xs) : ∀ x, 0 < c → a = some x → b ≤ x.block ∧ x.block < w.heap.size := by
  intro x hc hx
  obtain ⟨g, cur, h1, h2, h3, _⟩ := h.2.2.2.2 hc
  rw [h1] at hx; cases hx
  exact ⟨h2, (Array.getElem?_eq_some_iff.1 h3).1⟩
theorem OwnC.apart {w w' : World} {b b' a n c e sz xs a' n' c' e' sz' xs'} (h : OwnC w b a n c e sz xs) (h' : OwnC w' b' a' n' c' e' sz' xs') (hb : w.heap.size ≤ b') : Apart a c a' c' := fun x y hc hc' hx hy => by
  have := (h.range x hc hx).2; have := (h'.range y hc' hy).1; omega
theorem OwnC.nil0 (w : World) (b e sz : Nat) (a : Option Addr) : OwnC w b a 0 0 e sz [] := ⟨by simp, Nat.le_refl _, Nat.zero_le _, fun _ => rfl, fun h => absurd h (by omega)⟩
theorem OwnC.lit (w : World) (b n e sz : Nat) (xs : List Value) (hb : b ≤ w.heap.size) (hn : xs.length = n * sz) (hm : n ≤ maxLen) : OwnC (w.alloc (.cells xs.toArray e)) b (some ⟨w.heap.size, 0, none⟩) n n e sz xs :=
  ⟨hn, Nat.le_refl _, hm, fun h => (by cases h), fun _ => ⟨w.heap.size, xs.toArray, rfl, hb, heap_alloc_new w _, by simp [hn], by rw [← hn]; simp⟩⟩
theorem OwnC.of_owns {w b e sz v n xs} (h : w.ownsRow b e sz v n xs) : ∃ a c, v = .slice a n c ∧ OwnC w b a n c e sz xs := by
  rcases h.2 with ⟨h1, h2⟩ | ⟨g, cap, cur, h1, h2, h3, h4, h5, h6, h7⟩
  · subst h2
    have : xs = [] := List.eq_nil_of_length_eq_zero (by simpa using h.1)
    subst this
    exact ⟨_, _, h1, OwnC.nil0 _ _ _ _ _⟩
  · exact ⟨_, _, h1, h.1, h4, h5, fun h => (by cases h), fun _ => ⟨g, cur, rfl, h2, h3, h6, h7⟩⟩
theorem OwnC.owns {w b a n c e sz xs} (h : OwnC w b a n c e sz xs) (hc : 0 < c) : w.ownsRow b e sz (.slice a n c) n xs := by
  obtain ⟨g, cur, h1, h2, h3, h4, h5⟩ := h.2.2.2.2 hc
  exact ⟨h.1, .inr ⟨g, c, cur, by rw [h1], h2, h3, h.2.1, h.2.2.1, h4, h5⟩⟩
theorem OwnC.row {w b a n c e sz xs} (h : OwnC w b a n c e sz xs) : RowC w a n c sz xs := by
  refine ⟨h.1, h.2.1, h.2.2.1, h.2.2.2.1, ?_⟩
  by_cases hc : 0 < c
  · obtain ⟨g, cur, h1, h2, h3, h4, h5⟩ := h.2.2.2.2 hc
    refine ⟨g, 0, fun _ => h1, fun i u hu => ?_⟩
    rw [Nat.zero_add, cell_of_row w g i cur e (0, 0) h3]
    rw [← h5, List.getElem?_take] at hu
    split at hu
    · simpa using hu
    · cases hu
  · have h1 := h.1
    obtain rfl : n = 0 := by have := h.2.1; omega
    have : xs = [] := List.eq_nil_of_length_eq_zero (by simpa using h1)
    subst this
    exact ⟨0, 0, fun h => absurd h (by omega), fun i u hu => by simp at hu⟩
theorem OwnC.atC {w b a n c e sz xs} (h : OwnC w b a n c e sz xs) (k : Nat) (hk : k < n * sz) : ∃ g, a = some ⟨g, 0, none⟩ ∧ b ≤ g ∧ g < w.heap.size ∧ (∃ u, xs[k]? = some u ∧ w.cell? ⟨g, k, none⟩ = some u) ∧ w.frozen? ⟨g, k, none⟩ = false ∧
    ∀ u, OwnC (w.setCell ⟨g, k, none⟩ u) b (some ⟨g, 0, none⟩) n c e sz (xs.set k u) := by
  have hn : 0 < n := by cases n with
    | zero => simp at hk
    | succ n => omega
  have hc : 0 < c := by have := h.2.1; omega
  obtain ⟨g, cur, h1, h2, h3, h4, h5⟩ := h.2.2.2.2 hc
  have ho := h.owns hc
  subst h1
  have hx : k < xs.length := by rw [h.1]; exact hk
  refine ⟨g, rfl, h2, (Array.getElem?_eq_some_iff.1 h3).1, ⟨xs[k], by simp [hx], by rw [ho.cellAt k hk]; simp [hx]⟩, ho.frozenAt k, fun u => ?_⟩
  obtain ⟨a', c', e', ho'⟩ := OwnC.of_owns (ho.stored k u).1
  cases e'
  exact ho'
theorem RowC.below {w w' a n c sz xs} (h : RowC w a n c sz xs) (hb : Below w.heap.size w w') : RowC w' a n c sz xs := by
  obtain ⟨h1, h2, h3, h4, g, o, h5, h6⟩ := h
  exact ⟨h1, h2, h3, h4, g, o, h5, fun i u hu => by rw [hb.cell (World.block_lt_of_cell? w _ (h6 i u hu))]; exact h6 i u hu⟩
theorem OwnC.prefix_row {w b a n m c e sz xs xs'} (h : OwnC w b a (n + m) c e sz (xs ++ xs')) (hx : xs.length = n * sz) : RowC w a n c sz xs := by
  obtain ⟨h1, h2, h3, h4, g, o, h5, h6⟩ := h.row
  exact ⟨hx, by omega, h3, h4, g, o, fun hn => h5 (by omega), fun i u hu => h6 i u (by
    have hi := (List.getElem?_eq_some_iff.1 hu).1
    rw [List.getElem?_append_left hi]; exact hu)⟩
theorem RowC.keep {w w' a n c sz xs} (h : RowC w a n c sz xs) (hg : w.grownBy w' none) : RowC w' a n c sz xs := by
  obtain ⟨h1, h2, h3, h4, g, o, h5, h6⟩ := h
  exact ⟨h1, h2, h3, h4, g, o, h5, fun i u hu => hg.cell (h6 i u hu) (by simp)⟩
theorem grownBy_some {w w' : World} (h : w.grownBy w' none) (r : Option Nat) : w.grownBy w' r := ⟨h.os, h.tape, h.output, h.size, fun k hk _ => h.block k hk (by simp)⟩
theorem run_app {P : Program} (w : World) (t ty : TypeId)
    (b e : Nat) (i : TypeInfo) (z : Value) (sz bytes : Nat) (ht : P.underlying t = some (.slice e)) (hi : P.info? e = some i) (hz : i.zero = some z)
    (hsize : i.size = sz) (hby : i.bytes = bytes) (hzs : z.cells.size = sz) (hsz : 0 < sz)
    (a : Option Addr) (n c : Nat) (xs : List Value) (hown : OwnC w b a n c e sz xs)
    (a' : Option Addr) (m c' : Nat) (xs' : List Value) (hrow : RowC w a' m c' sz xs') (h1 : ∀ u ∈ xs', u.oneCell' = true)
    (hbytes : (n + m) * bytes ≤ 140737488355328) (hmax : n + m ≤ maxLen) (hbase : b ≤ w.heap.size) :
    ∃ a2 c2 w', (Builtin.append_ #[t, t] ty #[.slice a n c, .slice a' m c']).run P w = .ok (.slice a2 (n + m) c2) w' ∧ OwnC w' b a2 (n + m) c2 e sz (xs ++ xs') ∧ w.grownBy w' (rowOf a c) ∧ RowC w' a n c sz xs := by
  by_cases hm : m = 0
  · subst hm
    have hx' : xs' = [] := List.eq_nil_of_length_eq_zero (by simpa using hrow.1)
    subst hx'
    have hnc := hown.2.1
    refine ⟨a, c, w, ?_, by simpa using hown, World.grownBy.refl _ _, hown.row⟩
    cases a' with
    | none => cases a <;> simp [Builtin.append_, run_underlying ht, sizeOf, typeInfo, hi, Builtin.lenOf, Builtin.firstCells, hnc, storeCells]
    | some y =>
      have hf := run_firstCells_some (P := P) w i.size 0 y 0 c' [] (by simp) (fun j u hu => by simp at hu)
      cases a <;> simp [Builtin.append_, run_underlying ht, sizeOf, typeInfo, hi, Builtin.lenOf, hf, hnc, storeCells]
  · obtain ⟨hr1, hr2, hr3, hr4, g', o', hr5, hr6⟩ := hrow
    obtain rfl := hr5 (by omega)
    have hadd : ∀ (g o j : Nat), (⟨g, o, none⟩ : Addr).add j = ⟨g, o + j, none⟩ := fun g o j => by unfold Addr.add; split <;> simp_all
    have hnews : ∀ j u, xs'[j]? = some u → w.cell? ((⟨g', o', none⟩ : Addr).add j) = some u := fun j u hu => by rw [hadd]; exact hr6 j u hu
    by_cases hc : 0 < c
    · obtain ⟨g, cur, hag, hbg, hgg, hcs, hct⟩ := hown.2.2.2.2 hc
      have hob := hown.owns hc
      have hro : rowOf a c = some g := by unfold rowOf; rw [if_neg (by omega), hag]; rfl
      subst hag
      by_cases hroom : n + m ≤ c
      · obtain ⟨w', hrun, r1, r2⟩ := run_append_fits (P := P) w b t ty e i sz ht hi hsize g n c xs hob ⟨g', o', none⟩ m c' xs' hr1 hnews h1 hroom
        obtain ⟨a2, c2, e2, h2⟩ := OwnC.of_owns r1
        cases e2
        exact ⟨_, _, w', hrun, h2, by rw [hro]; exact r2, h2.prefix_row hown.1⟩
      · obtain ⟨v', w', hrun, r1, r2⟩ := run_append_arg_grows (P := P) w t ty e i z sz bytes ht hi hz hsize hby hzs hsz ⟨g, 0, none⟩ n c xs hown.1 (fun j u hu => by
          obtain ⟨q1, q2, q3, q4, gg, oo, q5, q6⟩ := hown.row
          have hn0 : 0 < n := by
            have := (List.getElem?_eq_some_iff.1 hu).1
            rw [hown.1] at this
            cases n with
            | zero => simp at this
            | succ n => omega
          have := q5 hn0
          cases this
          rw [hadd]; exact q6 j u hu) ⟨g', o', none⟩ m c' xs' hr1 hnews (by omega) hmax hbytes
        obtain ⟨a2, c2, rfl, h2⟩ := OwnC.of_owns r1
        exact ⟨_, _, w', hrun, h2.lower hbase, grownBy_some r2 _, hown.row.keep r2⟩
    · have hn0 : n = 0 := by have := hown.2.1; omega
      have hc0 : c = 0 := by omega
      subst hn0; subst hc0
      have hxe : xs = [] := List.eq_nil_of_length_eq_zero (by simpa using hown.1)
      subst hxe
      cases a with
      | none =>
        obtain ⟨v', w', hrun, r1, r2, _⟩ := run_append_own (P := P) w w.heap.size t ty e i z sz bytes ht hi hz hsize hby hzs hsz (.slice none 0 0) 0 [] (World.ownsRow_nil w _ e sz) ⟨g', o', none⟩ m c' xs' hr1 hnews h1 hmax hbytes (Nat.le_refl _)
        obtain ⟨a2, c2, rfl, h2⟩ := OwnC.of_owns r1
        exact ⟨_, _, w', hrun, h2.lower hbase, by unfold rowOf; exact r2, hown.row.keep r2⟩
      | some y =>
        obtain ⟨v', w', hrun, r1, r2⟩ := run_append_arg_grows (P := P) w t ty e i z sz bytes ht hi hz hsize hby hzs hsz y 0 0 [] (by simp) (fun j u hu => by simp at hu) ⟨g', o', none⟩ m c' xs' hr1 hnews (by omega) hmax hbytes
        obtain ⟨a2, c2, rfl, h2⟩ := OwnC.of_owns r1
        exact ⟨_, _, w', hrun, h2.lower hbase, grownBy_some r2 _, hown.row.keep r2⟩
def Own (w : World) (b : Nat) (a : Option Addr) (n c : Nat) (l : List Int) : Prop := OwnC w b a n c 3 1 (l.map (Value.int .i64))
theorem Own.len {w b a n c l} (h : Own w b a n c l) : n = l.length := by have := h.1; simpa using this.symm
theorem Own.cap {w b a n c l} (h : Own w b a n c l) : n ≤ c ∧ c ≤ maxLen := ⟨h.2.1, h.2.2.1⟩
theorem Ints.rowC {w a n c l} (h : Ints w a n c l) : RowC w a n c 1 (l.map (Value.int .i64)) := by
  obtain ⟨h1, h2, h3, h4, g, o, h5, h6⟩ := h
  refine ⟨by simp [h1], h2, h3, h4, g, o, h5, fun i u hu => ?_⟩
  simp only [List.getElem?_map, Option.map_eq_some_iff] at hu
  obtain ⟨x, hx, rfl⟩ := hu
  have hi : i < l.length := (List.getElem?_eq_some_iff.1 hx).1
  rw [h6 i (by omega)]
  simp [List.getD, hx]
theorem Ints.of_rowC {w a n c} {l : List Int} (h : RowC w a n c 1 (l.map (Value.int .i64))) : Ints w a n c l := by
  obtain ⟨h1, h2, h3, h4, g, o, h5, h6⟩ := h
  have hn : n = l.length := by simpa using h1.symm
  refine ⟨hn, h2, h3, h4, g, o, h5, fun i hi => ?_⟩
  have hl : i < l.length := by omega
  exact h6 i _ (by simp [List.getD, hl])
theorem Ints.cells {w a n c l} (h : Ints w a n c l) (hn : 0 < n) : ∃ g o, a = some ⟨g, o, none⟩ ∧ ∀ k, k < n → w.cell? ⟨g, o + k, none⟩ = some (.int .i64 (l.getD k 0)) := by
  obtain ⟨_, _, _, _, g, o, h1, h2⟩ := h
  exact ⟨g, o, h1 hn, h2⟩
theorem Own.ints {w b a n c l} (h : Own w b a n c l) : Ints w a n c l := by
  obtain ⟨h1, h2, h3, h4, g, o, h5, h6⟩ := h.row
  refine ⟨h.len, h2, h3, h4, g, o, h5, fun i hi => ?_⟩
  have hl : i < l.length := by have := h.len; omega
  exact h6 i _ (by simp [List.getD, hl])
theorem Own.below {w w' b a n c l} (h : Own w b a n c l) (hb : Below w.heap.size w w') : Own w' b a n c l := OwnC.below h hb
theorem Own.lower {w b b' a n c l} (h : Own w b a n c l) (hb : b' ≤ b) : Own w b' a n c l := OwnC.lower h hb
theorem Own.drewN {w b a n c l} (h : Own w b a n c l) (m : Nat) : Own (w.drewN m) b a n c l := h.below (below_of_drewN m)
theorem Own.drew {w b a n c l} (h : Own w b a n c l) : Own w.drew b a n c l := h.below ((Below.refl _ _).drew)
theorem Ints.drew {w a n c l} (h : Ints w a n c l) : Ints w.drew a n c l := h.below ((Below.refl _ _).drew)
theorem Own.alloc {w b a n c l} (h : Own w b a n c l) (ob : Obj) : Own (w.alloc ob) b a n c l := h.below ((Below.refl _ _).alloc (Nat.le_refl _) _)
theorem Own.nil0 (w : World) (b : Nat) (a : Option Addr) : Own w b a 0 0 [] := OwnC.nil0 w b 3 1 a
theorem Own.grown {w w' : World} {b a n c l} {a' : Option Addr} {c' : Nat} (h : Own w b a n c l) (hg : w.grownBy w' (rowOf a' c')) (hd : Apart a c a' c') : Own w' b a n c l := OwnC.grown h hg hd
theorem Own.range {w b a n c l} (h : Own w b a n c l) : ∀ x, 0 < c → a = some x → b ≤ x.block ∧ x.block < w.heap.size := OwnC.range h
theorem Own.apart {w w' : World} {b b' a n c l a' n' c' l'} (h : Own w b a n c l) (h' : Own w' b' a' n' c' l') (hb : w.heap.size ≤ b') : Apart a c a' c' := OwnC.apart h h' hb
theorem Own.at {w b a n c l} (h : Own w b a n c l) (k : Nat) (hk : k < n) : ∃ g, a = some ⟨g, 0, none⟩ ∧ b ≤ g ∧ g < w.heap.size ∧ w.cell? ⟨g, k, none⟩ = some (.int .i64 (l.getD k 0)) ∧ w.frozen? ⟨g, k, none⟩ = false ∧
    ∀ x, Own (w.setCell ⟨g, k, none⟩ (.int .i64 x)) b (some ⟨g, 0, none⟩) n c (l.set k x) := by
  obtain ⟨g, rfl, hb, hg, ⟨u, hu, hc⟩, hf, hs⟩ := OwnC.atC h k (by omega)
  have hl : k < l.length := by have := h.len; omega
  refine ⟨g, rfl, hb, hg, ?_, hf, fun x => by unfold Own; rw [List.map_set]; exact hs _⟩
  rw [hc, ← hu]
  simp [List.getD, hl]
theorem Own.lit (w : World) (b : Nat) (l : List Int) (hb : b ≤ w.heap.size) (h : l.length ≤ maxLen) : Own (w.alloc (.cells (l.map (Value.int .i64)).toArray 3)) b (some ⟨w.heap.size, 0, none⟩) l.length l.length l :=
  OwnC.lit w b l.length 3 1 _ hb (by simp) h
theorem Own.of_owns {w b v n} {l : List Int} (h : w.ownsRow b 3 1 v n (l.map (Value.int .i64))) : ∃ a c, v = .slice a n c ∧ Own w b a n c l := OwnC.of_owns h
theorem Ints.grown {w w' : World} {a n c l} {a' : Option Addr} {c' : Nat} (h : Ints w a n c l) (hg : w.grownBy w' (rowOf a' c')) (hd : ∀ x y, 0 < n → 0 < c' → a = some x → a' = some y → x.block ≠ y.block) : Ints w' a n c l := by
  obtain ⟨h1, h2, h3, hn, g, o, h4, h5⟩ := h
  exact ⟨h1, h2, h3, hn, g, o, h4, fun i hi => hg.cell (h5 i hi) (rowOf_ne fun y hc hy => hd ⟨g, o, none⟩ y (by omega) hc (h4 (by omega)) hy)⟩
theorem Ints.range {w a n c l} (h : Ints w a n c l) : ∀ x, 0 < n → a = some x → 0 ≤ x.block ∧ x.block < w.heap.size := by
  intro x hn hx
  obtain ⟨g, o, hg, h1⟩ := h.at 0 hn
  rw [hg] at hx
  cases hx
  exact ⟨Nat.zero_le _, World.block_lt_of_cell? w _ h1⟩
theorem Ints.apart {w w' : World} {b' a n c l a' n' c' l'} (h : Ints w a n c l) (h' : Own w' b' a' n' c' l') (hb : w.heap.size ≤ b') : ∀ x y, 0 < n → 0 < c' → a = some x → a' = some y → x.block ≠ y.block := fun x y hn hc hx hy => by
  have := (h.range x hn hx).2; have := (h'.range y hc hy).1; omega
theorem info_int : (Tryd.prog.info? 3).map (fun i => (i.zero, i.size, i.bytes)) = some (some (.int .i64 0), 1, 8) := by kernel_rfl
theorem below_grownBy {B : Nat} {w w' : World} {a : Option Addr} {c : Nat} (hg : w.grownBy w' (rowOf a c)) (hB : B ≤ w.heap.size) (h : ∀ x, 0 < c → a = some x → B ≤ x.block) : Below B w w' :=
  (Below.refl _ _).grown hg hB (fun k hk => by
    unfold rowOf at hk
    split at hk
    · cases hk
    · cases a with
      | none => simp at hk
      | some x => simp at hk; subst hk; exact h x (by omega) rfl)
theorem below_a1 {w w' : World} {o : Obj} (h : Below (w.alloc o).heap.size (w.alloc o) w') : Below w.heap.size w w' := ((Below.refl _ _).alloc (Nat.le_refl _) _).trans (h.mono (by simp))
theorem run_appI (w : World) (ty : TypeId) (b : Nat) (a : Option Addr) (n c : Nat) (l : List Int) (hown : Own w b a n c l) (a' : Option Addr) (m c' : Nat) (l' : List Int) (hrow : Ints w a' m c' l') (hlen : n + m ≤ 1000000000000) (hbase : b ≤ w.heap.size) :
    ∃ a2 c2 w', (Builtin.append_ #[23, 23] ty #[.slice a n c, .slice a' m c']).run Tryd.prog w = .ok (.slice a2 (n + m) c2) w' ∧ Own w' b a2 (n + m) c2 (l ++ l') ∧ Below b w w' ∧ w.grownBy w' (rowOf a c) ∧ Ints w' a n c l := by
  obtain ⟨i0, hi, hz0, hz1, hz2⟩ := info_parts info_int
  obtain ⟨a2, c2, w', hrun, h1, h2, h3⟩ := run_app w 23 ty b 3 i0 (.int .i64 0) 1 8 Tryd.underlying23 hi hz0 hz1 hz2 rfl (by decide) a n c _ hown a' m c' _ hrow.rowC (by
    intro u hu
    simp only [List.mem_map] at hu
    obtain ⟨y, _, rfl⟩ := hu
    rfl) (by omega) (by unfold maxLen; omega) hbase
  exact ⟨a2, c2, w', hrun, by unfold Own; rw [List.map_append]; exact h1, below_grownBy h2 hbase (fun x hc hx => (hown.range x hc hx).1), h2, Ints.of_rowC h3⟩
theorem wp_appI (w : World) {o : Oper} {act : Act} {K : Act → World → Prop} {Q : Exit → Act → World → Prop} (s x : Operand)
    (ho : o.op = .call { callee := .builtin .append, args := #[s, x], argTypes := #[23, 23] })
    (b : Nat) (a : Option Addr) (n c : Nat) (l : List Int) (hs : act.eval s = .slice a n c) (hown : Own w b a n c l)
    (a' : Option Addr) (m c' : Nat) (l' : List Int) (hx : act.eval x = .slice a' m c') (hrow : Ints w a' m c' l')
    (hlen : n + m ≤ 1000000000000) (hbase : b ≤ w.heap.size)
    (h : ∀ a2 c2 w', Own w' b a2 (n + m) c2 (l ++ l') → Below b w w' → w.grownBy w' (rowOf a c) → Ints w' a n c l → K (act.put o.dst (.slice a2 (n + m) c2)) w') : o.wp Tryd.prog act w K Q := by
  obtain ⟨a2, c2, w', hrun, h1, h2, h3, h4⟩ := run_appI w o.type b a n c l hown a' m c' l' hrow hlen hbase
  unfold Oper.wp
  simp [execOp, ho, resolve, invoke, builtin, hs, hx, hrun, Result.andThen]
  exact h a2 c2 w' h1 h2 h3 h4
theorem wpList_appI (w : World) {ops : Array Oper} {rest : List Oper} {o : Oper} {act : Act} {Q : Exit → Act → World → Prop} (hgd : o.guard = none) (s x : Operand)
    (ho : o.op = .call { callee := .builtin .append, args := #[s, x], argTypes := #[23, 23] })
    (b : Nat) (a : Option Addr) (n c : Nat) (l : List Int) (hs : act.eval s = .slice a n c) (hown : Own w b a n c l)
    (a' : Option Addr) (m c' : Nat) (l' : List Int) (hx : act.eval x = .slice a' m c') (hrow : Ints w a' m c' l')
    (hlen : n + m ≤ 1000000000000) (hbase : b ≤ w.heap.size)
    (h : ∀ a2 c2 w', Own w' b a2 (n + m) c2 (l ++ l') → Below b w w' → w.grownBy w' (rowOf a c) → wpList Tryd.prog ops Q rest (act.put o.dst (.slice a2 (n + m) c2)) w') : wpList Tryd.prog ops Q (o :: rest) act w :=
  wpList_plain hgd fun _ hK => wp_appI w s x ho b a n c l hs hown a' m c' l' hx hrow hlen hbase fun a2 c2 w' h1 h2 h3 _ => hK _ _ (h a2 c2 w' h1 h2 h3)
theorem step_appI (w : World) {ops : Array Oper} {o : Oper} {act : Act} {K : Act → World → Prop} {Q : Exit → Act → World → Prop} {E : Prop} (hgd : o.guard = none) (s x : Operand)
    (ho : o.op = .call { callee := .builtin .append, args := #[s, x], argTypes := #[23, 23] })
    (b : Nat) (a : Option Addr) (n c : Nat) (l : List Int) (hs : act.eval s = .slice a n c) (hown : Own w b a n c l)
    (a' : Option Addr) (m c' : Nat) (l' : List Int) (hx : act.eval x = .slice a' m c') (hrow : Ints w a' m c' l')
    (hlen : n + m ≤ 1000000000000) (hbase : b ≤ w.heap.size)
    (h : ∀ a2 c2 w', Own w' b a2 (n + m) c2 (l ++ l') → Below b w w' → w.grownBy w' (rowOf a c) → Ints w' a n c l → K (act.put o.dst (.slice a2 (n + m) c2)) w') :
    if Region.wanted o (yielded ops act.tmps) = true then Oper.wp Tryd.prog o act w K Q else E := by
  rw [if_pos (by simp [Region.wanted, hgd])]
  exact wp_appI w s x ho b a n c l hs hown a' m c' l' hx hrow hlen hbase h
def UpFrom (k : Int) (l : List Int) : Prop := ∀ i, i < l.length → l.getD i 0 = k + i
end Go.Proofs.YtlmdckcohoddnaaDoor
namespace Go.Proofs.YtlmdckcohoddnaaDoor
open Go.RowKit
theorem enters {P : Program} {f : FuncId} {fn : Func} (hf : P.funcs[f]? = some fn) (hname : (fn.name == "runtime.NumGoroutine") = false) (hb : fn.body.isSome = true) (args : Array Value) (w : World) :
    (callFunc f args).run P w = .ok (.enter f args) w := by
  have h1 : fn.name ≠ "runtime.NumGoroutine" := by simpa using hname
  obtain ⟨c, hc⟩ := Option.isSome_iff_exists.1 hb
  simp [callFunc, hf, h1, hc]
theorem any_hit (l : List Int) (q : Int → Bool) (k : Nat) (h : k < l.length) (hq : q (l.getD k 0) = true) : l.any q = true := by
  rw [List.any_eq_true]; exact ⟨_, getD_mem l k h, hq⟩
theorem any_miss (l : List Int) (q : Int → Bool) (h : ∀ i, i < l.length → q (l.getD i 0) = false) : l.any q = false := by
  rw [List.any_eq_false]; intro x hx; obtain ⟨k, hk, rfl⟩ := mem_getD l x hx; rw [h k hk]; simp
set_option maxHeartbeats 400000 in
theorem IndexFunc_any (a : Option Addr) (n c : Nat) (l : List Int) (f : Nat) (cap : Array Value) (q : Int → Bool) (w : World) (h : Ints w a n c l)
    (hf : ∀ args W, (callFunc f args).run Tryd.prog W = .ok (.enter f args) W)
    (hq : ∀ W x, Below w.heap.size w W → x ∈ l → Calls Tryd.prog f (#[.int .i64 x] ++ cap) W fun e w' => e = .returned (.bool (q x)) ∧ ∃ m, w' = W.drewN m) :
    Calls Tryd.prog 147 #[.slice a n c, .func (.func f) #[] cap] w fun e w' => ∃ i : Int, e = .returned (.int .i64 i) ∧ Hid (decide (0 ≤ i) = l.any q) ∧ ∃ m, w' = w.drewN m := by
  have hn := h.le
  have HQ := Lib.hid hq
  clear hq
  go_enter Tryd.func147, Tryd.ntmps147
  go_wp2
  go_loopw [8] (fun v wr => ∃ k : Nat, k ≤ n ∧ v = .int .i64 k ∧ (∀ i, i < k → q (l.getD i 0) = false) ∧ ∃ m, wr = w.drewN m) (fun v _ => n - (intOf v).toNat)
  case atStart => exact ⟨0, Nat.zero_le _, rfl, fun i hi => absurd hi (by omega), 0, rfl⟩
  case round =>
    obtain ⟨k, hk, rfl, hj, m, rfl⟩ := hrel
    have HJ := Lib.hid hj
    clear hj
    by_cases hlt : k < n
    · obtain ⟨g, o, rfl, hcell⟩ := h.at k hlt
      have HC := Lib.hid (HQ.out (w.drewN m) (l.getD k 0) (below_of_drewN m) (getD_mem l k (by rw [← h.len]; exact hlt)))
      cases hb : q (l.getD k 0)
      · rw [hb] at HC
        have HB := Lib.hid hb
        clear hb
        go_wp2_with (refine HC.out.mono ?_; rintro e w' ⟨rfl, m', rfl⟩)
        go_roundw
        case rel => exact ⟨k + 1, by omega, by go_num, fun i hi => by
          by_cases e : i = k
          · subst e; exact HB.out
          · exact HJ.out i (by omega), _, rfl⟩
        case measure => simp [intOf]; omega
      · rw [hb] at HC
        have HB := Lib.hid (any_hit l q k (by rw [← h.len]; exact hlt) hb)
        clear hb
        go_wp2_with (refine HC.out.mono ?_; rintro e w' ⟨rfl, m', rfl⟩)
        go_ret
        exact ⟨k, rfl, by unfold Hid; rw [HB.out]; simp, _, rfl⟩
    · have HB := Lib.hid (any_miss l q (fun i hi => HJ.out i (by have := h.len; omega)))
      go_wp2
      go_ret
      exact ⟨-1, rfl, by unfold Hid; rw [HB.out]; decide, _, rfl⟩
set_option maxHeartbeats 400000 in
theorem ContainsFunc_any (a : Option Addr) (n c : Nat) (l : List Int) (f : Nat) (cap : Array Value) (q : Int → Bool) (w : World) (h : Ints w a n c l)
    (hf : ∀ args W, (callFunc f args).run Tryd.prog W = .ok (.enter f args) W)
    (hq : ∀ W x, Below w.heap.size w W → x ∈ l → Calls Tryd.prog f (#[.int .i64 x] ++ cap) W fun e w' => e = .returned (.bool (q x)) ∧ ∃ m, w' = W.drewN m) :
    Calls Tryd.prog 131 #[.slice a n c, .func (.func f) #[] cap] w fun e w' => e = .returned (.bool (l.any q)) ∧ ∃ m, w' = w.drewN m := by
  have HF := Lib.hid hf
  have HQ := Lib.hid hq
  clear hf hq
  go_enter Tryd.func131, Tryd.ntmps131
  go_wp2_with (go_at_call 147; refine (IndexFunc_any _ _ _ l _ _ q _ h HF.out HQ.out).mono ?_; rintro e w' ⟨i, rfl, hi, m, rfl⟩)
  go_ret
  exact ⟨ret_bool (by assumption), _, rfl⟩
end Go.Proofs.YtlmdckcohoddnaaDoor
namespace Go.Proofs.YtlmdckcohoddnaaDoor
open Go.RowKit
def elB (p a : Int) : Bool := isPr p && decide (0 ≤ a ∧ a ≤ p - 1)
def elsB (p : Int) (l : List Int) : Bool := isPr p && allB l 0 (p - 1)
theorem elB_true {p a : Int} (h : elB p a = true) : isPr p = true ∧ 2 ≤ p ∧ p ≤ 251 ∧ 0 ≤ a ∧ a ≤ p - 1 := by
  unfold elB at h
  simp only [Bool.and_eq_true, decide_eq_true_eq] at h
  have := isPr_range h.1
  exact ⟨h.1, this.1, this.2, h.2.1, h.2.2⟩
theorem elsB_two (p a b : Int) : elsB p [a, b] = (elB p a && elB p b) := by
  unfold elsB elB allB; cases isPr p <;> simp
set_option maxHeartbeats 400000 in
theorem isElement_any (p a : Int) (w : World) :
    Calls Tryd.prog 74 #[.int .i64 p, .int .i64 a] w fun e w' => e = .returned (.bool (elB p a)) ∧ ∃ m, w' = w.drewN m := by
  unfold elB
  cases hp : isPr p
  · simp only [Bool.false_and]
    go_enter Tryd.func74, Tryd.ntmps74
    go_wp2_with (first | (go_at_call 103; refine (IsPrime_any _ _).mono ?_; rintro e w' ⟨rfl, m, rfl⟩))
    go_ret
    exact ⟨rfl, _, rfl⟩
  · obtain ⟨r1, r2⟩ := isPr_range hp
    simp only [Bool.true_and]
    by_cases h1 : 0 ≤ a
    · by_cases h2 : a ≤ p - 1
      · rw [decide_eq_true ⟨h1, h2⟩]
        go_enter Tryd.func74, Tryd.ntmps74
        go_wp2_with (first | (go_at_call 103; refine (IsPrime_any _ _).mono ?_; rintro e w' ⟨rfl, m, rfl⟩) | go_in)
        go_ret
        exact ⟨rfl, _, rfl⟩
      · rw [decide_eq_false (by omega)]
        have hb : decide (a ≤ p - 1) = false := by simp; omega
        go_enter Tryd.func74, Tryd.ntmps74
        go_wp2_with (first | (go_at_call 103; refine (IsPrime_any _ _).mono ?_; rintro e w' ⟨rfl, m, rfl⟩) | go_in)
        go_ret
        exact ⟨rfl, _, rfl⟩
    · rw [decide_eq_false (by omega)]
      go_enter Tryd.func74, Tryd.ntmps74
      go_wp2_with (first | (go_at_call 103; refine (IsPrime_any _ _).mono ?_; rintro e w' ⟨rfl, m, rfl⟩) | go_in)
      go_ret
      exact ⟨rfl, _, rfl⟩
set_option maxHeartbeats 400000 in
theorem fpIn_any (p : Int) (a : Option Addr) (n c : Nat) (l : List Int) (w : World) (h : Ints w a n c l) :
    Calls Tryd.prog 80 #[.int .i64 p, .slice a n c] w fun e w' => e = .returned (.bool (elsB p l)) ∧ ∃ m, w' = w.drewN m := by
  unfold elsB
  cases hp : isPr p
  · simp only [Bool.false_and]
    go_enter Tryd.func80, Tryd.ntmps80
    go_wp2_with (first | (go_at_call 113; refine (fpGood_any _ _).mono ?_; rintro e w' ⟨rfl, m, rfl⟩))
    go_ret
    exact ⟨rfl, _, rfl⟩
  · obtain ⟨r1, r2⟩ := isPr_range hp
    simp only [Bool.true_and]
    go_enter Tryd.func80, Tryd.ntmps80
    go_wp2_with (first | (go_at_call 113; refine (fpGood_any _ _).mono ?_; rintro e w' ⟨rfl, m, rfl⟩) | (go_at_call 100; refine (l1All_any _ _ _ l _ _ _ (by exact h.drewN _)).mono ?_; rintro e w' ⟨rfl, m, rfl⟩))
    go_ret
    exact ⟨rfl, _, rfl⟩
end Go.Proofs.YtlmdckcohoddnaaDoor
namespace Go.Proofs.YtlmdckcohoddnaaDoor
open Go.RowKit
theorem keepC {w w' : World} {p : Addr} {v : Value} (u : Below w.heap.size w w') (h : w.cell? p = some v) : w'.cell? p = some v := by
  rw [u.cell (World.block_lt_of_cell? w _ h)]; exact h
theorem keepA {w : World} {p : Addr} {v : Value} (ob : Obj) (h : w.cell? p = some v) : (w.alloc ob).cell? p = some v := keepC ((Below.refl _ _).alloc (Nat.le_refl _) ob) h
end Go.Proofs.YtlmdckcohoddnaaDoor
namespace Go.Proofs.YtlmdckcohoddnaaDoor
open Go.RowKit
set_option maxHeartbeats 1000000 in
theorem areAll_1_any (x : Int) (p : Addr) (f : Nat) (cap : Array Value) (b : Bool) (w : World) (hp : w.cell? p = some (.func (.func f) #[] cap))
    (hf : ∀ args W, (callFunc f args).run Tryd.prog W = .ok (.enter f args) W)
    (hq : ∀ m, Calls Tryd.prog f (#[.int .i64 x] ++ cap) (w.drewN m) fun e w' => e = .returned (.bool b) ∧ ∃ m', w' = (w.drewN m).drewN m') :
    Calls Tryd.prog 132 #[.int .i64 x, .pointer (some p)] w fun e w' => e = .returned (.bool (!b)) ∧ ∃ m, w' = w.drewN m := by
  have HQ := Lib.hid (hq 0)
  clear hq
  go_enter Tryd.func132, Tryd.ntmps132
  go_wp2_with (refine HQ.out.mono ?_; rintro e w' ⟨rfl, m', rfl⟩)
  go_ret
  exact ⟨rfl, _, rfl⟩
theorem areAll_1_enters (args : Array Value) (W : World) : (callFunc 132 args).run Tryd.prog W = .ok (.enter 132 args) W :=
  enters Tryd.func132 (by kernel_rfl) (by kernel_rfl) args W
set_option maxHeartbeats 1000000 in
theorem areAll_any (a : Option Addr) (n c : Nat) (l : List Int) (f : Nat) (cap : Array Value) (q : Int → Bool) (w : World) (h : Ints w a n c l)
    (hf : ∀ args W, (callFunc f args).run Tryd.prog W = .ok (.enter f args) W)
    (hq : ∀ W x, Below w.heap.size w W → x ∈ l → Calls Tryd.prog f (#[.int .i64 x] ++ cap) W fun e w' => e = .returned (.bool (q x)) ∧ ∃ m, w' = W.drewN m) :
    Calls Tryd.prog 104 #[.slice a n c, .func (.func f) #[] cap] w fun e w' => e = .returned (.bool (l.all q)) ∧ Below w.heap.size w w' := by
  have hall : (!l.any fun x => !q x) = l.all q := by rw [List.all_eq_not_any_not]
  have HALL := Lib.hid hall
  clear hall
  have hbel : Below w.heap.size w (w.alloc (.cells #[.func (.func f) #[] cap] 78)) := (Below.refl _ _).alloc (Nat.le_refl _) _
  have hc : (w.alloc (.cells #[.func (.func f) #[] cap] 78)).cell? ⟨w.heap.size, 0, none⟩ = some (.func (.func f) #[] cap) := cell_new _ _ _
  have hcf := ContainsFunc_any a n c l 132 #[.pointer (some ⟨w.heap.size, 0, none⟩)] (fun x => !q x) (w.alloc (.cells #[.func (.func f) #[] cap] 78)) (h.alloc _) areAll_1_enters
    (fun W x hb hx => areAll_1_any x _ f cap (q x) W (by rw [hb.cell (by simp)]; exact hc) hf (fun m => hq _ x (hbel.trans ((hb.mono (by simp)).trans ((below_of_drewN m).mono (by have := hb.size; simp at this; omega)))) hx))
  have HCF := Lib.hid hcf
  clear hcf hq hf
  go_enter Tryd.func104, Tryd.ntmps104
  go_wp2_with (go_at_call 131; refine HCF.out.mono ?_; rintro e w' ⟨rfl, m, rfl⟩)
  go_ret
  exact ⟨ret_bool HALL.out, below_drewN hbel _⟩
def bitB (x : Int) : Bool := decide (0 ≤ x ∧ x ≤ 1)
set_option maxHeartbeats 400000 in
theorem isBit_any (x : Int) (w : World) : Calls Tryd.prog 60 #[.int .i64 x] w fun e w' => e = .returned (.bool (bitB x)) ∧ ∃ m, w' = w.drewN m := by
  by_cases h0 : x = 0
  · subst h0
    go_enter Tryd.func60, Tryd.ntmps60
    go_wp2
    go_ret
    exact ⟨rfl, 0, rfl⟩
  · by_cases h1 : x = 1
    · subst h1
      go_enter Tryd.func60, Tryd.ntmps60
      go_wp2
      go_ret
      exact ⟨rfl, 0, rfl⟩
    · have b0 : ((x == 0) : Bool) = false := by simp [h0]
      have b1 : ((x == 1) : Bool) = false := by simp [h1]
      have HB := Lib.hid (show bitB x = false by unfold bitB; exact decide_eq_false (by omega))
      clear h0 h1
      go_enter Tryd.func60, Tryd.ntmps60
      go_wp2
      go_ret
      exact ⟨ret_bool HB.out.symm, 0, rfl⟩
set_option maxHeartbeats 400000 in
theorem areElements_1_any (x P : Int) (p : Addr) (w : World) (hp : w.cell? p = some (.int .i64 P)) (h1 : 1 ≤ P) (h2 : P ≤ 1000000) :
    Calls Tryd.prog 105 #[.int .i64 x, .pointer (some p)] w fun e w' => e = .returned (.bool (decide (0 ≤ x ∧ x ≤ P - 1))) ∧ ∃ m, w' = w.drewN m := by
  go_enter Tryd.func105, Tryd.ntmps105
  go_wp2_with (go_at_call 64; refine (within_any _ _ _ _).mono ?_; rintro e w' ⟨rfl, rfl⟩)
  go_ret
  exact ⟨rfl, 0, rfl⟩
theorem areElements_1_enters (args : Array Value) (W : World) : (callFunc 105 args).run Tryd.prog W = .ok (.enter 105 args) W :=
  enters Tryd.func105 (by kernel_rfl) (by kernel_rfl) args W
set_option maxHeartbeats 1000000 in
theorem areElements_any (p : Int) (a : Option Addr) (n c : Nat) (l : List Int) (w : World) (h : Ints w a n c l) :
    Calls Tryd.prog 59 #[.int .i64 p, .slice a n c] w fun e w' => e = .returned (.bool (elsB p l)) ∧ Below w.heap.size w w' := by
  have hbel : Below w.heap.size w (w.alloc (.cells #[.int .i64 p] 3)) := (Below.refl _ _).alloc (Nat.le_refl _) _
  have hc : (w.alloc (.cells #[.int .i64 p] 3)).cell? ⟨w.heap.size, 0, none⟩ = some (.int .i64 p) := cell_new _ _ _
  unfold elsB
  cases hp : isPr p
  · simp only [Bool.false_and]
    go_enter Tryd.func59, Tryd.ntmps59
    go_wp2_with (go_at_call 103; refine (IsPrime_any _ _).mono ?_; rintro e w' ⟨rfl, m, rfl⟩)
    go_ret
    exact ⟨rfl, below_drewN hbel _⟩
  · obtain ⟨r1, r2⟩ := isPr_range hp
    simp only [Bool.true_and]
    have haa := fun (m : Nat) => areAll_any a n c l 105 #[.pointer (some ⟨w.heap.size, 0, none⟩)] (fun x => decide (0 ≤ x ∧ x ≤ p - 1)) ((w.alloc (.cells #[.int .i64 p] 3)).drewN m) ((h.alloc _).drewN m) areElements_1_enters
      (fun W x hb _ => areElements_1_any x p _ W (by rw [hb.cell (by simp)]; exact hc) (by omega) (by omega))
    have HAA := Lib.hid haa
    clear haa
    go_enter Tryd.func59, Tryd.ntmps59
    go_wp2_with (first | (go_at_call 103; refine (IsPrime_any _ _).mono ?_; rintro e w' ⟨rfl, m, rfl⟩) | (go_at_call 104; refine (HAA.out _).mono ?_; rintro e w' ⟨rfl, u⟩))
    go_ret
    have u1 := ‹Below (World.drewN _ _).heap.size _ _›
    exact ⟨ret_bool (by simp [allB]), (below_drewN hbel _).trans (u1.mono (by simp))⟩
end Go.Proofs.YtlmdckcohoddnaaDoor
namespace Go.Proofs.YtlmdckcohoddnaaDoor
open Go.RowKit
end Go.Proofs.YtlmdckcohoddnaaDoor
namespace Go.Proofs.YtlmdckcohoddnaaDoor
open Go.RowKit
def Cg (p a b : Int) : Prop := ∃ k : Int, a = b + p * k
theorem Cg.refl (p a : Int) : Cg p a a := ⟨0, by grind⟩
theorem Cg.of_eq {p a b : Int} (h : a = b) : Cg p a b := h ▸ Cg.refl p a
theorem Cg.symm {p a b : Int} (h : Cg p a b) : Cg p b a := by obtain ⟨k, h⟩ := h; exact ⟨-k, by grind⟩
theorem Cg.trans {p a b c : Int} (h : Cg p a b) (h' : Cg p b c) : Cg p a c := by obtain ⟨k, h⟩ := h; obtain ⟨j, h'⟩ := h'; exact ⟨k + j, by grind⟩
theorem Cg.add {p a b c d : Int} (h : Cg p a b) (h' : Cg p c d) : Cg p (a + c) (b + d) := by obtain ⟨k, h⟩ := h; obtain ⟨j, h'⟩ := h'; exact ⟨k + j, by grind⟩
theorem Cg.sub {p a b c d : Int} (h : Cg p a b) (h' : Cg p c d) : Cg p (a - c) (b - d) := by obtain ⟨k, h⟩ := h; obtain ⟨j, h'⟩ := h'; exact ⟨k - j, by grind⟩
theorem Cg.neg {p a b : Int} (h : Cg p a b) : Cg p (-a) (-b) := by obtain ⟨k, h⟩ := h; exact ⟨-k, by grind⟩
theorem Cg.mul {p a b c d : Int} (h : Cg p a b) (h' : Cg p c d) : Cg p (a * c) (b * d) := by
  obtain ⟨k, h⟩ := h; obtain ⟨j, h'⟩ := h'; exact ⟨k * d + b * j + p * k * j, by rw [h, h']; grind⟩
theorem Cg.emod (p a : Int) : Cg p (a % p) a := ⟨-(a / p), by rw [Int.emod_def]; grind⟩
theorem Cg.eq {p a b : Int} (h : Cg p a b) : a % p = b % p := by obtain ⟨k, h⟩ := h; rw [h, Int.add_mul_emod_self_left]
theorem Cg.of_emod {p a b : Int} (h : a % p = b % p) : Cg p a b := (Cg.emod p a).symm.trans ((Cg.of_eq h).trans (Cg.emod p b))
theorem Cg.zero {p a : Int} (h : Cg p a 0) : a % p = 0 := by have := h.eq; simpa using this
theorem Cg.small {p a : Int} (h : Cg p a 0) (h0 : 0 ≤ a) (h1 : a ≤ p - 1) : a = 0 := by
  have := h.zero
  rwa [Int.emod_eq_of_lt h0 (by omega)] at this
theorem prime_cop {p : Int} (hp : isPr p = true) (x : Int) (h0 : 1 ≤ x) (h1 : x ≤ p - 1) : Int.gcd p x = 1 := by
  obtain ⟨p1, p2⟩ := isPr_range hp
  have hg : 0 < Int.gcd p x := Int.gcd_pos_of_ne_zero_right p (by omega)
  have hgp : ((Int.gcd p x : Nat) : Int) ∣ p := Int.gcd_dvd_left _ _
  have hgx : ((Int.gcd p x : Nat) : Int) ∣ x := Int.gcd_dvd_right _ _
  generalize Int.gcd p x = g at *
  have hgl : (g : Int) ≤ x := Int.le_of_dvd (by omega) hgx
  rcases Nat.lt_or_ge 1 g with hg1 | hg1
  · exfalso
    obtain ⟨q, hq⟩ := hgp
    have hq1 : 1 < q := by
      rcases Int.lt_or_le 1 q with h | h
      · exact h
      · exfalso
        have : (g : Int) * q ≤ g * 1 := Int.mul_le_mul_of_nonneg_left h (by omega)
        omega
    have key : ∀ (d e : Int), 1 < d → 1 < e → p = d * e → d ≤ e → False := by
      intro d e hd he hde hle
      have hdd : d * d ≤ p := by rw [hde]; exact Int.mul_le_mul_of_nonneg_left hle (by omega)
      have hd16 : d < 16 := by
        rcases Int.lt_or_le d 16 with h | h
        · exact h
        · have : (16 : Int) * 16 ≤ d * d := Int.mul_le_mul h h (by omega) (by omega)
          omega
      have hn : ((d.toNat : Nat) : Int) = d := by omega
      have := isPr_hit (p := p) d.toNat (by omega) (by omega) (by rw [hn]; exact hdd) (by rw [hn, hde]; exact Int.mul_emod_right d e)
      rw [this] at hp
      cases hp
    rcases Int.le_total (g : Int) q with h | h
    · exact key g q (by omega) hq1 hq h
    · exact key q g hq1 (by omega) (by rw [hq]; exact Int.mul_comm _ _) h
  · omega
theorem prime_mul {p : Int} (hp : isPr p = true) (x y : Int) (h0 : 1 ≤ x) (h1 : x ≤ p - 1) (h2 : 1 ≤ y) (h3 : y ≤ p - 1) : ¬ Cg p (x * y) 0 := by
  intro h
  obtain ⟨k, hk⟩ := h
  have hd : p ∣ x * y := ⟨k, by rw [hk]; grind⟩
  have hc : Int.gcd p x = 1 := prime_cop hp x h0 h1
  have hy : p ∣ y := by
    have h1 : p.natAbs ∣ x.natAbs * y.natAbs := by rw [← Int.natAbs_mul]; exact Int.natAbs_dvd_natAbs.2 hd
    exact Int.natAbs_dvd_natAbs.1 (Nat.Coprime.dvd_of_dvd_mul_left (show Nat.gcd p.natAbs x.natAbs = 1 from hc) h1)
  have := Int.le_of_dvd (by omega) hy
  omega
end Go.Proofs.YtlmdckcohoddnaaDoor
