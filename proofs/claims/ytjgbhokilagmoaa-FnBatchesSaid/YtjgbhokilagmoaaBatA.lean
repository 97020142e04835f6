/- Batches of tags: which are valid; sums of tagged values. -/
import Derived.Test.YtjgbhokilagmoaaTag
import Derived.Test.YtjgbhokilagmoaaBst
import Derived.Deep.DeepCutAuto
import Derived.Deep.QuietTactic
namespace Go.Proofs.Ytjgbhokilagmoaa
open Go.RowKit
def tlB (p delta : Int) (keys L : List Int) (kn n : Nat) : Bool := elB p delta && (elsB p keys && (decide (kn = n) && (decide (n ≤ 20) && tagsB p L n)))
theorem eqN (a b : Nat) : (((a : Int) == (b : Int)) : Bool) = decide (a = b) := by
  rw [Bool.eq_iff_iff]; simp; omega
theorem leN (a b : Nat) : decide ((a : Int) ≤ (b : Int)) = decide (a ≤ b) := by
  rw [decide_eq_decide]; omega
theorem Ints.of_blk1 {w : World} {g : Nat} {t : TypeId} {x : Int} (h : Blk w g t #[.int .i64 x]) : Ints w (some ⟨g, 0, none⟩) 1 1 [x] :=
  ⟨rfl, Nat.le_refl _, by simp [maxLen], fun e => (by cases e), g, 0, fun _ => rfl, fun i hi => by
    obtain rfl : i = 0 := by omega
    exact h.cell 0⟩
set_option maxHeartbeats 4000000 in
set_option maxRecDepth 100000 in
theorem areTagged_1_any (p v t : Int) (q : Addr) (w : World) (hp : w.cell? q = some (.int .i64 p)) :
    Calls Try.prog 130 #[.agg #[.int .i64 v, .int .i64 t], .pointer (some q)] w fun e w' => e = .returned (.bool (!tagB p v t)) ∧ Below w.heap.size w w' := by
  have hp' : (w.alloc (.cells #[.int .i64 v, .int .i64 t] 52)).cell? q = some (.int .i64 p) := keepA _ hp
  have V0 : Below w.heap.size w (w.alloc (.cells #[.int .i64 v, .int .i64 t] 52)) := (Below.refl _ _).alloc (Nat.le_refl _) _
  go_enter Try.func130, Try.ntmps130
  go_wp2_with fail
  refine (isTagged_any _ _ _ _).mono ?_; rintro e w' ⟨rfl, u⟩
  have V1 := V0.trans (u.mono V0.size)
  go_wp2
  go_ret
  exact ⟨rfl, V1⟩
theorem areTagged_1_enters (args : Array Value) (W : World) : (callFunc 130 args).run Try.prog W = .ok (.enter 130 args) W :=
  enters Try.func130 (by kernel_rfl) (by kernel_rfl) args W
set_option maxHeartbeats 4000000 in
set_option maxRecDepth 100000 in
theorem areTagged_any (p delta : Int) (ka : Option Addr) (kn kc : Nat) (keys : List Int) (la : Option Addr) (n lc : Nat) (L : List Int) (w : World) (hK : Ints w ka kn kc keys) (hL : Flat 2 w la n lc L) :
    Calls Try.prog 93 #[.int .i64 p, .int .i64 delta, .slice ka kn kc, .slice la n lc] w fun e w' => e = .returned (.bool (tlB p delta keys L kn n)) ∧ Below w.heap.size w w' := by
  have C1 := Lib.hid (fun W : World => isElement_any p delta W)
  have C2 := Lib.hid (fun (W : World) (h : Ints W ka kn kc keys) => areElements_any p ka kn kc keys W h)
  have C3 := Lib.hid (fun (W : World) (q : Addr) (hh : Flat 2 W la n lc L) (hq : W.cell? q = some (.int .i64 p)) => (show Calls Try.prog 129 #[.slice la n lc, .func (.func 130) #[] #[.pointer (some q)]] W fun e w' => e = .returned (.bool (!tagsB p L n)) ∧ Below W.heap.size W w' from
    ContainsFuncT la n lc L _ _ (tagAt p L) W hh areTagged_1_enters (fun W2 i hb _ => areTagged_1_any p _ _ q W2 (keepC hb hq))))
  have e3 := eqN kn n
  have e4 : decide ((n : Int) ≤ 20) = decide (n ≤ 20) := by rw [decide_eq_decide]; omega
  unfold tlB
  generalize elB p delta = b1 at *
  generalize elsB p keys = b2 at *
  generalize tagsB p L n = b5 at *
  generalize decide (kn = n) = b3 at *
  generalize decide (n ≤ 20) = b4 at *
  have LK := Lib.hid hK
  have LL := Lib.hid hL
  clear hK hL

  go_enter Try.func93, Try.ntmps93
  go_upto_region 1 with fail
  refine Exists.elim (Blk.new_ w (b := w.heap.size) rfl 3 #[.int .i64 p]) (fun w1' q => ?_)
  rw [q.1]; have B_p := q.2.1; have s_w1' := q.2.2.1; have u_w1' := q.2.2.2; clear q
  have S_w1' : w.heap.size + 1 ≤ w1'.heap.size := Nat.le_of_eq s_w1'.symm
  have V_w1' := (Below.refl w.heap.size w).trans (u_w1'.mono ((Below.refl w.heap.size w)).size)
  clear u_w1' s_w1'
  have e_p_0 := B_p.a1_0
  go_wp2_with fail
  clear e_p_0
  refine (C1.out _).mono ?_
  rintro e w2' ⟨rfl, q_w2'⟩
  have u_w2' := below_of_quiet q_w2'
  clear q_w2'
  replace B_p := B_p.below u_w2'
  have S_w2' := u_w2'.size
  have V_w2' : Below w.heap.size w w2' := V_w1'.trans (u_w2'.mono V_w1'.size)
  clear V_w1'
  clear u_w2'
  cases b1

  · go_wp2
    go_ret
    exact ⟨rfl, V_w2'⟩

  have e_p_0 := B_p.a1_0
  go_wp2_with fail
  clear e_p_0
  refine (C2.out _ (LK.out.below V_w2')).mono ?_
  rintro e w3' ⟨rfl, u_w3'⟩
  replace B_p := B_p.below u_w3'
  have S_w3' := u_w3'.size
  have V_w3' : Below w.heap.size w w3' := V_w2'.trans (u_w3'.mono V_w2'.size)
  clear V_w2'
  clear u_w3'
  cases b2

  · go_wp2
    go_ret
    exact ⟨rfl, V_w3'⟩

  cases b3

  · go_wp2
    go_ret
    exact ⟨rfl, V_w3'⟩

  cases b4

  · have h4 : ¬ ((n : Int) ≤ 20) := of_decide_eq_false e4
    go_wp2
    go_ret
    exact ⟨rfl, V_w3'⟩

  have h4 : (n : Int) ≤ 20 := of_decide_eq_true e4
  have e_p_0 := B_p.a1_0
  go_wp2_with fail
  clear e_p_0
  refine (C3.out _ _ (Flat.below LL.out V_w3') B_p.a1_0).mono ?_
  rintro e w4' ⟨rfl, u_w4'⟩
  replace B_p := B_p.below u_w4'
  have S_w4' := u_w4'.size
  have V_w4' : Below w.heap.size w w4' := V_w3'.trans (u_w4'.mono V_w3'.size)
  clear V_w3'
  clear u_w4'
  go_wp2
  go_ret
  exact ⟨by simp, V_w4'⟩
theorem tlB_spec (p delta : Int) (keys L : List Int) (kn n : Nat) : (tagsB p L n && (elsB p [delta] && (allB keys 0 (p - 1) && (decide (kn = n) && decide (n ≤ 20))))) = tlB p delta keys L kn n := by
  unfold tlB elsB elB
  have : allB [delta] 0 (p - 1) = decide (0 ≤ delta ∧ delta ≤ p - 1) := by simp [allB]
  rw [this]
  cases isPr p <;> cases decide (0 ≤ delta ∧ delta ≤ p - 1) <;> cases allB keys 0 (p - 1) <;> cases decide (kn = n) <;> cases decide (n ≤ 20) <;> cases tagsB p L n <;> rfl
set_option maxHeartbeats 4000000 in
set_option maxRecDepth 100000 in
theorem tgLists_any (p delta : Int) (ka : Option Addr) (kn kc : Nat) (keys : List Int) (la : Option Addr) (n lc : Nat) (L : List Int) (w : World) (hK : Ints w ka kn kc keys) (hL : Flat 2 w la n lc L) :
    Calls Try.prog 97 #[.int .i64 p, .int .i64 delta, .slice ka kn kc, .slice la n lc] w fun e w' => e = .returned (.bool (tlB p delta keys L kn n)) ∧ Below w.heap.size w w' := by
  rw [← tlB_spec]
  have hn := hL.le
  have C2 := Lib.hid (fun (W : World) (a : Option Addr) (h : Ints W a 1 1 [delta]) => fpIn_any p a 1 1 [delta] W h)
  have C3 := Lib.hid (fun (W : World) (h : Ints W ka kn kc keys) => l1All_any ka kn kc keys 0 (p - 1) W h)
  have e3 := eqN kn n
  have e4 : decide ((n : Int) ≤ 20) = decide (n ≤ 20) := by rw [decide_eq_decide]; omega
  have tp : elsB p [delta] = true → IntKind.i64.wrap (p - 1) = p - 1 := fun h => IntWalk.i64_in _ (by have := elsB_true h; omega)
  have LT := Lib.hid (fun k (hk : k < n) (h : tagAt p L k = false) => rangeAll_no (q := tagAt p L) hk h)
  have LTy := Lib.hid (fun (h : ∀ k, k < n → tagAt p L k = true) => rangeAll_yes (q := tagAt p L) (n := n) h)
  have LD : Hid (tagsB p L n = (List.range n).all (tagAt p L)) := Lib.hid rfl
  generalize tagsB p L n = bt at *
  generalize hb2 : elsB p [delta] = b2 at *
  generalize allB keys 0 (p - 1) = b5 at *
  generalize decide (kn = n) = b3 at *
  generalize decide (n ≤ 20) = b4 at *
  replace tp := Lib.hid tp
  clear hb2
  have LK := Lib.hid hK
  have LL := Lib.hid hL
  clear hK hL

  go_enter Try.func97, Try.ntmps97
  go_wp2
  go_loopw [13] (fun v wr => ∃ k : Nat, k ≤ n ∧ v = .int .i64 k ∧ (∀ i, i < k → tagAt p L i = true) ∧ Below w.heap.size w wr) (fun v _ => n - (intOf v).toNat)
  case atStart => exact ⟨0, Nat.zero_le _, rfl, fun i hi => absurd hi (by omega), Below.refl _ _⟩
  case round =>
    obtain ⟨k, hk, rfl, hj, hbel⟩ := hrel
    replace hj := Lib.hid hj


    by_cases hlt : k < n
    · have hlt' : (k : Int) < (n : Int) := by omega
      obtain ⟨g, o, rfl, hc⟩ := (Flat.below LL.out hbel).at (by omega)
      have c0 : wr.cell? ⟨g, o + k * 2, none⟩ = some (.int .i64 (L.getD (k * 2) 0)) := hc _ (by omega)
      have c1 : wr.cell? ⟨g, o + k * 2 + 1, none⟩ = some (.int .i64 (L.getD (k * 2 + 1) 0)) := by have := hc (k * 2 + 1) (by omega); simpa only [Nat.add_assoc] using this
      clear hc
      have CT := Lib.hid (fun W : World => tgGood_any p (L.getD (k * 2) 0) (L.getD (k * 2 + 1) 0) W)
      have HT : Hid (tagAt p L k = tagB p (L.getD (k * 2) 0) (L.getD (k * 2 + 1) 0)) := Lib.hid rfl
      generalize tagB p (L.getD (k * 2) 0) (L.getD (k * 2 + 1) 0) = tb at *
      generalize L.getD (k * 2) 0 = x0 at *
      generalize L.getD (k * 2 + 1) 0 = x1 at *
      go_upto_region 4 with fail
      clear c0 c1
      refine Exists.elim (Blk.new_ wr (b := wr.heap.size) rfl 52 #[.int .i64 x0, .int .i64 x1]) (fun w1' q => ?_)
      rw [q.1]; have B_x := q.2.1; have s_w1' := q.2.2.1; have u_w1' := q.2.2.2; clear q
      have S_w1' : wr.heap.size + 1 ≤ w1'.heap.size := Nat.le_of_eq s_w1'.symm
      have V_w1' := hbel.trans (u_w1'.mono (hbel).size)
      clear u_w1' s_w1' hbel
      have e_x := B_x.all2
      go_wp2_with fail
      clear e_x
      refine (CT.out _).mono ?_
      rintro e w2' ⟨rfl, u_w2'⟩
      replace B_x := B_x.below u_w2'
      have S_w2' := u_w2'.size
      have V_w2' : Below w.heap.size w w2' := V_w1'.trans (u_w2'.mono V_w1'.size)
      clear V_w1'
      clear u_w2'
      cases tb

      · obtain rfl : bt = false := by rw [LD.out]; exact LT.out k hlt HT.out
        go_wp2
        go_ret
        exact ⟨rfl, V_w2'⟩

      · have hj2 : Hid (∀ i, i < k + 1 → tagAt p L i = true) := Lib.hid (fun i hi => by
          by_cases e : i = k
          · subst e; exact HT.out
          · exact hj.out i (by omega))
        go_wp2
        go_roundw
        case rel => exact ⟨k + 1, by omega, by go_num, hj2.out, V_w2'⟩
        case measure => simp [intOf]; omega
    · have hkn : k = n := by omega
      obtain rfl : bt = true := by rw [LD.out]; exact LTy.out (fun i hi => hj.out i (by omega))
      have hge : ¬ ((k : Int) < (n : Int)) := by omega
      clear hj hkn

      go_wp2_with fail
      refine Exists.elim (Blk.new_ wr (b := wr.heap.size) rfl 3 #[.int .i64 delta]) (fun w3' q => ?_)
      rw [q.1]; have B_dl := q.2.1; have s_w3' := q.2.2.1; have u_w3' := q.2.2.2; clear q
      have S_w3' : wr.heap.size + 1 ≤ w3'.heap.size := Nat.le_of_eq s_w3'.symm
      have V_w3' := hbel.trans (u_w3'.mono (hbel).size)
      clear u_w3' s_w3' hbel
      refine (C2.out _ _ (Ints.of_blk1 B_dl)).mono ?_
      rintro e w4' ⟨rfl, q_w4'⟩
      have u_w4' := below_of_quiet q_w4'
      clear q_w4'
      replace B_dl := B_dl.below u_w4'
      have S_w4' := u_w4'.size
      have V_w4' : Below w.heap.size w w4' := V_w3'.trans (u_w4'.mono V_w3'.size)
      clear V_w3'
      clear u_w4'
      clear B_dl
      cases b2

      · go_wp2
        go_ret
        exact ⟨rfl, V_w4'⟩

      have tp2 := tp.out rfl
      go_wp2_with fail
      refine (C3.out _ (LK.out.below V_w4')).mono ?_
      rintro e w5' ⟨rfl, q_w5'⟩
      have u_w5' := below_of_quiet q_w5'
      clear q_w5'
      have S_w5' := u_w5'.size
      have V_w5' : Below w.heap.size w w5' := V_w4'.trans (u_w5'.mono V_w4'.size)
      clear V_w4'
      clear u_w5'
      clear tp2
      cases b5

      · go_wp2
        go_ret
        exact ⟨rfl, V_w5'⟩

      cases b3

      · go_wp2
        go_ret
        exact ⟨rfl, V_w5'⟩

      cases b4
      · have h4 : ¬ ((n : Int) ≤ 20) := of_decide_eq_false e4
        go_wp2
        go_ret
        exact ⟨rfl, V_w5'⟩
      · have h4 : (n : Int) ≤ 20 := of_decide_eq_true e4
        go_wp2
        go_ret
        exact ⟨rfl, V_w5'⟩
end Go.Proofs.Ytjgbhokilagmoaa
