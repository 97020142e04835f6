/- The drawn order of copies: orderFrom and the reference's dgOrder give the same permutation. -/
import Derived.Test.YtnhphmhckbjnnaaDigest
namespace Go.Proofs.Ytnhphmhckbjnnaa
open Go.RowKit

/-- The numbers below n. -/
def upL (n : Nat) : List Int := (List.range n).map fun (i : Nat) => (i : Int)
theorem upL_succ (n : Nat) : upL (n + 1) = upL n ++ [(n : Int)] := by simp [upL, List.range_succ]
theorem upL_len (n : Nat) : (upL n).length = n := by simp [upL]
theorem upL_nodup (n : Nat) : (upL n).Nodup := by
  unfold upL
  rw [List.nodup_iff_pairwise_ne, List.pairwise_map]
  exact (List.nodup_iff_pairwise_ne.1 List.nodup_range).imp fun h e => h (by omega)
/-- Two cells exchanged. -/
def swL (l : List Int) (i k : Nat) : List Int := (l.set i (l.getD k 0)).set k (l.getD i 0)
theorem swL_perm (l : List Int) (i k : Nat) (hi : i < l.length) (hk : k < l.length) : (swL l i k).Perm l := by
  have e1 : l.getD i 0 = l[i] := by simp [List.getD, hi]
  have e2 : l.getD k 0 = l[k] := by simp [List.getD, hk]
  unfold swL
  rw [e1, e2]
  exact List.set_set_perm hi hk
theorem swL_len (l : List Int) (i k : Nat) : (swL l i k).length = l.length := by simp [swL]
/-- The cell that cell i is exchanged with. -/
def orK (l : List Int) (i : Nat) : Nat := (numI (l ++ [(i : Int)]) ((i : Int) + 1)).toNat
theorem orK_le (l : List Int) (i : Nat) : orK l i ≤ i ∧ numI (l ++ [(i : Int)]) ((i : Int) + 1) = ((orK l i : Nat) : Int) := by
  have h := numI_range (l ++ [(i : Int)]) ((i : Int) + 1) (by omega)
  unfold orK
  omega
/-- Behind the first t exchanges. -/
def orR (l : List Int) (n : Nat) : Nat → List Int
  | 0 => upL n
  | t + 1 => swL (orR l n t) (n - 1 - t) (orK l (n - 1 - t))
theorem orR_len (l : List Int) (n t : Nat) : (orR l n t).length = n := by
  induction t with
  | zero => exact upL_len n
  | succ t ih => rw [orR, swL_len, ih]
theorem orR_perm (l : List Int) (n t : Nat) (h : t ≤ n - 1) : (orR l n t).Perm (upL n) := by
  induction t with
  | zero => exact List.Perm.refl _
  | succ t ih =>
    have hk := (orK_le l (n - 1 - t)).1
    exact (swL_perm _ _ _ (by rw [orR_len]; omega) (by rw [orR_len]; omega)).trans (ih (by omega))
theorem orR_step (l : List Int) (n j : Nat) (h1 : 1 ≤ j) (h2 : j ≤ n - 1) : orR l n (n - 1 - (j - 1)) = swL (orR l n (n - 1 - j)) j (orK l j) := by
  rw [show n - 1 - (j - 1) = (n - 1 - j) + 1 by omega, orR, show n - 1 - (n - 1 - j) = j by omega]
/-- The drawn order. -/
def ordL (l : List Int) (n : Nat) : List Int := orR l n (n - 1)
theorem ordL_len (l : List Int) (n : Nat) : (ordL l n).length = n := orR_len _ _ _
theorem ordL_perm (l : List Int) (n : Nat) : (ordL l n).Perm (upL n) := orR_perm _ _ _ (Nat.le_refl _)
theorem ordL_nodup (l : List Int) (n : Nat) : (ordL l n).Nodup := (ordL_perm l n).nodup_iff.2 (upL_nodup n)
theorem ordL_mem (l : List Int) (n : Nat) {x : Int} (h : x ∈ ordL l n) : 0 ≤ x ∧ x < n := by
  have := (ordL_perm l n).mem_iff.1 h
  simp [upL] at this
  obtain ⟨i, hi, rfl⟩ := this
  omega
theorem orR_range (l : List Int) (n t k : Nat) (h : t ≤ n - 1) (hk : k < n) : 0 ≤ (orR l n t).getD k 0 ∧ (orR l n t).getD k 0 < n := by
  have := (orR_perm l n t h).mem_iff.1 (getD_mem _ k (by rw [orR_len]; exact hk))
  simp [upL] at this
  obtain ⟨i, hi, e⟩ := this
  simp only [List.getD_eq_getElem?_getD]
  omega
set_option maxHeartbeats 4000000 in
theorem orderFrom_any (a : Option Addr) (m c : Nat) (l : List Int) (N : Nat) (w : World) (h : Ints w a m c l) (hs : m ≤ 800000) (hw : WB l) (hN : 1 ≤ N) (hN2 : N ≤ 1000000) :
    Calls Try.prog 52 #[.slice a m c, .int .i64 N] w fun e w' => ∃ a' c', e = .returned (.slice a' N c') ∧ Own w' w.heap.size a' N c' (ordL l N) ∧ Below w.heap.size w w' := by
  have HW := Lib.hid hw
  clear hw
  go_enter Try.func52, Try.ntmps52
  go_wp2
  have own0 : Own (w.alloc (.cells #[] 3)) w.heap.size (some ⟨w.heap.size, 0, none⟩) 0 0 (upL 0) := Own.nil0 _ _ _
  have bel0 : Below w.heap.size w (w.alloc (.cells #[] 3)) := (Below.refl _ _).alloc (Nat.le_refl _) _
  go_loopw [5, 11] (fun u v wr => ∃ k : Nat, k ≤ N ∧ v = .int .i64 k ∧ Below w.heap.size w wr ∧ ∃ a1 c1, u = .slice a1 k c1 ∧ Own wr w.heap.size a1 k c1 (upL k)) (fun _ v _ => N - (intOf v).toNat)
  case atStart => exact ⟨0, by omega, rfl, bel0, _, _, rfl, own0⟩
  case round =>
    obtain ⟨k, hk, rfl, hbel, a1, c1, rfl, own⟩ := hrel
    by_cases hlt : k < N
    · have HS := Lib.hid (upL_succ k)
      go_wp2_with (at_builtin; refine wpList_appI _ rfl _ _ rfl w.heap.size a1 k c1 (upL k) rfl (own.alloc _) _ 1 1 [(k : Int)] rfl (Ints.lit1 _ _ _) (by omega) (by have := hbel.size; simp; omega) ?_)
      intro a5 c5 w3 o5 u5 _
      have b3 := (hbel.alloc hbel.size (.cells #[.int .i64 (k : Int)] 3)).trans u5
      clear u5 hbel own
      go_wp2
      go_roundw
      case rel => exact ⟨k + 1, by omega, by go_num, b3, a5, c5, rfl, by rw [HS.out]; exact o5⟩
      case measure => simp [intOf]; omega
    · obtain rfl : k = N := by omega
      clear own0 bel0
      go_wp2
      go_loopw [7] (fun v wq => ∃ j : Nat, j ≤ k - 1 ∧ v = .int .i64 j ∧ Below w.heap.size w wq ∧ Own wq w.heap.size a1 k c1 (orR l k (k - 1 - j))) (fun v _ => (intOf v).toNat)
      case atStart => exact ⟨k - 1, Nat.le_refl _, by go_num, hbel, by rw [Nat.sub_self]; exact own⟩
      case round =>
        clear own hbel
        obtain ⟨j, hj, rfl, hbel, own⟩ := hrel
        by_cases h1 : 1 ≤ j
        · obtain ⟨q1, q2⟩ := orK_le l j
          have HS := Lib.hid (orR_step l k j h1 hj)
          generalize orR l k (k - 1 - j) = R at *
          generalize orK l j = q at *
          have hi := h.below hbel
          go_wp2_with fail
          refine (with_any _ _ _ l _ _ _ [(j : Int)] _ (hi.alloc _) (Ints.lit1 _ _ _) (by omega) (by omega)).mono ?_; rintro e w1 ⟨a3, c3, rfl, o3, u3⟩
          have v3 := below_a1 u3
          clear u3
          have own1 := own.below v3
          have b1 := hbel.trans (v3.mono hbel.size)
          clear own v3 hi hbel
          go_wp2_with fail
          refine (numberFrom_any _ _ _ (l ++ [(j : Int)]) _ _ o3.ints (by omega) (WB.app HW.out (WB.one (by omega))) (by omega) (by omega)).mono ?_; rintro e w2 ⟨rfl, u5⟩
          have own2 := own1.below u5
          have b2 := b1.trans (u5.mono b1.size)
          clear own1 u5 b1 o3
          rw [q2]
          clear q2
          have hlq := own2.len
          obtain ⟨g, rfl, hg0, hg1, hc1, hf1, hst1⟩ := own2.at j (by omega)
          obtain ⟨g', hg', _, _, hc2, hf2, hst2⟩ := own2.at q (by omega)
          cases hg'
          have HR : Hid (Own ((w2.setCell ⟨g, j, none⟩ (.int .i64 (R.getD q 0))).setCell ⟨g, q, none⟩ (.int .i64 (R.getD j 0))) w.heap.size (some ⟨g, 0, none⟩) k c1 (swL R j q)) := by
            obtain ⟨g', hg', _, _, _, _, hst⟩ := (hst1 (R.getD q 0)).at q (by omega)
            cases hg'
            exact Lib.hid (hst _)
          have HB : Hid (Below w.heap.size w ((w2.setCell ⟨g, j, none⟩ (.int .i64 (R.getD q 0))).setCell ⟨g, q, none⟩ (.int .i64 (R.getD j 0)))) := Lib.hid ((b2.setCell hg0 _).setCell hg0 _)
          obtain ⟨hc3, hf3⟩ : (w2.setCell ⟨g, j, none⟩ (.int .i64 (R.getD q 0))).cell? ⟨g, q, none⟩ = some (.int .i64 (R.getD q 0)) ∧ (w2.setCell ⟨g, j, none⟩ (.int .i64 (R.getD q 0))).frozen? ⟨g, q, none⟩ = false := by
            obtain ⟨g', hg', _, _, hc, hf, _⟩ := (hst1 (R.getD q 0)).at q (by omega)
            cases hg'
            rw [getD_set] at hc
            refine ⟨?_, hf⟩
            rw [hc]
            split
            · rfl
            · rfl
          clear hst1 hst2
          clear hlq
          generalize R.getD q 0 = xq at *
          generalize R.getD j 0 = xj at *
          go_wp2
          go_region
          all_goals
            go_wp2
            go_roundw
            case rel => exact ⟨j - 1, by omega, by go_num, HB.out.drew, by rw [HS.out]; exact HR.out.drew⟩
            case measure => simp [intOf]; omega
        · obtain rfl : j = 0 := by omega
          go_wp2
          go_ret
          exact ⟨_, _, rfl, own, hbel⟩
set_option maxHeartbeats 4000000 in
theorem dgOrder_any (a : Option Addr) (m c : Nat) (l : List Int) (N : Nat) (w : World) (h : Ints w a m c l) (hs : m ≤ 800000) (hw : WB l) (hN : 1 ≤ N) (hN2 : N ≤ 1000000) :
    Calls Try.prog 55 #[.slice a m c, .int .i64 N] w fun e w' => ∃ a' c', e = .returned (.slice a' N c') ∧ Own w' w.heap.size a' N c' (ordL l N) ∧ Below w.heap.size w w' := by
  have HW := Lib.hid hw
  clear hw
  go_enter Try.func55, Try.ntmps55
  go_wp2
  have own0 : Own w w.heap.size none 0 0 (upL 0) := Own.nil0 _ _ _
  have bel0 := Below.refl w.heap.size w
  go_loopw [5, 6] (fun u v wr => ∃ k : Nat, k ≤ N ∧ v = .int .i64 k ∧ Below w.heap.size w wr ∧ ∃ a1 c1, u = .slice a1 k c1 ∧ Own wr w.heap.size a1 k c1 (upL k)) (fun _ v _ => N - (intOf v).toNat)
  case atStart => exact ⟨0, by omega, rfl, bel0, _, _, rfl, own0⟩
  case round =>
    obtain ⟨k, hk, rfl, hbel, a1, c1, rfl, own⟩ := hrel
    by_cases hlt : k < N
    · have HS := Lib.hid (upL_succ k)
      go_wp2_with (at_builtin; refine wpList_appI _ rfl _ _ rfl w.heap.size a1 k c1 (upL k) rfl (own.alloc _) _ 1 1 [(k : Int)] rfl (Ints.lit1 _ _ _) (by omega) (by have := hbel.size; simp; omega) ?_)
      intro a5 c5 w3 o5 u5 _
      have b3 := (hbel.alloc hbel.size (.cells #[.int .i64 (k : Int)] 3)).trans u5
      clear u5 hbel own
      go_wp2
      go_roundw
      case rel => exact ⟨k + 1, by omega, by go_num, b3, a5, c5, rfl, by rw [HS.out]; exact o5⟩
      case measure => simp [intOf]; omega
    · obtain rfl : k = N := by omega
      clear own0 bel0
      go_wp2
      go_loopw [7] (fun v wq => ∃ j : Nat, j ≤ k - 1 ∧ v = .int .i64 j ∧ Below w.heap.size w wq ∧ Own wq w.heap.size a1 k c1 (orR l k (k - 1 - j))) (fun v _ => (intOf v).toNat)
      case atStart => exact ⟨k - 1, Nat.le_refl _, by go_num, hbel, by rw [Nat.sub_self]; exact own⟩
      case round =>
        clear own hbel
        obtain ⟨j, hj, rfl, hbel, own⟩ := hrel
        by_cases h1 : 1 ≤ j
        · obtain ⟨q1, q2⟩ := orK_le l j
          have HS := Lib.hid (orR_step l k j h1 hj)
          generalize orR l k (k - 1 - j) = R at *
          generalize orK l j = q at *
          have hi := h.below hbel
          go_wp2_with fail
          refine (dgWith_any _ _ _ l _ _ hi (by omega)).mono ?_; rintro e w1 ⟨a3, c3, rfl, o3, v3⟩
          have own1 := own.below v3
          have b1 := hbel.trans (v3.mono hbel.size)
          clear own v3 hi hbel
          go_wp2_with fail
          refine (dgBelow_any _ _ _ (l ++ [(j : Int)]) _ _ o3.ints (by omega) (WB.app HW.out (WB.one (by omega))) (by omega) (by omega)).mono ?_; rintro e w2 ⟨rfl, u5⟩
          have own2 := own1.below u5
          have b2 := b1.trans (u5.mono b1.size)
          clear own1 u5 b1 o3
          rw [q2]
          clear q2
          have hlq := own2.len
          obtain ⟨g, rfl, hg0, hg1, hc1, hf1, hst1⟩ := own2.at j (by omega)
          obtain ⟨g', hg', _, _, hc2, hf2, hst2⟩ := own2.at q (by omega)
          cases hg'
          have HR : Hid (Own ((w2.setCell ⟨g, j, none⟩ (.int .i64 (R.getD q 0))).setCell ⟨g, q, none⟩ (.int .i64 (R.getD j 0))) w.heap.size (some ⟨g, 0, none⟩) k c1 (swL R j q)) := by
            obtain ⟨g', hg', _, _, _, _, hst⟩ := (hst1 (R.getD q 0)).at q (by omega)
            cases hg'
            exact Lib.hid (hst _)
          have HB : Hid (Below w.heap.size w ((w2.setCell ⟨g, j, none⟩ (.int .i64 (R.getD q 0))).setCell ⟨g, q, none⟩ (.int .i64 (R.getD j 0)))) := Lib.hid ((b2.setCell hg0 _).setCell hg0 _)
          obtain ⟨hc3, hf3⟩ : (w2.setCell ⟨g, j, none⟩ (.int .i64 (R.getD q 0))).cell? ⟨g, q, none⟩ = some (.int .i64 (R.getD q 0)) ∧ (w2.setCell ⟨g, j, none⟩ (.int .i64 (R.getD q 0))).frozen? ⟨g, q, none⟩ = false := by
            obtain ⟨g', hg', _, _, hc, hf, _⟩ := (hst1 (R.getD q 0)).at q (by omega)
            cases hg'
            rw [getD_set] at hc
            refine ⟨?_, hf⟩
            rw [hc]
            split
            · rfl
            · rfl
          clear hst1 hst2
          clear hlq
          generalize R.getD q 0 = xq at *
          generalize R.getD j 0 = xj at *
          go_wp2
          go_roundw
          case rel => exact ⟨j - 1, by omega, by go_num, HB.out, by rw [HS.out]; exact HR.out⟩
          case measure => simp [intOf]; omega
        · obtain rfl : j = 0 := by omega
          go_wp2
          go_ret
          exact ⟨_, _, rfl, own, hbel⟩
end Go.Proofs.Ytnhphmhckbjnnaa
