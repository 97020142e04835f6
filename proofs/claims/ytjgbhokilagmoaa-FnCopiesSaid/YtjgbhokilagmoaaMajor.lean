/- The value that more than half have; opened counts; the laws over them. -/
import Derived.Test.YtjgbhokilagmoaaField
namespace Go.Proofs.Ytjgbhokilagmoaa
open Go.RowKit

def majAt (l : List Int) (x : Int) : Bool := decide (l.length < 2 * l.count x)
def majO (l : List Int) : Option Int := l.find? (majAt l)
def majOk (l : List Int) : Bool := decide (1 ≤ l.length ∧ l.length ≤ 40) && (majO l).isSome
def majV (l : List Int) : Int := if majOk l then (majO l).getD 0 else 0
theorem find_hit (l : List Int) (q : Int → Bool) : ∀ k, k < l.length → q (l.getD k 0) = true → (∀ j, j < k → q (l.getD j 0) = false) → l.find? q = some (l.getD k 0) := by
  induction l with
  | nil => intro k hk; simp at hk
  | cons x l ih =>
    intro k hk hq hj
    cases k with
    | zero => simp only [List.getD_cons_zero] at hq ⊢; simp [hq]
    | succ k =>
      have h0 := hj 0 (by omega)
      simp only [List.getD_cons_zero] at h0
      simp only [List.getD_cons_succ] at hq ⊢
      rw [List.find?_cons, h0]
      exact ih k (by simpa using hk) hq (fun j hjk => by simpa using hj (j + 1) (by omega))
theorem find_miss (l : List Int) (q : Int → Bool) (h : ∀ j, j < l.length → q (l.getD j 0) = false) : l.find? q = none := by
  rw [List.find?_eq_none]
  intro x hx
  obtain ⟨k, hk, rfl⟩ := mem_getD l x hx
  rw [h k hk]; simp
theorem count_succ (l : List Int) (x : Int) (i : Nat) (h : i < l.length) : (l.take (i + 1)).count x = (l.take i).count x + if l.getD i 0 = x then 1 else 0 := by
  rw [List.take_succ_eq_append_getElem h, List.count_append]
  simp [List.getD, h, List.count_cons]
theorem count_le (l : List Int) (x : Int) (i : Nat) : (l.take i).count x ≤ i := Nat.le_trans (List.count_le_length) (List.length_take_le _ _)
set_option maxHeartbeats 2000000 in
theorem spec_MajorityOf_any (a : Option Addr) (n c : Nat) (l : List Int) (w : World) (h : Ints w a n c l) :
    Calls Try.prog 52 #[.slice a n c] w fun e w' => e = .returned (.tuple #[.int .i64 (majV l), .bool (majOk l)]) ∧ ∃ m, w' = w.drewN m := by
  have hn := h.le
  have hlen := h.len
  by_cases hv : 1 ≤ n ∧ n ≤ 40
  · have HO := Lib.hid (show majOk l = (majO l).isSome by unfold majOk; rw [decide_eq_true (by omega)]; simp)
    have HL := Lib.hid hlen
    clear hlen
    obtain ⟨v1, v2⟩ := hv
    have i1 : (1 : Int) ≤ n := by omega
    have i2 : (n : Int) ≤ 40 := by omega
    go_enter Try.func52, Try.ntmps52
    go_wp2
    go_loop [15] (fun v => ∃ k : Nat, k ≤ n ∧ v = .int .i64 k ∧ (∀ j, j < k → majAt l (l.getD j 0) = false)) (fun v => n - (intOf v).toNat)
    case atStart => exact ⟨0, Nat.zero_le _, rfl, fun j hj => absurd hj (by omega)⟩
    case round =>
      obtain ⟨k, hk, rfl, hj⟩ := hrel
      have HJ := Lib.hid hj
      clear hj
      by_cases hlt : k < n
      · obtain ⟨g, o, rfl, hcell⟩ := h.at k hlt
        obtain ⟨x, hx⟩ : ∃ x, x = l.getD k 0 := ⟨_, rfl⟩
        rw [← hx] at hcell
        have HX := Lib.hid hx
        clear hx
        go_wp2
        go_loop [6, 21] (fun u v => ∃ i : Nat, i ≤ n ∧ v = .int .i64 i ∧ u = .int .i64 ((l.take i).count x : Nat)) (fun _ v => n - (intOf v).toNat)
        case atStart => exact ⟨0, Nat.zero_le _, rfl, rfl⟩
        case round =>
          obtain ⟨i, hi, rfl, rfl⟩ := hrel
          have hle := count_le l x i
          by_cases hilt : i < n
          · obtain ⟨g', o', hg, hcell'⟩ := h.at i hilt
            simp only [Option.some.injEq, Addr.mk.injEq, and_true] at hg
            obtain ⟨rfl, rfl⟩ := hg
            obtain ⟨y, hy⟩ : ∃ y, y = l.getD i 0 := ⟨_, rfl⟩
            rw [← hy] at hcell'
            have HY := Lib.hid hy
            clear hy
            have HS := Lib.hid (count_succ l x i (by rw [← HL.out]; exact hilt))
            by_cases hxy : y = x
            · have hb : ((y == x) : Bool) = true := by simp [hxy]
              have HXY := Lib.hid hxy
              clear hxy
              go_wp2
              go_round
              case rel => exact ⟨i + 1, by omega, by go_num, v_int (by rw [HS.out, ← HY.out, if_pos HXY.out]; omega)⟩
              case measure => simp [intOf]; omega
            · have hb : ((y == x) : Bool) = false := by simp [hxy]
              have HXY := Lib.hid hxy
              clear hxy
              go_wp2
              go_round
              case rel => exact ⟨i + 1, by omega, by go_num, v_int (by rw [HS.out, ← HY.out, if_neg HXY.out]; rfl)⟩
              case measure => simp [intOf]; omega
          · have hc : (l.take i).count x = l.count x := by rw [List.take_of_length_le (by rw [← HL.out]; omega)]
            obtain ⟨q, hq⟩ : ∃ q, q = (l.take i).count x := ⟨_, rfl⟩
            rw [← hq] at hc hle
            rw [← hq]
            have HQ := Lib.hid hc
            clear hc hq
            by_cases hmaj : n < 2 * q
            · have HF := Lib.hid (find_hit l (majAt l) k (by rw [← HL.out]; exact hlt) (by unfold majAt; rw [← HX.out, ← HQ.out, ← HL.out]; simpa using hmaj) HJ.out)
              go_wp2
              go_ret2
              have hf : majO l = some x := by rw [HX.out]; exact HF.out
              have ho : majOk l = true := by rw [HO.out, hf]; rfl
              exact ⟨ret_2 (v_int (by unfold majV; rw [ho, hf]; rfl)) (v_bool ho.symm), 0, rfl⟩
            · have HN := Lib.hid (show majAt l (l.getD k 0) = false by unfold majAt; rw [← HX.out, ← HQ.out, ← HL.out]; simpa using hmaj)
              go_wp2
              refine ⟨⟨_, _, _, _, _, _, ⟨k + 1, by omega, by go_num, fun j hj => ?_⟩, rfl, rfl, rfl, rfl, rfl, rfl⟩, by simp [intOf]; omega⟩
              by_cases e : j = k
              · subst e; exact HN.out
              · exact HJ.out j (by omega)
      · have HF := Lib.hid (find_miss l (majAt l) (fun j hj => HJ.out j (by have := HL.out; omega)))
        go_wp2
        go_ret2
        have hf : majO l = none := HF.out
        have ho : majOk l = false := by rw [HO.out, hf]; rfl
        exact ⟨ret_2 (v_int (by unfold majV; rw [ho]; rfl)) (v_bool ho.symm), 0, rfl⟩
  · have ho : majOk l = false := by unfold majOk; rw [decide_eq_false (by omega)]; rfl
    have HV := Lib.hid (show majV l = 0 by unfold majV; rw [ho]; rfl)
    have HO := Lib.hid ho
    clear ho hlen
    have hd : n = 0 ∨ 40 < n := by omega
    clear hv
    rcases hd with rfl | hd
    · go_enter Try.func52, Try.ntmps52
      go_wp2
      go_ret2
      exact ⟨ret_2 (v_int HV.out.symm) (v_bool HO.out.symm), 0, rfl⟩
    · have hb : decide ((n : Int) ≤ 40) = false := by simp; omega
      go_enter Try.func52, Try.ntmps52
      go_wp2
      go_ret2
      exact ⟨ret_2 (v_int HV.out.symm) (v_bool HO.out.symm), 0, rfl⟩
set_option maxHeartbeats 2000000 in
theorem MajorityOf_any (a : Option Addr) (n c : Nat) (l : List Int) (w : World) (h : Ints w a n c l) :
    Calls Try.prog 51 #[.slice a n c] w fun e w' => e = .returned (.tuple #[.int .i64 (majV l), .bool (majOk l)]) ∧ ∃ m, w' = w.drewN m := by
  have hn := h.le
  have hlen := h.len
  by_cases hv : 1 ≤ n ∧ n ≤ 40
  · have HO := Lib.hid (show majOk l = (majO l).isSome by unfold majOk; rw [decide_eq_true (by omega)]; simp)
    have HL := Lib.hid hlen
    clear hlen
    obtain ⟨v1, v2⟩ := hv
    have i1 : (1 : Int) ≤ n := by omega
    have i2 : (n : Int) ≤ 40 := by omega
    go_enter Try.func51, Try.ntmps51
    go_wp2
    go_loop [15] (fun v => ∃ k : Nat, k ≤ n ∧ v = .int .i64 k ∧ (∀ j, j < k → majAt l (l.getD j 0) = false)) (fun v => n - (intOf v).toNat)
    case atStart => exact ⟨0, Nat.zero_le _, rfl, fun j hj => absurd hj (by omega)⟩
    case round =>
      obtain ⟨k, hk, rfl, hj⟩ := hrel
      have HJ := Lib.hid hj
      clear hj
      by_cases hlt : k < n
      · obtain ⟨g, o, rfl, hcell⟩ := h.at k hlt
        obtain ⟨x, hx⟩ : ∃ x, x = l.getD k 0 := ⟨_, rfl⟩
        rw [← hx] at hcell
        have HX := Lib.hid hx
        clear hx
        go_wp2
        go_loop [6, 21] (fun u v => ∃ i : Nat, i ≤ n ∧ v = .int .i64 i ∧ u = .int .i64 ((l.take i).count x : Nat)) (fun _ v => n - (intOf v).toNat)
        case atStart => exact ⟨0, Nat.zero_le _, rfl, rfl⟩
        case round =>
          obtain ⟨i, hi, rfl, rfl⟩ := hrel
          have hle := count_le l x i
          by_cases hilt : i < n
          · obtain ⟨g', o', hg, hcell'⟩ := h.at i hilt
            simp only [Option.some.injEq, Addr.mk.injEq, and_true] at hg
            obtain ⟨rfl, rfl⟩ := hg
            obtain ⟨y, hy⟩ : ∃ y, y = l.getD i 0 := ⟨_, rfl⟩
            rw [← hy] at hcell'
            have HY := Lib.hid hy
            clear hy
            have HS := Lib.hid (count_succ l x i (by rw [← HL.out]; exact hilt))
            by_cases hxy : y = x
            · have hb : ((y == x) : Bool) = true := by simp [hxy]
              have HXY := Lib.hid hxy
              clear hxy
              go_wp2
              go_round
              case rel => exact ⟨i + 1, by omega, by go_num, v_int (by rw [HS.out, ← HY.out, if_pos HXY.out]; omega)⟩
              case measure => simp [intOf]; omega
            · have hb : ((y == x) : Bool) = false := by simp [hxy]
              have HXY := Lib.hid hxy
              clear hxy
              go_wp2
              go_round
              case rel => exact ⟨i + 1, by omega, by go_num, v_int (by rw [HS.out, ← HY.out, if_neg HXY.out]; rfl)⟩
              case measure => simp [intOf]; omega
          · have hc : (l.take i).count x = l.count x := by rw [List.take_of_length_le (by rw [← HL.out]; omega)]
            obtain ⟨q, hq⟩ : ∃ q, q = (l.take i).count x := ⟨_, rfl⟩
            rw [← hq] at hc hle
            rw [← hq]
            have HQ := Lib.hid hc
            clear hc hq
            by_cases hmaj : n < 2 * q
            · have HF := Lib.hid (find_hit l (majAt l) k (by rw [← HL.out]; exact hlt) (by unfold majAt; rw [← HX.out, ← HQ.out, ← HL.out]; simpa using hmaj) HJ.out)
              go_wp2
              go_ret2
              have hf : majO l = some x := by rw [HX.out]; exact HF.out
              have ho : majOk l = true := by rw [HO.out, hf]; rfl
              exact ⟨ret_2 (v_int (by unfold majV; rw [ho, hf]; rfl)) (v_bool ho.symm), 0, rfl⟩
            · have HN := Lib.hid (show majAt l (l.getD k 0) = false by unfold majAt; rw [← HX.out, ← HQ.out, ← HL.out]; simpa using hmaj)
              go_wp2
              refine ⟨⟨_, _, _, _, _, _, ⟨k + 1, by omega, by go_num, fun j hj => ?_⟩, rfl, rfl, rfl, rfl, rfl, rfl⟩, by simp [intOf]; omega⟩
              by_cases e : j = k
              · subst e; exact HN.out
              · exact HJ.out j (by omega)
      · have HF := Lib.hid (find_miss l (majAt l) (fun j hj => HJ.out j (by have := HL.out; omega)))
        go_wp2
        go_ret2
        have hf : majO l = none := HF.out
        have ho : majOk l = false := by rw [HO.out, hf]; rfl
        exact ⟨ret_2 (v_int (by unfold majV; rw [ho]; rfl)) (v_bool ho.symm), 0, rfl⟩
  · have ho : majOk l = false := by unfold majOk; rw [decide_eq_false (by omega)]; rfl
    have HV := Lib.hid (show majV l = 0 by unfold majV; rw [ho]; rfl)
    have HO := Lib.hid ho
    clear ho hlen
    have hd : n = 0 ∨ 40 < n := by omega
    clear hv
    rcases hd with rfl | hd
    · go_enter Try.func51, Try.ntmps51
      go_wp2
      go_ret2
      exact ⟨ret_2 (v_int HV.out.symm) (v_bool HO.out.symm), 0, rfl⟩
    · have hb : decide ((n : Int) ≤ 40) = false := by simp; omega
      go_enter Try.func51, Try.ntmps51
      go_wp2
      go_ret2
      exact ⟨ret_2 (v_int HV.out.symm) (v_bool HO.out.symm), 0, rfl⟩
end Go.Proofs.Ytjgbhokilagmoaa
