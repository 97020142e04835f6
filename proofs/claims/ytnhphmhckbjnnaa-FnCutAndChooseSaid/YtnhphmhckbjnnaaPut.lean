/- Sorted sets: l1Put, and the plain law that putting one after the other is sorting. -/
import Derived.Test.YtnhphmhckbjnnaaOrd
namespace Go.Proofs.Ytnhphmhckbjnnaa
open Go.RowKit

/-- A number put into an increasing list, unless it is there. -/
def putL (x : Int) : List Int → List Int
  | [] => [x]
  | y :: t => if y < x then y :: putL x t else if y = x then y :: t else x :: y :: t
theorem putL_len (x : Int) (l : List Int) : (putL x l).length ≤ l.length + 1 := by
  induction l with
  | nil => simp [putL]
  | cons y t ih =>
    unfold putL
    split
    · simp; omega
    · split
      · simp
      · simp
theorem putL_skip (x : Int) : ∀ (l : List Int) (k : Nat), k ≤ l.length → (∀ i, i < k → l.getD i 0 < x) → putL x l = l.take k ++ putL x (l.drop k) := by
  intro l
  induction l with
  | nil => intro k _ _; simp
  | cons y t ih =>
    intro k hk h
    cases k with
    | zero => simp
    | succ k =>
      have h0 := h 0 (by omega)
      simp at h0
      rw [putL, if_pos h0, ih k (by simpa using hk) (fun i hi => by simpa using h (i + 1) (by omega))]
      simp
theorem putL_perm (x : Int) (l : List Int) (h : x ∉ l) : (putL x l).Perm (x :: l) := by
  induction l with
  | nil => exact List.Perm.refl _
  | cons y t ih =>
    unfold putL
    split
    · exact ((ih (fun hm => h (List.mem_cons_of_mem _ hm))).cons y).trans (List.Perm.swap _ _ _)
    · split
      · rename_i e; exact absurd (e ▸ List.mem_cons_self) h
      · exact List.Perm.refl _
theorem putL_mem (x z : Int) (l : List Int) (h : z ∈ putL x l) : z = x ∨ z ∈ l := by
  induction l with
  | nil => simp [putL] at h; exact Or.inl h
  | cons y t ih =>
    unfold putL at h
    split at h
    · rcases List.mem_cons.1 h with h | h
      · exact Or.inr (h ▸ List.mem_cons_self)
      · rcases ih h with h | h
        · exact Or.inl h
        · exact Or.inr (List.mem_cons_of_mem _ h)
    · split at h
      · exact Or.inr h
      · rcases List.mem_cons.1 h with h | h
        · exact Or.inl h
        · exact Or.inr h
theorem putL_sorted (x : Int) (l : List Int) (h : l.Pairwise (· < ·)) : (putL x l).Pairwise (· < ·) := by
  induction l with
  | nil => simp [putL]
  | cons y t ih =>
    obtain ⟨h1, h2⟩ := List.pairwise_cons.1 h
    unfold putL
    split
    · rename_i hy
      refine List.pairwise_cons.2 ⟨fun z hz => ?_, ih h2⟩
      rcases putL_mem x z t hz with hz | hz
      · omega
      · exact h1 z hz
    · split
      · exact h
      · rename_i hy he
        refine List.pairwise_cons.2 ⟨fun z hz => ?_, h⟩
        rcases List.mem_cons.1 hz with hz | hz
        · omega
        · have := h1 z hz; omega
/-- The first k of a list, put one after the other. -/
def putK (l : List Int) : Nat → List Int
  | 0 => []
  | k + 1 => putL (l.getD k 0) (putK l k)
theorem putK_len (l : List Int) (k : Nat) : (putK l k).length ≤ k := by
  induction k with
  | zero => simp [putK]
  | succ k ih => have := putL_len (l.getD k 0) (putK l k); rw [putK]; omega
theorem putK_ok (l : List Int) (hn : l.Nodup) (k : Nat) (hk : k ≤ l.length) : (putK l k).Perm (l.take k) ∧ (putK l k).Pairwise (· < ·) := by
  induction k with
  | zero => simp [putK]
  | succ k ih =>
    obtain ⟨h1, h2⟩ := ih (by omega)
    have hg : l.getD k 0 = l[k] := by simp [List.getD, show k < l.length by omega]
    refine ⟨?_, by rw [putK]; exact putL_sorted _ _ h2⟩
    have hno : l.getD k 0 ∉ putK l k := fun hm => by
      have h3 := h1.mem_iff.1 hm
      rw [hg] at h3
      obtain ⟨i, hi, e⟩ := List.getElem_of_mem h3
      rw [List.getElem_take] at e
      have hi' : i < k := by simp at hi; omega
      have := (List.nodup_iff_pairwise_ne.1 hn)
      exact (List.pairwise_iff_getElem.1 this i k (by omega) (by omega) hi') e
    rw [putK, List.take_succ_eq_append_getElem (by omega)]
    refine (putL_perm _ _ hno).trans ?_
    rw [hg]
    exact (h1.cons _).trans (List.perm_append_singleton _ _).symm
theorem putK_sort (l : List Int) (hn : l.Nodup) (k : Nat) (hk : k ≤ l.length) : (l.take k).mergeSort (fun x y => decide (x ≤ y)) = putK l k := by
  obtain ⟨h1, h2⟩ := putK_ok l hn k hk
  refine List.Perm.eq_of_pairwise (le := fun x y : Int => x ≤ y) (fun a b _ _ h h' => by omega) ?_ (h2.imp fun h => by omega) ((List.mergeSort_perm _ _).trans h1.symm)
  exact (List.pairwise_mergeSort (le := fun x y : Int => decide (x ≤ y)) (fun a b c h h' => by simp at h h' ⊢; omega) (fun a b => by simp; omega) (l.take k)).imp fun h => by simpa using h
theorem putK_full (l : List Int) (hn : l.Nodup) (k : Nat) (hk : k ≤ l.length) : (putK l k).length = k := by
  rw [(putK_ok l hn k hk).1.length_eq]; simp; omega
theorem Ints.cutp {w : World} {a : Option Addr} {n c : Nat} {l : List Int} (h : Ints w a n c l) (lo hi mx : Nat) (h1 : lo ≤ hi) (h2 : hi ≤ n) (h3 : hi ≤ mx) (h4 : mx ≤ c) :
    Ints w (if mx = lo then a else a.map (·.add lo)) (hi - lo) (mx - lo) ((l.drop lo).take (hi - lo)) := by
  obtain ⟨e1, e2, e3, e4, g, o, e5, e6⟩ := h
  refine ⟨by rw [List.length_take, List.length_drop]; omega, by omega, by omega, fun e => ?_, g, o + lo, fun h0 => ?_, fun i hi' => ?_⟩
  · split at e
    · omega
    · cases a with
      | none => have := e4 rfl; omega
      | some x => simp at e
  · rw [if_neg (by omega), e5 (by omega)]
    simp [Addr.add]
  · have := e6 (lo + i) (by omega)
    rw [← Nat.add_assoc] at this
    rw [this]
    simp [List.getD, hi']
theorem Ints.fromp {w : World} {a : Option Addr} {n c : Nat} {l : List Int} (h : Ints w a n c l) (lo : Nat) (h1 : lo ≤ n) :
    Ints w (if c = lo then a else a.map (·.add lo)) (n - lo) (c - lo) (l.drop lo) := by
  have := h.cutp lo n c h1 (Nat.le_refl _) h.2.1 (Nat.le_refl _)
  rw [List.take_of_length_le (by rw [List.length_drop, ← h.len]; exact Nat.le_refl _)] at this
  exact this
theorem Ints.uptop {w : World} {a : Option Addr} {n c : Nat} {l : List Int} (h : Ints w a n c l) (hi : Nat) (h1 : hi ≤ n) : Ints w a hi c (l.take hi) := by
  obtain ⟨e1, e2, e3, e4, g, o, e5, e6⟩ := h
  refine ⟨by rw [List.length_take]; omega, by omega, e3, e4, g, o, fun h0 => e5 (by omega), fun i hi' => ?_⟩
  rw [e6 i (by omega)]
  simp [List.getD, hi']
theorem Ints.nilp (w : World) (a : Option Addr) (c : Nat) (hc : c ≤ maxLen) (ha : a = none → c = 0) : Ints w a 0 c [] := ⟨rfl, Nat.zero_le _, hc, ha, 0, 0, fun h => absurd h (by omega), fun i hi => absurd hi (by omega)⟩
set_option maxHeartbeats 4000000 in
theorem l1Put_any (b : Nat) (a : Option Addr) (n c : Nat) (l : List Int) (x : Int) (w : World) (h : Own w b a n c l) (hb : b ≤ w.heap.size) (hs : n ≤ 1000000) :
    Calls Try.prog 56 #[.slice a n c, .int .i64 x] w fun e w' => ∃ a' n' c', e = .returned (.slice a' n' c') ∧ Own w' b a' n' c' (putL x l) ∧ Below w.heap.size w w' := by
  have hi := h.ints
  have hcap := h.cap
  go_enter Try.func56, Try.ntmps56
  go_wp2
  go_loop [5] (fun u => ∃ k : Nat, k ≤ n ∧ u = .int .i64 k ∧ ∀ i, i < k → l.getD i 0 < x) (fun u => n - (intOf u).toNat)
  case atStart => exact ⟨0, by omega, rfl, fun i hi => absurd hi (by omega)⟩
  case round =>
    obtain ⟨k, hk, rfl, hl⟩ := hrel
    have HL := Lib.hid hl
    clear hl
    have hkl : k ≤ l.length := by rw [← h.len]; exact hk
    have HP := Lib.hid (putL_skip x l k hkl HL.out)
    clear hkl
    by_cases hlt : k < n
    · obtain ⟨g, rfl, hg0, hg1, hc1, hf1, _⟩ := h.at k hlt
      have HD : Hid (l.drop k = l.getD k 0 :: l.drop (k + 1)) := by
        have hkl : k < l.length := by rw [← h.len]; exact hlt
        refine Lib.hid ?_
        rw [List.drop_eq_getElem_cons hkl]
        simp [List.getD, hkl]
      by_cases hx : l.getD k 0 < x
      · have HX := Lib.hid hx
        obtain ⟨xk, hxk⟩ : ∃ y, y = l.getD k 0 := ⟨_, rfl⟩
        rw [← hxk] at hx hc1
        have HK := Lib.hid hxk
        clear hxk HP HD
        go_wp2
        go_round
        case rel => exact ⟨k + 1, by omega, by go_num, fun i hi => by
          by_cases e : i = k
          · subst e; exact HX.out
          · exact HL.out i (by omega)⟩
        case measure => simp [intOf]; omega
      · by_cases he : l.getD k 0 = x
        · have HE : Hid (putL x l = l) := Lib.hid (by
            rw [HP.out, HD.out, putL, if_neg hx, if_pos he, ← HD.out]; exact List.take_append_drop k l)
          rw [he] at hc1 hx
          clear HP HD HL hx he
          have d1 : decide (x < x) = false := by simp
          have d2 : ((x == x) : Bool) = true := by simp
          go_wp2
          go_ret
          exact ⟨_, _, _, rfl, by rw [HE.out]; exact h, Below.refl _ _⟩
        · have HE : Hid (putL x l = l.take k ++ [x] ++ l.drop k) := Lib.hid (by
            rw [HP.out, HD.out, putL, if_neg hx, if_neg he, List.append_assoc]; rfl)
          generalize l.getD k 0 = xk at *
          have d1 : decide (xk < x) = false := by simpa using hx
          have d2 : ((xk == x) : Bool) = false := by simpa using he
          clear HP HD HL
          have iT := hi.uptop k (by omega)
          have iD : Ints w (some ⟨g, k, none⟩) (n - k) (c - k) (l.drop k) := by
            have := hi.fromp k (by omega)
            rw [if_neg (by omega)] at this
            exact (show (some (Addr.add ⟨g, 0, none⟩ k)) = some ⟨g, k, none⟩ by by_cases e : k = 0 <;> simp [Addr.add, e]) ▸ this
          go_wp2_with (at_builtin; refine wpList_appI _ rfl _ _ rfl w.heap.size (some ⟨w.heap.size, 0, none⟩) 0 0 [] rfl (Own.nil0 _ _ _) _ k c (l.take k) rfl (iT.alloc _) (by omega) (by simp) ?_)
          intro a2 c2 w2 o2 u2 _
          have b2 := ((Below.refl _ _).alloc (Nat.le_refl w.heap.size) (.cells #[] 3)).trans u2
          clear u2
          go_wp2_with (at_builtin; refine wpList_appI _ rfl _ _ rfl w.heap.size a2 k c2 (l.take k) rfl (o2.alloc _) _ 1 1 [x] rfl (Ints.lit1 _ _ _) (by omega) (by have := b2.size; simp; omega) ?_)
          intro a3 c3 w3 o3 u3 _
          have b3 := (b2.alloc b2.size (.cells #[.int .i64 x] 3)).trans u3
          clear u3 b2 o2
          have iD' := iD.below b3
          go_wp2_with (at_builtin; refine wpList_appI _ rfl _ _ rfl w.heap.size a3 (k + 1) c3 (l.take k ++ [x]) rfl o3 _ (n - k) (c - k) (l.drop k) rfl iD' (by omega) b3.size ?_)
          intro a4 c4 w4 o4 u4 _
          have b4 := b3.trans u4
          clear u4 b3 o3
          go_wp2
          go_ret
          exact ⟨_, _, _, rfl, by rw [HE.out, List.append_assoc]; exact o4.lower hb, b4⟩
    · obtain rfl : k = n := by omega
      have HE : Hid (putL x l = l ++ [x]) := Lib.hid (by
        have e := h.len
        rw [HP.out, e, List.take_length, List.drop_length]; rfl)
      clear HP HL
      have iT : Ints w a k c l := hi
      rcases a with _ | ⟨g, o, sp⟩
      · obtain rfl : c = 0 := h.2.2.2.1 rfl
        obtain rfl : k = 0 := by omega
        go_wp2_with (at_builtin; refine wpList_appI _ rfl _ _ rfl w.heap.size (some ⟨w.heap.size, 0, none⟩) 0 0 [] rfl (Own.nil0 _ _ _) _ 0 0 l rfl (iT.alloc _) (by omega) (by simp) ?_)
        intro a2 c2 w2 o2 u2 _
        have b2 := ((Below.refl _ _).alloc (Nat.le_refl w.heap.size) (.cells #[] 3)).trans u2
        clear u2
        go_wp2_with (at_builtin; refine wpList_appI _ rfl _ _ rfl w.heap.size a2 0 c2 l rfl (o2.alloc _) _ 1 1 [x] rfl (Ints.lit1 _ _ _) (by omega) (by have := b2.size; simp; omega) ?_)
        intro a3 c3 w3 o3 u3 _
        have b3 := (b2.alloc b2.size (.cells #[.int .i64 x] 3)).trans u3
        clear u3 b2 o2
        go_wp2_with (at_builtin; refine wpList_appI _ rfl _ _ rfl w.heap.size a3 (0 + 1) c3 (l ++ [x]) rfl o3 _ 0 _ [] rfl (Ints.nilp _ _ _ (by have := hcap.2; omega) (by simp)) (by omega) b3.size ?_)
        intro a4 c4 w4 o4 u4 _
        have b4 := b3.trans u4
        clear u4 b3 o3
        go_wp2
        go_ret
        exact ⟨_, _, _, rfl, by rw [HE.out]; simpa using o4.lower hb, b4⟩
      · by_cases hc : c = k
        · subst hc
          go_wp2_with (at_builtin; refine wpList_appI _ rfl _ _ rfl w.heap.size (some ⟨w.heap.size, 0, none⟩) 0 0 [] rfl (Own.nil0 _ _ _) _ c c l rfl (iT.alloc _) (by omega) (by simp) ?_)
          intro a2 c2 w2 o2 u2 _
          have b2 := ((Below.refl _ _).alloc (Nat.le_refl w.heap.size) (.cells #[] 3)).trans u2
          clear u2
          go_wp2_with (at_builtin; refine wpList_appI _ rfl _ _ rfl w.heap.size a2 c c2 l rfl (o2.alloc _) _ 1 1 [x] rfl (Ints.lit1 _ _ _) (by omega) (by have := b2.size; simp; omega) ?_)
          intro a3 c3 w3 o3 u3 _
          have b3 := (b2.alloc b2.size (.cells #[.int .i64 x] 3)).trans u3
          clear u3 b2 o2
          go_wp2_with (at_builtin; refine wpList_appI _ rfl _ _ rfl w.heap.size a3 (c + 1) c3 (l ++ [x]) rfl o3 _ 0 _ [] rfl (Ints.nilp _ _ _ (by have := hcap.2; omega) (by simp)) (by omega) b3.size ?_)
          intro a4 c4 w4 o4 u4 _
          have b4 := b3.trans u4
          clear u4 b3 o3
          go_wp2
          go_ret
          exact ⟨_, _, _, rfl, by rw [HE.out]; simpa using o4.lower hb, b4⟩
        · obtain ⟨rfl, rfl⟩ : o = 0 ∧ sp = none := by
            obtain ⟨g', cur, e1, _⟩ := h.2.2.2.2 (by omega)
            cases e1
            exact ⟨rfl, rfl⟩
          go_wp2_with (at_builtin; refine wpList_appI _ rfl _ _ rfl w.heap.size (some ⟨w.heap.size, 0, none⟩) 0 0 [] rfl (Own.nil0 _ _ _) _ k c l rfl (iT.alloc _) (by omega) (by simp) ?_)
          intro a2 c2 w2 o2 u2 _
          have b2 := ((Below.refl _ _).alloc (Nat.le_refl w.heap.size) (.cells #[] 3)).trans u2
          clear u2
          go_wp2_with (at_builtin; refine wpList_appI _ rfl _ _ rfl w.heap.size a2 k c2 l rfl (o2.alloc _) _ 1 1 [x] rfl (Ints.lit1 _ _ _) (by omega) (by have := b2.size; simp; omega) ?_)
          intro a3 c3 w3 o3 u3 _
          have b3 := (b2.alloc b2.size (.cells #[.int .i64 x] 3)).trans u3
          clear u3 b2 o2
          go_wp2_with (at_builtin; refine wpList_appI _ rfl _ _ rfl w.heap.size a3 (k + 1) c3 (l ++ [x]) rfl o3 _ 0 _ [] rfl (Ints.nilp _ _ _ (by have := hcap.2; omega) (by simp)) (by omega) b3.size ?_)
          intro a4 c4 w4 o4 u4 _
          have b4 := b3.trans u4
          clear u4 b3 o3
          go_wp2
          go_ret
          exact ⟨_, _, _, rfl, by rw [HE.out]; simpa using o4.lower hb, b4⟩
end Go.Proofs.Ytnhphmhckbjnnaa
