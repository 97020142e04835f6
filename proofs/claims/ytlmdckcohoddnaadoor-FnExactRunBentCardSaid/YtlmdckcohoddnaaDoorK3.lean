/- Lemmas and walks that the claim's proof rests on, part 3. -/
import Derived.Test.YtlmdckcohoddnaaDoorK2
namespace Go.Proofs.YtlmdckcohoddnaaDoor
open Go.RowKit
def rowAt (rs : List RowD) (j : Nat) : RowD := rs.getD j (none, 0, [])
theorem rowAt_mem {rs : List RowD} {j : Nat} (h : j < rs.length) : rowAt rs j ∈ rs := by
  unfold rowAt; simp [List.getD, h]
theorem rowAt_some {rs : List RowD} {j : Nat} (h : j < rs.length) : rs[j]? = some (rowAt rs j) := by
  unfold rowAt; simp [List.getD, h]
/-- The sum of the rows' lengths. -/
def tot (rs : List RowD) : Nat := (rs.map fun r => r.2.2.length).sum
theorem tot_take_succ {rs : List RowD} {j : Nat} (h : j < rs.length) : tot (rs.take (j + 1)) = tot (rs.take j) + (rowAt rs j).2.2.length := by
  unfold tot
  rw [List.take_succ_eq_append_getElem h, List.map_append, List.sum_append]
  simp [rowAt, List.getD, h]
theorem tot_take_le (rs : List RowD) (j : Nat) : tot (rs.take j) ≤ tot rs := by
  have : tot rs = tot (rs.take j) + tot (rs.drop j) := by
    unfold tot; rw [← List.sum_append, ← List.map_append, List.take_append_drop]
  omega
theorem tot_take_all (rs : List RowD) : tot (rs.take rs.length) = tot rs := by rw [List.take_length]
/-- The slice (a, n, c) of slices reads as the rows rs. -/
structure IntSS (w : World) (a : Option Addr) (n c : Nat) (rs : List RowD) : Prop where
  row : RowC w a n c 1 (rs.map rowV)
  inn : ∀ r ∈ rs, Ints w r.1 r.2.2.length r.2.1 r.2.2
theorem OwnSS.reads {w b a n c rs} (h : OwnSS w b a n c rs) : IntSS w a n c rs := ⟨h.out.row, fun r hr => (h.inn r hr).ints⟩
theorem IntSS.len {w a n c rs} (h : IntSS w a n c rs) : rs.length = n := by have := h.row.1; simpa using this
theorem IntSS.le {w a n c rs} (h : IntSS w a n c rs) : (n : Int) ≤ 9223372036854775807 := by
  have := h.row.2.1; have := h.row.2.2.1; unfold maxLen at this; omega
theorem IntSS.below {w w' a n c rs} (h : IntSS w a n c rs) (hb : Below w.heap.size w w') : IntSS w' a n c rs := ⟨h.row.below hb, fun r hr => (h.inn r hr).below hb⟩
theorem IntSS.alloc {w a n c rs} (h : IntSS w a n c rs) (o : Obj) : IntSS (w.alloc o) a n c rs := h.below ((Below.refl _ _).alloc (Nat.le_refl _) _)
theorem IntSS.drew {w a n c rs} (h : IntSS w a n c rs) : IntSS w.drew a n c rs := h.below ((Below.refl _ _).drew)
theorem IntSS.nil0 (w : World) : IntSS w none 0 0 [] := ⟨⟨rfl, Nat.le_refl _, Nat.zero_le _, fun _ => rfl, 0, 0, fun h => absurd h (by omega), fun i u hu => by simp at hu⟩, fun r hr => by cases hr⟩
theorem IntSS.at {w a n c rs} (h : IntSS w a n c rs) (k : Nat) (hk : k < n) : ∃ g o, a = some ⟨g, o, none⟩ ∧ w.cell? ⟨g, o + k, none⟩ = some (.slice (rowAt rs k).1 (rowAt rs k).2.2.length (rowAt rs k).2.1) ∧ Ints w (rowAt rs k).1 (rowAt rs k).2.2.length (rowAt rs k).2.1 (rowAt rs k).2.2 := by
  have hl := h.len
  obtain ⟨_, _, _, _, g, o, h1, h2⟩ := h.row
  refine ⟨g, o, h1 (by omega), ?_, h.inn _ (rowAt_mem (by omega))⟩
  have := h2 k (rowV (rowAt rs k)) (by rw [List.getElem?_map, rowAt_some (by omega)]; rfl)
  exact this
/-- The rows of numbers. -/
def datas' (rs : List RowD) : List (List Int) := rs.map fun r => r.2.2
theorem datas_len (rs : List RowD) : (datas' rs).length = rs.length := by simp [datas']
theorem datas_at {rs rs' : List RowD} (h : datas' rs = datas' rs') (k : Nat) (hk : k < rs.length) : (rowAt rs k).2.2 = (rowAt rs' k).2.2 := by
  have hl : rs.length = rs'.length := by rw [← datas_len rs, h, datas_len]
  have := congrArg (fun l => l[k]?) h
  simp only [datas', List.getElem?_map, rowAt_some hk, rowAt_some (hl ▸ hk : k < rs'.length), Option.map_some, Option.some.injEq] at this
  exact this
set_option maxHeartbeats 4000000 in
theorem eqIntSS_b (a : Option Addr) (n c : Nat) (a' : Option Addr) (n' c' : Nat) (rs rs' : List RowD) (w : World) (h : IntSS w a n c rs) (h' : IntSS w a' n' c' rs') (he : datas' rs = datas' rs') :
    Calls Tryd.prog 66 #[.slice a n c, .slice a' n' c'] w fun e w' => e = .returned (.bool true) ∧ Below w.heap.size w w' := by
  obtain rfl : n = n' := by rw [← h.len, ← h'.len, ← datas_len rs, he, datas_len]
  have hn := h.le
  have HE := Lib.hid he
  have HL := Lib.hid h.len
  clear he
  go_enter Tryd.func66, Tryd.ntmps66
  go_wp2
  go_loopw [5] (fun v wr => ∃ k : Nat, k ≤ n ∧ v = .int .i64 k ∧ Below w.heap.size w wr) (fun v _ => n - (intOf v).toNat)
  case atStart => exact ⟨0, Nat.zero_le _, rfl, Below.refl _ _⟩
  case round =>
    obtain ⟨k, hk, rfl, hbel⟩ := hrel
    by_cases hlt : k < n
    · have HD := Lib.hid (datas_at HE.out k (by rw [HL.out]; exact hlt))
      obtain ⟨g, o, rfl, c0, i0⟩ := (h.below hbel).at k hlt
      obtain ⟨g', o', rfl, c1, i1⟩ := (h'.below hbel).at k hlt
      rw [HD.out] at c0 i0
      generalize rowAt rs k = r at *
      generalize rowAt rs' k = s at *
      generalize s.2.2 = l at *
      have hlt' : (k : Int) < (n : Int) := by omega
      go_wp2
      go_region_held3 (fun W => W.cell? ⟨g, o + k, none⟩ = some (.slice r.1 l.length r.2.1) ∧ W.cell? ⟨g', o' + k, none⟩ = some (.slice s.1 l.length s.2.1))
        (first | exact ⟨keepC u2 c0, keepC u2 c1⟩ | go_keep)
        (first | (go_at_call 22; refine (eqIntS_b _ _ _ _ _ _ l _ (by exact i0.drewN 1) (by exact i1.drewN 1)).mono ?_; rintro e w2 ⟨rfl, u2⟩))
      have bel2 : Below w.heap.size w w2 := hbel.drew.trans (u2.mono hbel.size)
      go_wp2
      go_roundw
      case rel => exact ⟨k + 1, by omega, by go_num, bel2⟩
      case measure => simp [intOf]; omega
    · go_wp2
      go_ret
      exact ⟨rfl, hbel⟩
/-- The rows hold the numbers from k on. -/
def UpSS (k : Int) (rs : List RowD) : Prop := ∀ j, j < rs.length → UpFrom (k + tot (rs.take j)) (rowAt rs j).2.2
theorem set_key (rs : List RowD) (i : Nat) (l : List Int) (hl : l.length = (rowAt rs i).2.2.length) (hi : i < rs.length) :
    (rs.set i ((rowAt rs i).1, (rowAt rs i).2.1, l)).map (fun r => (r.1, r.2.1, r.2.2.length)) = rs.map (fun r => (r.1, r.2.1, r.2.2.length)) := by
  apply List.ext_getElem?
  intro j
  rw [List.getElem?_map, List.getElem?_map, List.getElem?_set]
  by_cases e : i = j
  · subst e; rw [if_pos rfl, if_pos hi, rowAt_some hi]; simp [hl]
  · rw [if_neg e]
theorem rowsF_key {rs rs' : List RowD} (h : rs'.map (fun r => (r.1, r.2.1, r.2.2.length)) = rs.map (fun r => (r.1, r.2.1, r.2.2.length))) : rowsF rs' = rowsF rs := by
  have e : ∀ q : List RowD, rowsF q = (q.map (fun r => (r.1, r.2.1, r.2.2.length))).flatMap fun t => foot t.1 t.2.1 := fun q => by simp [rowsF, List.flatMap_map]
  rw [e, e, h]
theorem tot_key {rs rs' : List RowD} (h : rs'.map (fun r => (r.1, r.2.1, r.2.2.length)) = rs.map (fun r => (r.1, r.2.1, r.2.2.length))) (j : Nat) : tot (rs'.take j) = tot (rs.take j) := by
  have e : ∀ q : List RowD, tot (q.take j) = (((q.map (fun r => (r.1, r.2.1, r.2.2.length))).take j).map fun t => t.2.2).sum := fun q => by simp [tot, List.map_take]; rfl
  rw [e, e, h]
theorem at_key {rs rs' : List RowD} (h : rs'.map (fun r => (r.1, r.2.1, r.2.2.length)) = rs.map (fun r => (r.1, r.2.1, r.2.2.length))) (j : Nat) (hj : j < rs.length) : (rowAt rs' j).1 = (rowAt rs j).1 ∧ (rowAt rs' j).2.1 = (rowAt rs j).2.1 ∧ (rowAt rs' j).2.2.length = (rowAt rs j).2.2.length := by
  have hl : rs'.length = rs.length := by simpa using congrArg List.length h
  have := congrArg (fun l => l[j]?) h
  simp only [List.getElem?_map, rowAt_some hj, rowAt_some (hl ▸ hj : j < rs'.length), Option.map_some, Option.some.injEq, Prod.mk.injEq] at this
  exact this
theorem OwnSS.cap {w b a n c rs} (h : OwnSS w b a n c rs) : n ≤ c ∧ c ≤ maxLen := ⟨h.out.row.2.1, h.out.row.2.2.1⟩
/-- A row is written. -/
theorem OwnSS.put {w w' : World} {b a n c rs} (h : OwnSS w b a n c rs) (i : Nat) (hi : i < rs.length) (l : List Int) (o : Own w' b (rowAt rs i).1 (rowAt rs i).2.2.length (rowAt rs i).2.1 l) (ho : Only (foot (rowAt rs i).1 (rowAt rs i).2.1) w w') :
    OwnSS w' b a n c (rs.set i ((rowAt rs i).1, (rowAt rs i).2.1, l)) := by
  have hl : l.length = (rowAt rs i).2.2.length := by have := o.len; omega
  have hk := set_key rs i l hl hi
  have hm := rowAt_mem hi
  refine ⟨?_, fun r hr => ?_, ?_, ?_⟩
  · have e : ∀ q : List RowD, q.map rowV = (q.map (fun r => (r.1, r.2.1, r.2.2.length))).map fun t => Value.slice t.1 t.2.2 t.2.1 := fun q => by simp [rowV]
    rw [e, hk, ← e]
    exact h.out.only ho (fun k hk hk' => h.apart k hk (mem_rowsF hm hk'))
  · obtain ⟨j, hj⟩ := List.getElem?_of_mem hr
    rw [List.getElem?_set] at hj
    by_cases e : i = j
    · subst e
      rw [if_pos rfl, if_pos hi, Option.some.injEq] at hj
      subst hj
      rw [← hl] at o
      exact o
    · rw [if_neg e] at hj
      have hjl := (List.getElem?_eq_some_iff.1 hj).1
      have hrr : rowAt rs j = r := by have := rowAt_some hjl; rw [hj] at this; exact (Option.some.inj this).symm
      have hmr : r ∈ rs := by rw [← hrr]; exact rowAt_mem hjl
      refine (h.inn r hmr).only ho ?_
      have hp := List.pairwise_iff_getElem.1 h.dis
      have ei : rs[i] = rowAt rs i := by simp [rowAt, List.getD, hi]
      have ej : rs[j] = r := by rw [← hrr]; simp [rowAt, List.getD, hjl]
      rcases Nat.lt_or_gt_of_ne e with hlt | hgt
      · have := hp i j hi hjl hlt; rw [ei, ej] at this; exact this.symm
      · have := hp j i hjl hi hgt; rw [ei, ej] at this; exact this
  · have e : ∀ q : List RowD, (q.Pairwise fun r s => Disj (foot r.1 r.2.1) (foot s.1 s.2.1)) ↔ ((q.map (fun r => (r.1, r.2.1, r.2.2.length))).Pairwise fun r s => Disj (foot r.1 r.2.1) (foot s.1 s.2.1)) := fun q => by rw [List.pairwise_map]
    rw [e, hk, ← e]
    exact h.dis
  · rw [rowsF_key hk]; exact h.apart
set_option maxHeartbeats 4000000 in
theorem markIntSS_o (a : Option Addr) (n c b : Nat) (rs : List RowD) (k0 : Int) (w : World) (h : OwnSS w b a n c rs) (h0 : 0 ≤ k0) (h1 : k0 + tot rs ≤ 4000000000000000000) :
    Calls Tryd.prog 71 #[.slice a n c, .int .i64 k0] w fun e w' => e = .returned (.int .i64 (k0 + tot rs)) ∧ (∃ rs', OwnSS w' b a n c rs' ∧ UpSS k0 rs' ∧ rs'.map (fun r => (r.1, r.2.1, r.2.2.length)) = rs.map (fun r => (r.1, r.2.1, r.2.2.length))) ∧ Only (rowsF rs) w w' := by
  have hn := h.reads.le
  have HL := Lib.hid h.reads.len
  go_enter Tryd.func71, Tryd.ntmps71
  go_wp2
  go_loopw [1, 5] (fun u v wr => ∃ i : Nat, i ≤ n ∧ u = .int .i64 (k0 + tot (rs.take i)) ∧ v = .int .i64 i ∧ Only (rowsF rs) w wr ∧ ∃ rs', OwnSS wr b a n c rs' ∧ rs'.map (fun r => (r.1, r.2.1, r.2.2.length)) = rs.map (fun r => (r.1, r.2.1, r.2.2.length)) ∧ ∀ j, j < i → UpFrom (k0 + tot (rs.take j)) (rowAt rs' j).2.2) (fun _ v _ => n - (intOf v).toNat)
  case atStart => exact ⟨0, Nat.zero_le _, by simp [tot], rfl, Only.refl _ _, rs, h, rfl, fun j hj => absurd hj (by omega)⟩
  case round =>
    obtain ⟨i, hi, rfl, rfl, hO, rs', own, hk, hu⟩ := hrel
    have HK := Lib.hid hk
    have HU := Lib.hid hu
    clear hk hu
    have hl' : rs'.length = rs.length := by simpa using congrArg List.length HK.out
    have HL' := Lib.hid hl'
    clear hl'
    by_cases hlt : i < n
    · obtain ⟨e1, e2, e3⟩ := at_key HK.out i (by rw [HL.out]; exact hlt)
      have HT := Lib.hid (tot_take_succ (rs := rs) (j := i) (by rw [HL.out]; exact hlt))
      have t1 := tot_take_le rs (i + 1)
      rw [HT.out] at t1
      have HE1 := Lib.hid e1
      have HE2 := Lib.hid e2
      have HE3 := Lib.hid e3
      rw [← e3] at t1
      clear e1 e2 e3
      obtain ⟨g, o, rfl, c0, _⟩ := own.reads.at i hlt
      have inn := own.inn (rowAt rs' i) (rowAt_mem (by rw [HL'.out, HL.out]; exact hlt))
      have hlt' : (i : Int) < (n : Int) := by omega
      have HT3 : Hid ((k0 + tot (rs.take i) : Int) + ((rowAt rs' i).2.2.length : Nat) = k0 + tot (rs.take (i + 1))) := Lib.hid (by rw [HT.out, HE3.out]; omega)
      obtain ⟨kk, hkk⟩ : ∃ x : Int, k0 + tot (rs.take i) = x := ⟨_, rfl⟩
      have HKK := Lib.hid hkk
      have kk0 : 0 ≤ kk := by omega
      have kk1 : kk + ((rowAt rs' i).2.2.length : Nat) ≤ 4000000000000000000 := by omega
      rw [hkk] at HT3 ⊢
      clear hkk t1
      go_wp2_with fail
      refine (markIntS_o _ _ _ _ _ _ _ inn kk0 kk1).mono ?_; rintro e w2 ⟨rfl, ⟨l', o2, up⟩, g2⟩
      have OS := Lib.hid (own.put i (by rw [HL'.out, HL.out]; exact hlt) l' o2 g2)
      have HS := Lib.hid (set_key rs' i l' (by have := o2.len; omega) (by rw [HL'.out, HL.out]; exact hlt))
      have GG := Lib.hid (hO.trans (g2.more (fun q hq => mem_rowsF (rowAt_mem (rs := rs) (j := i) (by rw [HL.out]; exact hlt)) (by rw [← HE1.out, ← HE2.out]; exact hq))))
      have UP := Lib.hid up
      clear own g2 o2 inn up hO c0
      rw [HT3.out]
      go_wp2
      go_roundw
      case rel => exact ⟨i + 1, by omega, rfl, by go_num, GG.out, _, OS.out, HS.out.trans HK.out, fun j hj => by
        have e : rowAt (rs'.set i ((rowAt rs' i).1, (rowAt rs' i).2.1, l')) j = if i = j then ((rowAt rs' i).1, (rowAt rs' i).2.1, l') else rowAt rs' j := by
          unfold rowAt
          simp only [List.getD, List.getElem?_set]
          by_cases e : i = j
          · subst e; rw [if_pos rfl, if_pos rfl, if_pos (by rw [HL'.out, HL.out]; exact hlt)]; rfl
          · rw [if_neg e, if_neg e]
        rw [e]
        by_cases e : i = j
        · subst e; rw [if_pos rfl, HKK.out]; exact UP.out
        · rw [if_neg e]; exact HU.out j (by omega)⟩
      case measure => simp [intOf]; omega
    · obtain rfl : i = n := by omega
      have ht : tot (rs.take i) = tot rs := by have := HL.out; rw [← this]; exact tot_take_all rs
      have HT := Lib.hid ht
      clear ht
      go_wp2
      go_ret
      exact ⟨by rw [HT.out]; rfl, ⟨rs', own, fun j hj => by rw [tot_key HK.out]; exact HU.out j (by have := HL'.out; have := HL.out; omega), HK.out⟩, hO⟩
set_option maxHeartbeats 4000000 in
theorem heldIntSS_b (a : Option Addr) (n c : Nat) (rs : List RowD) (k0 : Int) (w : World) (h : IntSS w a n c rs) (hu : UpSS k0 rs) (h0 : 0 ≤ k0) (h1 : k0 + tot rs ≤ 4000000000000000000) :
    Calls Tryd.prog 94 #[.slice a n c, .int .i64 k0] w fun e w' => e = .returned (.int .i64 (k0 + tot rs)) ∧ Below w.heap.size w w' := by
  have hn := h.le
  have HL := Lib.hid h.len
  have HU := Lib.hid hu
  clear hu
  go_enter Tryd.func94, Tryd.ntmps94
  go_wp2
  go_loopw [1, 5] (fun u v wr => ∃ i : Nat, i ≤ n ∧ u = .int .i64 (k0 + tot (rs.take i)) ∧ v = .int .i64 i ∧ Below w.heap.size w wr) (fun _ v _ => n - (intOf v).toNat)
  case atStart => exact ⟨0, Nat.zero_le _, by simp [tot], rfl, Below.refl _ _⟩
  case round =>
    obtain ⟨i, hi, rfl, rfl, hbel⟩ := hrel
    by_cases hlt : i < n
    · have HT := Lib.hid (tot_take_succ (rs := rs) (j := i) (by rw [HL.out]; exact hlt))
      have t1 := tot_take_le rs (i + 1)
      rw [HT.out] at t1
      have HUP := Lib.hid (HU.out i (by rw [HL.out]; exact hlt))
      obtain ⟨g, o, rfl, c0, inn⟩ := (h.below hbel).at i hlt
      have hlt' : (i : Int) < (n : Int) := by omega
      have HT3 : Hid ((k0 + tot (rs.take i) : Int) + ((rowAt rs i).2.2.length : Nat) = k0 + tot (rs.take (i + 1))) := Lib.hid (by rw [HT.out]; omega)
      obtain ⟨kk, hkk⟩ : ∃ x : Int, k0 + tot (rs.take i) = x := ⟨_, rfl⟩
      have kk0 : 0 ≤ kk := by omega
      have kk1 : kk + ((rowAt rs i).2.2.length : Nat) ≤ 4000000000000000000 := by omega
      rw [hkk] at HT3 HUP ⊢
      clear hkk t1
      go_wp2_with fail
      refine (heldIntS_b _ _ _ _ _ _ inn HUP.out kk0 kk1).mono ?_; rintro e w2 ⟨rfl, u2⟩
      have bel2 := hbel.trans (u2.mono hbel.size)
      have nn : 0 ≤ kk + ((rowAt rs i).2.2.length : Nat) := by omega
      clear u2 inn c0
      rw [HT3.out] at nn ⊢
      clear kk1
      go_wp2
      go_roundw
      case rel => exact ⟨i + 1, by omega, rfl, by go_num, bel2⟩
      case measure => simp [intOf]; omega
    · obtain rfl : i = n := by omega
      have ht : tot (rs.take i) = tot rs := by have := HL.out; rw [← this]; exact tot_take_all rs
      have HT := Lib.hid ht
      clear ht
      go_wp2
      go_ret
      exact ⟨by rw [HT.out]; rfl, hbel⟩
theorem tot_datas (rs : List RowD) : tot rs = ((datas' rs).map List.length).sum := by unfold tot datas'; rw [List.map_map]; rfl
theorem markIntSS_p (a : Option Addr) (n c b : Nat) (rs : List RowD) (k0 : Int) (w : World) (h : OwnSS w b a n c rs) (h0 : 0 ≤ k0) (h1 : k0 + tot rs ≤ 4000000000000000000) :
    Calls Tryd.prog 71 #[.slice a n c, .int .i64 k0] w fun e w' => ∃ rs', e = .returned (.int .i64 (k0 + tot rs')) ∧ OwnSS w' b a n c rs' ∧ UpSS k0 rs' ∧ (tot rs' = tot rs ∧ rowsF rs' = rowsF rs) ∧ Only (rowsF rs) w w' :=
  (markIntSS_o a n c b rs k0 w h h0 h1).mono fun _ _ ⟨he, ⟨rs', o, u, k⟩, g⟩ => by
    have ht : tot rs' = tot rs := by
      have hl : rs'.length = rs.length := by simpa using congrArg List.length k
      have := tot_key k rs.length
      rw [List.take_length, ← hl, List.take_length] at this
      exact this
    exact ⟨rs', by rw [ht]; exact he, o, u, ⟨ht, rowsF_key k⟩, g⟩
end Go.Proofs.YtlmdckcohoddnaaDoor
