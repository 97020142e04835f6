/- Lemmas and walks that the claim's proof rests on, part 3. -/
import Derived.Deep.Slices
import Derived.Deep.Fields
import Derived.ChangeSame
import Derived.ProofKit
import Derived.Test.YtlmdckcohoddnaaDoorK1
import Derived.Test.YtlmdckcohoddnaaDoorK2
namespace Go.Proofs.YtlmdckcohoddnaaDoor
open Go.RowKit
def rowAt (rs : List RowD) (j : Nat) : RowD := rs.getD j (none, 0, [])
theorem rowAt_mem {rs : List RowD} {j : Nat} (h : j < rs.length) : rowAt rs j ∈ rs := by
  unfold rowAt; simp [List.getD, h]
theorem rowAt_some {rs : List RowD} {j : Nat} (h : j < rs.length) : rs[j]? = some (rowAt rs j) := by
  unfold rowAt; simp [List.getD, h]
def tot (rs : List RowD) : Nat := (rs.map fun r => r.2.2.length).sum
theorem tot_take_succ {rs : List RowD} {j : Nat} (h : j < rs.length) : tot (rs.take (j + 1)) = tot (rs.take j) + (rowAt rs j).2.2.length := by
  unfold tot
  rw [List.take_succ_eq_append_getElem h, List.map_append, List.sum_append]
  simp [rowAt, List.getD, h]
theorem tot_take_le (rs : List RowD) (j : Nat) : tot (rs.take j) ≤ tot rs := by
  have : tot rs = tot (rs.take j) + tot (rs.drop j) := by
    unfold tot; rw [← List.sum_append, ← List.map_append, List.take_append_drop]
  omega
theorem tot_take_all (rs : List RowD) : tot (rs.take rs.length) = tot rs := by rw [List.take_length]
structure IntSS (w : World) (a : Option Addr) (n c : Nat) (rs : List RowD) : Prop where
  row : RowC w a n c 1 (rs.map rowV)
  inn : ∀ r ∈ rs, Ints w r.1 r.2.2.length r.2.1 r.2.2
theorem OwnSS.reads {w b a n c rs} (h : OwnSS w b a n c rs) : IntSS w a n c rs := ⟨h.out.row, fun r hr => (h.inn r hr).ints⟩
theorem IntSS.len {w a n c rs} (h : IntSS w a n c rs) : rs.length = n := by have := h.row.1; simpa using this
theorem IntSS.le {w a n c rs} (h : IntSS w a n c rs) : (n : Int) ≤ 9223372036854775807 := by
  have := h.row.2.1; have := h.row.2.2.1; unfold maxLen at this; omega
theorem IntSS.below {w w' a n c rs} (h : IntSS w a n c rs) (hb : Below w.heap.size w w') : IntSS w' a n c rs := ⟨h.row.below hb, fun r hr => (h.inn r hr).below hb⟩
theorem IntSS.alloc {w a n c rs} (h : IntSS w a n c rs) (o : Obj) : IntSS (w.alloc o) a n c rs := h.below ((Below.refl _ _).alloc (Nat.le_refl _) _)
theorem IntSS.drew {w a n c rs} (h : IntSS w a n c rs) : IntSS w.drew a n c rs := h.below ((Below.refl _ _).drew)
theorem IntSS.nil0 (w : World) : IntSS w none 0 0 [] := ⟨⟨rfl, Nat.le_refl _, Nat.zero_le _, fun _ => rfl, 0, 0, fun h => absurd h (by omega), fun i u hu => by simp at hu⟩, fun r hr => by cases hr⟩
theorem IntSS.at {w a n c rs} (h : IntSS w a n c rs) (k : Nat) (hk : k < n) : ∃ g o, a = some ⟨g, o, none⟩ ∧ w.cell? ⟨g, o + k, none⟩ = some (.slice (rowAt rs k).1 (rowAt rs k).2.2.length (rowAt rs k).2.1) ∧ Ints w (rowAt rs k).1 (rowAt rs k).2.2.length (rowAt rs k).2.1 (rowAt rs k).2.2 := by
  have hl := h.len
  obtain ⟨_, _, _, _, g, o, h1, h2⟩ := h.row
  refine ⟨g, o, h1 (by omega), ?_, h.inn _ (rowAt_mem (by omega))⟩
  have := h2 k (rowV (rowAt rs k)) (by rw [List.getElem?_map, rowAt_some (by omega)]; rfl)
  exact this
def datas' (rs : List RowD) : List (List Int) := rs.map fun r => r.2.2
theorem datas_len (rs : List RowD) : (datas' rs).length = rs.length := by simp [datas']
theorem datas_at {rs rs' : List RowD} (h : datas' rs = datas' rs') (k : Nat) (hk : k < rs.length) : (rowAt rs k).2.2 = (rowAt rs' k).2.2 := by
  have hl : rs.length = rs'.length := by rw [← datas_len rs, h, datas_len]
  have := congrArg (fun l => l[k]?) h
  simp only [datas', List.getElem?_map, rowAt_some hk, rowAt_some (hl ▸ hk : k < rs'.length), Option.map_some, Option.some.injEq] at this
  exact this
set_option maxHeartbeats 4000000 in
theorem eqIntSS_b (a : Option Addr) (n c : Nat) (a' : Option Addr) (n' c' : Nat) (rs rs' : List RowD) (w : World) (h : IntSS w a n c rs) (h' : IntSS w a' n' c' rs') (he : datas' rs = datas' rs') :
    Calls Tryd.prog 66 #[.slice a n c, .slice a' n' c'] w fun e w' => e = .returned (.bool true) ∧ Below w.heap.size w w' := by
  obtain rfl : n = n' := by rw [← h.len, ← h'.len, ← datas_len rs, he, datas_len]
  have hn := h.le
  have HE := Lib.hid he
  have HL := Lib.hid h.len
  clear he
  go_enter Tryd.func66, Tryd.ntmps66
  go_wp2
  go_loopw [5] (fun v wr => ∃ k : Nat, k ≤ n ∧ v = .int .i64 k ∧ Below w.heap.size w wr) (fun v _ => n - (intOf v).toNat)
  case atStart => exact ⟨0, Nat.zero_le _, rfl, Below.refl _ _⟩
  case round =>
    obtain ⟨k, hk, rfl, hbel⟩ := hrel
    by_cases hlt : k < n
    · have HD := Lib.hid (datas_at HE.out k (by rw [HL.out]; exact hlt))
      obtain ⟨g, o, rfl, c0, i0⟩ := (h.below hbel).at k hlt
      obtain ⟨g', o', rfl, c1, i1⟩ := (h'.below hbel).at k hlt
      rw [HD.out] at c0 i0
      generalize rowAt rs k = r at *
      generalize rowAt rs' k = s at *
      generalize s.2.2 = l at *
      have hlt' : (k : Int) < (n : Int) := by omega
      go_wp2
      go_region_held3 (fun W => W.cell? ⟨g, o + k, none⟩ = some (.slice r.1 l.length r.2.1) ∧ W.cell? ⟨g', o' + k, none⟩ = some (.slice s.1 l.length s.2.1))
        (first | exact ⟨keepC u2 c0, keepC u2 c1⟩ | go_keep)
        (first | (go_at_call 22; refine (eqIntS_b _ _ _ _ _ _ l _ (by exact i0.drewN 1) (by exact i1.drewN 1)).mono ?_; rintro e w2 ⟨rfl, u2⟩))
      have bel2 : Below w.heap.size w w2 := hbel.drew.trans (u2.mono hbel.size)
      go_wp2
      go_roundw
      case rel => exact ⟨k + 1, by omega, by go_num, bel2⟩
      case measure => simp [intOf]; omega
    · go_wp2
      go_ret
      exact ⟨rfl, hbel⟩
def UpSS (k : Int) (rs : List RowD) : Prop := ∀ j, j < rs.length → UpFrom (k + tot (rs.take j)) (rowAt rs j).2.2
theorem set_key (rs : List RowD) (i : Nat) (l : List Int) (hl : l.length = (rowAt rs i).2.2.length) (hi : i < rs.length) :
    (rs.set i ((rowAt rs i).1, (rowAt rs i).2.1, l)).map (fun r => (r.1, r.2.1, r.2.2.length)) = rs.map (fun r => (r.1, r.2.1, r.2.2.length)) := by
  apply List.ext_getElem?
  intro j
  rw [List.getElem?_map, List.getElem?_map, List.getElem?_set]
  by_cases e : i = j
  · subst e; rw [if_pos rfl, if_pos hi, rowAt_some hi]; simp [hl]
  · rw [if_neg e]
theorem rowsF_key {rs rs' : List RowD} (h : rs'.map (fun r => (r.1, r.2.1, r.2.2.length)) = rs.map (fun r => (r.1, r.2.1, r.2.2.length))) : rowsF rs' = rowsF rs := by
  have e : ∀ q : List RowD, rowsF q = (q.map (fun r => (r.1, r.2.1, r.2.2.length))).flatMap fun t => foot t.1 t.2.1 := fun q => by simp [rowsF, List.flatMap_map]
  rw [e, e, h]
theorem tot_key {rs rs' : List RowD} (h : rs'.map (fun r => (r.1, r.2.1, r.2.2.length)) = rs.map (fun r => (r.1, r.2.1, r.2.2.length))) (j : Nat) : tot (rs'.take j) = tot (rs.take j) := by
  have e : ∀ q : List RowD, tot (q.take j) = (((q.map (fun r => (r.1, r.2.1, r.2.2.length))).take j).map fun t => t.2.2).sum := fun q => by simp [tot, List.map_take]; rfl
  rw [e, e, h]
theorem at_key {rs rs' : List RowD} (h : rs'.map (fun r => (r.1, r.2.1, r.2.2.length)) = rs.map (fun r => (r.1, r.2.1, r.2.2.length))) (j : Nat) (hj : j < rs.length) : (rowAt rs' j).1 = (rowAt rs j).1 ∧ (rowAt rs' j).2.1 = (rowAt rs j).2.1 ∧ (rowAt rs' j).2.2.length = (rowAt rs j).2.2.length := by
  have hl : rs'.length = rs.length := by simpa using congrArg List.length h
  have := congrArg (fun l => l[j]?) h
  simp only [List.getElem?_map, rowAt_some hj, rowAt_some (hl ▸ hj : j < rs'.length), Option.map_some, Option.some.injEq, Prod.mk.injEq] at this
  exact this
theorem OwnSS.cap {w b a n c rs} (h : OwnSS w b a n c rs) : n ≤ c ∧ c ≤ maxLen := ⟨h.out.row.2.1, h.out.row.2.2.1⟩
theorem OwnSS.put {w w' : World} {b a n c rs} (h : OwnSS w b a n c rs) (i : Nat) (hi : i < rs.length) (l : List Int) (o : Own w' b (rowAt rs i).1 (rowAt rs i).2.2.length (rowAt rs i).2.1 l) (ho : Only (foot (rowAt rs i).1 (rowAt rs i).2.1) w w') :
    OwnSS w' b a n c (rs.set i ((rowAt rs i).1, (rowAt rs i).2.1, l)) := by
  have hl : l.length = (rowAt rs i).2.2.length := by have := o.len; omega
  have hk := set_key rs i l hl hi
  have hm := rowAt_mem hi
  refine ⟨?_, fun r hr => ?_, ?_, ?_⟩
  · have e : ∀ q : List RowD, q.map rowV = (q.map (fun r => (r.1, r.2.1, r.2.2.length))).map fun t => Value.slice t.1 t.2.2 t.2.1 := fun q => by simp [rowV]
    rw [e, hk, ← e]
    exact h.out.only ho (fun k hk hk' => h.apart k hk (mem_rowsF hm hk'))
  · obtain ⟨j, hj⟩ := List.getElem?_of_mem hr
    rw [List.getElem?_set] at hj
    by_cases e : i = j
    · subst e
      rw [if_pos rfl, if_pos hi, Option.some.injEq] at hj
      subst hj
      rw [← hl] at o
      exact o
    · rw [if_neg e] at hj
      have hjl := (List.getElem?_eq_some_iff.1 hj).1
      have hrr : rowAt rs j = r := by have := rowAt_some hjl; rw [hj] at this; exact (Option.some.inj this).symm
      have hmr : r ∈ rs := by rw [← hrr]; exact rowAt_mem hjl
      refine (h.inn r hmr).only ho ?_
      have hp := List.pairwise_iff_getElem.1 h.dis
      have ei : rs[i] = rowAt rs i := by simp [rowAt, List.getD, hi]
      have ej : rs[j] = r := by rw [← hrr]; simp [rowAt, List.getD, hjl]
      rcases Nat.lt_or_gt_of_ne e with hlt | hgt
      · have := hp i j hi hjl hlt; rw [ei, ej] at this; exact this.symm
      · have := hp j i hjl hi hgt; rw [ei, ej] at this; exact this
  · have e : ∀ q : List RowD, (q.Pairwise fun r s => Disj (foot r.1 r.2.1) (foot s.1 s.2.1)) ↔ ((q.map (fun r => (r.1, r.2.1, r.2.2.length))).Pairwise fun r s => Disj (foot r.1 r.2.1) (foot s.1 s.2.1)) := fun q => by rw [List.pairwise_map]
    rw [e, hk, ← e]
    exact h.dis
  · rw [rowsF_key hk]; exact h.apart
set_option maxHeartbeats 4000000 in
theorem markIntSS_o (a : Option Addr) (n c b : Nat) (rs : List RowD) (k0 : Int) (w : World) (h : OwnSS w b a n c rs) (h0 : 0 ≤ k0) (h1 : k0 + tot rs ≤ 4000000000000000000) :
    Calls Tryd.prog 71 #[.slice a n c, .int .i64 k0] w fun e w' => e = .returned (.int .i64 (k0 + tot rs)) ∧ (∃ rs', OwnSS w' b a n c rs' ∧ UpSS k0 rs' ∧ rs'.map (fun r => (r.1, r.2.1, r.2.2.length)) = rs.map (fun r => (r.1, r.2.1, r.2.2.length))) ∧ Only (rowsF rs) w w' := by
  have hn := h.reads.le
  have HL := Lib.hid h.reads.len
  go_enter Tryd.func71, Tryd.ntmps71
  go_wp2
  go_loopw [1, 5] (fun u v wr => ∃ i : Nat, i ≤ n ∧ u = .int .i64 (k0 + tot (rs.take i)) ∧ v = .int .i64 i ∧ Only (rowsF rs) w wr ∧ ∃ rs', OwnSS wr b a n c rs' ∧ rs'.map (fun r => (r.1, r.2.1, r.2.2.length)) = rs.map (fun r => (r.1, r.2.1, r.2.2.length)) ∧ ∀ j, j < i → UpFrom (k0 + tot (rs.take j)) (rowAt rs' j).2.2) (fun _ v _ => n - (intOf v).toNat)
  case atStart => exact ⟨0, Nat.zero_le _, by simp [tot], rfl, Only.refl _ _, rs, h, rfl, fun j hj => absurd hj (by omega)⟩
  case round =>
    obtain ⟨i, hi, rfl, rfl, hO, rs', own, hk, hu⟩ := hrel
    have HK := Lib.hid hk
    have HU := Lib.hid hu
    clear hk hu
    have hl' : rs'.length = rs.length := by simpa using congrArg List.length HK.out
    have HL' := Lib.hid hl'
    clear hl'
    by_cases hlt : i < n
    · obtain ⟨e1, e2, e3⟩ := at_key HK.out i (by rw [HL.out]; exact hlt)
      have HT := Lib.hid (tot_take_succ (rs := rs) (j := i) (by rw [HL.out]; exact hlt))
      have t1 := tot_take_le rs (i + 1)
      rw [HT.out] at t1
      have HE1 := Lib.hid e1
      have HE2 := Lib.hid e2
      have HE3 := Lib.hid e3
      rw [← e3] at t1
      clear e1 e2 e3
      obtain ⟨g, o, rfl, c0, _⟩ := own.reads.at i hlt
      have inn := own.inn (rowAt rs' i) (rowAt_mem (by rw [HL'.out, HL.out]; exact hlt))
      have hlt' : (i : Int) < (n : Int) := by omega
      have HT3 : Hid ((k0 + tot (rs.take i) : Int) + ((rowAt rs' i).2.2.length : Nat) = k0 + tot (rs.take (i + 1))) := Lib.hid (by rw [HT.out, HE3.out]; omega)
      obtain ⟨kk, hkk⟩ : ∃ x : Int, k0 + tot (rs.take i) = x := ⟨_, rfl⟩
      have HKK := Lib.hid hkk
      have kk0 : 0 ≤ kk := by omega
      have kk1 : kk + ((rowAt rs' i).2.2.length : Nat) ≤ 4000000000000000000 := by omega
      rw [hkk] at HT3 ⊢
      clear hkk t1
      go_wp2_with fail
      refine (markIntS_o _ _ _ _ _ _ _ inn kk0 kk1).mono ?_; rintro e w2 ⟨rfl, ⟨l', o2, up⟩, g2⟩
      have OS := Lib.hid (own.put i (by rw [HL'.out, HL.out]; exact hlt) l' o2 g2)
      have HS := Lib.hid (set_key rs' i l' (by have := o2.len; omega) (by rw [HL'.out, HL.out]; exact hlt))
      have GG := Lib.hid (hO.trans (g2.more (fun q hq => mem_rowsF (rowAt_mem (rs := rs) (j := i) (by rw [HL.out]; exact hlt)) (by rw [← HE1.out, ← HE2.out]; exact hq))))
      have UP := Lib.hid up
      clear own g2 o2 inn up hO c0
      rw [HT3.out]
      go_wp2
      go_roundw
      case rel => exact ⟨i + 1, by omega, rfl, by go_num, GG.out, _, OS.out, HS.out.trans HK.out, fun j hj => by
        have e : rowAt (rs'.set i ((rowAt rs' i).1, (rowAt rs' i).2.1, l')) j = if i = j then ((rowAt rs' i).1, (rowAt rs' i).2.1, l') else rowAt rs' j := by
          unfold rowAt
          simp only [List.getD, List.getElem?_set]
          by_cases e : i = j
          · subst e; rw [if_pos rfl, if_pos rfl, if_pos (by rw [HL'.out, HL.out]; exact hlt)]; rfl
          · rw [if_neg e, if_neg e]
        rw [e]
        by_cases e : i = j
        · subst e; rw [if_pos rfl, HKK.out]; exact UP.out
        · rw [if_neg e]; exact HU.out j (by omega)⟩
      case measure => simp [intOf]; omega
    · obtain rfl : i = n := by omega
      have ht : tot (rs.take i) = tot rs := by have := HL.out; rw [← this]; exact tot_take_all rs
      have HT := Lib.hid ht
      clear ht
      go_wp2
      go_ret
      exact ⟨by rw [HT.out]; rfl, ⟨rs', own, fun j hj => by rw [tot_key HK.out]; exact HU.out j (by have := HL'.out; have := HL.out; omega), HK.out⟩, hO⟩
theorem tot_datas (rs : List RowD) : tot rs = ((datas' rs).map List.length).sum := by unfold tot datas'; rw [List.map_map]; rfl
theorem markIntSS_p (a : Option Addr) (n c b : Nat) (rs : List RowD) (k0 : Int) (w : World) (h : OwnSS w b a n c rs) (h0 : 0 ≤ k0) (h1 : k0 + tot rs ≤ 4000000000000000000) :
    Calls Tryd.prog 71 #[.slice a n c, .int .i64 k0] w fun e w' => ∃ rs', e = .returned (.int .i64 (k0 + tot rs')) ∧ OwnSS w' b a n c rs' ∧ UpSS k0 rs' ∧ (tot rs' = tot rs ∧ rowsF rs' = rowsF rs) ∧ Only (rowsF rs) w w' :=
  (markIntSS_o a n c b rs k0 w h h0 h1).mono fun _ _ ⟨he, ⟨rs', o, u, k⟩, g⟩ => by
    have ht : tot rs' = tot rs := by
      have hl : rs'.length = rs.length := by simpa using congrArg List.length k
      have := tot_key k rs.length
      rw [List.take_length, ← hl, List.take_length] at this
      exact this
    exact ⟨rs', by rw [ht]; exact he, o, u, ⟨ht, rowsF_key k⟩, g⟩
end Go.Proofs.YtlmdckcohoddnaaDoor
namespace Go.Proofs.YtlmdckcohoddnaaDoor
open Go.RowKit
theorem cellFar {w : World} {p q : Addr} {u v : Value} (h : w.cell? q = some v) (hne : q.block ≠ p.block) : (w.setCell p u).cell? q = some v := by
  rw [World.cell?_setCell_other w p q u (fun e => hne (by rw [e]))]; exact h
def bendI (p : Int) (l : List Int) (i : Nat) (k : Int) : List Int := l.set i ((l.getD i 0 + k) % p)
set_option maxHeartbeats 4000000 in
set_option maxRecDepth 100000 in
theorem bend_any (p s0 s1 : Int) (a : Option Addr) (n c : Nat) (l : List Int) (i : Nat) (k : Int) (w : World) (h : Ints w a n c l) (hs : n ≤ 1048576) (hp : 1 ≤ p) (hp2 : p ≤ 1000) (hl : ∀ x ∈ l, 0 ≤ x ∧ x ≤ p - 1) (hi : i < n) (hk : 0 ≤ k) (hk2 : k ≤ p - 1) :
    Calls Tryd.prog 86 #[.int .i64 p, .agg #[.int .i64 s0, .int .i64 s1, .slice a n c], .int .i64 i, .int .i64 k] w fun e w' => ∃ b d, e = .returned (.agg #[.int .i64 s0, .int .i64 s1, .slice b n d]) ∧ Own w' w.heap.size b n d (bendI p l i k) ∧ Below w.heap.size w w' := by
  have rx : 0 ≤ l.getD i 0 ∧ l.getD i 0 ≤ p - 1 := hl _ (getD_mem l i (by rw [← h.len]; exact hi))
  have HBI : Hid (bendI p l i k = l.set i ((l.getD i 0 + k) % p)) := rfl
  clear hl
  obtain ⟨x, hx⟩ : ∃ x, l.getD i 0 = x := ⟨_, rfl⟩
  rw [hx] at rx HBI
  have HX := Lib.hid hx
  clear hx
  have t1 : IntKind.i64.wrap (x + k) = x + k := IntWalk.i64_in _ (by omega)
  have V0 : Below w.heap.size w ((w.alloc (.cells #[.int .i64 s0, .int .i64 s1, .slice a n c] 44)).alloc (.cells #[.int .i64 0, .int .i64 0, .slice none 0 0] 44)) := ((Below.refl _ _).alloc (Nat.le_refl _) _).alloc (by simp) _
  have B0 : Blk ((w.alloc (.cells #[.int .i64 s0, .int .i64 s1, .slice a n c] 44)).alloc (.cells #[.int .i64 0, .int .i64 0, .slice none 0 0] 44)) w.heap.size 44 #[.int .i64 s0, .int .i64 s1, .slice a n c] := (Blk.new w _ _).alloc _
  have R0 : Blk ((w.alloc (.cells #[.int .i64 s0, .int .i64 s1, .slice a n c] 44)).alloc (.cells #[.int .i64 0, .int .i64 0, .slice none 0 0] 44)) (w.heap.size + 1) 44 #[.int .i64 0, .int .i64 0, .slice none 0 0] := by simpa using (Blk.new (w.alloc (.cells #[.int .i64 s0, .int .i64 s1, .slice a n c] 44)) 44 #[.int .i64 0, .int .i64 0, .slice none 0 0])
  have S0 : w.heap.size + 2 ≤ ((w.alloc (.cells #[.int .i64 s0, .int .i64 s1, .slice a n c] 44)).alloc (.cells #[.int .i64 0, .int .i64 0, .slice none 0 0] 44)).heap.size := by simp
  go_enter Tryd.func86, Tryd.ntmps86
  go_wp2_with fail
  generalize ((w.alloc (.cells #[.int .i64 s0, .int .i64 s1, .slice a n c] 44)).alloc (.cells #[.int .i64 0, .int .i64 0, .slice none 0 0] 44)) = w0 at *
  refine (Clone_any _ _ _ l _ (h.below V0) (by omega)).mono ?_; rintro e w1 ⟨b, d, rfl, o1, u⟩
  have V1 := V0.trans (u.mono V0.size)
  have B1 := B0.below u
  have R1 := R0.below u
  have S1 : w.heap.size + 2 ≤ w1.heap.size := Nat.le_trans S0 u.size
  have Q := Lib.hid o1.feet
  clear u V0 B0 R0
  have x0 : w1.cell? ⟨w.heap.size, 0, none⟩ = some (.int .i64 s0) := B1.cell 0
  have x1 : w1.cell? ⟨w.heap.size, 1, none⟩ = some (.int .i64 s1) := B1.cell 1
  have x2 : w1.cell? ⟨w.heap.size, 2, none⟩ = some (.slice a n c) := B1.cell 2
  have f2 : w1.frozen? ⟨w.heap.size, 2, none⟩ = false := B1.frozen 2
  go_wp2_with fail
  have G : Only [w.heap.size] w1 (w1.setCell ⟨w.heap.size, 2, none⟩ (.slice b n d)) := (Only.refl _ _).setCell ⟨w.heap.size, 2, none⟩ (.slice b n d) (by simp)
  have V2 := V1.trans (G.below V1.size (by simp))
  have B2 : Blk (w1.setCell ⟨w.heap.size, 2, none⟩ (.slice b n d)) w.heap.size 44 #[.int .i64 s0, .int .i64 s1, .slice b n d] := B1.set_ 2 (.slice b n d)
  have R2 := R1.only G (by simp)
  have o2 := o1.only G (fun q hq hq' => by have := Q.out q hq; simp at hq'; omega)
  have S2 : w.heap.size + 2 ≤ (w1.setCell ⟨w.heap.size, 2, none⟩ (.slice b n d)).heap.size := Nat.le_trans S1 G.size
  clear G V1 B1 R1 o1 x0 x1 x2 f2
  generalize (w1.setCell ⟨w.heap.size, 2, none⟩ (.slice b n d)) = w2 at *
  obtain ⟨g, rfl, g0, g1, y0, y1, y2⟩ := o2.at i hi
  rw [HX.out] at y0
  have x0 : w2.cell? ⟨w.heap.size, 0, none⟩ = some (.int .i64 s0) := B2.cell 0
  have x1 : w2.cell? ⟨w.heap.size, 1, none⟩ = some (.int .i64 s1) := B2.cell 1
  have x2 : w2.cell? ⟨w.heap.size, 2, none⟩ = some (.slice (some ⟨g, 0, none⟩) n d) := B2.cell 2
  refine wp_region_still_tail 13 (by kernel_rfl) (by kernel_rfl) ?_
  simp only [List.take_succ_cons, List.take_zero, List.drop_succ_cons, List.drop_zero]
  repeat (first | still_step | still_call (mod_same _ _ _ hp (by omega)))
  refine wpStill_nil ?_
  change wpList _ _ _ _ _ w2.drew
  have o3 := o2.drew
  have V3 := V2.drew
  have B3 := B2.drew
  have R3 := R2.drew
  have S3 : w.heap.size + 2 ≤ w2.drew.heap.size := S2
  clear y0 y1 y2 x0 x1 x2 o2 V2 B2 R2 S2
  generalize w2.drew = w3 at *
  obtain ⟨_, E, _, _, y0, y1, y2⟩ := o3.at i hi
  cases E
  have y3 := y2 ((x + k) % p)
  rw [← HBI.out] at y3
  have x0 : w3.cell? ⟨w.heap.size, 0, none⟩ = some (.int .i64 s0) := B3.cell 0
  have x1 : w3.cell? ⟨w.heap.size, 1, none⟩ = some (.int .i64 s1) := B3.cell 1
  have x2 : w3.cell? ⟨w.heap.size, 2, none⟩ = some (.slice (some ⟨g, 0, none⟩) n d) := B3.cell 2
  have r0 : w3.cell? ⟨w.heap.size + 1, 0, none⟩ = some (.int .i64 0) := R3.cell 0
  have r1 : w3.cell? ⟨w.heap.size + 1, 1, none⟩ = some (.int .i64 0) := R3.cell 1
  have r2 : w3.cell? ⟨w.heap.size + 1, 2, none⟩ = some (.slice none 0 0) := R3.cell 2
  have q0 : w3.frozen? ⟨w.heap.size + 1, 0, none⟩ = false := R3.frozen 0
  have q1 : w3.frozen? ⟨w.heap.size + 1, 1, none⟩ = false := R3.frozen 1
  have q2 : w3.frozen? ⟨w.heap.size + 1, 2, none⟩ = false := R3.frozen 2
  have HY := Lib.hid y3
  clear y2 y3
  go_wp2
  have G := (((Only.refl [w.heap.size + 1] (w3.setCell ⟨g, i, none⟩ (.int .i64 ((x + k) % p)))).setCell ⟨w.heap.size + 1, 0, none⟩ (.int .i64 s0) (by simp)).setCell ⟨w.heap.size + 1, 1, none⟩ (.int .i64 s1) (by simp)).setCell ⟨w.heap.size + 1, 2, none⟩ (.slice (some ⟨g, 0, none⟩) n d) (by simp)
  have V4 := V3.setCell (p := ⟨g, i, none⟩) (by show w.heap.size ≤ g; omega) (.int .i64 ((x + k) % p))
  exact bodyPost_ret (v := .agg #[.int .i64 s0, .int .i64 s1, .slice (some ⟨g, 0, none⟩) n d]) (by simp [results, Tryd.results86, go_sem, r0, r1, r2]) rfl ⟨_, _, rfl, (HY.out.only G (fun q hq hq' => by
    obtain ⟨z, hz, _, rfl⟩ := mem_foot hq
    cases hz
    simp at hq'; omega)).lower (by omega), V4.trans (G.below V4.size (by simp))⟩
set_option maxHeartbeats 4000000 in
set_option maxRecDepth 100000 in
theorem ptBend_any (p s0 s1 : Int) (a : Option Addr) (n c : Nat) (l : List Int) (i : Nat) (k : Int) (w : World) (h : Ints w a n c l) (hs : n ≤ 1048576) (hp : 1 ≤ p) (hp2 : p ≤ 1000) (hl : ∀ x ∈ l, 0 ≤ x ∧ x ≤ p - 1) (hi : i < n) (hk : 0 ≤ k) (hk2 : k ≤ p - 1) :
    Calls Tryd.prog 119 #[.int .i64 p, .agg #[.int .i64 s0, .int .i64 s1, .slice a n c], .int .i64 i, .int .i64 k] w fun e w' => ∃ b d, e = .returned (.agg #[.int .i64 s0, .int .i64 s1, .slice b n d]) ∧ Own w' w.heap.size b n d (bendI p l i k) ∧ Below w.heap.size w w' := by
  have rx : 0 ≤ l.getD i 0 ∧ l.getD i 0 ≤ p - 1 := hl _ (getD_mem l i (by rw [← h.len]; exact hi))
  have HBI : Hid (bendI p l i k = l.set i ((l.getD i 0 + k) % p)) := rfl
  clear hl
  obtain ⟨x, hx⟩ : ∃ x, l.getD i 0 = x := ⟨_, rfl⟩
  rw [hx] at rx HBI
  have HX := Lib.hid hx
  clear hx
  have t1 : IntKind.i64.wrap (x + k) = x + k := IntWalk.i64_in _ (by omega)
  have t2 : (x + k).tmod p = (x + k) % p := Int.tmod_eq_emod_of_nonneg (by omega)
  have t3 : IntKind.i64.wrap ((x + k) % p) = (x + k) % p := IntWalk.i64_in _ (by have := Int.emod_nonneg (x + k) (by omega : p ≠ 0); have := Int.emod_lt_of_pos (x + k) (by omega : 0 < p); omega)
  have t7 : (p == 0) = false := by simp; omega
  have t8 : (p = 0) = False := by simp; omega
  have V0 : Below w.heap.size w ((w.alloc (.cells #[.int .i64 s0, .int .i64 s1, .slice a n c] 44)).alloc (.cells #[.int .i64 0, .int .i64 0, .slice none 0 0] 44)) := ((Below.refl _ _).alloc (Nat.le_refl _) _).alloc (by simp) _
  have B0 : Blk ((w.alloc (.cells #[.int .i64 s0, .int .i64 s1, .slice a n c] 44)).alloc (.cells #[.int .i64 0, .int .i64 0, .slice none 0 0] 44)) w.heap.size 44 #[.int .i64 s0, .int .i64 s1, .slice a n c] := (Blk.new w _ _).alloc _
  have R0 : Blk ((w.alloc (.cells #[.int .i64 s0, .int .i64 s1, .slice a n c] 44)).alloc (.cells #[.int .i64 0, .int .i64 0, .slice none 0 0] 44)) (w.heap.size + 1) 44 #[.int .i64 0, .int .i64 0, .slice none 0 0] := by simpa using (Blk.new (w.alloc (.cells #[.int .i64 s0, .int .i64 s1, .slice a n c] 44)) 44 #[.int .i64 0, .int .i64 0, .slice none 0 0])
  have S0 : w.heap.size + 2 ≤ ((w.alloc (.cells #[.int .i64 s0, .int .i64 s1, .slice a n c] 44)).alloc (.cells #[.int .i64 0, .int .i64 0, .slice none 0 0] 44)).heap.size := by simp
  go_enter Tryd.func119, Tryd.ntmps119
  go_wp2
  generalize ((w.alloc (.cells #[.int .i64 s0, .int .i64 s1, .slice a n c] 44)).alloc (.cells #[.int .i64 0, .int .i64 0, .slice none 0 0] 44)) = w0 at *
  have x0 : w0.cell? ⟨w.heap.size, 0, none⟩ = some (.int .i64 s0) := B0.cell 0
  have x1 : w0.cell? ⟨w.heap.size, 1, none⟩ = some (.int .i64 s1) := B0.cell 1
  have x2 : w0.cell? ⟨w.heap.size, 2, none⟩ = some (.slice a n c) := B0.cell 2
  have hb : w.heap.size ≠ w0.heap.size := by omega
  go_region_held3 (fun W => W.cell? ⟨w.heap.size, 0, none⟩ = some (.int .i64 s0) ∧ W.cell? ⟨w.heap.size, 1, none⟩ = some (.int .i64 s1) ∧ W.cell? ⟨w.heap.size, 2, none⟩ = some (.slice a n c))
    (first | go_keep | exact ⟨keepA _ x0, keepA _ x1, keepA _ x2⟩ | exact ⟨keepC u (keepA _ x0), keepC u (keepA _ x1), keepC u (keepA _ x2)⟩ | exact ⟨keepA _ (keepC u x0), keepA _ (keepC u x1), keepA _ (keepC u x2)⟩ | exact ⟨keepC u x0, keepC u x1, keepC u x2⟩ | exact ⟨cellFar (cellFar (cellFar (keepC u (keepA _ x0)) hb) hb) hb, cellFar (cellFar (cellFar (keepC u (keepA _ x1)) hb) hb) hb, cellFar (cellFar (cellFar (keepC u (keepA _ x2)) hb) hb) hb⟩)
    (first | (go_at_call 120; refine (l1Own_any _ _ _ l _ ((h.below V0).alloc _).drew (by omega)).mono ?_; rintro e w1 ⟨b, d, rfl, o1, u⟩; have BO : Blk w1 w0.heap.size 44 #[.int .i64 0, .int .i64 0, .slice none 0 0] := Blk.below (Blk.new w0 44 #[.int .i64 0, .int .i64 0, .slice none 0 0]).drew u; have e0 : w1.cell? ⟨w0.heap.size, 0, none⟩ = some (.int .i64 0) := BO.cell 0; have e1 : w1.cell? ⟨w0.heap.size, 1, none⟩ = some (.int .i64 0) := BO.cell 1; have e2 : w1.cell? ⟨w0.heap.size, 2, none⟩ = some (.slice none 0 0) := BO.cell 2; have f0 : w1.frozen? ⟨w0.heap.size, 0, none⟩ = false := BO.frozen 0; have f1 : w1.frozen? ⟨w0.heap.size, 1, none⟩ = false := BO.frozen 1; have f2 : w1.frozen? ⟨w0.heap.size, 2, none⟩ = false := BO.frozen 2) | (go_at_call 120; refine (l1Own_any _ _ _ l _ (h.below V0).drew (by omega)).mono ?_; rintro e w1 ⟨b, d, rfl, o1, u⟩))
  all_goals first
    | (have u1 : Below w0.heap.size w0 w1 := ((Below.refl _ w0).alloc (Nat.le_refl _) (.cells #[.int .i64 0, .int .i64 0, .slice none 0 0] 44)).drew.trans (u.mono (by simp))
       have G : Only [w0.heap.size] w1 (((w1.setCell ⟨w0.heap.size, 0, none⟩ (.int .i64 s0)).setCell ⟨w0.heap.size, 1, none⟩ (.int .i64 s1)).setCell ⟨w0.heap.size, 2, none⟩ (.slice b n d)) := (((Only.refl [w0.heap.size] w1).setCell ⟨w0.heap.size, 0, none⟩ (.int .i64 s0) (by simp)).setCell ⟨w0.heap.size, 1, none⟩ (.int .i64 s1) (by simp)).setCell ⟨w0.heap.size, 2, none⟩ (.slice b n d) (by simp)
       have hO0 : ∀ q ∈ foot b d, w0.heap.size + 1 ≤ q := fun q hq => by have := (o1.feet q hq).1; simpa using this
       have hV1 := V0.trans (u1.mono V0.size)
       have hV := hV1.trans (G.below hV1.size (fun q hq => by simp at hq; omega))
       have hR := (R0.below u1).only G (by simp; omega)
       have hO := (o1.only G (fun q hq hq' => by have := hO0 q hq; simp at hq'; omega)).lower (b' := w.heap.size + 2) (by simp; omega)
       have hQ : Hid (∀ q ∈ foot b d, q ≠ w0.heap.size) := Lib.hid (fun q hq => by have := hO0 q hq; omega)
       have hBO : Blk (((w1.setCell ⟨w0.heap.size, 0, none⟩ (.int .i64 s0)).setCell ⟨w0.heap.size, 1, none⟩ (.int .i64 s1)).setCell ⟨w0.heap.size, 2, none⟩ (.slice b n d)) w0.heap.size 44 #[.int .i64 s0, .int .i64 s1, .slice b n d] := ((BO.set_ 0 (.int .i64 s0)).set_ 1 (.int .i64 s1)).set_ 2 (.slice b n d)
       have hob : w.heap.size + 2 ≤ w0.heap.size := S0
       clear u1 G hO0 hV1 u BO e0 e1 e2 f0 f1 f2 o1 V0 B0 R0 S0 x0 x1 x2
       generalize (((w1.setCell ⟨w0.heap.size, 0, none⟩ (.int .i64 s0)).setCell ⟨w0.heap.size, 1, none⟩ (.int .i64 s1)).setCell ⟨w0.heap.size, 2, none⟩ (.slice b n d)) = W at *
       generalize w0.heap.size = ob at *)
    | (have u1 : Below w0.heap.size w0 w1 := (Below.refl _ w0).drew.trans u
       have hV1 := V0.trans (u1.mono V0.size)
       have hV := hV1.alloc hV1.size (.cells #[.int .i64 s0, .int .i64 s1, .slice b n d] 44)
       have hR := (R0.below u1).alloc (.cells #[.int .i64 s0, .int .i64 s1, .slice b n d] 44)
       have hQ : Hid (∀ q ∈ foot b d, q ≠ w1.heap.size) := Lib.hid (fun q hq => by have := (o1.feet q hq).2; omega)
       have hO := (o1.alloc (.cells #[.int .i64 s0, .int .i64 s1, .slice b n d] 44)).lower (b' := w.heap.size + 2) S0
       have hBO : Blk (w1.alloc (.cells #[.int .i64 s0, .int .i64 s1, .slice b n d] 44)) w1.heap.size 44 #[.int .i64 s0, .int .i64 s1, .slice b n d] := Blk.new w1 44 #[.int .i64 s0, .int .i64 s1, .slice b n d]
       have hob : w.heap.size + 2 ≤ w1.heap.size := Nat.le_trans S0 u1.size
       clear u1 hV1 u o1 V0 B0 R0 S0 x0 x1 x2
       generalize (w1.alloc (.cells #[.int .i64 s0, .int .i64 s1, .slice b n d] 44)) = W at *
       generalize w1.heap.size = ob at *)
  all_goals
    obtain ⟨g, rfl, g0, g1, y0, y1, y2⟩ := hO.at i hi
    rw [HX.out] at y0
    have hgo : g ≠ ob := hQ.out g (foot_mem (x := ⟨g, 0, none⟩) (by have := hO.cap; omega))
    have hgo' : ¬ ob = g := fun h => hgo h.symm
    have x0 : W.cell? ⟨ob, 0, none⟩ = some (.int .i64 s0) := hBO.cell 0
    have x1 : W.cell? ⟨ob, 1, none⟩ = some (.int .i64 s1) := hBO.cell 1
    have x2 : W.cell? ⟨ob, 2, none⟩ = some (.slice (some ⟨g, 0, none⟩) n d) := hBO.cell 2
    go_wp2
    refine wp_region_still_tail 13 (by kernel_rfl) (by kernel_rfl) ?_
    simp only [List.take_succ_cons, List.take_zero, List.drop_succ_cons, List.drop_zero]
    repeat still_step
    refine wpStill_nil ?_
    change wpList _ _ _ _ _ W.drew
    have o3 := hO.drew
    have V3 := hV.drew
    have B3 := hBO.drew
    have R3 := hR.drew
    clear y0 y1 y2 x0 x1 x2 hO hV hBO hR
    generalize W.drew = w3 at *
    obtain ⟨_, E, _, _, y0, y1, y2⟩ := o3.at i hi
    cases E
    have y3 := y2 ((x + k) % p)
    rw [← HBI.out] at y3
    have x0 : w3.cell? ⟨ob, 0, none⟩ = some (.int .i64 s0) := B3.cell 0
    have x1 : w3.cell? ⟨ob, 1, none⟩ = some (.int .i64 s1) := B3.cell 1
    have x2 : w3.cell? ⟨ob, 2, none⟩ = some (.slice (some ⟨g, 0, none⟩) n d) := B3.cell 2
    have r0 : w3.cell? ⟨w.heap.size + 1, 0, none⟩ = some (.int .i64 0) := R3.cell 0
    have r1 : w3.cell? ⟨w.heap.size + 1, 1, none⟩ = some (.int .i64 0) := R3.cell 1
    have r2 : w3.cell? ⟨w.heap.size + 1, 2, none⟩ = some (.slice none 0 0) := R3.cell 2
    have q0 : w3.frozen? ⟨w.heap.size + 1, 0, none⟩ = false := R3.frozen 0
    have q1 : w3.frozen? ⟨w.heap.size + 1, 1, none⟩ = false := R3.frozen 1
    have q2 : w3.frozen? ⟨w.heap.size + 1, 2, none⟩ = false := R3.frozen 2
    have HY := Lib.hid y3
    clear y2 y3
    go_wp2
    have G := (((Only.refl [w.heap.size + 1] (w3.setCell ⟨g, i, none⟩ (.int .i64 ((x + k) % p)))).setCell ⟨w.heap.size + 1, 0, none⟩ (.int .i64 s0) (by simp)).setCell ⟨w.heap.size + 1, 1, none⟩ (.int .i64 s1) (by simp)).setCell ⟨w.heap.size + 1, 2, none⟩ (.slice (some ⟨g, 0, none⟩) n d) (by simp)
    have V4 := V3.setCell (p := ⟨g, i, none⟩) (by show w.heap.size ≤ g; omega) (.int .i64 ((x + k) % p))
    exact bodyPost_ret (v := .agg #[.int .i64 s0, .int .i64 s1, .slice (some ⟨g, 0, none⟩) n d]) (by simp [results, Tryd.results119, go_sem, r0, r1, r2]) rfl ⟨_, _, rfl, (HY.out.only G (fun q hq hq' => by
      obtain ⟨z, hz, _, rfl⟩ := mem_foot hq
      cases hz
      simp at hq'; omega)).lower (by omega), V4.trans (G.below V4.size (by simp))⟩
end Go.Proofs.YtlmdckcohoddnaaDoor
namespace Go.Proofs.YtlmdckcohoddnaaDoor
open Go.ChangeShapes Go.WideShapes Go.Deep Go.RowKit
section
variable {H : Type} {enc : TypeId × Value → H} {P : Program} {w : World} {base : Nat} {spare : Nat → Bool} {held : Bool}
theorem open_struct {r : Reach} {b0 : Nat} {t : TypeId} {fs : Array Field} {v : Value} {d : DataW H} {p : List MemPlace} (hs : P.underlying t = some (.struct fs)) (hone : oneCellFields P fs = true) (hC : P.cellsOf t = fs.size)
    (hv : Value.okWide P w r b0 t v) (h : DataW.Trod enc P w base spare held t v d p) :
    ∃ (vs : List Value) (n : Nat), v = .agg vs.toArray ∧ vs.length = fs.size ∧ ∀ (j : Nat) (f : Field), fs[j]? = some f → ∃ u y, vs[j]? = some u ∧ DataW.trod enc P w base spare held n f.type [u] = some y := by
  obtain ⟨cs, rfl, hsz⟩ := okWide_struct hs hv
  obtain ⟨fuel, hf⟩ := h
  obtain ⟨ys, n, _, _, _, hyl, hg⟩ := DataW.trod_struct hs hf
  refine ⟨cs.toList, n, rfl, by simp [hsz, hC], fun j f hj => ?_⟩
  obtain ⟨ho, hk⟩ := hone_of hone j f hj
  have hjl : j < fs.size := (Array.getElem?_eq_some_iff.1 hj).1
  have hcl : j < cs.toList.length := by simp [hsz, hC, hjl]
  have h1 := hg j f hj
  rw [ho, hk] at h1
  have hone' : ((Value.agg cs).cells.toList.drop j).take 1 = [cs.toList[j]] := by
    show (cs.toList.drop j).take 1 = _
    rw [List.drop_eq_getElem_cons hcl]
    rfl
  rw [hone'] at h1
  have hys : ys[j]? = some (ys[j]'(by omega)) := List.getElem?_eq_getElem (by omega)
  exact ⟨_, _, List.getElem?_eq_getElem hcl, h1.trans hys⟩
theorem field_int {t : TypeId} {k : IntKind} {n : Nat} {u : Value} {y : DataW H × List MemPlace} (ht : P.underlying t = some (.int k)) (h : DataW.trod enc P w base spare held n t [u] = some y) : ∃ x, u = .int k x ∧ (Lit.int k x).wf = true := by
  obtain ⟨x, h1, _, h3⟩ := DataW.trod_int ht h
  simp at h1
  exact ⟨x, h1, h3⟩
theorem field_ints {t e : TypeId} {n : Nat} {u : Value} {y : DataW H × List MemPlace} (ht : P.underlying t = some (.slice e)) (he : P.underlying e = some (.int .i64)) (hc : P.cellsOf e = 1) (h : DataW.trod enc P w base (fun _ => true) held n t [u] = some y) :
    ∃ a m c l, u = .slice a m c ∧ Ints w a m c l ∧ Wf l := by
  rcases open_ints ht he hc h with ⟨hcs, _⟩ | ⟨x, l, c, zs, hcs, _, hl, hm, hz, _, hcell, hwz⟩
  · simp at hcs
    exact ⟨none, 0, 0, [], hcs, Ints.nil0 w, fun x hx => by cases hx⟩
  · simp at hcs
    exact ⟨some x, l, c, zs.take l, hcs, Ints.of_row hl hm (by simpa using hz) hcell, fun x hx => wf_range (hwz x (List.mem_of_mem_take hx))⟩
def cellI (w : World) (a : Addr) (q : Nat) : Int := match w.cell? (a.add q) with
  | some (.int .i64 x) => x
  | _ => 0
theorem field_flat {t e : TypeId} {fs : Array Field} {n : Nat} {u : Value} {y : DataW H × List MemPlace} (ht : P.underlying t = some (.slice e)) (he : P.underlying e = some (.struct fs)) (hone : oneCellFields P fs = true) (hC : P.cellsOf e = fs.size)
    (hpos : 0 < fs.size) (hint : ∀ (j : Nat) (f : Field), fs[j]? = some f → P.underlying f.type = some (.int .i64)) (h : DataW.trod enc P w base (fun _ => true) held n t [u] = some y) :
    ∃ a m c l, u = .slice a m c ∧ Flat fs.size w a m c l ∧ Wf l := by
  rcases open_slice ht h with ⟨hcs, _⟩ | ⟨x, l, c, m, n1, _, _, hcs, _, hl, hm, hmm, _, hi⟩
  · simp at hcs
    exact ⟨none, 0, 0, [], hcs, ⟨by simp, Nat.le_refl _, Nat.zero_le _, fun _ => rfl, 0, 0, fun h => absurd h (by omega), fun i u hu => by simp at hu⟩, fun x hx => by cases hx⟩
  · simp at hcs hmm
    subst hmm
    have each : ∀ q, q < l * fs.size → w.cell? (x.add q) = some (.int .i64 (cellI w x q)) ∧ (Lit.int .i64 (cellI w x q)).wf = true := fun q hq => by
      have hq1 : q / fs.size < m := Nat.lt_of_lt_of_le (Nat.div_lt_of_lt_mul (by rw [Nat.mul_comm]; exact hq)) hl
      have hq2 : q % fs.size < fs.size := Nat.mod_lt _ hpos
      have hfq := Array.getElem?_eq_getElem hq2
      obtain ⟨es, hes, hte⟩ := hi _ hq1
      obtain ⟨_, hel, hea⟩ := World.cells?_some hes
      obtain ⟨gs, _, _, _, _, hgl, hg⟩ := DataW.trod_struct he hte
      obtain ⟨ho, hk⟩ := hone_of hone _ _ hfq
      have hin : q % fs.size < es.length := by rw [hel, hC]; exact hq2
      have hy := hg _ _ hfq
      rw [ho, hk, List.drop_eq_getElem_cons hin, List.take_succ_cons, List.take_zero, List.getElem?_eq_getElem (show q % fs.size < gs.length by omega)] at hy
      have hc := hea _ (show q % fs.size < P.cellsOf e by rw [hC]; exact hq2)
      rw [Go.Deep.add_add, hC, Nat.div_add_mod', List.getElem?_eq_getElem hin] at hc
      obtain ⟨z, hz0, hz⟩ := field_int (hint _ _ hfq) hy
      rw [hz0] at hc
      have : cellI w x q = z := by unfold cellI; rw [hc]
      rw [this]
      exact ⟨hc, hz⟩
    have hcell : ∀ i, i < ((List.range (l * fs.size)).map (cellI w x)).length → w.cell? (x.add i) = some (.int .i64 (((List.range (l * fs.size)).map (cellI w x)).getD i 0)) := fun i hi => by
      simp at hi
      rw [(each i hi).1]
      simp [List.getD, hi]
    refine ⟨some x, l, m, (List.range (l * fs.size)).map (cellI w x), hcs, ?_, fun z hz => ?_⟩
    · refine ⟨by simp, hl, hm, fun h => (by cases h), ?_⟩
      by_cases h0 : 0 < l * fs.size
      · obtain ⟨b, off, rfl, hc⟩ := ints_at hcell (by simpa using h0)
        refine ⟨b, off, fun _ => rfl, fun i u hu => ?_⟩
        rw [List.getElem?_map] at hu
        obtain ⟨z, hz, rfl⟩ := Option.map_eq_some_iff.1 hu
        have hil := (List.getElem?_eq_some_iff.1 hz).1
        rw [hc i hil]
        simp [List.getD, hz]
      · have hl0 : l = 0 := by
          rcases Nat.eq_zero_or_pos l with h | h
          · exact h
          · exact absurd (Nat.mul_pos h hpos) h0
        subst hl0
        exact ⟨0, 0, fun h => absurd h (by omega), fun i u hu => by simp at hu⟩
    · obtain ⟨q, hq, rfl⟩ := List.mem_map.1 hz
      exact wf_range (each q (List.mem_range.1 hq)).2
end
theorem list11 {l : List Value} (h : l.length = 11) : ∃ a b c d e f g h i j k, l = [a, b, c, d, e, f, g, h, i, j, k] := by
  match l, h with
  | [a, b, c, d, e, f, g, h, i, j, k], _ => exact ⟨a, b, c, d, e, f, g, h, i, j, k, rfl⟩
end Go.Proofs.YtlmdckcohoddnaaDoor
namespace Go.Proofs.YtlmdckcohoddnaaDoor
open Go.ChangeShapes Go.WideShapes Go.Deep Go.RowKit
section
variable {H : Type} {enc : TypeId × Value → H} {P : Program} {w : World} {base : Nat} {held : Bool}
theorem chunk {xs : List Value} {es : List Value} {i sz : Nat} (he : es.length = sz) (h : ∀ j, j < sz → xs[i + j]? = es[j]?) : (xs.drop i).take sz = es := by
  apply List.ext_getElem?
  intro j
  by_cases hj : j < sz
  · rw [List.getElem?_take_of_lt hj, List.getElem?_drop, h j hj]
  · rw [List.getElem?_eq_none (by simp; omega), List.getElem?_eq_none (by omega)]
theorem field_row {t e sz : Nat} {n : Nat} {u : Value} {y : DataW H × List MemPlace} (ht : P.underlying t = some (.slice e)) (hC : P.cellsOf e = sz) (hpos : 0 < sz) (h : DataW.trod enc P w base (fun _ => true) held n t [u] = some y) :
    ∃ a m c xs k, u = .slice a m c ∧ RowC w a m c sz xs ∧ ∀ q, q < m → ∃ z, DataW.trod enc P w base (fun _ => true) held k e ((xs.drop (q * sz)).take sz) = some z := by
  rcases open_slice ht h with ⟨hcs, _⟩ | ⟨x, l, c, m, n1, _, _, hcs, _, hl, hm, hmm, _, hi⟩
  · simp at hcs
    exact ⟨none, 0, 0, [], 0, hcs, ⟨by simp, Nat.le_refl _, Nat.zero_le _, fun _ => rfl, 0, 0, fun h => absurd h (by omega), fun i u hu => by simp at hu⟩, fun q hq => absurd hq (by omega)⟩
  · simp at hcs hmm
    subst hmm
    have each : ∀ q j, q < l → j < sz → ∃ es, DataW.trod enc P w base (fun _ => true) held n1 e es = some (‹Nat → DataW H› q, ‹Nat → List MemPlace› q) ∧ es.length = sz ∧ w.cell? (x.add (q * sz + j)) = es[j]? := fun q j hq hj => by
      obtain ⟨es, hes, hte⟩ := hi q (by omega)
      obtain ⟨_, hel, hea⟩ := World.cells?_some hes
      rw [hC] at hel hea
      have hc := hea j hj
      rw [Go.Deep.add_add] at hc
      exact ⟨es, hte, hel, hc⟩
    have some_ : ∀ i, i < l * sz → ∃ v, w.cell? (x.add i) = some v := fun i h => by
      have hq : i / sz < l := Nat.div_lt_of_lt_mul (by rw [Nat.mul_comm]; exact h)
      obtain ⟨es, _, hl2, hc⟩ := each (i / sz) (i % sz) hq (Nat.mod_lt _ hpos)
      rw [Nat.div_add_mod'] at hc
      have : i % sz < es.length := by rw [hl2]; exact Nat.mod_lt _ hpos
      exact ⟨_, by rw [hc, List.getElem?_eq_getElem this]⟩
    let xs : List Value := (List.range (l * sz)).map fun i => (w.cell? (x.add i)).getD (.bool false)
    have hxs : ∀ i, i < l * sz → xs[i]? = w.cell? (x.add i) := fun i hi => by
      obtain ⟨v, hv⟩ := some_ i hi
      show ((List.range (l * sz)).map _)[i]? = _
      rw [List.getElem?_map, List.getElem?_range hi, Option.map_some, hv]
      rfl
    have hxl : xs.length = l * sz := by show ((List.range (l * sz)).map _).length = _; simp
    refine ⟨some x, l, m, xs, n1, hcs, ⟨hxl, hl, hm, (fun h => by cases h), ?_⟩, fun q hq => ?_⟩
    · by_cases h0 : 0 < l * sz
      · obtain ⟨v, hv⟩ := some_ 0 h0
        obtain ⟨b, off, spot⟩ := x
        have hspot : spot = none := by simpa [Addr.add] using World.cell?_spot hv
        subst hspot
        refine ⟨b, off, fun _ => rfl, fun i u hu => ?_⟩
        have hil : i < l * sz := by rw [← hxl]; exact (List.getElem?_eq_some_iff.1 hu).1
        rw [← Go.WideShapes.add_plain, ← hxs i hil]
        exact hu
      · have hl0 : l = 0 := by
          rcases Nat.eq_zero_or_pos l with h | h
          · exact h
          · exact absurd (Nat.mul_pos h hpos) h0
        subst hl0
        exact ⟨0, 0, fun h => absurd h (by omega), fun i u hu => by have := (List.getElem?_eq_some_iff.1 hu).1; rw [hxl] at this; omega⟩
    · obtain ⟨es, hes, hte⟩ := hi q (by omega)
      obtain ⟨_, hel, hea⟩ := World.cells?_some hes
      rw [hC] at hel hea
      have : (xs.drop (q * sz)).take sz = es := chunk hel (fun j hj => by
        have hlt : q * sz + j < l * sz := by
          have : (q + 1) * sz ≤ l * sz := Nat.mul_le_mul_right _ hq
          rw [Nat.add_mul] at this
          omega
        rw [hxs _ hlt, ← hea j hj, Go.Deep.add_add])
      rw [this]
      exact ⟨_, hte⟩
theorem field_intss {t e e2 : TypeId} {n : Nat} {u : Value} {y : DataW H × List MemPlace} (ht : P.underlying t = some (.slice e)) (hC : P.cellsOf e = 1) (he : P.underlying e = some (.slice e2)) (he2 : P.underlying e2 = some (.int .i64)) (hc2 : P.cellsOf e2 = 1)
    (h : DataW.trod enc P w base (fun _ => true) held n t [u] = some y) : ∃ a m c rs, u = .slice a m c ∧ IntSS w a m c rs ∧ ∀ r ∈ rs, Wf r.2.2 := by
  obtain ⟨a, m, c, xs, k, rfl, hr, hi⟩ := field_row ht hC (by decide) h
  have hxl := hr.1
  have each : ∀ q, q < m → ∃ r : RowD, xs[q]? = some (rowV r) ∧ Ints w r.1 r.2.2.length r.2.1 r.2.2 ∧ Wf r.2.2 := fun q hq => by
    obtain ⟨z, hz⟩ := hi q hq
    have hlt : q < xs.length := by omega
    rw [Nat.mul_one, List.drop_eq_getElem_cons hlt, List.take_succ_cons, List.take_zero] at hz
    obtain ⟨b, m2, d, l, hu, hI, hw⟩ := field_ints he he2 hc2 hz
    obtain rfl := hI.len
    exact ⟨(b, d, l), by rw [List.getElem?_eq_getElem hlt, hu]; rfl, hI, hw⟩
  obtain ⟨R, hR⟩ := choose_lt (α := RowD) (p := fun q r => xs[q]? = some (rowV r) ∧ Ints w r.1 r.2.2.length r.2.1 r.2.2 ∧ Wf r.2.2) each
  refine ⟨a, m, c, (List.range m).map R, rfl, ⟨?_, fun r hr' => ?_⟩, fun r hr' => ?_⟩
  · have : ((List.range m).map R).map rowV = xs := by
      apply List.ext_getElem?
      intro q
      by_cases hq : q < m
      · rw [(hR q hq).1]; simp [hq]
      · rw [List.getElem?_eq_none (by simp; omega), List.getElem?_eq_none (by omega)]
    rw [this]
    exact hr
  · obtain ⟨q, hq, rfl⟩ := List.mem_map.1 hr'
    exact (hR q (List.mem_range.1 hq)).2.1
  · obtain ⟨q, hq, rfl⟩ := List.mem_map.1 hr'
    exact (hR q (List.mem_range.1 hq)).2.2
end
end Go.Proofs.YtlmdckcohoddnaaDoor
