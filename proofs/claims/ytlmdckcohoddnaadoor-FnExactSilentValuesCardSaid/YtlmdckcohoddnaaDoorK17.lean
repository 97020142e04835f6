/- Lemmas and walks that the claim's proof rests on, part 17. -/
import Derived.Test.YtlmdckcohoddnaaDoorK3
import Derived.Test.YtlmdckcohoddnaaDoorK13
import Derived.Test.YtlmdckcohoddnaaDoorK14
import Derived.Test.YtlmdckcohoddnaaDoorK16
namespace Go.Proofs.YtlmdckcohoddnaaDoor
open Go.RowKit
def lenV : Value → Nat
  | .slice _ n _ => n
  | _ => 0
def chgP (P at_ : Int) (i : Nat) (k : Int) (j : Int) (m : MsD) : MsD := if j = at_ then (m.1, m.2.1, bendI P m.2.2 i k) else m
theorem PlB.re {F G w x s k h} (p : PlB F w x s k h) (hG : ∀ q ∈ G, q ∈ F ∨ w.heap.size ≤ q) : PlB G w x s k h := by
  obtain ⟨p1, p2, rs, p3, p4, q1, q2, q3, q4⟩ := p
  have J : ∀ {a : Option Addr} {n : Nat}, Off F a n → (∀ H : List Nat, (∀ q ∈ H, w.heap.size ≤ q) → Off H a n) → Off G a n := fun h1 h2 hn x hx hm =>
    (hG _ hm).elim (h1 hn x hx) (fun hle => h2 [x.block] (by simpa using hle) hn x hx (by simp))
  exact ⟨p1, p2, rs, p3, p4, J q1 (fun H hH => RowC.off p1 (by omega) hH), J q2 (fun H hH => RowC.off p2.rowC (by omega) hH), J q3 (fun H hH => RowC.off p3.row (by omega) hH), fun r hr => J (q4 r hr) (fun H hH => RowC.off (p3.inn r hr).rowC (by omega) hH)⟩
theorem takeM_party (a : Pl) (m : MsD) : (takeM a m).party = a.party := by
  unfold takeM takeP
  split <;> rfl
def RunE (chg : Int → MsD → MsD) (RP : Pl × Pl × List MsD) (k : Nat) (s t : Pl) (D : List MsD) : Prop :=
  (k < 3 ∧ RunS k s t ∧ RP = runP chg (3 - k) s t D) ∨ ((s.status ≠ 0 ∨ t.status ≠ 0) ∧ RP = (s, t, D))
theorem RunE.next {chg : Int → MsD → MsD} {RP : Pl × Pl × List MsD} {k : Nat} {s t : Pl} {D : List MsD} (hk : k < 3) (hR : RunS k s t) (h : RP = runP chg (3 - k) s t D) :
    RunE chg RP (k + 1) (takeM s (chg (D.length + 1) (mesP 1 t))) (takeM t (chg D.length (mesP 0 s))) (D ++ [mesP 0 s, mesP 1 t]) := by
  rw [show 3 - k = (2 - k) + 1 by omega] at h
  unfold runP at h
  dsimp only at h
  generalize hm : chg (D.length + 1) (mesP 1 t) = cm at *
  generalize hn : chg D.length (mesP 0 s) = cn at *
  by_cases hs : (takeM s cm).status = 2 ∨ (takeM t cn).status = 2
  · rw [if_pos hs] at h
    exact Or.inr ⟨by rcases hs with e | e <;> rw [e] <;> simp, h⟩
  · rw [if_neg hs] at h
    have h1 : (takeM s cm).status ≠ 2 := fun e => hs (Or.inl e)
    have h2 : (takeM t cn).status ≠ 2 := fun e => hs (Or.inr e)
    by_cases hk2 : k < 2
    · exact Or.inl ⟨by omega, hR.next (by omega) h1 h2, by rw [h, show 3 - (k + 1) = 2 - k by omega]⟩
    · have hk3 : k = 2 := by omega
      subst hk3
      exact Or.inr ⟨Or.inl (by rw [(takeM_end h1 hR.sa).2]; simp), h⟩
end Go.Proofs.YtlmdckcohoddnaaDoor
namespace Go.Proofs.YtlmdckcohoddnaaDoor
open Go.RowKit
theorem two_runS {a b : Pl} (h : twoB a b = true) : RunS 0 a b := by
  obtain ⟨h1, h2, _, _, _, h3, h4, h5, h6⟩ := twoB_parts h
  exact ⟨PlN.of h1, PlN.of h2, h3, h4, h5, h6⟩
end Go.Proofs.YtlmdckcohoddnaaDoor
namespace Go.Proofs.YtlmdckcohoddnaaDoor
open Go.RowKit
def rbB (a b : Pl) (at_ i k : Int) : Bool := twoB a b && (inB at_ 0 5 && (inB k 0 (a.P - 1) && inB i 0 ((blen (at_ / 2).toNat : Int) - 1)))
theorem rbB_parts {a b : Pl} {at_ i k : Int} (h : rbB a b at_ i k = true) : twoB a b = true ∧ (0 ≤ at_ ∧ at_ ≤ 5) ∧ (0 ≤ k ∧ k ≤ a.P - 1) ∧ (0 ≤ i ∧ i ≤ (blen (at_ / 2).toNat : Int) - 1) := by
  unfold rbB at h
  simp only [Bool.and_eq_true] at h
  exact ⟨h.1, inB_true h.2.1, inB_true h.2.2.1, inB_true h.2.2.2⟩
theorem tdiv_two {x : Int} (h : 0 ≤ x) : x.tdiv 2 = ((x / 2).toNat : Int) := by
  rw [Int.tdiv_eq_ediv_of_nonneg h]; omega
end Go.Proofs.YtlmdckcohoddnaaDoor
namespace Go.Proofs.YtlmdckcohoddnaaDoor
open Go.RowKit
theorem mm_enters (args : Array Value) (W : World) : (callFunc 127 args).run Tryd.prog W = .ok (.enter 127 args) W :=
  enters Tryd.func127 (by kernel_rfl) (by kernel_rfl) args W
set_option maxHeartbeats 8000000 in
set_option maxRecDepth 100000 in
theorem svc_any (a : Pl) (x : PlX) (bA bL bS bT B0 g o cl : Nat) (at0 i k : Int) (T : List Nat) (j : Nat) (hj : j < 6) (fr st : Int) (p : Option Addr) (n c : Nat) (l : List Int) (w : World) (hI : SvI a x bA bL bS bT g o cl [1, at0, i, k] w T)
    (hlt : bA < B0 ∧ bL < B0 ∧ bS < B0 ∧ bT < B0) (h : Ints w p n c l) (hp : 1 ≤ a.P) (hp2 : a.P ≤ 251) (hl : ∀ v ∈ l, 0 ≤ v ∧ v ≤ a.P - 1) (hs : n ≤ 1000) (hi : (j : Int) = at0 → 0 ≤ i ∧ i < n) (hk : 0 ≤ k) (hk2 : k ≤ a.P - 1)
    (hf : ∀ q ∈ foot p c, B0 ≤ q ∧ q < w.heap.size) (hTl : ∀ q ∈ T, q < w.heap.size) :
    Calls Tryd.prog 127 (#[.int .i64 j, .agg #[.int .i64 fr, .int .i64 st, .slice p n c]] ++ #[.pointer (some ⟨bS, 0, none⟩), .pointer (some ⟨bL, 0, none⟩), .pointer (some ⟨bA, 0, none⟩), .pointer (some ⟨bT, 0, none⟩)]) w fun e w' => ∃ p' n' c', e = .returned (.agg #[.int .i64 (chgP a.P at0 i.toNat k j (fr, st, l)).1, .int .i64 (chgP a.P at0 i.toNat k j (fr, st, l)).2.1, .slice p' n' c']) ∧ Ints w' p' n' c' (chgP a.P at0 i.toNat k j (fr, st, l)).2.2 ∧ Only [bS, bT] w w' ∧
      ∃ T', SvI a x bA bL bS bT g o cl [1, at0, i, k] w' T' ∧ ∀ q ∈ T', q < w'.heap.size ∧ (q ∈ T ∨ q ∈ foot p c ∨ w.heap.size ≤ q) := by
  have hc : n ≤ c := h.2.1
  have hnl := h.len
  subst hnl
  have SI : SvI a x bA bL bS bT g o cl [1, at0, i, k] w (T ++ foot p c) := hI.more (fun q hq => List.mem_append_left _ hq)
  have Q_SI : Hid (∀ q ∈ T ++ foot p c, q < w.heap.size) := Lib.hid (fun q hq => (List.mem_append.1 hq).elim (hTl q) (fun h => (hf q h).2))
  have QT0 := Q_SI
  have LM : Hid (∀ W : World, Ints W p l.length c l → RowT W (T ++ foot p c) [bS, bT] (fr, st, p, c, l)) := Lib.hid (fun W hW => ⟨hW, hs, fun y hn hy => by
    have hy' : p = some y := hy
    have hn' : 0 < l.length := hn
    subst hy'
    have hm : y.block ∈ foot (some y) c := foot_mem (by omega)
    have := hf _ hm
    exact ⟨List.mem_append_right _ hm, by simp; omega⟩⟩)
  have IM := Lib.hid h
  have LF : Hid (∀ q ∈ foot p c, q ≠ bS ∧ q ≠ bT) := Lib.hid (fun q hq => by have := hf q hq; omega)
  have hb : (bA < w.heap.size ∧ bL < w.heap.size) ∧ bS < w.heap.size ∧ bT < w.heap.size := ⟨⟨hTl _ hI.tT.1, hTl _ hI.tT.2.1⟩, hTl _ hI.tT.2.2.1, hTl _ hI.tT.2.2.2.1⟩
  have HN := Lib.hid SI.ne
  clear hI h hf hTl
  have CB := Lib.hid (fun (h0 : (j : Int) = at0) (W : World) (h2 : Ints W p l.length c l) => bend_any a.P fr st p l.length c l i.toNat k W h2 (by omega) hp (by omega) hl (by have := hi h0; omega) hk hk2)
  have hi0 : (j : Int) = at0 → ((i.toNat : Nat) : Int) = i := fun h0 => by have := hi h0; omega
  replace hi0 := Lib.hid hi0
  clear hl hp hp2 hk hk2 hi
  unfold chgP
  have hj6 : (j : Int) < 6 := by omega
  by_cases h0 : (j : Int) = at0
  · rw [if_pos h0]
    dsimp only
    have CB2 := CB.out h0
    have hin := hi0.out h0
    simp only [hin] at CB2
    replace CB := Lib.hid CB2
    clear CB2 hin
    have d0 : ((at0 == (j : Int)) : Bool) = true := by simpa using h0.symm
    have HBL : Hid ((bendI a.P l i.toNat k).length = l.length) := Lib.hid (List.length_set ..)
    clear hi0 h0
    go_enter Tryd.func127, Tryd.ntmps127
    go_upto_region 1 with fail
    try rw [show w.heap.size + 1 + 1 = w.heap.size + 2 from rfl]
    refine Exists.elim (Blk.new_ w (b := w.heap.size) rfl 3 #[.int .i64 j]) (fun w1_a0' q => ?_)
    rw [q.1]; have B_t := q.2.1; have s_w1_a0' := q.2.2.1; have u_w1_a0' := q.2.2.2; clear q
    refine Exists.elim (Blk.new_ w1_a0' (b := w.heap.size + 1) s_w1_a0' 44 #[.int .i64 fr, .int .i64 st, .slice p l.length c]) (fun w1_a1' q => ?_)
    rw [q.1]; have B_m := q.2.1; have s_w1_a1' := q.2.2.1; have u_w1_a1' := q.2.2.2; clear q
    refine Exists.elim (Blk.new_ w1_a1' (b := w.heap.size + 2) s_w1_a1' 44 #[.int .i64 0, .int .i64 0, .slice none 0 0]) (fun w1' q => ?_)
    rw [q.1]; have B_r := q.2.1; have s_w1' := q.2.2.1; have u_w1' := q.2.2.2; clear q
    replace B_t := ((B_t.below u_w1_a1').below u_w1')
    replace B_m := (B_m.below u_w1')
    have U := (u_w1_a0'.trans ((u_w1_a1'.trans (u_w1'.mono u_w1_a1'.size)).mono u_w1_a0'.size))
    replace SI := SI.below U
    have S_w1' : w.heap.size + 3 ≤ w1'.heap.size := Nat.le_of_eq s_w1'.symm
    have V_w1' := (Only.refl [bS, bT] w).trans (Only.of_below U)
    clear u_w1_a0' u_w1_a1' u_w1' s_w1_a0' s_w1_a1' s_w1' U
    have IM1 : Ints w1' p l.length c l := IM.out.onlyOff V_w1' (fun hn y hy => by subst hy; have := LF.out _ (foot_mem (x := y) (c := c) (by omega)); simp; omega)
    obtain ⟨r1, e_s, f_s⟩ := SI.atS j hj
    have e_t_0 := B_t.a1_0
    have e_m := B_m.all3
    go_upto_region 2 with fail
    clear e_t_0 e_m
    clear e_s f_s
    have PS := SI.putS j hj (fr, st, p, c, l) (LM.out _ IM1)
    dsimp only [rowV] at PS
    refine Exists.elim PS (fun w9 q => ?_)
    clear PS
    rw [q.1]; replace SI := q.2.1; have G := q.2.2; clear q
    replace B_t := B_t.only G (by first | (simp; done) | (simp; omega))
    replace B_m := B_m.only G (by first | (simp; done) | (simp; omega))
    replace B_r := B_r.only G (by first | (simp; done) | (simp; omega))
    have V_w9 := V_w1'.thn G (fun q hq => Or.inr (by simp at hq; simp [hq]))
    have S_w9 := G.size
    clear G V_w1'
    have e_l := SI.L.a1_0
    have BT := Lib.hid B_t
    have e_t_0 := B_t.a1_0
    go_wp2_with fail
    clear e_t_0
    clear e_l
    refine (IndexFuncM_hit (some ⟨g, o, none⟩) cl 1 at0 i k 129 #[.pointer (some ⟨(w.heap.size), 0, none⟩)] _ SI.M mm1_enters (fun W u ↦ by have q := mm1_any 1 at0 i k j _ W (BT.out.below u); rw [d0] at q; exact q)).mono ?_
    rintro e w2' ⟨rfl, u_w2'⟩
    replace B_t := B_t.below u_w2'
    replace B_m := B_m.below u_w2'
    replace B_r := B_r.below u_w2'
    replace SI := SI.below u_w2'
    have S_w2' := u_w2'.size
    have V_w2' := V_w9.trans (Only.of_below u_w2')
    clear V_w9
    clear u_w2'
    clear BT
    have e_l := SI.L.a1_0
    have e_M := SI.cM
    have e_A := SI.A.a11_0
    have e_m := B_m.all3
    go_upto_region 7 with fail
    refine wp_region_still_tail 13 (by kernel_rfl) (by kernel_rfl) ?_
    simp only [List.take_succ_cons, List.take_zero, List.drop_succ_cons, List.drop_zero]
    repeat (first | still_step)
    refine wpStill_nil ?_
    change wpList _ _ _ _ _ w2'.drew
    clear e_m
    clear e_l e_M e_A
    have V_w3'_1 : Only [bS, bT] w w2'.drew := (V_w2').drew
    replace B_t := B_t.drew
    replace B_m := B_m.drew
    replace B_r := B_r.drew
    replace SI := SI.drew
    have S_w3' : w2'.heap.size + 0 ≤ w2'.drew.heap.size := by first | (simp; done) | (simp; omega) | (simp [World.setCell]; done) | (simp [World.setCell]; omega)
    generalize w2'.drew = w3' at *
    have V_w3' := V_w3'_1
    clear V_w2'
    clear V_w3'_1
    have IM2 : Ints w3' p l.length c l := IM.out.onlyOff V_w3' (fun hn y hy => by subst hy; have := LF.out _ (foot_mem (x := y) (c := c) (by omega)); simp; omega)
    go_wp2_with fail
    refine (CB.out _ IM2).mono ?_
    rintro e w4' ⟨b, d, rfl, o1, u_w4'⟩
    replace B_t := B_t.below u_w4'
    replace B_m := B_m.below u_w4'
    replace B_r := B_r.below u_w4'
    replace SI := SI.below u_w4'
    have S_w4' := u_w4'.size
    have V_w4' := V_w3'.trans (Only.of_below u_w4')
    clear V_w3'
    clear u_w4'
    have Q_o1 := Lib.hid o1.feet
    have e_m := B_m.all3
    have f_m := B_m.frz3
    go_upto_region 12 with fail
    clear e_m f_m
    have SB : Hid (∀ q ∈ foot b d, w.heap.size + 3 ≤ q) := Lib.hid (fun q hq => by have := Q_o1.out q hq; omega)
    have SB2 : Hid (∀ q ∈ foot b d, q < w4'.heap.size) := Lib.hid (fun q hq => by have := Q_o1.out q hq; omega)
    replace SI : SvI a x bA bL bS bT g o cl [1, at0, i, k] w4' (T ++ foot p c ++ foot b d) := SI.more (fun q hq => List.mem_append_left _ hq)
    replace Q_SI : Hid (∀ q ∈ T ++ foot p c ++ foot b d, q < w.heap.size ∨ w.heap.size + 3 ≤ q) := Lib.hid (fun q hq => (List.mem_append.1 hq).elim (fun h => Or.inl (Q_SI.out q h)) (fun h => Or.inr (SB.out q h)))
    refine Exists.elim (B_m.row3 (.int .i64 fr) (.int .i64 st) (.slice b l.length d)) (fun w5' q => ?_)
    rw [q.1]; replace B_m := q.2.1; have G := q.2.2; clear q
    have V_w5' : Only [bS, bT] w w5' := (V_w4').thn G (fun q hq => Or.inl (by have := (V_w4').size; simp at hq; omega))
    replace B_t := B_t.only G (by first | (simp; done) | (simp; omega))
    replace B_r := B_r.only G (by first | (simp; done) | (simp; omega))
    replace SI := SI.only G (fun q hq hq' => by have := Q_SI.out q hq; simp at hq'; omega)
    replace o1 := o1.only G (fun q hq hq' => by have := Q_o1.out q hq; simp at hq'; omega)
    have sG0 := G.size
    clear G
    clear V_w4'
    have S_w5' : w4'.heap.size + 0 ≤ w5'.heap.size := by omega
    clear sG0
    obtain ⟨r2, e_s, f_s⟩ := SI.atU j hj
    have e_t_0 := B_t.a1_0
    have e_m := B_m.all3
    go_upto_region 13 with fail
    clear e_t_0 e_m
    clear e_s f_s
    have RB : RowT w5' (T ++ foot p c ++ foot b d) [bS, bT] (fr, st, b, d, bendI a.P l i.toNat k) := ⟨by show Ints w5' b (bendI a.P l i.toNat k).length d _; rw [HBL.out]; exact o1.ints, by show (bendI a.P l i.toNat k).length ≤ 1000; rw [HBL.out]; exact hs, fun y hn hy => by
      have hy' : b = some y := hy
      have hn' : 0 < (bendI a.P l i.toNat k).length := hn
      rw [HBL.out] at hn'
      have hcd := o1.cap
      subst hy'
      have hm : y.block ∈ foot (some y) d := foot_mem (by omega)
      have := SB.out _ hm
      exact ⟨List.mem_append_right _ hm, by simp; omega⟩⟩
    have PU := SI.putU j hj _ RB
    dsimp only [rowV] at PU
    rw [HBL.out] at PU
    refine Exists.elim PU (fun w8 q => ?_)
    rw [q.1]; replace SI := q.2.1; have G := q.2.2; clear q PU RB
    replace B_t := B_t.only G (by first | (simp; done) | (simp; omega))
    replace B_m := B_m.only G (by first | (simp; done) | (simp; omega))
    replace B_r := B_r.only G (by first | (simp; done) | (simp; omega))
    replace o1 := o1.only G (fun q hq hq' => by have := Q_o1.out q hq; simp at hq'; omega)
    have V_w8 := V_w5'.thn G (fun q hq => Or.inr (by simp at hq; simp [hq]))
    have S_w8 := G.size
    clear G V_w5'
    have e_m := B_m.all3
    have e_r := B_r.all3
    have f_r := B_r.frz3
    go_wp2
    clear e_m e_r f_r
    clear B_m
    clear B_t
    refine Exists.elim (B_r.row3 (.int .i64 fr) (.int .i64 st) (.slice b l.length d)) (fun w6' q => ?_)
    rw [q.1]; replace B_r := q.2.1; have G := q.2.2; clear q
    have V_w6' : Only [bS, bT] w w6' := (V_w8).thn G (fun q hq => Or.inl (by have := (V_w8).size; simp at hq; omega))
    replace o1 := o1.only G (fun q hq hq' => by have := Q_o1.out q hq; simp at hq'; omega)
    replace SI := SI.only G (fun q hq hq' => by have := Q_SI.out q hq; simp at hq'; omega)
    have sG0 := G.size
    clear G
    clear V_w8
    have S_w6' : w8.heap.size + 0 ≤ w6'.heap.size := by omega
    clear sG0
    have e_r := B_r.all3
    exact bodyPost_ret (v := .agg #[.int .i64 fr, .int .i64 st, .slice b l.length d]) (by simp [results, Tryd.results127, go_sem, e_r]) rfl ⟨b, _, d, rfl, o1.ints, V_w6', _, SI, fun q hq => ⟨by rcases List.mem_append.1 hq with h | h; have := QT0.out q h; omega; have := SB2.out q h; omega, by rcases List.mem_append.1 hq with h | h; rcases List.mem_append.1 h with h | h; exact Or.inl h; exact Or.inr (Or.inl h); exact Or.inr (Or.inr (by have := SB.out q h; omega))⟩⟩
  · rw [if_neg h0]
    dsimp only
    have d0 : ((at0 == (j : Int)) : Bool) = false := by simpa using fun e => h0 e.symm
    clear CB hi0 h0
    go_enter Tryd.func127, Tryd.ntmps127
    go_upto_region 1 with fail
    try rw [show w.heap.size + 1 + 1 = w.heap.size + 2 from rfl]
    refine Exists.elim (Blk.new_ w (b := w.heap.size) rfl 3 #[.int .i64 j]) (fun w1_a0' q => ?_)
    rw [q.1]; have B_t := q.2.1; have s_w1_a0' := q.2.2.1; have u_w1_a0' := q.2.2.2; clear q
    refine Exists.elim (Blk.new_ w1_a0' (b := w.heap.size + 1) s_w1_a0' 44 #[.int .i64 fr, .int .i64 st, .slice p l.length c]) (fun w1_a1' q => ?_)
    rw [q.1]; have B_m := q.2.1; have s_w1_a1' := q.2.2.1; have u_w1_a1' := q.2.2.2; clear q
    refine Exists.elim (Blk.new_ w1_a1' (b := w.heap.size + 2) s_w1_a1' 44 #[.int .i64 0, .int .i64 0, .slice none 0 0]) (fun w1' q => ?_)
    rw [q.1]; have B_r := q.2.1; have s_w1' := q.2.2.1; have u_w1' := q.2.2.2; clear q
    replace B_t := ((B_t.below u_w1_a1').below u_w1')
    replace B_m := (B_m.below u_w1')
    have U := (u_w1_a0'.trans ((u_w1_a1'.trans (u_w1'.mono u_w1_a1'.size)).mono u_w1_a0'.size))
    replace SI := SI.below U
    have S_w1' : w.heap.size + 3 ≤ w1'.heap.size := Nat.le_of_eq s_w1'.symm
    have V_w1' := (Only.refl [bS, bT] w).trans (Only.of_below U)
    clear u_w1_a0' u_w1_a1' u_w1' s_w1_a0' s_w1_a1' s_w1' U
    have IM1 : Ints w1' p l.length c l := IM.out.onlyOff V_w1' (fun hn y hy => by subst hy; have := LF.out _ (foot_mem (x := y) (c := c) (by omega)); simp; omega)
    obtain ⟨r1, e_s, f_s⟩ := SI.atS j hj
    have e_t_0 := B_t.a1_0
    have e_m := B_m.all3
    go_upto_region 2 with fail
    clear e_t_0 e_m
    clear e_s f_s
    have PS := SI.putS j hj (fr, st, p, c, l) (LM.out _ IM1)
    dsimp only [rowV] at PS
    refine Exists.elim PS (fun w9 q => ?_)
    clear PS
    rw [q.1]; replace SI := q.2.1; have G := q.2.2; clear q
    replace B_t := B_t.only G (by first | (simp; done) | (simp; omega))
    replace B_m := B_m.only G (by first | (simp; done) | (simp; omega))
    replace B_r := B_r.only G (by first | (simp; done) | (simp; omega))
    have V_w9 := V_w1'.thn G (fun q hq => Or.inr (by simp at hq; simp [hq]))
    have S_w9 := G.size
    clear G V_w1'
    have e_l := SI.L.a1_0
    have BT := Lib.hid B_t
    have e_t_0 := B_t.a1_0
    go_wp2_with fail
    clear e_t_0
    clear e_l
    refine (IndexFuncM_miss (some ⟨g, o, none⟩) cl 1 at0 i k 129 #[.pointer (some ⟨(w.heap.size), 0, none⟩)] _ SI.M mm1_enters (fun W u ↦ by have q := mm1_any 1 at0 i k j _ W (BT.out.below u); rw [d0] at q; exact q)).mono ?_
    rintro e w2' ⟨rfl, u_w2'⟩
    replace B_t := B_t.below u_w2'
    replace B_m := B_m.below u_w2'
    replace B_r := B_r.below u_w2'
    replace SI := SI.below u_w2'
    have S_w2' := u_w2'.size
    have V_w2' := V_w9.trans (Only.of_below u_w2')
    clear V_w9
    clear u_w2'
    clear BT
    have IM2 : Ints w2' p l.length c l := IM.out.onlyOff V_w2' (fun hn y hy => by subst hy; have := LF.out _ (foot_mem (x := y) (c := c) (by omega)); simp; omega)
    obtain ⟨r2, e_s, f_s⟩ := SI.atU j hj
    have e_t_0 := B_t.a1_0
    have e_m := B_m.all3
    go_upto_region 13 with fail
    clear e_t_0 e_m
    clear e_s f_s
    have PS := SI.putU j hj (fr, st, p, c, l) (LM.out _ IM2)
    dsimp only [rowV] at PS
    refine Exists.elim PS (fun w8 q => ?_)
    clear PS
    rw [q.1]; replace SI := q.2.1; have G := q.2.2; clear q
    replace B_t := B_t.only G (by first | (simp; done) | (simp; omega))
    replace B_m := B_m.only G (by first | (simp; done) | (simp; omega))
    replace B_r := B_r.only G (by first | (simp; done) | (simp; omega))
    have V_w8 := V_w2'.thn G (fun q hq => Or.inr (by simp at hq; simp [hq]))
    have S_w8 := G.size
    clear G V_w2'
    have e_m := B_m.all3
    have e_r := B_r.all3
    have f_r := B_r.frz3
    go_wp2
    clear e_m e_r f_r
    clear B_m
    clear B_t
    refine Exists.elim (B_r.row3 (.int .i64 fr) (.int .i64 st) (.slice p l.length c)) (fun w3' q => ?_)
    rw [q.1]; replace B_r := q.2.1; have G := q.2.2; clear q
    have V_w3' : Only [bS, bT] w w3' := (V_w8).thn G (fun q hq => Or.inl (by have := (V_w8).size; simp at hq; omega))
    replace SI := SI.only G (fun q hq hq' => by have := Q_SI.out q hq; simp at hq'; omega)
    have sG0 := G.size
    clear G
    clear V_w8
    have S_w3' : w8.heap.size + 0 ≤ w3'.heap.size := by omega
    clear sG0
    have e_r := B_r.all3
    have IM3 : Ints w3' p l.length c l := IM.out.onlyOff V_w3' (fun hn y hy => by subst hy; have := LF.out _ (foot_mem (x := y) (c := c) (by omega)); simp; omega)
    exact bodyPost_ret (v := .agg #[.int .i64 fr, .int .i64 st, .slice p l.length c]) (by simp [results, Tryd.results127, go_sem, e_r]) rfl ⟨p, _, c, rfl, IM3, V_w3', _, SI, fun q hq => ⟨by have := Q_SI.out q hq; omega, by rcases List.mem_append.1 hq with h | h; exact Or.inl h; exact Or.inr (Or.inl h)⟩⟩
theorem runP_len (chg : Int → MsD → MsD) : ∀ (n : Nat) (a b : Pl) (l : List MsD), (runP chg n a b l).2.2.length ≤ l.length + 2 * n := by
  intro n
  induction n with
  | zero => intro a b l; exact Nat.le_refl _
  | succ n ih =>
    intro a b l
    unfold runP
    dsimp only
    split
    · simp; omega
    · refine Nat.le_trans (ih _ _ _) ?_
      simp; omega
theorem smRun_any (a b : Pl) (x z : PlX) (at0 i k : Int) (bA bL bS bT g o cl : Nat) (w : World) (h : PlR w x a.shares a.keys a.heard) (h' : PlR w z b.shares b.keys b.heard) (hT : Tbl w) (hb : rbB a b at0 i k = true)
    (hI : SvI a x bA bL bS bT g o cl [1, at0, i, k] w [bA, bL, bS, bT, g]) (hlt : bA < w.heap.size ∧ bL < w.heap.size ∧ bS < w.heap.size ∧ bT < w.heap.size ∧ g < w.heap.size) (hn0 : bS ≠ 0 ∧ bT ≠ 0) :
    Calls Tryd.prog 84 #[.agg #[.int .i64 a.P, .int .i64 a.party, .int .i64 a.input, .int .i64 a.mask, .int .i64 a.delta, .slice x.sa x.sn x.sc, .slice x.ka x.kn x.kc, .int .i64 a.step, .slice x.ha x.hn x.hc, .int .i64 a.status, .int .i64 a.out], .agg #[.int .i64 b.P, .int .i64 b.party, .int .i64 b.input, .int .i64 b.mask, .int .i64 b.delta, .slice z.sa z.sn z.sc, .slice z.ka z.kn z.kc, .int .i64 b.step, .slice z.ha z.hn z.hc, .int .i64 b.status, .int .i64 b.out], .func (.func 127) #[] #[.pointer (some ⟨bS, 0, none⟩), .pointer (some ⟨bL, 0, none⟩), .pointer (some ⟨bA, 0, none⟩), .pointer (some ⟨bT, 0, none⟩)]] w fun e w' => ∃ y F y' F' p n c G, e = .returned (.tuple #[.agg #[.int .i64 (runP (chgP a.P at0 i.toNat k) 3 a b []).1.P, .int .i64 (runP (chgP a.P at0 i.toNat k) 3 a b []).1.party, .int .i64 (runP (chgP a.P at0 i.toNat k) 3 a b []).1.input, .int .i64 (runP (chgP a.P at0 i.toNat k) 3 a b []).1.mask, .int .i64 (runP (chgP a.P at0 i.toNat k) 3 a b []).1.delta, .slice y.sa y.sn y.sc, .slice y.ka y.kn y.kc, .int .i64 (runP (chgP a.P at0 i.toNat k) 3 a b []).1.step, .slice y.ha y.hn y.hc, .int .i64 (runP (chgP a.P at0 i.toNat k) 3 a b []).1.status, .int .i64 (runP (chgP a.P at0 i.toNat k) 3 a b []).1.out], .agg #[.int .i64 (runP (chgP a.P at0 i.toNat k) 3 a b []).2.1.P, .int .i64 (runP (chgP a.P at0 i.toNat k) 3 a b []).2.1.party, .int .i64 (runP (chgP a.P at0 i.toNat k) 3 a b []).2.1.input, .int .i64 (runP (chgP a.P at0 i.toNat k) 3 a b []).2.1.mask, .int .i64 (runP (chgP a.P at0 i.toNat k) 3 a b []).2.1.delta, .slice y'.sa y'.sn y'.sc, .slice y'.ka y'.kn y'.kc, .int .i64 (runP (chgP a.P at0 i.toNat k) 3 a b []).2.1.step, .slice y'.ha y'.hn y'.hc, .int .i64 (runP (chgP a.P at0 i.toNat k) 3 a b []).2.1.status, .int .i64 (runP (chgP a.P at0 i.toNat k) 3 a b []).2.1.out], .slice p n c]) ∧
      PlO w' w.heap.size y (runP (chgP a.P at0 i.toNat k) 3 a b []).1.shares (runP (chgP a.P at0 i.toNat k) 3 a b []).1.keys (runP (chgP a.P at0 i.toNat k) 3 a b []).1.heard F ∧ PlO w' w.heap.size y' (runP (chgP a.P at0 i.toNat k) 3 a b []).2.1.shares (runP (chgP a.P at0 i.toNat k) 3 a b []).2.1.keys (runP (chgP a.P at0 i.toNat k) 3 a b []).2.1.heard F' ∧ MsO w' w.heap.size p n c (runP (chgP a.P at0 i.toNat k) 3 a b []).2.2 G ∧ Disj F F' ∧ Disj F G ∧ Disj F' G ∧ Only [bS, bT] w w' ∧ ∃ T, SvI a x bA bL bS bT g o cl [1, at0, i, k] w' T ∧ ∀ q ∈ T, q < w'.heap.size := by
  obtain ⟨g1, g2, g3, g4⟩ := rbB_parts hb
  obtain ⟨t1, t2, t3, t4, t5, t6, t7, t8, t9⟩ := twoB_parts g1
  have hN := PlN.of t1
  have hn1 := hN.p1
  have hn2 := hN.p2
  refine runPlayers_any 127 mm_enters #[.pointer (some ⟨bS, 0, none⟩), .pointer (some ⟨bL, 0, none⟩), .pointer (some ⟨bA, 0, none⟩), .pointer (some ⟨bT, 0, none⟩)] (chgP a.P at0 i.toNat k) a b x z w h h' hT (two_runS g1) t3 [bS, bT] (fun W T => SvI a x bA bL bS bT g o cl [1, at0, i, k] W T) [bA, bL, bS, bT, g]
    (fun q hq => by simp at hq; omega) (fun q hq => by simp at hq; omega) hI (fun W W' T X hI ho hd _ => hI.only ho hd) (fun W T hI hTs j fr st p n c l hj0 hj5 hl hll hlv hf => ?_)
  obtain ⟨m, rfl⟩ : ∃ m : Nat, j = m := ⟨j.toNat, by omega⟩
  have hn := hl.len
  have hbl := (blen_bd ((m : Int) / 2).toNat).2
  exact svc_any a x bA bL bS bT w.heap.size g o cl at0 i k T m (by omega) fr st p n c l W hI (by omega) hl (by omega) hn2 hlv (by omega) (fun e => by subst e; omega) (by omega) (by omega) hf hTs
end Go.Proofs.YtlmdckcohoddnaaDoor
namespace Go.Proofs.YtlmdckcohoddnaaDoor
open Go.RowKit
theorem six_nil (W : World) (T X : List Nat) (b : Nat) (h : Blk W b 135 #[.int .i64 0, .int .i64 0, .slice none 0 0, .int .i64 0, .int .i64 0, .slice none 0 0, .int .i64 0, .int .i64 0, .slice none 0 0, .int .i64 0, .int .i64 0, .slice none 0 0, .int .i64 0, .int .i64 0, .slice none 0 0, .int .i64 0, .int .i64 0, .slice none 0 0]) : SixB W T X b [(0, 0, none, 0, []), (0, 0, none, 0, []), (0, 0, none, 0, []), (0, 0, none, 0, []), (0, 0, none, 0, []), (0, 0, none, 0, [])] :=
  ⟨h, rfl, fun r hr => by
    obtain rfl : r = (0, 0, none, 0, []) := by simpa using hr
    exact ⟨(Own.nil0 W 0 none).ints, by simp, fun y hn _ => absurd hn (by simp)⟩⟩
theorem own_msg1 (w : World) (f s : Int) (b : Option Addr) (n c : Nat) : RowC (w.alloc (.cells #[.int .i64 f, .int .i64 s, .slice b n c] 44)) (some ⟨w.heap.size, 0, none⟩) 1 1 3 [.int .i64 f, .int .i64 s, .slice b n c] :=
  (OwnC.lit w 0 1 44 3 [.int .i64 f, .int .i64 s, .slice b n c] (Nat.zero_le _) rfl (by simp [maxLen])).row
theorem six_slice (b n : Nat) (hn : n ≤ 6) (W : World) : (Instr.sliceAt 135 (.pointer (some ⟨b, 0, none⟩)) none (some (.int .i64 (n : Int))) none).run Tryd.prog W = .ok (.slice (some ⟨b, 0, none⟩) n 6) W := by
  have ha : Tryd.prog.arrayLen 135 = 6 := by kernel_rfl
  have hs : (sizeOf (Tryd.prog.elem 135)).run Tryd.prog W = .ok 3 W := by go_simp
  rw [run_sliceAt_array_h W 135 ⟨b, 0, none⟩ (by kernel_rfl) .i64 (n : Int) (by omega) (by rw [ha]; omega), hs]
  simp [slicedAt, ha, Result.andThen]
  rfl
theorem wpList_row {ops : Array Oper} {rest : List Oper} {o : Oper} {act : Act} {w : World} {Q : Exit → Act → World → Prop} (hgd : o.guard = none) (ty : TypeId) (x y : Operand) (ho : o.op = .store ty x y) {g : Nat} {t : TypeId} {old vs : Array Value}
    (hx : act.eval x = .pointer (some ⟨g, 0, none⟩)) (hy : act.eval y = .agg vs) (hB : Blk w g t old) (hi : (Tryd.prog.info? ty).map (·.size) = some vs.size) (hs : old.size = vs.size) (h1 : vs.all (·.oneCell') = true)
    (h : ∀ N, Blk N g t vs → Only [g] w N → wpList Tryd.prog ops Q rest (act.put o.dst undef) N) : wpList Tryd.prog ops Q (o :: rest) act w :=
  wpList_plain hgd fun _ hK => wp_store_row ty x y ho g vs hx hy t old hB hi hs h1 (hK _ _ (h _ (setRow_heap w g old _ t _ hB) ⟨rfl, rfl, rfl, by simp, fun q _ hq => setRow_other w g q _ (by simpa using hq)⟩))
set_option maxHeartbeats 16000000 in
set_option maxRecDepth 100000 in
theorem runMeddled_any (a b : Pl) (x z : PlX) (at0 i k : Int) (g o cl : Nat) (w : World) (h : PlR w x a.shares a.keys a.heard) (h' : PlR w z b.shares b.keys b.heard) (hT : Tbl w) (hb : rbB a b at0 i k = true)
    (hM : Flat 4 w (some ⟨g, o, none⟩) 1 cl [1, at0, i, k]) (hg : g < w.heap.size) :
    Calls Tryd.prog 98 #[.agg #[.int .i64 a.P, .int .i64 a.party, .int .i64 a.input, .int .i64 a.mask, .int .i64 a.delta, .slice x.sa x.sn x.sc, .slice x.ka x.kn x.kc, .int .i64 a.step, .slice x.ha x.hn x.hc, .int .i64 a.status, .int .i64 a.out], .agg #[.int .i64 b.P, .int .i64 b.party, .int .i64 b.input, .int .i64 b.mask, .int .i64 b.delta, .slice z.sa z.sn z.sc, .slice z.ka z.kn z.kc, .int .i64 b.step, .slice z.ha z.hn z.hc, .int .i64 b.status, .int .i64 b.out], .slice (some ⟨g, o, none⟩) 1 cl] w fun e w' => ∃ (y y2 : PlX) (p : Option Addr) (n c : Nat), e = .returned (.tuple #[.agg #[.int .i64 (runP (chgP a.P at0 i.toNat k) 3 a b []).1.P, .int .i64 (runP (chgP a.P at0 i.toNat k) 3 a b []).1.party, .int .i64 (runP (chgP a.P at0 i.toNat k) 3 a b []).1.input, .int .i64 (runP (chgP a.P at0 i.toNat k) 3 a b []).1.mask, .int .i64 (runP (chgP a.P at0 i.toNat k) 3 a b []).1.delta, .slice y.sa y.sn y.sc, .slice y.ka y.kn y.kc, .int .i64 (runP (chgP a.P at0 i.toNat k) 3 a b []).1.step, .slice y.ha y.hn y.hc, .int .i64 (runP (chgP a.P at0 i.toNat k) 3 a b []).1.status, .int .i64 (runP (chgP a.P at0 i.toNat k) 3 a b []).1.out], .agg #[.int .i64 (runP (chgP a.P at0 i.toNat k) 3 a b []).2.1.P, .int .i64 (runP (chgP a.P at0 i.toNat k) 3 a b []).2.1.party, .int .i64 (runP (chgP a.P at0 i.toNat k) 3 a b []).2.1.input, .int .i64 (runP (chgP a.P at0 i.toNat k) 3 a b []).2.1.mask, .int .i64 (runP (chgP a.P at0 i.toNat k) 3 a b []).2.1.delta, .slice y2.sa y2.sn y2.sc, .slice y2.ka y2.kn y2.kc, .int .i64 (runP (chgP a.P at0 i.toNat k) 3 a b []).2.1.step, .slice y2.ha y2.hn y2.hc, .int .i64 (runP (chgP a.P at0 i.toNat k) 3 a b []).2.1.status, .int .i64 (runP (chgP a.P at0 i.toNat k) 3 a b []).2.1.out], .slice p n c]) ∧ Below w.heap.size w w' := by
  have DL := runP_len (chgP a.P at0 i.toNat k) 3 a b []
  have CR := fun (bA bL bS bT : Nat) (W : World) (h2 : PlR W x a.shares a.keys a.heard) (k2 : PlR W z b.shares b.keys b.heard) (hT2 : Tbl W) => smRun_any a b x z at0 i k bA bL bS bT g o cl W h2 k2 hT2 hb
  generalize runP (chgP a.P at0 i.toNat k) 3 a b [] = RP at *
  obtain ⟨r1, r2, D⟩ := RP
  replace DL : D.length ≤ 6 := DL
  dsimp only at CR
  replace CR := Lib.hid CR
  have LH := Lib.hid h
  have LH' := Lib.hid h'
  have LX := Lib.hid hT
  have LM := Lib.hid hM
  clear h h' hT hM hb
  go_enter Tryd.func98, Tryd.ntmps98
  go_upto_region 1 with fail
  refine Exists.elim (Blk.new_ w (b := w.heap.size) rfl 31 #[.int .i64 a.P, .int .i64 a.party, .int .i64 a.input, .int .i64 a.mask, .int .i64 a.delta, .slice x.sa x.sn x.sc, .slice x.ka x.kn x.kc, .int .i64 a.step, .slice x.ha x.hn x.hc, .int .i64 a.status, .int .i64 a.out]) (fun w1_a0' q => ?_)
  rw [q.1]; have B_a := q.2.1; have s_w1_a0' := q.2.2.1; have u_w1_a0' := q.2.2.2; clear q
  refine Exists.elim (Blk.new_ w1_a0' (b := w.heap.size + 1) s_w1_a0' 31 #[.int .i64 b.P, .int .i64 b.party, .int .i64 b.input, .int .i64 b.mask, .int .i64 b.delta, .slice z.sa z.sn z.sc, .slice z.ka z.kn z.kc, .int .i64 b.step, .slice z.ha z.hn z.hc, .int .i64 b.status, .int .i64 b.out]) (fun w1_a1' q => ?_)
  rw [q.1]; have B_b := q.2.1; have s_w1_a1' := q.2.2.1; have u_w1_a1' := q.2.2.2; clear q
  refine Exists.elim (Blk.new_ w1_a1' (b := w.heap.size + 2) s_w1_a1' 110 #[.slice (some ⟨g, o, none⟩) 1 cl]) (fun w1_a2' q => ?_)
  rw [q.1]; have B_l := q.2.1; have s_w1_a2' := q.2.2.1; have u_w1_a2' := q.2.2.2; clear q
  refine Exists.elim (Blk.new_ w1_a2' (b := w.heap.size + 3) s_w1_a2' 31 #[.int .i64 0, .int .i64 0, .int .i64 0, .int .i64 0, .int .i64 0, .slice none 0 0, .slice none 0 0, .int .i64 0, .slice none 0 0, .int .i64 0, .int .i64 0]) (fun w1_a3' q => ?_)
  rw [q.1]; have B_r := q.2.1; have s_w1_a3' := q.2.2.1; have u_w1_a3' := q.2.2.2; clear q
  refine Exists.elim (Blk.new_ w1_a3' (b := w.heap.size + 4) s_w1_a3' 31 #[.int .i64 0, .int .i64 0, .int .i64 0, .int .i64 0, .int .i64 0, .slice none 0 0, .slice none 0 0, .int .i64 0, .slice none 0 0, .int .i64 0, .int .i64 0]) (fun w1' q => ?_)
  rw [q.1]; have B_q := q.2.1; have s_w1' := q.2.2.1; have u_w1' := q.2.2.2; clear q
  replace B_a := ((((B_a.below u_w1_a1').below u_w1_a2').below u_w1_a3').below u_w1')
  replace B_b := (((B_b.below u_w1_a2').below u_w1_a3').below u_w1')
  replace B_l := ((B_l.below u_w1_a3').below u_w1')
  replace B_r := (B_r.below u_w1')
  have U := (u_w1_a0'.trans ((u_w1_a1'.trans ((u_w1_a2'.trans ((u_w1_a3'.trans (u_w1'.mono u_w1_a3'.size)).mono u_w1_a2'.size)).mono u_w1_a1'.size)).mono u_w1_a0'.size))
  have S_w1' : w.heap.size + 5 ≤ w1'.heap.size := Nat.le_of_eq s_w1'.symm
  have V_w1' := (Below.refl w.heap.size w).trans (U.mono ((Below.refl w.heap.size w)).size)
  clear u_w1_a0' u_w1_a1' u_w1_a2' u_w1_a3' u_w1' s_w1_a0' s_w1_a1' s_w1_a2' s_w1_a3' s_w1' U
  go_wp2_with (refine wpList_row rfl _ _ _ rfl (g := w1'.heap.size) rfl rfl ((Blk.new w1' 135 #[.int .i64 0, .int .i64 0, .slice none 0 0, .int .i64 0, .int .i64 0, .slice none 0 0, .int .i64 0, .int .i64 0, .slice none 0 0, .int .i64 0, .int .i64 0, .slice none 0 0, .int .i64 0, .int .i64 0, .slice none 0 0, .int .i64 0, .int .i64 0, .slice none 0 0]).alloc _) (by kernel_rfl) rfl (by kernel_rfl) ?_)
  intro wN BN1 G1
  go_wp2_with (refine wpList_row rfl _ _ _ rfl (g := w1'.heap.size + 1) rfl rfl (by simpa using (Blk.new (w1'.alloc (.cells #[.int .i64 0, .int .i64 0, .slice none 0 0, .int .i64 0, .int .i64 0, .slice none 0 0, .int .i64 0, .int .i64 0, .slice none 0 0, .int .i64 0, .int .i64 0, .slice none 0 0, .int .i64 0, .int .i64 0, .slice none 0 0, .int .i64 0, .int .i64 0, .slice none 0 0] 135)) 135 #[.int .i64 0, .int .i64 0, .slice none 0 0, .int .i64 0, .int .i64 0, .slice none 0 0, .int .i64 0, .int .i64 0, .slice none 0 0, .int .i64 0, .int .i64 0, .slice none 0 0, .int .i64 0, .int .i64 0, .slice none 0 0, .int .i64 0, .int .i64 0, .slice none 0 0]).only G1 (by simp)) (by kernel_rfl) rfl (by kernel_rfl) ?_)
  intro wM BN2 G2
  have uu : Below w1'.heap.size w1' ((w1'.alloc (.cells #[.int .i64 0, .int .i64 0, .slice none 0 0, .int .i64 0, .int .i64 0, .slice none 0 0, .int .i64 0, .int .i64 0, .slice none 0 0, .int .i64 0, .int .i64 0, .slice none 0 0, .int .i64 0, .int .i64 0, .slice none 0 0, .int .i64 0, .int .i64 0, .slice none 0 0] 135)).alloc (.cells #[.int .i64 0, .int .i64 0, .slice none 0 0, .int .i64 0, .int .i64 0, .slice none 0 0, .int .i64 0, .int .i64 0, .slice none 0 0, .int .i64 0, .int .i64 0, .slice none 0 0, .int .i64 0, .int .i64 0, .slice none 0 0, .int .i64 0, .int .i64 0, .slice none 0 0] 135)) := ((Below.refl _ _).alloc (Nat.le_refl _) _).alloc (by simp) _
  replace BN1 := BN1.only G2 (by simp)
  obtain ⟨gs, hgs⟩ : ∃ q, q = w1'.heap.size := ⟨_, rfl⟩
  have u9 : Below w1'.heap.size w1' wM := (uu.trans (G1.below uu.size (fun q hq => by simp at hq; omega))).trans (G2.below (Nat.le_trans uu.size G1.size) (fun q hq => by simp at hq; omega))
  have SGG : w1'.heap.size + 2 ≤ wM.heap.size := by have := BN2.lt; omega
  clear uu G1 G2 hgs gs
  have BB1 := BN1
  have BB2 := BN2
  replace B_a := B_a.below u9
  replace B_b := B_b.below u9
  replace B_l := B_l.below u9
  replace B_r := B_r.below u9
  replace B_q := B_q.below u9
  have S_wM := u9.size
  have V_wM : Below w.heap.size w wM := V_w1'.trans (u9.mono V_w1'.size)
  clear V_w1'
  clear u9
  have B_s := BB1
  have B_u := BB2
  clear BN1 BN2 BB1 BB2
  go_upto_region 2 with fail
  have SI : SvI a x (w.heap.size) (w.heap.size + 2) ((w1'.heap.size)) ((w1'.heap.size+1)) g o cl [1, at0, i, k] wM [(w.heap.size), (w.heap.size + 2), ((w1'.heap.size)), ((w1'.heap.size+1)), g] := ⟨B_a, B_l, RowC.below LM.out V_wM, ⟨_, six_nil _ _ _ _ B_s⟩, ⟨_, six_nil _ _ _ _ B_u⟩, by simp, by omega⟩
  have e_a := B_a.all11
  have e_b := B_b.all11
  go_wp2_with fail
  clear e_a e_b
  refine (CR.out (w.heap.size) (w.heap.size + 2) ((w1'.heap.size)) ((w1'.heap.size+1)) _ (LH.out.below V_wM) (LH'.out.below V_wM) (LX.out.below V_wM) SI (by omega) (by omega)).mono ?_
  rintro e w7' ⟨y, F, y2, F', p, n, c, G9, rfl, o1, o2, om, e1, e2, e3, G, T, IT, TL⟩
  clear SI
  have hn : D.length = n := om.rd.len
  clear e1 e2 e3 o1 o2 om F F' G9
  have Q_IT := Lib.hid TL
  have hn6 : n ≤ 6 := by omega
  clear TL
  replace B_r := B_r.only G (by simp; omega)
  replace B_q := B_q.only G (by simp; omega)
  have V7 := (V_wM).trans (G.below (V_wM).size (fun q hq => by have := (V_wM).size; simp at hq; omega))
  have S7 := G.size
  clear G
  clear B_a
  clear B_b
  clear B_l
  clear B_s
  clear B_u
  have hsl := fun W : World => six_slice (w1'.heap.size + 1) n hn6 W
  go_upto_region 3 with fail
  refine Exists.elim (Blk.new_ w7' (b := w7'.heap.size) rfl 31 #[.int .i64 r1.P, .int .i64 r1.party, .int .i64 r1.input, .int .i64 r1.mask, .int .i64 r1.delta, .slice y.sa y.sn y.sc, .slice y.ka y.kn y.kc, .int .i64 r1.step, .slice y.ha y.hn y.hc, .int .i64 r1.status, .int .i64 r1.out]) (fun w2_a0' q => ?_)
  rw [q.1]; have B_c := q.2.1; have s_w2_a0' := q.2.2.1; have u_w2_a0' := q.2.2.2; clear q
  refine Exists.elim (Blk.new_ w2_a0' (b := w7'.heap.size + 1) s_w2_a0' 31 #[.int .i64 r2.P, .int .i64 r2.party, .int .i64 r2.input, .int .i64 r2.mask, .int .i64 r2.delta, .slice y2.sa y2.sn y2.sc, .slice y2.ka y2.kn y2.kc, .int .i64 r2.step, .slice y2.ha y2.hn y2.hc, .int .i64 r2.status, .int .i64 r2.out]) (fun w2' q => ?_)
  rw [q.1]; have B_d := q.2.1; have s_w2' := q.2.2.1; have u_w2' := q.2.2.2; clear q
  replace B_c := (B_c.below u_w2')
  have U := (u_w2_a0'.trans (u_w2'.mono u_w2_a0'.size))
  replace B_r := B_r.below U
  replace B_q := B_q.below U
  replace IT := IT.below U
  have S_w2' : w7'.heap.size + 2 ≤ w2'.heap.size := Nat.le_of_eq s_w2'.symm
  have V_w2' := V7.trans (U.mono (V7).size)
  clear u_w2_a0' u_w2' s_w2_a0' s_w2' U V7
  go_wp2_with fail
  refine Exists.elim (Blk.new_ w2' (b := w2'.heap.size) rfl 44 #[]) (fun w3' q => ?_)
  rw [q.1]; have B_e := q.2.1; have s_w3' := q.2.2.1; have u_w3' := q.2.2.2; clear q
  replace B_r := B_r.below u_w3'
  replace B_q := B_q.below u_w3'
  replace B_c := B_c.below u_w3'
  replace B_d := B_d.below u_w3'
  replace IT := IT.below u_w3'
  have S_w3' : w2'.heap.size + 1 ≤ w3'.heap.size := Nat.le_of_eq s_w3'.symm
  have V_w3' := V_w2'.trans (u_w3'.mono (V_w2').size)
  clear u_w3' s_w3' V_w2'
  clear B_e
  have V0 := V_w3'
  obtain ⟨wL, rfl⟩ : ∃ q, q = w3' := ⟨_, rfl⟩
  have SZL : w.heap.size + 7 ≤ wL.heap.size := by omega
  go_loopw [32, 14] (fun v u wr => ∃ j : Nat, j ≤ n ∧ v = .int .i64 j ∧ Below wL.heap.size wL wr ∧ ∃ p5 c5 xs, u = .slice p5 j c5 ∧ OwnC wr wL.heap.size p5 j c5 44 3 xs) (fun v _ _ => n - (intOf v).toNat)
  case atStart => exact ⟨0, Nat.zero_le _, rfl, Below.refl _ _, _, _, [], rfl, OwnC.nil0 _ _ _ _ _⟩
  case round =>
    obtain ⟨j, hj, rfl, hbel, p5, c5, xs, rfl, own⟩ := hrel
    have B_r := B_r.below hbel
    have B_q := B_q.below hbel
    have B_c := B_c.below hbel
    have B_d := B_d.below hbel
    have IT := IT.below hbel
    have V_wr := (Below.refl wL.heap.size wL).trans (hbel.mono (Below.refl wL.heap.size wL).size)
    have S_wr := hbel.size
    by_cases hlt : j < n
    · obtain ⟨rs, hU⟩ := IT.U
      have hji : (j : Int) < (n : Int) := by omega
      obtain ⟨⟨c0, c1, c2⟩, _⟩ := hU.at j (by omega)
      obtain ⟨inn, hrl, _⟩ := hU.row _ (msAt_mem (rs := rs) (j := j) (by rw [hU.len]; omega))
      clear hU
      generalize msAt rs j = r at *
      obtain ⟨mf, ms, pa, pc, pl⟩ := r
      dsimp only [rowV] at c0 c1 c2 inn hrl
      go_upto_region 7 with fail
      clear c0 c1 c2
      refine Exists.elim (Blk.new_ wr (b := wr.heap.size) rfl 44 #[.int .i64 mf, .int .i64 ms, .slice pa pl.length pc]) (fun w4' q => ?_)
      rw [q.1]; have B_m := q.2.1; have s_w4' := q.2.2.1; have u_w4' := q.2.2.2; clear q
      replace B_r := B_r.below u_w4'
      replace B_q := B_q.below u_w4'
      replace B_c := B_c.below u_w4'
      replace B_d := B_d.below u_w4'
      replace IT := IT.below u_w4'
      replace inn := inn.below u_w4'
      replace own := own.below u_w4'
      have S_w4' : wr.heap.size + 1 ≤ w4'.heap.size := Nat.le_of_eq s_w4'.symm
      have V_w4' := V_wr.trans (u_w4'.mono (V_wr).size)
      clear u_w4' s_w4' V_wr
      have e_m := B_m.all3
      go_wp2_with fail
      clear e_m
      refine (copyMessage_any mf ms pa pl.length pc pl _ inn (by omega)).mono ?_
      rintro e w5' ⟨b9, d9, rfl, o9, u_w5'⟩
      replace B_r := B_r.below u_w5'
      replace B_q := B_q.below u_w5'
      replace B_c := B_c.below u_w5'
      replace B_d := B_d.below u_w5'
      replace B_m := B_m.below u_w5'
      replace IT := IT.below u_w5'
      replace inn := inn.below u_w5'
      replace own := own.below u_w5'
      have S_w5' := u_w5'.size
      have V_w5' : Below wL.heap.size wL w5' := V_w4'.trans (u_w5'.mono V_w4'.size)
      clear V_w4'
      clear u_w5'
      clear o9
      have VB := V_w5'
      go_wp2_with (at_builtin; refine wpList_appM rfl _ _ rfl wL.heap.size p5 j c5 xs rfl (OwnC.below own ((Below.refl _ _).alloc (Nat.le_refl _) _)) _ 1 1 [.int .i64 mf, .int .i64 ms, .slice b9 pl.length d9] rfl (own_msg1 _ _ _ _ _ _) (fun v hv => by simp only [List.mem_cons, List.not_mem_nil, or_false] at hv; rcases hv with rfl | rfl | rfl <;> rfl) (by omega) (by simp; have := VB.size; omega) ?_)
      intro a7 c7 w9 oc u7 _ _
      have VE : Below wL.heap.size wL w9 := (VB.alloc VB.size (.cells #[.int .i64 mf, .int .i64 ms, .slice b9 pl.length d9] 44)).trans u7
      clear u7 VB
      go_wp2
      go_roundw
      case rel => exact ⟨j + 1, by omega, by go_num, VE, a7, c7, _, rfl, oc⟩
      case measure => simp [intOf]; omega
    · obtain rfl : n = j := by omega
      clear own
      have VW : Below w.heap.size w wr := V0.trans ((V_wr).mono V0.size)
      have hge : ¬ ((n : Int) < (n : Int)) := by omega
      go_upto_region 9 with fail
      replace B_c := Blk.drew B_c
      replace B_d := Blk.drew B_d
      replace B_r := Blk.drew B_r
      replace B_q := Blk.drew B_q
      refine wp_region_noPanic ?_
      refine wp_region_held_drew (S := (fun W => Blk W (w7'.heap.size) 31 #[.int .i64 r1.P, .int .i64 r1.party, .int .i64 r1.input, .int .i64 r1.mask, .int .i64 r1.delta, .slice y.sa y.sn y.sc, .slice y.ka y.kn y.kc, .int .i64 r1.step, .slice y.ha y.hn y.hc, .int .i64 r1.status, .int .i64 r1.out] ∧ Blk W (w7'.heap.size + 1) 31 #[.int .i64 r2.P, .int .i64 r2.party, .int .i64 r2.input, .int .i64 r2.mask, .int .i64 r2.delta, .slice y2.sa y2.sn y2.sc, .slice y2.ka y2.kn y2.kc, .int .i64 r2.step, .slice y2.ha y2.hn y2.hc, .int .i64 r2.status, .int .i64 r2.out])) (by kernel_rfl) ?hS1 (fun hHeld => ?go1)
      case hS1 => exact ⟨B_c, B_d⟩
      refine tk (i := 0) (oi := ⟨some 42, _, _, _, _, _⟩) (v := ?v0_2) hHeld rfl ?y0_2 ?r0_2
      case y0_2 => (intro w hSw; obtain ⟨qS0, qS1⟩ := hSw; have cS0 := qS0.all11; have cS1 := qS1.all11; first | (go_simp; first | done | with_reducible rfl) | with_reducible rfl)
      (try simp only [pt_])
      refine tk (i := 1) (oi := ⟨some 43, _, _, _, _, _⟩) (v := ?v1_3) hHeld rfl ?y1_3 ?r1_3
      case y1_3 => (intro w hSw; obtain ⟨qS0, qS1⟩ := hSw; have cS0 := qS0.all11; have cS1 := qS1.all11; first | (go_simp; first | done | with_reducible rfl) | with_reducible rfl)
      (try simp only [pt_])
      refine tk (i := 2) (oi := ⟨some 44, _, _, _, _, _⟩) (v := ?v2_4) hHeld rfl ?y2_4 ?r2_4
      case y2_4 => (intro w _; first | (go_simp; first | done | with_reducible rfl) | with_reducible rfl)
      (try simp only [pt_])
      have wdS := (Nat.le_refl wr.heap.size : wr.heap.size ≤ wr.drew.heap.size)
      generalize hwd : wr.drew = wd at *
      have G_all : Only [w.heap.size + 3, w.heap.size + 4] wd wd := Only.refl _ _
      refine wpAnyH_ready (rs := [3]) (by kernel_rfl) (by simp) ?_
      refine AllReadyH.cons (o := ⟨none, _, _, _, _, _⟩) rfl (fun K hK => ?_) ?_
      refine step_st B_r (by simp [Region.wanted]) _ _ _ (by rfl) (by rfl) (by rfl) (by kernel_rfl) (by rfl) (by simp [Value.oneCell']) ?_
      intro wS3 B_r' G
      replace B_r := B_r'; clear B_r'
      replace B_c := B_c.only G (by first | (simp; done) | (simp; omega))
      replace B_d := B_d.only G (by first | (simp; done) | (simp; omega))
      replace B_q := B_q.only G (by first | (simp; done) | (simp; omega))
      replace G_all := G_all.trans (G.more (F' := [w.heap.size + 3, w.heap.size + 4]) (by simp))
      clear G
      refine hK.out _ _ ?_ (fun hHeld => ?_)
      · exact ⟨B_c, B_d⟩
      clear hK K
      (try simp only [pt_])
      refine wpAnyH_ready (rs := [4]) (by kernel_rfl) (by simp) ?_
      refine AllReadyH.cons (o := ⟨none, _, _, _, _, _⟩) rfl (fun K hK => ?_) ?_
      refine step_st B_q (by simp [Region.wanted]) _ _ _ (by rfl) (by rfl) (by rfl) (by kernel_rfl) (by rfl) (by simp [Value.oneCell']) ?_
      intro wS4 B_q' G
      replace B_q := B_q'; clear B_q'
      replace B_c := B_c.only G (by first | (simp; done) | (simp; omega))
      replace B_d := B_d.only G (by first | (simp; done) | (simp; omega))
      replace B_r := B_r.only G (by first | (simp; done) | (simp; omega))
      replace G_all := G_all.trans (G.more (F' := [w.heap.size + 3, w.heap.size + 4]) (by simp))
      clear G
      refine hK.out _ _ ?_ (fun hHeld => ?_)
      · exact ⟨B_c, B_d⟩
      clear hK K
      (try simp only [pt_])
      refine tk (i := 5) (oi := ⟨some 8, _, _, _, _, _⟩) (v := ?v5_5) hHeld rfl ?y5_5 ?r5_5
      case y5_5 => (intro w _; first | (go_simp; first | done | with_reducible rfl) | with_reducible rfl)
      (try simp only [pt_])
      refine wpAnyH_done (by kernel_rfl) ?_ _
      refine NoPanic.normal ?_
      rotate_left 1
      exact AllReadyH.nil
      exact AllReadyH.nil
      have GE := (Only.refl [w.heap.size + 3, w.heap.size + 4] wr).drew.trans (hwd ▸ G_all)
      clear hwd G_all hHeld wdS
      have VE : Below w.heap.size w wS4 := VW.trans (GE.below (VW.size) (fun q hq => by simp at hq; omega))
      refine (‹∀ (a : Act) (w : World), Code.wp Tryd.prog Code.ret _ a w → _›) _ _ ?_
      refine wp_ret ?_
      have e_r := B_r.all11
      have e_q := B_q.all11
      exact bodyPost_ret (v := .tuple #[.agg #[.int .i64 r1.P, .int .i64 r1.party, .int .i64 r1.input, .int .i64 r1.mask, .int .i64 r1.delta, .slice y.sa y.sn y.sc, .slice y.ka y.kn y.kc, .int .i64 r1.step, .slice y.ha y.hn y.hc, .int .i64 r1.status, .int .i64 r1.out], .agg #[.int .i64 r2.P, .int .i64 r2.party, .int .i64 r2.input, .int .i64 r2.mask, .int .i64 r2.delta, .slice y2.sa y2.sn y2.sc, .slice y2.ka y2.kn y2.kc, .int .i64 r2.step, .slice y2.ha y2.hn y2.hc, .int .i64 r2.status, .int .i64 r2.out], .slice p5 n c5]) (by simp [results, Tryd.results98, go_sem, e_r, e_q]) rfl ⟨y, y2, p5, n, c5, rfl, VE⟩
end Go.Proofs.YtlmdckcohoddnaaDoor
