/- Lemmas and walks that the claim's proof rests on, part 14. -/
import Derived.Test.YtlmdckcohoddnaaDoorK1
import Derived.Test.YtlmdckcohoddnaaDoorK4
import Derived.Test.YtlmdckcohoddnaaDoorK7
import Derived.Test.YtlmdckcohoddnaaDoorK9
import Derived.Test.YtlmdckcohoddnaaDoorK10
import Derived.Test.YtlmdckcohoddnaaDoorK11
import Derived.Test.YtlmdckcohoddnaaDoorK13
namespace Go.Proofs.YtlmdckcohoddnaaDoor
open Go.RowKit
theorem takeP_no {a : Pl} {fr st : Int} {b : List Int} (h : accB a fr st b = false) : takeP a fr st b = { a with status := 2 } := by simp [takeP, h]
theorem takeP_go {a : Pl} {fr st : Int} {b : List Int} (h : accB a fr st b = true) (h2 : ¬ a.step = 2) : takeP a fr st b = { a with heard := a.heard ++ [b], step := a.step + 1 } := by simp [takeP, h, h2]
theorem takeP_end {a : Pl} {fr st : Int} {b : List Int} (h : accB a fr st b = true) (h2 : a.step = 2) : takeP a fr st b = { a with heard := a.heard ++ [b], step := a.step + 1, status := 1, out := (thV a + b.getD 0 0) % a.P } := by simp [takeP, h, h2]
theorem take_any (a : Pl) (x : PlX) (fr st : Int) (b : Option Addr) (n c : Nat) (body : List Int) (w : World) (h : PlR w x a.shares a.keys a.heard) (hM : Ints w b n c body) (hT : Tbl w) (hN : PlN a) (hs : a.step ≤ 2) :
    Calls Tryd.prog 92 #[.agg #[.int .i64 a.P, .int .i64 a.party, .int .i64 a.input, .int .i64 a.mask, .int .i64 a.delta, .slice x.sa x.sn x.sc, .slice x.ka x.kn x.kc, .int .i64 a.step, .slice x.ha x.hn x.hc, .int .i64 a.status, .int .i64 a.out], .agg #[.int .i64 fr, .int .i64 st, .slice b n c]] w fun e w' => ∃ y F, e = .returned (.agg #[.int .i64 (takeP a fr st body).P, .int .i64 (takeP a fr st body).party, .int .i64 (takeP a fr st body).input, .int .i64 (takeP a fr st body).mask, .int .i64 (takeP a fr st body).delta, .slice y.sa y.sn y.sc, .slice y.ka y.kn y.kc, .int .i64 (takeP a fr st body).step, .slice y.ha y.hn y.hc, .int .i64 (takeP a fr st body).status, .int .i64 (takeP a fr st body).out]) ∧ PlO w' w.heap.size y (takeP a fr st body).shares (takeP a fr st body).keys (takeP a fr st body).heard F ∧ Below w.heap.size w w' := by
  cases hacc : accB a fr st body
  · rw [takeP_no hacc]; exact take_no a x fr st b n c body w h hM hT hN hs hacc
  · by_cases h2 : a.step = 2
    · rw [takeP_end hacc h2]; exact take_end a x fr st b n c body w h hM hT hN hs hacc h2
    · rw [takeP_go hacc h2]; exact take_go a x fr st b n c body w h hM hT hN hs hacc (by omega)
theorem ptTake_B (a : Pl) (x : PlX) (fr st : Int) (b : Option Addr) (n c : Nat) (body : List Int) (w : World) (F : List Nat) (hF : ∀ q ∈ F, q < w.heap.size) (h : PlB F w x a.shares a.keys a.heard) (hM : Ints w b n c body) (hN : PlN a) (hs : a.step ≤ 2) :
    Calls Tryd.prog 91 #[.agg #[.int .i64 a.P, .int .i64 a.party, .int .i64 a.input, .int .i64 a.mask, .int .i64 a.delta, .slice x.sa x.sn x.sc, .slice x.ka x.kn x.kc, .int .i64 a.step, .slice x.ha x.hn x.hc, .int .i64 a.status, .int .i64 a.out], .agg #[.int .i64 fr, .int .i64 st, .slice b n c]] w fun e w' => ∃ y, e = .returned (.agg #[.int .i64 (takeP a fr st body).P, .int .i64 (takeP a fr st body).party, .int .i64 (takeP a fr st body).input, .int .i64 (takeP a fr st body).mask, .int .i64 (takeP a fr st body).delta, .slice y.sa y.sn y.sc, .slice y.ka y.kn y.kc, .int .i64 (takeP a fr st body).step, .slice y.ha y.hn y.hc, .int .i64 (takeP a fr st body).status, .int .i64 (takeP a fr st body).out]) ∧ PlB F w' y (takeP a fr st body).shares (takeP a fr st body).keys (takeP a fr st body).heard ∧ Below w.heap.size w w' := by
  cases hacc : accB a fr st body
  · rw [takeP_no hacc]
    have hl := hM.len
    by_cases h1 : fr = 1 - a.party
    · by_cases h2 : st = a.step
      · by_cases h3 : n = blen a.step.toNat
        · cases h4 : allB body 0 (a.P - 1)
          · exact ptTake_all a x fr st b n c body w F hF h hM hN hs h1 h2 h3 h4
          · cases h5 : accT a body
            · exact ptTake_holds a x fr st b n c body w F hF h hM hN hs h1 h2 h3 h4 h5
            · exfalso
              unfold accB bodyB at hacc
              rw [h4, h5, ← hl] at hacc
              simp [h1, h2, h3] at hacc
        · exact ptTake_len a x fr st b n c body w F hF h hM hN hs h1 h2 h3
      · exact ptTake_st a x fr st b n c body w F hF h hM hN hs h1 h2
    · exact ptTake_fr a x fr st b n c body w F hF h hM hN hs h1
  · by_cases h2 : a.step = 2
    · rw [takeP_end hacc h2]; exact ptTake_end a x fr st b n c body w F hF h hM hN hs hacc h2
    · rw [takeP_go hacc h2]; exact ptTake_go a x fr st b n c body w F hF h hM hN hs hacc (by omega)
theorem hAt_app_l (h : List (List Int)) (b : List Int) (i : Nat) (hi : i < h.length) : hAt (h ++ [b]) i = hAt h i := by unfold hAt; simp only [List.getD]; rw [List.getElem?_append_left hi]
theorem hAt_app_r (h : List (List Int)) (b : List Int) : hAt (h ++ [b]) h.length = b := by unfold hAt; simp [List.getD]
theorem PlN.heard {a a' : Pl} (h : PlN a) (hs : a.step ≤ 2) {b : List Int} (hb1 : b.length = blen a.step.toNat) (hb2 : ∀ v ∈ b, 0 ≤ v ∧ v ≤ a.P - 1) (e0 : a'.P = a.P) (e1 : a'.party = a.party) (e2 : a'.input = a.input) (e3 : a'.mask = a.mask) (e4 : a'.delta = a.delta) (e5 : a'.shares = a.shares) (e6 : a'.keys = a.keys)
    (e7 : a'.step = a.step + 1) (e8 : a'.heard = a.heard ++ [b]) (e9 : 0 ≤ a'.out ∧ a'.out ≤ a.P - 1) : PlN a' := by
  obtain ⟨P, pa, ip, mk, de, S, K, st, H, ss, ou⟩ := a'
  dsimp only at *
  subst e0 e1 e2 e3 e4 e5 e6 e7 e8
  have hl := h.hl
  have h0 := h.stp
  refine ⟨h.p1, h.p2, h.ip, h.mks, h.de, e9, h.pa, h.sl, h.kl, h.sv, h.st, h.ky, ⟨by simp only; omega, by simp only; omega⟩, by simp; omega, fun i hi => ?_, h.pr⟩
  have hi' : i < a.heard.length + 1 := by simpa using hi
  unfold hdI
  dsimp only
  by_cases hlt : i < a.heard.length
  · rw [hAt_app_l _ _ _ hlt]; exact h.hb i hlt
  · obtain rfl : i = a.heard.length := by omega
    rw [hAt_app_r]
    have : a.step.toNat = a.heard.length := by omega
    rw [this] at hb1
    exact ⟨hb1, fun j hj => hb2 _ (getD_mem _ _ (by omega))⟩
theorem PlN.take {a : Pl} (h : PlN a) (hs : a.step ≤ 2) (fr st : Int) (b : List Int) : PlN (takeP a fr st b) := by
  cases hacc : accB a fr st b
  · rw [takeP_no hacc]; exact ⟨h.p1, h.p2, h.ip, h.mks, h.de, h.ou, h.pa, h.sl, h.kl, h.sv, h.st, h.ky, h.stp, h.hl, h.hb, h.pr⟩
  · obtain ⟨_, _, hb1, hb2, _⟩ := acc_all hacc
    have hb3 := (allB_iff _ _ _).1 hb2
    by_cases h2 : a.step = 2
    · rw [takeP_end hacc h2]; exact h.heard hs hb1 hb3 rfl rfl rfl rfl rfl rfl rfl rfl rfl (emod_rng _ _ (by have := h.p1; omega))
    · rw [takeP_go hacc h2]; exact h.heard hs hb1 hb3 rfl rfl rfl rfl rfl rfl rfl rfl rfl h.ou
def zeroPl : Pl := ⟨0, 0, 0, 0, 0, [], [], 0, [], 0, 0⟩
def zeroX : PlX := ⟨none, 0, 0, none, 0, 0, none, 0, 0⟩
theorem PlO.nil (w : World) (b : Nat) : PlO w b zeroX [] [] [] [] := by
  refine ⟨OwnC.nil0 _ _ _ _ _, Own.nil0 _ _ _, [], OwnSS.nil0 _ _ _, rfl, ?_, ?_, ?_, ?_⟩
  · show Disj (foot none 0) _; rw [foot_zero]; exact Disj.nil_l _
  · show Disj (foot none 0) _; rw [foot_zero]; exact Disj.nil_l _
  · show Disj (foot none 0) _; rw [foot_zero]; exact Disj.nil_l _
  · simp [zeroX, foot_zero, feetSS_nil]
end Go.Proofs.YtlmdckcohoddnaaDoor
namespace Go.Proofs.YtlmdckcohoddnaaDoor
open Go.RowKit
def rpS (a : Pl) (m : MsD) : Pl := if a.status = 0 then takeP a m.1 m.2.1 m.2.2 else a
def rpP (a : Pl) (D : List MsD) : Pl := D.foldl rpS a
structure RunN (a : Pl) : Prop where
  n : PlN a
  r : a.status = 0 → a.step ≤ 2
theorem RunN.step {a : Pl} (h : RunN a) (m : MsD) : RunN (rpS a m) := by
  unfold rpS
  split
  · rename_i h0
    have hs := h.r h0
    refine ⟨h.n.take hs _ _ _, fun h1 => ?_⟩
    cases hacc : accB a m.1 m.2.1 m.2.2
    · rw [takeP_no hacc] at h1; simp at h1
    · by_cases h2 : a.step = 2
      · rw [takeP_end hacc h2] at h1; simp at h1
      · rw [takeP_go hacc h2]; simp only; omega
  · exact h
theorem RunN.of {a : Pl} (h : plB a = true) (h0 : a.status = 0) : RunN a := ⟨PlN.of h, fun _ => run_step h h0⟩
theorem RunN.all {a : Pl} (h : RunN a) (D : List MsD) : RunN (rpP a D) := by
  unfold rpP
  induction D generalizing a with
  | nil => exact h
  | cons m D ih => exact ih (h.step m)
end Go.Proofs.YtlmdckcohoddnaaDoor
namespace Go.Proofs.YtlmdckcohoddnaaDoor
open Go.RowKit
def mesP (fr : Int) (a : Pl) : MsD := (fr, a.step, bodyL a)
def takeM (a : Pl) (m : MsD) : Pl := takeP a m.1 m.2.1 m.2.2
def runP (chg : Int → MsD → MsD) : Nat → Pl → Pl → List MsD → Pl × Pl × List MsD
  | 0, a, b, l => (a, b, l)
  | n + 1, a, b, l =>
    let a' := takeM a (chg (l.length + 1) (mesP 1 b)); let b' := takeM b (chg l.length (mesP 0 a))
    if a'.status = 2 ∨ b'.status = 2 then (a', b', l ++ [mesP 0 a, mesP 1 b]) else runP chg n a' b' (l ++ [mesP 0 a, mesP 1 b])
structure RunS (r : Nat) (a b : Pl) : Prop where
  an : PlN a
  bn : PlN b
  sa : a.step = r
  sb : b.step = r
  ta : a.status = 0
  tb : b.status = 0
theorem takeM_status {a : Pl} {m : MsD} (h : (takeM a m).status ≠ 2) : accB a m.1 m.2.1 m.2.2 = true := by
  cases hacc : accB a m.1 m.2.1 m.2.2
  · unfold takeM at h; rw [takeP_no hacc] at h; simp at h
  · rfl
theorem takeM_go {a : Pl} {m : MsD} (h : (takeM a m).status ≠ 2) (h2 : a.step ≠ 2) : (takeM a m).step = a.step + 1 ∧ (takeM a m).status = a.status := by
  have hacc := takeM_status h
  unfold takeM; rw [takeP_go hacc h2]; exact ⟨rfl, rfl⟩
theorem takeM_end {a : Pl} {m : MsD} (h : (takeM a m).status ≠ 2) (h2 : a.step = 2) : (takeM a m).step = 3 ∧ (takeM a m).status = 1 := by
  have hacc := takeM_status h
  unfold takeM; rw [takeP_end hacc h2]; exact ⟨by simp only; omega, rfl⟩
theorem RunS.next {r : Nat} {a b : Pl} (h : RunS r a b) (hr : r < 2) {m k : MsD} (ha : (takeM a m).status ≠ 2) (hb : (takeM b k).status ≠ 2) : RunS (r + 1) (takeM a m) (takeM b k) := by
  have h1 := h.sa; have h2 := h.sb
  obtain ⟨a1, a2⟩ := takeM_go ha (by omega)
  obtain ⟨b1, b2⟩ := takeM_go hb (by omega)
  exact ⟨h.an.take (by omega) _ _ _, h.bn.take (by omega) _ _ _, by rw [a1]; omega, by rw [b1]; omega, by rw [a2]; exact h.ta, by rw [b2]; exact h.tb⟩
theorem takeM_n {r : Nat} {a b : Pl} (h : RunS r a b) (hr : r ≤ 2) (m k : MsD) : PlN (takeM a m) ∧ PlN (takeM b k) :=
  ⟨h.an.take (by have := h.sa; omega) _ _ _, h.bn.take (by have := h.sb; omega) _ _ _⟩
end Go.Proofs.YtlmdckcohoddnaaDoor
namespace Go.Proofs.YtlmdckcohoddnaaDoor
open Go.RowKit
theorem holdB_yes {p d k v t : Int} (h : Cg p (v * d + k - t) 0) : holdB p d k v t = true := decide_eq_true h.zero
theorem holdB_cg {p d k v t : Int} (h : holdB p d k v t = true) : Cg p (v * d + k - t) 0 := Cg.of_emod (by have := of_decide_eq_true h; simpa using this)
theorem cmb_cg (p : Int) (L : Nat → Int) (w0 w1 w2 w3 w4 m : Int) : Cg p (cmb p L w0 w1 w2 w3 w4 m) (m + w0 * L 0 + w1 * L 1 + w2 * L 2 + w3 * L 3 + w4 * L 4) := Cg.emod _ _
theorem chk (p D : Int) (V T K : Nat → Int) (ht : ∀ i, i < 5 → Cg p (T i) (V i * D + K i)) (w0 w1 w2 w3 w4 mS mK : Int) :
    Cg p (cmb p V w0 w1 w2 w3 w4 mS * D + cmb p K w0 w1 w2 w3 w4 mK - cmb p T w0 w1 w2 w3 w4 0) (mS * D + mK) := by
  refine (((cmb_cg p V w0 w1 w2 w3 w4 mS).mul (Cg.refl p D)).add (cmb_cg p K w0 w1 w2 w3 w4 mK)).sub (cmb_cg p T w0 w1 w2 w3 w4 0) |>.trans ?_
  obtain ⟨k0, h0⟩ := ht 0 (by omega)
  obtain ⟨k1, h1⟩ := ht 1 (by omega)
  obtain ⟨k2, h2⟩ := ht 2 (by omega)
  obtain ⟨k3, h3⟩ := ht 3 (by omega)
  obtain ⟨k4, h4⟩ := ht 4 (by omega)
  rw [h0, h1, h2, h3, h4]
  exact ⟨-(w0 * k0 + w1 * k1 + w2 * k2 + w3 * k3 + w4 * k4), by grind⟩
structure Fit (a b : Pl) (v : Nat → Int) : Prop where
  pr : isPr a.P = true
  bP : b.P = a.P
  pa : a.party = 0
  pb : b.party = 1
  am : a.mask = v 0
  bm : b.mask = v 1
  sh : ∀ i, i < 5 → Cg a.P (shV a i + shV b i) (v i)
  ta : ∀ i, i < 5 → Cg a.P (shT a i) (shV a i * b.delta + kyI b i)
  tb : ∀ i, i < 5 → Cg a.P (shT b i) (shV b i * a.delta + kyI a i)
  da : 1 ≤ a.delta ∧ a.delta ≤ a.P - 1
  db : 1 ≤ b.delta ∧ b.delta ≤ a.P - 1
  v4 : Cg a.P (v 4) (v 2 * v 3)
theorem Fit.sum {a b : Pl} {v : Nat → Int} (h : Fit a b v) (w0 w1 w2 w3 w4 m : Int) :
    Cg a.P (cmb a.P (shV a) w0 w1 w2 w3 w4 m + cmb a.P (shV b) w0 w1 w2 w3 w4 0) (m + w0 * v 0 + w1 * v 1 + w2 * v 2 + w3 * v 3 + w4 * v 4) := by
  refine ((cmb_cg a.P (shV a) w0 w1 w2 w3 w4 m).add (cmb_cg a.P (shV b) w0 w1 w2 w3 w4 0)).trans ?_
  obtain ⟨k0, h0⟩ := h.sh 0 (by omega)
  obtain ⟨k1, h1⟩ := h.sh 1 (by omega)
  obtain ⟨k2, h2⟩ := h.sh 2 (by omega)
  obtain ⟨k3, h3⟩ := h.sh 3 (by omega)
  obtain ⟨k4, h4⟩ := h.sh 4 (by omega)
  exact ⟨w0 * k0 + w1 * k1 + w2 * k2 + w3 * k3 + w4 * k4, by grind⟩
theorem bent_v {p D k v t c : Int} (hp : isPr p = true) (hD : 1 ≤ D ∧ D ≤ p - 1) (h : Cg p (v * D + k - t) 0) (hc : 1 ≤ c ∧ c ≤ p - 1) : holdB p D k ((v + c) % p) t = false := by
  rw [Bool.eq_false_iff]
  intro hh
  have h2 := holdB_cg hh
  have h3 : Cg p ((v + c) % p * D + k - t) (c * D) := by
    refine ((((Cg.emod p (v + c)).mul (Cg.refl p D)).add (Cg.refl p k)).sub (Cg.refl p t)).trans ?_
    obtain ⟨j, hj⟩ := h
    exact ⟨j, by grind⟩
  exact prime_mul hp c D hc.1 hc.2 hD.1 hD.2 (h3.symm.trans h2)
theorem bent_t {p D k v t c : Int} (h : Cg p (v * D + k - t) 0) (hc : 1 ≤ c ∧ c ≤ p - 1) : holdB p D k v ((t + c) % p) = false := by
  rw [Bool.eq_false_iff]
  intro hh
  have h2 := holdB_cg hh
  have h3 : Cg p (v * D + k - (t + c) % p) (-c) := by
    refine ((Cg.refl p (v * D + k)).sub (Cg.emod p (t + c))).trans ?_
    obtain ⟨j, hj⟩ := h
    exact ⟨j, by grind⟩
  have h4 := (h3.symm.trans h2).neg
  have := Cg.small (a := c) (by simpa using h4) (by omega) hc.2
  omega
end Go.Proofs.YtlmdckcohoddnaaDoor
namespace Go.Proofs.YtlmdckcohoddnaaDoor
open Go.RowKit
theorem acc_eq {a : Pl} {fr st : Int} {b : List Int} (h1 : fr = 1 - a.party) (h2 : st = a.step) (h3 : b.length = blen a.step.toNat) (h4 : ∀ v ∈ b, 0 ≤ v ∧ v ≤ a.P - 1) : accB a fr st b = accT a b := by
  unfold accB bodyB
  rw [decide_eq_true h1, decide_eq_true h2, decide_eq_true h3, (allB_iff _ _ _).2 h4]
  simp
def pl1 (a : Pl) (n : Int) : Pl := { a with heard := [[n]], step := 1 }
def pl2 (a : Pl) (n : Int) (l : List Int) : Pl := { a with heard := [[n], l], step := 2 }
structure New (a : Pl) : Prop where
  n : PlN a
  h : a.heard = []
  s : a.step = 0
  t : a.status = 0
theorem take1 {a : Pl} (h : New a) {fr n : Int} (hf : fr = 1 - a.party) (hn : 0 ≤ n ∧ n ≤ a.P - 1) : takeM a (fr, 0, [n]) = pl1 a n := by
  have hs := h.s
  have ha : accB a fr 0 [n] = true := by
    rw [acc_eq hf hs.symm (by rw [hs]; rfl) (by simpa using hn)]
    unfold accT; rw [if_pos hs]
  unfold takeM
  rw [takeP_go ha (by omega)]
  unfold pl1
  rw [h.h, hs]
  rfl
theorem f0_a {a : Pl} (h : a.party = 0) (n : Int) : f0 (pl1 a n) = mkI a := by unfold f0; rw [if_pos (show (pl1 a n).party = 0 from h)]; rfl
theorem f1_a {a : Pl} (h : a.party = 0) (n : Int) : f1 (pl1 a n) = n := by unfold f1; rw [if_pos (show (pl1 a n).party = 0 from h)]; rfl
theorem f0_b {a : Pl} (h : a.party = 1) (n : Int) : f0 (pl1 a n) = n := by unfold f0; rw [if_neg (show ¬ (pl1 a n).party = 0 from by show ¬ a.party = 0; omega)]; rfl
theorem f1_b {a : Pl} (h : a.party = 1) (n : Int) : f1 (pl1 a n) = mkI a := by unfold f1; rw [if_neg (show ¬ (pl1 a n).party = 0 from by show ¬ a.party = 0; omega)]; rfl
theorem body1 (a : Pl) (n : Int) : bodyL (pl1 a n) = [seV0 (pl1 a n), seT0 (pl1 a n), seV1 (pl1 a n), seT1 (pl1 a n)] := by
  unfold bodyL; rw [if_neg (show ¬ (pl1 a n).step = 0 from (by decide : ¬ (1 : Int) = 0)), if_pos (show (pl1 a n).step = 1 from rfl)]
theorem accT1 (a : Pl) (n v0 t0 v1 t1 : Int) : accT (pl1 a n) [v0, t0, v1, t1] = (holdB a.P a.delta (keyT (pl1 a n) 1 0 (-1) 0 0 (f0 (pl1 a n))) v0 t0 && holdB a.P a.delta (keyT (pl1 a n) 0 1 0 (-1) 0 (f1 (pl1 a n))) v1 t1) := by
  unfold accT; rw [if_neg (show ¬ (pl1 a n).step = 0 from (by decide : ¬ (1 : Int) = 0)), if_pos (show (pl1 a n).step = 1 from rfl)]; rfl
theorem chk_a {a b : Pl} {v : Nat → Int} (h : Fit a b v) (n w0 w1 w2 w3 w4 more : Int) :
    Cg a.P (cmb a.P (shV b) w0 w1 w2 w3 w4 0 * a.delta + keyT (pl1 a n) w0 w1 w2 w3 w4 more - cmb a.P (shT b) w0 w1 w2 w3 w4 0) 0 := by
  have := chk a.P a.delta (shV b) (shT b) (kyI a) h.tb w0 w1 w2 w3 w4 0 0
  have e : keyT (pl1 a n) w0 w1 w2 w3 w4 more = cmb a.P (kyI a) w0 w1 w2 w3 w4 0 := by
    unfold keyT; rw [if_neg (show ¬ (pl1 a n).party = 1 from by show ¬ a.party = 1; rw [h.pa]; decide)]; rfl
  rw [e]
  simpa using this
theorem chk_b {a b : Pl} {v : Nat → Int} (h : Fit a b v) (m w0 w1 w2 w3 w4 mS mR : Int) :
    Cg a.P (cmb a.P (shV a) w0 w1 w2 w3 w4 mS * b.delta + keyT (pl1 b m) w0 w1 w2 w3 w4 mR - cmb a.P (shT a) w0 w1 w2 w3 w4 0) ((mS - mR) * b.delta) := by
  have := chk a.P b.delta (shV a) (shT a) (kyI b) h.ta w0 w1 w2 w3 w4 mS (-((mR % a.P) * b.delta))
  have e : keyT (pl1 b m) w0 w1 w2 w3 w4 mR = cmb a.P (kyI b) w0 w1 w2 w3 w4 (-((mR % a.P) * b.delta)) := by
    unfold keyT; rw [if_pos (show (pl1 b m).party = 1 from h.pb)]
    show cmb b.P (kyI b) w0 w1 w2 w3 w4 (-((mR % b.P) * b.delta)) = _
    rw [h.bP]
  rw [e]
  refine this.trans ?_
  obtain ⟨j, hj⟩ := Cg.emod a.P mR
  rw [hj]
  exact ⟨-(j * b.delta), by grind⟩
end Go.Proofs.YtlmdckcohoddnaaDoor
namespace Go.Proofs.YtlmdckcohoddnaaDoor
open Go.RowKit
theorem pl1_n {a : Pl} (h : New a) {n : Int} (hn : 0 ≤ n ∧ n ≤ a.P - 1) : PlN (pl1 a n) := by
  have := take1 h (fr := 1 - a.party) rfl hn
  rw [← this]
  exact h.n.take (by have := h.s; omega) _ _ _
theorem cmb_seV0 (a : Pl) (n : Int) : seV0 (pl1 a n) = cmb a.P (shV a) 1 0 (-1) 0 0 (mor a (f0 (pl1 a n))) := rfl
theorem cmb_seT0 (a : Pl) (n : Int) : seT0 (pl1 a n) = cmb a.P (shT a) 1 0 (-1) 0 0 0 := rfl
theorem cmb_seV1 (a : Pl) (n : Int) : seV1 (pl1 a n) = cmb a.P (shV a) 0 1 0 (-1) 0 (mor a (f1 (pl1 a n))) := rfl
theorem cmb_seT1 (a : Pl) (n : Int) : seT1 (pl1 a n) = cmb a.P (shT a) 0 1 0 (-1) 0 0 := rfl
theorem mor_a {a : Pl} (h : a.party = 0) (m : Int) : mor a m = m := by unfold mor; rw [if_neg (by omega)]
theorem mor_b {a : Pl} (h : a.party = 1) (m : Int) : mor a m = 0 := by unfold mor; rw [if_pos h]
theorem body_rng {a : Pl} (h : New a) {n : Int} (hn : 0 ≤ n ∧ n ≤ a.P - 1) : ∀ v ∈ bodyL (pl1 a n), 0 ≤ v ∧ v ≤ a.P - 1 := bodyL_rng (pl1 a n) (pl1_n h hn)
theorem take2 {a : Pl} {n fr v0 t0 v1 t1 : Int} (hf : fr = 1 - a.party) (hb : ∀ v ∈ [v0, t0, v1, t1], 0 ≤ v ∧ v ≤ a.P - 1) (hx : accT (pl1 a n) [v0, t0, v1, t1] = true) :
    takeM (pl1 a n) (fr, 1, [v0, t0, v1, t1]) = pl2 a n [v0, t0, v1, t1] := by
  have ha : accB (pl1 a n) fr 1 [v0, t0, v1, t1] = true := by
    exact (acc_eq (a := pl1 a n) (st := 1) hf rfl rfl hb).trans hx
  unfold takeM
  rw [takeP_go ha (show ¬ (pl1 a n).step = 2 from (by decide : ¬ (1 : Int) = 2))]
  rfl
theorem take2_no {a : Pl} {n fr v0 t0 v1 t1 : Int} (hf : fr = 1 - a.party) (hb : ∀ v ∈ [v0, t0, v1, t1], 0 ≤ v ∧ v ≤ a.P - 1) (hx : accT (pl1 a n) [v0, t0, v1, t1] = false) :
    (takeM (pl1 a n) (fr, 1, [v0, t0, v1, t1])).status = 2 := by
  have ha : accB (pl1 a n) fr 1 [v0, t0, v1, t1] = false := by
    exact (acc_eq (a := pl1 a n) (st := 1) hf rfl rfl hb).trans hx
  unfold takeM
  rw [takeP_no ha]
section
variable {a b : Pl} {v : Nat → Int} (hF : Fit a b v)
include hF
theorem ok1_a (n m : Int) : holdB a.P a.delta (keyT (pl1 a n) 1 0 (-1) 0 0 (f0 (pl1 a n))) (seV0 (pl1 b m)) (seT0 (pl1 b m)) = true ∧ holdB a.P a.delta (keyT (pl1 a n) 0 1 0 (-1) 0 (f1 (pl1 a n))) (seV1 (pl1 b m)) (seT1 (pl1 b m)) = true := by
  rw [cmb_seV0, cmb_seT0, cmb_seV1, cmb_seT1, mor_b hF.pb, mor_b hF.pb, hF.bP]
  exact ⟨holdB_yes (chk_a hF _ _ _ _ _ _ _), holdB_yes (chk_a hF _ _ _ _ _ _ _)⟩
theorem off1_b (n m : Int) : Cg a.P (seV0 (pl1 a n) * b.delta + keyT (pl1 b m) 1 0 (-1) 0 0 (f0 (pl1 b m)) - seT0 (pl1 a n)) ((mkI a - m) * b.delta) ∧ Cg a.P (seV1 (pl1 a n) * b.delta + keyT (pl1 b m) 0 1 0 (-1) 0 (f1 (pl1 b m)) - seT1 (pl1 a n)) ((n - mkI b) * b.delta) := by
  rw [cmb_seV0, cmb_seT0, cmb_seV1, cmb_seT1, mor_a hF.pa, mor_a hF.pa, f0_a hF.pa, f1_a hF.pa, f0_b hF.pb, f1_b hF.pb]
  exact ⟨chk_b hF _ _ _ _ _ _ _ _, chk_b hF _ _ _ _ _ _ _ _⟩
end
theorem diff_no {p x y D : Int} (hp : isPr p = true) (hx : 0 ≤ x ∧ x ≤ p - 1) (hy : 0 ≤ y ∧ y ≤ p - 1) (hD : 1 ≤ D ∧ D ≤ p - 1) (hne : x ≠ y) : ¬ Cg p ((x - y) * D) 0 := by
  intro h
  rcases Int.lt_or_gt_of_ne hne with hlt | hgt
  · refine prime_mul hp (y - x) D (by omega) (by omega) hD.1 hD.2 ?_
    have := h.neg
    simp only [Int.neg_zero] at this
    exact (Cg.of_eq (by grind)).trans this
  · exact prime_mul hp (x - y) D (by omega) (by omega) hD.1 hD.2 h
end Go.Proofs.YtlmdckcohoddnaaDoor
namespace Go.Proofs.YtlmdckcohoddnaaDoor
open Go.RowKit
def sD (a b : Pl) : Int := (seV0 (pl1 a (mkI b)) + seV0 (pl1 b (mkI a))) % a.P
def sE (a b : Pl) : Int := (seV1 (pl1 a (mkI b)) + seV1 (pl1 b (mkI a))) % a.P
def finA (a b : Pl) : Pl := pl2 a (mkI b) (bodyL (pl1 b (mkI a)))
def finB (a b : Pl) : Pl := pl2 b (mkI a) (bodyL (pl1 a (mkI b)))
theorem dI_A (a b : Pl) : dI (finA a b) = sD a b := by unfold finA; rw [body1]; rfl
theorem eI_A (a b : Pl) : eI (finA a b) = sE a b := by unfold finA; rw [body1]; rfl
theorem dI_B {a b : Pl} (h : b.P = a.P) : dI (finB a b) = sD a b := by
  unfold finB sD; rw [body1, Int.add_comm, ← h]; rfl
theorem eI_B {a b : Pl} (h : b.P = a.P) : eI (finB a b) = sE a b := by
  unfold finB sE; rw [body1, Int.add_comm, ← h]; rfl
theorem body2 (a : Pl) (n : Int) (l : List Int) : bodyL (pl2 a n l) = [thV (pl2 a n l), thT (pl2 a n l)] := by
  unfold bodyL; rw [if_neg (show ¬ (pl2 a n l).step = 0 from (by decide : ¬ (2 : Int) = 0)), if_neg (show ¬ (pl2 a n l).step = 1 from (by decide : ¬ (2 : Int) = 1))]
theorem accT2 (a : Pl) (n : Int) (l : List Int) (x t : Int) : accT (pl2 a n l) [x, t] = holdB a.P a.delta (keyT (pl1 a n) 0 0 (eI (pl2 a n l)) (dI (pl2 a n l)) 1 (dI (pl2 a n l) * eI (pl2 a n l))) x t := by
  unfold accT; rw [if_neg (show ¬ (pl2 a n l).step = 0 from (by decide : ¬ (2 : Int) = 0)), if_neg (show ¬ (pl2 a n l).step = 1 from (by decide : ¬ (2 : Int) = 1))]; rfl
theorem take3 {a : Pl} {n fr x t : Int} {l : List Int} (hf : fr = 1 - a.party) (hb : ∀ v ∈ [x, t], 0 ≤ v ∧ v ≤ a.P - 1) (hx : accT (pl2 a n l) [x, t] = true) :
    (takeM (pl2 a n l) (fr, 2, [x, t])).status = 1 ∧ (takeM (pl2 a n l) (fr, 2, [x, t])).out = (thV (pl2 a n l) + x) % a.P := by
  have ha : accB (pl2 a n l) fr 2 [x, t] = true := (acc_eq (a := pl2 a n l) (st := 2) hf rfl rfl hb).trans hx
  unfold takeM
  rw [takeP_end ha rfl]
  exact ⟨rfl, rfl⟩
theorem take3_no {a : Pl} {n fr x t : Int} {l : List Int} (hf : fr = 1 - a.party) (hb : ∀ v ∈ [x, t], 0 ≤ v ∧ v ≤ a.P - 1) (hx : accT (pl2 a n l) [x, t] = false) :
    (takeM (pl2 a n l) (fr, 2, [x, t])).status = 2 := by
  have ha : accB (pl2 a n l) fr 2 [x, t] = false := (acc_eq (a := pl2 a n l) (st := 2) hf rfl rfl hb).trans hx
  unfold takeM
  rw [takeP_no ha]
theorem thT_A (a b : Pl) : thT (finA a b) = cmb a.P (shT a) 0 0 (sE a b) (sD a b) 1 0 := by
  show cmb a.P (shT a) 0 0 (eI (finA a b)) (dI (finA a b)) 1 0 = _
  rw [dI_A, eI_A]
section
variable {a b : Pl} {v : Nat → Int} (hF : Fit a b v)
include hF
theorem thV_A : thV (finA a b) = cmb a.P (shV a) 0 0 (sE a b) (sD a b) 1 (sD a b * sE a b) := by
  show cmb a.P (shV a) 0 0 (eI (finA a b)) (dI (finA a b)) 1 (mor (finA a b) (dI (finA a b) * eI (finA a b))) = _
  rw [mor_a (show (finA a b).party = 0 from hF.pa), dI_A, eI_A]
theorem thV_B : thV (finB a b) = cmb a.P (shV b) 0 0 (sE a b) (sD a b) 1 0 := by
  show cmb b.P (shV b) 0 0 (eI (finB a b)) (dI (finB a b)) 1 (mor (finB a b) (dI (finB a b) * eI (finB a b))) = _
  rw [mor_b (show (finB a b).party = 1 from hF.pb), dI_B hF.bP, eI_B hF.bP, hF.bP]
theorem thT_B : thT (finB a b) = cmb a.P (shT b) 0 0 (sE a b) (sD a b) 1 0 := by
  show cmb b.P (shT b) 0 0 (eI (finB a b)) (dI (finB a b)) 1 0 = _
  rw [dI_B hF.bP, eI_B hF.bP, hF.bP]
theorem ok2_a : Cg a.P (thV (finB a b) * a.delta + keyT (pl1 a (mkI b)) 0 0 (eI (finA a b)) (dI (finA a b)) 1 (dI (finA a b) * eI (finA a b)) - thT (finB a b)) 0 := by
  rw [thV_B hF, thT_B hF, dI_A, eI_A]
  exact chk_a hF _ _ _ _ _ _ _
theorem ok2_b : Cg a.P (thV (finA a b) * b.delta + keyT (pl1 b (mkI a)) 0 0 (eI (finB a b)) (dI (finB a b)) 1 (dI (finB a b) * eI (finB a b)) - thT (finA a b)) 0 := by
  rw [thV_A hF, thT_A, dI_B hF.bP, eI_B hF.bP]
  refine (chk_b hF (mkI a) 0 0 (sE a b) (sD a b) 1 (sD a b * sE a b) (sD a b * sE a b)).trans (Cg.of_eq ?_)
  rw [Int.sub_self, Int.zero_mul]
theorem out_xy : (thV (finA a b) + thV (finB a b)) % a.P = a.input * b.input % a.P := by
  rw [thV_A hF, thV_B hF]
  refine Cg.eq ?_
  have h0 := hF.sum 0 0 (sE a b) (sD a b) 1 (sD a b * sE a b)
  have hd : Cg a.P (sD a b) (mkI a + v 0 - v 2) := by
    unfold sD
    rw [cmb_seV0, cmb_seV0, mor_a hF.pa, mor_b hF.pb, f0_a hF.pa, hF.bP]
    refine (Cg.emod _ _).trans ((hF.sum 1 0 (-1) 0 0 (mkI a)).trans (Cg.of_eq (by grind)))
  have he : Cg a.P (sE a b) (mkI b + v 1 - v 3) := by
    unfold sE
    rw [cmb_seV1, cmb_seV1, mor_a hF.pa, mor_b hF.pb, f1_a hF.pa, hF.bP]
    refine (Cg.emod _ _).trans ((hF.sum 0 1 0 (-1) 0 (mkI b)).trans (Cg.of_eq (by grind)))
  have hx : Cg a.P (mkI a) (a.input - v 0) := by unfold mkI; rw [hF.am]; exact Cg.emod _ _
  have hy : Cg a.P (mkI b) (b.input - v 1) := by unfold mkI; rw [hF.bm, hF.bP]; exact Cg.emod _ _
  obtain ⟨k1, hd⟩ := hd
  obtain ⟨k2, he⟩ := he
  obtain ⟨k3, hx⟩ := hx
  obtain ⟨k4, hy⟩ := hy
  obtain ⟨k5, hv⟩ := hF.v4
  obtain ⟨k6, h0⟩ := h0
  generalize sD a b = d at *
  generalize sE a b = e at *
  have hd' : d = a.input - v 2 + a.P * (k3 + k1) := by rw [hd, hx]; grind
  have he' : e = b.input - v 3 + a.P * (k4 + k2) := by rw [he, hy]; grind
  refine ⟨k6 + k5 + (k3 + k1) * b.input + (k4 + k2) * a.input + a.P * (k3 + k1) * (k4 + k2), ?_⟩
  rw [h0, hv]
  have : d * e + 0 * v 0 + 0 * v 1 + e * v 2 + d * v 3 + 1 * (v 2 * v 3 + a.P * k5) = (d + v 2) * (e + v 3) + a.P * k5 := by grind
  rw [this, hd', he']
  grind
end
end Go.Proofs.YtlmdckcohoddnaaDoor
