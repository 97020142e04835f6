/- Players: what they send and accept, in plain numbers. -/
import Derived.Test.YtlmdckcohoddnaaDoorDealt
namespace Go.Proofs.YtlmdckcohoddnaaDoor
open Go.RowKit
def shV (a : Pl) (i : Nat) : Int := a.shares.getD (i * 2) 0
def shT (a : Pl) (i : Nat) : Int := a.shares.getD (i * 2 + 1) 0
def kyI (a : Pl) (i : Nat) : Int := a.keys.getD i 0
def hdI (a : Pl) (i j : Nat) : Int := (hAt a.heard i).getD j 0
/-- The own input without its mask. -/
def mkI (a : Pl) : Int := (a.input - a.mask) % a.P
def f0 (a : Pl) : Int := if a.party = 0 then mkI a else hdI a 0 0
def f1 (a : Pl) : Int := if a.party = 0 then hdI a 0 0 else mkI a
/-- A weighted sum of five numbers. -/
def cmb (p : Int) (L : Nat → Int) (w0 w1 w2 w3 w4 more : Int) : Int := (more + w0 * L 0 + w1 * L 1 + w2 * L 2 + w3 * L 3 + w4 * L 4) % p
def mor (a : Pl) (m : Int) : Int := if a.party = 1 then 0 else m
def seV0 (a : Pl) : Int := cmb a.P (shV a) 1 0 (-1) 0 0 (mor a (f0 a))
def seT0 (a : Pl) : Int := cmb a.P (shT a) 1 0 (-1) 0 0 0
def seV1 (a : Pl) : Int := cmb a.P (shV a) 0 1 0 (-1) 0 (mor a (f1 a))
def seT1 (a : Pl) : Int := cmb a.P (shT a) 0 1 0 (-1) 0 0
def dI (a : Pl) : Int := (seV0 a + hdI a 1 0) % a.P
def eI (a : Pl) : Int := (seV1 a + hdI a 1 2) % a.P
def thV (a : Pl) : Int := cmb a.P (shV a) 0 0 (eI a) (dI a) 1 (mor a (dI a * eI a))
def thT (a : Pl) : Int := cmb a.P (shT a) 0 0 (eI a) (dI a) 1 0
/-- What a player sends. -/
def bodyL (a : Pl) : List Int := if a.step = 0 then [mkI a] else if a.step = 1 then [seV0 a, seT0 a, seV1 a, seT1 a] else [thV a, thT a]
/-- The key of a term. -/
def keyT (a : Pl) (w0 w1 w2 w3 w4 m : Int) : Int := cmb a.P (kyI a) w0 w1 w2 w3 w4 (if a.party = 1 then -((m % a.P) * a.delta) else 0)
def accT (a : Pl) (b : List Int) : Bool :=
  if a.step = 0 then true
  else if a.step = 1 then holdB a.P a.delta (keyT a 1 0 (-1) 0 0 (f0 a)) (b.getD 0 0) (b.getD 1 0) && holdB a.P a.delta (keyT a 0 1 0 (-1) 0 (f1 a)) (b.getD 2 0) (b.getD 3 0)
  else holdB a.P a.delta (keyT a 0 0 (eI a) (dI a) 1 (dI a * eI a)) (b.getD 0 0) (b.getD 1 0)
/-- Whether a running player accepts a message. -/
def accB (a : Pl) (fr st : Int) (b : List Int) : Bool :=
  decide (fr = 1 - a.party) && (decide (st = a.step) && (bodyB a.P a.step.toNat b && accT a b))
/-- A player after a message. -/
def takeP (a : Pl) (fr st : Int) (b : List Int) : Pl :=
  if accB a fr st b then
    { a with heard := a.heard ++ [b], step := a.step + 1, status := if a.step = 2 then 1 else a.status, out := if a.step = 2 then (thV a + b.getD 0 0) % a.P else a.out }
  else { a with status := 2 }
theorem emod_rng (x p : Int) (hp : 1 ≤ p) : 0 ≤ x % p ∧ x % p ≤ p - 1 := ⟨Int.emod_nonneg _ (by omega), by have := Int.emod_lt_of_pos x (by omega : 0 < p); omega⟩
theorem cmb_rng (p : Int) (L : Nat → Int) (w0 w1 w2 w3 w4 m : Int) (hp : 1 ≤ p) : 0 ≤ cmb p L w0 w1 w2 w3 w4 m ∧ cmb p L w0 w1 w2 w3 w4 m ≤ p - 1 := emod_rng _ _ hp
/-- What the contracts ask of a player's numbers. -/
structure PlN (a : Pl) : Prop where
  p1 : 2 ≤ a.P
  p2 : a.P ≤ 251
  ip : 0 ≤ a.input ∧ a.input ≤ a.P - 1
  mks : 0 ≤ a.mask ∧ a.mask ≤ a.P - 1
  de : 0 ≤ a.delta ∧ a.delta ≤ a.P - 1
  ou : 0 ≤ a.out ∧ a.out ≤ a.P - 1
  pa : 0 ≤ a.party ∧ a.party ≤ 1
  sl : a.shares.length = 10
  kl : a.keys.length = 5
  sv : ∀ i, i < 5 → 0 ≤ shV a i ∧ shV a i ≤ a.P - 1
  st : ∀ i, i < 5 → 0 ≤ shT a i ∧ shT a i ≤ a.P - 1
  ky : ∀ i, i < 5 → 0 ≤ kyI a i ∧ kyI a i ≤ a.P - 1
  stp : 0 ≤ a.step ∧ a.step ≤ 3
  hl : (a.heard.length : Int) = a.step
  hb : ∀ i, i < a.heard.length → (hAt a.heard i).length = blen i ∧ ∀ j, j < blen i → 0 ≤ hdI a i j ∧ hdI a i j ≤ a.P - 1
  pr : isPr a.P = true
theorem PlN.of {a : Pl} (h : plB a = true) : PlN a := by
  obtain ⟨g0, g1, g2, g3, g4, g5, g6, g7, g8, g9, g10, g11, g12, g13, g14⟩ := plB_parts h
  obtain ⟨p1, p2⟩ := isPr_range g0
  refine ⟨p1, p2, g1, g2, g3, g4, g5, g7, g8, fun i hi => (tagAt_parts (g10 i hi)).1, fun i hi => (tagAt_parts (g10 i hi)).2, fun i hi => g9 _ (getD_mem _ _ (by omega)), g11, g12, fun i hi => ?_, g0⟩
  have h1 := g13 i hi
  unfold heardAt bodyB at h1
  rw [Bool.and_eq_true] at h1
  have h2 : (hAt a.heard i).length = blen i := of_decide_eq_true h1.1
  exact ⟨h2, fun j hj => (allB_iff _ _ _).1 h1.2 _ (getD_mem _ _ (by omega))⟩
theorem mkI_rng {a : Pl} (h : PlN a) : 0 ≤ mkI a ∧ mkI a ≤ a.P - 1 := emod_rng _ _ (by have := h.p1; omega)
theorem f0_rng {a : Pl} (h : PlN a) (hs : 1 ≤ a.step) : 0 ≤ f0 a ∧ f0 a ≤ a.P - 1 := by
  unfold f0; split
  · exact mkI_rng h
  · exact (h.hb 0 (by have := h.hl; omega)).2 0 (by decide)
theorem f1_rng {a : Pl} (h : PlN a) (hs : 1 ≤ a.step) : 0 ≤ f1 a ∧ f1 a ≤ a.P - 1 := by
  unfold f1; split
  · exact (h.hb 0 (by have := h.hl; omega)).2 0 (by decide)
  · exact mkI_rng h
theorem dI_rng {a : Pl} (h : PlN a) : 0 ≤ dI a ∧ dI a ≤ a.P - 1 := emod_rng _ _ (by have := h.p1; omega)
theorem eI_rng {a : Pl} (h : PlN a) : 0 ≤ eI a ∧ eI a ≤ a.P - 1 := emod_rng _ _ (by have := h.p1; omega)
/-- A heard number lies in memory. -/
theorem PlR.hd {w : World} {x : PlX} {a : Pl} (h : PlR w x a.shares a.keys a.heard) (i : Nat) (hi : i < a.heard.length) :
    x.hn = a.heard.length ∧ ∃ (g o : Nat) (r : RowD), x.ha = some ⟨g, o, none⟩ ∧ w.cell? ⟨g, o + i, none⟩ = some (.slice r.1 r.2.2.length r.2.1) ∧ Ints w r.1 r.2.2.length r.2.1 r.2.2 ∧ r.2.2 = hAt a.heard i := by
  obtain ⟨_, _, rs, hH, hD⟩ := h
  have h1 := hH.len
  have h2 : rs.length = a.heard.length := by rw [← hD, datas_len]
  obtain ⟨g, o, e1, e2, e3⟩ := hH.at i (by omega)
  exact ⟨by omega, g, o, _, e1, e2, e3, (hAt_rs hD i (by omega)).symm⟩
end Go.Proofs.YtlmdckcohoddnaaDoor
