/- Players: the reference's own steps in plain numbers. -/
import Derived.Test.YtlmdckcohoddnaaDoorBodyM
namespace Go.Proofs.YtlmdckcohoddnaaDoor
open Go.RowKit
theorem em {p x y : Int} (k : Int) (h : x = y + p * k) : x % p = y % p := by rw [h]; exact Int.add_mul_emod_self_left y p k
theorem PlN.party01 {a : Pl} (h : PlN a) : a.party = 0 ∨ a.party = 1 := by have := h.pa; omega
def shfV (a : Pl) (v k : Int) : Int := if a.party = 0 then (v + k) % a.P else v
def mvd (a : Pl) (key k : Int) : Int := (if a.party = 1 then key - k * a.delta else key) % a.P
theorem shfV_rng {a : Pl} (h : PlN a) (v k : Int) (hv : 0 ≤ v ∧ v ≤ a.P - 1) : 0 ≤ shfV a v k ∧ shfV a v k ≤ a.P - 1 := by
  unfold shfV; split
  · exact emod_rng _ _ (by have := h.p1; omega)
  · exact hv
theorem mvd_rng {a : Pl} (h : PlN a) (key k : Int) : 0 ≤ mvd a key k ∧ mvd a key k ≤ a.P - 1 := emod_rng _ _ (by have := h.p1; omega)
theorem seV0_eq {a : Pl} (h : PlN a) : (shfV a (shV a 0) (f0 a) + (a.P - 1) * shV a 2) % a.P = seV0 a := by
  unfold seV0 shfV cmb mor
  rcases h.party01 with e | e
  · rw [if_pos e, if_neg (by omega), Int.emod_def (shV a 0 + f0 a) a.P]
    generalize (shV a 0 + f0 a) / a.P = q
    exact em (shV a 2 - q) (by grind)
  · rw [if_neg (by omega), if_pos e]
    exact em (shV a 2) (by grind)
theorem seT0_eq {a : Pl} : (shT a 0 + (a.P - 1) * shT a 2) % a.P = seT0 a := em (shT a 2) (by grind)
theorem seV1_eq {a : Pl} (h : PlN a) : (shfV a (shV a 1) (f1 a) + (a.P - 1) * shV a 3) % a.P = seV1 a := by
  unfold seV1 shfV cmb mor
  rcases h.party01 with e | e
  · rw [if_pos e, if_neg (by omega), Int.emod_def (shV a 1 + f1 a) a.P]
    generalize (shV a 1 + f1 a) / a.P = q
    exact em (shV a 3 - q) (by grind)
  · rw [if_neg (by omega), if_pos e]
    exact em (shV a 3) (by grind)
theorem seT1_eq {a : Pl} : (shT a 1 + (a.P - 1) * shT a 3) % a.P = seT1 a := em (shT a 3) (by grind)
theorem thT_eq {a : Pl} : ((shT a 4 + dI a * shT a 3) % a.P + eI a * shT a 2) % a.P = thT a := by
  unfold thT cmb
  rw [Int.emod_def (shT a 4 + dI a * shT a 3) a.P]
  generalize (shT a 4 + dI a * shT a 3) / a.P = q
  exact em (-q) (by grind)
theorem thV_eq {a : Pl} (h : PlN a) : shfV a (((shV a 4 + dI a * shV a 3) % a.P + eI a * shV a 2) % a.P) (dI a * eI a % a.P) = thV a := by
  unfold thV shfV cmb mor
  rw [Int.emod_def (shV a 4 + dI a * shV a 3) a.P]
  generalize (shV a 4 + dI a * shV a 3) / a.P = q
  rcases h.party01 with e | e
  · rw [if_pos e, if_neg (by omega), Int.emod_def (shV a 4 + dI a * shV a 3 - a.P * q + eI a * shV a 2) a.P, Int.emod_def (dI a * eI a) a.P]
    generalize (shV a 4 + dI a * shV a 3 - a.P * q + eI a * shV a 2) / a.P = q2
    generalize (dI a * eI a) / a.P = q3
    exact em (-q - q2 - q3) (by grind)
  · rw [if_neg (by omega), if_pos e]
    exact em (-q) (by grind)
theorem key0_eq {a : Pl} (h : PlN a) (hs : 1 ≤ a.step) : (mvd a (kyI a 0) (f0 a) - kyI a 2) % a.P = keyT a 1 0 (-1) 0 0 (f0 a) := by
  have hf := f0_rng h hs
  unfold mvd keyT cmb
  rw [Int.emod_eq_of_lt hf.1 (by omega)]
  rcases h.party01 with e | e
  · rw [if_neg (by omega), if_neg (by omega), Int.emod_def (kyI a 0) a.P]
    generalize kyI a 0 / a.P = q
    exact em (-q) (by grind)
  · rw [if_pos e, if_pos e, Int.emod_def (kyI a 0 - f0 a * a.delta) a.P]
    generalize (kyI a 0 - f0 a * a.delta) / a.P = q
    exact em (-q) (by grind)
theorem key1_eq {a : Pl} (h : PlN a) (hs : 1 ≤ a.step) : (mvd a (kyI a 1) (f1 a) - kyI a 3) % a.P = keyT a 0 1 0 (-1) 0 (f1 a) := by
  have hf := f1_rng h hs
  unfold mvd keyT cmb
  rw [Int.emod_eq_of_lt hf.1 (by omega)]
  rcases h.party01 with e | e
  · rw [if_neg (by omega), if_neg (by omega), Int.emod_def (kyI a 1) a.P]
    generalize kyI a 1 / a.P = q
    exact em (-q) (by grind)
  · rw [if_pos e, if_pos e, Int.emod_def (kyI a 1 - f1 a * a.delta) a.P]
    generalize (kyI a 1 - f1 a * a.delta) / a.P = q
    exact em (-q) (by grind)
theorem key2_eq {a : Pl} (h : PlN a) : mvd a (kyI a 4 + dI a * kyI a 3 + eI a * kyI a 2) (dI a * eI a % a.P) = keyT a 0 0 (eI a) (dI a) 1 (dI a * eI a) := by
  unfold mvd keyT cmb
  rcases h.party01 with e | e
  · rw [if_neg (by omega), if_neg (by omega)]
    exact em 0 (by grind)
  · rw [if_pos e, if_pos e]
    exact em 0 (by grind)
end Go.Proofs.YtlmdckcohoddnaaDoor
