/- The shares of all wires, and what is opened: what they are. -/
import Derived.Test.YthpcmbdkboajcaaRowsOf
import Derived.Test.YthpcmbdkboajcaaInSh
import Derived.Test.YthpcmbdkboajcaaMulSh
namespace Go.Proofs.Ythpcmbdkboajcaa
open Go.RowKit

/-- The state behind some gates: the shares of both parties, and what was opened. -/
abbrev WSt := List Int × List Int × List (List Int)
def wsD (P key : Int) (k : Nat) (a : Int) (F S : List Int) : Int := (F.getD a.toNat 0 + S.getD a.toNat 0 - gtN P key k 0 - gtN P key k 3) % P
def wsE (P key : Int) (k : Nat) (b : Int) (F S : List Int) : Int := (F.getD b.toNat 0 + S.getD b.toNat 0 - gtN P key k 1 - gtN P key k 4) % P
def wsT (P key fault change : Int) (k : Nat) : Int := if (k : Int) = fault then (gtZ P key k + change) % P else gtZ P key k
def wsMul (P key fault change a b : Int) (k : Nat) (st : WSt) : WSt :=
  let d := wsD P key k a st.1 st.2.1
  let e := wsE P key k b st.1 st.2.1
  (st.1 ++ [shareI P 0 (gtN P key k 0) (gtN P key k 1) (gtN P key k 2) d e], st.2.1 ++ [shareI P 1 (gtN P key k 3) (gtN P key k 4) (wsT P key fault change k) d e], st.2.2 ++ [[d, e]])
def wsLoc (P kd a b : Int) (st : WSt) : WSt := (st.1 ++ [localI P kd a b 0 st.1], st.2.1 ++ [localI P kd a b 1 st.2.1], st.2.2)
def wsStep (P key fault change : Int) (G : List Int) (k : Nat) (st : WSt) : WSt :=
  if G.getD (k * 3) 0 = 1 then wsMul P key fault change (G.getD (k * 3 + 1) 0) (G.getD (k * 3 + 2) 0) k st
  else wsLoc P (G.getD (k * 3) 0) (G.getD (k * 3 + 1) 0) (G.getD (k * 3 + 2) 0) st
def wsR (P key fault change : Int) (G F S : List Int) : Nat → WSt
  | 0 => (F, S, [])
  | k + 1 => wsStep P key fault change G k (wsR P key fault change G F S k)
/-- What holds of the state behind k gates. -/
structure WsOk (P : Int) (n : Nat) (st : WSt) : Prop where
  lf : st.1.length = n
  ls : st.2.1.length = n
  rf : ∀ x ∈ st.1, 0 ≤ x ∧ x ≤ P - 1
  rs : ∀ x ∈ st.2.1, 0 ≤ x ∧ x ≤ P - 1
theorem localI_rng {P kd a b party own : Int} {S : List Int} (hp : 1 ≤ P) (_hs : ∀ x ∈ S, 0 ≤ x ∧ x ≤ P - 1) (hg : gateB P kd a b own = true) (hk : kd ≠ 1) (q0 : party = 0 ∨ party = 1) : 0 ≤ localI P kd a b party S ∧ localI P kd a b party S ≤ P - 1 := by
  unfold localI
  split
  · exact mod_rng _ _ hp
  · split
    · exact mod_rng _ _ hp
    · rename_i h0 h2
      obtain ⟨_, ⟨h3, h4⟩, _⟩ := gateB_const hg h0 hk h2
      rcases q0 with rfl | rfl
      · rw [Int.sub_zero, Int.mul_one]; exact ⟨h3, h4⟩
      · simp; omega
theorem WsOk.step {P key fault change own : Int} {G : List Int} {k n : Nat} {st : WSt} (h : WsOk P n st) (hp : 1 ≤ P) (hg : gateAt P own G k = true) : WsOk P (n + 1) (wsStep P key fault change G k st) := by
  unfold wsStep
  split
  · exact ⟨by simp [wsMul, h.lf], by simp [wsMul, h.ls], fun x hx => by
      rcases List.mem_append.1 hx with hx | hx
      · exact h.rf x hx
      · rw [List.mem_singleton] at hx; subst hx; exact mod_rng _ _ hp, fun x hx => by
      rcases List.mem_append.1 hx with hx | hx
      · exact h.rs x hx
      · rw [List.mem_singleton] at hx; subst hx; exact mod_rng _ _ hp⟩
  · rename_i hk
    exact ⟨by simp [wsLoc, h.lf], by simp [wsLoc, h.ls], fun x hx => by
      rcases List.mem_append.1 hx with hx | hx
      · exact h.rf x hx
      · rw [List.mem_singleton] at hx; subst hx; exact localI_rng hp h.rf hg hk (Or.inl rfl), fun x hx => by
      rcases List.mem_append.1 hx with hx | hx
      · exact h.rs x hx
      · rw [List.mem_singleton] at hx; subst hx; exact localI_rng hp h.rs hg hk (Or.inr rfl)⟩
theorem wsR_ok {P key fault change own : Int} {G F S : List Int} {n gn : Nat} (hp : 1 ≤ P) (hF : F.length = n) (hS : S.length = n) (rF : ∀ x ∈ F, 0 ≤ x ∧ x ≤ P - 1) (rS : ∀ x ∈ S, 0 ≤ x ∧ x ≤ P - 1) (hg : ∀ k, k < gn → gateAt P own G k = true) :
    ∀ k, k ≤ gn → WsOk P (n + k) (wsR P key fault change G F S k)
  | 0, _ => ⟨hF, hS, rF, rS⟩
  | k + 1, h => (wsR_ok hp hF hS rF rS hg k (by omega)).step hp (hg k (by omega))
/-- The rows of what was opened. -/
def datas (rs : List RowD) : List (List Int) := rs.map fun r => r.2.2
theorem datas_app (rs : List RowD) (r : RowD) : datas (rs ++ [r]) = datas rs ++ [r.2.2] := by simp [datas]
end Go.Proofs.Ythpcmbdkboajcaa
