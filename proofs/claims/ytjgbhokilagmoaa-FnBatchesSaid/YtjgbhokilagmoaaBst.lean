/- A store of a whole struct inside a region that draws its order. -/
import Derived.Test.YtjgbhokilagmoaaKinds
namespace Go.Proofs.Ytjgbhokilagmoaa
open Go.RowKit
theorem step_st {c : Prop} [Decidable c] {o : Oper} {act : Act} {w : World} {K : Act → World → Prop} {Q : Exit → Act → World → Prop} {E : Prop} {g : Nat} {t : TypeId} {old vs : Array Value} (hB : Blk w g t old) (hc : c) (ty : TypeId) (x y : Operand) (ho : o.op = .store ty x y)
    (hx : act.eval x = .pointer (some ⟨g, 0, none⟩)) (hy : act.eval y = .agg vs) (hi : (Try.prog.info? ty).map (·.size) = some vs.size) (hs : old.size = vs.size) (h1 : vs.all (·.oneCell') = true)
    (h : ∀ N, Blk N g t vs → Only [g] w N → K (act.put o.dst undef) N) :
    if c then Oper.wp Try.prog o act w K Q else E := by
  rw [if_pos hc]
  exact wp_store_row ty x y ho g vs hx hy t old hB hi hs h1 (h _ (setRow_heap w g old _ t _ hB) ⟨rfl, rfl, rfl, by simp, fun q _ hq => setRow_other w g q _ (by simpa using hq)⟩)
end Go.Proofs.Ytjgbhokilagmoaa
