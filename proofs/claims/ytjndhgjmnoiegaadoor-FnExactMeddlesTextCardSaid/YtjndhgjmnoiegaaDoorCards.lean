/-
  DERIVED. GIVEN WITH THE SEED: THE CARDS: each row of YtjndhgjmnoiegaaDoorRows.lean that lists a variable, with what it lists TIED to the program's text (the seventh form; the later family's looks); each row that meets fmt, with fmt's text TOLD by the authors' own Lean function (tested against real Go, not proved from fmt's source: count such statements apart). THE CARD IS WHAT COUNTS. Prove the row's statement (the work); the ties are given (YtjndhgjmnoiegaaDoorTie.lean); close each card by the builder's one call (the guide's Derived/Test/ToyasCard.lean, 'card_holds'). Laid BY PROGRAM, IN A SANDBOX (cutbox-door.mjs). By AI agents, Wed Nov 11 2026. No macro, syntax, notation, axiom, sorry.
-/
import Derived.Test.YtjndhgjmnoiegaaDoorRows
import GoSem.ClaimSeven
namespace Go.Proofs.YtjndhgjmnoiegaaDoor
namespace Rows

/-- THE TIED CARD OF 'laws.FnExactAreMeddles'. -/
def fnExactAreMeddlesCard : Claim7 := { stood := { row := fnExactAreMeddlesRow, standIns := [], harness := (true, "01def34db98bf7e5895f0a65782fc8a6112b2df2c6fe6514745ab30afdec572d"), looks := false }, kinds := [], alts := [], laidByText := true, laidKinds := [.data], laidTests := true, laidLooks := .later }
def FnExactAreMeddlesCardSaid : Prop := Claim7.holds Tryd.pinned (.plain (OpenSpec.ofChange fnExactAreMeddlesSpec)) fnExactAreMeddlesCard

/-- THE TIED CARD OF 'laws.FnExactMeddlesText'. -/
def fnExactMeddlesTextCard : Claim7 := { stood := { row := fnExactMeddlesTextRow, standIns := [], harness := (true, "01def34db98bf7e5895f0a65782fc8a6112b2df2c6fe6514745ab30afdec572d"), looks := false }, kinds := [], alts := [], laidByText := true, laidKinds := [.data, .data, .data, .data, .widerDeep], laidTests := true, laidLooks := .later }
def FnExactMeddlesTextCardSaid : Prop := Claim7.holds Tryd.pinned (.plain (OpenSpec.ofChange fnExactMeddlesTextSpec)) fnExactMeddlesTextCard

/-- THE SECOND FORM's CARD OF 'laws.FnExactAreMeddles'. -/
def fnExactAreMeddlesUptoCard : Claim7 := { stood := { row := fnExactAreMeddlesUptoRow, standIns := [], harness := (true, "01def34db98bf7e5895f0a65782fc8a6112b2df2c6fe6514745ab30afdec572d"), looks := false }, kinds := [], alts := [], laidByText := true, laidKinds := [.data], laidTests := true, laidLooks := .later }
def FnExactAreMeddlesUptoCardSaid : Prop := Claim7.holds Tryd.pinned (.plain (OpenSpec.upto fnExactAreMeddlesSpec)) fnExactAreMeddlesUptoCard

/-- THE SECOND FORM's CARD OF 'laws.FnExactMeddlesText'. -/
def fnExactMeddlesTextUptoCard : Claim7 := { stood := { row := fnExactMeddlesTextUptoRow, standIns := [], harness := (true, "01def34db98bf7e5895f0a65782fc8a6112b2df2c6fe6514745ab30afdec572d"), looks := false }, kinds := [], alts := [], laidByText := true, laidKinds := [.data, .data, .data, .data, .widerDeep], laidTests := true, laidLooks := .later }
def FnExactMeddlesTextUptoCardSaid : Prop := Claim7.holds Tryd.pinned (.plain (OpenSpec.upto fnExactMeddlesTextSpec)) fnExactMeddlesTextUptoCard
end Rows
end Go.Proofs.YtjndhgjmnoiegaaDoor
