/-
  DERIVED. GIVEN WITH THE SEED: THE CARDS: each row of YtlmdckcohoddnaaDoorRows.lean that lists a variable, with what it lists TIED to the program's text (the seventh form; the later family's looks); each row that meets fmt, with fmt's text TOLD by the authors' own Lean function (tested against real Go, not proved from fmt's source: count such statements apart). THE CARD IS WHAT COUNTS. Prove the row's statement (the work); the ties are given (YtlmdckcohoddnaaDoorTie.lean); close each card by the builder's one call (the guide's Derived/Test/ToyasCard.lean, 'card_holds'). Laid BY PROGRAM, IN A SANDBOX (cutbox-door.mjs). By AI agents, Wed Nov 11 2026. No macro, syntax, notation, axiom, sorry.
-/
import Derived.Test.YtlmdckcohoddnaaDoorRows
import GoSem.ClaimSeven
namespace Go.Proofs.YtlmdckcohoddnaaDoor
namespace Rows

/-- THE TIED CARD OF 'laws.FnExactIsPlayer'. -/
def fnExactIsPlayerCard : Claim7 := { stood := { row := fnExactIsPlayerRow, standIns := [], harness := (true, "eb746857bc3c65babb17c8a0064bead42ed343ed9823e77fe3dab6078ac4089b"), looks := false }, kinds := [], alts := [], laidByText := true, laidKinds := [.data], laidTests := true, laidLooks := .later }
def FnExactIsPlayerCardSaid : Prop := Claim7.holds Tryd.pinned (.plain (OpenSpec.ofChange fnExactIsPlayerSpec)) fnExactIsPlayerCard

/-- THE TIED CARD OF 'laws.FnExactOutputOf'. -/
def fnExactOutputOfCard : Claim7 := { stood := { row := fnExactOutputOfRow, standIns := [], harness := (true, "eb746857bc3c65babb17c8a0064bead42ed343ed9823e77fe3dab6078ac4089b"), looks := false }, kinds := [], alts := [], laidByText := true, laidKinds := [.data], laidTests := true, laidLooks := .later }
def FnExactOutputOfCardSaid : Prop := Claim7.holds Tryd.pinned (.plain (OpenSpec.ofChange fnExactOutputOfSpec)) fnExactOutputOfCard

/-- THE TIED CARD OF 'laws.FnExactDealtValues'. -/
def fnExactDealtValuesCard : Claim7 := { stood := { row := fnExactDealtValuesRow, standIns := [], harness := (true, "eb746857bc3c65babb17c8a0064bead42ed343ed9823e77fe3dab6078ac4089b"), looks := false }, kinds := [], alts := [], laidByText := true, laidKinds := [.data], laidTests := true, laidLooks := .later }
def FnExactDealtValuesCardSaid : Prop := Claim7.holds Tryd.pinned (.plain (OpenSpec.ofChange fnExactDealtValuesSpec)) fnExactDealtValuesCard

/-- THE TIED CARD OF 'laws.FnExactMessageOf'. -/
def fnExactMessageOfCard : Claim7 := { stood := { row := fnExactMessageOfRow, standIns := [], harness := (true, "eb746857bc3c65babb17c8a0064bead42ed343ed9823e77fe3dab6078ac4089b"), looks := false }, kinds := [], alts := [], laidByText := true, laidKinds := [.data], laidTests := true, laidLooks := .later }
def FnExactMessageOfCardSaid : Prop := Claim7.holds Tryd.pinned (.plain (OpenSpec.ofChange fnExactMessageOfSpec)) fnExactMessageOfCard

/-- THE TIED CARD OF 'laws.FnBentMessages'. -/
def fnBentMessagesCard : Claim7 := { stood := { row := fnBentMessagesRow, standIns := [], harness := (true, "eb746857bc3c65babb17c8a0064bead42ed343ed9823e77fe3dab6078ac4089b"), looks := false }, kinds := [], alts := [], laidByText := true, laidKinds := [.data], laidTests := true, laidLooks := .later }
def FnBentMessagesCardSaid : Prop := Claim7.holds Tryd.pinned (.plain (OpenSpec.ofChange fnBentMessagesSpec)) fnBentMessagesCard

/-- THE TIED CARD OF 'laws.FnExactTakeMessage'. -/
def fnExactTakeMessageCard : Claim7 := { stood := { row := fnExactTakeMessageRow, standIns := [], harness := (true, "eb746857bc3c65babb17c8a0064bead42ed343ed9823e77fe3dab6078ac4089b"), looks := false }, kinds := [], alts := [], laidByText := true, laidKinds := [.data], laidTests := true, laidLooks := .later }
def FnExactTakeMessageCardSaid : Prop := Claim7.holds Tryd.pinned (.plain (OpenSpec.ofChange fnExactTakeMessageSpec)) fnExactTakeMessageCard

/-- THE TIED CARD OF 'laws.FnExactRunBent'. -/
def fnExactRunBentCard : Claim7 := { stood := { row := fnExactRunBentRow, standIns := [], harness := (true, "eb746857bc3c65babb17c8a0064bead42ed343ed9823e77fe3dab6078ac4089b"), looks := false }, kinds := [], alts := [], laidByText := true, laidKinds := [.data], laidTests := true, laidLooks := .later }
def FnExactRunBentCardSaid : Prop := Claim7.holds Tryd.pinned (.plain (OpenSpec.ofChange fnExactRunBentSpec)) fnExactRunBentCard

/-- THE TIED CARD OF 'laws.FnExactReplayFor'. -/
def fnExactReplayForCard : Claim7 := { stood := { row := fnExactReplayForRow, standIns := [], harness := (true, "eb746857bc3c65babb17c8a0064bead42ed343ed9823e77fe3dab6078ac4089b"), looks := false }, kinds := [], alts := [], laidByText := true, laidKinds := [.data], laidTests := true, laidLooks := .later }
def FnExactReplayForCardSaid : Prop := Claim7.holds Tryd.pinned (.plain (OpenSpec.ofChange fnExactReplayForSpec)) fnExactReplayForCard

/-- THE TIED CARD OF 'laws.FnExactSilentValues'. -/
def fnExactSilentValuesCard : Claim7 := { stood := { row := fnExactSilentValuesRow, standIns := [], harness := (true, "eb746857bc3c65babb17c8a0064bead42ed343ed9823e77fe3dab6078ac4089b"), looks := false }, kinds := [], alts := [], laidByText := true, laidKinds := [.data], laidTests := true, laidLooks := .later }
def FnExactSilentValuesCardSaid : Prop := Claim7.holds Tryd.pinned (.plain (OpenSpec.ofChange fnExactSilentValuesSpec)) fnExactSilentValuesCard

/-- THE TIED CARD OF 'laws.FnExactRunPlayers'. -/
def fnExactRunPlayersCard : Claim7 := { stood := { row := fnExactRunPlayersRow, standIns := [], harness := (true, "eb746857bc3c65babb17c8a0064bead42ed343ed9823e77fe3dab6078ac4089b"), looks := false }, kinds := [], alts := [], laidByText := true, laidKinds := [.data], laidTests := true, laidLooks := .later }
def FnExactRunPlayersCardSaid : Prop := Claim7.holds Tryd.pinned (.plain (OpenSpec.ofChange fnExactRunPlayersSpec)) fnExactRunPlayersCard

/-- THE SECOND FORM's CARD OF 'laws.FnExactIsPlayer'. -/
def fnExactIsPlayerUptoCard : Claim7 := { stood := { row := fnExactIsPlayerUptoRow, standIns := [], harness := (true, "eb746857bc3c65babb17c8a0064bead42ed343ed9823e77fe3dab6078ac4089b"), looks := false }, kinds := [], alts := [], laidByText := true, laidKinds := [.data], laidTests := true, laidLooks := .later }
def FnExactIsPlayerUptoCardSaid : Prop := Claim7.holds Tryd.pinned (.plain (OpenSpec.upto fnExactIsPlayerSpec)) fnExactIsPlayerUptoCard

/-- THE SECOND FORM's CARD OF 'laws.FnExactOutputOf'. -/
def fnExactOutputOfUptoCard : Claim7 := { stood := { row := fnExactOutputOfUptoRow, standIns := [], harness := (true, "eb746857bc3c65babb17c8a0064bead42ed343ed9823e77fe3dab6078ac4089b"), looks := false }, kinds := [], alts := [], laidByText := true, laidKinds := [.data], laidTests := true, laidLooks := .later }
def FnExactOutputOfUptoCardSaid : Prop := Claim7.holds Tryd.pinned (.plain (OpenSpec.upto fnExactOutputOfSpec)) fnExactOutputOfUptoCard

/-- THE SECOND FORM's CARD OF 'laws.FnExactDealtValues'. -/
def fnExactDealtValuesUptoCard : Claim7 := { stood := { row := fnExactDealtValuesUptoRow, standIns := [], harness := (true, "eb746857bc3c65babb17c8a0064bead42ed343ed9823e77fe3dab6078ac4089b"), looks := false }, kinds := [], alts := [], laidByText := true, laidKinds := [.data], laidTests := true, laidLooks := .later }
def FnExactDealtValuesUptoCardSaid : Prop := Claim7.holds Tryd.pinned (.plain (OpenSpec.upto fnExactDealtValuesSpec)) fnExactDealtValuesUptoCard

/-- THE SECOND FORM's CARD OF 'laws.FnExactMessageOf'. -/
def fnExactMessageOfUptoCard : Claim7 := { stood := { row := fnExactMessageOfUptoRow, standIns := [], harness := (true, "eb746857bc3c65babb17c8a0064bead42ed343ed9823e77fe3dab6078ac4089b"), looks := false }, kinds := [], alts := [], laidByText := true, laidKinds := [.data], laidTests := true, laidLooks := .later }
def FnExactMessageOfUptoCardSaid : Prop := Claim7.holds Tryd.pinned (.plain (OpenSpec.upto fnExactMessageOfSpec)) fnExactMessageOfUptoCard

/-- THE SECOND FORM's CARD OF 'laws.FnBentMessages'. -/
def fnBentMessagesUptoCard : Claim7 := { stood := { row := fnBentMessagesUptoRow, standIns := [], harness := (true, "eb746857bc3c65babb17c8a0064bead42ed343ed9823e77fe3dab6078ac4089b"), looks := false }, kinds := [], alts := [], laidByText := true, laidKinds := [.data], laidTests := true, laidLooks := .later }
def FnBentMessagesUptoCardSaid : Prop := Claim7.holds Tryd.pinned (.plain (OpenSpec.upto fnBentMessagesSpec)) fnBentMessagesUptoCard

/-- THE SECOND FORM's CARD OF 'laws.FnExactTakeMessage'. -/
def fnExactTakeMessageUptoCard : Claim7 := { stood := { row := fnExactTakeMessageUptoRow, standIns := [], harness := (true, "eb746857bc3c65babb17c8a0064bead42ed343ed9823e77fe3dab6078ac4089b"), looks := false }, kinds := [], alts := [], laidByText := true, laidKinds := [.data], laidTests := true, laidLooks := .later }
def FnExactTakeMessageUptoCardSaid : Prop := Claim7.holds Tryd.pinned (.plain (OpenSpec.upto fnExactTakeMessageSpec)) fnExactTakeMessageUptoCard

/-- THE SECOND FORM's CARD OF 'laws.FnExactRunBent'. -/
def fnExactRunBentUptoCard : Claim7 := { stood := { row := fnExactRunBentUptoRow, standIns := [], harness := (true, "eb746857bc3c65babb17c8a0064bead42ed343ed9823e77fe3dab6078ac4089b"), looks := false }, kinds := [], alts := [], laidByText := true, laidKinds := [.data], laidTests := true, laidLooks := .later }
def FnExactRunBentUptoCardSaid : Prop := Claim7.holds Tryd.pinned (.plain (OpenSpec.upto fnExactRunBentSpec)) fnExactRunBentUptoCard

/-- THE SECOND FORM's CARD OF 'laws.FnExactReplayFor'. -/
def fnExactReplayForUptoCard : Claim7 := { stood := { row := fnExactReplayForUptoRow, standIns := [], harness := (true, "eb746857bc3c65babb17c8a0064bead42ed343ed9823e77fe3dab6078ac4089b"), looks := false }, kinds := [], alts := [], laidByText := true, laidKinds := [.data], laidTests := true, laidLooks := .later }
def FnExactReplayForUptoCardSaid : Prop := Claim7.holds Tryd.pinned (.plain (OpenSpec.upto fnExactReplayForSpec)) fnExactReplayForUptoCard

/-- THE SECOND FORM's CARD OF 'laws.FnExactSilentValues'. -/
def fnExactSilentValuesUptoCard : Claim7 := { stood := { row := fnExactSilentValuesUptoRow, standIns := [], harness := (true, "eb746857bc3c65babb17c8a0064bead42ed343ed9823e77fe3dab6078ac4089b"), looks := false }, kinds := [], alts := [], laidByText := true, laidKinds := [.data], laidTests := true, laidLooks := .later }
def FnExactSilentValuesUptoCardSaid : Prop := Claim7.holds Tryd.pinned (.plain (OpenSpec.upto fnExactSilentValuesSpec)) fnExactSilentValuesUptoCard

/-- THE SECOND FORM's CARD OF 'laws.FnExactRunPlayers'. -/
def fnExactRunPlayersUptoCard : Claim7 := { stood := { row := fnExactRunPlayersUptoRow, standIns := [], harness := (true, "eb746857bc3c65babb17c8a0064bead42ed343ed9823e77fe3dab6078ac4089b"), looks := false }, kinds := [], alts := [], laidByText := true, laidKinds := [.data], laidTests := true, laidLooks := .later }
def FnExactRunPlayersUptoCardSaid : Prop := Claim7.holds Tryd.pinned (.plain (OpenSpec.upto fnExactRunPlayersSpec)) fnExactRunPlayersUptoCard
end Rows
end Go.Proofs.YtlmdckcohoddnaaDoor
