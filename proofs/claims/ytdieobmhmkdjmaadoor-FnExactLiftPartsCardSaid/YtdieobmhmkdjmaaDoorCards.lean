/-
  DERIVED. GIVEN WITH THE SEED: THE CARDS: each row of YtdieobmhmkdjmaaDoorRows.lean that lists a variable, with what it lists TIED to the program's text (the seventh form; the later family's looks); each row that meets fmt, with fmt's text TOLD by the authors' own Lean function (tested against real Go, not proved from fmt's source: count such statements apart). THE CARD IS WHAT COUNTS. Prove the row's statement (the work); the ties are given (YtdieobmhmkdjmaaDoorTie.lean); close each card by the builder's one call (the guide's Derived/Test/ToyasCard.lean, 'card_holds'). Laid BY PROGRAM, IN A SANDBOX (cutbox-door.mjs). By AI agents, Wed Nov 11 2026. No macro, syntax, notation, axiom, sorry.
-/
import Derived.Test.YtdieobmhmkdjmaaDoorRows
import GoSem.ClaimSeven
namespace Go.Proofs.YtdieobmhmkdjmaaDoor
namespace Rows

/-- THE TIED CARD OF 'laws.FnExactIsFaithful'. -/
def fnExactIsFaithfulCard : Claim7 := { stood := { row := fnExactIsFaithfulRow, standIns := [], harness := (true, "3d699589b23fd19f4dbeb926469833a62f44f1fe98b3ca6e74a711b223e86919"), looks := false }, kinds := [], alts := [], laidByText := true, laidKinds := [.data], laidTests := true, laidLooks := .later }
def FnExactIsFaithfulCardSaid : Prop := Claim7.holds Tryd.pinned (.plain (OpenSpec.ofChange fnExactIsFaithfulSpec)) fnExactIsFaithfulCard

/-- THE TIED CARD OF 'laws.FnExactLiftParts'. -/
def fnExactLiftPartsCard : Claim7 := { stood := { row := fnExactLiftPartsRow, standIns := [], harness := (true, "3d699589b23fd19f4dbeb926469833a62f44f1fe98b3ca6e74a711b223e86919"), looks := false }, kinds := [], alts := [], laidByText := true, laidKinds := [.data], laidTests := true, laidLooks := .later }
def FnExactLiftPartsCardSaid : Prop := Claim7.holds Tryd.pinned (.plain (OpenSpec.ofChange fnExactLiftPartsSpec)) fnExactLiftPartsCard

/-- THE SECOND FORM's CARD OF 'laws.FnExactIsFaithful'. -/
def fnExactIsFaithfulUptoCard : Claim7 := { stood := { row := fnExactIsFaithfulUptoRow, standIns := [], harness := (true, "3d699589b23fd19f4dbeb926469833a62f44f1fe98b3ca6e74a711b223e86919"), looks := false }, kinds := [], alts := [], laidByText := true, laidKinds := [.data], laidTests := true, laidLooks := .later }
def FnExactIsFaithfulUptoCardSaid : Prop := Claim7.holds Tryd.pinned (.plain (OpenSpec.upto fnExactIsFaithfulSpec)) fnExactIsFaithfulUptoCard

/-- THE SECOND FORM's CARD OF 'laws.FnExactLiftParts'. -/
def fnExactLiftPartsUptoCard : Claim7 := { stood := { row := fnExactLiftPartsUptoRow, standIns := [], harness := (true, "3d699589b23fd19f4dbeb926469833a62f44f1fe98b3ca6e74a711b223e86919"), looks := false }, kinds := [], alts := [], laidByText := true, laidKinds := [.data], laidTests := true, laidLooks := .later }
def FnExactLiftPartsUptoCardSaid : Prop := Claim7.holds Tryd.pinned (.plain (OpenSpec.upto fnExactLiftPartsSpec)) fnExactLiftPartsUptoCard
end Rows
end Go.Proofs.YtdieobmhmkdjmaaDoor
