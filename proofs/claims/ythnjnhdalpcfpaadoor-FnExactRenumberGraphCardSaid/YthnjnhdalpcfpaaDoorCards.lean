/-
  DERIVED. GIVEN WITH THE SEED: THE CARDS: each row of YthnjnhdalpcfpaaDoorRows.lean that lists a variable, with what it lists TIED to the program's text (the seventh form; the later family's looks); each row that meets fmt, with fmt's text TOLD by the authors' own Lean function (tested against real Go, not proved from fmt's source: count such statements apart). THE CARD IS WHAT COUNTS. Prove the row's statement (the work); the ties are given (YthnjnhdalpcfpaaDoorTie.lean); close each card by the builder's one call (the guide's Derived/Test/ToyasCard.lean, 'card_holds'). Laid BY PROGRAM, IN A SANDBOX (cutbox-door.mjs). By AI agents, Wed Nov 11 2026. No macro, syntax, notation, axiom, sorry.
-/
import Derived.Test.YthnjnhdalpcfpaaDoorRows
import GoSem.ClaimSeven
namespace Go.Proofs.YthnjnhdalpcfpaaDoor
namespace Rows

/-- THE TIED CARD OF 'laws.FnExactRenumberGraph'. -/
def fnExactRenumberGraphCard : Claim7 := { stood := { row := fnExactRenumberGraphRow, standIns := [], harness := (true, "ddbf6a36b3aa6e7813caa6cc00fb03066b9ee7d81abfbfe242702ceb1cff36a5"), looks := false }, kinds := [], alts := [], laidByText := true, laidKinds := [.data], laidTests := true, laidLooks := .later }
def FnExactRenumberGraphCardSaid : Prop := Claim7.holds Tryd.pinned (.plain (OpenSpec.ofChange fnExactRenumberGraphSpec)) fnExactRenumberGraphCard

/-- THE TIED CARD OF 'laws.FnExactEdgesOf'. -/
def fnExactEdgesOfCard : Claim7 := { stood := { row := fnExactEdgesOfRow, standIns := [], harness := (true, "ddbf6a36b3aa6e7813caa6cc00fb03066b9ee7d81abfbfe242702ceb1cff36a5"), looks := false }, kinds := [], alts := [], laidByText := true, laidKinds := [.data], laidTests := true, laidLooks := .later }
def FnExactEdgesOfCardSaid : Prop := Claim7.holds Tryd.pinned (.plain (OpenSpec.ofChange fnExactEdgesOfSpec)) fnExactEdgesOfCard

/-- THE TIED CARD OF 'laws.FnExactPartsOf'. -/
def fnExactPartsOfCard : Claim7 := { stood := { row := fnExactPartsOfRow, standIns := [], harness := (true, "ddbf6a36b3aa6e7813caa6cc00fb03066b9ee7d81abfbfe242702ceb1cff36a5"), looks := false }, kinds := [], alts := [], laidByText := true, laidKinds := [.data], laidTests := true, laidLooks := .later }
def FnExactPartsOfCardSaid : Prop := Claim7.holds Tryd.pinned (.plain (OpenSpec.ofChange fnExactPartsOfSpec)) fnExactPartsOfCard

/-- THE TIED CARD OF 'laws.FnExactOddGraph'. -/
def fnExactOddGraphCard : Claim7 := { stood := { row := fnExactOddGraphRow, standIns := [], harness := (true, "ddbf6a36b3aa6e7813caa6cc00fb03066b9ee7d81abfbfe242702ceb1cff36a5"), looks := false }, kinds := [], alts := [], laidByText := true, laidKinds := [.data], laidTests := true, laidLooks := .later }
def FnExactOddGraphCardSaid : Prop := Claim7.holds Tryd.pinned (.plain (OpenSpec.ofChange fnExactOddGraphSpec)) fnExactOddGraphCard

/-- THE SECOND FORM's CARD OF 'laws.FnExactRenumberGraph'. -/
def fnExactRenumberGraphUptoCard : Claim7 := { stood := { row := fnExactRenumberGraphUptoRow, standIns := [], harness := (true, "ddbf6a36b3aa6e7813caa6cc00fb03066b9ee7d81abfbfe242702ceb1cff36a5"), looks := false }, kinds := [], alts := [], laidByText := true, laidKinds := [.data], laidTests := true, laidLooks := .later }
def FnExactRenumberGraphUptoCardSaid : Prop := Claim7.holds Tryd.pinned (.plain (OpenSpec.upto fnExactRenumberGraphSpec)) fnExactRenumberGraphUptoCard

/-- THE SECOND FORM's CARD OF 'laws.FnExactEdgesOf'. -/
def fnExactEdgesOfUptoCard : Claim7 := { stood := { row := fnExactEdgesOfUptoRow, standIns := [], harness := (true, "ddbf6a36b3aa6e7813caa6cc00fb03066b9ee7d81abfbfe242702ceb1cff36a5"), looks := false }, kinds := [], alts := [], laidByText := true, laidKinds := [.data], laidTests := true, laidLooks := .later }
def FnExactEdgesOfUptoCardSaid : Prop := Claim7.holds Tryd.pinned (.plain (OpenSpec.upto fnExactEdgesOfSpec)) fnExactEdgesOfUptoCard

/-- THE SECOND FORM's CARD OF 'laws.FnExactPartsOf'. -/
def fnExactPartsOfUptoCard : Claim7 := { stood := { row := fnExactPartsOfUptoRow, standIns := [], harness := (true, "ddbf6a36b3aa6e7813caa6cc00fb03066b9ee7d81abfbfe242702ceb1cff36a5"), looks := false }, kinds := [], alts := [], laidByText := true, laidKinds := [.data], laidTests := true, laidLooks := .later }
def FnExactPartsOfUptoCardSaid : Prop := Claim7.holds Tryd.pinned (.plain (OpenSpec.upto fnExactPartsOfSpec)) fnExactPartsOfUptoCard

/-- THE SECOND FORM's CARD OF 'laws.FnExactOddGraph'. -/
def fnExactOddGraphUptoCard : Claim7 := { stood := { row := fnExactOddGraphUptoRow, standIns := [], harness := (true, "ddbf6a36b3aa6e7813caa6cc00fb03066b9ee7d81abfbfe242702ceb1cff36a5"), looks := false }, kinds := [], alts := [], laidByText := true, laidKinds := [.data], laidTests := true, laidLooks := .later }
def FnExactOddGraphUptoCardSaid : Prop := Claim7.holds Tryd.pinned (.plain (OpenSpec.upto fnExactOddGraphSpec)) fnExactOddGraphUptoCard
end Rows
end Go.Proofs.YthnjnhdalpcfpaaDoor
