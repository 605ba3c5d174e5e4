/-
  DERIVED. GIVEN WITH THE SEED: THE CARDS: each row of YtjaibklcnjpohaaDoorRows.lean that lists a variable, with what it lists TIED to the program's text (the seventh form; the later family's looks); each row that meets fmt, with fmt's text TOLD by the authors' own Lean function (tested against real Go, not proved from fmt's source: count such statements apart). THE CARD IS WHAT COUNTS. Prove the row's statement (the work); the ties are given (YtjaibklcnjpohaaDoorTie.lean); close each card by the builder's one call (the guide's Derived/Test/ToyasCard.lean, 'card_holds'). Laid BY PROGRAM, IN A SANDBOX (cutbox-door.mjs). By AI agents, Wed Nov 11 2026. No macro, syntax, notation, axiom, sorry.
-/
import Derived.Test.YtjaibklcnjpohaaDoorRows
import GoSem.ClaimSeven
namespace Go.Proofs.YtjaibklcnjpohaaDoor
namespace Rows

/-- THE TIED CARD OF 'laws.FnExactNeighboursOf'. -/
def fnExactNeighboursOfCard : Claim7 := { stood := { row := fnExactNeighboursOfRow, standIns := [], harness := (true, "1b7c3cc32182d2b8d28bdca19991c9f710d192703ce266ff7136f8c2e635d35f"), looks := false }, kinds := [], alts := [], laidByText := true, laidKinds := [.data], laidTests := true, laidLooks := .later }
def FnExactNeighboursOfCardSaid : Prop := Claim7.holds Tryd.pinned (.plain (OpenSpec.ofChange fnExactNeighboursOfSpec)) fnExactNeighboursOfCard

/-- THE TIED CARD OF 'laws.FnExactEdgesOf'. -/
def fnExactEdgesOfCard : Claim7 := { stood := { row := fnExactEdgesOfRow, standIns := [], harness := (true, "1b7c3cc32182d2b8d28bdca19991c9f710d192703ce266ff7136f8c2e635d35f"), looks := false }, kinds := [], alts := [], laidByText := true, laidKinds := [.data], laidTests := true, laidLooks := .later }
def FnExactEdgesOfCardSaid : Prop := Claim7.holds Tryd.pinned (.plain (OpenSpec.ofChange fnExactEdgesOfSpec)) fnExactEdgesOfCard

/-- THE TIED CARD OF 'laws.FnExactIsConnected'. -/
def fnExactIsConnectedCard : Claim7 := { stood := { row := fnExactIsConnectedRow, standIns := [], harness := (true, "1b7c3cc32182d2b8d28bdca19991c9f710d192703ce266ff7136f8c2e635d35f"), looks := false }, kinds := [], alts := [], laidByText := true, laidKinds := [.data], laidTests := true, laidLooks := .later }
def FnExactIsConnectedCardSaid : Prop := Claim7.holds Tryd.pinned (.plain (OpenSpec.ofChange fnExactIsConnectedSpec)) fnExactIsConnectedCard

/-- THE TIED CARD OF 'laws.FnExactPartsOf'. -/
def fnExactPartsOfCard : Claim7 := { stood := { row := fnExactPartsOfRow, standIns := [], harness := (true, "1b7c3cc32182d2b8d28bdca19991c9f710d192703ce266ff7136f8c2e635d35f"), looks := false }, kinds := [], alts := [], laidByText := true, laidKinds := [.data], laidTests := true, laidLooks := .later }
def FnExactPartsOfCardSaid : Prop := Claim7.holds Tryd.pinned (.plain (OpenSpec.ofChange fnExactPartsOfSpec)) fnExactPartsOfCard

/-- THE TIED CARD OF 'laws.FnExactRenumberGraph'. -/
def fnExactRenumberGraphCard : Claim7 := { stood := { row := fnExactRenumberGraphRow, standIns := [], harness := (true, "1b7c3cc32182d2b8d28bdca19991c9f710d192703ce266ff7136f8c2e635d35f"), looks := false }, kinds := [], alts := [], laidByText := true, laidKinds := [.data], laidTests := true, laidLooks := .later }
def FnExactRenumberGraphCardSaid : Prop := Claim7.holds Tryd.pinned (.plain (OpenSpec.ofChange fnExactRenumberGraphSpec)) fnExactRenumberGraphCard

/-- THE TIED CARD OF 'laws.FnExactGraphText'. -/
def fnExactGraphTextCard : Claim7 := { stood := { row := fnExactGraphTextRow, standIns := [], harness := (true, "1b7c3cc32182d2b8d28bdca19991c9f710d192703ce266ff7136f8c2e635d35f"), looks := false }, kinds := [], alts := [], laidByText := true, laidKinds := [.data, .data, .data], laidTests := true, laidLooks := .later }
def FnExactGraphTextCardSaid : Prop := Claim7.holds Tryd.pinned (.plain (OpenSpec.ofChange fnExactGraphTextSpec)) fnExactGraphTextCard

/-- THE TIED CARD OF 'laws.FnExactParseGraph'. -/
def fnExactParseGraphCard : Claim7 := { stood := { row := fnExactParseGraphRow, standIns := [], harness := (true, "1b7c3cc32182d2b8d28bdca19991c9f710d192703ce266ff7136f8c2e635d35f"), looks := false }, kinds := [], alts := [], laidByText := true, laidKinds := [.data, .data, .data, .data, .pinned], laidTests := true, laidLooks := .later }
def FnExactParseGraphCardSaid : Prop := Claim7.holds Tryd.pinned (.plain (OpenSpec.ofChange fnExactParseGraphSpec)) fnExactParseGraphCard

/-- THE SECOND FORM's CARD OF 'laws.FnExactNeighboursOf'. -/
def fnExactNeighboursOfUptoCard : Claim7 := { stood := { row := fnExactNeighboursOfUptoRow, standIns := [], harness := (true, "1b7c3cc32182d2b8d28bdca19991c9f710d192703ce266ff7136f8c2e635d35f"), looks := false }, kinds := [], alts := [], laidByText := true, laidKinds := [.data], laidTests := true, laidLooks := .later }
def FnExactNeighboursOfUptoCardSaid : Prop := Claim7.holds Tryd.pinned (.plain (OpenSpec.upto fnExactNeighboursOfSpec)) fnExactNeighboursOfUptoCard

/-- THE SECOND FORM's CARD OF 'laws.FnExactEdgesOf'. -/
def fnExactEdgesOfUptoCard : Claim7 := { stood := { row := fnExactEdgesOfUptoRow, standIns := [], harness := (true, "1b7c3cc32182d2b8d28bdca19991c9f710d192703ce266ff7136f8c2e635d35f"), looks := false }, kinds := [], alts := [], laidByText := true, laidKinds := [.data], laidTests := true, laidLooks := .later }
def FnExactEdgesOfUptoCardSaid : Prop := Claim7.holds Tryd.pinned (.plain (OpenSpec.upto fnExactEdgesOfSpec)) fnExactEdgesOfUptoCard

/-- THE SECOND FORM's CARD OF 'laws.FnExactIsConnected'. -/
def fnExactIsConnectedUptoCard : Claim7 := { stood := { row := fnExactIsConnectedUptoRow, standIns := [], harness := (true, "1b7c3cc32182d2b8d28bdca19991c9f710d192703ce266ff7136f8c2e635d35f"), looks := false }, kinds := [], alts := [], laidByText := true, laidKinds := [.data], laidTests := true, laidLooks := .later }
def FnExactIsConnectedUptoCardSaid : Prop := Claim7.holds Tryd.pinned (.plain (OpenSpec.upto fnExactIsConnectedSpec)) fnExactIsConnectedUptoCard

/-- THE SECOND FORM's CARD OF 'laws.FnExactPartsOf'. -/
def fnExactPartsOfUptoCard : Claim7 := { stood := { row := fnExactPartsOfUptoRow, standIns := [], harness := (true, "1b7c3cc32182d2b8d28bdca19991c9f710d192703ce266ff7136f8c2e635d35f"), looks := false }, kinds := [], alts := [], laidByText := true, laidKinds := [.data], laidTests := true, laidLooks := .later }
def FnExactPartsOfUptoCardSaid : Prop := Claim7.holds Tryd.pinned (.plain (OpenSpec.upto fnExactPartsOfSpec)) fnExactPartsOfUptoCard

/-- THE SECOND FORM's CARD OF 'laws.FnExactRenumberGraph'. -/
def fnExactRenumberGraphUptoCard : Claim7 := { stood := { row := fnExactRenumberGraphUptoRow, standIns := [], harness := (true, "1b7c3cc32182d2b8d28bdca19991c9f710d192703ce266ff7136f8c2e635d35f"), looks := false }, kinds := [], alts := [], laidByText := true, laidKinds := [.data], laidTests := true, laidLooks := .later }
def FnExactRenumberGraphUptoCardSaid : Prop := Claim7.holds Tryd.pinned (.plain (OpenSpec.upto fnExactRenumberGraphSpec)) fnExactRenumberGraphUptoCard

/-- THE SECOND FORM's CARD OF 'laws.FnExactGraphText'. -/
def fnExactGraphTextUptoCard : Claim7 := { stood := { row := fnExactGraphTextUptoRow, standIns := [], harness := (true, "1b7c3cc32182d2b8d28bdca19991c9f710d192703ce266ff7136f8c2e635d35f"), looks := false }, kinds := [], alts := [], laidByText := true, laidKinds := [.data, .data, .data], laidTests := true, laidLooks := .later }
def FnExactGraphTextUptoCardSaid : Prop := Claim7.holds Tryd.pinned (.plain (OpenSpec.upto fnExactGraphTextSpec)) fnExactGraphTextUptoCard

/-- THE SECOND FORM's CARD OF 'laws.FnExactParseGraph'. -/
def fnExactParseGraphUptoCard : Claim7 := { stood := { row := fnExactParseGraphUptoRow, standIns := [], harness := (true, "1b7c3cc32182d2b8d28bdca19991c9f710d192703ce266ff7136f8c2e635d35f"), looks := false }, kinds := [], alts := [], laidByText := true, laidKinds := [.data, .data, .data, .data, .pinned], laidTests := true, laidLooks := .later }
def FnExactParseGraphUptoCardSaid : Prop := Claim7.holds Tryd.pinned (.plain (OpenSpec.upto fnExactParseGraphSpec)) fnExactParseGraphUptoCard
end Rows
end Go.Proofs.YtjaibklcnjpohaaDoor
