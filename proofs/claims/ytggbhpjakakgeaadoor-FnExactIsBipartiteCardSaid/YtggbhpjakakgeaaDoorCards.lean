/-
  DERIVED. GIVEN WITH THE SEED: THE CARDS: each row of YtggbhpjakakgeaaDoorRows.lean that lists a variable, with what it lists TIED to the program's text (the seventh form; the later family's looks); each row that meets fmt, with fmt's text TOLD by the authors' own Lean function (tested against real Go, not proved from fmt's source: count such statements apart). THE CARD IS WHAT COUNTS. Prove the row's statement (the work); the ties are given (YtggbhpjakakgeaaDoorTie.lean); close each card by the builder's one call (the guide's Derived/Test/ToyasCard.lean, 'card_holds'). Laid BY PROGRAM, IN A SANDBOX (cutbox-door.mjs). By AI agents, Wed Nov 11 2026. No macro, syntax, notation, axiom, sorry.
-/
import Derived.Test.YtggbhpjakakgeaaDoorRows
import GoSem.ClaimSeven
namespace Go.Proofs.YtggbhpjakakgeaaDoor
namespace Rows

/-- THE TIED CARD OF 'laws.FnDistances'. -/
def fnDistancesCard : Claim7 := { stood := { row := fnDistancesRow, standIns := [], harness := (true, "705296df0ad89ad1306772fa04edaf76fc819213d369173f7c35224216894e74"), looks := false }, kinds := [], alts := [], laidByText := true, laidKinds := [.data], laidTests := true, laidLooks := .later }
def FnDistancesCardSaid : Prop := Claim7.holds Tryd.pinned (.plain (OpenSpec.ofChange fnDistancesSpec)) fnDistancesCard

/-- THE TIED CARD OF 'laws.FnExactDistanceOf'. -/
def fnExactDistanceOfCard : Claim7 := { stood := { row := fnExactDistanceOfRow, standIns := [], harness := (true, "705296df0ad89ad1306772fa04edaf76fc819213d369173f7c35224216894e74"), looks := false }, kinds := [], alts := [], laidByText := true, laidKinds := [.data], laidTests := true, laidLooks := .later }
def FnExactDistanceOfCardSaid : Prop := Claim7.holds Tryd.pinned (.plain (OpenSpec.ofChange fnExactDistanceOfSpec)) fnExactDistanceOfCard

/-- THE TIED CARD OF 'laws.FnExactDistancesFrom'. -/
def fnExactDistancesFromCard : Claim7 := { stood := { row := fnExactDistancesFromRow, standIns := [], harness := (true, "705296df0ad89ad1306772fa04edaf76fc819213d369173f7c35224216894e74"), looks := false }, kinds := [], alts := [], laidByText := true, laidKinds := [.data], laidTests := true, laidLooks := .later }
def FnExactDistancesFromCardSaid : Prop := Claim7.holds Tryd.pinned (.plain (OpenSpec.ofChange fnExactDistancesFromSpec)) fnExactDistancesFromCard

/-- THE TIED CARD OF 'laws.FnExactReachesOf'. -/
def fnExactReachesOfCard : Claim7 := { stood := { row := fnExactReachesOfRow, standIns := [], harness := (true, "705296df0ad89ad1306772fa04edaf76fc819213d369173f7c35224216894e74"), looks := false }, kinds := [], alts := [], laidByText := true, laidKinds := [.data], laidTests := true, laidLooks := .later }
def FnExactReachesOfCardSaid : Prop := Claim7.holds Tryd.pinned (.plain (OpenSpec.ofChange fnExactReachesOfSpec)) fnExactReachesOfCard

/-- THE TIED CARD OF 'laws.FnExactLevelsFrom'. -/
def fnExactLevelsFromCard : Claim7 := { stood := { row := fnExactLevelsFromRow, standIns := [], harness := (true, "705296df0ad89ad1306772fa04edaf76fc819213d369173f7c35224216894e74"), looks := false }, kinds := [], alts := [], laidByText := true, laidKinds := [.data], laidTests := true, laidLooks := .later }
def FnExactLevelsFromCardSaid : Prop := Claim7.holds Tryd.pinned (.plain (OpenSpec.ofChange fnExactLevelsFromSpec)) fnExactLevelsFromCard

/-- THE TIED CARD OF 'laws.FnExactGirthOf'. -/
def fnExactGirthOfCard : Claim7 := { stood := { row := fnExactGirthOfRow, standIns := [], harness := (true, "705296df0ad89ad1306772fa04edaf76fc819213d369173f7c35224216894e74"), looks := false }, kinds := [], alts := [], laidByText := true, laidKinds := [.data], laidTests := true, laidLooks := .later }
def FnExactGirthOfCardSaid : Prop := Claim7.holds Tryd.pinned (.plain (OpenSpec.ofChange fnExactGirthOfSpec)) fnExactGirthOfCard

/-- THE TIED CARD OF 'laws.FnExactIsBipartite'. -/
def fnExactIsBipartiteCard : Claim7 := { stood := { row := fnExactIsBipartiteRow, standIns := [], harness := (true, "705296df0ad89ad1306772fa04edaf76fc819213d369173f7c35224216894e74"), looks := false }, kinds := [], alts := [], laidByText := true, laidKinds := [.data], laidTests := true, laidLooks := .later }
def FnExactIsBipartiteCardSaid : Prop := Claim7.holds Tryd.pinned (.plain (OpenSpec.ofChange fnExactIsBipartiteSpec)) fnExactIsBipartiteCard

/-- THE TIED CARD OF 'laws.FnExactDiameterOf'. -/
def fnExactDiameterOfCard : Claim7 := { stood := { row := fnExactDiameterOfRow, standIns := [], harness := (true, "705296df0ad89ad1306772fa04edaf76fc819213d369173f7c35224216894e74"), looks := false }, kinds := [], alts := [], laidByText := true, laidKinds := [.data], laidTests := true, laidLooks := .later }
def FnExactDiameterOfCardSaid : Prop := Claim7.holds Tryd.pinned (.plain (OpenSpec.ofChange fnExactDiameterOfSpec)) fnExactDiameterOfCard

/-- THE TIED CARD OF 'laws.FnExactGirthAt'. -/
def fnExactGirthAtCard : Claim7 := { stood := { row := fnExactGirthAtRow, standIns := [], harness := (true, "705296df0ad89ad1306772fa04edaf76fc819213d369173f7c35224216894e74"), looks := false }, kinds := [], alts := [], laidByText := true, laidKinds := [.data], laidTests := true, laidLooks := .later }
def FnExactGirthAtCardSaid : Prop := Claim7.holds Tryd.pinned (.plain (OpenSpec.ofChange fnExactGirthAtSpec)) fnExactGirthAtCard

/-- THE TIED CARD OF 'laws.FnExactCountShortest'. -/
def fnExactCountShortestCard : Claim7 := { stood := { row := fnExactCountShortestRow, standIns := [], harness := (true, "705296df0ad89ad1306772fa04edaf76fc819213d369173f7c35224216894e74"), looks := false }, kinds := [], alts := [], laidByText := true, laidKinds := [.data], laidTests := true, laidLooks := .later }
def FnExactCountShortestCardSaid : Prop := Claim7.holds Tryd.pinned (.plain (OpenSpec.ofChange fnExactCountShortestSpec)) fnExactCountShortestCard

/-- THE SECOND FORM's CARD OF 'laws.FnDistances'. -/
def fnDistancesUptoCard : Claim7 := { stood := { row := fnDistancesUptoRow, standIns := [], harness := (true, "705296df0ad89ad1306772fa04edaf76fc819213d369173f7c35224216894e74"), looks := false }, kinds := [], alts := [], laidByText := true, laidKinds := [.data], laidTests := true, laidLooks := .later }
def FnDistancesUptoCardSaid : Prop := Claim7.holds Tryd.pinned (.plain (OpenSpec.upto fnDistancesSpec)) fnDistancesUptoCard

/-- THE SECOND FORM's CARD OF 'laws.FnExactDistanceOf'. -/
def fnExactDistanceOfUptoCard : Claim7 := { stood := { row := fnExactDistanceOfUptoRow, standIns := [], harness := (true, "705296df0ad89ad1306772fa04edaf76fc819213d369173f7c35224216894e74"), looks := false }, kinds := [], alts := [], laidByText := true, laidKinds := [.data], laidTests := true, laidLooks := .later }
def FnExactDistanceOfUptoCardSaid : Prop := Claim7.holds Tryd.pinned (.plain (OpenSpec.upto fnExactDistanceOfSpec)) fnExactDistanceOfUptoCard

/-- THE SECOND FORM's CARD OF 'laws.FnExactDistancesFrom'. -/
def fnExactDistancesFromUptoCard : Claim7 := { stood := { row := fnExactDistancesFromUptoRow, standIns := [], harness := (true, "705296df0ad89ad1306772fa04edaf76fc819213d369173f7c35224216894e74"), looks := false }, kinds := [], alts := [], laidByText := true, laidKinds := [.data], laidTests := true, laidLooks := .later }
def FnExactDistancesFromUptoCardSaid : Prop := Claim7.holds Tryd.pinned (.plain (OpenSpec.upto fnExactDistancesFromSpec)) fnExactDistancesFromUptoCard

/-- THE SECOND FORM's CARD OF 'laws.FnExactReachesOf'. -/
def fnExactReachesOfUptoCard : Claim7 := { stood := { row := fnExactReachesOfUptoRow, standIns := [], harness := (true, "705296df0ad89ad1306772fa04edaf76fc819213d369173f7c35224216894e74"), looks := false }, kinds := [], alts := [], laidByText := true, laidKinds := [.data], laidTests := true, laidLooks := .later }
def FnExactReachesOfUptoCardSaid : Prop := Claim7.holds Tryd.pinned (.plain (OpenSpec.upto fnExactReachesOfSpec)) fnExactReachesOfUptoCard

/-- THE SECOND FORM's CARD OF 'laws.FnExactLevelsFrom'. -/
def fnExactLevelsFromUptoCard : Claim7 := { stood := { row := fnExactLevelsFromUptoRow, standIns := [], harness := (true, "705296df0ad89ad1306772fa04edaf76fc819213d369173f7c35224216894e74"), looks := false }, kinds := [], alts := [], laidByText := true, laidKinds := [.data], laidTests := true, laidLooks := .later }
def FnExactLevelsFromUptoCardSaid : Prop := Claim7.holds Tryd.pinned (.plain (OpenSpec.upto fnExactLevelsFromSpec)) fnExactLevelsFromUptoCard

/-- THE SECOND FORM's CARD OF 'laws.FnExactGirthOf'. -/
def fnExactGirthOfUptoCard : Claim7 := { stood := { row := fnExactGirthOfUptoRow, standIns := [], harness := (true, "705296df0ad89ad1306772fa04edaf76fc819213d369173f7c35224216894e74"), looks := false }, kinds := [], alts := [], laidByText := true, laidKinds := [.data], laidTests := true, laidLooks := .later }
def FnExactGirthOfUptoCardSaid : Prop := Claim7.holds Tryd.pinned (.plain (OpenSpec.upto fnExactGirthOfSpec)) fnExactGirthOfUptoCard

/-- THE SECOND FORM's CARD OF 'laws.FnExactIsBipartite'. -/
def fnExactIsBipartiteUptoCard : Claim7 := { stood := { row := fnExactIsBipartiteUptoRow, standIns := [], harness := (true, "705296df0ad89ad1306772fa04edaf76fc819213d369173f7c35224216894e74"), looks := false }, kinds := [], alts := [], laidByText := true, laidKinds := [.data], laidTests := true, laidLooks := .later }
def FnExactIsBipartiteUptoCardSaid : Prop := Claim7.holds Tryd.pinned (.plain (OpenSpec.upto fnExactIsBipartiteSpec)) fnExactIsBipartiteUptoCard

/-- THE SECOND FORM's CARD OF 'laws.FnExactDiameterOf'. -/
def fnExactDiameterOfUptoCard : Claim7 := { stood := { row := fnExactDiameterOfUptoRow, standIns := [], harness := (true, "705296df0ad89ad1306772fa04edaf76fc819213d369173f7c35224216894e74"), looks := false }, kinds := [], alts := [], laidByText := true, laidKinds := [.data], laidTests := true, laidLooks := .later }
def FnExactDiameterOfUptoCardSaid : Prop := Claim7.holds Tryd.pinned (.plain (OpenSpec.upto fnExactDiameterOfSpec)) fnExactDiameterOfUptoCard

/-- THE SECOND FORM's CARD OF 'laws.FnExactGirthAt'. -/
def fnExactGirthAtUptoCard : Claim7 := { stood := { row := fnExactGirthAtUptoRow, standIns := [], harness := (true, "705296df0ad89ad1306772fa04edaf76fc819213d369173f7c35224216894e74"), looks := false }, kinds := [], alts := [], laidByText := true, laidKinds := [.data], laidTests := true, laidLooks := .later }
def FnExactGirthAtUptoCardSaid : Prop := Claim7.holds Tryd.pinned (.plain (OpenSpec.upto fnExactGirthAtSpec)) fnExactGirthAtUptoCard

/-- THE SECOND FORM's CARD OF 'laws.FnExactCountShortest'. -/
def fnExactCountShortestUptoCard : Claim7 := { stood := { row := fnExactCountShortestUptoRow, standIns := [], harness := (true, "705296df0ad89ad1306772fa04edaf76fc819213d369173f7c35224216894e74"), looks := false }, kinds := [], alts := [], laidByText := true, laidKinds := [.data], laidTests := true, laidLooks := .later }
def FnExactCountShortestUptoCardSaid : Prop := Claim7.holds Tryd.pinned (.plain (OpenSpec.upto fnExactCountShortestSpec)) fnExactCountShortestUptoCard
end Rows
end Go.Proofs.YtggbhpjakakgeaaDoor
