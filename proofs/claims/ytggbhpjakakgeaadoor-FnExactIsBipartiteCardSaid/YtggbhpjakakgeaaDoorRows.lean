/-
  NARROWER THAN 'FOR EVERY INPUT', by the rows' own cells (each row's printed sentence says how): FnDistances: laid · FnExactDistanceOf: laid · FnExactDistancesFrom: laid · FnExactReachesOf: laid · FnExactLevelsFrom: laid · FnExactGirthOf: laid · FnExactIsBipartite: laid · FnExactDiameterOf: laid · FnExactGirthAt: laid · FnExactCountShortest: laid.
  DERIVED. THE GIVEN ROWS OF THIS SEAT. 10 by the template 'for every input the law returns true; each argument reads behind the call as it read before'; 0 by the template 'total and deterministic' (their statements: YtggbhpjakakgeaaDoorTotals.lean).
  GIVEN WITH THE SEED: the statements are not yours to turn. If you find one false, say at which input.
  Laid BY PROGRAM, IN A SANDBOX (cutbox-rows.mjs): the forced cells as the released guide's own fill.sh prints them over the translation 6b30f360dd6c019e… (all of the seat's roots in one cut). By AI agents, Wed Nov 11 2026. No macro, syntax, notation, axiom, sorry.
-/
import Derived.Test.YtggbhpjakakgeaaDoorChecked
import GoSem.Claim
import GoSem.ClaimJoined
import GoSem.ClaimMapViews
import Derived.JoinedTies
import Derived.KernelRfl
namespace Go.Proofs.YtggbhpjakakgeaaDoor
/- THE CELL 'sum', in the pinned program and in every row, IS THE sha256 OF THE DUMP (.gsa) THAT YtggbhpjakakgeaaDoorProg.lean LOADS. Nothing in Lean hashes anything: it is a label: what it is worth is what the hold of that sum in a sandbox is worth. -/
noncomputable def Tryd.pinned : Pinned := { name := "ytggbhpjakakgeaadoor", sum := "6b30f360dd6c019e9fd1b08cba1c500a61e83f9bc3ed717d2b55785dbe2959b0", checked := Tryd.checked }
namespace Rows
def none {H : Type} : Left H := { results := [], args := [] }

/- WHAT THE LISTED PACKAGE-LEVEL VARIABLES READ AS WHEN THE CALL BEGINS. Each datum BY PROGRAM (the guide's laid-datum.mjs) off the statement by which the dump's own 'gosem.cut.vars' lays the variable. In a bare row this is a premise. The card (YtggbhpjakakgeaaDoorCards.lean) ties it to the program's text. -/
def laid_math_bits_deBruijn64tab {H : Type} : DataW H := .agg [.lit (.int .u8 0), .lit (.int .u8 1), .lit (.int .u8 56), .lit (.int .u8 2), .lit (.int .u8 57), .lit (.int .u8 49), .lit (.int .u8 28), .lit (.int .u8 3), .lit (.int .u8 61), .lit (.int .u8 58), .lit (.int .u8 42), .lit (.int .u8 50), .lit (.int .u8 38), .lit (.int .u8 29), .lit (.int .u8 17), .lit (.int .u8 4), .lit (.int .u8 62), .lit (.int .u8 47), .lit (.int .u8 59), .lit (.int .u8 36), .lit (.int .u8 45), .lit (.int .u8 43), .lit (.int .u8 51), .lit (.int .u8 22), .lit (.int .u8 53), .lit (.int .u8 39), .lit (.int .u8 33), .lit (.int .u8 30), .lit (.int .u8 24), .lit (.int .u8 18), .lit (.int .u8 12), .lit (.int .u8 5), .lit (.int .u8 63), .lit (.int .u8 55), .lit (.int .u8 48), .lit (.int .u8 27), .lit (.int .u8 60), .lit (.int .u8 41), .lit (.int .u8 37), .lit (.int .u8 16), .lit (.int .u8 46), .lit (.int .u8 35), .lit (.int .u8 44), .lit (.int .u8 21), .lit (.int .u8 52), .lit (.int .u8 32), .lit (.int .u8 23), .lit (.int .u8 11), .lit (.int .u8 54), .lit (.int .u8 26), .lit (.int .u8 40), .lit (.int .u8 15), .lit (.int .u8 34), .lit (.int .u8 20), .lit (.int .u8 31), .lit (.int .u8 10), .lit (.int .u8 25), .lit (.int .u8 14), .lit (.int .u8 19), .lit (.int .u8 9), .lit (.int .u8 13), .lit (.int .u8 8), .lit (.int .u8 7), .lit (.int .u8 6)]

/-- 'laws.FnDistances': WHATEVER THE INPUT: true; the input reads as it did. -/
def fnDistancesSpec : ChangeSpec := { name := "fnDistances", fn := fun _ => fun
  | [d] => { results := [.lit (.bool true)], args := [d] }
  | _ => none }
def fnDistancesRow : OpenClaim := { program := "ytggbhpjakakgeaadoor", sum := "6b30f360dd6c019e9fd1b08cba1c500a61e83f9bc3ed717d2b55785dbe2959b0", func := "loop.example/g01331/laws.FnDistances", spec := "fnDistances", named := ["math/bits.deBruijn64tab"], apart := false, laid := [("math/bits.deBruijn64tab", laid_math_bits_deBruijn64tab)] }
def FnDistancesSaid : Prop := fnDistancesRow.holds Tryd.pinned (OpenSpec.ofChange fnDistancesSpec)

/-- ITS FALSE NEIGHBOUR: 'it returns false'. Refute it at one input. -/
def fnDistancesWrong : ChangeSpec := { name := "fnDistances", fn := fun _ => fun
  | [d] => { results := [.lit (.bool false)], args := [d] }
  | _ => none }
def FnDistancesWrongFalsely : Prop := fnDistancesRow.holds Tryd.pinned (OpenSpec.ofChange fnDistancesWrong)

/-- 'laws.FnExactDistanceOf': WHATEVER THE INPUT: true; the input reads as it did. -/
def fnExactDistanceOfSpec : ChangeSpec := { name := "fnExactDistanceOf", fn := fun _ => fun
  | [d1, d2, d3] => { results := [.lit (.bool true)], args := [d1, d2, d3] }
  | _ => none }
def fnExactDistanceOfRow : OpenClaim := { program := "ytggbhpjakakgeaadoor", sum := "6b30f360dd6c019e9fd1b08cba1c500a61e83f9bc3ed717d2b55785dbe2959b0", func := "loop.example/g01331/laws.FnExactDistanceOf", spec := "fnExactDistanceOf", named := ["math/bits.deBruijn64tab"], apart := false, laid := [("math/bits.deBruijn64tab", laid_math_bits_deBruijn64tab)] }
def FnExactDistanceOfSaid : Prop := fnExactDistanceOfRow.holds Tryd.pinned (OpenSpec.ofChange fnExactDistanceOfSpec)

/-- ITS FALSE NEIGHBOUR: 'it returns false'. Refute it at one input. -/
def fnExactDistanceOfWrong : ChangeSpec := { name := "fnExactDistanceOf", fn := fun _ => fun
  | [d1, d2, d3] => { results := [.lit (.bool false)], args := [d1, d2, d3] }
  | _ => none }
def FnExactDistanceOfWrongFalsely : Prop := fnExactDistanceOfRow.holds Tryd.pinned (OpenSpec.ofChange fnExactDistanceOfWrong)

/-- 'laws.FnExactDistancesFrom': WHATEVER THE INPUT: true; the input reads as it did. -/
def fnExactDistancesFromSpec : ChangeSpec := { name := "fnExactDistancesFrom", fn := fun _ => fun
  | [d1, d2] => { results := [.lit (.bool true)], args := [d1, d2] }
  | _ => none }
def fnExactDistancesFromRow : OpenClaim := { program := "ytggbhpjakakgeaadoor", sum := "6b30f360dd6c019e9fd1b08cba1c500a61e83f9bc3ed717d2b55785dbe2959b0", func := "loop.example/g01331/laws.FnExactDistancesFrom", spec := "fnExactDistancesFrom", named := ["math/bits.deBruijn64tab"], apart := false, laid := [("math/bits.deBruijn64tab", laid_math_bits_deBruijn64tab)] }
def FnExactDistancesFromSaid : Prop := fnExactDistancesFromRow.holds Tryd.pinned (OpenSpec.ofChange fnExactDistancesFromSpec)

/-- ITS FALSE NEIGHBOUR: 'it returns false'. Refute it at one input. -/
def fnExactDistancesFromWrong : ChangeSpec := { name := "fnExactDistancesFrom", fn := fun _ => fun
  | [d1, d2] => { results := [.lit (.bool false)], args := [d1, d2] }
  | _ => none }
def FnExactDistancesFromWrongFalsely : Prop := fnExactDistancesFromRow.holds Tryd.pinned (OpenSpec.ofChange fnExactDistancesFromWrong)

/-- 'laws.FnExactReachesOf': WHATEVER THE INPUT: true; the input reads as it did. -/
def fnExactReachesOfSpec : ChangeSpec := { name := "fnExactReachesOf", fn := fun _ => fun
  | [d] => { results := [.lit (.bool true)], args := [d] }
  | _ => none }
def fnExactReachesOfRow : OpenClaim := { program := "ytggbhpjakakgeaadoor", sum := "6b30f360dd6c019e9fd1b08cba1c500a61e83f9bc3ed717d2b55785dbe2959b0", func := "loop.example/g01331/laws.FnExactReachesOf", spec := "fnExactReachesOf", named := ["math/bits.deBruijn64tab"], apart := false, laid := [("math/bits.deBruijn64tab", laid_math_bits_deBruijn64tab)] }
def FnExactReachesOfSaid : Prop := fnExactReachesOfRow.holds Tryd.pinned (OpenSpec.ofChange fnExactReachesOfSpec)

/-- ITS FALSE NEIGHBOUR: 'it returns false'. Refute it at one input. -/
def fnExactReachesOfWrong : ChangeSpec := { name := "fnExactReachesOf", fn := fun _ => fun
  | [d] => { results := [.lit (.bool false)], args := [d] }
  | _ => none }
def FnExactReachesOfWrongFalsely : Prop := fnExactReachesOfRow.holds Tryd.pinned (OpenSpec.ofChange fnExactReachesOfWrong)

/-- 'laws.FnExactLevelsFrom': WHATEVER THE INPUT: true; the input reads as it did. -/
def fnExactLevelsFromSpec : ChangeSpec := { name := "fnExactLevelsFrom", fn := fun _ => fun
  | [d1, d2] => { results := [.lit (.bool true)], args := [d1, d2] }
  | _ => none }
def fnExactLevelsFromRow : OpenClaim := { program := "ytggbhpjakakgeaadoor", sum := "6b30f360dd6c019e9fd1b08cba1c500a61e83f9bc3ed717d2b55785dbe2959b0", func := "loop.example/g01331/laws.FnExactLevelsFrom", spec := "fnExactLevelsFrom", named := ["math/bits.deBruijn64tab"], apart := false, laid := [("math/bits.deBruijn64tab", laid_math_bits_deBruijn64tab)] }
def FnExactLevelsFromSaid : Prop := fnExactLevelsFromRow.holds Tryd.pinned (OpenSpec.ofChange fnExactLevelsFromSpec)

/-- ITS FALSE NEIGHBOUR: 'it returns false'. Refute it at one input. -/
def fnExactLevelsFromWrong : ChangeSpec := { name := "fnExactLevelsFrom", fn := fun _ => fun
  | [d1, d2] => { results := [.lit (.bool false)], args := [d1, d2] }
  | _ => none }
def FnExactLevelsFromWrongFalsely : Prop := fnExactLevelsFromRow.holds Tryd.pinned (OpenSpec.ofChange fnExactLevelsFromWrong)

/-- 'laws.FnExactGirthOf': WHATEVER THE INPUT: true; the input reads as it did. -/
def fnExactGirthOfSpec : ChangeSpec := { name := "fnExactGirthOf", fn := fun _ => fun
  | [d] => { results := [.lit (.bool true)], args := [d] }
  | _ => none }
def fnExactGirthOfRow : OpenClaim := { program := "ytggbhpjakakgeaadoor", sum := "6b30f360dd6c019e9fd1b08cba1c500a61e83f9bc3ed717d2b55785dbe2959b0", func := "loop.example/g01331/laws.FnExactGirthOf", spec := "fnExactGirthOf", named := ["math/bits.deBruijn64tab"], apart := false, laid := [("math/bits.deBruijn64tab", laid_math_bits_deBruijn64tab)] }
def FnExactGirthOfSaid : Prop := fnExactGirthOfRow.holds Tryd.pinned (OpenSpec.ofChange fnExactGirthOfSpec)

/-- ITS FALSE NEIGHBOUR: 'it returns false'. Refute it at one input. -/
def fnExactGirthOfWrong : ChangeSpec := { name := "fnExactGirthOf", fn := fun _ => fun
  | [d] => { results := [.lit (.bool false)], args := [d] }
  | _ => none }
def FnExactGirthOfWrongFalsely : Prop := fnExactGirthOfRow.holds Tryd.pinned (OpenSpec.ofChange fnExactGirthOfWrong)

/-- 'laws.FnExactIsBipartite': WHATEVER THE INPUT: true; the input reads as it did. -/
def fnExactIsBipartiteSpec : ChangeSpec := { name := "fnExactIsBipartite", fn := fun _ => fun
  | [d] => { results := [.lit (.bool true)], args := [d] }
  | _ => none }
def fnExactIsBipartiteRow : OpenClaim := { program := "ytggbhpjakakgeaadoor", sum := "6b30f360dd6c019e9fd1b08cba1c500a61e83f9bc3ed717d2b55785dbe2959b0", func := "loop.example/g01331/laws.FnExactIsBipartite", spec := "fnExactIsBipartite", named := ["math/bits.deBruijn64tab"], apart := false, laid := [("math/bits.deBruijn64tab", laid_math_bits_deBruijn64tab)] }
def FnExactIsBipartiteSaid : Prop := fnExactIsBipartiteRow.holds Tryd.pinned (OpenSpec.ofChange fnExactIsBipartiteSpec)

/-- ITS FALSE NEIGHBOUR: 'it returns false'. Refute it at one input. -/
def fnExactIsBipartiteWrong : ChangeSpec := { name := "fnExactIsBipartite", fn := fun _ => fun
  | [d] => { results := [.lit (.bool false)], args := [d] }
  | _ => none }
def FnExactIsBipartiteWrongFalsely : Prop := fnExactIsBipartiteRow.holds Tryd.pinned (OpenSpec.ofChange fnExactIsBipartiteWrong)

/-- 'laws.FnExactDiameterOf': WHATEVER THE INPUT: true; the input reads as it did. -/
def fnExactDiameterOfSpec : ChangeSpec := { name := "fnExactDiameterOf", fn := fun _ => fun
  | [d] => { results := [.lit (.bool true)], args := [d] }
  | _ => none }
def fnExactDiameterOfRow : OpenClaim := { program := "ytggbhpjakakgeaadoor", sum := "6b30f360dd6c019e9fd1b08cba1c500a61e83f9bc3ed717d2b55785dbe2959b0", func := "loop.example/g01331/laws.FnExactDiameterOf", spec := "fnExactDiameterOf", named := ["math/bits.deBruijn64tab"], apart := false, laid := [("math/bits.deBruijn64tab", laid_math_bits_deBruijn64tab)] }
def FnExactDiameterOfSaid : Prop := fnExactDiameterOfRow.holds Tryd.pinned (OpenSpec.ofChange fnExactDiameterOfSpec)

/-- ITS FALSE NEIGHBOUR: 'it returns false'. Refute it at one input. -/
def fnExactDiameterOfWrong : ChangeSpec := { name := "fnExactDiameterOf", fn := fun _ => fun
  | [d] => { results := [.lit (.bool false)], args := [d] }
  | _ => none }
def FnExactDiameterOfWrongFalsely : Prop := fnExactDiameterOfRow.holds Tryd.pinned (OpenSpec.ofChange fnExactDiameterOfWrong)

/-- 'laws.FnExactGirthAt': WHATEVER THE INPUT: true; the input reads as it did. -/
def fnExactGirthAtSpec : ChangeSpec := { name := "fnExactGirthAt", fn := fun _ => fun
  | [d1, d2] => { results := [.lit (.bool true)], args := [d1, d2] }
  | _ => none }
def fnExactGirthAtRow : OpenClaim := { program := "ytggbhpjakakgeaadoor", sum := "6b30f360dd6c019e9fd1b08cba1c500a61e83f9bc3ed717d2b55785dbe2959b0", func := "loop.example/g01331/laws.FnExactGirthAt", spec := "fnExactGirthAt", named := ["math/bits.deBruijn64tab"], apart := false, laid := [("math/bits.deBruijn64tab", laid_math_bits_deBruijn64tab)] }
def FnExactGirthAtSaid : Prop := fnExactGirthAtRow.holds Tryd.pinned (OpenSpec.ofChange fnExactGirthAtSpec)

/-- ITS FALSE NEIGHBOUR: 'it returns false'. Refute it at one input. -/
def fnExactGirthAtWrong : ChangeSpec := { name := "fnExactGirthAt", fn := fun _ => fun
  | [d1, d2] => { results := [.lit (.bool false)], args := [d1, d2] }
  | _ => none }
def FnExactGirthAtWrongFalsely : Prop := fnExactGirthAtRow.holds Tryd.pinned (OpenSpec.ofChange fnExactGirthAtWrong)

/-- 'laws.FnExactCountShortest': WHATEVER THE INPUT: true; the input reads as it did. -/
def fnExactCountShortestSpec : ChangeSpec := { name := "fnExactCountShortest", fn := fun _ => fun
  | [d] => { results := [.lit (.bool true)], args := [d] }
  | _ => none }
def fnExactCountShortestRow : OpenClaim := { program := "ytggbhpjakakgeaadoor", sum := "6b30f360dd6c019e9fd1b08cba1c500a61e83f9bc3ed717d2b55785dbe2959b0", func := "loop.example/g01331/laws.FnExactCountShortest", spec := "fnExactCountShortest", named := ["math/bits.deBruijn64tab"], apart := false, laid := [("math/bits.deBruijn64tab", laid_math_bits_deBruijn64tab)] }
def FnExactCountShortestSaid : Prop := fnExactCountShortestRow.holds Tryd.pinned (OpenSpec.ofChange fnExactCountShortestSpec)

/-- ITS FALSE NEIGHBOUR: 'it returns false'. Refute it at one input. -/
def fnExactCountShortestWrong : ChangeSpec := { name := "fnExactCountShortest", fn := fun _ => fun
  | [d] => { results := [.lit (.bool false)], args := [d] }
  | _ => none }
def FnExactCountShortestWrongFalsely : Prop := fnExactCountShortestRow.holds Tryd.pinned (OpenSpec.ofChange fnExactCountShortestWrong)

/- THE SECOND FORM. 'bulk': how many values and letters a reading holds, each counted each time it is reached (what is shared counts as often as it is met; a slice's spare places count too). A statement '..UptoSaid' is the law's where the arguments, and the package variables that the reading takes, are together of bulk at most 1048576: NARROWER than '..Said'. Prove '..Said' where nothing that the law and all that it calls make is longer than what came in: it says more and counts as full. Else prove '..UptoSaid'. A law counts once. -/
mutual
def uptoBulk {H : Type} : DataW H → Nat
  | .lit (.string bytes) => bytes.length + 1
  | .lit _ => 1
  | .nil => 1
  | .ptr d => uptoBulk d + 1
  | .slice elems spare => uptoBulkAll elems + uptoBulkAll spare + 1
  | .agg parts => uptoBulkAll parts + 1
  | .iface _ d => uptoBulk d + 1
  | .map entries => uptoBulkEntries entries + 1
  | .held _ => 1
def uptoBulkAll {H : Type} : List (DataW H) → Nat
  | [] => 0
  | d :: r => uptoBulk d + uptoBulkAll r
def uptoBulkEntries {H : Type} : List (Lit × DataW H) → Nat
  | [] => 0
  | x :: r => uptoBulkEntry x + uptoBulkEntries r
def uptoBulkEntry {H : Type} : Lit × DataW H → Nat
  | (.string bytes, d) => bytes.length + uptoBulk d + 1
  | (_, d) => uptoBulk d + 1
 end
def uptoSmall : (H : Type) → List (DataW H) → Bool := fun _ ds => decide (uptoBulkAll ds ≤ 1048576)
def OpenSpec.upto (s : _root_.Go.ChangeSpec) : _root_.Go.OpenSpec := { _root_.Go.OpenSpec.ofChange s with cond := some uptoSmall }

/-- 'laws.FnDistances', WHERE WHAT IT READS IS OF BULK AT MOST 1048576: true; the input reads as it did. -/
def fnDistancesUptoRow : OpenClaim := { program := "ytggbhpjakakgeaadoor", sum := "6b30f360dd6c019e9fd1b08cba1c500a61e83f9bc3ed717d2b55785dbe2959b0", func := "loop.example/g01331/laws.FnDistances", spec := "fnDistances", named := ["math/bits.deBruijn64tab"], apart := false, laid := [("math/bits.deBruijn64tab", laid_math_bits_deBruijn64tab)], narrowed := true }
def FnDistancesUptoSaid : Prop := fnDistancesUptoRow.holds Tryd.pinned (OpenSpec.upto fnDistancesSpec)

/-- 'laws.FnExactDistanceOf', WHERE WHAT IT READS IS OF BULK AT MOST 1048576: true; the input reads as it did. -/
def fnExactDistanceOfUptoRow : OpenClaim := { program := "ytggbhpjakakgeaadoor", sum := "6b30f360dd6c019e9fd1b08cba1c500a61e83f9bc3ed717d2b55785dbe2959b0", func := "loop.example/g01331/laws.FnExactDistanceOf", spec := "fnExactDistanceOf", named := ["math/bits.deBruijn64tab"], apart := false, laid := [("math/bits.deBruijn64tab", laid_math_bits_deBruijn64tab)], narrowed := true }
def FnExactDistanceOfUptoSaid : Prop := fnExactDistanceOfUptoRow.holds Tryd.pinned (OpenSpec.upto fnExactDistanceOfSpec)

/-- 'laws.FnExactDistancesFrom', WHERE WHAT IT READS IS OF BULK AT MOST 1048576: true; the input reads as it did. -/
def fnExactDistancesFromUptoRow : OpenClaim := { program := "ytggbhpjakakgeaadoor", sum := "6b30f360dd6c019e9fd1b08cba1c500a61e83f9bc3ed717d2b55785dbe2959b0", func := "loop.example/g01331/laws.FnExactDistancesFrom", spec := "fnExactDistancesFrom", named := ["math/bits.deBruijn64tab"], apart := false, laid := [("math/bits.deBruijn64tab", laid_math_bits_deBruijn64tab)], narrowed := true }
def FnExactDistancesFromUptoSaid : Prop := fnExactDistancesFromUptoRow.holds Tryd.pinned (OpenSpec.upto fnExactDistancesFromSpec)

/-- 'laws.FnExactReachesOf', WHERE WHAT IT READS IS OF BULK AT MOST 1048576: true; the input reads as it did. -/
def fnExactReachesOfUptoRow : OpenClaim := { program := "ytggbhpjakakgeaadoor", sum := "6b30f360dd6c019e9fd1b08cba1c500a61e83f9bc3ed717d2b55785dbe2959b0", func := "loop.example/g01331/laws.FnExactReachesOf", spec := "fnExactReachesOf", named := ["math/bits.deBruijn64tab"], apart := false, laid := [("math/bits.deBruijn64tab", laid_math_bits_deBruijn64tab)], narrowed := true }
def FnExactReachesOfUptoSaid : Prop := fnExactReachesOfUptoRow.holds Tryd.pinned (OpenSpec.upto fnExactReachesOfSpec)

/-- 'laws.FnExactLevelsFrom', WHERE WHAT IT READS IS OF BULK AT MOST 1048576: true; the input reads as it did. -/
def fnExactLevelsFromUptoRow : OpenClaim := { program := "ytggbhpjakakgeaadoor", sum := "6b30f360dd6c019e9fd1b08cba1c500a61e83f9bc3ed717d2b55785dbe2959b0", func := "loop.example/g01331/laws.FnExactLevelsFrom", spec := "fnExactLevelsFrom", named := ["math/bits.deBruijn64tab"], apart := false, laid := [("math/bits.deBruijn64tab", laid_math_bits_deBruijn64tab)], narrowed := true }
def FnExactLevelsFromUptoSaid : Prop := fnExactLevelsFromUptoRow.holds Tryd.pinned (OpenSpec.upto fnExactLevelsFromSpec)

/-- 'laws.FnExactGirthOf', WHERE WHAT IT READS IS OF BULK AT MOST 1048576: true; the input reads as it did. -/
def fnExactGirthOfUptoRow : OpenClaim := { program := "ytggbhpjakakgeaadoor", sum := "6b30f360dd6c019e9fd1b08cba1c500a61e83f9bc3ed717d2b55785dbe2959b0", func := "loop.example/g01331/laws.FnExactGirthOf", spec := "fnExactGirthOf", named := ["math/bits.deBruijn64tab"], apart := false, laid := [("math/bits.deBruijn64tab", laid_math_bits_deBruijn64tab)], narrowed := true }
def FnExactGirthOfUptoSaid : Prop := fnExactGirthOfUptoRow.holds Tryd.pinned (OpenSpec.upto fnExactGirthOfSpec)

/-- 'laws.FnExactIsBipartite', WHERE WHAT IT READS IS OF BULK AT MOST 1048576: true; the input reads as it did. -/
def fnExactIsBipartiteUptoRow : OpenClaim := { program := "ytggbhpjakakgeaadoor", sum := "6b30f360dd6c019e9fd1b08cba1c500a61e83f9bc3ed717d2b55785dbe2959b0", func := "loop.example/g01331/laws.FnExactIsBipartite", spec := "fnExactIsBipartite", named := ["math/bits.deBruijn64tab"], apart := false, laid := [("math/bits.deBruijn64tab", laid_math_bits_deBruijn64tab)], narrowed := true }
def FnExactIsBipartiteUptoSaid : Prop := fnExactIsBipartiteUptoRow.holds Tryd.pinned (OpenSpec.upto fnExactIsBipartiteSpec)

/-- 'laws.FnExactDiameterOf', WHERE WHAT IT READS IS OF BULK AT MOST 1048576: true; the input reads as it did. -/
def fnExactDiameterOfUptoRow : OpenClaim := { program := "ytggbhpjakakgeaadoor", sum := "6b30f360dd6c019e9fd1b08cba1c500a61e83f9bc3ed717d2b55785dbe2959b0", func := "loop.example/g01331/laws.FnExactDiameterOf", spec := "fnExactDiameterOf", named := ["math/bits.deBruijn64tab"], apart := false, laid := [("math/bits.deBruijn64tab", laid_math_bits_deBruijn64tab)], narrowed := true }
def FnExactDiameterOfUptoSaid : Prop := fnExactDiameterOfUptoRow.holds Tryd.pinned (OpenSpec.upto fnExactDiameterOfSpec)

/-- 'laws.FnExactGirthAt', WHERE WHAT IT READS IS OF BULK AT MOST 1048576: true; the input reads as it did. -/
def fnExactGirthAtUptoRow : OpenClaim := { program := "ytggbhpjakakgeaadoor", sum := "6b30f360dd6c019e9fd1b08cba1c500a61e83f9bc3ed717d2b55785dbe2959b0", func := "loop.example/g01331/laws.FnExactGirthAt", spec := "fnExactGirthAt", named := ["math/bits.deBruijn64tab"], apart := false, laid := [("math/bits.deBruijn64tab", laid_math_bits_deBruijn64tab)], narrowed := true }
def FnExactGirthAtUptoSaid : Prop := fnExactGirthAtUptoRow.holds Tryd.pinned (OpenSpec.upto fnExactGirthAtSpec)

/-- 'laws.FnExactCountShortest', WHERE WHAT IT READS IS OF BULK AT MOST 1048576: true; the input reads as it did. -/
def fnExactCountShortestUptoRow : OpenClaim := { program := "ytggbhpjakakgeaadoor", sum := "6b30f360dd6c019e9fd1b08cba1c500a61e83f9bc3ed717d2b55785dbe2959b0", func := "loop.example/g01331/laws.FnExactCountShortest", spec := "fnExactCountShortest", named := ["math/bits.deBruijn64tab"], apart := false, laid := [("math/bits.deBruijn64tab", laid_math_bits_deBruijn64tab)], narrowed := true }
def FnExactCountShortestUptoSaid : Prop := fnExactCountShortestUptoRow.holds Tryd.pinned (OpenSpec.upto fnExactCountShortestSpec)

end Rows
end Go.Proofs.YtggbhpjakakgeaaDoor
