/-
  No cell of these rows narrows 'for every input' (looked for: loops, veiled, ifaces, maps, wideKeys, modest, calm, conditions, laid).
  DERIVED. THE GIVEN ROWS OF THIS SEAT. 12 by the template 'for every input the law returns true; each argument reads behind the call as it read before'; 0 by the template 'total and deterministic' (their statements: YtpnofgcgdebncaaTotals.lean).
  GIVEN WITH THE SEED: the statements are not yours to turn. If you find one false, say at which input.
  Laid BY PROGRAM, IN A SANDBOX (cutbox-rows.mjs): the forced cells as the released guide's own fill.sh prints them over the translation 2d1a19263a5bc184… (all of the seat's roots in one cut). By AI agents, Wed Nov 11 2026. No macro, syntax, notation, axiom, sorry.
-/
import Derived.Test.YtpnofgcgdebncaaChecked
import GoSem.Claim
import GoSem.ClaimJoined
import GoSem.ClaimMapViews
import Derived.JoinedTies
import Derived.KernelRfl
namespace Go.Proofs.Ytpnofgcgdebncaa
/- THE CELL 'sum', in the pinned program and in every row, IS THE sha256 OF THE DUMP (.gsa) THAT YtpnofgcgdebncaaProg.lean LOADS. Nothing in Lean hashes anything: it is a label: what it is worth is what the hold of that sum in a sandbox is worth. -/
noncomputable def Try.pinned : Pinned := { name := "ytpnofgcgdebncaa", sum := "2d1a19263a5bc184397dc9c81242cc2825a513d2e38ff670deb8e0725318257b", checked := Try.checked }
namespace Rows
def none {H : Type} : Left H := { results := [], args := [] }

/-- 'laws.FnExactConstants': WHATEVER THE INPUT: true; the input reads as it did. -/
def fnExactConstantsSpec : ChangeSpec := { name := "fnExactConstants", fn := fun _ => fun
  | [] => { results := [.lit (.bool true)], args := [] }
  | _ => none }
def fnExactConstantsRow : OpenClaim := { program := "ytpnofgcgdebncaa", sum := "2d1a19263a5bc184397dc9c81242cc2825a513d2e38ff670deb8e0725318257b", func := "loop.example/g01331/laws.FnExactConstants", spec := "fnExactConstants", apart := false }
def FnExactConstantsSaid : Prop := fnExactConstantsRow.holds Try.pinned (OpenSpec.ofChange fnExactConstantsSpec)

/-- ITS FALSE NEIGHBOUR: 'it returns false'. Refute it at one input. -/
def fnExactConstantsWrong : ChangeSpec := { name := "fnExactConstants", fn := fun _ => fun
  | [] => { results := [.lit (.bool false)], args := [] }
  | _ => none }
def FnExactConstantsWrongFalsely : Prop := fnExactConstantsRow.holds Try.pinned (OpenSpec.ofChange fnExactConstantsWrong)

/-- 'laws.FnExactIsGroup': WHATEVER THE INPUT: true; the input reads as it did. -/
def fnExactIsGroupSpec : ChangeSpec := { name := "fnExactIsGroup", fn := fun _ => fun
  | [d] => { results := [.lit (.bool true)], args := [d] }
  | _ => none }
def fnExactIsGroupRow : OpenClaim := { program := "ytpnofgcgdebncaa", sum := "2d1a19263a5bc184397dc9c81242cc2825a513d2e38ff670deb8e0725318257b", func := "loop.example/g01331/laws.FnExactIsGroup", spec := "fnExactIsGroup", apart := false }
def FnExactIsGroupSaid : Prop := fnExactIsGroupRow.holds Try.pinned (OpenSpec.ofChange fnExactIsGroupSpec)

/-- ITS FALSE NEIGHBOUR: 'it returns false'. Refute it at one input. -/
def fnExactIsGroupWrong : ChangeSpec := { name := "fnExactIsGroup", fn := fun _ => fun
  | [d] => { results := [.lit (.bool false)], args := [d] }
  | _ => none }
def FnExactIsGroupWrongFalsely : Prop := fnExactIsGroupRow.holds Try.pinned (OpenSpec.ofChange fnExactIsGroupWrong)

/-- 'laws.FnExactDiameterBound': WHATEVER THE INPUT: true; the input reads as it did. -/
def fnExactDiameterBoundSpec : ChangeSpec := { name := "fnExactDiameterBound", fn := fun _ => fun
  | [d1, d2] => { results := [.lit (.bool true)], args := [d1, d2] }
  | _ => none }
def fnExactDiameterBoundRow : OpenClaim := { program := "ytpnofgcgdebncaa", sum := "2d1a19263a5bc184397dc9c81242cc2825a513d2e38ff670deb8e0725318257b", func := "loop.example/g01331/laws.FnExactDiameterBound", spec := "fnExactDiameterBound", apart := false }
def FnExactDiameterBoundSaid : Prop := fnExactDiameterBoundRow.holds Try.pinned (OpenSpec.ofChange fnExactDiameterBoundSpec)

/-- ITS FALSE NEIGHBOUR: 'it returns false'. Refute it at one input. -/
def fnExactDiameterBoundWrong : ChangeSpec := { name := "fnExactDiameterBound", fn := fun _ => fun
  | [d1, d2] => { results := [.lit (.bool false)], args := [d1, d2] }
  | _ => none }
def FnExactDiameterBoundWrongFalsely : Prop := fnExactDiameterBoundRow.holds Try.pinned (OpenSpec.ofChange fnExactDiameterBoundWrong)

/-- 'laws.FnExactGirthBound': WHATEVER THE INPUT: true; the input reads as it did. -/
def fnExactGirthBoundSpec : ChangeSpec := { name := "fnExactGirthBound", fn := fun _ => fun
  | [d1, d2] => { results := [.lit (.bool true)], args := [d1, d2] }
  | _ => none }
def fnExactGirthBoundRow : OpenClaim := { program := "ytpnofgcgdebncaa", sum := "2d1a19263a5bc184397dc9c81242cc2825a513d2e38ff670deb8e0725318257b", func := "loop.example/g01331/laws.FnExactGirthBound", spec := "fnExactGirthBound", apart := false }
def FnExactGirthBoundSaid : Prop := fnExactGirthBoundRow.holds Try.pinned (OpenSpec.ofChange fnExactGirthBoundSpec)

/-- ITS FALSE NEIGHBOUR: 'it returns false'. Refute it at one input. -/
def fnExactGirthBoundWrong : ChangeSpec := { name := "fnExactGirthBound", fn := fun _ => fun
  | [d1, d2] => { results := [.lit (.bool false)], args := [d1, d2] }
  | _ => none }
def FnExactGirthBoundWrongFalsely : Prop := fnExactGirthBoundRow.holds Try.pinned (OpenSpec.ofChange fnExactGirthBoundWrong)

/-- 'laws.FnExactOrderOfGroup': WHATEVER THE INPUT: true; the input reads as it did. -/
def fnExactOrderOfGroupSpec : ChangeSpec := { name := "fnExactOrderOfGroup", fn := fun _ => fun
  | [d] => { results := [.lit (.bool true)], args := [d] }
  | _ => none }
def fnExactOrderOfGroupRow : OpenClaim := { program := "ytpnofgcgdebncaa", sum := "2d1a19263a5bc184397dc9c81242cc2825a513d2e38ff670deb8e0725318257b", func := "loop.example/g01331/laws.FnExactOrderOfGroup", spec := "fnExactOrderOfGroup", apart := false }
def FnExactOrderOfGroupSaid : Prop := fnExactOrderOfGroupRow.holds Try.pinned (OpenSpec.ofChange fnExactOrderOfGroupSpec)

/-- ITS FALSE NEIGHBOUR: 'it returns false'. Refute it at one input. -/
def fnExactOrderOfGroupWrong : ChangeSpec := { name := "fnExactOrderOfGroup", fn := fun _ => fun
  | [d] => { results := [.lit (.bool false)], args := [d] }
  | _ => none }
def FnExactOrderOfGroupWrongFalsely : Prop := fnExactOrderOfGroupRow.holds Try.pinned (OpenSpec.ofChange fnExactOrderOfGroupWrong)

/-- 'laws.FnExactIsGraph': WHATEVER THE INPUT: true; the input reads as it did. -/
def fnExactIsGraphSpec : ChangeSpec := { name := "fnExactIsGraph", fn := fun _ => fun
  | [d] => { results := [.lit (.bool true)], args := [d] }
  | _ => none }
def fnExactIsGraphRow : OpenClaim := { program := "ytpnofgcgdebncaa", sum := "2d1a19263a5bc184397dc9c81242cc2825a513d2e38ff670deb8e0725318257b", func := "loop.example/g01331/laws.FnExactIsGraph", spec := "fnExactIsGraph", apart := false }
def FnExactIsGraphSaid : Prop := fnExactIsGraphRow.holds Try.pinned (OpenSpec.ofChange fnExactIsGraphSpec)

/-- ITS FALSE NEIGHBOUR: 'it returns false'. Refute it at one input. -/
def fnExactIsGraphWrong : ChangeSpec := { name := "fnExactIsGraph", fn := fun _ => fun
  | [d] => { results := [.lit (.bool false)], args := [d] }
  | _ => none }
def FnExactIsGraphWrongFalsely : Prop := fnExactIsGraphRow.holds Try.pinned (OpenSpec.ofChange fnExactIsGraphWrong)

/-- 'laws.FnExactRingGraph': WHATEVER THE INPUT: true; the input reads as it did. -/
def fnExactRingGraphSpec : ChangeSpec := { name := "fnExactRingGraph", fn := fun _ => fun
  | [d1, d2] => { results := [.lit (.bool true)], args := [d1, d2] }
  | _ => none }
def fnExactRingGraphRow : OpenClaim := { program := "ytpnofgcgdebncaa", sum := "2d1a19263a5bc184397dc9c81242cc2825a513d2e38ff670deb8e0725318257b", func := "loop.example/g01331/laws.FnExactRingGraph", spec := "fnExactRingGraph", apart := false }
def FnExactRingGraphSaid : Prop := fnExactRingGraphRow.holds Try.pinned (OpenSpec.ofChange fnExactRingGraphSpec)

/-- ITS FALSE NEIGHBOUR: 'it returns false'. Refute it at one input. -/
def fnExactRingGraphWrong : ChangeSpec := { name := "fnExactRingGraph", fn := fun _ => fun
  | [d1, d2] => { results := [.lit (.bool false)], args := [d1, d2] }
  | _ => none }
def FnExactRingGraphWrongFalsely : Prop := fnExactRingGraphRow.holds Try.pinned (OpenSpec.ofChange fnExactRingGraphWrong)

/-- 'laws.FnExactNumbersAt': WHATEVER THE INPUT: true; the input reads as it did. -/
def fnExactNumbersAtSpec : ChangeSpec := { name := "fnExactNumbersAt", fn := fun _ => fun
  | [d1, d2] => { results := [.lit (.bool true)], args := [d1, d2] }
  | _ => none }
def fnExactNumbersAtRow : OpenClaim := { program := "ytpnofgcgdebncaa", sum := "2d1a19263a5bc184397dc9c81242cc2825a513d2e38ff670deb8e0725318257b", func := "loop.example/g01331/laws.FnExactNumbersAt", spec := "fnExactNumbersAt", apart := false }
def FnExactNumbersAtSaid : Prop := fnExactNumbersAtRow.holds Try.pinned (OpenSpec.ofChange fnExactNumbersAtSpec)

/-- ITS FALSE NEIGHBOUR: 'it returns false'. Refute it at one input. -/
def fnExactNumbersAtWrong : ChangeSpec := { name := "fnExactNumbersAt", fn := fun _ => fun
  | [d1, d2] => { results := [.lit (.bool false)], args := [d1, d2] }
  | _ => none }
def FnExactNumbersAtWrongFalsely : Prop := fnExactNumbersAtRow.holds Try.pinned (OpenSpec.ofChange fnExactNumbersAtWrong)

/-- 'laws.FnExactCirculantGraph': WHATEVER THE INPUT: true; the input reads as it did. -/
def fnExactCirculantGraphSpec : ChangeSpec := { name := "fnExactCirculantGraph", fn := fun _ => fun
  | [d1, d2] => { results := [.lit (.bool true)], args := [d1, d2] }
  | _ => none }
def fnExactCirculantGraphRow : OpenClaim := { program := "ytpnofgcgdebncaa", sum := "2d1a19263a5bc184397dc9c81242cc2825a513d2e38ff670deb8e0725318257b", func := "loop.example/g01331/laws.FnExactCirculantGraph", spec := "fnExactCirculantGraph", apart := false }
def FnExactCirculantGraphSaid : Prop := fnExactCirculantGraphRow.holds Try.pinned (OpenSpec.ofChange fnExactCirculantGraphSpec)

/-- ITS FALSE NEIGHBOUR: 'it returns false'. Refute it at one input. -/
def fnExactCirculantGraphWrong : ChangeSpec := { name := "fnExactCirculantGraph", fn := fun _ => fun
  | [d1, d2] => { results := [.lit (.bool false)], args := [d1, d2] }
  | _ => none }
def FnExactCirculantGraphWrongFalsely : Prop := fnExactCirculantGraphRow.holds Try.pinned (OpenSpec.ofChange fnExactCirculantGraphWrong)

/-- 'laws.FnExactJumpGraph': WHATEVER THE INPUT: true; the input reads as it did. -/
def fnExactJumpGraphSpec : ChangeSpec := { name := "fnExactJumpGraph", fn := fun _ => fun
  | [d1, d2] => { results := [.lit (.bool true)], args := [d1, d2] }
  | _ => none }
def fnExactJumpGraphRow : OpenClaim := { program := "ytpnofgcgdebncaa", sum := "2d1a19263a5bc184397dc9c81242cc2825a513d2e38ff670deb8e0725318257b", func := "loop.example/g01331/laws.FnExactJumpGraph", spec := "fnExactJumpGraph", apart := false }
def FnExactJumpGraphSaid : Prop := fnExactJumpGraphRow.holds Try.pinned (OpenSpec.ofChange fnExactJumpGraphSpec)

/-- ITS FALSE NEIGHBOUR: 'it returns false'. Refute it at one input. -/
def fnExactJumpGraphWrong : ChangeSpec := { name := "fnExactJumpGraph", fn := fun _ => fun
  | [d1, d2] => { results := [.lit (.bool false)], args := [d1, d2] }
  | _ => none }
def FnExactJumpGraphWrongFalsely : Prop := fnExactJumpGraphRow.holds Try.pinned (OpenSpec.ofChange fnExactJumpGraphWrong)

/-- 'laws.FnExactAreFeasible': WHATEVER THE INPUT: true; the input reads as it did. -/
def fnExactAreFeasibleSpec : ChangeSpec := { name := "fnExactAreFeasible", fn := fun _ => fun
  | [d1, d2] => { results := [.lit (.bool true)], args := [d1, d2] }
  | _ => none }
def fnExactAreFeasibleRow : OpenClaim := { program := "ytpnofgcgdebncaa", sum := "2d1a19263a5bc184397dc9c81242cc2825a513d2e38ff670deb8e0725318257b", func := "loop.example/g01331/laws.FnExactAreFeasible", spec := "fnExactAreFeasible", apart := false }
def FnExactAreFeasibleSaid : Prop := fnExactAreFeasibleRow.holds Try.pinned (OpenSpec.ofChange fnExactAreFeasibleSpec)

/-- ITS FALSE NEIGHBOUR: 'it returns false'. Refute it at one input. -/
def fnExactAreFeasibleWrong : ChangeSpec := { name := "fnExactAreFeasible", fn := fun _ => fun
  | [d1, d2] => { results := [.lit (.bool false)], args := [d1, d2] }
  | _ => none }
def FnExactAreFeasibleWrongFalsely : Prop := fnExactAreFeasibleRow.holds Try.pinned (OpenSpec.ofChange fnExactAreFeasibleWrong)

/-- 'laws.FnExactComplementOf': WHATEVER THE INPUT: true; the input reads as it did. -/
def fnExactComplementOfSpec : ChangeSpec := { name := "fnExactComplementOf", fn := fun _ => fun
  | [d] => { results := [.lit (.bool true)], args := [d] }
  | _ => none }
def fnExactComplementOfRow : OpenClaim := { program := "ytpnofgcgdebncaa", sum := "2d1a19263a5bc184397dc9c81242cc2825a513d2e38ff670deb8e0725318257b", func := "loop.example/g01331/laws.FnExactComplementOf", spec := "fnExactComplementOf", apart := false }
def FnExactComplementOfSaid : Prop := fnExactComplementOfRow.holds Try.pinned (OpenSpec.ofChange fnExactComplementOfSpec)

/-- ITS FALSE NEIGHBOUR: 'it returns false'. Refute it at one input. -/
def fnExactComplementOfWrong : ChangeSpec := { name := "fnExactComplementOf", fn := fun _ => fun
  | [d] => { results := [.lit (.bool false)], args := [d] }
  | _ => none }
def FnExactComplementOfWrongFalsely : Prop := fnExactComplementOfRow.holds Try.pinned (OpenSpec.ofChange fnExactComplementOfWrong)

/- THE SECOND FORM. 'bulk': how many values and letters a reading holds, each counted each time it is reached (what is shared counts as often as it is met; a slice's spare places count too). A statement '..UptoSaid' is the law's where the arguments, and the package variables that the reading takes, are together of bulk at most 1048576: NARROWER than '..Said'. Prove '..Said' where nothing that the law and all that it calls make is longer than what came in: it says more and counts as full. Else prove '..UptoSaid'. A law counts once. -/
mutual
def uptoBulk {H : Type} : DataW H → Nat
  | .lit (.string bytes) => bytes.length + 1
  | .lit _ => 1
  | .nil => 1
  | .ptr d => uptoBulk d + 1
  | .slice elems spare => uptoBulkAll elems + uptoBulkAll spare + 1
  | .agg parts => uptoBulkAll parts + 1
  | .iface _ d => uptoBulk d + 1
  | .map entries => uptoBulkEntries entries + 1
  | .held _ => 1
def uptoBulkAll {H : Type} : List (DataW H) → Nat
  | [] => 0
  | d :: r => uptoBulk d + uptoBulkAll r
def uptoBulkEntries {H : Type} : List (Lit × DataW H) → Nat
  | [] => 0
  | x :: r => uptoBulkEntry x + uptoBulkEntries r
def uptoBulkEntry {H : Type} : Lit × DataW H → Nat
  | (.string bytes, d) => bytes.length + uptoBulk d + 1
  | (_, d) => uptoBulk d + 1
 end
def uptoSmall : (H : Type) → List (DataW H) → Bool := fun _ ds => decide (uptoBulkAll ds ≤ 1048576)
def OpenSpec.upto (s : _root_.Go.ChangeSpec) : _root_.Go.OpenSpec := { _root_.Go.OpenSpec.ofChange s with cond := some uptoSmall }

/-- 'laws.FnExactConstants', WHERE WHAT IT READS IS OF BULK AT MOST 1048576: true; the input reads as it did. -/
def fnExactConstantsUptoRow : OpenClaim := { program := "ytpnofgcgdebncaa", sum := "2d1a19263a5bc184397dc9c81242cc2825a513d2e38ff670deb8e0725318257b", func := "loop.example/g01331/laws.FnExactConstants", spec := "fnExactConstants", apart := false, narrowed := true }
def FnExactConstantsUptoSaid : Prop := fnExactConstantsUptoRow.holds Try.pinned (OpenSpec.upto fnExactConstantsSpec)

/-- 'laws.FnExactIsGroup', WHERE WHAT IT READS IS OF BULK AT MOST 1048576: true; the input reads as it did. -/
def fnExactIsGroupUptoRow : OpenClaim := { program := "ytpnofgcgdebncaa", sum := "2d1a19263a5bc184397dc9c81242cc2825a513d2e38ff670deb8e0725318257b", func := "loop.example/g01331/laws.FnExactIsGroup", spec := "fnExactIsGroup", apart := false, narrowed := true }
def FnExactIsGroupUptoSaid : Prop := fnExactIsGroupUptoRow.holds Try.pinned (OpenSpec.upto fnExactIsGroupSpec)

/-- 'laws.FnExactDiameterBound', WHERE WHAT IT READS IS OF BULK AT MOST 1048576: true; the input reads as it did. -/
def fnExactDiameterBoundUptoRow : OpenClaim := { program := "ytpnofgcgdebncaa", sum := "2d1a19263a5bc184397dc9c81242cc2825a513d2e38ff670deb8e0725318257b", func := "loop.example/g01331/laws.FnExactDiameterBound", spec := "fnExactDiameterBound", apart := false, narrowed := true }
def FnExactDiameterBoundUptoSaid : Prop := fnExactDiameterBoundUptoRow.holds Try.pinned (OpenSpec.upto fnExactDiameterBoundSpec)

/-- 'laws.FnExactGirthBound', WHERE WHAT IT READS IS OF BULK AT MOST 1048576: true; the input reads as it did. -/
def fnExactGirthBoundUptoRow : OpenClaim := { program := "ytpnofgcgdebncaa", sum := "2d1a19263a5bc184397dc9c81242cc2825a513d2e38ff670deb8e0725318257b", func := "loop.example/g01331/laws.FnExactGirthBound", spec := "fnExactGirthBound", apart := false, narrowed := true }
def FnExactGirthBoundUptoSaid : Prop := fnExactGirthBoundUptoRow.holds Try.pinned (OpenSpec.upto fnExactGirthBoundSpec)

/-- 'laws.FnExactOrderOfGroup', WHERE WHAT IT READS IS OF BULK AT MOST 1048576: true; the input reads as it did. -/
def fnExactOrderOfGroupUptoRow : OpenClaim := { program := "ytpnofgcgdebncaa", sum := "2d1a19263a5bc184397dc9c81242cc2825a513d2e38ff670deb8e0725318257b", func := "loop.example/g01331/laws.FnExactOrderOfGroup", spec := "fnExactOrderOfGroup", apart := false, narrowed := true }
def FnExactOrderOfGroupUptoSaid : Prop := fnExactOrderOfGroupUptoRow.holds Try.pinned (OpenSpec.upto fnExactOrderOfGroupSpec)

/-- 'laws.FnExactIsGraph', WHERE WHAT IT READS IS OF BULK AT MOST 1048576: true; the input reads as it did. -/
def fnExactIsGraphUptoRow : OpenClaim := { program := "ytpnofgcgdebncaa", sum := "2d1a19263a5bc184397dc9c81242cc2825a513d2e38ff670deb8e0725318257b", func := "loop.example/g01331/laws.FnExactIsGraph", spec := "fnExactIsGraph", apart := false, narrowed := true }
def FnExactIsGraphUptoSaid : Prop := fnExactIsGraphUptoRow.holds Try.pinned (OpenSpec.upto fnExactIsGraphSpec)

/-- 'laws.FnExactRingGraph', WHERE WHAT IT READS IS OF BULK AT MOST 1048576: true; the input reads as it did. -/
def fnExactRingGraphUptoRow : OpenClaim := { program := "ytpnofgcgdebncaa", sum := "2d1a19263a5bc184397dc9c81242cc2825a513d2e38ff670deb8e0725318257b", func := "loop.example/g01331/laws.FnExactRingGraph", spec := "fnExactRingGraph", apart := false, narrowed := true }
def FnExactRingGraphUptoSaid : Prop := fnExactRingGraphUptoRow.holds Try.pinned (OpenSpec.upto fnExactRingGraphSpec)

/-- 'laws.FnExactNumbersAt', WHERE WHAT IT READS IS OF BULK AT MOST 1048576: true; the input reads as it did. -/
def fnExactNumbersAtUptoRow : OpenClaim := { program := "ytpnofgcgdebncaa", sum := "2d1a19263a5bc184397dc9c81242cc2825a513d2e38ff670deb8e0725318257b", func := "loop.example/g01331/laws.FnExactNumbersAt", spec := "fnExactNumbersAt", apart := false, narrowed := true }
def FnExactNumbersAtUptoSaid : Prop := fnExactNumbersAtUptoRow.holds Try.pinned (OpenSpec.upto fnExactNumbersAtSpec)

/-- 'laws.FnExactCirculantGraph', WHERE WHAT IT READS IS OF BULK AT MOST 1048576: true; the input reads as it did. -/
def fnExactCirculantGraphUptoRow : OpenClaim := { program := "ytpnofgcgdebncaa", sum := "2d1a19263a5bc184397dc9c81242cc2825a513d2e38ff670deb8e0725318257b", func := "loop.example/g01331/laws.FnExactCirculantGraph", spec := "fnExactCirculantGraph", apart := false, narrowed := true }
def FnExactCirculantGraphUptoSaid : Prop := fnExactCirculantGraphUptoRow.holds Try.pinned (OpenSpec.upto fnExactCirculantGraphSpec)

/-- 'laws.FnExactJumpGraph', WHERE WHAT IT READS IS OF BULK AT MOST 1048576: true; the input reads as it did. -/
def fnExactJumpGraphUptoRow : OpenClaim := { program := "ytpnofgcgdebncaa", sum := "2d1a19263a5bc184397dc9c81242cc2825a513d2e38ff670deb8e0725318257b", func := "loop.example/g01331/laws.FnExactJumpGraph", spec := "fnExactJumpGraph", apart := false, narrowed := true }
def FnExactJumpGraphUptoSaid : Prop := fnExactJumpGraphUptoRow.holds Try.pinned (OpenSpec.upto fnExactJumpGraphSpec)

/-- 'laws.FnExactAreFeasible', WHERE WHAT IT READS IS OF BULK AT MOST 1048576: true; the input reads as it did. -/
def fnExactAreFeasibleUptoRow : OpenClaim := { program := "ytpnofgcgdebncaa", sum := "2d1a19263a5bc184397dc9c81242cc2825a513d2e38ff670deb8e0725318257b", func := "loop.example/g01331/laws.FnExactAreFeasible", spec := "fnExactAreFeasible", apart := false, narrowed := true }
def FnExactAreFeasibleUptoSaid : Prop := fnExactAreFeasibleUptoRow.holds Try.pinned (OpenSpec.upto fnExactAreFeasibleSpec)

/-- 'laws.FnExactComplementOf', WHERE WHAT IT READS IS OF BULK AT MOST 1048576: true; the input reads as it did. -/
def fnExactComplementOfUptoRow : OpenClaim := { program := "ytpnofgcgdebncaa", sum := "2d1a19263a5bc184397dc9c81242cc2825a513d2e38ff670deb8e0725318257b", func := "loop.example/g01331/laws.FnExactComplementOf", spec := "fnExactComplementOf", apart := false, narrowed := true }
def FnExactComplementOfUptoSaid : Prop := fnExactComplementOfUptoRow.holds Try.pinned (OpenSpec.upto fnExactComplementOfSpec)

end Rows
end Go.Proofs.Ytpnofgcgdebncaa
