/-
  No cell of these rows narrows 'for every input' (looked for: loops, veiled, ifaces, maps, wideKeys, modest, calm, conditions, laid).
  DERIVED. THE GIVEN ROWS OF THIS SEAT. 8 by the template 'for every input the law returns true; each argument reads behind the call as it read before'; 0 by the template 'total and deterministic' (their statements: YtdieobmhmkdjmaaTotals.lean).
  GIVEN WITH THE SEED: the statements are not yours to turn. If you find one false, say at which input.
  Laid BY PROGRAM, IN A SANDBOX (cutbox-rows.mjs): the forced cells as the released guide's own fill.sh prints them over the translation aed235bcfada868a… (all of the seat's roots in one cut). By AI agents, Wed Nov 11 2026. No macro, syntax, notation, axiom, sorry.
-/
import Derived.Test.YtdieobmhmkdjmaaChecked
import GoSem.Claim
import GoSem.ClaimJoined
import GoSem.ClaimMapViews
import Derived.JoinedTies
import Derived.KernelRfl
namespace Go.Proofs.Ytdieobmhmkdjmaa
/- THE CELL 'sum', in the pinned program and in every row, IS THE sha256 OF THE DUMP (.gsa) THAT YtdieobmhmkdjmaaProg.lean LOADS. Nothing in Lean hashes anything: it is a label: what it is worth is what the hold of that sum in a sandbox is worth. -/
noncomputable def Try.pinned : Pinned := { name := "ytdieobmhmkdjmaa", sum := "aed235bcfada868af550765f107d0848cd8bbe72c4fddef2afdf445f711aad74", checked := Try.checked }
namespace Rows
def none {H : Type} : Left H := { results := [], args := [] }

/-- 'laws.FnExactIsBase': WHATEVER THE INPUT: true; the input reads as it did. -/
def fnExactIsBaseSpec : ChangeSpec := { name := "fnExactIsBase", fn := fun _ => fun
  | [d] => { results := [.lit (.bool true)], args := [d] }
  | _ => none }
def fnExactIsBaseRow : OpenClaim := { program := "ytdieobmhmkdjmaa", sum := "aed235bcfada868af550765f107d0848cd8bbe72c4fddef2afdf445f711aad74", func := "loop.example/g01331/laws.FnExactIsBase", spec := "fnExactIsBase", unfollowed := true, recurses := true, apart := false }
def FnExactIsBaseSaid : Prop := fnExactIsBaseRow.holds Try.pinned (OpenSpec.ofChange fnExactIsBaseSpec)

/-- ITS FALSE NEIGHBOUR: 'it returns false'. Refute it at one input. -/
def fnExactIsBaseWrong : ChangeSpec := { name := "fnExactIsBase", fn := fun _ => fun
  | [d] => { results := [.lit (.bool false)], args := [d] }
  | _ => none }
def FnExactIsBaseWrongFalsely : Prop := fnExactIsBaseRow.holds Try.pinned (OpenSpec.ofChange fnExactIsBaseWrong)

/-- 'laws.FnExactCoverOfLift': WHATEVER THE INPUT: true; the input reads as it did. -/
def fnExactCoverOfLiftSpec : ChangeSpec := { name := "fnExactCoverOfLift", fn := fun _ => fun
  | [d] => { results := [.lit (.bool true)], args := [d] }
  | _ => none }
def fnExactCoverOfLiftRow : OpenClaim := { program := "ytdieobmhmkdjmaa", sum := "aed235bcfada868af550765f107d0848cd8bbe72c4fddef2afdf445f711aad74", func := "loop.example/g01331/laws.FnExactCoverOfLift", spec := "fnExactCoverOfLift", unfollowed := true, recurses := true, apart := false }
def FnExactCoverOfLiftSaid : Prop := fnExactCoverOfLiftRow.holds Try.pinned (OpenSpec.ofChange fnExactCoverOfLiftSpec)

/-- ITS FALSE NEIGHBOUR: 'it returns false'. Refute it at one input. -/
def fnExactCoverOfLiftWrong : ChangeSpec := { name := "fnExactCoverOfLift", fn := fun _ => fun
  | [d] => { results := [.lit (.bool false)], args := [d] }
  | _ => none }
def FnExactCoverOfLiftWrongFalsely : Prop := fnExactCoverOfLiftRow.holds Try.pinned (OpenSpec.ofChange fnExactCoverOfLiftWrong)

/-- 'laws.FnExactCountVoltWalks': WHATEVER THE INPUT: true; the input reads as it did. -/
def fnExactCountVoltWalksSpec : ChangeSpec := { name := "fnExactCountVoltWalks", fn := fun _ => fun
  | [d1, d2, d3] => { results := [.lit (.bool true)], args := [d1, d2, d3] }
  | _ => none }
def fnExactCountVoltWalksRow : OpenClaim := { program := "ytdieobmhmkdjmaa", sum := "aed235bcfada868af550765f107d0848cd8bbe72c4fddef2afdf445f711aad74", func := "loop.example/g01331/laws.FnExactCountVoltWalks", spec := "fnExactCountVoltWalks", unfollowed := true, recurses := true, apart := false }
def FnExactCountVoltWalksSaid : Prop := fnExactCountVoltWalksRow.holds Try.pinned (OpenSpec.ofChange fnExactCountVoltWalksSpec)

/-- ITS FALSE NEIGHBOUR: 'it returns false'. Refute it at one input. -/
def fnExactCountVoltWalksWrong : ChangeSpec := { name := "fnExactCountVoltWalks", fn := fun _ => fun
  | [d1, d2, d3] => { results := [.lit (.bool false)], args := [d1, d2, d3] }
  | _ => none }
def FnExactCountVoltWalksWrongFalsely : Prop := fnExactCountVoltWalksRow.holds Try.pinned (OpenSpec.ofChange fnExactCountVoltWalksWrong)

/-- 'laws.FnExactLiftOf': WHATEVER THE INPUT: true; the input reads as it did. -/
def fnExactLiftOfSpec : ChangeSpec := { name := "fnExactLiftOf", fn := fun _ => fun
  | [d] => { results := [.lit (.bool true)], args := [d] }
  | _ => none }
def fnExactLiftOfRow : OpenClaim := { program := "ytdieobmhmkdjmaa", sum := "aed235bcfada868af550765f107d0848cd8bbe72c4fddef2afdf445f711aad74", func := "loop.example/g01331/laws.FnExactLiftOf", spec := "fnExactLiftOf", unfollowed := true, recurses := true, apart := false }
def FnExactLiftOfSaid : Prop := fnExactLiftOfRow.holds Try.pinned (OpenSpec.ofChange fnExactLiftOfSpec)

/-- ITS FALSE NEIGHBOUR: 'it returns false'. Refute it at one input. -/
def fnExactLiftOfWrong : ChangeSpec := { name := "fnExactLiftOf", fn := fun _ => fun
  | [d] => { results := [.lit (.bool false)], args := [d] }
  | _ => none }
def FnExactLiftOfWrongFalsely : Prop := fnExactLiftOfRow.holds Try.pinned (OpenSpec.ofChange fnExactLiftOfWrong)

/-- 'laws.FnExactWalkSum': WHATEVER THE INPUT: true; the input reads as it did. -/
def fnExactWalkSumSpec : ChangeSpec := { name := "fnExactWalkSum", fn := fun _ => fun
  | [d1, d2] => { results := [.lit (.bool true)], args := [d1, d2] }
  | _ => none }
def fnExactWalkSumRow : OpenClaim := { program := "ytdieobmhmkdjmaa", sum := "aed235bcfada868af550765f107d0848cd8bbe72c4fddef2afdf445f711aad74", func := "loop.example/g01331/laws.FnExactWalkSum", spec := "fnExactWalkSum", unfollowed := true, recurses := true, apart := false }
def FnExactWalkSumSaid : Prop := fnExactWalkSumRow.holds Try.pinned (OpenSpec.ofChange fnExactWalkSumSpec)

/-- ITS FALSE NEIGHBOUR: 'it returns false'. Refute it at one input. -/
def fnExactWalkSumWrong : ChangeSpec := { name := "fnExactWalkSum", fn := fun _ => fun
  | [d1, d2] => { results := [.lit (.bool false)], args := [d1, d2] }
  | _ => none }
def FnExactWalkSumWrongFalsely : Prop := fnExactWalkSumRow.holds Try.pinned (OpenSpec.ofChange fnExactWalkSumWrong)

/-- 'laws.FnExactWalkGirth': WHATEVER THE INPUT: true; the input reads as it did. -/
def fnExactWalkGirthSpec : ChangeSpec := { name := "fnExactWalkGirth", fn := fun _ => fun
  | [d] => { results := [.lit (.bool true)], args := [d] }
  | _ => none }
def fnExactWalkGirthRow : OpenClaim := { program := "ytdieobmhmkdjmaa", sum := "aed235bcfada868af550765f107d0848cd8bbe72c4fddef2afdf445f711aad74", func := "loop.example/g01331/laws.FnExactWalkGirth", spec := "fnExactWalkGirth", unfollowed := true, recurses := true, apart := false }
def FnExactWalkGirthSaid : Prop := fnExactWalkGirthRow.holds Try.pinned (OpenSpec.ofChange fnExactWalkGirthSpec)

/-- ITS FALSE NEIGHBOUR: 'it returns false'. Refute it at one input. -/
def fnExactWalkGirthWrong : ChangeSpec := { name := "fnExactWalkGirth", fn := fun _ => fun
  | [d] => { results := [.lit (.bool false)], args := [d] }
  | _ => none }
def FnExactWalkGirthWrongFalsely : Prop := fnExactWalkGirthRow.holds Try.pinned (OpenSpec.ofChange fnExactWalkGirthWrong)

/-- 'laws.FnExactIsReducedWalk': WHATEVER THE INPUT: true; the input reads as it did. -/
def fnExactIsReducedWalkSpec : ChangeSpec := { name := "fnExactIsReducedWalk", fn := fun _ => fun
  | [d1, d2] => { results := [.lit (.bool true)], args := [d1, d2] }
  | _ => none }
def fnExactIsReducedWalkRow : OpenClaim := { program := "ytdieobmhmkdjmaa", sum := "aed235bcfada868af550765f107d0848cd8bbe72c4fddef2afdf445f711aad74", func := "loop.example/g01331/laws.FnExactIsReducedWalk", spec := "fnExactIsReducedWalk", unfollowed := true, recurses := true, apart := false }
def FnExactIsReducedWalkSaid : Prop := fnExactIsReducedWalkRow.holds Try.pinned (OpenSpec.ofChange fnExactIsReducedWalkSpec)

/-- ITS FALSE NEIGHBOUR: 'it returns false'. Refute it at one input. -/
def fnExactIsReducedWalkWrong : ChangeSpec := { name := "fnExactIsReducedWalk", fn := fun _ => fun
  | [d1, d2] => { results := [.lit (.bool false)], args := [d1, d2] }
  | _ => none }
def FnExactIsReducedWalkWrongFalsely : Prop := fnExactIsReducedWalkRow.holds Try.pinned (OpenSpec.ofChange fnExactIsReducedWalkWrong)

/-- 'laws.FnExactLiftedWalk': WHATEVER THE INPUT: true; the input reads as it did. -/
def fnExactLiftedWalkSpec : ChangeSpec := { name := "fnExactLiftedWalk", fn := fun _ => fun
  | [d1, d2, d3] => { results := [.lit (.bool true)], args := [d1, d2, d3] }
  | _ => none }
def fnExactLiftedWalkRow : OpenClaim := { program := "ytdieobmhmkdjmaa", sum := "aed235bcfada868af550765f107d0848cd8bbe72c4fddef2afdf445f711aad74", func := "loop.example/g01331/laws.FnExactLiftedWalk", spec := "fnExactLiftedWalk", unfollowed := true, recurses := true, apart := false }
def FnExactLiftedWalkSaid : Prop := fnExactLiftedWalkRow.holds Try.pinned (OpenSpec.ofChange fnExactLiftedWalkSpec)

/-- ITS FALSE NEIGHBOUR: 'it returns false'. Refute it at one input. -/
def fnExactLiftedWalkWrong : ChangeSpec := { name := "fnExactLiftedWalk", fn := fun _ => fun
  | [d1, d2, d3] => { results := [.lit (.bool false)], args := [d1, d2, d3] }
  | _ => none }
def FnExactLiftedWalkWrongFalsely : Prop := fnExactLiftedWalkRow.holds Try.pinned (OpenSpec.ofChange fnExactLiftedWalkWrong)

/- THE SECOND FORM. 'bulk': how many values and letters a reading holds, each counted each time it is reached (what is shared counts as often as it is met; a slice's spare places count too). A statement '..UptoSaid' is the law's where the arguments, and the package variables that the reading takes, are together of bulk at most 1048576: NARROWER than '..Said'. Prove '..Said' where nothing that the law and all that it calls make is longer than what came in: it says more and counts as full. Else prove '..UptoSaid'. A law counts once. -/
mutual
def uptoBulk {H : Type} : DataW H → Nat
  | .lit (.string bytes) => bytes.length + 1
  | .lit _ => 1
  | .nil => 1
  | .ptr d => uptoBulk d + 1
  | .slice elems spare => uptoBulkAll elems + uptoBulkAll spare + 1
  | .agg parts => uptoBulkAll parts + 1
  | .iface _ d => uptoBulk d + 1
  | .map entries => uptoBulkEntries entries + 1
  | .held _ => 1
def uptoBulkAll {H : Type} : List (DataW H) → Nat
  | [] => 0
  | d :: r => uptoBulk d + uptoBulkAll r
def uptoBulkEntries {H : Type} : List (Lit × DataW H) → Nat
  | [] => 0
  | x :: r => uptoBulkEntry x + uptoBulkEntries r
def uptoBulkEntry {H : Type} : Lit × DataW H → Nat
  | (.string bytes, d) => bytes.length + uptoBulk d + 1
  | (_, d) => uptoBulk d + 1
 end
def uptoSmall : (H : Type) → List (DataW H) → Bool := fun _ ds => decide (uptoBulkAll ds ≤ 1048576)
def OpenSpec.upto (s : _root_.Go.ChangeSpec) : _root_.Go.OpenSpec := { _root_.Go.OpenSpec.ofChange s with cond := some uptoSmall }

/-- 'laws.FnExactIsBase', WHERE WHAT IT READS IS OF BULK AT MOST 1048576: true; the input reads as it did. -/
def fnExactIsBaseUptoRow : OpenClaim := { program := "ytdieobmhmkdjmaa", sum := "aed235bcfada868af550765f107d0848cd8bbe72c4fddef2afdf445f711aad74", func := "loop.example/g01331/laws.FnExactIsBase", spec := "fnExactIsBase", unfollowed := true, recurses := true, apart := false, narrowed := true }
def FnExactIsBaseUptoSaid : Prop := fnExactIsBaseUptoRow.holds Try.pinned (OpenSpec.upto fnExactIsBaseSpec)

/-- 'laws.FnExactCoverOfLift', WHERE WHAT IT READS IS OF BULK AT MOST 1048576: true; the input reads as it did. -/
def fnExactCoverOfLiftUptoRow : OpenClaim := { program := "ytdieobmhmkdjmaa", sum := "aed235bcfada868af550765f107d0848cd8bbe72c4fddef2afdf445f711aad74", func := "loop.example/g01331/laws.FnExactCoverOfLift", spec := "fnExactCoverOfLift", unfollowed := true, recurses := true, apart := false, narrowed := true }
def FnExactCoverOfLiftUptoSaid : Prop := fnExactCoverOfLiftUptoRow.holds Try.pinned (OpenSpec.upto fnExactCoverOfLiftSpec)

/-- 'laws.FnExactCountVoltWalks', WHERE WHAT IT READS IS OF BULK AT MOST 1048576: true; the input reads as it did. -/
def fnExactCountVoltWalksUptoRow : OpenClaim := { program := "ytdieobmhmkdjmaa", sum := "aed235bcfada868af550765f107d0848cd8bbe72c4fddef2afdf445f711aad74", func := "loop.example/g01331/laws.FnExactCountVoltWalks", spec := "fnExactCountVoltWalks", unfollowed := true, recurses := true, apart := false, narrowed := true }
def FnExactCountVoltWalksUptoSaid : Prop := fnExactCountVoltWalksUptoRow.holds Try.pinned (OpenSpec.upto fnExactCountVoltWalksSpec)

/-- 'laws.FnExactLiftOf', WHERE WHAT IT READS IS OF BULK AT MOST 1048576: true; the input reads as it did. -/
def fnExactLiftOfUptoRow : OpenClaim := { program := "ytdieobmhmkdjmaa", sum := "aed235bcfada868af550765f107d0848cd8bbe72c4fddef2afdf445f711aad74", func := "loop.example/g01331/laws.FnExactLiftOf", spec := "fnExactLiftOf", unfollowed := true, recurses := true, apart := false, narrowed := true }
def FnExactLiftOfUptoSaid : Prop := fnExactLiftOfUptoRow.holds Try.pinned (OpenSpec.upto fnExactLiftOfSpec)

/-- 'laws.FnExactWalkSum', WHERE WHAT IT READS IS OF BULK AT MOST 1048576: true; the input reads as it did. -/
def fnExactWalkSumUptoRow : OpenClaim := { program := "ytdieobmhmkdjmaa", sum := "aed235bcfada868af550765f107d0848cd8bbe72c4fddef2afdf445f711aad74", func := "loop.example/g01331/laws.FnExactWalkSum", spec := "fnExactWalkSum", unfollowed := true, recurses := true, apart := false, narrowed := true }
def FnExactWalkSumUptoSaid : Prop := fnExactWalkSumUptoRow.holds Try.pinned (OpenSpec.upto fnExactWalkSumSpec)

/-- 'laws.FnExactWalkGirth', WHERE WHAT IT READS IS OF BULK AT MOST 1048576: true; the input reads as it did. -/
def fnExactWalkGirthUptoRow : OpenClaim := { program := "ytdieobmhmkdjmaa", sum := "aed235bcfada868af550765f107d0848cd8bbe72c4fddef2afdf445f711aad74", func := "loop.example/g01331/laws.FnExactWalkGirth", spec := "fnExactWalkGirth", unfollowed := true, recurses := true, apart := false, narrowed := true }
def FnExactWalkGirthUptoSaid : Prop := fnExactWalkGirthUptoRow.holds Try.pinned (OpenSpec.upto fnExactWalkGirthSpec)

/-- 'laws.FnExactIsReducedWalk', WHERE WHAT IT READS IS OF BULK AT MOST 1048576: true; the input reads as it did. -/
def fnExactIsReducedWalkUptoRow : OpenClaim := { program := "ytdieobmhmkdjmaa", sum := "aed235bcfada868af550765f107d0848cd8bbe72c4fddef2afdf445f711aad74", func := "loop.example/g01331/laws.FnExactIsReducedWalk", spec := "fnExactIsReducedWalk", unfollowed := true, recurses := true, apart := false, narrowed := true }
def FnExactIsReducedWalkUptoSaid : Prop := fnExactIsReducedWalkUptoRow.holds Try.pinned (OpenSpec.upto fnExactIsReducedWalkSpec)

/-- 'laws.FnExactLiftedWalk', WHERE WHAT IT READS IS OF BULK AT MOST 1048576: true; the input reads as it did. -/
def fnExactLiftedWalkUptoRow : OpenClaim := { program := "ytdieobmhmkdjmaa", sum := "aed235bcfada868af550765f107d0848cd8bbe72c4fddef2afdf445f711aad74", func := "loop.example/g01331/laws.FnExactLiftedWalk", spec := "fnExactLiftedWalk", unfollowed := true, recurses := true, apart := false, narrowed := true }
def FnExactLiftedWalkUptoSaid : Prop := fnExactLiftedWalkUptoRow.holds Try.pinned (OpenSpec.upto fnExactLiftedWalkSpec)

end Rows
end Go.Proofs.Ytdieobmhmkdjmaa
