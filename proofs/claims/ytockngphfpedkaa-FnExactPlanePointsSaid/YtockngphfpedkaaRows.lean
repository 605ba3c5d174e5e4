/-
  No cell of these rows narrows 'for every input' (looked for: loops, veiled, ifaces, maps, wideKeys, modest, calm, conditions, laid).
  DERIVED. THE GIVEN ROWS OF THIS SEAT. 5 by the template 'for every input the law returns true; each argument reads behind the call as it read before'; 0 by the template 'total and deterministic' (their statements: YtockngphfpedkaaTotals.lean).
  GIVEN WITH THE SEED: the statements are not yours to turn. If you find one false, say at which input.
  Laid BY PROGRAM, IN A SANDBOX (cutbox-rows.mjs): the forced cells as the released guide's own fill.sh prints them over the translation 39b7b302ece82d6f… (all of the seat's roots in one cut). By AI agents, Wed Nov 11 2026. No macro, syntax, notation, axiom, sorry.
-/
import Derived.Test.YtockngphfpedkaaChecked
import GoSem.Claim
import GoSem.ClaimJoined
import GoSem.ClaimMapViews
import Derived.JoinedTies
import Derived.KernelRfl
namespace Go.Proofs.Ytockngphfpedkaa
/- THE CELL 'sum', in the pinned program and in every row, IS THE sha256 OF THE DUMP (.gsa) THAT YtockngphfpedkaaProg.lean LOADS. Nothing in Lean hashes anything: it is a label: what it is worth is what the hold of that sum in a sandbox is worth. -/
noncomputable def Try.pinned : Pinned := { name := "ytockngphfpedkaa", sum := "39b7b302ece82d6ff895a211a172065c0d20063d89c15034b7bcb147da04158c", checked := Try.checked }
namespace Rows
def none {H : Type} : Left H := { results := [], args := [] }

/-- 'laws.FnExactAbsolutePoints': WHATEVER THE INPUT: true; the input reads as it did. -/
def fnExactAbsolutePointsSpec : ChangeSpec := { name := "fnExactAbsolutePoints", fn := fun _ => fun
  | [d] => { results := [.lit (.bool true)], args := [d] }
  | _ => none }
def fnExactAbsolutePointsRow : OpenClaim := { program := "ytockngphfpedkaa", sum := "39b7b302ece82d6ff895a211a172065c0d20063d89c15034b7bcb147da04158c", func := "loop.example/g01331/laws.FnExactAbsolutePoints", spec := "fnExactAbsolutePoints", unfollowed := true, recurses := true, apart := false }
def FnExactAbsolutePointsSaid : Prop := fnExactAbsolutePointsRow.holds Try.pinned (OpenSpec.ofChange fnExactAbsolutePointsSpec)

/-- ITS FALSE NEIGHBOUR: 'it returns false'. Refute it at one input. -/
def fnExactAbsolutePointsWrong : ChangeSpec := { name := "fnExactAbsolutePoints", fn := fun _ => fun
  | [d] => { results := [.lit (.bool false)], args := [d] }
  | _ => none }
def FnExactAbsolutePointsWrongFalsely : Prop := fnExactAbsolutePointsRow.holds Try.pinned (OpenSpec.ofChange fnExactAbsolutePointsWrong)

/-- 'laws.FnExactPlanePoints': WHATEVER THE INPUT: true; the input reads as it did. -/
def fnExactPlanePointsSpec : ChangeSpec := { name := "fnExactPlanePoints", fn := fun _ => fun
  | [d] => { results := [.lit (.bool true)], args := [d] }
  | _ => none }
def fnExactPlanePointsRow : OpenClaim := { program := "ytockngphfpedkaa", sum := "39b7b302ece82d6ff895a211a172065c0d20063d89c15034b7bcb147da04158c", func := "loop.example/g01331/laws.FnExactPlanePoints", spec := "fnExactPlanePoints", unfollowed := true, recurses := true, apart := false }
def FnExactPlanePointsSaid : Prop := fnExactPlanePointsRow.holds Try.pinned (OpenSpec.ofChange fnExactPlanePointsSpec)

/-- ITS FALSE NEIGHBOUR: 'it returns false'. Refute it at one input. -/
def fnExactPlanePointsWrong : ChangeSpec := { name := "fnExactPlanePoints", fn := fun _ => fun
  | [d] => { results := [.lit (.bool false)], args := [d] }
  | _ => none }
def FnExactPlanePointsWrongFalsely : Prop := fnExactPlanePointsRow.holds Try.pinned (OpenSpec.ofChange fnExactPlanePointsWrong)

/-- 'laws.FnExactTupleGraph': WHATEVER THE INPUT: true; the input reads as it did. -/
def fnExactTupleGraphSpec : ChangeSpec := { name := "fnExactTupleGraph", fn := fun _ => fun
  | [d1, d2] => { results := [.lit (.bool true)], args := [d1, d2] }
  | _ => none }
def fnExactTupleGraphRow : OpenClaim := { program := "ytockngphfpedkaa", sum := "39b7b302ece82d6ff895a211a172065c0d20063d89c15034b7bcb147da04158c", func := "loop.example/g01331/laws.FnExactTupleGraph", spec := "fnExactTupleGraph", unfollowed := true, recurses := true, apart := false }
def FnExactTupleGraphSaid : Prop := fnExactTupleGraphRow.holds Try.pinned (OpenSpec.ofChange fnExactTupleGraphSpec)

/-- ITS FALSE NEIGHBOUR: 'it returns false'. Refute it at one input. -/
def fnExactTupleGraphWrong : ChangeSpec := { name := "fnExactTupleGraph", fn := fun _ => fun
  | [d1, d2] => { results := [.lit (.bool false)], args := [d1, d2] }
  | _ => none }
def FnExactTupleGraphWrongFalsely : Prop := fnExactTupleGraphRow.holds Try.pinned (OpenSpec.ofChange fnExactTupleGraphWrong)

/-- 'laws.FnExactPolarityGraph': WHATEVER THE INPUT: true; the input reads as it did. -/
def fnExactPolarityGraphSpec : ChangeSpec := { name := "fnExactPolarityGraph", fn := fun _ => fun
  | [d] => { results := [.lit (.bool true)], args := [d] }
  | _ => none }
def fnExactPolarityGraphRow : OpenClaim := { program := "ytockngphfpedkaa", sum := "39b7b302ece82d6ff895a211a172065c0d20063d89c15034b7bcb147da04158c", func := "loop.example/g01331/laws.FnExactPolarityGraph", spec := "fnExactPolarityGraph", unfollowed := true, recurses := true, apart := false }
def FnExactPolarityGraphSaid : Prop := fnExactPolarityGraphRow.holds Try.pinned (OpenSpec.ofChange fnExactPolarityGraphSpec)

/-- ITS FALSE NEIGHBOUR: 'it returns false'. Refute it at one input. -/
def fnExactPolarityGraphWrong : ChangeSpec := { name := "fnExactPolarityGraph", fn := fun _ => fun
  | [d] => { results := [.lit (.bool false)], args := [d] }
  | _ => none }
def FnExactPolarityGraphWrongFalsely : Prop := fnExactPolarityGraphRow.holds Try.pinned (OpenSpec.ofChange fnExactPolarityGraphWrong)

/-- 'laws.FnExactPlaneGraph': WHATEVER THE INPUT: true; the input reads as it did. -/
def fnExactPlaneGraphSpec : ChangeSpec := { name := "fnExactPlaneGraph", fn := fun _ => fun
  | [d] => { results := [.lit (.bool true)], args := [d] }
  | _ => none }
def fnExactPlaneGraphRow : OpenClaim := { program := "ytockngphfpedkaa", sum := "39b7b302ece82d6ff895a211a172065c0d20063d89c15034b7bcb147da04158c", func := "loop.example/g01331/laws.FnExactPlaneGraph", spec := "fnExactPlaneGraph", unfollowed := true, recurses := true, apart := false }
def FnExactPlaneGraphSaid : Prop := fnExactPlaneGraphRow.holds Try.pinned (OpenSpec.ofChange fnExactPlaneGraphSpec)

/-- ITS FALSE NEIGHBOUR: 'it returns false'. Refute it at one input. -/
def fnExactPlaneGraphWrong : ChangeSpec := { name := "fnExactPlaneGraph", fn := fun _ => fun
  | [d] => { results := [.lit (.bool false)], args := [d] }
  | _ => none }
def FnExactPlaneGraphWrongFalsely : Prop := fnExactPlaneGraphRow.holds Try.pinned (OpenSpec.ofChange fnExactPlaneGraphWrong)

/- THE SECOND FORM. 'bulk': how many values and letters a reading holds, each counted each time it is reached (what is shared counts as often as it is met; a slice's spare places count too). A statement '..UptoSaid' is the law's where the arguments, and the package variables that the reading takes, are together of bulk at most 1048576: NARROWER than '..Said'. Prove '..Said' where nothing that the law and all that it calls make is longer than what came in: it says more and counts as full. Else prove '..UptoSaid'. A law counts once. -/
mutual
def uptoBulk {H : Type} : DataW H → Nat
  | .lit (.string bytes) => bytes.length + 1
  | .lit _ => 1
  | .nil => 1
  | .ptr d => uptoBulk d + 1
  | .slice elems spare => uptoBulkAll elems + uptoBulkAll spare + 1
  | .agg parts => uptoBulkAll parts + 1
  | .iface _ d => uptoBulk d + 1
  | .map entries => uptoBulkEntries entries + 1
  | .held _ => 1
def uptoBulkAll {H : Type} : List (DataW H) → Nat
  | [] => 0
  | d :: r => uptoBulk d + uptoBulkAll r
def uptoBulkEntries {H : Type} : List (Lit × DataW H) → Nat
  | [] => 0
  | x :: r => uptoBulkEntry x + uptoBulkEntries r
def uptoBulkEntry {H : Type} : Lit × DataW H → Nat
  | (.string bytes, d) => bytes.length + uptoBulk d + 1
  | (_, d) => uptoBulk d + 1
 end
def uptoSmall : (H : Type) → List (DataW H) → Bool := fun _ ds => decide (uptoBulkAll ds ≤ 1048576)
def OpenSpec.upto (s : _root_.Go.ChangeSpec) : _root_.Go.OpenSpec := { _root_.Go.OpenSpec.ofChange s with cond := some uptoSmall }

/-- 'laws.FnExactAbsolutePoints', WHERE WHAT IT READS IS OF BULK AT MOST 1048576: true; the input reads as it did. -/
def fnExactAbsolutePointsUptoRow : OpenClaim := { program := "ytockngphfpedkaa", sum := "39b7b302ece82d6ff895a211a172065c0d20063d89c15034b7bcb147da04158c", func := "loop.example/g01331/laws.FnExactAbsolutePoints", spec := "fnExactAbsolutePoints", unfollowed := true, recurses := true, apart := false, narrowed := true }
def FnExactAbsolutePointsUptoSaid : Prop := fnExactAbsolutePointsUptoRow.holds Try.pinned (OpenSpec.upto fnExactAbsolutePointsSpec)

/-- 'laws.FnExactPlanePoints', WHERE WHAT IT READS IS OF BULK AT MOST 1048576: true; the input reads as it did. -/
def fnExactPlanePointsUptoRow : OpenClaim := { program := "ytockngphfpedkaa", sum := "39b7b302ece82d6ff895a211a172065c0d20063d89c15034b7bcb147da04158c", func := "loop.example/g01331/laws.FnExactPlanePoints", spec := "fnExactPlanePoints", unfollowed := true, recurses := true, apart := false, narrowed := true }
def FnExactPlanePointsUptoSaid : Prop := fnExactPlanePointsUptoRow.holds Try.pinned (OpenSpec.upto fnExactPlanePointsSpec)

/-- 'laws.FnExactTupleGraph', WHERE WHAT IT READS IS OF BULK AT MOST 1048576: true; the input reads as it did. -/
def fnExactTupleGraphUptoRow : OpenClaim := { program := "ytockngphfpedkaa", sum := "39b7b302ece82d6ff895a211a172065c0d20063d89c15034b7bcb147da04158c", func := "loop.example/g01331/laws.FnExactTupleGraph", spec := "fnExactTupleGraph", unfollowed := true, recurses := true, apart := false, narrowed := true }
def FnExactTupleGraphUptoSaid : Prop := fnExactTupleGraphUptoRow.holds Try.pinned (OpenSpec.upto fnExactTupleGraphSpec)

/-- 'laws.FnExactPolarityGraph', WHERE WHAT IT READS IS OF BULK AT MOST 1048576: true; the input reads as it did. -/
def fnExactPolarityGraphUptoRow : OpenClaim := { program := "ytockngphfpedkaa", sum := "39b7b302ece82d6ff895a211a172065c0d20063d89c15034b7bcb147da04158c", func := "loop.example/g01331/laws.FnExactPolarityGraph", spec := "fnExactPolarityGraph", unfollowed := true, recurses := true, apart := false, narrowed := true }
def FnExactPolarityGraphUptoSaid : Prop := fnExactPolarityGraphUptoRow.holds Try.pinned (OpenSpec.upto fnExactPolarityGraphSpec)

/-- 'laws.FnExactPlaneGraph', WHERE WHAT IT READS IS OF BULK AT MOST 1048576: true; the input reads as it did. -/
def fnExactPlaneGraphUptoRow : OpenClaim := { program := "ytockngphfpedkaa", sum := "39b7b302ece82d6ff895a211a172065c0d20063d89c15034b7bcb147da04158c", func := "loop.example/g01331/laws.FnExactPlaneGraph", spec := "fnExactPlaneGraph", unfollowed := true, recurses := true, apart := false, narrowed := true }
def FnExactPlaneGraphUptoSaid : Prop := fnExactPlaneGraphUptoRow.holds Try.pinned (OpenSpec.upto fnExactPlaneGraphSpec)

end Rows
end Go.Proofs.Ytockngphfpedkaa
