/- The pure statement of FnExactRenumberGraph, for all arguments. -/
import Derived.Test.YthnjnhdalpcfpaaDoorLFnExactRenumberGraph
namespace Go.Proofs.YthnjnhdalpcfpaaDoor.Pure
open Go.RowKit Go.Proofs.YthnjnhdalpcfpaaDoor.XFnExactRenumberGraph Go.Proofs.YthnjnhdalpcfpaaDoorW.PrintWords Go.Proofs.YthnjnhdalpcfpaaDoorW.PrintLast Go.Proofs.YthnjnhdalpcfpaaDoor.B
open Classical
set_option linter.unusedVariables false
set_option linter.unusedSimpArgs false

theorem FnExactRenumberGraph (a0 : Int) (l0 : List Int) (l1 : List Int) (wa0 : (Lit.int .i64 a0).wf = true) (m0 : l0.length ≤ maxLen) (w0 : ∀ x ∈ l0, (Lit.int .i64 x).wf = true) (m1 : l1.length ≤ maxLen) (w1 : ∀ x ∈ l1, (Lit.int .i64 x).wf = true) : ∃ k, laws_FnExactRenumberGraph.f k a0 l0 l1 = some true := by
  refine Ev.rounds (g := fun q => laws_FnExactRenumberGraph.f q a0 l0 l1) ?_
  unfold laws_FnExactRenumberGraph.f
  unfold maxLen at m1
  unfold maxLen at m0
  by_cases g1 : (l1.length : Int) > 1048576
  · simp only [if_pos g1]; exact Ev.now _
  simp only [if_neg g1]
  rcases laws_szGraph.sp (n := a0) (l := l0) (a := 1048576) (by omega) (by omega) (by omega) with ⟨e0, c0⟩ | ⟨e0, c0⟩
  · simp only [e0, Option.bind_some]; exact Ev.now _
  simp only [e0, Option.bind_some, if_neg (show ¬ ((1048576 : Int) - l0.length < 0) by omega)]
  have hs := spec_RenumberGraph.ev a0 l0 l1 (by omega)
  have hi := impl_RenumberGraph.ev a0 l0 l1 (by omega)
  have hl := renumR_length a0 l0 l1
  generalize renumR a0 l0 l1 = R at hs hi hl
  have to0 := laws_toGraph.ev a0 l0 (by omega)
  have eq0 := laws_eqGraph.ev a0 l0 (by omega)
  obtain ⟨k0, hk0, _, _⟩ := laws_markGraph.ev a0 l0 (1) (by omega) (by omega)
  have ng0 : ¬ (1 + (l0.length : Int) < 0) := by omega
  have to1 := laws_toInt64S.ev l1 (by omega)
  have eq1 := laws_eqInt64S.ev l1 (by omega)
  obtain ⟨k1, hk1, _, _⟩ := laws_markInt64S.ev l1 (1 + (l0.length : Int)) (by omega) (by omega)
  have ng1 : ¬ (1 + (l0.length : Int) + (l1.length : Int) < 0) := by omega
  obtain ⟨rn, rl, rc⟩ := R
  simp only at hl
  have he := laws_eqGraph.ev rn rl (by omega)
  obtain ⟨m, hm, hml, hmm⟩ := laws_markGraph.ev rn rl 1 (by omega) (by omega)
  have hh := laws_heldGraph.ev rn m 1 (by omega) (by omega) (fun j hj => hmm j (by omega))
  rw [hml] at hh
  have ng : ¬ (1 + (rl.length : Int) < 0) := by omega
  repeat (first
    | with_reducible exact Ev.now _
    | with_reducible refine Ev.bind hs ?_
    | with_reducible refine Ev.bind hi ?_
    | with_reducible refine Ev.bind he ?_
    | with_reducible refine Ev.bind hm ?_
    | with_reducible refine Ev.bind hh ?_
    | with_reducible refine Ev.bind to0 ?_
    | with_reducible refine Ev.bind eq0 ?_
    | with_reducible refine Ev.bind hk0 ?_
    | with_reducible refine Ev.bind to1 ?_
    | with_reducible refine Ev.bind eq1 ?_
    | with_reducible refine Ev.bind hk1 ?_
    | with_reducible refine Ev.step (fun k => laws_FnExactRenumberGraph.j0.eq_2 ..) ?_
    | with_reducible refine Ev.step (fun k => laws_FnExactRenumberGraph.j1.eq_2 ..) ?_
    | with_reducible refine Ev.step (fun k => laws_FnExactRenumberGraph.j2.eq_2 ..) ?_
    | simp only [if_true, if_false, Bool.false_eq_true, bne_self_eq_false, Bool.not_true, Bool.not_false, if_neg ng0, if_neg ng1, if_neg ng])

end Go.Proofs.YthnjnhdalpcfpaaDoor.Pure
