/- The pure statement of FnExactRingGraph, for all arguments. -/
import Derived.Test.YtpnofgcgdebncaaLFnExactRingGraph
namespace Go.Proofs.Ytpnofgcgdebncaa.Pure
open Go.RowKit Go.Proofs.Ytpnofgcgdebncaa.PFnExactRingGraph Go.Proofs.YtpnofgcgdebncaaW.PrintWords Go.Proofs.YtpnofgcgdebncaaW.PrintLast Go.Proofs.Ytpnofgcgdebncaa.B
open Classical
set_option linter.unusedVariables false
set_option linter.unusedSimpArgs false

theorem FnExactRingGraph : laws_FnExactRingGraph.Pure := by
  intro a0 a1 w0 w1
  refine Ev.rounds (g := fun q => laws_FnExactRingGraph.f q a0 a1) ?_
  unfold laws_FnExactRingGraph.f
  have hs := spec_RingGraph.ev a0 a1 w0 w1
  have hi := impl_RingGraph.ev a0 a1 w0 w1
  have hl := ringR_length a0 a1
  generalize ringR a0 a1 = R at hs hi hl
  obtain ⟨rn, rl, rc⟩ := R
  simp only at hl
  have he := laws_eqGraph.ev rn rl (by omega)
  obtain ⟨m, hm, hml, hmm⟩ := laws_markGraph.ev rn rl 1 (by omega) (by omega)
  have hh := laws_heldGraph.ev rn m 1 (by omega) (by omega) (fun j hj => hmm j (by omega))
  rw [hml] at hh
  have ng : ¬ (1 + (rl.length : Int) < 0) := by omega
  repeat (first
    | with_reducible exact Ev.now _
    | with_reducible refine Ev.bind hs ?_
    | with_reducible refine Ev.bind hi ?_
    | with_reducible refine Ev.bind he ?_
    | with_reducible refine Ev.bind hm ?_
    | with_reducible refine Ev.bind hh ?_
    | with_reducible refine Ev.step (fun k => laws_FnExactRingGraph.j0.eq_2 ..) ?_
    | with_reducible refine Ev.step (fun k => laws_FnExactRingGraph.j1.eq_2 ..) ?_
    | simp only [if_true, if_false, Bool.false_eq_true, bne_self_eq_false, Bool.not_true, Bool.not_false, if_neg ng])

end Go.Proofs.Ytpnofgcgdebncaa.Pure
