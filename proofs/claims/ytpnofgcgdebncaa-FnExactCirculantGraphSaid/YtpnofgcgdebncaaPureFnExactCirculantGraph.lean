/- The pure statement of FnExactCirculantGraph, for all arguments. -/
import Derived.Test.YtpnofgcgdebncaaLFnExactCirculantGraph
namespace Go.Proofs.Ytpnofgcgdebncaa.Pure
open Go.RowKit Go.Proofs.Ytpnofgcgdebncaa.PFnExactCirculantGraph Go.Proofs.YtpnofgcgdebncaaW.PrintWords Go.Proofs.YtpnofgcgdebncaaW.PrintLast Go.Proofs.Ytpnofgcgdebncaa.B
open Classical
set_option linter.unusedVariables false
set_option linter.unusedSimpArgs false

theorem FnExactCirculantGraph (a0 : Int) (l1 : List Int) (w0 : (Lit.int .i64 a0).wf = true) (m1 : l1.length ≤ maxLen) (w1 : ∀ x ∈ l1, (Lit.int .i64 x).wf = true) : ∃ k, laws_FnExactCirculantGraph.f k a0 l1 = some true := by
  refine Ev.rounds (g := fun q => laws_FnExactCirculantGraph.f q a0 l1) ?_
  unfold laws_FnExactCirculantGraph.f
  by_cases g1 : (l1.length : Int) > 1048576
  · simp only [if_pos g1]; exact Ev.now _
  simp only [if_neg g1]
  have hs := spec_CirculantGraph.ev a0 l1 
  have hi := impl_CirculantGraph.ev a0 l1 
  have hl := circR_length a0 l1
  generalize circR a0 l1 = R at hs hi hl
  have to1 := laws_toInt64S.ev l1 (by omega)
  have eq1 := laws_eqInt64S.ev l1 (by omega)
  obtain ⟨k1, hk1, _, _⟩ := laws_markInt64S.ev l1 (1) (by omega) (by omega)
  have ng1 : ¬ (1 + (l1.length : Int) < 0) := by omega
  obtain ⟨rn, rl, rc⟩ := R
  simp only at hl
  have he := laws_eqGraph.ev rn rl (by omega)
  obtain ⟨m, hm, hml, hmm⟩ := laws_markGraph.ev rn rl 1 (by omega) (by omega)
  have hh := laws_heldGraph.ev rn m 1 (by omega) (by omega) (fun j hj => hmm j (by omega))
  rw [hml] at hh
  have ng : ¬ (1 + (rl.length : Int) < 0) := by omega
  repeat (first
    | with_reducible exact Ev.now _
    | with_reducible refine Ev.bind hs ?_
    | with_reducible refine Ev.bind hi ?_
    | with_reducible refine Ev.bind he ?_
    | with_reducible refine Ev.bind hm ?_
    | with_reducible refine Ev.bind hh ?_
    | with_reducible refine Ev.bind to1 ?_
    | with_reducible refine Ev.bind eq1 ?_
    | with_reducible refine Ev.bind hk1 ?_
    | with_reducible refine Ev.step (fun k => laws_FnExactCirculantGraph.j0.eq_2 ..) ?_
    | with_reducible refine Ev.step (fun k => laws_FnExactCirculantGraph.j1.eq_2 ..) ?_
    | with_reducible refine Ev.step (fun k => laws_FnExactCirculantGraph.j2.eq_2 ..) ?_
    | simp only [if_true, if_false, Bool.false_eq_true, bne_self_eq_false, Bool.not_true, Bool.not_false, if_neg ng1, if_neg ng])

end Go.Proofs.Ytpnofgcgdebncaa.Pure
