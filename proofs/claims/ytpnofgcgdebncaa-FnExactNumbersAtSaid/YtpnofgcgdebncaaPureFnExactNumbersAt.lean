/- The pure statement of FnExactNumbersAt, for all arguments. -/
import Derived.Test.YtpnofgcgdebncaaLFnExactNumbersAt
namespace Go.Proofs.Ytpnofgcgdebncaa.Pure
open Go.RowKit Go.Proofs.Ytpnofgcgdebncaa.PFnExactNumbersAt Go.Proofs.YtpnofgcgdebncaaW.PrintWords Go.Proofs.YtpnofgcgdebncaaW.PrintLast Go.Proofs.Ytpnofgcgdebncaa.B
open Classical
set_option linter.unusedVariables false
set_option linter.unusedSimpArgs false

theorem FnExactNumbersAt (l0 : List Int) (l1 : List Int) (m0 : l0.length ≤ maxLen) (w0 : ∀ x ∈ l0, (Lit.int .i64 x).wf = true) (m1 : l1.length ≤ maxLen) (w1 : ∀ x ∈ l1, (Lit.int .i64 x).wf = true) : ∃ k, laws_FnExactNumbersAt.f k l0 l1 = some true := by
  refine Ev.rounds (g := fun q => laws_FnExactNumbersAt.f q l0 l1) ?_
  unfold laws_FnExactNumbersAt.f
  by_cases g0 : (l0.length : Int) > 1048576
  · simp only [if_pos g0]; exact Ev.now _
  by_cases g1 : (l1.length : Int) > 1048576
  · simp only [if_neg g0, if_pos g1]; exact Ev.now _
  simp only [if_neg g0, if_neg g1]
  have hs := spec_NumbersAt.ev l0 l1 
  have hi := impl_NumbersAt.ev l0 l1 
  have hl := numsR_length l0 l1
  generalize numsR l0 l1 = R at hs hi hl
  have to0 := laws_toInt64S.ev l0 (by omega)
  have eq0 := laws_eqInt64S.ev l0 (by omega)
  obtain ⟨k0, hk0, _, _⟩ := laws_markInt64S.ev l0 (1) (by omega) (by omega)
  have ng0 : ¬ (1 + (l0.length : Int) < 0) := by omega
  have to1 := laws_toInt64S.ev l1 (by omega)
  have eq1 := laws_eqInt64S.ev l1 (by omega)
  obtain ⟨k1, hk1, _, _⟩ := laws_markInt64S.ev l1 (1 + (l0.length : Int)) (by omega) (by omega)
  have ng1 : ¬ (1 + (l0.length : Int) + (l1.length : Int) < 0) := by omega
  obtain ⟨rl, rc⟩ := R
  simp only at hl
  have he := laws_eqInt64S.ev rl (by omega)
  obtain ⟨m, hm, hml, hmm⟩ := laws_markInt64S.ev rl 1 (by omega) (by omega)
  have hh := laws_heldInt64S.ev m 1 (by omega) (by omega) (fun j hj => hmm j (by omega))
  rw [hml] at hh
  have ng : ¬ (1 + (rl.length : Int) < 0) := by omega
  repeat (first
    | with_reducible exact Ev.now _
    | with_reducible refine Ev.bind hs ?_
    | with_reducible refine Ev.bind hi ?_
    | with_reducible refine Ev.bind he ?_
    | with_reducible refine Ev.bind hm ?_
    | with_reducible refine Ev.bind hh ?_
    | with_reducible refine Ev.bind to0 ?_
    | with_reducible refine Ev.bind eq0 ?_
    | with_reducible refine Ev.bind hk0 ?_
    | with_reducible refine Ev.bind to1 ?_
    | with_reducible refine Ev.bind eq1 ?_
    | with_reducible refine Ev.bind hk1 ?_
    | with_reducible refine Ev.step (fun k => laws_FnExactNumbersAt.j0.eq_2 ..) ?_
    | with_reducible refine Ev.step (fun k => laws_FnExactNumbersAt.j1.eq_2 ..) ?_
    | with_reducible refine Ev.step (fun k => laws_FnExactNumbersAt.j2.eq_2 ..) ?_
    | simp only [if_true, if_false, Bool.false_eq_true, bne_self_eq_false, Bool.not_true, Bool.not_false, if_neg ng0, if_neg ng1, if_neg ng])

end Go.Proofs.Ytpnofgcgdebncaa.Pure
