/- The pure statement of FnExactLiftedWalk, for all arguments. -/
import Derived.Test.YtdieobmhmkdjmaaLFnExactLiftedWalk
namespace Go.Proofs.Ytdieobmhmkdjmaa.Pure
open Go.RowKit Go.Proofs.Ytdieobmhmkdjmaa.XFnExactLiftedWalk Go.Proofs.YtdieobmhmkdjmaaW.PrintWords Go.Proofs.YtdieobmhmkdjmaaW.PrintLast Go.Proofs.Ytdieobmhmkdjmaa.B
open Classical
set_option linter.unusedVariables false
set_option linter.unusedSimpArgs false

theorem FnExactLiftedWalk (a0 b0 : Int) (l0 : List S75) (l1 : List Int) (a2 : Int) (wa0 : (Lit.int .i64 a0).wf = true) (wb0 : (Lit.int .i64 b0).wf = true) (m0 : l0.length ≤ maxLen) (m1 : l1.length ≤ maxLen) (w1 : ∀ x ∈ l1, (Lit.int .i64 x).wf = true) (w2 : (Lit.int .i64 a2).wf = true) : ∃ k, laws_FnExactLiftedWalk.f k a0 b0 l0 l1 a2 = some true := by
  refine Ev.rounds (g := fun q => laws_FnExactLiftedWalk.f q a0 b0 l0 l1 a2) ?_
  unfold laws_FnExactLiftedWalk.f
  unfold maxLen at m1
  unfold maxLen at m0
  by_cases g1 : (l1.length : Int) > 1048576
  · simp only [if_pos g1]; exact Ev.now _
  simp only [if_neg g1]
  rcases laws_szBase.sp (n := a0) (m := b0) (l := l0) (a := 1048576) (by omega) (by omega) (by omega) with ⟨e0, c0⟩ | ⟨e0, c0⟩
  · simp only [e0, Option.bind_some]; exact Ev.now _
  simp only [e0, Option.bind_some, if_neg (show ¬ ((1048576 : Int) - l0.length < 0) by omega)]
  have hs := spec_LiftedWalk.ev a0 b0 (l0.map toA) l1 a2 
  have hi := impl_LiftedWalk.ev a0 b0 (l0.map toA) l1 a2 
  have hl := lwR_length a0 b0 (l0.map toA) l1 a2
  generalize lwR a0 b0 (l0.map toA) l1 a2 = R at hs hi hl
  have hml0 : (l0.map toA).length = l0.length := List.length_map ..
  have to0 := laws_toBase.ev a0 b0 l0 (by omega)
  have eq0 := laws_eqBase.ev a0 b0 (l0.map toA) (by omega)
  obtain ⟨k0, hk0⟩ := laws_markBase.ev a0 b0 (l0.map toA) (1) (by omega) (by omega) (by omega)
  have ng0 : ¬ (1 + 3 * ((l0.map toA).length : Int) < 0) := by omega
  have to1 := laws_toInt64S.ev l1 (by omega)
  have eq1 := laws_eqInt64S.ev l1 (by omega)
  obtain ⟨k1, hk1, _, _⟩ := laws_markInt64S.ev l1 (1 + 3 * ((l0.map toA).length : Int)) (by omega) (by omega)
  have ng1 : ¬ (1 + 3 * ((l0.map toA).length : Int) + (l1.length : Int) < 0) := by omega
  obtain ⟨rl, rc⟩ := R
  simp only at hl
  have he := laws_eqInt64S.ev rl (by omega)
  obtain ⟨m, hm, hml, hmm⟩ := laws_markInt64S.ev rl 1 (by omega) (by omega)
  have hh := laws_heldInt64S.ev m 1 (by omega) (by omega) (fun j hj => hmm j (by omega))
  rw [hml] at hh
  have ng : ¬ (1 + (rl.length : Int) < 0) := by omega
  repeat (first
    | with_reducible exact Ev.now _
    | with_reducible refine Ev.bind hs ?_
    | with_reducible refine Ev.bind hi ?_
    | with_reducible refine Ev.bind he ?_
    | with_reducible refine Ev.bind hm ?_
    | with_reducible refine Ev.bind hh ?_
    | with_reducible refine Ev.bind to0 ?_
    | with_reducible refine Ev.bind eq0 ?_
    | with_reducible refine Ev.bind hk0 ?_
    | with_reducible refine Ev.bind to1 ?_
    | with_reducible refine Ev.bind eq1 ?_
    | with_reducible refine Ev.bind hk1 ?_
    | with_reducible refine Ev.step (fun k => laws_FnExactLiftedWalk.j0.eq_2 ..) ?_
    | with_reducible refine Ev.step (fun k => laws_FnExactLiftedWalk.j1.eq_2 ..) ?_
    | with_reducible refine Ev.step (fun k => laws_FnExactLiftedWalk.j2.eq_2 ..) ?_
    | simp only [if_true, if_false, Bool.false_eq_true, bne_self_eq_false, Bool.not_true, Bool.not_false, if_neg ng0, if_neg ng1, if_neg ng])

end Go.Proofs.Ytdieobmhmkdjmaa.Pure
