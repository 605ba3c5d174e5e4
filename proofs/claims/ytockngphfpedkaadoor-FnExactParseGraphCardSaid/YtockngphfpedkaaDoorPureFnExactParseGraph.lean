/- The pure statement of FnExactParseGraph, for all arguments. -/
import Derived.Test.YtockngphfpedkaaDoorLFnExactParseGraph
namespace Go.Proofs.YtockngphfpedkaaDoor.Pure
open Go.RowKit Go.Proofs.YtockngphfpedkaaDoor.XFnExactParseGraph Go.Proofs.YtockngphfpedkaaDoorW.PrintWords Go.Proofs.YtockngphfpedkaaDoorW.PrintLast Go.Proofs.YtockngphfpedkaaDoor.B
open Classical
set_option linter.unusedVariables false
set_option linter.unusedSimpArgs false

theorem pgV_len (s : List UInt8) : (pgV (imP s)).2.1.length ≤ 62 := by
  cases h : imP s with
  | none => exact Nat.zero_le _
  | some x =>
    obtain ⟨n, r⟩ := x
    have g := imP_isG h
    have h1 := g.le
    have h2 := g.2.2.1
    show r.length ≤ 62
    omega
theorem FnExactParseGraph (a0 : ByteArray) (h0 : a0.size ≤ 140737488351232) : ∃ k, laws_FnExactParseGraph.f k a0 = some true := by
  refine Ev.rounds (g := fun q => laws_FnExactParseGraph.f q a0) ?_
  unfold laws_FnExactParseGraph.f
  by_cases c : (a0.size : Int) > 1048576
  · simp only [if_pos c]; exact Ev.now _
  simp only [if_neg c]
  obtain ⟨s, rfl⟩ : ∃ s, a0 = mkB s := ⟨a0.data.toList, by apply ByteArray.ext; simp [mkB]⟩
  rw [mkB_size] at c
  have hs := spec_ParseGraph.ev (s := s) (by omega)
  have hi := impl_ParseGraph.ev (s := s) (by omega)
  rw [spP_eq s] at hs
  have hl := pgV_len s
  generalize pgV (imP s) = R at hs hi hl
  obtain ⟨n, l, e⟩ := R
  simp only at hl
  have eq0 := laws_eqGraph.ev n l (by omega)
  obtain ⟨m, hm, hml, hmm⟩ := laws_markGraph.ev n l 1 (by omega) (by omega)
  have hh := laws_heldGraph.ev n m 1 (by omega) (by omega) (fun j hj => hmm j (by omega))
  rw [hml] at hh
  have ng : ¬ (1 + (l.length : Int) < 0) := by omega
  repeat (first
    | with_reducible exact Ev.now _
    | with_reducible refine Ev.bind hs ?_
    | with_reducible refine Ev.bind hi ?_
    | with_reducible refine Ev.bind eq0 ?_
    | with_reducible refine Ev.bind hm ?_
    | with_reducible refine Ev.bind hh ?_
    | with_reducible refine Ev.step (fun k => laws_FnExactParseGraph.j0.eq_2 ..) ?_
    | with_reducible refine Ev.step (fun k => laws_FnExactParseGraph.j1.eq_2 ..) ?_
    | simp only [if_true, if_false, Bool.false_eq_true, bne_self_eq_false, Bool.not_true, Bool.not_false, if_neg ng])

end Go.Proofs.YtockngphfpedkaaDoor.Pure
