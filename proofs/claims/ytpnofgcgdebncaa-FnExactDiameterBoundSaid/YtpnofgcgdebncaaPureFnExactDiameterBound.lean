/- The pure statement of FnExactDiameterBound, for all arguments. -/
import Derived.Test.YtpnofgcgdebncaaLFnExactDiameterBound
namespace Go.Proofs.Ytpnofgcgdebncaa.Pure
open Go.RowKit Go.Proofs.Ytpnofgcgdebncaa.PFnExactDiameterBound Go.Proofs.YtpnofgcgdebncaaW.PrintWords Go.Proofs.YtpnofgcgdebncaaW.PrintLast Go.Proofs.Ytpnofgcgdebncaa.B
open Classical
set_option linter.unusedVariables false
set_option linter.unusedSimpArgs false

def diamR (k d : Int) : Int × Int := if 1 ≤ k ∧ k ≤ 62 ∧ 1 ≤ d ∧ d ≤ 60 then told (1 + k * sumRun (k - 1) d.toNat 0 1) else (0, 2)
theorem spec_DiameterBound.ev (k d : Int) : Ev (fun q => spec_DiameterBound.f q k d) (diamR k d) := by
  unfold spec_DiameterBound.f diamR
  simp only [spec_l01In.sp, Option.bind_some]
  by_cases h1 : 1 ≤ k ∧ k ≤ 62
  · simp only [h1, and_self, decide_true, if_true, true_and]
    refine Ev.step (fun k => spec_DiameterBound.j0.eq_2 ..) ?_
    by_cases h2 : 1 ≤ d ∧ d ≤ 60
    · simp only [h2, and_self, decide_true, Bool.not_true, Bool.false_eq_true, if_false, if_true]
      refine Ev.bind (spec_l02Sum.ev k d (by omega) (by omega) (by omega)) ?_
      have hs := sumRun_bd (k - 1) (by omega) d.toNat 0 1 (by omega) (by omega) (by omega)
      have hm := mul_bd hs.1 hs.2 (show 0 ≤ k by omega) (by omega)
      rw [Int.mul_comm] at hm
      rw [w64 (n := k * _) (by omega) (by omega), w64 (by omega) (by omega), spec_l02Told.sp]
      exact Ev.now _
    · simp only [h2, decide_false, Bool.not_false, if_true, if_false]
      exact Ev.now _
  · simp only [h1, decide_false, Bool.false_eq_true, if_false]
    refine Ev.step (fun k => spec_DiameterBound.j0.eq_2 ..) ?_
    simp only [if_true]
    rw [if_neg (by omega)]
    exact Ev.now _
theorem impl_diameterBound.ev (k d : Int) (h1 : 1 ≤ k) (h2 : k ≤ 62) (h3 : d ≤ 60) : Ev (fun q => impl_diameterBound.f q k d) (1 + k * sumRun (k - 1) d.toNat 0 1) := by
  unfold impl_diameterBound.f
  rw [w64 (n := k - 1) (by omega) (by omega)]
  refine Ev.bind (impl_powers.ev (k - 1) d (by omega) (by omega) (by omega)) ?_
  have hs := sumRun_bd (k - 1) (by omega) d.toNat 0 1 (by omega) (by omega) (by omega)
  have hm := mul_bd hs.1 hs.2 (show 0 ≤ k by omega) (by omega)
  rw [Int.mul_comm] at hm
  rw [w64 (n := k * _) (by omega) (by omega), w64 (by omega) (by omega)]
  exact Ev.now _
theorem impl_DiameterBound.ev (k d : Int) : Ev (fun q => impl_DiameterBound.f q k d) (diamR k d) := by
  unfold impl_DiameterBound.f diamR
  by_cases h1 : k < 1
  · simp only [if_pos h1]
    refine Ev.step (fun k => impl_DiameterBound.j0.eq_2 ..) ?_
    simp only [if_true]; rw [if_neg (by omega)]; exact Ev.now _
  by_cases h2 : k > 62
  · simp only [if_neg h1, if_pos h2]
    refine Ev.step (fun k => impl_DiameterBound.j0.eq_2 ..) ?_
    simp only [if_true]; rw [if_neg (by omega)]; exact Ev.now _
  by_cases h3 : d < 1
  · simp only [if_neg h1, if_neg h2, if_pos h3]
    refine Ev.step (fun k => impl_DiameterBound.j0.eq_2 ..) ?_
    simp only [if_true]; rw [if_neg (by omega)]; exact Ev.now _
  simp only [if_neg h1, if_neg h2, if_neg h3]
  refine Ev.step (fun k => impl_DiameterBound.j0.eq_2 ..) ?_
  by_cases h4 : d > 60
  · simp only [decide_eq_true_eq, if_pos h4]; rw [if_neg (by omega)]; exact Ev.now _
  · simp only [decide_eq_true_eq, if_neg h4]
    refine Ev.bind (impl_diameterBound.ev k d (by omega) (by omega) (by omega)) ?_
    rw [impl_limited.sp, if_pos (by omega)]
    exact Ev.now _
theorem FnExactDiameterBound : laws_FnExactDiameterBound.Pure := by
  intro k d _ _
  refine Ev.rounds (g := fun q => laws_FnExactDiameterBound.f q k d) ?_
  unfold laws_FnExactDiameterBound.f
  refine Ev.bind (spec_DiameterBound.ev k d) ?_
  refine Ev.bind (impl_DiameterBound.ev k d) ?_
  simp only [if_true]
  exact Ev.now _

end Go.Proofs.Ytpnofgcgdebncaa.Pure
