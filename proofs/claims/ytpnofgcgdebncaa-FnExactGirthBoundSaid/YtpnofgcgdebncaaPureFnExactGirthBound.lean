/- The pure statement of FnExactGirthBound, for all arguments. -/
import Derived.Test.YtpnofgcgdebncaaLFnExactGirthBound
namespace Go.Proofs.Ytpnofgcgdebncaa.Pure
open Go.RowKit Go.Proofs.Ytpnofgcgdebncaa.PFnExactGirthBound Go.Proofs.YtpnofgcgdebncaaW.PrintWords Go.Proofs.YtpnofgcgdebncaaW.PrintLast Go.Proofs.Ytpnofgcgdebncaa.B
open Classical
set_option linter.unusedVariables false
set_option linter.unusedSimpArgs false

def girthB (k g : Int) : Int := if g % 2 = 1 then 1 + k * sumRun (k - 1) ((g - 1) / 2).toNat 0 1 else 2 * sumRun (k - 1) (g / 2).toNat 0 1
def girthR (k g : Int) : Int × Int := if 2 ≤ k ∧ k ≤ 62 ∧ 3 ≤ g ∧ g ≤ 62 then told (girthB k g) else (0, 2)
theorem spec_l02Bound.ev (k g : Int) (h1 : 2 ≤ k) (h2 : k ≤ 62) (h3 : 3 ≤ g) (h4 : g ≤ 62) : Ev (fun q => spec_l02Bound.f q k g) (girthB k g) := by
  unfold spec_l02Bound.f girthB
  rw [w64 (n := g - 1) (by omega) (by omega), tmod_pos (a := g) (by omega), tdiv_pos (a := g) (by omega), tdiv_pos (a := g - 1) (by omega), w64 (n := g / 2) (by omega) (by omega), w64 (n := (g - 1) / 2) (by omega) (by omega)]
  by_cases c : g % 2 = 1
  · simp only [if_pos c]
    refine Ev.bind (spec_l02Sum.ev k _ (by omega) (by omega) (by omega)) ?_
    have hs := sumRun_bd (k - 1) (by omega) ((g - 1) / 2).toNat 0 1 (by omega) (by omega) (by omega)
    have hm := mul_bd hs.1 hs.2 (show 0 ≤ k by omega) (by omega)
    rw [Int.mul_comm] at hm
    rw [w64 (n := k * _) (by omega) (by omega), w64 (by omega) (by omega)]
    exact Ev.now _
  · simp only [if_neg c]
    refine Ev.bind (spec_l02Sum.ev k _ (by omega) (by omega) (by omega)) ?_
    have hs := sumRun_bd (k - 1) (by omega) (g / 2).toNat 0 1 (by omega) (by omega) (by omega)
    rw [w64 (by omega) (by omega)]
    exact Ev.now _
theorem impl_girthBound.ev (k g : Int) (h1 : 2 ≤ k) (h2 : k ≤ 62) (h3 : 3 ≤ g) (h4 : g ≤ 62) : Ev (fun q => impl_girthBound.f q k g) (girthB k g) := by
  unfold impl_girthBound.f girthB
  rw [w64 (n := g - 1) (by omega) (by omega), w64 (n := k - 1) (by omega) (by omega), tmod_pos (a := g) (by omega), tdiv_pos (a := g) (by omega), tdiv_pos (a := g - 1) (by omega), w64 (n := g / 2) (by omega) (by omega), w64 (n := (g - 1) / 2) (by omega) (by omega)]
  by_cases c : g % 2 = 1
  · simp only [if_pos c]
    refine Ev.bind (impl_powers.ev (k - 1) _ (by omega) (by omega) (by omega)) ?_
    have hs := sumRun_bd (k - 1) (by omega) ((g - 1) / 2).toNat 0 1 (by omega) (by omega) (by omega)
    have hm := mul_bd hs.1 hs.2 (show 0 ≤ k by omega) (by omega)
    rw [Int.mul_comm] at hm
    rw [w64 (n := k * _) (by omega) (by omega), w64 (by omega) (by omega)]
    exact Ev.now _
  · simp only [if_neg c]
    refine Ev.bind (impl_powers.ev (k - 1) _ (by omega) (by omega) (by omega)) ?_
    have hs := sumRun_bd (k - 1) (by omega) (g / 2).toNat 0 1 (by omega) (by omega) (by omega)
    rw [w64 (by omega) (by omega)]
    exact Ev.now _
theorem spec_GirthBound.ev (k d : Int) : Ev (fun q => spec_GirthBound.f q k d) (girthR k d) := by
  unfold spec_GirthBound.f girthR
  simp only [spec_l01In.sp, Option.bind_some]
  by_cases h1 : 2 ≤ k ∧ k ≤ 62
  · simp only [h1, and_self, decide_true, if_true, true_and]
    refine Ev.step (fun k => spec_GirthBound.j0.eq_2 ..) ?_
    by_cases h2 : 3 ≤ d ∧ d ≤ 62
    · simp only [h2, and_self, decide_true, Bool.not_true, Bool.false_eq_true, if_false, if_true]
      refine Ev.bind (spec_l02Bound.ev k d (by omega) (by omega) (by omega) (by omega)) ?_
      rw [spec_l02Told.sp]
      exact Ev.now _
    · simp only [h2, decide_false, Bool.not_false, if_true, if_false]
      exact Ev.now _
  · simp only [h1, decide_false, Bool.false_eq_true, if_false]
    refine Ev.step (fun k => spec_GirthBound.j0.eq_2 ..) ?_
    simp only [if_true]
    rw [if_neg (by omega)]
    exact Ev.now _
theorem impl_GirthBound.ev (k d : Int) : Ev (fun q => impl_GirthBound.f q k d) (girthR k d) := by
  unfold impl_GirthBound.f girthR
  by_cases h1 : k < 2
  · simp only [if_pos h1]
    refine Ev.step (fun k => impl_GirthBound.j0.eq_2 ..) ?_
    simp only [if_true]; rw [if_neg (by omega)]; exact Ev.now _
  by_cases h2 : k > 62
  · simp only [if_neg h1, if_pos h2]
    refine Ev.step (fun k => impl_GirthBound.j0.eq_2 ..) ?_
    simp only [if_true]; rw [if_neg (by omega)]; exact Ev.now _
  by_cases h3 : d < 3
  · simp only [if_neg h1, if_neg h2, if_pos h3]
    refine Ev.step (fun k => impl_GirthBound.j0.eq_2 ..) ?_
    simp only [if_true]; rw [if_neg (by omega)]; exact Ev.now _
  simp only [if_neg h1, if_neg h2, if_neg h3]
  refine Ev.step (fun k => impl_GirthBound.j0.eq_2 ..) ?_
  by_cases h4 : d > 62
  · simp only [decide_eq_true_eq, if_pos h4]; rw [if_neg (by omega)]; exact Ev.now _
  · simp only [decide_eq_true_eq, if_neg h4]
    refine Ev.bind (impl_girthBound.ev k d (by omega) (by omega) (by omega) (by omega)) ?_
    rw [impl_limited.sp, if_pos (by omega)]
    exact Ev.now _
theorem FnExactGirthBound : laws_FnExactGirthBound.Pure := by
  intro k d _ _
  refine Ev.rounds (g := fun q => laws_FnExactGirthBound.f q k d) ?_
  unfold laws_FnExactGirthBound.f
  refine Ev.bind (spec_GirthBound.ev k d) ?_
  refine Ev.bind (impl_GirthBound.ev k d) ?_
  simp only [if_true]
  exact Ev.now _

end Go.Proofs.Ytpnofgcgdebncaa.Pure
