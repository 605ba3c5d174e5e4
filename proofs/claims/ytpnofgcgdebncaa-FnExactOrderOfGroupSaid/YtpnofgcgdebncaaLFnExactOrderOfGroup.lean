/- What the functions that FnExactOrderOfGroup reaches compute. -/
import Derived.Test.YtpnofgcgdebncaaPFnExactOrderOfGroupx0
import Derived.Test.YtpnofgcgdebncaaPFnExactOrderOfGroupx1
import Derived.Test.YtpnofgcgdebncaaGr
namespace Go.Proofs.Ytpnofgcgdebncaa.PFnExactOrderOfGroup
open Go.RowKit Go.Proofs.YtpnofgcgdebncaaW.PrintWords Go.Proofs.YtpnofgcgdebncaaW.PrintLast Go.Proofs.Ytpnofgcgdebncaa.B
open Classical
set_option linter.unusedVariables false
set_option linter.unusedSimpArgs false

theorem spec_l01In.sp (a b c : Int) : spec_l01In.f a b c = some (decide (b ≤ a ∧ a ≤ c)) := by
  unfold spec_l01In.f
  by_cases h : b ≤ a <;> simp [h]

theorem isGroup_both (a b : Int) : ∃ r : Bool, spec_l05Is.f a b = some r ∧ impl_IsGroup.f a b = some r ∧ (r = true → a = 0 ∨ a = 1 ∨ a = 2) := by
  unfold spec_l05Is.f impl_IsGroup.f spec_l05Prime.f impl_isPrime.f
  simp only [spec_l01In.sp, Option.bind_some]
  by_cases h0 : a = 0
  · simp only [if_pos h0]
    refine ⟨_, rfl, ?_, fun _ => .inl h0⟩
    by_cases c : b ≥ 1
    · rw [if_pos c]
      have : (1 ≤ b ∧ b ≤ 62) ↔ b ≤ 62 := by omega
      simp only [this]
    · rw [if_neg c, decide_eq_false (by omega)]
  by_cases h1 : a = 1
  · simp only [if_neg h0, if_pos h1]
    refine ⟨_, rfl, ?_, fun _ => .inr (.inl h1)⟩
    by_cases c : b ≥ 1
    · rw [if_pos c]
      have : (1 ≤ b ∧ b ≤ 31) ↔ b ≤ 31 := by omega
      simp only [this]
    · rw [if_neg c, decide_eq_false (by omega)]
  by_cases h2 : a = 2
  · simp only [if_neg h0, if_neg h1, if_pos h2]
    by_cases c2 : b = 2
    · exact ⟨true, by simp [c2], by simp [c2], fun _ => .inr (.inr h2)⟩
    by_cases c3 : b = 3
    · exact ⟨true, by simp [c3], by simp [c3], fun _ => .inr (.inr h2)⟩
    by_cases c5 : b = 5
    · exact ⟨true, by simp [c5], by simp [c5], fun _ => .inr (.inr h2)⟩
    · exact ⟨b == 7, by simp [c2, c3, c5], by simp [c2, c3, c5], fun _ => .inr (.inr h2)⟩
  · exact ⟨false, by simp [h0, h1, h2], by simp [h0, h1, h2], fun h => by cases h⟩

end Go.Proofs.Ytpnofgcgdebncaa.PFnExactOrderOfGroup
