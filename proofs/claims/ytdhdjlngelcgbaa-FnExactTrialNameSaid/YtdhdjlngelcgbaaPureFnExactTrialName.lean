/- The program's TrialName returns what the reference's returns: for every code that a Go int can hold. -/
import Derived.Test.YtdhdjlngelcgbaaPFnExactTrialNamex1
import Derived.Test.YtdhdjlngelcgbaaBase
namespace Go.Proofs.Ytdhdjlngelcgbaa.Pure
open Go.RowKit Go.Proofs.Ytdhdjlngelcgbaa.Base Go.Proofs.Ytdhdjlngelcgbaa.PFnExactTrialName Go.Proofs.YtdhdjlngelcgbaaW.PrintWords Go.Proofs.YtdhdjlngelcgbaaW.PrintLast
set_option linter.unusedVariables false
set_option linter.unusedSimpArgs false
/-! ### small -/
theorem spec_l1In_eq (a b c : Int) : spec_l1In.f a b c = some (decide (b ≤ a ∧ a ≤ c)) := by
  unfold spec_l1In.f
  by_cases h : a ≥ b
  · rw [if_pos h]
    simp [show b ≤ a from h]
  · rw [if_neg h]
    have : ¬ b ≤ a := h
    simp [this]
/-! ### law_FnExactTrialName -/
theorem trialName_one : laws_FnExactTrialName.f 1 = some true := by decide +kernel
theorem trialName_two : laws_FnExactTrialName.f 2 = some true := by decide +kernel
theorem trialName_three : laws_FnExactTrialName.f 3 = some true := by decide +kernel
theorem FnExactTrialName : laws_FnExactTrialName.Pure := by
  intro a _
  by_cases h1 : a = 1
  · subst h1
    exact trialName_one
  by_cases h2 : a = 2
  · subst h2
    exact trialName_two
  by_cases h3 : a = 3
  · subst h3
    exact trialName_three
  unfold laws_FnExactTrialName.f spec_TrialName.f
  rw [spec_l1In_eq]
  have e : decide (1 ≤ a ∧ a ≤ 3) = false := by simp; omega
  rw [e]
  simp [impl_TrialName.f, h1, h2, h3]
end Go.Proofs.Ytdhdjlngelcgbaa.Pure
