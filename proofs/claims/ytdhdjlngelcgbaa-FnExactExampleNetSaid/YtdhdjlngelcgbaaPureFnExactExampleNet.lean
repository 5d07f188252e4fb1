/- The program's ExampleNet returns what the reference's returns: for every number. -/
import Derived.Test.YtdhdjlngelcgbaaPFnExactExampleNetx2
import Derived.Test.YtdhdjlngelcgbaaBase
namespace Go.Proofs.Ytdhdjlngelcgbaa.Pure
open Go.RowKit Go.Proofs.Ytdhdjlngelcgbaa.Base Go.Proofs.Ytdhdjlngelcgbaa.PFnExactExampleNet Go.Proofs.YtdhdjlngelcgbaaW.PrintWords Go.Proofs.YtdhdjlngelcgbaaW.PrintLast
set_option linter.unusedVariables false
set_option linter.unusedSimpArgs false
/-! ### law_FnExactExampleNet -/
theorem exampleNet_one : laws_FnExactExampleNet.f 20 1 = some true := by decide +kernel
theorem exampleNet_two : laws_FnExactExampleNet.f 20 2 = some true := by decide +kernel
theorem exampleNet_three : laws_FnExactExampleNet.f 20 3 = some true := by decide +kernel
theorem exampleNet_zero : laws_FnExactExampleNet.f 20 0 = some true := by decide +kernel
theorem FnExactExampleNet : laws_FnExactExampleNet.Pure := by
  intro a _
  refine ⟨20, ?_⟩
  by_cases h1 : a = 1
  · subst h1
    exact exampleNet_one
  by_cases h2 : a = 2
  · subst h2
    exact exampleNet_two
  by_cases h3 : a = 3
  · subst h3
    exact exampleNet_three
  have e1 : spec_ExampleNet.f a = spec_ExampleNet.f 0 := by simp [spec_ExampleNet.f, h1, h2, h3]
  have e2 : impl_ExampleNet.f a = impl_ExampleNet.f 0 := by simp [impl_ExampleNet.f, h1, h2, h3]
  have e3 : laws_FnExactExampleNet.f 20 a = laws_FnExactExampleNet.f 20 0 := by
    unfold laws_FnExactExampleNet.f
    rw [e1, e2]
  rw [e3]
  exact exampleNet_zero
end Go.Proofs.Ytdhdjlngelcgbaa.Pure
