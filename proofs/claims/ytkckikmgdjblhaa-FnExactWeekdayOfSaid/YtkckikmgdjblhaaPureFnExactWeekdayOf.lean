/- The pure statement of FnExactWeekdayOf: the program and the reference answer alike at every day. No condition. -/
import Derived.Test.YtkckikmgdjblhaaF2
namespace Go.Proofs.Ytkckikmgdjblhaa.Pure
set_option linter.unusedVariables false
set_option linter.unusedSimpArgs false
open Go.RowKit Go.Proofs.Ytkckikmgdjblhaa.F Go.Proofs.YtkckikmgdjblhaaW.PrintWords Go.Proofs.YtkckikmgdjblhaaW.PrintLast
theorem FnExactWeekdayOf : laws_FnExactWeekdayOf.Pure := by
  intro a0 _
  by_cases h1 : (0 : Int) ≤ a0 <;> by_cases h2 : a0 ≤ 2932896 <;>
    simp [laws_FnExactWeekdayOf.f, spec_WeekdayOf.f, impl_WeekdayOf.f, spec_l1In.f, impl_within.f, impl_weekday.f, h1, h2]
end Go.Proofs.Ytkckikmgdjblhaa.Pure
