/- The pure statement of FnExactDaysOf: days are counted alike. No condition. -/
import Derived.Test.YtkckikmgdjblhaaF15
import Derived.Test.YtkckikmgdjblhaaQDays
namespace Go.Proofs.Ytkckikmgdjblhaa.Pure
set_option linter.unusedVariables false
set_option linter.unusedSimpArgs false
open Go.RowKit Go.Proofs.Ytkckikmgdjblhaa.F Go.Proofs.Ytkckikmgdjblhaa.Q Go.Proofs.YtkckikmgdjblhaaPl Go.Proofs.YtkckikmgdjblhaaW.PrintWords
theorem FnExactDaysOf : laws_FnExactDaysOf.Pure := by
  intro y m d _ _ _
  apply Ev.rounds
  unfold laws_FnExactDaysOf.f spec_DaysOf.f impl_DaysOf.f
  simp only [good_impl, good_spec, Option.bind_some]
  cases hg : goodDate y m d 0 0 0 with
  | false => exact Ev.some (by simp)
  | true =>
    simp only [if_true]
    obtain ⟨r, _, _, i1, i2⟩ := days_both y m d (.inl hg)
    exact Ev.bind (Ev.bind i1 (Ev.now _)) (Ev.bind (Ev.bind i2 (Ev.now _)) (Ev.some (by simp)))
end Go.Proofs.Ytkckikmgdjblhaa.Pure
