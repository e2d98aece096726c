/- The pure statement of FnExactSecondsOf: seconds are counted alike. No condition. -/
import Derived.Test.YtehflacblgliiaaF7
import Derived.Test.YtehflacblgliiaaQDays
namespace Go.Proofs.Ytehflacblgliiaa.Pure
set_option linter.unusedVariables false
set_option linter.unusedSimpArgs false
open Go.RowKit Go.Proofs.Ytehflacblgliiaa.F Go.Proofs.Ytehflacblgliiaa.Q Go.Proofs.YtehflacblgliiaaPl Go.Proofs.YtehflacblgliiaaW.PrintWords
theorem FnExactSecondsOf : laws_FnExactSecondsOf.Pure := by
  intro y m d h i s _ _ _ _ _ _
  apply Ev.rounds
  unfold laws_FnExactSecondsOf.f laws_toDate.f spec_SecondsOf.f impl_SecondsOf.f
  simp only [good_impl, good_spec, Option.bind_some]
  cases hg : goodDate y m d h i s with
  | false => exact Ev.some (by simp)
  | true =>
    simp only [if_true]
    obtain ⟨r, _, _, i1, i2⟩ := days_both y m d (.inr ⟨h, i, s, hg⟩)
    unfold spec_l2Seconds.f
    exact Ev.bind (Ev.bind (Ev.bind i1 (Ev.now _)) (Ev.now _)) (Ev.bind (Ev.bind i2 (Ev.now _)) (Ev.some (by simp)))
end Go.Proofs.Ytehflacblgliiaa.Pure
