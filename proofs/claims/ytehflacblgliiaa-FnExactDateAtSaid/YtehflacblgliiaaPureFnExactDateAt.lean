/- The pure statement of FnExactDateAt: seconds are told as one date. No condition. -/
import Derived.Test.YtehflacblgliiaaF8
import Derived.Test.YtehflacblgliiaaQDateAt
namespace Go.Proofs.Ytehflacblgliiaa.Pure
set_option linter.unusedVariables false
set_option linter.unusedSimpArgs false
open Go.RowKit Go.Proofs.Ytehflacblgliiaa.F Go.Proofs.Ytehflacblgliiaa.Q Go.Proofs.YtehflacblgliiaaPl Go.Proofs.YtehflacblgliiaaW.PrintWords
theorem FnExactDateAt : laws_FnExactDateAt.Pure := by
  intro s _
  apply Ev.rounds
  obtain ⟨r, i1, i2⟩ := date_at s
  unfold laws_FnExactDateAt.f
  refine Ev.bind i1 (Ev.bind i2 (Ev.some ?_))
  simp [laws_eqDate.f]
end Go.Proofs.Ytehflacblgliiaa.Pure
