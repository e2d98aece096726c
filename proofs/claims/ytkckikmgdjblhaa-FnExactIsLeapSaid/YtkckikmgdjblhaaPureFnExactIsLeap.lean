/- The pure statement of FnExactIsLeap: the program and the reference answer alike at every year. No condition. -/
import Derived.Test.YtkckikmgdjblhaaF2
namespace Go.Proofs.Ytkckikmgdjblhaa.Pure
set_option linter.unusedVariables false
set_option linter.unusedSimpArgs false
open Go.RowKit Go.Proofs.Ytkckikmgdjblhaa.F Go.Proofs.YtkckikmgdjblhaaW.PrintWords Go.Proofs.YtkckikmgdjblhaaW.PrintLast
theorem FnExactIsLeap : laws_FnExactIsLeap.Pure := by
  intro a0 _
  have e : spec_l2Leap.f a0 = impl_isLeap.f a0 := rfl
  have ht : ∃ b, impl_isLeap.f a0 = some b := by unfold impl_isLeap.f; repeat' split
                                                 all_goals exact ⟨_, rfl⟩
  obtain ⟨b, hb⟩ := ht
  rw [hb] at e
  by_cases h1 : (1970 : Int) ≤ a0 <;> by_cases h2 : a0 ≤ 9999 <;>
    simp [laws_FnExactIsLeap.f, spec_IsLeap.f, impl_IsLeap.f, spec_l2Year.f, impl_isYear.f, spec_l1In.f, impl_within.f, e, hb, h1, h2]
end Go.Proofs.Ytkckikmgdjblhaa.Pure
