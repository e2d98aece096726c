/- The pure statement of FnExactDateText. No condition. -/
import Derived.Test.YtehflacblgliiaaDoorF4
import Derived.Test.YtehflacblgliiaaDoorQDateText
namespace Go.Proofs.YtehflacblgliiaaDoor.Pure
set_option linter.unusedVariables false
set_option linter.unusedSimpArgs false
open Go.RowKit Go.Proofs.YtehflacblgliiaaDoor.F Go.Proofs.YtehflacblgliiaaDoor.Q Go.Proofs.YtehflacblgliiaaDoorHw Go.Proofs.YtehflacblgliiaaDoorPl Go.Proofs.YtehflacblgliiaaDoorW.PrintWords
theorem FnExactDateText : laws_FnExactDateText.Pure := by
  intro y m d h i s _ _ _ _ _ _
  apply Ev.rounds
  have H : ∃ r : ByteArray × Bool, Ev (fun k => spec_DateText.f k y m d h i s) r ∧ Ev (fun k => impl_DateText.f k y m d h i s) r := by
    unfold spec_DateText.f impl_DateText.f
    cases hg : goodDate y m d h i s with
    | true =>
      obtain ⟨T, a, b⟩ := text_both y m d h i s hg
      refine ⟨(T, true), ?_, ?_⟩
      · refine Ev.bnd ((good_spec y m d h i s).trans (by rw [hg])) (Ev.pos rfl ?_)
        exact Ev.bind a (Ev.now _)
      · refine Ev.bnd ((good_impl y m d h i s).trans (by rw [hg])) (Ev.pos rfl ?_)
        exact Ev.bind b (Ev.now _)
    | false =>
      refine ⟨((⟨#[]⟩ : ByteArray), false), ?_, ?_⟩
      · refine Ev.bnd ((good_spec y m d h i s).trans (by rw [hg])) (Ev.neg Bool.false_ne_true ?_)
        exact Ev.now _
      · refine Ev.bnd ((good_impl y m d h i s).trans (by rw [hg])) (Ev.neg Bool.false_ne_true ?_)
        exact Ev.now _
  obtain ⟨r, h1, h2⟩ := H
  unfold laws_FnExactDateText.f
  refine Ev.bnd rfl (Ev.bind h1 (Ev.bnd rfl (Ev.bind h2 (Ev.pos rfl (Ev.neg ?_ (Ev.now _))))))
  obtain ⟨a, b⟩ := r
  cases b <;> exact Bool.false_ne_true
end Go.Proofs.YtehflacblgliiaaDoor.Pure
