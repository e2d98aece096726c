/- The pure statement of FnExactTagText: a tag is told alike. No condition. -/
import Derived.Test.YtkckikmgdjblhaaF15
import Derived.Test.YtkckikmgdjblhaaQTag
import Derived.Test.YtkckikmgdjblhaaQTagText
namespace Go.Proofs.Ytkckikmgdjblhaa.Pure
set_option linter.unusedVariables false
set_option linter.unusedSimpArgs false
open Go.RowKit Go.Proofs.Ytkckikmgdjblhaa.F Go.Proofs.Ytkckikmgdjblhaa.Q Go.Proofs.YtkckikmgdjblhaaHw Go.Proofs.YtkckikmgdjblhaaPl Go.Proofs.YtkckikmgdjblhaaW.PrintWords
theorem FnExactTagText : laws_FnExactTagText.Pure := by
  intro v s hs
  apply Ev.rounds
  unfold laws_FnExactTagText.f laws_toTag.f spec_TagText.f impl_TagText.f
  refine Ev.bnd (szTag_eq v s 1048576 hs (by omega) (by omega)) ?_
  by_cases h0 : 1048576 - (s.size : Int) < 0
  · rw [if_pos h0]; exact Ev.pos (by decide) (Ev.now _)
  · rw [if_neg h0]
    refine Ev.neg (by omega) ?_
    simp only [Option.bind_some, tag_impl v s hs, text_impl v s (by omega), text_spec v s (by omega)]
    have a := tag_spec v s hs
    cases h2 : goodTag s with
    | false =>
      rw [h2] at a
      exact Ev.bind (Ev.bind a (Ev.neg (by decide) (Ev.now _))) (Ev.some (by simp))
    | true =>
      rw [h2] at a
      exact Ev.bind (Ev.bind a (Ev.pos rfl (Ev.now _))) (Ev.some (by simp))
end Go.Proofs.Ytkckikmgdjblhaa.Pure
