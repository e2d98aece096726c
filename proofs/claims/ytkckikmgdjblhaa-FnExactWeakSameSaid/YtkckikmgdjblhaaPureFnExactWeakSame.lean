/- The pure statement of FnExactWeakSame: two tags are told apart alike. No condition. -/
import Derived.Test.YtkckikmgdjblhaaF13
import Derived.Test.YtkckikmgdjblhaaQTag
namespace Go.Proofs.Ytkckikmgdjblhaa.Pure
set_option linter.unusedVariables false
set_option linter.unusedSimpArgs false
open Go.RowKit Go.Proofs.Ytkckikmgdjblhaa.F Go.Proofs.Ytkckikmgdjblhaa.Q Go.Proofs.YtkckikmgdjblhaaHw Go.Proofs.YtkckikmgdjblhaaPl Go.Proofs.YtkckikmgdjblhaaW.PrintWords
theorem FnExactWeakSame : laws_FnExactWeakSame.Pure := by
  intro v s w t hs ht
  apply Ev.rounds
  unfold laws_FnExactWeakSame.f laws_toTag.f spec_WeakSame.f impl_WeakSame.f impl_weakSame.f
  refine Ev.bnd (szTag_eq v s 1048576 hs (by omega) (by omega)) ?_
  by_cases h0 : 1048576 - (s.size : Int) < 0
  · rw [if_pos h0]; exact Ev.pos (by decide) (Ev.now _)
  · rw [if_neg h0]
    refine Ev.neg (by omega) (Ev.bnd (szTag_eq w t _ ht (by omega) (by omega)) ?_)
    by_cases h1 : 1048576 - (s.size : Int) - (t.size : Int) < 0
    · rw [if_pos h1]; exact Ev.pos (by decide) (Ev.now _)
    · rw [if_neg h1]
      refine Ev.neg (by omega) ?_
      simp only [Option.bind_some, tag_impl v s hs, tag_impl w t ht]
      have a := tag_spec v s hs
      have b := tag_spec w t ht
      cases h2 : goodTag s with
      | false =>
        rw [h2] at a
        exact Ev.bind (a := (false, false)) (Ev.bind a (Ev.neg (by decide) (Ev.now _))) (Ev.some (by simp))
      | true =>
        rw [h2] at a
        cases h3 : goodTag t with
        | false =>
          rw [h3] at b
          exact Ev.bind (a := (false, false)) (Ev.bind a (Ev.pos rfl (Ev.bind b (Ev.neg (by decide) (Ev.now _))))) (Ev.some (by simp))
        | true =>
          rw [h3] at b
          exact Ev.bind (Ev.bind a (Ev.pos rfl (Ev.bind b (Ev.pos rfl (Ev.now _))))) (Ev.some (by simp))
end Go.Proofs.Ytkckikmgdjblhaa.Pure
