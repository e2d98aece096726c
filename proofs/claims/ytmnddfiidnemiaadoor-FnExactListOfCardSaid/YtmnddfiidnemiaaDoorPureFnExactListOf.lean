/- The pure statement of FnExactListOf: the parts of a list are told alike. No condition. -/
import Derived.Test.YtmnddfiidnemiaaDoorF2
import Derived.Test.YtmnddfiidnemiaaDoorQListOk
import Derived.Test.YtmnddfiidnemiaaDoorQMark
namespace Go.Proofs.YtmnddfiidnemiaaDoor.Pure
set_option linter.unusedVariables false
set_option linter.unusedSimpArgs false
open Go.RowKit Go.Proofs.YtmnddfiidnemiaaDoor.F Go.Proofs.YtmnddfiidnemiaaDoor.Q Go.Proofs.YtmnddfiidnemiaaDoorHw Go.Proofs.YtmnddfiidnemiaaDoorPl Go.Proofs.YtmnddfiidnemiaaDoorW.PrintWords
theorem FnExactListOf : laws_FnExactListOf.Pure := by
  intro s hs
  apply Ev.rounds
  unfold laws_FnExactListOf.f
  by_cases h0 : (s.size : Int) > 1048576
  · exact Ev.pos h0 (Ev.now _)
  obtain ⟨g, o, g0, _, g1, g2⟩ := listOf_both s (by omega)
  have E := eq_strings g (by omega)
  obtain ⟨G, m1, m2⟩ := mark_strings g (by omega)
  refine Ev.neg h0 (Ev.bind g1 (Ev.bind g2 (Ev.bind E (Ev.pos rfl ?_))))
  rw [show (o != o) = false by simp]
  refine Ev.step (fun k => rfl) ?_
  simp only [laws_FnExactListOf.j0]
  refine Ev.neg (by decide) (Ev.bind m1 (Ev.bind m2 (Ev.neg (by omega) (Ev.pos rfl (Ev.bind g2 (Ev.bind E (Ev.pos rfl ?_)))))))
  rw [show (o != o) = false by simp]
  refine Ev.step (fun k => rfl) ?_
  simp only [laws_FnExactListOf.j1]
  exact Ev.neg (by decide) (Ev.bind m2 (Ev.neg (by omega) (Ev.pos rfl (Ev.now _))))
end Go.Proofs.YtmnddfiidnemiaaDoor.Pure
