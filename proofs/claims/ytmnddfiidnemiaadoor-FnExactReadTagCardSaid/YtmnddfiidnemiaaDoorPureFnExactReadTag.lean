/- The pure statement of FnExactReadTag: a tag is read alike. No condition. -/
import Derived.Test.YtmnddfiidnemiaaDoorF1
import Derived.Test.YtmnddfiidnemiaaDoorQReadTag
namespace Go.Proofs.YtmnddfiidnemiaaDoor.Pure
set_option linter.unusedVariables false
set_option linter.unusedSimpArgs false
open Go.RowKit Go.Proofs.YtmnddfiidnemiaaDoor.F Go.Proofs.YtmnddfiidnemiaaDoor.Q Go.Proofs.YtmnddfiidnemiaaDoorHw Go.Proofs.YtmnddfiidnemiaaDoorPl Go.Proofs.YtmnddfiidnemiaaDoorW.PrintWords
theorem FnExactReadTag : laws_FnExactReadTag.Pure := by
  intro s hs
  apply Ev.rounds
  unfold laws_FnExactReadTag.f
  by_cases h0 : (s.size : Int) > 1048576
  · exact Ev.pos h0 (Ev.now _)
  obtain ⟨r, g1, g2⟩ := read_both s (by omega)
  have g3 : Ev (fun k => spec_ReadTag.f k s) (r.1, r.2.1, r.2.2) := by
    unfold spec_ReadTag.f
    exact Ev.bind g1 (Ev.now _)
  obtain ⟨a, b, c⟩ := r
  refine Ev.neg h0 (Ev.bind g3 (Ev.bnd g2 (Ev.bnd (a := true) ?_ (Ev.pos rfl (Ev.neg ?_ (Ev.now _))))))
  · unfold laws_eqTag.f
    rw [show (a != a) = false by simp, if_neg Bool.false_ne_true, if_pos rfl]
  · show ¬ (c != c) = true
    simp
end Go.Proofs.YtmnddfiidnemiaaDoor.Pure
