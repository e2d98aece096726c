/- The pure statement of FnExactGoodField. No condition. -/
import Derived.Test.YtmnddfiidnemiaaDoorF1
import Derived.Test.YtmnddfiidnemiaaDoorQGoodF
namespace Go.Proofs.YtmnddfiidnemiaaDoor.Pure
set_option linter.unusedVariables false
set_option linter.unusedSimpArgs false
open Go.RowKit Go.Proofs.YtmnddfiidnemiaaDoor.F Go.Proofs.YtmnddfiidnemiaaDoor.Q Go.Proofs.YtmnddfiidnemiaaDoorHw Go.Proofs.YtmnddfiidnemiaaDoorPl Go.Proofs.YtmnddfiidnemiaaDoorW.PrintWords
theorem FnExactGoodField : laws_FnExactGoodField.Pure := by
  intro a b ha hb
  apply Ev.rounds
  unfold laws_FnExactGoodField.f
  obtain ⟨t, e, _, h3⟩ := sz_field a b 1048576 ha hb (by omega) (by omega)
  refine Ev.bnd e ?_
  by_cases ht : t < 0
  · exact Ev.pos ht (Ev.now _)
  · refine Ev.neg ht (Ev.bnd rfl (Ev.bind (good_spec a b ha hb) (Ev.bnd rfl (Ev.bnd (good_impl a b ha hb) (Ev.neg ?_ (Ev.now _))))))
    cases fieldB a b <;> exact Bool.false_ne_true
end Go.Proofs.YtmnddfiidnemiaaDoor.Pure
