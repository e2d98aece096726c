/- The pure statement of FnExactGoodDate. No condition. -/
import Derived.Test.YtkckikmgdjblhaaF6
import Derived.Test.YtkckikmgdjblhaaQDate
namespace Go.Proofs.Ytkckikmgdjblhaa.Pure
set_option linter.unusedVariables false
set_option linter.unusedSimpArgs false
open Go.RowKit Go.Proofs.Ytkckikmgdjblhaa.F Go.Proofs.Ytkckikmgdjblhaa.Q
theorem FnExactGoodDate : laws_FnExactGoodDate.Pure := by
  intro a b c d e f _ _ _ _ _ _
  unfold laws_FnExactGoodDate.f laws_toDate.f
  simp only [good_impl, good_spec, Option.bind_some, bne_self_eq_false]
  rfl
end Go.Proofs.Ytkckikmgdjblhaa.Pure
