/- The pure statement of FnExactGoodUrl: addresses are judged alike. No condition. -/
import Derived.Test.YtehflacblgliiaaDoorF8
import Derived.Test.YtehflacblgliiaaDoorQGood
namespace Go.Proofs.YtehflacblgliiaaDoor.Pure
set_option linter.unusedVariables false
set_option linter.unusedSimpArgs false
open Go.RowKit Go.Proofs.YtehflacblgliiaaDoor.F Go.Proofs.YtehflacblgliiaaDoor.Q Go.Proofs.YtehflacblgliiaaDoorHw Go.Proofs.YtehflacblgliiaaDoorPl Go.Proofs.YtehflacblgliiaaDoorW.PrintWords
theorem FnExactGoodUrl : laws_FnExactGoodUrl.Pure := by
  intro a b n c d e ha hb hn hc hd
  apply Ev.rounds
  unfold laws_FnExactGoodUrl.f laws_toUrl.f
  obtain ⟨t, et, _, ht⟩ := sz_url a b n c d e ha hb hc hd 1048576 (by omega) (by omega)
  refine Ev.bnd et ?_
  by_cases h0 : t < 0
  · exact Ev.pos h0 (Ev.now _)
  · obtain ⟨z1, z2, z3, z4⟩ := ht h0
    obtain ⟨g, g1, g2, _⟩ := good_both a b n c d e z1 z2 z3 z4
    exact Ev.neg h0 (Ev.bnd rfl (Ev.bind g1 (Ev.bnd rfl (Ev.bind g2 (Ev.neg (by simp) (Ev.now _))))))
end Go.Proofs.YtehflacblgliiaaDoor.Pure
