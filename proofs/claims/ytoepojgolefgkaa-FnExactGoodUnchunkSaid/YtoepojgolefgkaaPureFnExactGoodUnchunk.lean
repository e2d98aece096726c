/- The pure statement of FnExactGoodUnchunk. No condition. -/
import Derived.Test.YtoepojgolefgkaaF8
import Derived.Test.YtoepojgolefgkaaQUnchunk
namespace Go.Proofs.Ytoepojgolefgkaa.Pure
set_option linter.unusedVariables false
set_option linter.unusedSimpArgs false
open Go.RowKit Go.Proofs.Ytoepojgolefgkaa.F Go.Proofs.Ytoepojgolefgkaa.Q Go.Proofs.YtoepojgolefgkaaHw Go.Proofs.YtoepojgolefgkaaPl Go.Proofs.YtoepojgolefgkaaW.PrintWords
theorem FnExactGoodUnchunk : laws_FnExactGoodUnchunk.Pure := by
  intro b r d w hb hr
  apply Ev.rounds
  unfold laws_FnExactGoodUnchunk.f laws_toUnchunk.f
  obtain ⟨t, e, ht⟩ := sz_unchunk b r d w hb hr
  refine Ev.bnd e ?_
  by_cases h0 : t < 0
  · exact Ev.pos h0 (Ev.now _)
  · refine Ev.neg h0 (Ev.bnd rfl ?_)
    obtain ⟨g, g1, g2, _⟩ := good_eq b r d w (by have := ht h0; omega)
    exact Ev.bind g1 (Ev.bnd rfl (Ev.bind g2 (Ev.neg (by simp) (Ev.now _))))
end Go.Proofs.Ytoepojgolefgkaa.Pure
