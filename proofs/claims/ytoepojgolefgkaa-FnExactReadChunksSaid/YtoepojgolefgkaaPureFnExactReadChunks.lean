/- The pure statement of FnExactReadChunks: chunks are read alike. No condition. -/
import Derived.Test.YtoepojgolefgkaaF8
import Derived.Test.YtoepojgolefgkaaQChunks
namespace Go.Proofs.Ytoepojgolefgkaa.Pure
set_option linter.unusedVariables false
set_option linter.unusedSimpArgs false
open Go.RowKit Go.Proofs.Ytoepojgolefgkaa.F Go.Proofs.Ytoepojgolefgkaa.Q Go.Proofs.YtoepojgolefgkaaHw Go.Proofs.YtoepojgolefgkaaPl Go.Proofs.YtoepojgolefgkaaW.PrintWords
theorem FnExactReadChunks : laws_FnExactReadChunks.Pure := by
  intro s hs
  apply Ev.rounds
  unfold laws_FnExactReadChunks.f spec_ReadChunks.f
  by_cases h0 : (s.size : Int) > 1048576
  · exact Ev.pos h0 (Ev.now _)
  · refine Ev.neg h0 ?_
    obtain ⟨bd, q, c, h1, h2, _⟩ := read_eq s (by omega)
    exact Ev.bind (Ev.bind h1 (Ev.now _)) (Ev.bind h2 (Ev.pos rfl (Ev.pos rfl (Ev.pos rfl (Ev.now _)))))
end Go.Proofs.Ytoepojgolefgkaa.Pure
