/- The pure statement of FnExactUrlText: addresses are written alike. No condition. -/
import Derived.Test.YtehflacblgliiaaDoorF9
import Derived.Test.YtehflacblgliiaaDoorQGood
namespace Go.Proofs.YtehflacblgliiaaDoor.Pure
set_option linter.unusedVariables false
set_option linter.unusedSimpArgs false
open Go.RowKit Go.Proofs.YtehflacblgliiaaDoor.F Go.Proofs.YtehflacblgliiaaDoor.Q Go.Proofs.YtehflacblgliiaaDoorHw Go.Proofs.YtehflacblgliiaaDoorPl Go.Proofs.YtehflacblgliiaaDoorW.PrintWords
theorem FnExactUrlText : laws_FnExactUrlText.Pure := by
  intro a b n c d e ha hb hn hc hd
  apply Ev.rounds
  unfold laws_FnExactUrlText.f laws_toUrl.f
  obtain ⟨t, et, _, ht⟩ := sz_url a b n c d e ha hb hc hd 1048576 (by omega) (by omega)
  refine Ev.bnd et ?_
  by_cases h0 : t < 0
  · exact Ev.pos h0 (Ev.now _)
  · obtain ⟨z1, z2, z3, z4⟩ := ht h0
    obtain ⟨g, g1, g2, g3⟩ := good_both a b n c d e z1 z2 z3 z4
    have main : ∃ (x : ByteArray) (o : Bool), Ev (fun k => spec_UrlText.f k a b n c d e) (x, o) ∧ Ev (fun k => impl_UrlText.f k a b n c d e) (x, o) := by
      unfold spec_UrlText.f impl_UrlText.f
      cases g with
      | false => exact ⟨_, _, Ev.bind g1 (Ev.neg (by decide) (Ev.now _)), Ev.bind g2 (Ev.neg (by decide) (Ev.now _))⟩
      | true =>
        obtain ⟨⟨n0, n1⟩, _⟩ := g3 rfl
        obtain ⟨x, x1, x2, _⟩ := text_both a b n c d e z1 z2 n0 (by omega) z3 z4
        exact ⟨x, true, Ev.bind g1 (Ev.pos rfl (Ev.bind x1 (Ev.now _))), Ev.bind g2 (Ev.pos rfl (Ev.bnd x2 (Ev.now _)))⟩
    obtain ⟨x, o, m1, m2⟩ := main
    exact Ev.neg h0 (Ev.bnd rfl (Ev.bind m1 (Ev.bnd rfl (Ev.bind m2 (Ev.pos rfl (Ev.neg (by simp) (Ev.now _)))))))
end Go.Proofs.YtehflacblgliiaaDoor.Pure
