/- The pure statement of FnExactNormalUrl: addresses are told in one way alike. No condition. -/
import Derived.Test.YtehflacblgliiaaDoorF4
import Derived.Test.YtehflacblgliiaaDoorQNormal
import Derived.Test.YtehflacblgliiaaDoorQSz
namespace Go.Proofs.YtehflacblgliiaaDoor.Pure
set_option linter.unusedVariables false
set_option linter.unusedSimpArgs false
open Go.RowKit Go.Proofs.YtehflacblgliiaaDoor.F Go.Proofs.YtehflacblgliiaaDoor.Q Go.Proofs.YtehflacblgliiaaDoorHw Go.Proofs.YtehflacblgliiaaDoorPl Go.Proofs.YtehflacblgliiaaDoorW.PrintWords
theorem eq_url_same (a b : ByteArray) (n : Int) (c d : ByteArray) (e : Bool) : laws_eqUrl.f a b n c d e a b n c d e = some true := by
  unfold laws_eqUrl.f
  rw [if_pos rfl, if_pos rfl, if_pos rfl, if_pos rfl, if_pos rfl, if_neg (by simp)]
theorem FnExactNormalUrl : laws_FnExactNormalUrl.Pure := by
  intro a b n c d e ha hb hn hc hd
  apply Ev.rounds
  unfold laws_FnExactNormalUrl.f laws_toUrl.f
  obtain ⟨t, et, _, ht⟩ := sz_url a b n c d e ha hb hc hd 1048576 (by omega) (by omega)
  refine Ev.bnd et ?_
  by_cases h0 : t < 0
  · exact Ev.pos h0 (Ev.now _)
  · obtain ⟨z1, z2, z3, z4⟩ := ht h0
    obtain ⟨g, g1, g2, g3⟩ := good_both a b n c d e z1 z2 z3 z4
    have main : ∃ (x1 x2 : ByteArray) (x3 : Int) (x4 x5 : ByteArray) (x6 o : Bool), Ev (fun k => spec_NormalUrl.f k a b n c d e) (x1, x2, x3, x4, x5, x6, o) ∧ Ev (fun k => impl_NormalUrl.f k a b n c d e) (x1, x2, x3, x4, x5, x6, o) := by
      unfold spec_NormalUrl.f impl_NormalUrl.f
      cases g with
      | false => exact ⟨_, _, _, _, _, _, _, Ev.bind g1 (Ev.neg (by decide) (Ev.now _)), Ev.bind g2 (Ev.neg (by decide) (Ev.now _))⟩
      | true =>
        obtain ⟨b', n', c', d', m1, m2⟩ := normal_eq a b n c d e z2 z3 (g3 rfl).2.1.1 z4
        exact ⟨_, _, _, _, _, _, _, Ev.bind g1 (Ev.pos rfl (Ev.bind m1 (Ev.now _))), Ev.bind g2 (Ev.pos rfl (Ev.bind m2 (Ev.now _)))⟩
    obtain ⟨x1, x2, x3, x4, x5, x6, o, m1, m2⟩ := main
    exact Ev.neg h0 (Ev.bnd rfl (Ev.bind m1 (Ev.bnd rfl (Ev.bind m2 (Ev.bnd (eq_url_same x1 x2 x3 x4 x5 x6) (Ev.pos rfl (Ev.neg (by simp) (Ev.now _))))))))
end Go.Proofs.YtehflacblgliiaaDoor.Pure
