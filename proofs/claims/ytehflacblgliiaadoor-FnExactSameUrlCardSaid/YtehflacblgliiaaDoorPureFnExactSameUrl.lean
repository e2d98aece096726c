/- The pure statement of FnExactSameUrl: addresses are held one against the other alike. No condition. -/
import Derived.Test.YtehflacblgliiaaDoorF5
import Derived.Test.YtehflacblgliiaaDoorQNormal
import Derived.Test.YtehflacblgliiaaDoorQSz
namespace Go.Proofs.YtehflacblgliiaaDoor.Pure
set_option linter.unusedVariables false
set_option linter.unusedSimpArgs false
open Go.RowKit Go.Proofs.YtehflacblgliiaaDoor.F Go.Proofs.YtehflacblgliiaaDoor.Q Go.Proofs.YtehflacblgliiaaDoorHw Go.Proofs.YtehflacblgliiaaDoorPl Go.Proofs.YtehflacblgliiaaDoorW.PrintWords
theorem FnExactSameUrl : laws_FnExactSameUrl.Pure := by
  intro a b n c d e a' b' n' c' d' e' ha hb hn hc hd ha' hb' hn' hc' hd'
  apply Ev.rounds
  unfold laws_FnExactSameUrl.f laws_toUrl.f
  obtain ⟨t, et, tx, ht⟩ := sz_url a b n c d e ha hb hc hd 1048576 (by omega) (by omega)
  refine Ev.bnd et ?_
  by_cases h0 : t < 0
  · exact Ev.pos h0 (Ev.now _)
  · obtain ⟨z1, z2, z3, z4⟩ := ht h0
    obtain ⟨u, eu, _, hu⟩ := sz_url a' b' n' c' d' e' ha' hb' hc' hd' t (by omega) tx
    refine Ev.neg h0 (Ev.bnd eu ?_)
    by_cases h1 : u < 0
    · exact Ev.pos h1 (Ev.now _)
    · obtain ⟨y1, y2, y3, y4⟩ := hu h1
      obtain ⟨g, g1, g2, g3⟩ := good_both a b n c d e z1 z2 z3 z4
      obtain ⟨f, f1, f2, f3⟩ := good_both a' b' n' c' d' e' y1 y2 y3 y4
      have main : ∃ (x o : Bool), Ev (fun k => spec_SameUrl.f k a b n c d e a' b' n' c' d' e') (x, o) ∧ Ev (fun k => impl_SameUrl.f k a b n c d e a' b' n' c' d' e') (x, o) := by
        have s0 : Ev (fun k => spec_SameUrl.j0 k true a b n c d e a' b' n' c' d' e') (false, false) := by
          refine Ev.step (fun k => rfl) ?_
          simp only [spec_SameUrl.j0]
          exact Ev.pos (by trivial) (Ev.now _)
        have i0 : Ev (fun k => impl_SameUrl.j0 k true a b n c d e a' b' n' c' d' e') (false, false) := by
          refine Ev.step (fun k => rfl) ?_
          simp only [impl_SameUrl.j0]
          exact Ev.pos (by trivial) (Ev.now _)
        unfold spec_SameUrl.f impl_SameUrl.f
        cases g with
        | false => exact ⟨_, _, Ev.bind g1 (Ev.neg (by decide) s0), Ev.bind g2 (Ev.neg (by decide) i0)⟩
        | true =>
          cases f with
          | false => exact ⟨_, _, Ev.bind g1 (Ev.pos rfl (Ev.bind f1 s0)), Ev.bind g2 (Ev.pos rfl (Ev.bind f2 i0))⟩
          | true =>
            obtain ⟨p1, p2, p3, p4, m1, m2⟩ := normal_eq a b n c d e z2 z3 (g3 rfl).2.1.1 z4
            obtain ⟨q1, q2, q3, q4, k1, k2⟩ := normal_eq a' b' n' c' d' e' y2 y3 (f3 rfl).2.1.1 y4
            have s1 : Ev (fun k => spec_SameUrl.j0 k false a b n c d e a' b' n' c' d' e') ((a.toList == a'.toList && (p1.toList == q1.toList && (p2 == q2 && (p3.toList == q3.toList && (p4.toList == q4.toList && (e == e')))))), true) := by
              refine Ev.step (fun k => rfl) ?_
              simp only [spec_SameUrl.j0]
              exact Ev.neg (by decide) (Ev.bind m1 (Ev.bind k1 (Ev.now _)))
            have i1 : Ev (fun k => impl_SameUrl.j0 k false a b n c d e a' b' n' c' d' e') ((a.toList == a'.toList && (p1.toList == q1.toList && (p2 == q2 && (p3.toList == q3.toList && (p4.toList == q4.toList && (e == e')))))), true) := by
              refine Ev.step (fun k => rfl) ?_
              simp only [impl_SameUrl.j0]
              exact Ev.neg (by decide) (Ev.bind m2 (Ev.bind k2 (Ev.now _)))
            exact ⟨_, _, Ev.bind g1 (Ev.pos rfl (Ev.bind f1 s1)), Ev.bind g2 (Ev.pos rfl (Ev.bind f2 i1))⟩
      obtain ⟨x, o, m1, m2⟩ := main
      exact Ev.neg h1 (Ev.bnd rfl (Ev.bnd rfl (Ev.bind m1 (Ev.bnd rfl (Ev.bnd rfl (Ev.bind m2 (Ev.neg (by simp) (Ev.neg (by simp) (Ev.now _)))))))))
end Go.Proofs.YtehflacblgliiaaDoor.Pure
