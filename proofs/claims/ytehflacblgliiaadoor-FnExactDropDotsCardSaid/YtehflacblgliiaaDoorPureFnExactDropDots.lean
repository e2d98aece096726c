/- The pure statement of FnExactDropDots: dots are dropped alike. No condition. -/
import Derived.Test.YtehflacblgliiaaDoorF11
import Derived.Test.YtehflacblgliiaaDoorQDots
import Derived.Test.YtehflacblgliiaaDoorQGood
namespace Go.Proofs.YtehflacblgliiaaDoor.Pure
set_option linter.unusedVariables false
set_option linter.unusedSimpArgs false
open Go.RowKit Go.Proofs.YtehflacblgliiaaDoor.F Go.Proofs.YtehflacblgliiaaDoor.Q Go.Proofs.YtehflacblgliiaaDoorHw Go.Proofs.YtehflacblgliiaaDoorPl Go.Proofs.YtehflacblgliiaaDoorW.PrintWords
theorem FnExactDropDots : laws_FnExactDropDots.Pure := by
  intro s hs
  apply Ev.rounds
  unfold laws_FnExactDropDots.f
  by_cases h0 : (s.size : Int) > 1048576
  · exact Ev.pos h0 (Ev.now _)
  refine Ev.neg h0 ?_
  have main : ∃ (x : ByteArray) (o : Bool), Ev (fun k => spec_DropDots.f k s) (x, o) ∧ Ev (fun k => impl_DropDots.f k s) (x, o) := by
    unfold spec_DropDots.f impl_DropDots.f
    have hp := prefix_one s (by omega)
    by_cases h1 : s.toList = ([] : List UInt8)
    · have hz : s.size = 0 := by
        rw [ByteArray.toList_eq] at h1
        have := congrArg List.length h1
        rw [Array.length_toList] at this
        exact this
      rw [decide_eq_false (show ¬ 1 ≤ s.size by omega), Bool.false_and] at hp
      exact ⟨_, _, Ev.pos h1 (Ev.now _), Ev.bnd hp (Ev.neg (by decide) (Ev.now _))⟩
    · have hz : 1 ≤ s.size := by
        rcases Nat.eq_zero_or_pos s.size with h | h
        · exfalso
          apply h1
          rw [ByteArray.toList_eq]
          apply List.eq_nil_of_length_eq_zero
          rw [Array.length_toList]; exact h
        · exact h
      rw [decide_eq_true hz, Bool.true_and] at hp
      by_cases h2 : bt s 0 = 47
      · rw [decide_eq_true h2] at hp
        by_cases h3 : (s.size : Int) > 200
        · exact ⟨_, _, Ev.neg h1 (Ev.pos (by omega) (Ev.pos h2 (Ev.pos h3 (Ev.now _)))), Ev.bnd hp (Ev.pos rfl (Ev.pos h3 (Ev.now _)))⟩
        · obtain ⟨r, r1, r2, _⟩ := dots_eq s hz (by omega)
          exact ⟨_, _, Ev.neg h1 (Ev.pos (by omega) (Ev.pos h2 (Ev.neg h3 (Ev.bind r1 (Ev.now _))))), Ev.bnd hp (Ev.pos rfl (Ev.neg h3 (Ev.bind r2 (Ev.now _))))⟩
      · rw [decide_eq_false h2] at hp
        exact ⟨_, _, Ev.neg h1 (Ev.pos (by omega) (Ev.neg h2 (Ev.now _))), Ev.bnd hp (Ev.neg (by decide) (Ev.now _))⟩
  obtain ⟨x, o, m1, m2⟩ := main
  exact Ev.bind m1 (Ev.bind m2 (Ev.pos rfl (Ev.neg (by simp) (Ev.now _))))
end Go.Proofs.YtehflacblgliiaaDoor.Pure
