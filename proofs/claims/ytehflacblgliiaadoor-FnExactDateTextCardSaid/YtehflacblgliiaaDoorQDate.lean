/- Dates: the reference's and the program's tests of a date are one. No condition. -/
import Derived.Test.YtehflacblgliiaaDoorF1
import Derived.Test.YtehflacblgliiaaDoorF3
import Derived.Test.YtehflacblgliiaaDoorPl
namespace Go.Proofs.YtehflacblgliiaaDoor.Q
set_option linter.unusedVariables false
set_option linter.unusedSimpArgs false
open Go.RowKit Go.Proofs.YtehflacblgliiaaDoor.F Go.Proofs.YtehflacblgliiaaDoorPl Go.Proofs.YtehflacblgliiaaDoorW.PrintWords
theorem in_eq (a b c : Int) : spec_l1In.f a b c = some (decide (b ≤ a) && decide (a ≤ c)) := by
  unfold spec_l1In.f; by_cases h : a ≥ b
  · rw [if_pos h]; simp [show b ≤ a from h]
  · rw [if_neg h]; simp [show ¬ b ≤ a from h]
theorem within_eq (a b c : Int) : impl_within.f a b c = some (decide (b ≤ a) && decide (a ≤ c)) := by
  unfold impl_within.f; by_cases h : b ≤ a
  · rw [if_pos h]; simp [h]
  · rw [if_neg h]; simp [h]
theorem leap_some (y : Int) : ∃ b, impl_isLeap.f y = some b := by
  unfold impl_isLeap.f
  repeat' split
  all_goals exact ⟨_, rfl⟩
theorem leap_eq (y : Int) : spec_l2Leap.f y = impl_isLeap.f y := rfl
theorem long_eq (y m : Int) : spec_l2Long.f y m = impl_monthDays.f y m := rfl
theorem long_some (y m : Int) : ∃ n : Int, impl_monthDays.f y m = some n ∧ 28 ≤ n ∧ n ≤ 31 := by
  unfold impl_monthDays.f
  obtain ⟨b, hb⟩ := leap_some y
  rw [hb]
  simp only [Option.bind_some]
  repeat' split
  all_goals exact ⟨_, rfl, by omega, by omega⟩
def goodDate (y m d h i s : Int) : Bool := (decide (1970 ≤ y) && decide (y ≤ 9999)) && ((decide (1 ≤ m) && decide (m ≤ 12)) && ((match impl_monthDays.f y m with | some n => decide (1 ≤ d) && decide (d ≤ n) | none => false) && ((decide (0 ≤ h) && decide (h ≤ 23)) && ((decide (0 ≤ i) && decide (i ≤ 59)) && (decide (0 ≤ s) && decide (s ≤ 59))))))
theorem good_impl (y m d h i s : Int) : impl_GoodDate.f y m d h i s = some (goodDate y m d h i s) := by
  obtain ⟨n, hn, _⟩ := long_some y m
  unfold impl_GoodDate.f impl_isYear.f goodDate
  simp only [within_eq, hn, Option.bind_some]
  cases decide (1970 ≤ y) && decide (y ≤ 9999) <;> cases decide (1 ≤ m) && decide (m ≤ 12) <;> cases decide (1 ≤ d) && decide (d ≤ n) <;> cases decide (0 ≤ h) && decide (h ≤ 23) <;> cases decide (0 ≤ i) && decide (i ≤ 59) <;> simp
theorem good_spec (y m d h i s : Int) : spec_GoodDate.f y m d h i s = some (goodDate y m d h i s) := by
  obtain ⟨n, hn, _⟩ := long_some y m
  unfold spec_GoodDate.f spec_l2Year.f goodDate
  simp only [in_eq, long_eq, hn, Option.bind_some]
  cases decide (1970 ≤ y) && decide (y ≤ 9999) <;> cases decide (1 ≤ m) && decide (m ≤ 12) <;> cases decide (1 ≤ d) && decide (d ≤ n) <;> cases decide (0 ≤ h) && decide (h ≤ 23) <;> cases decide (0 ≤ i) && decide (i ≤ 59) <;> simp
theorem good_bounds {y m d h i s : Int} (hg : goodDate y m d h i s = true) : 1970 ≤ y ∧ y ≤ 9999 ∧ 1 ≤ m ∧ m ≤ 12 ∧ 1 ≤ d ∧ d ≤ 31 ∧ 0 ≤ h ∧ h ≤ 23 ∧ 0 ≤ i ∧ i ≤ 59 ∧ 0 ≤ s ∧ s ≤ 59 := by
  obtain ⟨n, hn, h1, h2⟩ := long_some y m
  unfold goodDate at hg
  rw [hn] at hg
  simp only [Bool.and_eq_true, decide_eq_true_eq] at hg
  omega
end Go.Proofs.YtehflacblgliiaaDoor.Q
