/- Days: the reference's and the program's counts of days are one. No condition. -/
import Derived.Test.YtehflacblgliiaaDoorF1
import Derived.Test.YtehflacblgliiaaDoorF3
import Derived.Test.YtehflacblgliiaaDoorQDate
namespace Go.Proofs.YtehflacblgliiaaDoor.Q
set_option linter.unusedVariables false
set_option linter.unusedSimpArgs false
open Go.RowKit Go.Proofs.YtehflacblgliiaaDoor.F Go.Proofs.YtehflacblgliiaaDoorPl Go.Proofs.YtehflacblgliiaaDoorW.PrintWords
/-- The days ahead of a year. -/
def ahead (y : Int) : Int := 365 * (y - 1) + (y - 1) / 4 - (y - 1) / 100 + (y - 1) / 400 - 719162
theorem ahead_spec (y : Int) (h0 : 1 ≤ y) (h1 : y ≤ 20000) : spec_l2Ahead.f y = some (ahead y) := by
  have e : wrap64 (y - 1) = y - 1 := wrap_id (by omega) (by omega)
  unfold spec_l2Ahead.f ahead
  rw [e, Int.tdiv_eq_ediv_of_nonneg (by omega), Int.tdiv_eq_ediv_of_nonneg (by omega), Int.tdiv_eq_ediv_of_nonneg (by omega)]
  congr 1
  rw [wrap_id (x := 365 * (y - 1)) (by omega) (by omega), wrap_id (x := (y - 1) / 4) (by omega) (by omega), wrap_id (x := (y - 1) / 100) (by omega) (by omega), wrap_id (x := (y - 1) / 400) (by omega) (by omega)]
  rw [wrap_id (x := 365 * (y - 1) + (y - 1) / 4) (by omega) (by omega), wrap_id (x := 365 * (y - 1) + (y - 1) / 4 - (y - 1) / 100) (by omega) (by omega), wrap_id (x := 365 * (y - 1) + (y - 1) / 4 - (y - 1) / 100 + (y - 1) / 400) (by omega) (by omega), wrap_id (by omega) (by omega)]
theorem ahead_impl (y : Int) (h0 : 1 ≤ y) (h1 : y ≤ 20000) : impl_yearDays.f y = some (ahead y) := by
  have e : wrap64 (y - 1) = y - 1 := wrap_id (by omega) (by omega)
  have c : impl_yearDays_1.f 1969 = some 477 := by decide +kernel
  have d : impl_yearDays_1.f (y - 1) = some ((y - 1) / 4 - (y - 1) / 100 + (y - 1) / 400) := by
    unfold impl_yearDays_1.f
    rw [Int.tdiv_eq_ediv_of_nonneg (by omega), Int.tdiv_eq_ediv_of_nonneg (by omega), Int.tdiv_eq_ediv_of_nonneg (by omega)]
    congr 1
    rw [wrap_id (x := (y - 1) / 4) (by omega) (by omega), wrap_id (x := (y - 1) / 100) (by omega) (by omega), wrap_id (x := (y - 1) / 400) (by omega) (by omega)]
    rw [wrap_id (x := (y - 1) / 4 - (y - 1) / 100) (by omega) (by omega), wrap_id (by omega) (by omega)]
  unfold impl_yearDays.f ahead
  rw [e, d, c]
  simp only [Option.bind_some]
  congr 1
  rw [wrap_id (x := y - 1970) (by omega) (by omega), wrap_id (x := 365 * (y - 1970)) (by omega) (by omega)]
  rw [wrap_id (x := 365 * (y - 1970) + ((y - 1) / 4 - (y - 1) / 100 + (y - 1) / 400)) (by omega) (by omega), wrap_id (by omega) (by omega)]
  omega
theorem days_loop (y m d : Int) (hy : 0 ≤ y) (hm : m ≤ 12) (hd0 : 1 ≤ d) (hd : d ≤ 31) : ∀ (n : Nat) (j acc : Int), 1 ≤ j → j ≤ 12 → m - j ≤ n → -8000000 ≤ acc → acc ≤ 8000000 + 31 * j →
    ∃ r : Int, -8000000 ≤ r ∧ r ≤ 9000000 ∧ Ev (fun k => spec_l2Days.l0 k y m d acc j) r ∧ Ev (fun k => impl_daysOf.l0 k y m (acc + d - 1) j) r := by
  intro n
  induction n with
  | zero =>
    intro j acc hj h12 hn h0 h1
    refine ⟨acc + d - 1, by omega, by omega, Ev.step (fun k => ?_) (Ev.now _), Ev.step (fun k => ?_) (Ev.now _)⟩
    · simp only [spec_l2Days.l0]
      rw [if_neg (by omega), wrap_id (x := acc + d) (by omega) (by omega), wrap_id (by omega) (by omega)]
    · simp only [impl_daysOf.l0]
      rw [if_neg (by omega)]
  | succ n ih =>
    intro j acc hj h12 hn h0 h1
    by_cases hlt : j < m
    · obtain ⟨q, hq, q1, q2⟩ := long_some y j
      obtain ⟨r, r0, r1, i1, i2⟩ := ih (j + 1) (acc + q) (by omega) (by omega) (by omega) (by omega) (by omega)
      refine ⟨r, r0, r1, Ev.step (fun k => ?_) i1, Ev.step (fun k => ?_) i2⟩
      · simp only [spec_l2Days.l0]
        rw [if_pos hlt, long_eq, hq]
        simp only [Option.bind_some]
        rw [wrap_id (x := acc + q) (by omega) (by omega), wrap_id (x := j + 1) (by omega) (by omega)]
      · simp only [impl_daysOf.l0]
        rw [if_pos hlt, hq]
        simp only [Option.bind_some]
        rw [wrap_id (x := acc + d - 1 + q) (by omega) (by omega), wrap_id (x := j + 1) (by omega) (by omega), show acc + d - 1 + q = acc + q + d - 1 by omega]
    · refine ⟨acc + d - 1, by omega, by omega, Ev.step (fun k => ?_) (Ev.now _), Ev.step (fun k => ?_) (Ev.now _)⟩
      · simp only [spec_l2Days.l0]
        rw [if_neg (by omega), wrap_id (x := acc + d) (by omega) (by omega), wrap_id (by omega) (by omega)]
      · simp only [impl_daysOf.l0]
        rw [if_neg (by omega)]
theorem days_both (y m d : Int) (hg : goodDate y m d 0 0 0 = true ∨ ∃ h i s, goodDate y m d h i s = true) : ∃ r : Int, -8000000 ≤ r ∧ r ≤ 9000000 ∧ Ev (fun k => spec_l2Days.f k y m d) r ∧ Ev (fun k => impl_daysOf.f k y m d) r := by
  have hb : 1970 ≤ y ∧ y ≤ 9999 ∧ 1 ≤ m ∧ m ≤ 12 ∧ 1 ≤ d ∧ d ≤ 31 := by
    rcases hg with hg | ⟨h, i, s, hg⟩
    · have := good_bounds hg; omega
    · have := good_bounds hg; omega
  have ha : -3000000 ≤ ahead y ∧ ahead y ≤ 5000000 := by unfold ahead; omega
  obtain ⟨r, r0, r1, i1, i2⟩ := days_loop y m d (by omega) (by omega) (by omega) (by omega) 12 1 (ahead y) (by omega) (by omega) (by omega) (by omega) (by omega)
  refine ⟨r, r0, r1, ?_, ?_⟩
  · unfold spec_l2Days.f
    exact Ev.bnd (ahead_spec y (by omega) (by omega)) i1
  · unfold impl_daysOf.f
    refine Ev.bnd (ahead_impl y (by omega) (by omega)) ?_
    rw [wrap_id (x := ahead y + d) (by omega) (by omega), wrap_id (x := ahead y + d - 1) (by omega) (by omega)]
    exact i2
end Go.Proofs.YtehflacblgliiaaDoor.Q
