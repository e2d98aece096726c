/- Printed texts: the reference's loop and the program's test of all bytes tell one Bool. No condition. -/
import Derived.Test.YtchlnmkjfjdamaaF1
import Derived.Test.YtchlnmkjfjdamaaPl
namespace Go.Proofs.Ytchlnmkjfjdamaa.Q
set_option linter.unusedVariables false
set_option linter.unusedSimpArgs false
open Go.RowKit Go.Proofs.Ytchlnmkjfjdamaa.F Go.Proofs.YtchlnmkjfjdamaaHw Go.Proofs.YtchlnmkjfjdamaaPl Go.Proofs.YtchlnmkjfjdamaaW.PrintWords
def printed (c : Int) : Bool := decide (32 ≤ c) && decide (c ≤ 126)
theorem printed_spec (s : ByteArray) (hs : s.size ≤ 9223372036854775807) : Ev (fun k => spec_l3Printed.f k s) ((numsOf s).all printed) := by
  have h := loop_all s (fun k i => spec_l3Printed.l0 k s i) printed false true ?_ ?_ ?_ s.size 0 (by omega)
  · refine Ev.eq (g := fun k => spec_l3Printed.l0 k s ((0 : Nat) : Int)) h ?_
    simp only [List.drop_zero]
    cases (numsOf s).all printed <;> rfl
  · intro i hi hq k
    simp only [printed, Bool.and_eq_true, decide_eq_true_eq] at hq
    simp only [spec_l3Printed.l0]
    rw [if_pos (by omega), if_pos (by omega), if_neg (by omega), if_neg (by omega), wrap_succ hi hs]
  · intro i hi hq k
    simp only [printed, Bool.and_eq_false_iff, decide_eq_false_iff_not] at hq
    simp only [spec_l3Printed.l0]
    rw [if_pos (by omega), if_pos (by omega)]
    by_cases h1 : bt s (i : Int) < 32
    · rw [if_pos h1]
    · rw [if_neg h1, if_pos (by omega)]
  · intro k
    simp only [spec_l3Printed.l0]
    rw [if_neg (by omega)]
theorem printed_impl (s : ByteArray) (hs : s.size ≤ 9223372036854775807) (n : Int) : impl_isPrinted.f s n = some (decide ((s.size : Int) ≤ n) && (numsOf s).all printed) := by
  have h : impl_areBytes_37.f s () = some ((numsOf s).all printed) := by
    unfold impl_areBytes_37.f
    rw [if_pos hs]
    refine allO_all (fun x _ => ?_)
    unfold impl_isPrinted_1.f printed
    by_cases h1 : x ≥ 32
    · rw [if_pos h1]; simp [show 32 ≤ x from h1]
    · rw [if_neg h1]; simp [show ¬ 32 ≤ x from h1]
  unfold impl_isPrinted.f
  rw [h]
  by_cases h1 : (s.size : Int) ≤ n
  · rw [if_pos h1]; simp [h1]
  · rw [if_neg h1]; simp [h1]
end Go.Proofs.Ytchlnmkjfjdamaa.Q
