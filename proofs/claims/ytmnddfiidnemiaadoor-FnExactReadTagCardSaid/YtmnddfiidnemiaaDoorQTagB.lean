/- Tags: the reference's and the program's tests of a tag's text are one. No condition. -/
import Derived.Test.YtmnddfiidnemiaaDoorF1
import Derived.Test.YtmnddfiidnemiaaDoorPl
namespace Go.Proofs.YtmnddfiidnemiaaDoor.Q
set_option linter.unusedVariables false
set_option linter.unusedSimpArgs false
open Go.RowKit Go.Proofs.YtmnddfiidnemiaaDoor.F Go.Proofs.YtmnddfiidnemiaaDoorHw Go.Proofs.YtmnddfiidnemiaaDoorPl Go.Proofs.YtmnddfiidnemiaaDoorW.PrintWords
def tagByte (c : Int) : Bool := decide (33 ≤ c) && (decide (c ≤ 126) && (decide (c ≠ 34) && decide (c ≠ 92)))
def goodTag (s : ByteArray) : Bool := decide ((s.size : Int) ≤ 60) && (numsOf s).all tagByte
theorem tag_spec (w : Bool) (s : ByteArray) (hs : s.size ≤ 9223372036854775807) : Ev (fun k => spec_l7Tag.f k w s) (goodTag s) := by
  have h := loop_all s (fun k i => spec_l7Tag.l0 k i w s) tagByte false (decide ((s.size : Int) ≤ 60)) ?_ ?_ ?_ s.size 0 (by omega)
  · refine Ev.eq (g := fun k => spec_l7Tag.l0 k ((0 : Nat) : Int) w s) h ?_
    simp only [List.drop_zero, goodTag]
    cases (numsOf s).all tagByte <;> simp
  · intro i hi hq k
    simp only [tagByte, Bool.and_eq_true, decide_eq_true_eq] at hq
    simp only [spec_l7Tag.l0]
    rw [if_pos (by omega), if_pos (by omega), if_neg (by omega), if_neg (by omega), if_neg (by omega), if_neg (by omega), wrap_succ hi hs]
  · intro i hi hq k
    simp only [tagByte, Bool.and_eq_false_iff, decide_eq_false_iff_not] at hq
    simp only [spec_l7Tag.l0]
    rw [if_pos (by omega), if_pos (by omega)]
    by_cases h1 : bt s (i : Int) < 33
    · rw [if_pos h1]
    · rw [if_neg h1]
      by_cases h2 : bt s (i : Int) > 126
      · rw [if_pos h2]
      · rw [if_neg h2]
        by_cases h3 : bt s (i : Int) = 34
        · rw [if_pos h3]
        · rw [if_neg h3, if_pos (by omega)]
  · intro k
    simp only [spec_l7Tag.l0]
    rw [if_neg (by omega)]
theorem tag_impl (w : Bool) (s : ByteArray) (hs : s.size ≤ 9223372036854775807) : impl_isTag.f w s = some (goodTag s) := by
  have h : impl_areBytes_97.f s () = some ((numsOf s).all tagByte) := by
    unfold impl_areBytes_97.f
    rw [if_pos hs]
    refine allO_all (fun x _ => ?_)
    unfold impl_isTag_1.f tagByte
    by_cases h1 : x ≥ 33
    · rw [if_pos h1]
      by_cases h2 : x ≤ 126
      · rw [if_pos h2]
        by_cases h3 : x = 34
        · rw [if_pos h3]; simp [h3]
        · rw [if_neg h3]; simp [h2, h3, show 33 ≤ x from h1, bne_iff_ne]
          by_cases h4 : x = 92 <;> simp [h4]
      · rw [if_neg h2]; simp [h2]
    · rw [if_neg h1]; simp [show ¬ 33 ≤ x from h1]
  unfold impl_isTag.f goodTag
  rw [h]
  by_cases h1 : (s.size : Int) ≤ 60
  · rw [if_pos h1]; simp [h1]
  · rw [if_neg h1]; simp [h1]
end Go.Proofs.YtmnddfiidnemiaaDoor.Q
