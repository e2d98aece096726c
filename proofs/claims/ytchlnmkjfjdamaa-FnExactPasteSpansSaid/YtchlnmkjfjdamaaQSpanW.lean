/- Spans within so many bytes: the reference's and the program's tests are one. No condition. -/
import Derived.Test.YtchlnmkjfjdamaaF1
import Derived.Test.YtchlnmkjfjdamaaQSpans
namespace Go.Proofs.Ytchlnmkjfjdamaa.Q
set_option linter.unusedVariables false
set_option linter.unusedSimpArgs false
open Go.RowKit Go.Proofs.Ytchlnmkjfjdamaa.F Go.Proofs.YtchlnmkjfjdamaaHw Go.Proofs.YtchlnmkjfjdamaaPl Go.Proofs.YtchlnmkjfjdamaaW.PrintWords
/-- Spans within so many bytes. -/
theorem within_spec (l : List Sp) (n : Int) (hl : l.length ≤ 1000000000) : Ev (fun k => spec_l6Within.f k l n) ((l.all spanB && decide (l.length ≤ 12)) && l.all fun x => decide (x.f1 ≤ n)) := by
  unfold spec_l6Within.f
  have h := list_all0 l (fun k i => spec_l6Within.l0 k l n l (l.length : Int) i) (fun x => decide (x.f1 ≤ n)) false (l.all spanB && decide (l.length ≤ 12)) ?_ ?_ ?_
  · refine Ev.eq h ?_
    cases l.all (fun x => decide (x.f1 ≤ n)) <;> simp
  · intro i hi hq r hr
    have hq := of_decide_eq_true hq
    refine Ev.step (fun k => rfl) ?_
    simp only [spec_l6Within.l0]
    rw [rd_span l i hi, wrap_succ hi (by omega)]
    exact Ev.pos (by omega) (Ev.pos (by omega) (Ev.pos (by omega) (Ev.neg (by omega) hr)))
  · intro i hi hq
    have hq := of_decide_eq_false hq
    refine Ev.step (fun k => rfl) ?_
    simp only [spec_l6Within.l0]
    rw [rd_span l i hi]
    exact Ev.pos (by omega) (Ev.pos (by omega) (Ev.pos (by omega) (Ev.pos (by omega) (Ev.now _))))
  · refine Ev.step (fun k => rfl) ?_
    simp only [spec_l6Within.l0]
    exact Ev.neg (by omega) (Ev.bind (spans_spec l hl) (Ev.now _))
theorem within_impl (l : List Sp) (n : Int) (hl : l.length ≤ 1000000000) : impl_areIn.f l n = some ((l.all spanB && decide (l.length ≤ 12)) && l.all fun x => decide (x.f1 ≤ n)) := by
  unfold impl_areIn.f
  rw [spans_impl l hl]
  simp only [Option.bind_some]
  cases l.all spanB && decide (l.length ≤ 12) with
  | false => rw [if_neg (by decide)]; simp
  | true => rw [if_pos rfl, if_pos (by omega), allO_all (q := fun x : Sp => decide (x.f1 ≤ n)) (fun x _ => rfl)]; simp
end Go.Proofs.Ytchlnmkjfjdamaa.Q
