/- Spans: the reference's and the program's tests are one; rows of spans copied, held, marked. No condition. -/
import Derived.Test.YtchlnmkjfjdamaaF1
import Derived.Test.YtchlnmkjfjdamaaQList
namespace Go.Proofs.Ytchlnmkjfjdamaa.Q
set_option linter.unusedVariables false
set_option linter.unusedSimpArgs false
open Go.RowKit Go.Proofs.Ytchlnmkjfjdamaa.F Go.Proofs.YtchlnmkjfjdamaaHw Go.Proofs.YtchlnmkjfjdamaaPl Go.Proofs.YtchlnmkjfjdamaaW.PrintWords
abbrev Sp : Type := S48
abbrev LSp : Type := S50
def spanB (x : Sp) : Bool := decide (0 ≤ x.f0) && (decide (x.f0 < x.f1) && decide (x.f1 ≤ 1000000))
theorem span_spec (x : Sp) : spec_l6Span.f x.f0 x.f1 = some (spanB x) := by
  unfold spec_l6Span.f spanB
  by_cases h1 : x.f0 ≥ 0
  · rw [if_pos h1, decide_eq_true (show 0 ≤ x.f0 from h1)]
    by_cases h2 : x.f0 < x.f1
    · rw [if_pos h2, decide_eq_true h2]; rfl
    · rw [if_neg h2, decide_eq_false h2]; rfl
  · rw [if_neg h1, decide_eq_false (show ¬ 0 ≤ x.f0 from h1)]; rfl
theorem span_impl (x : Sp) : impl_isSpan.f x.f0 x.f1 = some (spanB x) := by
  unfold impl_isSpan.f spanB
  by_cases h1 : x.f0 ≥ 0
  · rw [if_pos h1, decide_eq_true (show 0 ≤ x.f0 from h1)]
    by_cases h2 : x.f0 < x.f1
    · rw [if_pos h2, decide_eq_true h2]; rfl
    · rw [if_neg h2, decide_eq_false h2]; rfl
  · rw [if_neg h1, decide_eq_false (show ¬ 0 ≤ x.f0 from h1)]; rfl
theorem rd_span (l : List Sp) (i : Nat) (h : i < l.length) : rd_T48 l (i : Int) = l[i] := by
  unfold rd_T48
  rw [Int.toNat_natCast, List.getD_eq_getElem?_getD, List.getElem?_eq_getElem h]
  rfl
theorem rd_lspan (l : List LSp) (i : Nat) (h : i < l.length) : rd_T50 l (i : Int) = l[i] := by
  unfold rd_T50
  rw [Int.toNat_natCast, List.getD_eq_getElem?_getD, List.getElem?_eq_getElem h]
  rfl
theorem spans_spec (l : List Sp) (hl : l.length ≤ 1000000000) : Ev (fun k => spec_l6Spans.f k l) (l.all spanB && decide (l.length ≤ 12)) := by
  unfold spec_l6Spans.f
  have h := list_all0 l (fun k i => spec_l6Spans.l0 k l l (l.length : Int) i) spanB false (decide (l.length ≤ 12)) ?_ ?_ ?_
  · refine Ev.eq h ?_
    cases l.all spanB <;> rfl
  · intro i hi hq r hr
    refine Ev.step (fun k => rfl) ?_
    simp only [spec_l6Spans.l0]
    rw [rd_span l i hi, span_spec, hq, wrap_succ hi (by omega)]
    exact Ev.pos (by omega) (Ev.pos (by omega) (Ev.pos (by omega) (Ev.bnd rfl (Ev.pos rfl hr))))
  · intro i hi hq
    refine Ev.step (fun k => rfl) ?_
    simp only [spec_l6Spans.l0]
    rw [rd_span l i hi, span_spec, hq]
    exact Ev.pos (by omega) (Ev.pos (by omega) (Ev.pos (by omega) (Ev.bnd rfl (Ev.neg (by decide) (Ev.now _)))))
  · refine Ev.step (fun k => rfl) ?_
    simp only [spec_l6Spans.l0]
    refine Ev.neg (by omega) (Ev.eq (Ev.now _) ?_)
    rw [Bool.eq_iff_iff, decide_eq_true_iff, decide_eq_true_iff]
    omega
theorem spans_impl (l : List Sp) (hl : l.length ≤ 1000000000) : impl_areSpans.f l = some (l.all spanB && decide (l.length ≤ 12)) := by
  unfold impl_areSpans.f impl_Span_38_47.f
  by_cases h : (l.length : Int) ≤ 12
  · rw [if_pos h, if_pos (by omega), allO_all (fun x _ => span_impl x), decide_eq_true (show l.length ≤ 12 by omega), Bool.and_true]
    rfl
  · rw [if_neg h, decide_eq_false (show ¬ l.length ≤ 12 by omega), Bool.and_false]
/-- A row copied. -/
def spOf (x : LSp) : Sp := ⟨x.f0, x.f1⟩
theorem to_spans (l : List LSp) (hl : l.length ≤ 1000000000) : Ev (fun k => laws_toSpanS.f k l) (l.map spOf) := by
  have M : ∀ (d i : Nat) (x : List Sp), i + d = l.length → x.length = l.length → (∀ j, j < i → x[j]? = (l.map spOf)[j]?) → Ev (fun k => laws_toSpanS.l0 k l x (i : Int)) (l.map spOf) := by
    intro d
    induction d with
    | zero =>
      intro i x hi hx hj
      obtain rfl : i = l.length := by omega
      have : x = l.map spOf := List.ext_getElem? (fun j => by
        by_cases h : j < l.length
        · exact hj j h
        · rw [List.getElem?_eq_none (by omega), List.getElem?_eq_none (by rw [List.length_map]; omega)])
      subst this
      refine Ev.step (fun k => rfl) ?_
      simp only [laws_toSpanS.l0]
      exact Ev.neg (by omega) (Ev.now _)
    | succ d ih =>
      intro i x hi hx hj
      have hlt : i < l.length := by omega
      refine Ev.step (fun k => rfl) ?_
      simp only [laws_toSpanS.l0, Int.toNat_natCast]
      rw [rd_lspan l i hlt, wrap_succ hlt (by omega)]
      refine Ev.pos (by omega) (Ev.pos (by omega) (Ev.bnd (a := (l[i].f0, l[i].f1)) (by unfold laws_toSpan.f; rfl) (Ev.pos (by omega) (ih (i + 1) _ (by omega) (by rw [List.length_set]; exact hx) (fun j hlt2 => ?_)))))
      by_cases e : j = i
      · subst e
        rw [List.getElem?_set_self (by omega), List.getElem?_map, List.getElem?_eq_getElem hlt]
        rfl
      · rw [List.getElem?_set_ne (by omega)]
        exact hj j (by omega)
  unfold laws_toSpanS.f
  exact Ev.pos (by omega) (Ev.pos (by omega) (M l.length 0 _ (by omega) (by rw [List.length_replicate]; omega) (fun j h => by omega)))
theorem eq_spans (l : List Sp) (hl : l.length ≤ 1000000000) : Ev (fun k => laws_eqSpanS.f k l l) true := by
  unfold laws_eqSpanS.f
  refine Ev.pos rfl (go_to (fun k i => laws_eqSpanS.l0 k l l i) l.length true ?_ l.length 0 (by omega) (fun j _ hj h => ?_))
  · refine Ev.step (fun k => rfl) ?_
    simp only [laws_eqSpanS.l0]
    exact Ev.neg (by omega) (Ev.now _)
  · refine Ev.step (fun k => rfl) ?_
    simp only [laws_eqSpanS.l0]
    rw [wrap_succ hj (by omega)]
    exact Ev.pos (by omega) (Ev.pos (by omega) (Ev.pos (by omega) (Ev.bnd (a := true) (by unfold laws_eqSpan.f; rw [if_pos rfl, if_pos rfl]) (Ev.pos rfl h))))
theorem sz_spans (l : List LSp) (hl : l.length ≤ 9223372036854775807) : ∃ t : Int, laws_szSpanS.f l 1048576 = some t ∧ (¬ t < 0 → l.length ≤ 1048576) := by
  unfold laws_szSpanS.f
  have e : wrap64 (1048576 - (l.length : Int)) = 1048576 - (l.length : Int) := wrap_id (by omega) (by omega)
  rw [e]
  by_cases h : 1048576 - (l.length : Int) < 0
  · rw [if_pos h]; exact ⟨-1, rfl, fun h => absurd (by decide) h⟩
  · rw [if_neg h]; exact ⟨_, rfl, fun _ => by omega⟩
end Go.Proofs.Ytchlnmkjfjdamaa.Q
