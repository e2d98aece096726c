/- The pure statement of FnExactJoinSpans: spans are joined alike. No condition. -/
import Derived.Test.YtchlnmkjfjdamaaF2
import Derived.Test.YtchlnmkjfjdamaaQJnB
import Derived.Test.YtchlnmkjfjdamaaQSpanM
namespace Go.Proofs.Ytchlnmkjfjdamaa.Pure
set_option linter.unusedVariables false
set_option linter.unusedSimpArgs false
open Go.RowKit Go.Proofs.Ytchlnmkjfjdamaa.F Go.Proofs.Ytchlnmkjfjdamaa.Q Go.Proofs.YtchlnmkjfjdamaaHw Go.Proofs.YtchlnmkjfjdamaaPl Go.Proofs.YtchlnmkjfjdamaaW.PrintWords
theorem joins_eq (l : List Sp) (g : Int) (hl : l.length ≤ 1000000000) : ∃ (r : List Sp) (o : Bool), r.length ≤ 1000000000 ∧ Ev (fun k => spec_JoinSpans.f k l g) (r, o) ∧ Ev (fun k => impl_JoinSpans.f k l g) (r, o) := by
  unfold spec_JoinSpans.f impl_JoinSpans.f
  have s1 := spans_spec l hl
  have s2 := spans_impl l hl
  have e1 : spec_l1In.f g 0 1000 = some (decide (0 ≤ g) && decide (g ≤ 1000)) := by
    unfold spec_l1In.f
    by_cases h : g ≥ 0
    · rw [if_pos h, decide_eq_true (show 0 ≤ g from h), Bool.true_and]
    · rw [if_neg h, decide_eq_false (show ¬ 0 ≤ g from h), Bool.false_and]
  have e2 : impl_within.f g 0 1000 = some (decide (0 ≤ g) && decide (g ≤ 1000)) := by
    unfold impl_within.f
    by_cases h : 0 ≤ g
    · rw [if_pos h, decide_eq_true h, Bool.true_and]
    · rw [if_neg h, decide_eq_false h, Bool.false_and]
  cases hw : (l.all spanB && decide (l.length ≤ 12)) with
  | false =>
    rw [hw] at s1 s2
    exact ⟨[], false, Nat.zero_le _, Ev.bind s1 (Ev.neg (by decide) (Ev.now _)), Ev.bnd s2 (Ev.neg (by decide) (Ev.now _))⟩
  | true =>
    rw [hw] at s1 s2
    simp only [Bool.and_eq_true, decide_eq_true_eq] at hw
    cases hg : (decide (0 ≤ g) && decide (g ≤ 1000)) with
    | false =>
      rw [hg] at e1 e2
      exact ⟨[], false, Nat.zero_le _, Ev.bind s1 (Ev.pos rfl (Ev.bnd e1 (Ev.neg (by decide) (Ev.now _)))), Ev.bnd s2 (Ev.pos rfl (Ev.bnd e2 (Ev.neg (by decide) (Ev.now _))))⟩
    | true =>
      rw [hg] at e1 e2
      simp only [Bool.and_eq_true, decide_eq_true_eq] at hg
      obtain ⟨L, hL, j1, j2⟩ := join_eq g hg.1 hg.2 l hw.2 hw.1
      exact ⟨L, true, by omega, Ev.bind s1 (Ev.pos rfl (Ev.bnd e1 (Ev.pos rfl (Ev.bind j1 (Ev.now _))))), Ev.bnd s2 (Ev.pos rfl (Ev.bnd e2 (Ev.pos rfl (Ev.bind j2 (Ev.now _)))))⟩
theorem FnExactJoinSpans : laws_FnExactJoinSpans.Pure := by
  intro l g hl hgd hg
  apply Ev.rounds
  unfold laws_FnExactJoinSpans.f
  obtain ⟨t, et, ht⟩ := sz_spans l hl
  refine Ev.bnd et ?_
  by_cases h1 : t < 0
  · exact Ev.pos h1 (Ev.now _)
  have hl6 := ht h1
  have hml : (l.map spOf).length = l.length := List.length_map ..
  have T := to_spans l (by omega)
  obtain ⟨r, o, r0, r1, r2⟩ := joins_eq (l.map spOf) g (by omega)
  have E := eq_spans r r0
  have EX := eq_spans (l.map spOf) (by omega)
  obtain ⟨X, mx1, _⟩ := mark_held (l.map spOf) (by omega)
  obtain ⟨G, m1, m2⟩ := mark_held r r0
  refine Ev.neg h1 (Ev.bind T (Ev.bind r1 (Ev.bind T (Ev.bind r2 (Ev.bind E (Ev.pos rfl ?_))))))
  rw [show (o != o) = false by simp]
  refine Ev.step (fun k => rfl) ?_
  simp only [laws_FnExactJoinSpans.j0]
  refine Ev.neg (by decide) (Ev.bind T (Ev.bind EX (Ev.pos rfl (Ev.bind mx1 (Ev.neg (by omega) (Ev.bind E (Ev.pos rfl ?_)))))))
  rw [show (o != o) = false by simp]
  refine Ev.step (fun k => rfl) ?_
  simp only [laws_FnExactJoinSpans.j1]
  refine Ev.neg (by decide) (Ev.bind m1 (Ev.bind m2 (Ev.neg (by omega) (Ev.pos rfl (Ev.bind T (Ev.bind r2 (Ev.bind E (Ev.pos rfl ?_))))))))
  rw [show (o != o) = false by simp]
  refine Ev.step (fun k => rfl) ?_
  simp only [laws_FnExactJoinSpans.j2]
  exact Ev.neg (by decide) (Ev.bind m2 (Ev.neg (by omega) (Ev.pos rfl (Ev.now _))))
end Go.Proofs.Ytchlnmkjfjdamaa.Pure
