/- The pure statement of FnExactCutSpans: spans are cut alike. No condition. -/
import Derived.Test.YtoepojgolefgkaaF5
import Derived.Test.YtoepojgolefgkaaQSpan
import Derived.Test.YtoepojgolefgkaaQMark
namespace Go.Proofs.Ytoepojgolefgkaa.Pure
set_option linter.unusedVariables false
set_option linter.unusedSimpArgs false
open Go.RowKit Go.Proofs.Ytoepojgolefgkaa.F Go.Proofs.Ytoepojgolefgkaa.Q Go.Proofs.YtoepojgolefgkaaHw Go.Proofs.YtoepojgolefgkaaPl Go.Proofs.YtoepojgolefgkaaW.PrintWords
theorem cut_loop (s : ByteArray) (l : List Sp) (hs : s.size ≤ 300) (hl : l.length ≤ 12) (h1 : l.all spanB = true) (h2 : (l.all fun x => decide (x.f1 ≤ (s.size : Int))) = true) : ∀ (d i : Nat) (g : List ByteArray), i + d = l.length → g.length = i →
    ∃ r : List ByteArray, r.length = l.length ∧ Ev (fun k => spec_CutSpans.l0 k s g l (l.length : Int) (i : Int)) (r, true) ∧ Ev (fun k => impl_CutSpans.l0 k s g l (l.length : Int) (i : Int)) (r, true) := by
  intro d
  induction d with
  | zero =>
    intro i g hi hg
    refine ⟨g, by omega, Ev.step (fun k => rfl) ?_, Ev.step (fun k => rfl) ?_⟩
    · simp only [spec_CutSpans.l0]; exact Ev.neg (by omega) (Ev.now _)
    · simp only [impl_CutSpans.l0]; exact Ev.neg (by omega) (Ev.now _)
  | succ d ih =>
    intro i g hi hg
    have hlt : i < l.length := by omega
    have a1 := List.all_eq_true.1 h1 l[i] (List.getElem_mem hlt)
    have a2 := of_decide_eq_true (List.all_eq_true.1 h2 l[i] (List.getElem_mem hlt))
    unfold spanB at a1
    simp only [Bool.and_eq_true, decide_eq_true_eq] at a1
    obtain ⟨b1, b2, b3⟩ := a1
    obtain ⟨r, r0, r1, r2⟩ := ih (i + 1) (g ++ [s.extract (l[i].f0).toNat (l[i].f1).toNat]) (by omega) (by simp [hg])
    refine ⟨r, r0, Ev.step (fun k => rfl) ?_, Ev.step (fun k => rfl) ?_⟩
    · simp only [spec_CutSpans.l0]
      rw [rd_span l i hlt, wrap_succ hlt (by omega)]
      exact Ev.pos (by omega) (Ev.pos (by omega) (Ev.pos (by omega) (Ev.pos b1 (Ev.pos (by omega) (Ev.pos a2 (Ev.pos (by omega) r1))))))
    · simp only [impl_CutSpans.l0]
      rw [rd_span l i hlt, wrap_succ hlt (by omega)]
      exact Ev.pos (by omega) (Ev.pos (by omega) (Ev.pos (by omega) (Ev.pos b1 (Ev.pos (by omega) (Ev.pos a2 (Ev.pos (by omega) r2))))))
theorem cut_eq (s : ByteArray) (l : List Sp) (hl : l.length ≤ 1000000000) : ∃ (r : List ByteArray) (o : Bool), r.length ≤ 1000000000 ∧ Ev (fun k => spec_CutSpans.f k s l) (r, o) ∧ Ev (fun k => impl_CutSpans.f k s l) (r, o) := by
  have s0 : Ev (fun k => spec_CutSpans.j0 k s l true) ([], false) := by
    refine Ev.step (fun k => rfl) ?_
    simp only [spec_CutSpans.j0]
    exact Ev.pos (by trivial) (Ev.now _)
  have i0 : Ev (fun k => impl_CutSpans.j0 k s l true) ([], false) := by
    refine Ev.step (fun k => rfl) ?_
    simp only [impl_CutSpans.j0]
    exact Ev.pos (by trivial) (Ev.now _)
  unfold spec_CutSpans.f impl_CutSpans.f
  by_cases h0 : (s.size : Int) > 300
  · exact ⟨[], false, Nat.zero_le _, Ev.pos h0 s0, Ev.pos h0 i0⟩
  · have w1 := within_spec l (s.size : Int) hl
    have w2 := within_impl l (s.size : Int) hl
    cases hw : ((l.all spanB && decide (l.length ≤ 12)) && l.all fun x => decide (x.f1 ≤ (s.size : Int))) with
    | false =>
      rw [hw] at w1 w2
      exact ⟨[], false, Nat.zero_le _, Ev.neg h0 (Ev.bind w1 s0), Ev.neg h0 (Ev.bnd w2 i0)⟩
    | true =>
      rw [hw] at w1 w2
      simp only [Bool.and_eq_true, decide_eq_true_eq] at hw
      obtain ⟨r, r0, r1, r2⟩ := cut_loop s l (by omega) hw.1.2 hw.1.1 hw.2 l.length 0 [] (by omega) rfl
      refine ⟨r, true, by omega, Ev.neg h0 (Ev.bind w1 (Ev.step (fun k => rfl) ?_)), Ev.neg h0 (Ev.bnd w2 (Ev.step (fun k => rfl) ?_))⟩
      · simp only [spec_CutSpans.j0]
        exact Ev.neg (by decide) r1
      · simp only [impl_CutSpans.j0]
        exact Ev.neg (by decide) r2
theorem FnExactCutSpans : laws_FnExactCutSpans.Pure := by
  intro s l hs hl hg
  apply Ev.rounds
  unfold laws_FnExactCutSpans.f
  by_cases h0 : (s.size : Int) > 1048576
  · exact Ev.pos h0 (Ev.now _)
  refine Ev.neg h0 ?_
  obtain ⟨t, et, ht⟩ := sz_spans l hl
  refine Ev.bnd et ?_
  by_cases h1 : t < 0
  · exact Ev.pos h1 (Ev.now _)
  have hl6 := ht h1
  have hml : (l.map spOf).length = l.length := List.length_map ..
  have T := to_spans l (by omega)
  obtain ⟨g, o, g0, g1, g2⟩ := cut_eq s (l.map spOf) (by omega)
  have E := eq_strings g g0
  have EX := eq_spans (l.map spOf) (by omega)
  obtain ⟨L, hm⟩ := mark_spans (l.map spOf) (by omega)
  obtain ⟨G, m1, m2⟩ := mark_strings g g0
  refine Ev.neg h1 (Ev.bind T (Ev.bind g1 (Ev.bind T (Ev.bind g2 (Ev.bind E (Ev.pos rfl ?_))))))
  rw [show (o != o) = false by simp]
  refine Ev.step (fun k => rfl) ?_
  simp only [laws_FnExactCutSpans.j0]
  refine Ev.neg (by decide) (Ev.bind T (Ev.bind EX (Ev.pos rfl (Ev.bind hm (Ev.neg (by omega) (Ev.bind E (Ev.pos rfl ?_)))))))
  rw [show (o != o) = false by simp]
  refine Ev.step (fun k => rfl) ?_
  simp only [laws_FnExactCutSpans.j1]
  refine Ev.neg (by decide) (Ev.bind m1 (Ev.bind m2 (Ev.neg (by omega) (Ev.pos rfl (Ev.bind T (Ev.bind g2 (Ev.bind E (Ev.pos rfl ?_))))))))
  rw [show (o != o) = false by simp]
  refine Ev.step (fun k => rfl) ?_
  simp only [laws_FnExactCutSpans.j2]
  exact Ev.neg (by decide) (Ev.bind m2 (Ev.neg (by omega) (Ev.pos rfl (Ev.now _))))
end Go.Proofs.Ytoepojgolefgkaa.Pure
