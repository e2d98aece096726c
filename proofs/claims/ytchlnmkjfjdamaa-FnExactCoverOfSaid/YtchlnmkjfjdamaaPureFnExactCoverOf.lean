/- The pure statement of FnExactCoverOf: bytes in spans are counted alike. No condition. -/
import Derived.Test.YtchlnmkjfjdamaaF2
import Derived.Test.YtchlnmkjfjdamaaQJnB
namespace Go.Proofs.Ytchlnmkjfjdamaa.Pure
set_option linter.unusedVariables false
set_option linter.unusedSimpArgs false
open Go.RowKit Go.Proofs.Ytchlnmkjfjdamaa.F Go.Proofs.Ytchlnmkjfjdamaa.Q Go.Proofs.YtchlnmkjfjdamaaHw Go.Proofs.YtchlnmkjfjdamaaPl Go.Proofs.YtchlnmkjfjdamaaW.PrintWords
theorem sum_loop (L : List Sp) (hL : L.length ≤ 12) : ∀ (d i : Nat) (x : Int), i + d = L.length →
    ∃ r : Int × Bool, Ev (fun k => spec_CoverOf.l0 k x L (L.length : Int) (i : Int)) r ∧ Ev (fun k => impl_CoverOf.l0 k x L (L.length : Int) (i : Int)) r := by
  intro d
  induction d with
  | zero =>
    intro i x hi
    refine ⟨(x, true), Ev.step (fun k => rfl) ?_, Ev.step (fun k => rfl) ?_⟩
    · simp only [spec_CoverOf.l0]; exact Ev.neg (by omega) (Ev.now _)
    · simp only [impl_CoverOf.l0]; exact Ev.neg (by omega) (Ev.now _)
  | succ d ih =>
    intro i x hi
    have hlt : i < L.length := by omega
    obtain ⟨r, r1, r2⟩ := ih (i + 1) (wrap64 (x + wrap64 (L[i].f1 - L[i].f0))) (by omega)
    refine ⟨r, Ev.step (fun k => rfl) ?_, Ev.step (fun k => rfl) ?_⟩
    · simp only [spec_CoverOf.l0]
      rw [rd_span L i hlt, wrap_succ hlt (by omega)]
      exact Ev.pos (Int.ofNat_lt.2 hlt) (Ev.pos (Int.natCast_nonneg i) (Ev.pos (Int.ofNat_lt.2 hlt) r1))
    · simp only [impl_CoverOf.l0]
      rw [rd_span L i hlt, wrap_succ hlt (by omega)]
      exact Ev.pos (Int.ofNat_lt.2 hlt) (Ev.pos (Int.natCast_nonneg i) (Ev.pos (Int.ofNat_lt.2 hlt) r2))
theorem cover_eq (l : List Sp) (hl : l.length ≤ 1000000000) : ∃ r : Int × Bool, Ev (fun k => spec_CoverOf.f k l) r ∧ Ev (fun k => impl_CoverOf.f k l) r := by
  unfold spec_CoverOf.f impl_CoverOf.f
  have s1 := spans_spec l hl
  have s2 := spans_impl l hl
  cases hw : (l.all spanB && decide (l.length ≤ 12)) with
  | false =>
    rw [hw] at s1 s2
    exact ⟨(0, false), Ev.bind s1 (Ev.neg (by decide) (Ev.now _)), Ev.bnd s2 (Ev.neg (by decide) (Ev.now _))⟩
  | true =>
    rw [hw] at s1 s2
    simp only [Bool.and_eq_true, decide_eq_true_eq] at hw
    obtain ⟨L, hL, j1, j2⟩ := join_eq 0 (by omega) (by omega) l hw.2 hw.1
    obtain ⟨r, r1, r2⟩ := sum_loop L hL L.length 0 0 (by omega)
    exact ⟨r, Ev.bind s1 (Ev.pos rfl (Ev.bind j1 r1)), Ev.bnd s2 (Ev.pos rfl (Ev.bind j2 r2))⟩
theorem FnExactCoverOf : laws_FnExactCoverOf.Pure := by
  intro l hl hg
  apply Ev.rounds
  unfold laws_FnExactCoverOf.f
  obtain ⟨t, et, ht⟩ := sz_spans l hl
  refine Ev.bnd et ?_
  by_cases h1 : t < 0
  · exact Ev.pos h1 (Ev.now _)
  have hl6 := ht h1
  have hml : (l.map spOf).length = l.length := List.length_map ..
  have T := to_spans l (by omega)
  obtain ⟨r, r1, r2⟩ := cover_eq (l.map spOf) (by omega)
  have E1 := eq_spans (l.map spOf) (by omega)
  refine Ev.neg h1 (Ev.bind T (Ev.bind r1 (Ev.bind T (Ev.bind r2 (Ev.pos rfl ?_)))))
  rw [show (r.2 != r.2) = false by simp]
  refine Ev.step (fun k => rfl) ?_
  simp only [laws_FnExactCoverOf.j0]
  exact Ev.neg (by decide) (Ev.bind T (Ev.bind E1 (Ev.pos rfl (Ev.now _))))
end Go.Proofs.Ytchlnmkjfjdamaa.Pure
