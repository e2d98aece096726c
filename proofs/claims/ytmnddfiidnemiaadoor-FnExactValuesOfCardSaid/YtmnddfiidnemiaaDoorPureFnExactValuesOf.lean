/- The pure statement of FnExactValuesOf: the fields with a name are told alike. No condition. -/
import Derived.Test.YtmnddfiidnemiaaDoorF3
import Derived.Test.YtmnddfiidnemiaaDoorQValues
import Derived.Test.YtmnddfiidnemiaaDoorQMarkF
namespace Go.Proofs.YtmnddfiidnemiaaDoor.Pure
set_option linter.unusedVariables false
set_option linter.unusedSimpArgs false
open Go.RowKit Go.Proofs.YtmnddfiidnemiaaDoor.F Go.Proofs.YtmnddfiidnemiaaDoor.Q Go.Proofs.YtmnddfiidnemiaaDoorHw Go.Proofs.YtmnddfiidnemiaaDoorPl Go.Proofs.YtmnddfiidnemiaaDoorW.PrintWords
theorem FnExactValuesOf : laws_FnExactValuesOf.Pure := by
  intro l s hl hg hs
  apply Ev.rounds
  unfold laws_FnExactValuesOf.f
  by_cases h0 : (s.size : Int) > 1048576
  · exact Ev.pos h0 (Ev.now _)
  refine Ev.neg h0 ?_
  obtain ⟨t, et, _, ht⟩ := sz_fields l hl hg 1048576 (by omega) (by omega)
  refine Ev.bind et ?_
  by_cases h1 : t < 0
  · exact Ev.pos h1 (Ev.now _)
  have hS := ht h1
  have hml : (l.map fdOf).length = l.length := List.length_map ..
  have hL := hS.1
  have T := to_fields l (by omega)
  obtain ⟨g1, g2⟩ := values_both (l.map fdOf) hS s (by omega)
  have g0 := valuesR_length (l.map fdOf) s hS
  generalize hr : valuesR (l.map fdOf) s = r at g0 g1 g2
  obtain ⟨g, o⟩ := r
  have g0 : g.length ≤ 1048576 := g0
  have E := eq_strings g (by omega)
  have EX := eq_fields (l.map fdOf) (by omega)
  obtain ⟨L, _, hm, _⟩ := mark_fields (l.map fdOf) (by omega)
  obtain ⟨G, m1, m2⟩ := mark_strings g (by omega)
  refine Ev.neg h1 (Ev.bind T (Ev.bind g1 (Ev.bind T (Ev.bind g2 (Ev.bind E (Ev.pos rfl ?_))))))
  rw [show (o != o) = false by simp]
  refine Ev.step (fun k => rfl) ?_
  simp only [laws_FnExactValuesOf.j0]
  refine Ev.neg (by decide) (Ev.bind T (Ev.bind EX (Ev.pos rfl (Ev.bind hm (Ev.neg (by omega) (Ev.bind E (Ev.pos rfl ?_)))))))
  rw [show (o != o) = false by simp]
  refine Ev.step (fun k => rfl) ?_
  simp only [laws_FnExactValuesOf.j1]
  refine Ev.neg (by decide) (Ev.bind m1 (Ev.bind m2 (Ev.neg (by omega) (Ev.pos rfl (Ev.bind T (Ev.bind g2 (Ev.bind E (Ev.pos rfl ?_))))))))
  rw [show (o != o) = false by simp]
  refine Ev.step (fun k => rfl) ?_
  simp only [laws_FnExactValuesOf.j2]
  exact Ev.neg (by decide) (Ev.bind m2 (Ev.neg (by omega) (Ev.pos rfl (Ev.now _))))
end Go.Proofs.YtmnddfiidnemiaaDoor.Pure
