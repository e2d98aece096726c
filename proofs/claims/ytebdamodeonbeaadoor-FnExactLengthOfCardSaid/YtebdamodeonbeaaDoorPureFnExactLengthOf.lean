/- The pure statement of FnExactLengthOf: the length is told alike. No condition. -/
import Derived.Test.YtebdamodeonbeaaDoorF3
import Derived.Test.YtebdamodeonbeaaDoorQLength
namespace Go.Proofs.YtebdamodeonbeaaDoor.Pure
set_option linter.unusedVariables false
set_option linter.unusedSimpArgs false
open Go.RowKit Go.Proofs.YtebdamodeonbeaaDoor.F Go.Proofs.YtebdamodeonbeaaDoor.Q Go.Proofs.YtebdamodeonbeaaDoorHw Go.Proofs.YtebdamodeonbeaaDoorPl Go.Proofs.YtebdamodeonbeaaDoorW.PrintWords
theorem lengthOf_both (l : List FdT) (hl : Small l) : ∃ (g : Int) (o : Bool), Ev (fun k => spec_LengthOf.f k l) (g, o) ∧ Ev (fun k => impl_LengthOf.f k l) (g, o) := by
  have f1 := fields_spec l hl
  have f2 := fields_impl l hl
  obtain ⟨r, v, h, o, e, a, b⟩ := length_both l hl
  unfold spec_LengthOf.f impl_LengthOf.f
  cases hf : fieldsB l with
  | false =>
    rw [hf] at f1 f2
    exact ⟨0, false, Ev.bind f1 (Ev.neg Bool.false_ne_true (Ev.now _)), Ev.bind b (Ev.bnd f2 (Ev.neg Bool.false_ne_true (Ev.now _)))⟩
  | true =>
    rw [hf] at f1 f2
    rcases e with ⟨rfl, rfl, rfl, rfl⟩ | ⟨rfl, e⟩
    · exact ⟨0, false, Ev.bind f1 (Ev.pos rfl (Ev.bind a (Ev.pos rfl (Ev.now _)))), Ev.bind b (Ev.bnd f2 (Ev.pos rfl (Ev.neg Bool.false_ne_true (Ev.now _))))⟩
    · refine ⟨v, true, Ev.bind f1 (Ev.pos rfl (Ev.bind a ?_)), Ev.bind b (Ev.bnd f2 (Ev.pos rfl (Ev.pos rfl (Ev.now _))))⟩
      rcases e with ⟨rfl, rfl, h0⟩ | ⟨rfl, rfl, rfl⟩
      · exact Ev.neg (by omega) (Ev.neg (by omega) (Ev.now _))
      · exact Ev.neg (by decide) (Ev.pos (by decide) (Ev.now _))
theorem FnExactLengthOf : laws_FnExactLengthOf.Pure := by
  intro l hl hg
  apply Ev.rounds
  unfold laws_FnExactLengthOf.f
  obtain ⟨t, et, _, ht⟩ := sz_fields l hl hg 1048576 (by omega) (by omega)
  refine Ev.bind et ?_
  by_cases h1 : t < 0
  · exact Ev.pos h1 (Ev.now _)
  have hS := ht h1
  have hml : (l.map fdOf).length = l.length := List.length_map ..
  have hL := hS.1
  have T := to_fields l (by omega)
  obtain ⟨g, o, g1, g2⟩ := lengthOf_both (l.map fdOf) hS
  have EX := eq_fields (l.map fdOf) (by omega)
  refine Ev.neg h1 (Ev.bind T (Ev.bind g1 (Ev.bind T (Ev.bind g2 (Ev.pos rfl ?_)))))
  rw [show (o != o) = false by simp]
  refine Ev.step (fun k => rfl) ?_
  simp only [laws_FnExactLengthOf.j0]
  exact Ev.neg (by decide) (Ev.bind T (Ev.bind EX (Ev.pos rfl (Ev.now _))))
end Go.Proofs.YtebdamodeonbeaaDoor.Pure
