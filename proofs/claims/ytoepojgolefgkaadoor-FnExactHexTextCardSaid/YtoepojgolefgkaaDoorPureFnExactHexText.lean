/- The pure statement of FnExactHexText. No condition. -/
import Derived.Test.YtoepojgolefgkaaDoorF1
import Derived.Test.YtoepojgolefgkaaDoorQHex
namespace Go.Proofs.YtoepojgolefgkaaDoor.Pure
set_option linter.unusedVariables false
set_option linter.unusedSimpArgs false
open Go.RowKit Go.Proofs.YtoepojgolefgkaaDoor.F Go.Proofs.YtoepojgolefgkaaDoor.Q Go.Proofs.YtoepojgolefgkaaDoorHw Go.Proofs.YtoepojgolefgkaaDoorPl Go.Proofs.YtoepojgolefgkaaDoorW.PrintWords
theorem FnExactHexText : laws_FnExactHexText.Pure := by
  intro n hn
  apply Ev.rounds
  have H : ∃ r : ByteArray × Bool, Ev (fun k => spec_HexText.f k n) r ∧ impl_HexText.f n = some r := by
    unfold spec_HexText.f impl_HexText.f spec_l1In.f impl_within.f
    by_cases h0 : 0 ≤ n
    · by_cases h1 : n ≤ 65535
      · obtain ⟨m, rfl⟩ : ∃ m : Nat, n = m := ⟨n.toNat, by omega⟩
        refine ⟨(hexOf m, true), ?_, ?_⟩
        · refine Ev.bnd (if_pos h0) ?_
          refine Ev.pos (decide_eq_true h1) ?_
          exact Ev.bind (hex_spec m (by omega)) (Ev.now _)
        · rw [if_pos h0, Option.bind_some, if_pos (decide_eq_true h1), hex_impl m (by omega)]
          rfl
      · refine ⟨((⟨#[]⟩ : ByteArray), false), ?_, ?_⟩
        · refine Ev.bnd (if_pos h0) ?_
          exact Ev.neg (fun h => h1 (of_decide_eq_true h)) (Ev.now _)
        · rw [if_pos h0, Option.bind_some, if_neg (fun h => h1 (of_decide_eq_true h))]
    · refine ⟨((⟨#[]⟩ : ByteArray), false), ?_, ?_⟩
      · refine Ev.bnd (if_neg h0) ?_
        exact Ev.neg Bool.false_ne_true (Ev.now _)
      · rw [if_neg h0, Option.bind_some, if_neg Bool.false_ne_true]
  obtain ⟨r, h1, h2⟩ := H
  unfold laws_FnExactHexText.f
  refine Ev.bind h1 (Ev.bnd h2 (Ev.pos rfl (Ev.neg ?_ (Ev.now _))))
  obtain ⟨a, b⟩ := r
  cases b <;> exact Bool.false_ne_true
end Go.Proofs.YtoepojgolefgkaaDoor.Pure
