/- Rows of fields, marked and held. No condition. -/
import Derived.Test.YtmnddfiidnemiaaDoorF1
import Derived.Test.YtmnddfiidnemiaaDoorQField
import Derived.Test.YtmnddfiidnemiaaDoorQMarkT
namespace Go.Proofs.YtmnddfiidnemiaaDoor.Q
set_option linter.unusedVariables false
set_option linter.unusedSimpArgs false
open Go.RowKit Go.Proofs.YtmnddfiidnemiaaDoor.F Go.Proofs.YtmnddfiidnemiaaDoorHw Go.Proofs.YtmnddfiidnemiaaDoorPl Go.Proofs.YtmnddfiidnemiaaDoorW.PrintWords
/-- A row of fields, marked. -/
theorem mark_fields (l : List FdT) (hl : l.length ≤ 1000000000) : ∃ L : List FdT, L.length = l.length ∧ Ev (fun k => laws_markFieldS.f k l 1) (((2 * l.length + 1 : Nat) : Int), L) ∧
    ∃ T : Nat → ByteArray, (∀ n : Nat, n ≤ 1000000000000 → Ev (fun k => laws_markText.f k (n : Int)) (T n)) ∧ ∀ j, j < l.length → L[j]? = some ⟨T (2 * j + 1), T (2 * j + 2)⟩ := by
  obtain ⟨T, hT⟩ := marks
  have M : ∀ (d i : Nat) (x : List FdT), i + d = l.length → x.length = l.length → (∀ j, j < i → x[j]? = some ⟨T (2 * j + 1), T (2 * j + 2)⟩) →
      ∃ L : List FdT, L.length = l.length ∧ (∀ j, j < l.length → L[j]? = some ⟨T (2 * j + 1), T (2 * j + 2)⟩) ∧ Ev (fun k => laws_markFieldS.l0 k x ((2 * i + 1 : Nat) : Int) (i : Int)) (((2 * l.length + 1 : Nat) : Int), L) := by
    intro d
    induction d with
    | zero =>
      intro i x hi hx hj
      obtain rfl : i = l.length := by omega
      refine ⟨x, hx, hj, Ev.step (fun k => rfl) ?_⟩
      simp only [laws_markFieldS.l0]
      exact Ev.neg (by omega) (Ev.now _)
    | succ d ih =>
      intro i x hi hx hj
      have hlt : i < x.length := by omega
      obtain ⟨L, h1, h2, h3⟩ := ih (i + 1) (x.set i ⟨T (2 * i + 1), T (2 * i + 2)⟩) (by omega) (by rw [List.length_set]; exact hx) (fun j hlt => by
        by_cases e : j = i
        · subst e
          rw [List.getElem?_set_self (by omega)]
        · rw [List.getElem?_set_ne (by omega)]
          exact hj j (by omega))
      refine ⟨L, h1, h2, Ev.step (fun k => rfl) ?_⟩
      have w1 : wrap64 (((2 * i + 1 : Nat) : Int) + 1) = ((2 * i + 2 : Nat) : Int) := by rw [wrap_id (by omega) (by omega)]; omega
      have w2 : wrap64 (((2 * i + 2 : Nat) : Int) + 1) = ((2 * (i + 1) + 1 : Nat) : Int) := by rw [wrap_id (by omega) (by omega)]; omega
      have e1 : rd_T26 x (i : Int) = x[i] := rd_field x i hlt
      have e2 : rd_T26 (x.set i (⟨T (2 * i + 1), x[i].f1⟩ : FdT)) (i : Int) = ⟨T (2 * i + 1), x[i].f1⟩ := by
        rw [rd_field _ i (by rw [List.length_set]; exact hlt), List.getElem_set_self]
      simp only [laws_markFieldS.l0, Int.toNat_natCast]
      rw [w1, w2, wrap_succ (i := i) (n := l.length) (by omega) (by omega)]
      refine Ev.pos (by omega) (Ev.bind (hT (2 * i + 1) (by omega)) (Ev.pos (by omega) (Ev.bnd rfl (Ev.bind (hT (2 * i + 2) (by omega)) ?_))))
      rw [e1, e2, List.set_set]
      exact h3
  obtain ⟨L, h1, h2, h3⟩ := M l.length 0 l (by omega) rfl (fun j h => by omega)
  exact ⟨L, h1, h3, T, hT, h2⟩
end Go.Proofs.YtmnddfiidnemiaaDoor.Q
