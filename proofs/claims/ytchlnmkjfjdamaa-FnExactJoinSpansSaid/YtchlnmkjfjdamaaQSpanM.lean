/- Numbers that mark a row of spans, and rows held one against the other. No condition. -/
import Derived.Test.YtchlnmkjfjdamaaF2
import Derived.Test.YtchlnmkjfjdamaaQSpans
namespace Go.Proofs.Ytchlnmkjfjdamaa.Q
set_option linter.unusedVariables false
set_option linter.unusedSimpArgs false
open Go.RowKit Go.Proofs.Ytchlnmkjfjdamaa.F Go.Proofs.YtchlnmkjfjdamaaHw Go.Proofs.YtchlnmkjfjdamaaPl Go.Proofs.YtchlnmkjfjdamaaW.PrintWords
theorem mark_held (l : List Sp) (hl : l.length ≤ 1000000000) : ∃ L : List Sp, Ev (fun k => laws_markSpanS.f k l 1) (((2 * l.length + 1 : Nat) : Int), L) ∧ Ev (fun k => laws_heldSpanS.f k L 1) ((2 * l.length + 1 : Nat) : Int) := by
  have E1 : ∀ i, i < l.length → wrap64 (((2 * i + 1 : Nat) : Int) + 1) = ((2 * i + 2 : Nat) : Int) := fun i hi => by rw [wrap_id (by omega) (by omega)]; omega
  have E2 : ∀ i, i < l.length → wrap64 (((2 * i + 2 : Nat) : Int) + 1) = ((2 * (i + 1) + 1 : Nat) : Int) := fun i hi => by rw [wrap_id (by omega) (by omega)]; omega
  have M : ∀ (d i : Nat) (x : List Sp), i + d = l.length → x.length = l.length → (∀ j, j < i → x[j]? = some (⟨((2 * j + 1 : Nat) : Int), ((2 * j + 2 : Nat) : Int)⟩ : Sp)) →
      ∃ L : List Sp, L.length = l.length ∧ (∀ j, j < l.length → L[j]? = some (⟨((2 * j + 1 : Nat) : Int), ((2 * j + 2 : Nat) : Int)⟩ : Sp)) ∧ Ev (fun k => laws_markSpanS.l0 k x ((2 * i + 1 : Nat) : Int) (i : Int)) (((2 * l.length + 1 : Nat) : Int), L) := by
    intro d
    induction d with
    | zero =>
      intro i x hi hx hj
      obtain rfl : i = l.length := by omega
      refine ⟨x, hx, hj, Ev.step (fun k => rfl) ?_⟩
      simp only [laws_markSpanS.l0]
      exact Ev.neg (by omega) (Ev.now _)
    | succ d ih =>
      intro i x hi hx hj
      have hlt : i < l.length := by omega
      have hr : rd_T48 (x.set i (⟨((2 * i + 1 : Nat) : Int), (rd_T48 x (i : Int)).f1⟩ : Sp)) (i : Int) = (⟨((2 * i + 1 : Nat) : Int), (rd_T48 x (i : Int)).f1⟩ : Sp) := by
        rw [rd_span _ i (by rw [List.length_set]; omega), List.getElem_set_self]
      obtain ⟨L, h1, h2, h3⟩ := ih (i + 1) ((x.set i (⟨((2 * i + 1 : Nat) : Int), (rd_T48 x (i : Int)).f1⟩ : Sp)).set i (⟨((2 * i + 1 : Nat) : Int), ((2 * i + 2 : Nat) : Int)⟩ : Sp)) (by omega) (by rw [List.length_set, List.length_set]; exact hx) (fun j hlt2 => by
        by_cases e : j = i
        · subst e
          rw [List.getElem?_set_self (by rw [List.length_set]; omega)]
        · rw [List.getElem?_set_ne (by omega), List.getElem?_set_ne (by omega)]
          exact hj j (by omega))
      refine ⟨L, h1, h2, Ev.step (fun k => rfl) ?_⟩
      simp only [laws_markSpanS.l0, Int.toNat_natCast]
      rw [wrap_succ (i := i) (n := l.length) hlt (by omega), E1 i hlt, E2 i hlt]
      refine Ev.pos (by omega) (Ev.pos (by omega) (Ev.bnd rfl ?_))
      rw [hr]
      exact h3
  obtain ⟨L, h1, h2, h3⟩ := M l.length 0 l (by omega) rfl (fun j h => by omega)
  refine ⟨L, h3, ?_⟩
  have H : ∀ (d i : Nat), i + d = l.length → Ev (fun k => laws_heldSpanS.l0 k L ((2 * i + 1 : Nat) : Int) (i : Int)) ((2 * l.length + 1 : Nat) : Int) := by
    intro d
    induction d with
    | zero =>
      intro i hi
      obtain rfl : i = l.length := by omega
      refine Ev.step (fun k => rfl) ?_
      simp only [laws_heldSpanS.l0]
      exact Ev.neg (by omega) (Ev.now _)
    | succ d ih =>
      intro i hi
      have hlt : i < l.length := by omega
      have hrd : rd_T48 L (i : Int) = (⟨((2 * i + 1 : Nat) : Int), ((2 * i + 2 : Nat) : Int)⟩ : Sp) := by
        rw [rd_span L i (by omega)]
        have := h2 i hlt
        rw [List.getElem?_eq_getElem (by omega)] at this
        exact Option.some.inj this
      have z := ih (i + 1) (by omega)
      refine Ev.step (fun k => rfl) ?_
      simp only [laws_heldSpanS.l0]
      rw [hrd, wrap_succ (i := i) (n := l.length) hlt (by omega), E1 i hlt, E2 i hlt]
      exact Ev.pos (by omega) (Ev.pos (by omega) (Ev.pos rfl (Ev.pos rfl z)))
  exact H l.length 0 (by omega)
end Go.Proofs.Ytchlnmkjfjdamaa.Q
