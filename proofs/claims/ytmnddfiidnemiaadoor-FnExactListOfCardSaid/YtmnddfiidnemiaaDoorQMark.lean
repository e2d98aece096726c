/- Texts that mark a row, and rows held one against the other: what the laws' own tests answer. No condition. -/
import Derived.Test.YtmnddfiidnemiaaDoorF1
import Derived.Test.YtmnddfiidnemiaaDoorF2
import Derived.Test.YtmnddfiidnemiaaDoorQList
import Derived.Test.YtmnddfiidnemiaaDoorQMarkT
namespace Go.Proofs.YtmnddfiidnemiaaDoor.Q
set_option linter.unusedVariables false
set_option linter.unusedSimpArgs false
open Go.RowKit Go.Proofs.YtmnddfiidnemiaaDoor.F Go.Proofs.YtmnddfiidnemiaaDoorHw Go.Proofs.YtmnddfiidnemiaaDoorPl Go.Proofs.YtmnddfiidnemiaaDoorW.PrintWords
theorem eq_strings (l : List ByteArray) (hl : l.length ≤ 1000000000) : Ev (fun k => laws_eqStringS.f k l l) true := by
  unfold laws_eqStringS.f
  refine Ev.pos rfl (go_to (fun k i => laws_eqStringS.l0 k l l i) l.length true ?_ l.length 0 (by omega) (fun j _ hj h => ?_))
  · refine Ev.step (fun k => rfl) ?_
    simp only [laws_eqStringS.l0]
    exact Ev.neg (by omega) (Ev.now _)
  · refine Ev.step (fun k => rfl) ?_
    simp only [laws_eqStringS.l0]
    rw [wrap_succ hj (by omega)]
    exact Ev.pos (by omega) (Ev.pos (by omega) (Ev.pos (by omega) (Ev.pos (by trivial) h)))
/-- A row marked, and held. -/
theorem mark_strings (l : List ByteArray) (hl : l.length ≤ 1000000000) : ∃ L : List ByteArray, Ev (fun k => laws_markStringS.f k l 1) (((l.length + 1 : Nat) : Int), L) ∧ Ev (fun k => laws_heldStringS.f k L 1) ((l.length + 1 : Nat) : Int) := by
  obtain ⟨T, hT⟩ := marks
  have M : ∀ (d i : Nat) (x : List ByteArray), i + d = l.length → x.length = l.length → (∀ j, j < i → x[j]? = some (T (j + 1))) →
      ∃ L : List ByteArray, L.length = l.length ∧ (∀ j, j < l.length → L[j]? = some (T (j + 1))) ∧ Ev (fun k => laws_markStringS.l0 k x ((i + 1 : Nat) : Int) (i : Int)) (((l.length + 1 : Nat) : Int), L) := by
    intro d
    induction d with
    | zero =>
      intro i x hi hx hj
      obtain rfl : i = l.length := by omega
      refine ⟨x, hx, hj, Ev.step (fun k => rfl) ?_⟩
      simp only [laws_markStringS.l0]
      exact Ev.neg (by omega) (Ev.now _)
    | succ d ih =>
      intro i x hi hx hj
      obtain ⟨L, h1, h2, h3⟩ := ih (i + 1) (x.set i (T (i + 1))) (by omega) (by rw [List.length_set]; exact hx) (fun j hlt => by
        by_cases e : j = i
        · subst e
          rw [List.getElem?_set_self (by omega)]
        · rw [List.getElem?_set_ne (by omega)]
          exact hj j (by omega))
      refine ⟨L, h1, h2, Ev.step (fun k => rfl) ?_⟩
      simp only [laws_markStringS.l0, Int.toNat_natCast]
      rw [wrap_succ (i := i) (n := l.length) (by omega) (by omega), wrap_succ (i := i + 1) (n := l.length + 1) (by omega) (by omega)]
      exact Ev.pos (by omega) (Ev.bind (hT (i + 1) (by omega)) (Ev.pos (by omega) h3))
  obtain ⟨L, h1, h2, h3⟩ := M l.length 0 l (by omega) rfl (fun j h => by omega)
  refine ⟨L, h3, ?_⟩
  have H : ∀ (d i : Nat), i + d = l.length → Ev (fun k => laws_heldStringS.l0 k L ((i + 1 : Nat) : Int) (i : Int)) ((l.length + 1 : Nat) : Int) := by
    intro d
    induction d with
    | zero =>
      intro i hi
      obtain rfl : i = l.length := by omega
      refine Ev.step (fun k => rfl) ?_
      simp only [laws_heldStringS.l0]
      exact Ev.neg (by omega) (Ev.now _)
    | succ d ih =>
      intro i hi
      have hrd : rdOf ByteArray.empty L (i : Int) = T (i + 1) := by
        rw [rdOf_get L i (by omega)]
        have := h2 i (by omega)
        rw [List.getElem?_eq_getElem (by omega)] at this
        exact Option.some.inj this
      refine Ev.step (fun k => rfl) ?_
      simp only [laws_heldStringS.l0]
      rw [hrd, wrap_succ (i := i) (n := l.length) (by omega) (by omega), wrap_succ (i := i + 1) (n := l.length + 1) (by omega) (by omega)]
      exact Ev.pos (by omega) (Ev.pos (by omega) (Ev.bind (hT (i + 1) (by omega)) (Ev.pos rfl (ih (i + 1) (by omega)))))
  exact H l.length 0 (by omega)
end Go.Proofs.YtmnddfiidnemiaaDoor.Q
