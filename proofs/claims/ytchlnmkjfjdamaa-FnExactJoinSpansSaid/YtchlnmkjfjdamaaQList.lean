/- Loops over rows. No condition. -/
import Derived.Test.YtchlnmkjfjdamaaPl
namespace Go.Proofs.Ytchlnmkjfjdamaa.Q
set_option linter.unusedVariables false
set_option linter.unusedSimpArgs false
open Go.RowKit Go.Proofs.YtchlnmkjfjdamaaHw Go.Proofs.YtchlnmkjfjdamaaPl Go.Proofs.YtchlnmkjfjdamaaW.PrintWords
/-- A loop that goes on up to a place. -/
theorem go_to {α : Type} (L : Nat → Int → Option α) (p : Nat) (r : α) (hend : Ev (fun k => L k (p : Int)) r) : ∀ (d i : Nat), i + d = p → (∀ j, i ≤ j → j < p → Ev (fun k => L k ((j + 1 : Nat) : Int)) r → Ev (fun k => L k (j : Int)) r) → Ev (fun k => L k (i : Int)) r
  | 0, i, hi, _ => by
    obtain rfl : i = p := by omega
    exact hend
  | d + 1, i, hi, hs => hs i (Nat.le_refl _) (by omega) (go_to L p r hend d (i + 1) (by omega) (fun j h1 h2 => hs j (by omega) h2))
/-- A loop that goes on as long as a test holds of each element. -/
theorem list_all {α β : Type} (l : List α) (L : Nat → Int → Option β) (q : α → Bool) (rf fin : β)
    (hstep : ∀ (i : Nat) (h : i < l.length), q l[i] = true → Ev (fun k => L k ((i + 1 : Nat) : Int)) (if (l.drop (i + 1)).all q then fin else rf) → Ev (fun k => L k (i : Int)) (if (l.drop (i + 1)).all q then fin else rf))
    (hstop : ∀ (i : Nat) (h : i < l.length), q l[i] = false → Ev (fun k => L k (i : Int)) rf)
    (hend : Ev (fun k => L k (l.length : Int)) fin) : ∀ (d i : Nat), i + d = l.length → Ev (fun k => L k (i : Int)) (if (l.drop i).all q then fin else rf) := by
  intro d
  induction d with
  | zero =>
    intro i hi
    obtain rfl : i = l.length := by omega
    rw [List.drop_eq_nil_of_le (Nat.le_refl _)]
    exact hend
  | succ d ih =>
    intro i hi
    have hlt : i < l.length := by omega
    rw [List.drop_eq_getElem_cons hlt, List.all_cons]
    cases hq : q l[i] with
    | true =>
      simp only [Bool.true_and]
      exact hstep i hlt hq (ih (i + 1) (by omega))
    | false =>
      simp only [Bool.false_and]
      exact hstop i hlt hq
theorem list_all0 {α β : Type} (l : List α) (L : Nat → Int → Option β) (q : α → Bool) (rf fin : β)
    (hstep : ∀ (i : Nat) (h : i < l.length), q l[i] = true → ∀ r, Ev (fun k => L k ((i + 1 : Nat) : Int)) r → Ev (fun k => L k (i : Int)) r)
    (hstop : ∀ (i : Nat) (h : i < l.length), q l[i] = false → Ev (fun k => L k (i : Int)) rf)
    (hend : Ev (fun k => L k (l.length : Int)) fin) : Ev (fun k => L k 0) (if l.all q then fin else rf) := by
  have h := list_all l L q rf fin (fun i h hq => hstep i h hq _) hstop hend l.length 0 (by omega)
  rw [List.drop_zero] at h
  exact h
theorem rdOf_get (l : List ByteArray) (i : Nat) (h : i < l.length) : rdOf ByteArray.empty l (i : Int) = l[i] := by
  unfold rdOf
  rw [Int.toNat_natCast, List.getD_eq_getElem?_getD, List.getElem?_eq_getElem h]
  rfl
end Go.Proofs.Ytchlnmkjfjdamaa.Q
