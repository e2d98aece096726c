/- Blanks taken off a text's ends. No condition. -/
import Derived.Test.YtebdamodeonbeaaGreatDoorPl
import Derived.Lib.TrimByte
namespace Go.Proofs.YtebdamodeonbeaaGreatDoor.Q
set_option linter.unusedVariables false
set_option linter.unusedSimpArgs false
open Go.RowKit Go.Proofs.YtebdamodeonbeaaGreatDoorHw Go.Proofs.YtebdamodeonbeaaGreatDoorPl Go.Proofs.YtebdamodeonbeaaGreatDoorW.PrintWords
theorem trimR_snoc (l : List UInt8) (c : UInt8) : Lib.trimRightB (l ++ [c]) c = Lib.trimRightB l c := by
  unfold Lib.trimRightB
  rw [List.reverse_append, List.reverse_singleton, List.singleton_append, List.dropWhile_cons_of_pos (by simp)]
theorem trimR_stop (l : List UInt8) (x c : UInt8) (h : x ≠ c) : Lib.trimRightB (l ++ [x]) c = l ++ [x] := by
  unfold Lib.trimRightB
  rw [List.reverse_append, List.reverse_singleton, List.singleton_append, List.dropWhile_cons_of_neg (by simpa using h), List.reverse_cons, List.reverse_reverse]
theorem trimR_nil (c : UInt8) : Lib.trimRightB [] c = [] := rfl
theorem trimB_cons (t : List UInt8) (c : UInt8) : Lib.trimB (c :: t) c = Lib.trimB t c := by
  unfold Lib.trimB Lib.trimRightB Lib.trimLeftB
  rw [List.reverse_cons, List.dropWhile_append]
  split
  · rename_i h
    have h' : List.dropWhile (fun x => x == c) t.reverse = [] := List.isEmpty_iff.1 h
    rw [h', List.dropWhile_cons_of_pos (by simp)]
    rfl
  · rw [List.reverse_append, List.reverse_singleton, List.singleton_append, List.dropWhile_cons_of_pos (by simp)]
theorem trimB_stop (t : List UInt8) (x c : UInt8) (h : x ≠ c) : Lib.trimB (x :: t) c = Lib.trimRightB (x :: t) c := by
  unfold Lib.trimB
  have e : ∃ r, Lib.trimRightB (x :: t) c = x :: r := by
    unfold Lib.trimRightB
    rw [List.reverse_cons, List.dropWhile_append]
    split
    · rw [List.dropWhile_cons_of_neg (by simpa using h)]
      exact ⟨[], rfl⟩
    · rw [List.reverse_append, List.reverse_singleton, List.singleton_append]
      exact ⟨_, rfl⟩
  obtain ⟨r, e⟩ := e
  rw [e]
  unfold Lib.trimLeftB
  rw [List.dropWhile_cons_of_neg (by simpa using h)]
theorem trimB_nil (c : UInt8) : Lib.trimB [] c = [] := rfl
theorem trimB_len (l : List UInt8) (c : UInt8) : (Lib.trimB l c).length ≤ l.length := by
  unfold Lib.trimB Lib.trimLeftB Lib.trimRightB
  refine Nat.le_trans (List.dropWhile_sublist _).length_le ?_
  rw [List.length_reverse]
  refine Nat.le_trans (List.dropWhile_sublist _).length_le ?_
  rw [List.length_reverse]
  exact Nat.le_refl _
/-- A text keeps all its bytes just where neither end is a blank. -/
theorem trimB_same (l : List UInt8) (c : UInt8) : Lib.trimB l c = l ↔ (l = [] ∨ (l.head? ≠ some c ∧ l.getLast? ≠ some c)) := by
  constructor
  · intro h
    rcases List.eq_nil_or_concat l with rfl | ⟨i, x, rfl⟩
    · exact .inl rfl
    · right
      rw [List.concat_eq_append] at h ⊢
      constructor
      · intro hh
        cases i with
        | nil =>
          have hx : x = c := by simpa using hh
          subst hx
          rw [List.nil_append, trimB_cons, trimB_nil] at h
          cases h
        | cons y t =>
          have hy : y = c := by simpa using hh
          subst hy
          rw [List.cons_append, trimB_cons] at h
          have := trimB_len (t ++ [x]) y
          rw [h, List.length_cons] at this
          omega
      · intro hh
        have hx : x = c := by simpa using hh
        subst hx
        unfold Lib.trimB at h
        rw [trimR_snoc] at h
        have h1 : (Lib.trimB i x).length ≤ i.length := trimB_len i x
        unfold Lib.trimB at h1
        rw [h, List.length_append] at h1
        have : [x].length = 1 := rfl
        omega
  · rintro (rfl | ⟨h1, h2⟩)
    · rfl
    · rcases List.eq_nil_or_concat l with rfl | ⟨i, x, rfl⟩
      · rfl
      · rw [List.concat_eq_append] at h1 h2 ⊢
        have hx : x ≠ c := fun e => h2 (by simp [e])
        cases i with
        | nil => rw [List.nil_append, trimB_stop [] x c hx]; exact trimR_stop [] x c hx
        | cons y t =>
          have hy : y ≠ c := fun e => h1 (by simp [e])
          rw [List.cons_append, trimB_stop _ y c hy, ← List.cons_append]
          exact trimR_stop (y :: t) x c hx
end Go.Proofs.YtebdamodeonbeaaGreatDoor.Q
