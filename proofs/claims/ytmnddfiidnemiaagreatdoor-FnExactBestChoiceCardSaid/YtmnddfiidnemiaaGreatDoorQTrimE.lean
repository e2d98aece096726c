/- Texts whose ends are no blanks. No condition. -/
import Derived.Test.YtmnddfiidnemiaaGreatDoorF3
import Derived.Test.YtmnddfiidnemiaaGreatDoorQTrimL
namespace Go.Proofs.YtmnddfiidnemiaaGreatDoor.Q
set_option linter.unusedVariables false
set_option linter.unusedSimpArgs false
open Go.RowKit Go.Proofs.YtmnddfiidnemiaaGreatDoor.F Go.Proofs.YtmnddfiidnemiaaGreatDoorHw Go.Proofs.YtmnddfiidnemiaaGreatDoorPl Go.Proofs.YtmnddfiidnemiaaGreatDoorW.PrintWords
/-- Neither end is a blank. -/
def Edged (l : List UInt8) : Prop := l = [] ∨ (l.head? ≠ some 32 ∧ l.getLast? ≠ some 32)
theorem trimR_last : ∀ (n : Nat) (l : List UInt8), l.length ≤ n → (Lib.trimRightB l 32).getLast? ≠ some 32
  | 0, l, h => by
    obtain rfl : l = [] := List.eq_nil_of_length_eq_zero (by omega)
    intro e; cases e
  | n + 1, l, h => by
    rcases List.eq_nil_or_concat l with rfl | ⟨x, c, rfl⟩
    · intro e; cases e
    · rw [List.concat_eq_append] at h ⊢
      by_cases hc : c = 32
      · subst hc
        rw [trimR_snoc]
        exact trimR_last n x (by rw [List.length_append] at h; simp at h; omega)
      · rw [trimR_stop _ _ _ hc, List.getLast?_append]
        simp
        exact hc
theorem trimR_head (x : UInt8) (t : List UInt8) (h : x ≠ 32) : ∃ r, Lib.trimRightB (x :: t) 32 = x :: r := by
  unfold Lib.trimRightB
  rw [List.reverse_cons, List.dropWhile_append]
  split
  · rw [List.dropWhile_cons_of_neg (by simpa using h)]
    exact ⟨[], rfl⟩
  · rw [List.reverse_append, List.reverse_singleton, List.singleton_append]
    exact ⟨_, rfl⟩
theorem trim_edged : ∀ l : List UInt8, Edged (Lib.trimB l 32)
  | [] => .inl rfl
  | c :: t => by
    by_cases hc : c = 32
    · subst hc
      rw [trimB_cons]
      exact trim_edged t
    · rw [trimB_stop _ _ _ hc]
      obtain ⟨r, e⟩ := trimR_head c t hc
      refine .inr ⟨?_, trimR_last _ _ (Nat.le_refl _)⟩
      rw [e]
      intro h
      exact hc (Option.some.inj h)
theorem trimL_cons (t : List UInt8) (c : UInt8) : Lib.trimLeftB (c :: t) c = Lib.trimLeftB t c := by
  unfold Lib.trimLeftB
  rw [List.dropWhile_cons_of_pos (by simp)]
theorem trimL_stop (t : List UInt8) (x c : UInt8) (h : x ≠ c) : Lib.trimLeftB (x :: t) c = x :: t := by
  unfold Lib.trimLeftB
  rw [List.dropWhile_cons_of_neg (by simpa using h)]
/-- A text that ends well needs its front alone trimmed. -/
theorem trimL_enough : ∀ l : List UInt8, l.getLast? ≠ some 32 → Lib.trimB l 32 = Lib.trimLeftB l 32
  | [], _ => rfl
  | c :: t, h => by
    by_cases hc : c = 32
    · subst hc
      rw [trimB_cons, trimL_cons]
      refine trimL_enough t (fun e => h ?_)
      cases t with
      | nil => cases e
      | cons y r => rw [List.getLast?_cons_cons]; exact e
    · rw [trimB_stop _ _ _ hc, trimL_stop _ _ _ hc]
      rcases List.eq_nil_or_concat (c :: t) with e | ⟨x, d, e⟩
      · cases e
      · rw [e, List.concat_eq_append] at h ⊢
        exact trimR_stop _ _ _ (fun ed => h (by rw [ed]; simp))
/-- A text that begins well needs its end alone trimmed. -/
theorem trimR_enough (l : List UInt8) (h : l.head? ≠ some 32) : Lib.trimB l 32 = Lib.trimRightB l 32 := by
  cases l with
  | nil => rfl
  | cons c t => exact trimB_stop _ _ _ (fun e => h (by rw [e]; rfl))
theorem trimLeft_impl (s : ByteArray) (hs : s.size ≤ 9000000) : strings_TrimLeft.f s (⟨#[32]⟩ : ByteArray) = some (tx (Lib.trimLeftB s.data.toList 32)) := by
  unfold strings_TrimLeft.f
  exact if_pos ⟨by omega, rfl, by decide⟩
theorem trimRight_impl (s : ByteArray) (hs : s.size ≤ 9000000) : strings_TrimRight.f s (⟨#[32]⟩ : ByteArray) = some (tx (Lib.trimRightB s.data.toList 32)) := by
  unfold strings_TrimRight.f
  exact if_pos ⟨by omega, rfl, by decide⟩
end Go.Proofs.YtmnddfiidnemiaaGreatDoor.Q
