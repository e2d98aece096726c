/- A text cut at a byte: the reference's and the library's cuts are one. No condition. -/
import Derived.Test.YtmnddfiidnemiaaGreatDoorF1
import Derived.Test.YtmnddfiidnemiaaGreatDoorF3
import Derived.Test.YtmnddfiidnemiaaGreatDoorQCut
namespace Go.Proofs.YtmnddfiidnemiaaGreatDoor.Q
set_option linter.unusedVariables false
set_option linter.unusedSimpArgs false
open Go.RowKit Go.Proofs.YtmnddfiidnemiaaGreatDoor.F Go.Proofs.YtmnddfiidnemiaaGreatDoorHw Go.Proofs.YtmnddfiidnemiaaGreatDoorPl Go.Proofs.YtmnddfiidnemiaaGreatDoorW.PrintWords
theorem cut_hit (s : ByteArray) (c : UInt8) (i : Nat) (hs : s.size ≤ 1048576) (h : Lib.indexB s ⟨#[c]⟩ = i) : strings_Cut.f s (⟨#[c]⟩ : ByteArray) = some (s.extract 0 i, s.extract (i + 1) s.size, true) := by
  unfold strings_Cut.f
  obtain ⟨h1, h2, h3⟩ := Lib.cutB_hit s ⟨#[c]⟩ i h
  rw [if_pos (by omega), h1, h2, h3]
  rfl
theorem cut_miss (s : ByteArray) (x : ByteArray) (hs : s.size ≤ 1048576) (h : Lib.indexB s x = -1) : strings_Cut.f s x = some (s, (⟨#[]⟩ : ByteArray), false) := by
  unfold strings_Cut.f
  obtain ⟨h1, h2, h3⟩ := Lib.cutB_miss s x h
  rw [if_pos (by omega), h1, h2, h3]
  rfl
/-- What both cut. -/
theorem cut_both (s : ByteArray) (c : UInt8) (hs : s.size ≤ 1048576) :
    (∃ i : Nat, i < s.size ∧ bt s (i : Int) = (c.toNat : Int) ∧ (∀ j, j < i → bt s (j : Int) ≠ (c.toNat : Int)) ∧ Ev (fun k => spec_l1Cut.f k s (c.toNat : Int)) (s.extract 0 i, s.extract (i + 1) s.size, true) ∧ strings_Cut.f s (⟨#[c]⟩ : ByteArray) = some (s.extract 0 i, s.extract (i + 1) s.size, true)) ∨
    ((∀ j, j < s.size → bt s (j : Int) ≠ (c.toNat : Int)) ∧ Ev (fun k => spec_l1Cut.f k s (c.toNat : Int)) (s, (⟨#[]⟩ : ByteArray), false) ∧ strings_Cut.f s (⟨#[c]⟩ : ByteArray) = some (s, (⟨#[]⟩ : ByteArray), false)) := by
  rcases first_place s c with ⟨i, h1, h2, h3, h4, _⟩ | ⟨h1, h2, _⟩
  · exact .inl ⟨i, h1, h2, h3, l1cut_hit s _ i (by omega) h1 h2 h3, cut_hit s c i hs h4⟩
  · exact .inr ⟨h1, l1cut_miss s _ (by omega) h1, cut_miss s _ hs h2⟩
end Go.Proofs.YtmnddfiidnemiaaGreatDoor.Q
