/- Tags: the reference's and the program's texts of a tag are one. No condition. -/
import Derived.Test.YtkckikmgdjblhaaF14
import Derived.Test.YtkckikmgdjblhaaF15
import Derived.Test.YtkckikmgdjblhaaPl
namespace Go.Proofs.Ytkckikmgdjblhaa.Q
set_option linter.unusedVariables false
set_option linter.unusedSimpArgs false
open Go.RowKit Go.Proofs.Ytkckikmgdjblhaa.F Go.Proofs.YtkckikmgdjblhaaHw Go.Proofs.YtkckikmgdjblhaaPl Go.Proofs.YtkckikmgdjblhaaW.PrintWords
def tagText (w : Bool) (s : ByteArray) : ByteArray := if w then ((⟨#[87, 47, 34]⟩ : ByteArray) ++ s) ++ (⟨#[34]⟩ : ByteArray) else ((⟨#[34]⟩ : ByteArray) ++ s) ++ (⟨#[34]⟩ : ByteArray)
theorem text_spec (w : Bool) (s : ByteArray) (hs : s.size ≤ 1048576) : spec_l7Text.f w s = some (tagText w s) := by
  have z1 : (⟨#[87, 47, 34]⟩ : ByteArray).size = 3 := rfl
  have z2 : (⟨#[34]⟩ : ByteArray).size = 1 := rfl
  unfold spec_l7Text.f tagText
  cases w with
  | true => rw [if_pos rfl, if_pos (by omega), if_pos (by rw [ByteArray.size_append]; omega)]; rfl
  | false => rw [if_neg (by decide), if_pos (by omega), if_pos (by rw [ByteArray.size_append]; omega)]; rfl
theorem text_impl (w : Bool) (s : ByteArray) (hs : s.size ≤ 1048576) : impl_tagText.f w s = some (tagText w s) := by
  have z2 : (⟨#[34]⟩ : ByteArray).size = 1 := rfl
  unfold impl_tagText.f tagText
  rw [if_pos (by omega), if_pos (by rw [ByteArray.size_append]; omega)]
  cases w with
  | true =>
    rw [if_pos rfl, if_pos (by rw [ByteArray.size_append, ByteArray.size_append]; omega)]
    rw [← ByteArray.append_assoc, ← ByteArray.append_assoc]
    rfl
  | false => rw [if_neg (by decide)]; rfl
end Go.Proofs.Ytkckikmgdjblhaa.Q
