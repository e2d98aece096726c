/- Names, with capitals as small letters. No condition. -/
import Derived.Test.YtebdamodeonbeaaGreatDoorF1
import Derived.Test.YtebdamodeonbeaaGreatDoorF4
import Derived.Test.YtebdamodeonbeaaGreatDoorPl
namespace Go.Proofs.YtebdamodeonbeaaGreatDoor.Q
set_option linter.unusedVariables false
set_option linter.unusedSimpArgs false
open Go.RowKit Go.Proofs.YtebdamodeonbeaaGreatDoor.F Go.Proofs.YtebdamodeonbeaaGreatDoorHw Go.Proofs.YtebdamodeonbeaaGreatDoorPl Go.Proofs.YtebdamodeonbeaaGreatDoorW.PrintWords
/-- A text in small letters. -/
def lowOf (s : ByteArray) : ByteArray := strOfNums ((numsOf s).map lowI)
theorem low_spec (s : ByteArray) (h : s.size ≤ 9000000) : spec_l1Lower.f s = some (lowOf s) := by
  unfold spec_l1Lower.f; exact if_pos (by omega)
theorem low_impl (s : ByteArray) (h : s.size ≤ 9000000) : impl_small.f s = some (lowOf s) := by
  unfold impl_small.f; exact if_pos (by omega)
/-- A field with a name. -/
def isB (a b : ByteArray) : Bool := (lowOf a).toList == (lowOf b).toList
theorem is_spec (a v b : ByteArray) (ha : a.size ≤ 9000000) (hb : b.size ≤ 9000000) : spec_l3Is.f a v b = some (isB a b) := by
  unfold spec_l3Is.f
  rw [low_spec a ha, low_spec b hb]
  rfl
end Go.Proofs.YtebdamodeonbeaaGreatDoor.Q
