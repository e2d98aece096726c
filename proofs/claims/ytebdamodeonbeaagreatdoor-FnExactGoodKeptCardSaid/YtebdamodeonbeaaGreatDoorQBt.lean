/- A text's bytes, by their places. No condition. -/
import Derived.Test.YtebdamodeonbeaaGreatDoorPl
namespace Go.Proofs.YtebdamodeonbeaaGreatDoor.Q
set_option linter.unusedVariables false
set_option linter.unusedSimpArgs false
open Go.RowKit Go.Proofs.YtebdamodeonbeaaGreatDoorHw Go.Proofs.YtebdamodeonbeaaGreatDoorPl Go.Proofs.YtebdamodeonbeaaGreatDoorW.PrintWords
theorem bt_at_place (s : ByteArray) (j : Nat) (c : UInt8) : j < s.size → (bt s (j : Int) = (c.toNat : Int) ↔ s.data.toList[j]? = some c) := fun h => by
  rw [← numsOf_getD', numsOf_getD]
  have h' : j < s.data.toList.length := by rw [Array.length_toList]; exact h
  rw [List.getD_eq_getElem?_getD, List.getElem?_eq_getElem h', Option.getD_some]
  constructor
  · intro e
    rw [UInt8.toNat_inj.1 (Int.ofNat_inj.1 e)]
  · intro e
    rw [Option.some.inj e]
theorem data_len (s : ByteArray) : s.data.toList.length = s.size := Array.length_toList
theorem head_bt (s : ByteArray) (c : UInt8) (h : 0 < s.size) : s.data.toList.head? = some c ↔ bt s 0 = (c.toNat : Int) := by
  rw [List.head?_eq_getElem?]
  exact (bt_at_place s 0 c h).symm
theorem last_bt (s : ByteArray) (c : UInt8) (h : 0 < s.size) : s.data.toList.getLast? = some c ↔ bt s ((s.size - 1 : Nat) : Int) = (c.toNat : Int) := by
  rw [List.getLast?_eq_getElem?, data_len]
  exact (bt_at_place s (s.size - 1) c (by omega)).symm
theorem list_of_size (s : ByteArray) : s.toList = ([] : List UInt8) ↔ s.size = 0 := by
  rw [ByteArray.toList_eq]
  constructor
  · intro h
    have := congrArg List.length h
    rw [data_len] at this
    exact this
  · intro h
    apply List.eq_nil_of_length_eq_zero
    rw [data_len]; exact h
end Go.Proofs.YtebdamodeonbeaaGreatDoor.Q
