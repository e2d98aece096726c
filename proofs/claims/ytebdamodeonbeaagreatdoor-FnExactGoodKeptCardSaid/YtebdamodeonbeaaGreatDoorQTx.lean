/- Texts as rows of bytes. No condition. -/
import Derived.Test.YtebdamodeonbeaaGreatDoorQTrim
import Derived.Test.YtebdamodeonbeaaGreatDoorQBt
namespace Go.Proofs.YtebdamodeonbeaaGreatDoor.Q
set_option linter.unusedVariables false
set_option linter.unusedSimpArgs false
open Go.RowKit Go.Proofs.YtebdamodeonbeaaGreatDoor.F Go.Proofs.YtebdamodeonbeaaGreatDoorHw Go.Proofs.YtebdamodeonbeaaGreatDoorPl Go.Proofs.YtebdamodeonbeaaGreatDoorW.PrintWords
/-- A text of these bytes. -/
def tx (l : List UInt8) : ByteArray := ⟨l.toArray⟩
theorem tx_data (l : List UInt8) : (tx l).data.toList = l := List.toList_toArray
theorem tx_size (l : List UInt8) : (tx l).size = l.length := by
  show l.toArray.size = l.length
  rw [List.size_toArray]
theorem tx_of (s : ByteArray) : tx s.data.toList = s := by
  apply ByteArray.ext
  simp [tx]
theorem tx_back (x : List UInt8) (c : UInt8) : (tx (x ++ [c])).extract 0 x.length = tx x := by
  apply ByteArray.ext
  simp [tx, ByteArray.data_extract]
theorem tx_front (c : UInt8) (x : List UInt8) : (tx (c :: x)).extract 1 (tx (c :: x)).size = tx x := by
  apply ByteArray.ext
  rw [tx_size]
  simp [tx, ByteArray.data_extract]
theorem tx_last (x : List UInt8) (c : UInt8) : bt (tx (x ++ [c])) (x.length : Int) = (c.toNat : Int) := by
  rw [bt_at_place _ _ _ (by rw [tx_size, List.length_append]; simp), tx_data]
  simp
theorem tx_head (c : UInt8) (x : List UInt8) : bt (tx (c :: x)) 0 = (c.toNat : Int) := by
  have := (bt_at_place (tx (c :: x)) 0 c (by rw [tx_size, List.length_cons]; omega)).2 (by rw [tx_data]; rfl)
  exact this
theorem not_32 (c : UInt8) : (c.toNat : Int) = 32 ↔ c = 32 := by
  constructor
  · intro h
    exact UInt8.toNat_inj.1 (by have : (32 : UInt8).toNat = 32 := rfl; omega)
  · rintro rfl; rfl
end Go.Proofs.YtebdamodeonbeaaGreatDoor.Q
