/- Texts joined by a sign. No condition. -/
import Derived.Test.YtmnddfiidnemiaaDoorPl
import Derived.Lib.Join
namespace Go.Proofs.YtmnddfiidnemiaaDoor.Q
set_option linter.unusedVariables false
set_option linter.unusedSimpArgs false
open Go.RowKit Go.Proofs.YtmnddfiidnemiaaDoorHw Go.Proofs.YtmnddfiidnemiaaDoorPl Go.Proofs.YtmnddfiidnemiaaDoorW.PrintWords
def txt (l : List UInt8) : ByteArray := ⟨l.toArray⟩
theorem txt_size (l : List UInt8) : (txt l).size = l.length := by
  show l.toArray.size = l.length
  rw [List.size_toArray]
theorem txt_append (a b : List UInt8) : txt (a ++ b) = txt a ++ txt b := by
  apply ByteArray.ext
  simp [txt, ByteArray.data_append]
theorem txt_data (s : ByteArray) : txt s.data.toList = s := by
  apply ByteArray.ext
  simp [txt]
/-- Texts with a sign between them. -/
def joined (ws : List ByteArray) (sep : List UInt8) : List UInt8 := Lib.join (ws.map (·.data.toList)) sep
theorem joined_one (w : ByteArray) (sep : List UInt8) : joined [w] sep = w.data.toList := by
  unfold joined
  rw [List.map_cons, List.map_nil, Lib.join_one]
theorem joined_snoc (ws : List ByteArray) (w : ByteArray) (sep : List UInt8) (h : ws ≠ []) : joined (ws ++ [w]) sep = joined ws sep ++ (sep ++ w.data.toList) := by
  cases ws with
  | nil => exact absurd rfl h
  | cons x r =>
    unfold joined
    rw [List.cons_append, List.map_cons, List.map_cons, Lib.join_cons, Lib.join_cons]
    unfold Lib.joinTail
    simp
theorem txt_joined_snoc (ws : List ByteArray) (w sep : ByteArray) (h : ws ≠ []) : txt (joined (ws ++ [w]) sep.data.toList) = txt (joined ws sep.data.toList) ++ (sep ++ w) := by
  rw [joined_snoc ws w _ h, txt_append, txt_append, txt_data, txt_data]
end Go.Proofs.YtmnddfiidnemiaaDoor.Q
