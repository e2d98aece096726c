/- Hexadecimal digits: the reference's and the program's readings are one. No condition. -/
import Derived.Test.YtehflacblgliiaaDoorF1
import Derived.Test.YtehflacblgliiaaDoorF2
import Derived.Test.YtehflacblgliiaaDoorPl
namespace Go.Proofs.YtehflacblgliiaaDoor.Q
set_option linter.unusedVariables false
set_option linter.unusedSimpArgs false
open Go.RowKit Go.Proofs.YtehflacblgliiaaDoor.F Go.Proofs.YtehflacblgliiaaDoorHw Go.Proofs.YtehflacblgliiaaDoorPl Go.Proofs.YtehflacblgliiaaDoorW.PrintWords
set_option maxRecDepth 100000 in
theorem hex_byte : ∀ b : Fin 256, spec_l1Hex.f 1 (b.val : Int) = impl_hexValue.f (b.val : Int) ∧ ((impl_hexValue.f (b.val : Int)).map fun h => decide (-1 ≤ h) && decide (h ≤ 15)) = some true := by decide +kernel
theorem hex_at (s : ByteArray) (i : Int) : ∃ h : Int, Ev (fun k => spec_l1Hex.f k (bt s i)) h ∧ impl_hexValue.f (bt s i) = some h ∧ -1 ≤ h ∧ h ≤ 15 := by
  obtain ⟨b, hb⟩ := bt_byte s i
  obtain ⟨h1, h2⟩ := hex_byte b
  rw [← hb] at h1 h2
  obtain ⟨h, e, h3⟩ := Option.map_eq_some_iff.1 h2
  simp only [Bool.and_eq_true, decide_eq_true_eq] at h3
  exact ⟨h, Ev.of (fun k => spec_l1Hex.mono _ k) (h1.trans e), e, h3.1, h3.2⟩
theorem or4 {x t : Int} (h0 : 0 ≤ x) (h1 : x < 4611686018427387904) (h2 : x % 16 = 0) (h3 : 0 ≤ t) (h4 : t < 16) : Go.bits .or .i64 x t = x + t := by
  have e : (2 : Int) ^ 62 = 4611686018427387904 := by decide
  exact Go.bits_join .i64 62 (by decide) (fun n a b => by rw [e] at b; rw [Go.IntKind.wrap_i64]; omega) 4 x t h0 (by simpa using h2) (by rw [e]; exact h1) h3 (by simpa using h4) (by rw [e]; omega)
end Go.Proofs.YtehflacblgliiaaDoor.Q
