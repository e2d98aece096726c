/- The test of an address's size that the laws begin with. No condition. -/
import Derived.Test.YtehflacblgliiaaDoorF1
import Derived.Test.YtehflacblgliiaaDoorPl
namespace Go.Proofs.YtehflacblgliiaaDoor.Q
set_option linter.unusedVariables false
set_option linter.unusedSimpArgs false
open Go.RowKit Go.Proofs.YtehflacblgliiaaDoor.F Go.Proofs.YtehflacblgliiaaDoorHw Go.Proofs.YtehflacblgliiaaDoorPl Go.Proofs.YtehflacblgliiaaDoorW.PrintWords
/-- The test of sizes that the laws begin with. -/
theorem sz_url (a b : ByteArray) (n : Int) (c d : ByteArray) (e : Bool) (ha : a.size ≤ 9223372036854775807) (hb : b.size ≤ 9223372036854775807) (hc : c.size ≤ 9223372036854775807) (hd : d.size ≤ 9223372036854775807) (x : Int) (h0 : 0 ≤ x) (h1 : x ≤ 1048576) :
    ∃ t : Int, laws_szUrl.f a b n c d e x = some t ∧ t ≤ x ∧ (¬ t < 0 → a.size ≤ 1048576 ∧ b.size ≤ 1048576 ∧ c.size ≤ 1048576 ∧ d.size ≤ 1048576) := by
  unfold laws_szUrl.f
  have e1 : wrap64 (x - (a.size : Int)) = x - (a.size : Int) := wrap_id (by omega) (by omega)
  rw [e1]
  by_cases g1 : x - (a.size : Int) < 0
  · rw [if_pos g1]; exact ⟨-1, rfl, by omega, fun h => absurd (by decide) h⟩
  have e2 : wrap64 (x - (a.size : Int) - (b.size : Int)) = x - (a.size : Int) - (b.size : Int) := wrap_id (by omega) (by omega)
  rw [if_neg g1, e2]
  by_cases g2 : x - (a.size : Int) - (b.size : Int) < 0
  · rw [if_pos g2]; exact ⟨-1, rfl, by omega, fun h => absurd (by decide) h⟩
  have e3 : wrap64 (x - (a.size : Int) - (b.size : Int) - (c.size : Int)) = x - (a.size : Int) - (b.size : Int) - (c.size : Int) := wrap_id (by omega) (by omega)
  rw [if_neg g2, e3]
  by_cases g3 : x - (a.size : Int) - (b.size : Int) - (c.size : Int) < 0
  · rw [if_pos g3]; exact ⟨-1, rfl, by omega, fun h => absurd (by decide) h⟩
  have e4 : wrap64 (x - (a.size : Int) - (b.size : Int) - (c.size : Int) - (d.size : Int)) = x - (a.size : Int) - (b.size : Int) - (c.size : Int) - (d.size : Int) := wrap_id (by omega) (by omega)
  rw [if_neg g3, e4]
  by_cases g4 : x - (a.size : Int) - (b.size : Int) - (c.size : Int) - (d.size : Int) < 0
  · rw [if_pos g4]; exact ⟨-1, rfl, by omega, fun h => absurd (by decide) h⟩
  · rw [if_neg g4]; exact ⟨_, rfl, by omega, fun _ => ⟨by omega, by omega, by omega, by omega⟩⟩
end Go.Proofs.YtehflacblgliiaaDoor.Q
