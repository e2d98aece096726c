/- What the library's variables hold, and that it lasts: facts on worlds. No condition. -/
import Derived.Test.YtoepojgolefgkaaDoorProg
import Derived.Lib.SmallJoins
import Derived.Lib.LaidTab
import Derived.Lib.ItoaMem
import Derived.Below
import Derived.Test.YtoepojgolefgkaaDoorShelf
namespace Go.Proofs.YtoepojgolefgkaaDoorHl
set_option linter.unusedVariables false
set_option linter.unusedSimpArgs false
open Go.RowKit
/-- internal/bytealg.MaxLen holds some int. -/
def LaidM (w : World) : Prop := ∃ m : Int, w.cell? ⟨1, 0, none⟩ = some (.int .i64 m)
theorem LaidM.to {w w' : World} (h : LaidM w) (hb : Below w.heap.size w w') : LaidM w' := by
  obtain ⟨m, hm⟩ := h
  exact ⟨m, (hb.cell (World.block_lt_of_cell? w _ hm)).trans hm⟩
/-- internal/strconv's table of powers of ten. -/
def LaidP (w : World) : Prop := Lib.TabIs Tryd.prog w "internal/strconv.uint64pow10" .u64 Lib.pow10Tab
theorem LaidP.to {w w' : World} (h : LaidP w) (hb : Below w.heap.size w w') : LaidP w' :=
  Joins.tab_stays (g := 0) (by kernel_rfl) h hb (Nat.le_refl _)
/-- math/bits' table of 64 places: what stands at the place that 16 leads to. -/
def LaidB (w : World) : Prop := w.cell? ⟨3, 15, none⟩ = some (.int .u8 4)
theorem LaidB.to {w w' : World} (h : LaidB w) (hb : Below w.heap.size w w') : LaidB w' := (hb.cell (World.block_lt_of_cell? w _ h)).trans h
end Go.Proofs.YtoepojgolefgkaaDoorHl
