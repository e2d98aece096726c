/- What the library's variables hold, and that it lasts: facts on worlds. No condition. -/
import Derived.Test.YtebdamodeonbeaaGreatDoorProg
import Derived.Lib.SmallJoins
import Derived.Lib.LaidTab
import Derived.Lib.ItoaMem
import Derived.Below
import Derived.Test.YtebdamodeonbeaaGreatDoorShelf
namespace Go.Proofs.YtebdamodeonbeaaGreatDoorHl
set_option linter.unusedVariables false
set_option linter.unusedSimpArgs false
open Go.RowKit
/-- internal/bytealg.MaxLen holds some int. -/
def LaidM (w : World) : Prop := ∃ m : Int, w.cell? ⟨1, 0, none⟩ = some (.int .i64 m)
theorem LaidM.to {w w' : World} (h : LaidM w) (hb : Below w.heap.size w w') : LaidM w' := by
  obtain ⟨m, hm⟩ := h
  exact ⟨m, (hb.cell (World.block_lt_of_cell? w _ hm)).trans hm⟩
/-- internal/strconv's table of powers of ten. -/
def LaidP (w : World) : Prop := Lib.TabIs Tryz.prog w "internal/strconv.uint64pow10" .u64 Lib.pow10Tab
theorem LaidP.to {w w' : World} (h : LaidP w) (hb : Below w.heap.size w w') : LaidP w' :=
  Joins.tab_stays (g := 0) (by kernel_rfl) h hb (Nat.le_refl _)
/-- strconv's two errors hold interface values. -/
def LaidE (w : World) : Prop := (∃ ev, w.cell? ⟨2, 0, none⟩ = some ev ∧ (ev = .nilIface ∨ ∃ te pe, ev = .iface te pe)) ∧ (∃ ev, w.cell? ⟨3, 0, none⟩ = some ev ∧ (ev = .nilIface ∨ ∃ te pe, ev = .iface te pe))
theorem LaidE.to {w w' : World} (h : LaidE w) (hb : Below w.heap.size w w') : LaidE w' := by
  obtain ⟨⟨e, h1, h2⟩, ⟨f, h3, h4⟩⟩ := h
  exact ⟨⟨e, (hb.cell (World.block_lt_of_cell? w _ h1)).trans h1, h2⟩, ⟨f, (hb.cell (World.block_lt_of_cell? w _ h3)).trans h3, h4⟩⟩
/-- math/bits' table of 64 places: what stands at the place that 16 leads to. -/
def LaidB (w : World) : Prop := w.cell? ⟨7, 15, none⟩ = some (.int .u8 4)
theorem LaidB.to {w w' : World} (h : LaidB w) (hb : Below w.heap.size w w') : LaidB w' := (hb.cell (World.block_lt_of_cell? w _ h)).trans h
end Go.Proofs.YtebdamodeonbeaaGreatDoorHl
