-- Written by a program of this claim's author (a driver over the kit's print). Lean checks it.
import Derived.Test.YtoepojgolefgkaaDoorProg
import Derived.Below
import Derived.Deep.Draws
import Derived.Deep.AppendLies
import Derived.Maps.AppendAt
import Derived.OwnWalk
import Derived.Laws.BytesArg
import Derived.Laws.MakeOwn
import Derived.Laws.OwnMore
import Derived.Deep.OwnRows
import Derived.Tactics
import Derived.Lib.ConvBytes
import Derived.Laws.Slices
import Derived.WalkKit
import Derived.KernelRfl
import Derived.RowKit3
import Derived.Deep.LoopGhost
import Derived.Deep.QuietTactic
import Derived.BigQuiet
import Derived.WideLaws
import Derived.Deep.DeepCutAuto
import Derived.Deep.CutBlock
import Derived.Deep.RegionHeld3
import Derived.Laws.Rows
import Derived.Lib.AppendStr
import Derived.ArgAppend
import Derived.Laws.IdiomCopy
import Derived.OrdersHeld
import Derived.Laws.BitsLemmas
import Derived.RowKit
import Derived.Lib.Bytealg
import Derived.Test.YtoepojgolefgkaaDoorHw
import Derived.Test.YtoepojgolefgkaaDoorShelf
import Derived.Test.YtoepojgolefgkaaDoorHl
import Derived.Test.YtoepojgolefgkaaDoorHz
import Derived.Test.YtoepojgolefgkaaDoorWWords
import Derived.Test.YtoepojgolefgkaaDoorWLast
import Derived.Test.YtoepojgolefgkaaDoorWTab
import Derived.Test.YtoepojgolefgkaaDoorWQPut
import Derived.Test.YtoepojgolefgkaaDoorWApart
import Derived.Test.YtoepojgolefgkaaDoorWArr
import Derived.Test.YtoepojgolefgkaaDoorWZeros
import Derived.Test.YtoepojgolefgkaaDoorWFoot
import Derived.Test.YtoepojgolefgkaaDoorWKept
import Derived.Test.YtoepojgolefgkaaDoorWShare
import Derived.Test.YtoepojgolefgkaaDoorWN
import Derived.Test.YtoepojgolefgkaaDoorWEqStruct
import Derived.Test.YtoepojgolefgkaaDoorWRepsOne
import Derived.Test.YtoepojgolefgkaaDoorWGuard
import Derived.Test.YtoepojgolefgkaaDoorWNEv
import Derived.Test.YtoepojgolefgkaaDoorWMore
namespace Go.Proofs.YtoepojgolefgkaaDoor.F
open Go.RowKit Go.Proofs.YtoepojgolefgkaaDoorHw Go.Proofs.YtoepojgolefgkaaDoorHl Go.Proofs.YtoepojgolefgkaaDoorHz Go.Proofs.YtoepojgolefgkaaDoorW.PrintWords Go.Proofs.YtoepojgolefgkaaDoorW.PrintLast Go.Proofs.YtoepojgolefgkaaDoorW.PrintMore
attribute [local go_sem] max2_int min2_int max_two min_two max_three min_three max_four min_four   -- for this text's walks alone
set_option linter.unusedVariables false
set_option linter.unusedSimpArgs false



def errW : Option Int → Value
  | none => .nilIface
  | some c => .iface 0 (.int .i64 c)
theorem errW_none : errW none = .nilIface := rfl
theorem errW_some (c : Int) : errW (some c) = .iface 0 (.int .i64 c) := rfl

theorem info9 : (Tryd.prog.info? 9).map (fun i => (i.zero, i.size, i.bytes)) = some (some (.string ⟨#[]⟩), 1, 16) := by kernel_rfl
-- the values' own types

end Go.Proofs.YtoepojgolefgkaaDoor.F
