-- Written by a program of this claim's author (a driver over the kit's print). Lean checks it.
import Derived.Test.YtehflacblgliiaaDoorProg
import Derived.Below
import Derived.Deep.Draws
import Derived.Deep.AppendLies
import Derived.Maps.AppendAt
import Derived.OwnWalk
import Derived.Laws.BytesArg
import Derived.Laws.MakeOwn
import Derived.Laws.OwnMore
import Derived.Deep.OwnRows
import Derived.Tactics
import Derived.Lib.ConvBytes
import Derived.Laws.Slices
import Derived.WalkKit
import Derived.KernelRfl
import Derived.RowKit3
import Derived.Deep.LoopGhost
import Derived.Deep.QuietTactic
import Derived.BigQuiet
import Derived.WideLaws
import Derived.Deep.DeepCutAuto
import Derived.Deep.CutBlock
import Derived.Deep.RegionHeld3
import Derived.Laws.Rows
import Derived.Lib.AppendStr
import Derived.ArgAppend
import Derived.Laws.IdiomCopy
import Derived.OrdersHeld
import Derived.Laws.BitsLemmas
import Derived.RowKit
import Derived.Lib.Bytealg
import Derived.Test.YtehflacblgliiaaDoorHw
import Derived.Test.YtehflacblgliiaaDoorShelf
import Derived.Test.YtehflacblgliiaaDoorHl
import Derived.Test.YtehflacblgliiaaDoorHz
import Derived.Test.YtehflacblgliiaaDoorWWords
import Derived.Test.YtehflacblgliiaaDoorWLast
import Derived.Test.YtehflacblgliiaaDoorWTab
import Derived.Test.YtehflacblgliiaaDoorWQPut
import Derived.Test.YtehflacblgliiaaDoorWApart
import Derived.Test.YtehflacblgliiaaDoorWArr
import Derived.Test.YtehflacblgliiaaDoorWZeros
import Derived.Test.YtehflacblgliiaaDoorWFoot
import Derived.Test.YtehflacblgliiaaDoorWKept
import Derived.Test.YtehflacblgliiaaDoorWShare
import Derived.Test.YtehflacblgliiaaDoorWN
import Derived.Test.YtehflacblgliiaaDoorWEqStruct
import Derived.Test.YtehflacblgliiaaDoorWRepsOne
import Derived.Test.YtehflacblgliiaaDoorWGuard
import Derived.Test.YtehflacblgliiaaDoorWNEv
import Derived.Test.YtehflacblgliiaaDoorWMore
namespace Go.Proofs.YtehflacblgliiaaDoor.F
open Go.RowKit Go.Proofs.YtehflacblgliiaaDoorHw Go.Proofs.YtehflacblgliiaaDoorHl Go.Proofs.YtehflacblgliiaaDoorHz Go.Proofs.YtehflacblgliiaaDoorW.PrintWords Go.Proofs.YtehflacblgliiaaDoorW.PrintLast Go.Proofs.YtehflacblgliiaaDoorW.PrintMore
attribute [local go_sem] max2_int min2_int max_two min_two max_three min_three max_four min_four   -- for this text's walks alone
set_option linter.unusedVariables false
set_option linter.unusedSimpArgs false



def errW : Option Int → Value
  | none => .nilIface
  | some c => .iface 0 (.int .i64 c)
theorem errW_none : errW none = .nilIface := rfl
theorem errW_some (c : Int) : errW (some c) = .iface 0 (.int .i64 c) := rfl

theorem info5 : (Tryd.prog.info? 5).map (fun i => (i.zero, i.size, i.bytes)) = some (some (.int .u8 0), 1, 1) := by kernel_rfl
theorem info9 : (Tryd.prog.info? 9).map (fun i => (i.zero, i.size, i.bytes)) = some (some (.string ⟨#[]⟩), 1, 16) := by kernel_rfl
-- the values' own types

end Go.Proofs.YtehflacblgliiaaDoor.F
