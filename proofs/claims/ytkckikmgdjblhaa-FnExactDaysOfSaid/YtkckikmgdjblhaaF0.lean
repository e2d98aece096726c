-- Written by a program of this claim's author (a driver over the kit's print). Lean checks it.
import Derived.Test.YtkckikmgdjblhaaProg
import Derived.Below
import Derived.Deep.Draws
import Derived.Deep.AppendLies
import Derived.Maps.AppendAt
import Derived.OwnWalk
import Derived.Laws.BytesArg
import Derived.Laws.MakeOwn
import Derived.Laws.OwnMore
import Derived.Deep.OwnRows
import Derived.Tactics
import Derived.Lib.ConvBytes
import Derived.Laws.Slices
import Derived.WalkKit
import Derived.KernelRfl
import Derived.RowKit3
import Derived.Deep.LoopGhost
import Derived.Deep.QuietTactic
import Derived.BigQuiet
import Derived.WideLaws
import Derived.Deep.DeepCutAuto
import Derived.Deep.CutBlock
import Derived.Deep.RegionHeld3
import Derived.Laws.Rows
import Derived.Lib.AppendStr
import Derived.ArgAppend
import Derived.Laws.IdiomCopy
import Derived.OrdersHeld
import Derived.Laws.BitsLemmas
import Derived.RowKit
import Derived.Lib.Bytealg
import Derived.Test.YtkckikmgdjblhaaHw
import Derived.Test.YtkckikmgdjblhaaWWords
import Derived.Test.YtkckikmgdjblhaaWLast
import Derived.Test.YtkckikmgdjblhaaWTab
import Derived.Test.YtkckikmgdjblhaaWFour
import Derived.Test.YtkckikmgdjblhaaWQPut
import Derived.Test.YtkckikmgdjblhaaWApart
import Derived.Test.YtkckikmgdjblhaaWArr
import Derived.Test.YtkckikmgdjblhaaWZeros
import Derived.Test.YtkckikmgdjblhaaWFoot
import Derived.Test.YtkckikmgdjblhaaWKept
import Derived.Test.YtkckikmgdjblhaaWShare
import Derived.Test.YtkckikmgdjblhaaWN
import Derived.Test.YtkckikmgdjblhaaWFootNe
import Derived.Test.YtkckikmgdjblhaaWAt
import Derived.Test.YtkckikmgdjblhaaWEqStruct
import Derived.Test.YtkckikmgdjblhaaWRepsOne
import Derived.Test.YtkckikmgdjblhaaWInv
import Derived.Test.YtkckikmgdjblhaaWInvWords
import Derived.Test.YtkckikmgdjblhaaWGuard
import Derived.Test.YtkckikmgdjblhaaWNEv
import Derived.Test.YtkckikmgdjblhaaWMore
namespace Go.Proofs.Ytkckikmgdjblhaa.F
open Go.RowKit Go.Proofs.YtkckikmgdjblhaaHw Go.Proofs.YtkckikmgdjblhaaW.PrintWords Go.Proofs.YtkckikmgdjblhaaW.PrintLast Go.Proofs.YtkckikmgdjblhaaW.PrintMore
attribute [local go_sem] max2_int min2_int max_two min_two max_three min_three max_four min_four   -- for this text's walks alone
set_option linter.unusedVariables false
set_option linter.unusedSimpArgs false



def errW : Option Int → Value
  | none => .nilIface
  | some c => .iface 0 (.int .i64 c)
theorem errW_none : errW none = .nilIface := rfl
theorem errW_some (c : Int) : errW (some c) = .iface 0 (.int .i64 c) := rfl

theorem info5 : (Try.prog.info? 5).map (fun i => (i.zero, i.size, i.bytes)) = some (some (.int .u8 0), 1, 1) := by kernel_rfl
-- the values' own types

end Go.Proofs.Ytkckikmgdjblhaa.F
