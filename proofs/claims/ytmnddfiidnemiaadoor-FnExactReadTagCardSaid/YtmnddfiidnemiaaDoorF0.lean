-- Written by a program of this claim's author (a driver over the kit's print). Lean checks it.
import Derived.Test.YtmnddfiidnemiaaDoorProg
import Derived.Below
import Derived.Deep.Draws
import Derived.Deep.AppendLies
import Derived.Maps.AppendAt
import Derived.OwnWalk
import Derived.Laws.BytesArg
import Derived.Laws.MakeOwn
import Derived.Laws.OwnMore
import Derived.Deep.OwnRows
import Derived.Tactics
import Derived.Lib.ConvBytes
import Derived.Laws.Slices
import Derived.WalkKit
import Derived.KernelRfl
import Derived.RowKit3
import Derived.Deep.LoopGhost
import Derived.Deep.QuietTactic
import Derived.BigQuiet
import Derived.WideLaws
import Derived.Deep.DeepCutAuto
import Derived.Deep.CutBlock
import Derived.Deep.RegionHeld3
import Derived.Laws.Rows
import Derived.Lib.AppendStr
import Derived.ArgAppend
import Derived.Laws.IdiomCopy
import Derived.OrdersHeld
import Derived.Laws.BitsLemmas
import Derived.RowKit
import Derived.Lib.Bytealg
import Derived.Test.YtmnddfiidnemiaaDoorHw
import Derived.Test.YtmnddfiidnemiaaDoorShelf
import Derived.Test.YtmnddfiidnemiaaDoorHl
import Derived.Test.YtmnddfiidnemiaaDoorHz
import Derived.Test.YtmnddfiidnemiaaDoorWWords
import Derived.Test.YtmnddfiidnemiaaDoorWLast
import Derived.Test.YtmnddfiidnemiaaDoorWTab
import Derived.Test.YtmnddfiidnemiaaDoorWQPut
import Derived.Test.YtmnddfiidnemiaaDoorWApart
import Derived.Test.YtmnddfiidnemiaaDoorWArr
import Derived.Test.YtmnddfiidnemiaaDoorWZeros
import Derived.Test.YtmnddfiidnemiaaDoorWFoot
import Derived.Test.YtmnddfiidnemiaaDoorWKept
import Derived.Test.YtmnddfiidnemiaaDoorWShare
import Derived.Test.YtmnddfiidnemiaaDoorWN
import Derived.Test.YtmnddfiidnemiaaDoorWEqStruct
import Derived.Test.YtmnddfiidnemiaaDoorWRepsOne
import Derived.Test.YtmnddfiidnemiaaDoorWGuard
import Derived.Test.YtmnddfiidnemiaaDoorWNEv
import Derived.Test.YtmnddfiidnemiaaDoorWMore
namespace Go.Proofs.YtmnddfiidnemiaaDoor.F
open Go.RowKit Go.Proofs.YtmnddfiidnemiaaDoorHw Go.Proofs.YtmnddfiidnemiaaDoorHl Go.Proofs.YtmnddfiidnemiaaDoorHz Go.Proofs.YtmnddfiidnemiaaDoorW.PrintWords Go.Proofs.YtmnddfiidnemiaaDoorW.PrintLast Go.Proofs.YtmnddfiidnemiaaDoorW.PrintMore
attribute [local go_sem] max2_int min2_int max_two min_two max_three min_three max_four min_four   -- for this text's walks alone
set_option linter.unusedVariables false
set_option linter.unusedSimpArgs false



def errW : Option Int → Value
  | none => .nilIface
  | some c => .iface 0 (.int .i64 c)
theorem errW_none : errW none = .nilIface := rfl
theorem errW_some (c : Int) : errW (some c) = .iface 0 (.int .i64 c) := rfl

-- the values' own types

end Go.Proofs.YtmnddfiidnemiaaDoor.F
