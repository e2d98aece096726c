/-
  No cell of these rows narrows 'for every input' (looked for: loops, veiled, ifaces, maps, wideKeys, modest, calm, conditions, laid).
  DERIVED. THE GIVEN ROWS OF THIS SEAT. 3 by the template 'for every input the law returns true; each argument reads behind the call as it read before'; 0 by the template 'total and deterministic' (their statements: YtehflacblgliiaaTotals.lean).
  GIVEN WITH THE SEED: the statements are not yours to turn. If you find one false, say at which input.
  Laid BY PROGRAM, IN A SANDBOX (cutbox-rows.mjs): the forced cells as the released guide's own fill.sh prints them over the translation 9d2052a37cf231c0… (all of the seat's roots in one cut). By AI agents, Wed Nov 11 2026. No macro, syntax, notation, axiom, sorry.
-/
import Derived.Test.YtehflacblgliiaaChecked
import GoSem.Claim
import GoSem.ClaimJoined
import GoSem.ClaimMapViews
import Derived.JoinedTies
import Derived.KernelRfl
namespace Go.Proofs.Ytehflacblgliiaa
/- THE CELL 'sum', in the pinned program and in every row, IS THE sha256 OF THE DUMP (.gsa) THAT YtehflacblgliiaaProg.lean LOADS. Nothing in Lean hashes anything: it is a label: what it is worth is what the hold of that sum in a sandbox is worth. -/
noncomputable def Try.pinned : Pinned := { name := "ytehflacblgliiaa", sum := "9d2052a37cf231c09d71db63b10646e81d9daa066583b9af986863e588cc0a28", checked := Try.checked }
namespace Rows
def none {H : Type} : Left H := { results := [], args := [] }

/-- 'laws.FnExactPercentDecode': WHATEVER THE INPUT: true; the input reads as it did. -/
def fnExactPercentDecodeSpec : ChangeSpec := { name := "fnExactPercentDecode", fn := fun _ => fun
  | [d] => { results := [.lit (.bool true)], args := [d] }
  | _ => none }
def fnExactPercentDecodeRow : OpenClaim := { program := "ytehflacblgliiaa", sum := "9d2052a37cf231c09d71db63b10646e81d9daa066583b9af986863e588cc0a28", func := "loop.example/g00256/laws.FnExactPercentDecode", spec := "fnExactPercentDecode", apart := false }
def FnExactPercentDecodeSaid : Prop := fnExactPercentDecodeRow.holds Try.pinned (OpenSpec.ofChange fnExactPercentDecodeSpec)

/-- ITS FALSE NEIGHBOUR: 'it returns false'. Refute it at one input. -/
def fnExactPercentDecodeWrong : ChangeSpec := { name := "fnExactPercentDecode", fn := fun _ => fun
  | [d] => { results := [.lit (.bool false)], args := [d] }
  | _ => none }
def FnExactPercentDecodeWrongFalsely : Prop := fnExactPercentDecodeRow.holds Try.pinned (OpenSpec.ofChange fnExactPercentDecodeWrong)

/-- 'laws.FnExactSecondsOf': WHATEVER THE INPUT: true; the input reads as it did. -/
def fnExactSecondsOfSpec : ChangeSpec := { name := "fnExactSecondsOf", fn := fun _ => fun
  | [d] => { results := [.lit (.bool true)], args := [d] }
  | _ => none }
def fnExactSecondsOfRow : OpenClaim := { program := "ytehflacblgliiaa", sum := "9d2052a37cf231c09d71db63b10646e81d9daa066583b9af986863e588cc0a28", func := "loop.example/g00256/laws.FnExactSecondsOf", spec := "fnExactSecondsOf", unfollowed := true, recurses := true, apart := false }
def FnExactSecondsOfSaid : Prop := fnExactSecondsOfRow.holds Try.pinned (OpenSpec.ofChange fnExactSecondsOfSpec)

/-- ITS FALSE NEIGHBOUR: 'it returns false'. Refute it at one input. -/
def fnExactSecondsOfWrong : ChangeSpec := { name := "fnExactSecondsOf", fn := fun _ => fun
  | [d] => { results := [.lit (.bool false)], args := [d] }
  | _ => none }
def FnExactSecondsOfWrongFalsely : Prop := fnExactSecondsOfRow.holds Try.pinned (OpenSpec.ofChange fnExactSecondsOfWrong)

/-- 'laws.FnExactDateAt': WHATEVER THE INPUT: true; the input reads as it did. -/
def fnExactDateAtSpec : ChangeSpec := { name := "fnExactDateAt", fn := fun _ => fun
  | [d] => { results := [.lit (.bool true)], args := [d] }
  | _ => none }
def fnExactDateAtRow : OpenClaim := { program := "ytehflacblgliiaa", sum := "9d2052a37cf231c09d71db63b10646e81d9daa066583b9af986863e588cc0a28", func := "loop.example/g00256/laws.FnExactDateAt", spec := "fnExactDateAt", unfollowed := true, recurses := true, apart := false }
def FnExactDateAtSaid : Prop := fnExactDateAtRow.holds Try.pinned (OpenSpec.ofChange fnExactDateAtSpec)

/-- ITS FALSE NEIGHBOUR: 'it returns false'. Refute it at one input. -/
def fnExactDateAtWrong : ChangeSpec := { name := "fnExactDateAt", fn := fun _ => fun
  | [d] => { results := [.lit (.bool false)], args := [d] }
  | _ => none }
def FnExactDateAtWrongFalsely : Prop := fnExactDateAtRow.holds Try.pinned (OpenSpec.ofChange fnExactDateAtWrong)

/- THE SECOND FORM. 'bulk': how many values and letters a reading holds, each counted each time it is reached (what is shared counts as often as it is met; a slice's spare places count too). A statement '..UptoSaid' is the law's where the arguments, and the package variables that the reading takes, are together of bulk at most 1048576: NARROWER than '..Said'. Prove '..Said' where nothing that the law and all that it calls make is longer than what came in: it says more and counts as full. Else prove '..UptoSaid'. A law counts once. -/
mutual
def uptoBulk {H : Type} : DataW H → Nat
  | .lit (.string bytes) => bytes.length + 1
  | .lit _ => 1
  | .nil => 1
  | .ptr d => uptoBulk d + 1
  | .slice elems spare => uptoBulkAll elems + uptoBulkAll spare + 1
  | .agg parts => uptoBulkAll parts + 1
  | .iface _ d => uptoBulk d + 1
  | .map entries => uptoBulkEntries entries + 1
  | .held _ => 1
def uptoBulkAll {H : Type} : List (DataW H) → Nat
  | [] => 0
  | d :: r => uptoBulk d + uptoBulkAll r
def uptoBulkEntries {H : Type} : List (Lit × DataW H) → Nat
  | [] => 0
  | x :: r => uptoBulkEntry x + uptoBulkEntries r
def uptoBulkEntry {H : Type} : Lit × DataW H → Nat
  | (.string bytes, d) => bytes.length + uptoBulk d + 1
  | (_, d) => uptoBulk d + 1
 end
def uptoSmall : (H : Type) → List (DataW H) → Bool := fun _ ds => decide (uptoBulkAll ds ≤ 1048576)
def OpenSpec.upto (s : _root_.Go.ChangeSpec) : _root_.Go.OpenSpec := { _root_.Go.OpenSpec.ofChange s with cond := some uptoSmall }

/-- 'laws.FnExactPercentDecode', WHERE WHAT IT READS IS OF BULK AT MOST 1048576: true; the input reads as it did. -/
def fnExactPercentDecodeUptoRow : OpenClaim := { program := "ytehflacblgliiaa", sum := "9d2052a37cf231c09d71db63b10646e81d9daa066583b9af986863e588cc0a28", func := "loop.example/g00256/laws.FnExactPercentDecode", spec := "fnExactPercentDecode", apart := false, narrowed := true }
def FnExactPercentDecodeUptoSaid : Prop := fnExactPercentDecodeUptoRow.holds Try.pinned (OpenSpec.upto fnExactPercentDecodeSpec)

/-- 'laws.FnExactSecondsOf', WHERE WHAT IT READS IS OF BULK AT MOST 1048576: true; the input reads as it did. -/
def fnExactSecondsOfUptoRow : OpenClaim := { program := "ytehflacblgliiaa", sum := "9d2052a37cf231c09d71db63b10646e81d9daa066583b9af986863e588cc0a28", func := "loop.example/g00256/laws.FnExactSecondsOf", spec := "fnExactSecondsOf", unfollowed := true, recurses := true, apart := false, narrowed := true }
def FnExactSecondsOfUptoSaid : Prop := fnExactSecondsOfUptoRow.holds Try.pinned (OpenSpec.upto fnExactSecondsOfSpec)

/-- 'laws.FnExactDateAt', WHERE WHAT IT READS IS OF BULK AT MOST 1048576: true; the input reads as it did. -/
def fnExactDateAtUptoRow : OpenClaim := { program := "ytehflacblgliiaa", sum := "9d2052a37cf231c09d71db63b10646e81d9daa066583b9af986863e588cc0a28", func := "loop.example/g00256/laws.FnExactDateAt", spec := "fnExactDateAt", unfollowed := true, recurses := true, apart := false, narrowed := true }
def FnExactDateAtUptoSaid : Prop := fnExactDateAtUptoRow.holds Try.pinned (OpenSpec.upto fnExactDateAtSpec)

end Rows
end Go.Proofs.Ytehflacblgliiaa
