/-
  No cell of these rows narrows 'for every input' (looked for: loops, veiled, ifaces, maps, wideKeys, modest, calm, conditions, laid).
  DERIVED. THE GIVEN ROWS OF THIS SEAT. 4 by the template 'for every input the law returns true; each argument reads behind the call as it read before'; 0 by the template 'total and deterministic' (their statements: YtchlnmkjfjdamaaTotals.lean).
  GIVEN WITH THE SEED: the statements are not yours to turn. If you find one false, say at which input.
  Laid BY PROGRAM, IN A SANDBOX (cutbox-rows.mjs): the forced cells as the released guide's own fill.sh prints them over the translation 21602e123df37fa8… (all of the seat's roots in one cut). By AI agents, Wed Nov 11 2026. No macro, syntax, notation, axiom, sorry.
-/
import Derived.Test.YtchlnmkjfjdamaaChecked
import GoSem.Claim
import GoSem.ClaimJoined
import GoSem.ClaimMapViews
import Derived.JoinedTies
import Derived.KernelRfl
namespace Go.Proofs.Ytchlnmkjfjdamaa
/- THE CELL 'sum', in the pinned program and in every row, IS THE sha256 OF THE DUMP (.gsa) THAT YtchlnmkjfjdamaaProg.lean LOADS. Nothing in Lean hashes anything: it is a label: what it is worth is what the hold of that sum in a sandbox is worth. -/
noncomputable def Try.pinned : Pinned := { name := "ytchlnmkjfjdamaa", sum := "21602e123df37fa8e39493d5cb684f383b21c0a2bb0cafe770347f7bfe98b62f", checked := Try.checked }
namespace Rows
def none {H : Type} : Left H := { results := [], args := [] }

/-- 'laws.FnExactUnquoteOf': WHATEVER THE INPUT: true; the input reads as it did. -/
def fnExactUnquoteOfSpec : ChangeSpec := { name := "fnExactUnquoteOf", fn := fun _ => fun
  | [d] => { results := [.lit (.bool true)], args := [d] }
  | _ => none }
def fnExactUnquoteOfRow : OpenClaim := { program := "ytchlnmkjfjdamaa", sum := "21602e123df37fa8e39493d5cb684f383b21c0a2bb0cafe770347f7bfe98b62f", func := "loop.example/g00256/laws.FnExactUnquoteOf", spec := "fnExactUnquoteOf", unfollowed := true, recurses := true, apart := false }
def FnExactUnquoteOfSaid : Prop := fnExactUnquoteOfRow.holds Try.pinned (OpenSpec.ofChange fnExactUnquoteOfSpec)

/-- ITS FALSE NEIGHBOUR: 'it returns false'. Refute it at one input. -/
def fnExactUnquoteOfWrong : ChangeSpec := { name := "fnExactUnquoteOf", fn := fun _ => fun
  | [d] => { results := [.lit (.bool false)], args := [d] }
  | _ => none }
def FnExactUnquoteOfWrongFalsely : Prop := fnExactUnquoteOfRow.holds Try.pinned (OpenSpec.ofChange fnExactUnquoteOfWrong)

/-- 'laws.FnExactPasteSpans': WHATEVER THE INPUT: true; the input reads as it did. -/
def fnExactPasteSpansSpec : ChangeSpec := { name := "fnExactPasteSpans", fn := fun _ => fun
  | [d1, d2, d3] => { results := [.lit (.bool true)], args := [d1, d2, d3] }
  | _ => none }
def fnExactPasteSpansRow : OpenClaim := { program := "ytchlnmkjfjdamaa", sum := "21602e123df37fa8e39493d5cb684f383b21c0a2bb0cafe770347f7bfe98b62f", func := "loop.example/g00256/laws.FnExactPasteSpans", spec := "fnExactPasteSpans", inPlace := ["internal/abi.NoEscape", "internal/bytealg.MakeNoZero"], unfollowed := true, recurses := true, apart := false }
def FnExactPasteSpansSaid : Prop := fnExactPasteSpansRow.holds Try.pinned (OpenSpec.ofChange fnExactPasteSpansSpec)

/-- ITS FALSE NEIGHBOUR: 'it returns false'. Refute it at one input. -/
def fnExactPasteSpansWrong : ChangeSpec := { name := "fnExactPasteSpans", fn := fun _ => fun
  | [d1, d2, d3] => { results := [.lit (.bool false)], args := [d1, d2, d3] }
  | _ => none }
def FnExactPasteSpansWrongFalsely : Prop := fnExactPasteSpansRow.holds Try.pinned (OpenSpec.ofChange fnExactPasteSpansWrong)

/-- 'laws.FnExactCoverOf': WHATEVER THE INPUT: true; the input reads as it did. -/
def fnExactCoverOfSpec : ChangeSpec := { name := "fnExactCoverOf", fn := fun _ => fun
  | [d] => { results := [.lit (.bool true)], args := [d] }
  | _ => none }
def fnExactCoverOfRow : OpenClaim := { program := "ytchlnmkjfjdamaa", sum := "21602e123df37fa8e39493d5cb684f383b21c0a2bb0cafe770347f7bfe98b62f", func := "loop.example/g00256/laws.FnExactCoverOf", spec := "fnExactCoverOf", unfollowed := true, recurses := true, apart := false }
def FnExactCoverOfSaid : Prop := fnExactCoverOfRow.holds Try.pinned (OpenSpec.ofChange fnExactCoverOfSpec)

/-- ITS FALSE NEIGHBOUR: 'it returns false'. Refute it at one input. -/
def fnExactCoverOfWrong : ChangeSpec := { name := "fnExactCoverOf", fn := fun _ => fun
  | [d] => { results := [.lit (.bool false)], args := [d] }
  | _ => none }
def FnExactCoverOfWrongFalsely : Prop := fnExactCoverOfRow.holds Try.pinned (OpenSpec.ofChange fnExactCoverOfWrong)

/-- 'laws.FnExactJoinSpans': WHATEVER THE INPUT: true; the input reads as it did. -/
def fnExactJoinSpansSpec : ChangeSpec := { name := "fnExactJoinSpans", fn := fun _ => fun
  | [d1, d2] => { results := [.lit (.bool true)], args := [d1, d2] }
  | _ => none }
def fnExactJoinSpansRow : OpenClaim := { program := "ytchlnmkjfjdamaa", sum := "21602e123df37fa8e39493d5cb684f383b21c0a2bb0cafe770347f7bfe98b62f", func := "loop.example/g00256/laws.FnExactJoinSpans", spec := "fnExactJoinSpans", unfollowed := true, recurses := true, apart := false }
def FnExactJoinSpansSaid : Prop := fnExactJoinSpansRow.holds Try.pinned (OpenSpec.ofChange fnExactJoinSpansSpec)

/-- ITS FALSE NEIGHBOUR: 'it returns false'. Refute it at one input. -/
def fnExactJoinSpansWrong : ChangeSpec := { name := "fnExactJoinSpans", fn := fun _ => fun
  | [d1, d2] => { results := [.lit (.bool false)], args := [d1, d2] }
  | _ => none }
def FnExactJoinSpansWrongFalsely : Prop := fnExactJoinSpansRow.holds Try.pinned (OpenSpec.ofChange fnExactJoinSpansWrong)

/- THE SECOND FORM. 'bulk': how many values and letters a reading holds, each counted each time it is reached (what is shared counts as often as it is met; a slice's spare places count too). A statement '..UptoSaid' is the law's where the arguments, and the package variables that the reading takes, are together of bulk at most 1048576: NARROWER than '..Said'. Prove '..Said' where nothing that the law and all that it calls make is longer than what came in: it says more and counts as full. Else prove '..UptoSaid'. A law counts once. -/
mutual
def uptoBulk {H : Type} : DataW H → Nat
  | .lit (.string bytes) => bytes.length + 1
  | .lit _ => 1
  | .nil => 1
  | .ptr d => uptoBulk d + 1
  | .slice elems spare => uptoBulkAll elems + uptoBulkAll spare + 1
  | .agg parts => uptoBulkAll parts + 1
  | .iface _ d => uptoBulk d + 1
  | .map entries => uptoBulkEntries entries + 1
  | .held _ => 1
def uptoBulkAll {H : Type} : List (DataW H) → Nat
  | [] => 0
  | d :: r => uptoBulk d + uptoBulkAll r
def uptoBulkEntries {H : Type} : List (Lit × DataW H) → Nat
  | [] => 0
  | x :: r => uptoBulkEntry x + uptoBulkEntries r
def uptoBulkEntry {H : Type} : Lit × DataW H → Nat
  | (.string bytes, d) => bytes.length + uptoBulk d + 1
  | (_, d) => uptoBulk d + 1
 end
def uptoSmall : (H : Type) → List (DataW H) → Bool := fun _ ds => decide (uptoBulkAll ds ≤ 1048576)
def OpenSpec.upto (s : _root_.Go.ChangeSpec) : _root_.Go.OpenSpec := { _root_.Go.OpenSpec.ofChange s with cond := some uptoSmall }

/-- 'laws.FnExactUnquoteOf', WHERE WHAT IT READS IS OF BULK AT MOST 1048576: true; the input reads as it did. -/
def fnExactUnquoteOfUptoRow : OpenClaim := { program := "ytchlnmkjfjdamaa", sum := "21602e123df37fa8e39493d5cb684f383b21c0a2bb0cafe770347f7bfe98b62f", func := "loop.example/g00256/laws.FnExactUnquoteOf", spec := "fnExactUnquoteOf", unfollowed := true, recurses := true, apart := false, narrowed := true }
def FnExactUnquoteOfUptoSaid : Prop := fnExactUnquoteOfUptoRow.holds Try.pinned (OpenSpec.upto fnExactUnquoteOfSpec)

/-- 'laws.FnExactPasteSpans', WHERE WHAT IT READS IS OF BULK AT MOST 1048576: true; the input reads as it did. -/
def fnExactPasteSpansUptoRow : OpenClaim := { program := "ytchlnmkjfjdamaa", sum := "21602e123df37fa8e39493d5cb684f383b21c0a2bb0cafe770347f7bfe98b62f", func := "loop.example/g00256/laws.FnExactPasteSpans", spec := "fnExactPasteSpans", inPlace := ["internal/abi.NoEscape", "internal/bytealg.MakeNoZero"], unfollowed := true, recurses := true, apart := false, narrowed := true }
def FnExactPasteSpansUptoSaid : Prop := fnExactPasteSpansUptoRow.holds Try.pinned (OpenSpec.upto fnExactPasteSpansSpec)

/-- 'laws.FnExactCoverOf', WHERE WHAT IT READS IS OF BULK AT MOST 1048576: true; the input reads as it did. -/
def fnExactCoverOfUptoRow : OpenClaim := { program := "ytchlnmkjfjdamaa", sum := "21602e123df37fa8e39493d5cb684f383b21c0a2bb0cafe770347f7bfe98b62f", func := "loop.example/g00256/laws.FnExactCoverOf", spec := "fnExactCoverOf", unfollowed := true, recurses := true, apart := false, narrowed := true }
def FnExactCoverOfUptoSaid : Prop := fnExactCoverOfUptoRow.holds Try.pinned (OpenSpec.upto fnExactCoverOfSpec)

/-- 'laws.FnExactJoinSpans', WHERE WHAT IT READS IS OF BULK AT MOST 1048576: true; the input reads as it did. -/
def fnExactJoinSpansUptoRow : OpenClaim := { program := "ytchlnmkjfjdamaa", sum := "21602e123df37fa8e39493d5cb684f383b21c0a2bb0cafe770347f7bfe98b62f", func := "loop.example/g00256/laws.FnExactJoinSpans", spec := "fnExactJoinSpans", unfollowed := true, recurses := true, apart := false, narrowed := true }
def FnExactJoinSpansUptoSaid : Prop := fnExactJoinSpansUptoRow.holds Try.pinned (OpenSpec.upto fnExactJoinSpansSpec)

end Rows
end Go.Proofs.Ytchlnmkjfjdamaa
