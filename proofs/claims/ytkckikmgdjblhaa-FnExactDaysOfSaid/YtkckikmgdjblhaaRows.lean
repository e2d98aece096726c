/-
  No cell of these rows narrows 'for every input' (looked for: loops, veiled, ifaces, maps, wideKeys, modest, calm, conditions, laid).
  DERIVED. THE GIVEN ROWS OF THIS SEAT. 12 by the template 'for every input the law returns true; each argument reads behind the call as it read before'; 0 by the template 'total and deterministic' (their statements: YtkckikmgdjblhaaTotals.lean).
  GIVEN WITH THE SEED: the statements are not yours to turn. If you find one false, say at which input.
  Laid BY PROGRAM, IN A SANDBOX (cutbox-rows.mjs): the forced cells as the released guide's own fill.sh prints them over the translation 1e1d451e90c50ac4… (all of the seat's roots in one cut). By AI agents, Wed Nov 11 2026. No macro, syntax, notation, axiom, sorry.
-/
import Derived.Test.YtkckikmgdjblhaaChecked
import GoSem.Claim
import GoSem.ClaimJoined
import GoSem.ClaimMapViews
import Derived.JoinedTies
import Derived.KernelRfl
namespace Go.Proofs.Ytkckikmgdjblhaa
/- THE CELL 'sum', in the pinned program and in every row, IS THE sha256 OF THE DUMP (.gsa) THAT YtkckikmgdjblhaaProg.lean LOADS. Nothing in Lean hashes anything: it is a label: what it is worth is what the hold of that sum in a sandbox is worth. -/
noncomputable def Try.pinned : Pinned := { name := "ytkckikmgdjblhaa", sum := "1e1d451e90c50ac498fd53e58d14b0ed9ae484c3a30f1190c3f8b207e8deb506", checked := Try.checked }
namespace Rows
def none {H : Type} : Left H := { results := [], args := [] }

/-- 'laws.FnExactConstants': WHATEVER THE INPUT: true; the input reads as it did. -/
def fnExactConstantsSpec : ChangeSpec := { name := "fnExactConstants", fn := fun _ => fun
  | [] => { results := [.lit (.bool true)], args := [] }
  | _ => none }
def fnExactConstantsRow : OpenClaim := { program := "ytkckikmgdjblhaa", sum := "1e1d451e90c50ac498fd53e58d14b0ed9ae484c3a30f1190c3f8b207e8deb506", func := "loop.example/g00256/laws.FnExactConstants", spec := "fnExactConstants", apart := false }
def FnExactConstantsSaid : Prop := fnExactConstantsRow.holds Try.pinned (OpenSpec.ofChange fnExactConstantsSpec)

/-- ITS FALSE NEIGHBOUR: 'it returns false'. Refute it at one input. -/
def fnExactConstantsWrong : ChangeSpec := { name := "fnExactConstants", fn := fun _ => fun
  | [] => { results := [.lit (.bool false)], args := [] }
  | _ => none }
def FnExactConstantsWrongFalsely : Prop := fnExactConstantsRow.holds Try.pinned (OpenSpec.ofChange fnExactConstantsWrong)

/-- 'laws.FnExactWeekdayOf': WHATEVER THE INPUT: true; the input reads as it did. -/
def fnExactWeekdayOfSpec : ChangeSpec := { name := "fnExactWeekdayOf", fn := fun _ => fun
  | [d] => { results := [.lit (.bool true)], args := [d] }
  | _ => none }
def fnExactWeekdayOfRow : OpenClaim := { program := "ytkckikmgdjblhaa", sum := "1e1d451e90c50ac498fd53e58d14b0ed9ae484c3a30f1190c3f8b207e8deb506", func := "loop.example/g00256/laws.FnExactWeekdayOf", spec := "fnExactWeekdayOf", apart := false }
def FnExactWeekdayOfSaid : Prop := fnExactWeekdayOfRow.holds Try.pinned (OpenSpec.ofChange fnExactWeekdayOfSpec)

/-- ITS FALSE NEIGHBOUR: 'it returns false'. Refute it at one input. -/
def fnExactWeekdayOfWrong : ChangeSpec := { name := "fnExactWeekdayOf", fn := fun _ => fun
  | [d] => { results := [.lit (.bool false)], args := [d] }
  | _ => none }
def FnExactWeekdayOfWrongFalsely : Prop := fnExactWeekdayOfRow.holds Try.pinned (OpenSpec.ofChange fnExactWeekdayOfWrong)

/-- 'laws.FnExactIsLeap': WHATEVER THE INPUT: true; the input reads as it did. -/
def fnExactIsLeapSpec : ChangeSpec := { name := "fnExactIsLeap", fn := fun _ => fun
  | [d] => { results := [.lit (.bool true)], args := [d] }
  | _ => none }
def fnExactIsLeapRow : OpenClaim := { program := "ytkckikmgdjblhaa", sum := "1e1d451e90c50ac498fd53e58d14b0ed9ae484c3a30f1190c3f8b207e8deb506", func := "loop.example/g00256/laws.FnExactIsLeap", spec := "fnExactIsLeap", apart := false }
def FnExactIsLeapSaid : Prop := fnExactIsLeapRow.holds Try.pinned (OpenSpec.ofChange fnExactIsLeapSpec)

/-- ITS FALSE NEIGHBOUR: 'it returns false'. Refute it at one input. -/
def fnExactIsLeapWrong : ChangeSpec := { name := "fnExactIsLeap", fn := fun _ => fun
  | [d] => { results := [.lit (.bool false)], args := [d] }
  | _ => none }
def FnExactIsLeapWrongFalsely : Prop := fnExactIsLeapRow.holds Try.pinned (OpenSpec.ofChange fnExactIsLeapWrong)

/-- 'laws.FnExactGoodDate': WHATEVER THE INPUT: true; the input reads as it did. -/
def fnExactGoodDateSpec : ChangeSpec := { name := "fnExactGoodDate", fn := fun _ => fun
  | [d] => { results := [.lit (.bool true)], args := [d] }
  | _ => none }
def fnExactGoodDateRow : OpenClaim := { program := "ytkckikmgdjblhaa", sum := "1e1d451e90c50ac498fd53e58d14b0ed9ae484c3a30f1190c3f8b207e8deb506", func := "loop.example/g00256/laws.FnExactGoodDate", spec := "fnExactGoodDate", apart := false }
def FnExactGoodDateSaid : Prop := fnExactGoodDateRow.holds Try.pinned (OpenSpec.ofChange fnExactGoodDateSpec)

/-- ITS FALSE NEIGHBOUR: 'it returns false'. Refute it at one input. -/
def fnExactGoodDateWrong : ChangeSpec := { name := "fnExactGoodDate", fn := fun _ => fun
  | [d] => { results := [.lit (.bool false)], args := [d] }
  | _ => none }
def FnExactGoodDateWrongFalsely : Prop := fnExactGoodDateRow.holds Try.pinned (OpenSpec.ofChange fnExactGoodDateWrong)

/-- 'laws.FnExactPercentEncode': WHATEVER THE INPUT: true; the input reads as it did. -/
def fnExactPercentEncodeSpec : ChangeSpec := { name := "fnExactPercentEncode", fn := fun _ => fun
  | [d] => { results := [.lit (.bool true)], args := [d] }
  | _ => none }
def fnExactPercentEncodeRow : OpenClaim := { program := "ytkckikmgdjblhaa", sum := "1e1d451e90c50ac498fd53e58d14b0ed9ae484c3a30f1190c3f8b207e8deb506", func := "loop.example/g00256/laws.FnExactPercentEncode", spec := "fnExactPercentEncode", inPlace := ["internal/bytealg.IndexByteString"], apart := false }
def FnExactPercentEncodeSaid : Prop := fnExactPercentEncodeRow.holds Try.pinned (OpenSpec.ofChange fnExactPercentEncodeSpec)

/-- ITS FALSE NEIGHBOUR: 'it returns false'. Refute it at one input. -/
def fnExactPercentEncodeWrong : ChangeSpec := { name := "fnExactPercentEncode", fn := fun _ => fun
  | [d] => { results := [.lit (.bool false)], args := [d] }
  | _ => none }
def FnExactPercentEncodeWrongFalsely : Prop := fnExactPercentEncodeRow.holds Try.pinned (OpenSpec.ofChange fnExactPercentEncodeWrong)

/-- 'laws.FnExactQuoteOf': WHATEVER THE INPUT: true; the input reads as it did. -/
def fnExactQuoteOfSpec : ChangeSpec := { name := "fnExactQuoteOf", fn := fun _ => fun
  | [d] => { results := [.lit (.bool true)], args := [d] }
  | _ => none }
def fnExactQuoteOfRow : OpenClaim := { program := "ytkckikmgdjblhaa", sum := "1e1d451e90c50ac498fd53e58d14b0ed9ae484c3a30f1190c3f8b207e8deb506", func := "loop.example/g00256/laws.FnExactQuoteOf", spec := "fnExactQuoteOf", unfollowed := true, recurses := true, apart := false }
def FnExactQuoteOfSaid : Prop := fnExactQuoteOfRow.holds Try.pinned (OpenSpec.ofChange fnExactQuoteOfSpec)

/-- ITS FALSE NEIGHBOUR: 'it returns false'. Refute it at one input. -/
def fnExactQuoteOfWrong : ChangeSpec := { name := "fnExactQuoteOf", fn := fun _ => fun
  | [d] => { results := [.lit (.bool false)], args := [d] }
  | _ => none }
def FnExactQuoteOfWrongFalsely : Prop := fnExactQuoteOfRow.holds Try.pinned (OpenSpec.ofChange fnExactQuoteOfWrong)

/-- 'laws.FnExactStrongSame': WHATEVER THE INPUT: true; the input reads as it did. -/
def fnExactStrongSameSpec : ChangeSpec := { name := "fnExactStrongSame", fn := fun _ => fun
  | [d1, d2] => { results := [.lit (.bool true)], args := [d1, d2] }
  | _ => none }
def fnExactStrongSameRow : OpenClaim := { program := "ytkckikmgdjblhaa", sum := "1e1d451e90c50ac498fd53e58d14b0ed9ae484c3a30f1190c3f8b207e8deb506", func := "loop.example/g00256/laws.FnExactStrongSame", spec := "fnExactStrongSame", unfollowed := true, recurses := true, apart := false }
def FnExactStrongSameSaid : Prop := fnExactStrongSameRow.holds Try.pinned (OpenSpec.ofChange fnExactStrongSameSpec)

/-- ITS FALSE NEIGHBOUR: 'it returns false'. Refute it at one input. -/
def fnExactStrongSameWrong : ChangeSpec := { name := "fnExactStrongSame", fn := fun _ => fun
  | [d1, d2] => { results := [.lit (.bool false)], args := [d1, d2] }
  | _ => none }
def FnExactStrongSameWrongFalsely : Prop := fnExactStrongSameRow.holds Try.pinned (OpenSpec.ofChange fnExactStrongSameWrong)

/-- 'laws.FnExactWeakSame': WHATEVER THE INPUT: true; the input reads as it did. -/
def fnExactWeakSameSpec : ChangeSpec := { name := "fnExactWeakSame", fn := fun _ => fun
  | [d1, d2] => { results := [.lit (.bool true)], args := [d1, d2] }
  | _ => none }
def fnExactWeakSameRow : OpenClaim := { program := "ytkckikmgdjblhaa", sum := "1e1d451e90c50ac498fd53e58d14b0ed9ae484c3a30f1190c3f8b207e8deb506", func := "loop.example/g00256/laws.FnExactWeakSame", spec := "fnExactWeakSame", unfollowed := true, recurses := true, apart := false }
def FnExactWeakSameSaid : Prop := fnExactWeakSameRow.holds Try.pinned (OpenSpec.ofChange fnExactWeakSameSpec)

/-- ITS FALSE NEIGHBOUR: 'it returns false'. Refute it at one input. -/
def fnExactWeakSameWrong : ChangeSpec := { name := "fnExactWeakSame", fn := fun _ => fun
  | [d1, d2] => { results := [.lit (.bool false)], args := [d1, d2] }
  | _ => none }
def FnExactWeakSameWrongFalsely : Prop := fnExactWeakSameRow.holds Try.pinned (OpenSpec.ofChange fnExactWeakSameWrong)

/-- 'laws.FnExactReadHex': WHATEVER THE INPUT: true; the input reads as it did. -/
def fnExactReadHexSpec : ChangeSpec := { name := "fnExactReadHex", fn := fun _ => fun
  | [d] => { results := [.lit (.bool true)], args := [d] }
  | _ => none }
def fnExactReadHexRow : OpenClaim := { program := "ytkckikmgdjblhaa", sum := "1e1d451e90c50ac498fd53e58d14b0ed9ae484c3a30f1190c3f8b207e8deb506", func := "loop.example/g00256/laws.FnExactReadHex", spec := "fnExactReadHex", apart := false }
def FnExactReadHexSaid : Prop := fnExactReadHexRow.holds Try.pinned (OpenSpec.ofChange fnExactReadHexSpec)

/-- ITS FALSE NEIGHBOUR: 'it returns false'. Refute it at one input. -/
def fnExactReadHexWrong : ChangeSpec := { name := "fnExactReadHex", fn := fun _ => fun
  | [d] => { results := [.lit (.bool false)], args := [d] }
  | _ => none }
def FnExactReadHexWrongFalsely : Prop := fnExactReadHexRow.holds Try.pinned (OpenSpec.ofChange fnExactReadHexWrong)

/-- 'laws.FnExactTagText': WHATEVER THE INPUT: true; the input reads as it did. -/
def fnExactTagTextSpec : ChangeSpec := { name := "fnExactTagText", fn := fun _ => fun
  | [d] => { results := [.lit (.bool true)], args := [d] }
  | _ => none }
def fnExactTagTextRow : OpenClaim := { program := "ytkckikmgdjblhaa", sum := "1e1d451e90c50ac498fd53e58d14b0ed9ae484c3a30f1190c3f8b207e8deb506", func := "loop.example/g00256/laws.FnExactTagText", spec := "fnExactTagText", unfollowed := true, recurses := true, apart := false }
def FnExactTagTextSaid : Prop := fnExactTagTextRow.holds Try.pinned (OpenSpec.ofChange fnExactTagTextSpec)

/-- ITS FALSE NEIGHBOUR: 'it returns false'. Refute it at one input. -/
def fnExactTagTextWrong : ChangeSpec := { name := "fnExactTagText", fn := fun _ => fun
  | [d] => { results := [.lit (.bool false)], args := [d] }
  | _ => none }
def FnExactTagTextWrongFalsely : Prop := fnExactTagTextRow.holds Try.pinned (OpenSpec.ofChange fnExactTagTextWrong)

/-- 'laws.FnExactUnquoteOf': WHATEVER THE INPUT: true; the input reads as it did. -/
def fnExactUnquoteOfSpec : ChangeSpec := { name := "fnExactUnquoteOf", fn := fun _ => fun
  | [d] => { results := [.lit (.bool true)], args := [d] }
  | _ => none }
def fnExactUnquoteOfRow : OpenClaim := { program := "ytkckikmgdjblhaa", sum := "1e1d451e90c50ac498fd53e58d14b0ed9ae484c3a30f1190c3f8b207e8deb506", func := "loop.example/g00256/laws.FnExactUnquoteOf", spec := "fnExactUnquoteOf", unfollowed := true, recurses := true, apart := false }
def FnExactUnquoteOfSaid : Prop := fnExactUnquoteOfRow.holds Try.pinned (OpenSpec.ofChange fnExactUnquoteOfSpec)

/-- ITS FALSE NEIGHBOUR: 'it returns false'. Refute it at one input. -/
def fnExactUnquoteOfWrong : ChangeSpec := { name := "fnExactUnquoteOf", fn := fun _ => fun
  | [d] => { results := [.lit (.bool false)], args := [d] }
  | _ => none }
def FnExactUnquoteOfWrongFalsely : Prop := fnExactUnquoteOfRow.holds Try.pinned (OpenSpec.ofChange fnExactUnquoteOfWrong)

/-- 'laws.FnExactDaysOf': WHATEVER THE INPUT: true; the input reads as it did. -/
def fnExactDaysOfSpec : ChangeSpec := { name := "fnExactDaysOf", fn := fun _ => fun
  | [d1, d2, d3] => { results := [.lit (.bool true)], args := [d1, d2, d3] }
  | _ => none }
def fnExactDaysOfRow : OpenClaim := { program := "ytkckikmgdjblhaa", sum := "1e1d451e90c50ac498fd53e58d14b0ed9ae484c3a30f1190c3f8b207e8deb506", func := "loop.example/g00256/laws.FnExactDaysOf", spec := "fnExactDaysOf", unfollowed := true, recurses := true, apart := false }
def FnExactDaysOfSaid : Prop := fnExactDaysOfRow.holds Try.pinned (OpenSpec.ofChange fnExactDaysOfSpec)

/-- ITS FALSE NEIGHBOUR: 'it returns false'. Refute it at one input. -/
def fnExactDaysOfWrong : ChangeSpec := { name := "fnExactDaysOf", fn := fun _ => fun
  | [d1, d2, d3] => { results := [.lit (.bool false)], args := [d1, d2, d3] }
  | _ => none }
def FnExactDaysOfWrongFalsely : Prop := fnExactDaysOfRow.holds Try.pinned (OpenSpec.ofChange fnExactDaysOfWrong)

/- THE SECOND FORM. 'bulk': how many values and letters a reading holds, each counted each time it is reached (what is shared counts as often as it is met; a slice's spare places count too). A statement '..UptoSaid' is the law's where the arguments, and the package variables that the reading takes, are together of bulk at most 1048576: NARROWER than '..Said'. Prove '..Said' where nothing that the law and all that it calls make is longer than what came in: it says more and counts as full. Else prove '..UptoSaid'. A law counts once. -/
mutual
def uptoBulk {H : Type} : DataW H → Nat
  | .lit (.string bytes) => bytes.length + 1
  | .lit _ => 1
  | .nil => 1
  | .ptr d => uptoBulk d + 1
  | .slice elems spare => uptoBulkAll elems + uptoBulkAll spare + 1
  | .agg parts => uptoBulkAll parts + 1
  | .iface _ d => uptoBulk d + 1
  | .map entries => uptoBulkEntries entries + 1
  | .held _ => 1
def uptoBulkAll {H : Type} : List (DataW H) → Nat
  | [] => 0
  | d :: r => uptoBulk d + uptoBulkAll r
def uptoBulkEntries {H : Type} : List (Lit × DataW H) → Nat
  | [] => 0
  | x :: r => uptoBulkEntry x + uptoBulkEntries r
def uptoBulkEntry {H : Type} : Lit × DataW H → Nat
  | (.string bytes, d) => bytes.length + uptoBulk d + 1
  | (_, d) => uptoBulk d + 1
 end
def uptoSmall : (H : Type) → List (DataW H) → Bool := fun _ ds => decide (uptoBulkAll ds ≤ 1048576)
def OpenSpec.upto (s : _root_.Go.ChangeSpec) : _root_.Go.OpenSpec := { _root_.Go.OpenSpec.ofChange s with cond := some uptoSmall }

/-- 'laws.FnExactConstants', WHERE WHAT IT READS IS OF BULK AT MOST 1048576: true; the input reads as it did. -/
def fnExactConstantsUptoRow : OpenClaim := { program := "ytkckikmgdjblhaa", sum := "1e1d451e90c50ac498fd53e58d14b0ed9ae484c3a30f1190c3f8b207e8deb506", func := "loop.example/g00256/laws.FnExactConstants", spec := "fnExactConstants", apart := false, narrowed := true }
def FnExactConstantsUptoSaid : Prop := fnExactConstantsUptoRow.holds Try.pinned (OpenSpec.upto fnExactConstantsSpec)

/-- 'laws.FnExactWeekdayOf', WHERE WHAT IT READS IS OF BULK AT MOST 1048576: true; the input reads as it did. -/
def fnExactWeekdayOfUptoRow : OpenClaim := { program := "ytkckikmgdjblhaa", sum := "1e1d451e90c50ac498fd53e58d14b0ed9ae484c3a30f1190c3f8b207e8deb506", func := "loop.example/g00256/laws.FnExactWeekdayOf", spec := "fnExactWeekdayOf", apart := false, narrowed := true }
def FnExactWeekdayOfUptoSaid : Prop := fnExactWeekdayOfUptoRow.holds Try.pinned (OpenSpec.upto fnExactWeekdayOfSpec)

/-- 'laws.FnExactIsLeap', WHERE WHAT IT READS IS OF BULK AT MOST 1048576: true; the input reads as it did. -/
def fnExactIsLeapUptoRow : OpenClaim := { program := "ytkckikmgdjblhaa", sum := "1e1d451e90c50ac498fd53e58d14b0ed9ae484c3a30f1190c3f8b207e8deb506", func := "loop.example/g00256/laws.FnExactIsLeap", spec := "fnExactIsLeap", apart := false, narrowed := true }
def FnExactIsLeapUptoSaid : Prop := fnExactIsLeapUptoRow.holds Try.pinned (OpenSpec.upto fnExactIsLeapSpec)

/-- 'laws.FnExactGoodDate', WHERE WHAT IT READS IS OF BULK AT MOST 1048576: true; the input reads as it did. -/
def fnExactGoodDateUptoRow : OpenClaim := { program := "ytkckikmgdjblhaa", sum := "1e1d451e90c50ac498fd53e58d14b0ed9ae484c3a30f1190c3f8b207e8deb506", func := "loop.example/g00256/laws.FnExactGoodDate", spec := "fnExactGoodDate", apart := false, narrowed := true }
def FnExactGoodDateUptoSaid : Prop := fnExactGoodDateUptoRow.holds Try.pinned (OpenSpec.upto fnExactGoodDateSpec)

/-- 'laws.FnExactPercentEncode', WHERE WHAT IT READS IS OF BULK AT MOST 1048576: true; the input reads as it did. -/
def fnExactPercentEncodeUptoRow : OpenClaim := { program := "ytkckikmgdjblhaa", sum := "1e1d451e90c50ac498fd53e58d14b0ed9ae484c3a30f1190c3f8b207e8deb506", func := "loop.example/g00256/laws.FnExactPercentEncode", spec := "fnExactPercentEncode", inPlace := ["internal/bytealg.IndexByteString"], apart := false, narrowed := true }
def FnExactPercentEncodeUptoSaid : Prop := fnExactPercentEncodeUptoRow.holds Try.pinned (OpenSpec.upto fnExactPercentEncodeSpec)

/-- 'laws.FnExactQuoteOf', WHERE WHAT IT READS IS OF BULK AT MOST 1048576: true; the input reads as it did. -/
def fnExactQuoteOfUptoRow : OpenClaim := { program := "ytkckikmgdjblhaa", sum := "1e1d451e90c50ac498fd53e58d14b0ed9ae484c3a30f1190c3f8b207e8deb506", func := "loop.example/g00256/laws.FnExactQuoteOf", spec := "fnExactQuoteOf", unfollowed := true, recurses := true, apart := false, narrowed := true }
def FnExactQuoteOfUptoSaid : Prop := fnExactQuoteOfUptoRow.holds Try.pinned (OpenSpec.upto fnExactQuoteOfSpec)

/-- 'laws.FnExactStrongSame', WHERE WHAT IT READS IS OF BULK AT MOST 1048576: true; the input reads as it did. -/
def fnExactStrongSameUptoRow : OpenClaim := { program := "ytkckikmgdjblhaa", sum := "1e1d451e90c50ac498fd53e58d14b0ed9ae484c3a30f1190c3f8b207e8deb506", func := "loop.example/g00256/laws.FnExactStrongSame", spec := "fnExactStrongSame", unfollowed := true, recurses := true, apart := false, narrowed := true }
def FnExactStrongSameUptoSaid : Prop := fnExactStrongSameUptoRow.holds Try.pinned (OpenSpec.upto fnExactStrongSameSpec)

/-- 'laws.FnExactWeakSame', WHERE WHAT IT READS IS OF BULK AT MOST 1048576: true; the input reads as it did. -/
def fnExactWeakSameUptoRow : OpenClaim := { program := "ytkckikmgdjblhaa", sum := "1e1d451e90c50ac498fd53e58d14b0ed9ae484c3a30f1190c3f8b207e8deb506", func := "loop.example/g00256/laws.FnExactWeakSame", spec := "fnExactWeakSame", unfollowed := true, recurses := true, apart := false, narrowed := true }
def FnExactWeakSameUptoSaid : Prop := fnExactWeakSameUptoRow.holds Try.pinned (OpenSpec.upto fnExactWeakSameSpec)

/-- 'laws.FnExactReadHex', WHERE WHAT IT READS IS OF BULK AT MOST 1048576: true; the input reads as it did. -/
def fnExactReadHexUptoRow : OpenClaim := { program := "ytkckikmgdjblhaa", sum := "1e1d451e90c50ac498fd53e58d14b0ed9ae484c3a30f1190c3f8b207e8deb506", func := "loop.example/g00256/laws.FnExactReadHex", spec := "fnExactReadHex", apart := false, narrowed := true }
def FnExactReadHexUptoSaid : Prop := fnExactReadHexUptoRow.holds Try.pinned (OpenSpec.upto fnExactReadHexSpec)

/-- 'laws.FnExactTagText', WHERE WHAT IT READS IS OF BULK AT MOST 1048576: true; the input reads as it did. -/
def fnExactTagTextUptoRow : OpenClaim := { program := "ytkckikmgdjblhaa", sum := "1e1d451e90c50ac498fd53e58d14b0ed9ae484c3a30f1190c3f8b207e8deb506", func := "loop.example/g00256/laws.FnExactTagText", spec := "fnExactTagText", unfollowed := true, recurses := true, apart := false, narrowed := true }
def FnExactTagTextUptoSaid : Prop := fnExactTagTextUptoRow.holds Try.pinned (OpenSpec.upto fnExactTagTextSpec)

/-- 'laws.FnExactUnquoteOf', WHERE WHAT IT READS IS OF BULK AT MOST 1048576: true; the input reads as it did. -/
def fnExactUnquoteOfUptoRow : OpenClaim := { program := "ytkckikmgdjblhaa", sum := "1e1d451e90c50ac498fd53e58d14b0ed9ae484c3a30f1190c3f8b207e8deb506", func := "loop.example/g00256/laws.FnExactUnquoteOf", spec := "fnExactUnquoteOf", unfollowed := true, recurses := true, apart := false, narrowed := true }
def FnExactUnquoteOfUptoSaid : Prop := fnExactUnquoteOfUptoRow.holds Try.pinned (OpenSpec.upto fnExactUnquoteOfSpec)

/-- 'laws.FnExactDaysOf', WHERE WHAT IT READS IS OF BULK AT MOST 1048576: true; the input reads as it did. -/
def fnExactDaysOfUptoRow : OpenClaim := { program := "ytkckikmgdjblhaa", sum := "1e1d451e90c50ac498fd53e58d14b0ed9ae484c3a30f1190c3f8b207e8deb506", func := "loop.example/g00256/laws.FnExactDaysOf", spec := "fnExactDaysOf", unfollowed := true, recurses := true, apart := false, narrowed := true }
def FnExactDaysOfUptoSaid : Prop := fnExactDaysOfUptoRow.holds Try.pinned (OpenSpec.upto fnExactDaysOfSpec)

end Rows
end Go.Proofs.Ytkckikmgdjblhaa
