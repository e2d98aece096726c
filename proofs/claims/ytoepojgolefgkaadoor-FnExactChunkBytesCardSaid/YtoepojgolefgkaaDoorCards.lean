/-
  DERIVED. GIVEN WITH THE SEED: THE CARDS: each row of YtoepojgolefgkaaDoorRows.lean that lists a variable, with what it lists TIED to the program's text (the seventh form; the later family's looks); each row that meets fmt, with fmt's text TOLD by the authors' own Lean function (tested against real Go, not proved from fmt's source: count such statements apart). THE CARD IS WHAT COUNTS. Prove the row's statement (the work); the ties are given (YtoepojgolefgkaaDoorTie.lean); close each card by the builder's one call (the guide's Derived/Test/ToyasCard.lean, 'card_holds'). Laid BY PROGRAM, IN A SANDBOX (cutbox-door.mjs). By AI agents, Wed Nov 11 2026. No macro, syntax, notation, axiom, sorry.
-/
import Derived.Test.YtoepojgolefgkaaDoorRows
import GoSem.ClaimSeven
namespace Go.Proofs.YtoepojgolefgkaaDoor
namespace Rows

/-- THE TIED CARD OF 'laws.FnExactHexText'. -/
def fnExactHexTextCard : Claim7 := { stood := { row := fnExactHexTextRow, standIns := [], harness := (true, "68ef79d9803704d51f10fc539848d42556d3eccd507ab484685ae3595edf321d"), looks := false }, kinds := [], alts := [], laidByText := true, laidKinds := [.data, .data, .data], laidTests := true, laidLooks := .later }
def FnExactHexTextCardSaid : Prop := Claim7.holds Tryd.pinned (.plain (OpenSpec.ofChange fnExactHexTextSpec)) fnExactHexTextCard

/-- THE TIED CARD OF 'laws.FnExactChunkBytes'. -/
def fnExactChunkBytesCard : Claim7 := { stood := { row := fnExactChunkBytesRow, standIns := [], harness := (true, "68ef79d9803704d51f10fc539848d42556d3eccd507ab484685ae3595edf321d"), looks := false }, kinds := [], alts := [], laidByText := true, laidKinds := [.data, .data, .data], laidTests := true, laidLooks := .later }
def FnExactChunkBytesCardSaid : Prop := Claim7.holds Tryd.pinned (.plain (OpenSpec.ofChange fnExactChunkBytesSpec)) fnExactChunkBytesCard

/-- THE TIED CARD OF 'laws.FnExactRangeText'. -/
def fnExactRangeTextCard : Claim7 := { stood := { row := fnExactRangeTextRow, standIns := [], harness := (true, "68ef79d9803704d51f10fc539848d42556d3eccd507ab484685ae3595edf321d"), looks := false }, kinds := [], alts := [], laidByText := true, laidKinds := [.data, .data, .data], laidTests := true, laidLooks := .later }
def FnExactRangeTextCardSaid : Prop := Claim7.holds Tryd.pinned (.plain (OpenSpec.ofChange fnExactRangeTextSpec)) fnExactRangeTextCard

/-- THE SECOND FORM's CARD OF 'laws.FnExactHexText'. -/
def fnExactHexTextUptoCard : Claim7 := { stood := { row := fnExactHexTextUptoRow, standIns := [], harness := (true, "68ef79d9803704d51f10fc539848d42556d3eccd507ab484685ae3595edf321d"), looks := false }, kinds := [], alts := [], laidByText := true, laidKinds := [.data, .data, .data], laidTests := true, laidLooks := .later }
def FnExactHexTextUptoCardSaid : Prop := Claim7.holds Tryd.pinned (.plain (OpenSpec.upto fnExactHexTextSpec)) fnExactHexTextUptoCard

/-- THE SECOND FORM's CARD OF 'laws.FnExactChunkBytes'. -/
def fnExactChunkBytesUptoCard : Claim7 := { stood := { row := fnExactChunkBytesUptoRow, standIns := [], harness := (true, "68ef79d9803704d51f10fc539848d42556d3eccd507ab484685ae3595edf321d"), looks := false }, kinds := [], alts := [], laidByText := true, laidKinds := [.data, .data, .data], laidTests := true, laidLooks := .later }
def FnExactChunkBytesUptoCardSaid : Prop := Claim7.holds Tryd.pinned (.plain (OpenSpec.upto fnExactChunkBytesSpec)) fnExactChunkBytesUptoCard

/-- THE SECOND FORM's CARD OF 'laws.FnExactRangeText'. -/
def fnExactRangeTextUptoCard : Claim7 := { stood := { row := fnExactRangeTextUptoRow, standIns := [], harness := (true, "68ef79d9803704d51f10fc539848d42556d3eccd507ab484685ae3595edf321d"), looks := false }, kinds := [], alts := [], laidByText := true, laidKinds := [.data, .data, .data], laidTests := true, laidLooks := .later }
def FnExactRangeTextUptoCardSaid : Prop := Claim7.holds Tryd.pinned (.plain (OpenSpec.upto fnExactRangeTextSpec)) fnExactRangeTextUptoCard
end Rows
end Go.Proofs.YtoepojgolefgkaaDoor
