/-
  DERIVED. GIVEN WITH THE SEED: THE CARDS: each row of YtmnddfiidnemiaaDoorRows.lean that lists a variable, with what it lists TIED to the program's text (the seventh form; the later family's looks); each row that meets fmt, with fmt's text TOLD by the authors' own Lean function (tested against real Go, not proved from fmt's source: count such statements apart). THE CARD IS WHAT COUNTS. Prove the row's statement (the work); the ties are given (YtmnddfiidnemiaaDoorTie.lean); close each card by the builder's one call (the guide's Derived/Test/ToyasCard.lean, 'card_holds'). Laid BY PROGRAM, IN A SANDBOX (cutbox-door.mjs). By AI agents, Wed Nov 11 2026. No macro, syntax, notation, axiom, sorry.
-/
import Derived.Test.YtmnddfiidnemiaaDoorRows
import GoSem.ClaimSeven
namespace Go.Proofs.YtmnddfiidnemiaaDoor
namespace Rows

/-- THE TIED CARD OF 'laws.FnExactGoodField'. -/
def fnExactGoodFieldCard : Claim7 := { stood := { row := fnExactGoodFieldRow, standIns := [], harness := (true, "5e3f61c4121d7cc40240a7f03c95bf5c966b8add01d3407ba599f56f3700502e"), looks := true }, kinds := [], alts := [], laidByText := true, laidKinds := [.data, .pinned], laidTests := true, laidLooks := .later }
def FnExactGoodFieldCardSaid : Prop := Claim7.holds Tryd.pinned (.plain (OpenSpec.ofChange fnExactGoodFieldSpec)) fnExactGoodFieldCard

/-- THE TIED CARD OF 'laws.FnExactListOf'. -/
def fnExactListOfCard : Claim7 := { stood := { row := fnExactListOfRow, standIns := [], harness := (true, "5e3f61c4121d7cc40240a7f03c95bf5c966b8add01d3407ba599f56f3700502e"), looks := true }, kinds := [], alts := [], laidByText := true, laidKinds := [.data, .pinned], laidTests := true, laidLooks := .later }
def FnExactListOfCardSaid : Prop := Claim7.holds Tryd.pinned (.plain (OpenSpec.ofChange fnExactListOfSpec)) fnExactListOfCard

/-- THE TIED CARD OF 'laws.FnExactValuesOf'. -/
def fnExactValuesOfCard : Claim7 := { stood := { row := fnExactValuesOfRow, standIns := [], harness := (true, "5e3f61c4121d7cc40240a7f03c95bf5c966b8add01d3407ba599f56f3700502e"), looks := true }, kinds := [], alts := [], laidByText := true, laidKinds := [.data, .pinned], laidTests := true, laidLooks := .later }
def FnExactValuesOfCardSaid : Prop := Claim7.holds Tryd.pinned (.plain (OpenSpec.ofChange fnExactValuesOfSpec)) fnExactValuesOfCard

/-- THE TIED CARD OF 'laws.FnExactJoinedOf'. -/
def fnExactJoinedOfCard : Claim7 := { stood := { row := fnExactJoinedOfRow, standIns := [], harness := (true, "5e3f61c4121d7cc40240a7f03c95bf5c966b8add01d3407ba599f56f3700502e"), looks := true }, kinds := [], alts := [], laidByText := true, laidKinds := [.data, .pinned], laidTests := true, laidLooks := .later }
def FnExactJoinedOfCardSaid : Prop := Claim7.holds Tryd.pinned (.plain (OpenSpec.ofChange fnExactJoinedOfSpec)) fnExactJoinedOfCard

/-- THE TIED CARD OF 'laws.FnExactSetField'. -/
def fnExactSetFieldCard : Claim7 := { stood := { row := fnExactSetFieldRow, standIns := [], harness := (true, "5e3f61c4121d7cc40240a7f03c95bf5c966b8add01d3407ba599f56f3700502e"), looks := true }, kinds := [], alts := [], laidByText := true, laidKinds := [.data, .pinned], laidTests := true, laidLooks := .later }
def FnExactSetFieldCardSaid : Prop := Claim7.holds Tryd.pinned (.plain (OpenSpec.ofChange fnExactSetFieldSpec)) fnExactSetFieldCard

/-- THE TIED CARD OF 'laws.FnExactChoicesOf'. -/
def fnExactChoicesOfCard : Claim7 := { stood := { row := fnExactChoicesOfRow, standIns := [], harness := (true, "5e3f61c4121d7cc40240a7f03c95bf5c966b8add01d3407ba599f56f3700502e"), looks := true }, kinds := [], alts := [], laidByText := true, laidKinds := [.data, .data, .data, .data, .sentinel, .sentinel, .pinned], laidTests := true, laidLooks := .later }
def FnExactChoicesOfCardSaid : Prop := Claim7.holds Tryd.pinned (.plain (OpenSpec.ofChange fnExactChoicesOfSpec)) fnExactChoicesOfCard

/-- THE TIED CARD OF 'laws.FnExactTagsOf'. -/
def fnExactTagsOfCard : Claim7 := { stood := { row := fnExactTagsOfRow, standIns := [], harness := (true, "5e3f61c4121d7cc40240a7f03c95bf5c966b8add01d3407ba599f56f3700502e"), looks := true }, kinds := [], alts := [], laidByText := true, laidKinds := [.data, .pinned], laidTests := true, laidLooks := .later }
def FnExactTagsOfCardSaid : Prop := Claim7.holds Tryd.pinned (.plain (OpenSpec.ofChange fnExactTagsOfSpec)) fnExactTagsOfCard

/-- THE TIED CARD OF 'laws.FnExactReadTag'. -/
def fnExactReadTagCard : Claim7 := { stood := { row := fnExactReadTagRow, standIns := [], harness := (true, "5e3f61c4121d7cc40240a7f03c95bf5c966b8add01d3407ba599f56f3700502e"), looks := true }, kinds := [], alts := [], laidByText := true, laidKinds := [.data, .pinned], laidTests := true, laidLooks := .later }
def FnExactReadTagCardSaid : Prop := Claim7.holds Tryd.pinned (.plain (OpenSpec.ofChange fnExactReadTagSpec)) fnExactReadTagCard

/-- THE SECOND FORM's CARD OF 'laws.FnExactGoodField'. -/
def fnExactGoodFieldUptoCard : Claim7 := { stood := { row := fnExactGoodFieldUptoRow, standIns := [], harness := (true, "5e3f61c4121d7cc40240a7f03c95bf5c966b8add01d3407ba599f56f3700502e"), looks := true }, kinds := [], alts := [], laidByText := true, laidKinds := [.data, .pinned], laidTests := true, laidLooks := .later }
def FnExactGoodFieldUptoCardSaid : Prop := Claim7.holds Tryd.pinned (.plain (OpenSpec.upto fnExactGoodFieldSpec)) fnExactGoodFieldUptoCard

/-- THE SECOND FORM's CARD OF 'laws.FnExactListOf'. -/
def fnExactListOfUptoCard : Claim7 := { stood := { row := fnExactListOfUptoRow, standIns := [], harness := (true, "5e3f61c4121d7cc40240a7f03c95bf5c966b8add01d3407ba599f56f3700502e"), looks := true }, kinds := [], alts := [], laidByText := true, laidKinds := [.data, .pinned], laidTests := true, laidLooks := .later }
def FnExactListOfUptoCardSaid : Prop := Claim7.holds Tryd.pinned (.plain (OpenSpec.upto fnExactListOfSpec)) fnExactListOfUptoCard

/-- THE SECOND FORM's CARD OF 'laws.FnExactValuesOf'. -/
def fnExactValuesOfUptoCard : Claim7 := { stood := { row := fnExactValuesOfUptoRow, standIns := [], harness := (true, "5e3f61c4121d7cc40240a7f03c95bf5c966b8add01d3407ba599f56f3700502e"), looks := true }, kinds := [], alts := [], laidByText := true, laidKinds := [.data, .pinned], laidTests := true, laidLooks := .later }
def FnExactValuesOfUptoCardSaid : Prop := Claim7.holds Tryd.pinned (.plain (OpenSpec.upto fnExactValuesOfSpec)) fnExactValuesOfUptoCard

/-- THE SECOND FORM's CARD OF 'laws.FnExactJoinedOf'. -/
def fnExactJoinedOfUptoCard : Claim7 := { stood := { row := fnExactJoinedOfUptoRow, standIns := [], harness := (true, "5e3f61c4121d7cc40240a7f03c95bf5c966b8add01d3407ba599f56f3700502e"), looks := true }, kinds := [], alts := [], laidByText := true, laidKinds := [.data, .pinned], laidTests := true, laidLooks := .later }
def FnExactJoinedOfUptoCardSaid : Prop := Claim7.holds Tryd.pinned (.plain (OpenSpec.upto fnExactJoinedOfSpec)) fnExactJoinedOfUptoCard

/-- THE SECOND FORM's CARD OF 'laws.FnExactSetField'. -/
def fnExactSetFieldUptoCard : Claim7 := { stood := { row := fnExactSetFieldUptoRow, standIns := [], harness := (true, "5e3f61c4121d7cc40240a7f03c95bf5c966b8add01d3407ba599f56f3700502e"), looks := true }, kinds := [], alts := [], laidByText := true, laidKinds := [.data, .pinned], laidTests := true, laidLooks := .later }
def FnExactSetFieldUptoCardSaid : Prop := Claim7.holds Tryd.pinned (.plain (OpenSpec.upto fnExactSetFieldSpec)) fnExactSetFieldUptoCard

/-- THE SECOND FORM's CARD OF 'laws.FnExactChoicesOf'. -/
def fnExactChoicesOfUptoCard : Claim7 := { stood := { row := fnExactChoicesOfUptoRow, standIns := [], harness := (true, "5e3f61c4121d7cc40240a7f03c95bf5c966b8add01d3407ba599f56f3700502e"), looks := true }, kinds := [], alts := [], laidByText := true, laidKinds := [.data, .data, .data, .data, .sentinel, .sentinel, .pinned], laidTests := true, laidLooks := .later }
def FnExactChoicesOfUptoCardSaid : Prop := Claim7.holds Tryd.pinned (.plain (OpenSpec.upto fnExactChoicesOfSpec)) fnExactChoicesOfUptoCard

/-- THE SECOND FORM's CARD OF 'laws.FnExactTagsOf'. -/
def fnExactTagsOfUptoCard : Claim7 := { stood := { row := fnExactTagsOfUptoRow, standIns := [], harness := (true, "5e3f61c4121d7cc40240a7f03c95bf5c966b8add01d3407ba599f56f3700502e"), looks := true }, kinds := [], alts := [], laidByText := true, laidKinds := [.data, .pinned], laidTests := true, laidLooks := .later }
def FnExactTagsOfUptoCardSaid : Prop := Claim7.holds Tryd.pinned (.plain (OpenSpec.upto fnExactTagsOfSpec)) fnExactTagsOfUptoCard

/-- THE SECOND FORM's CARD OF 'laws.FnExactReadTag'. -/
def fnExactReadTagUptoCard : Claim7 := { stood := { row := fnExactReadTagUptoRow, standIns := [], harness := (true, "5e3f61c4121d7cc40240a7f03c95bf5c966b8add01d3407ba599f56f3700502e"), looks := true }, kinds := [], alts := [], laidByText := true, laidKinds := [.data, .pinned], laidTests := true, laidLooks := .later }
def FnExactReadTagUptoCardSaid : Prop := Claim7.holds Tryd.pinned (.plain (OpenSpec.upto fnExactReadTagSpec)) fnExactReadTagUptoCard
end Rows
end Go.Proofs.YtmnddfiidnemiaaDoor
