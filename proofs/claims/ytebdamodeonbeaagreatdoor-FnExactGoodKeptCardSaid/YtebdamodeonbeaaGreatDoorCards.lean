/-
  DERIVED. GIVEN WITH THE SEED: THE CARDS: each row of YtebdamodeonbeaaGreatDoorRows.lean that lists a variable, with what it lists TIED to the program's text (the seventh form; the later family's looks); each row that meets fmt, with fmt's text TOLD by the authors' own Lean function (tested against real Go, not proved from fmt's source: count such statements apart). THE CARD IS WHAT COUNTS. Prove the row's statement (the work); the ties are given (YtebdamodeonbeaaGreatDoorTie.lean); close each card by the builder's one call (the guide's Derived/Test/ToyasCard.lean, 'card_holds'). Laid BY PROGRAM, IN A SANDBOX (cutbox-door.mjs). By AI agents, Wed Nov 11 2026. No macro, syntax, notation, axiom, sorry.
-/
import Derived.Test.YtebdamodeonbeaaGreatDoorRows
import GoSem.ClaimSeven
namespace Go.Proofs.YtebdamodeonbeaaGreatDoor
namespace Rows

/-- THE TIED CARD OF 'laws.FnExactGoodRequest'. -/
def fnExactGoodRequestCard : Claim7 := { stood := { row := fnExactGoodRequestRow, standIns := [], harness := (true, "cb167bee90101c79a34664f048198a13214eba98b0c42bcd567eec0225453ca6"), looks := true }, kinds := [], alts := [], laidByText := true, laidKinds := [.data, .data, .data, .data, .sentinel, .sentinel, .pinned], laidTests := true, laidLooks := .later }
def FnExactGoodRequestCardSaid : Prop := Claim7.holds Tryz.pinned (.plain (OpenSpec.ofChange fnExactGoodRequestSpec)) fnExactGoodRequestCard

/-- THE TIED CARD OF 'laws.FnExactGoodResponse'. -/
def fnExactGoodResponseCard : Claim7 := { stood := { row := fnExactGoodResponseRow, standIns := [], harness := (true, "cb167bee90101c79a34664f048198a13214eba98b0c42bcd567eec0225453ca6"), looks := true }, kinds := [], alts := [], laidByText := true, laidKinds := [.data, .data, .data, .data, .sentinel, .sentinel, .pinned], laidTests := true, laidLooks := .later }
def FnExactGoodResponseCardSaid : Prop := Claim7.holds Tryz.pinned (.plain (OpenSpec.ofChange fnExactGoodResponseSpec)) fnExactGoodResponseCard

/-- THE TIED CARD OF 'laws.FnExactRequestBytes'. -/
def fnExactRequestBytesCard : Claim7 := { stood := { row := fnExactRequestBytesRow, standIns := [], harness := (true, "cb167bee90101c79a34664f048198a13214eba98b0c42bcd567eec0225453ca6"), looks := true }, kinds := [], alts := [], laidByText := true, laidKinds := [.data, .data, .data, .data, .sentinel, .sentinel, .pinned], laidTests := true, laidLooks := .later }
def FnExactRequestBytesCardSaid : Prop := Claim7.holds Tryz.pinned (.plain (OpenSpec.ofChange fnExactRequestBytesSpec)) fnExactRequestBytesCard

/-- THE TIED CARD OF 'laws.FnExactResponseBytes'. -/
def fnExactResponseBytesCard : Claim7 := { stood := { row := fnExactResponseBytesRow, standIns := [], harness := (true, "cb167bee90101c79a34664f048198a13214eba98b0c42bcd567eec0225453ca6"), looks := true }, kinds := [], alts := [], laidByText := true, laidKinds := [.data, .data, .data, .data, .sentinel, .sentinel, .pinned], laidTests := true, laidLooks := .later }
def FnExactResponseBytesCardSaid : Prop := Claim7.holds Tryz.pinned (.plain (OpenSpec.ofChange fnExactResponseBytesSpec)) fnExactResponseBytesCard

/-- THE TIED CARD OF 'laws.FnExactHostOf'. -/
def fnExactHostOfCard : Claim7 := { stood := { row := fnExactHostOfRow, standIns := [], harness := (true, "cb167bee90101c79a34664f048198a13214eba98b0c42bcd567eec0225453ca6"), looks := true }, kinds := [], alts := [], laidByText := true, laidKinds := [.data, .data, .data, .data, .sentinel, .sentinel, .pinned], laidTests := true, laidLooks := .later }
def FnExactHostOfCardSaid : Prop := Claim7.holds Tryz.pinned (.plain (OpenSpec.ofChange fnExactHostOfSpec)) fnExactHostOfCard

/-- THE TIED CARD OF 'laws.FnExactGoodKept'. -/
def fnExactGoodKeptCard : Claim7 := { stood := { row := fnExactGoodKeptRow, standIns := [], harness := (true, "cb167bee90101c79a34664f048198a13214eba98b0c42bcd567eec0225453ca6"), looks := true }, kinds := [], alts := [], laidByText := true, laidKinds := [.data, .data, .data, .data, .sentinel, .sentinel, .pinned], laidTests := true, laidLooks := .later }
def FnExactGoodKeptCardSaid : Prop := Claim7.holds Tryz.pinned (.plain (OpenSpec.ofChange fnExactGoodKeptSpec)) fnExactGoodKeptCard

/-- THE SECOND FORM's CARD OF 'laws.FnExactGoodRequest'. -/
def fnExactGoodRequestUptoCard : Claim7 := { stood := { row := fnExactGoodRequestUptoRow, standIns := [], harness := (true, "cb167bee90101c79a34664f048198a13214eba98b0c42bcd567eec0225453ca6"), looks := true }, kinds := [], alts := [], laidByText := true, laidKinds := [.data, .data, .data, .data, .sentinel, .sentinel, .pinned], laidTests := true, laidLooks := .later }
def FnExactGoodRequestUptoCardSaid : Prop := Claim7.holds Tryz.pinned (.plain (OpenSpec.upto fnExactGoodRequestSpec)) fnExactGoodRequestUptoCard

/-- THE SECOND FORM's CARD OF 'laws.FnExactGoodResponse'. -/
def fnExactGoodResponseUptoCard : Claim7 := { stood := { row := fnExactGoodResponseUptoRow, standIns := [], harness := (true, "cb167bee90101c79a34664f048198a13214eba98b0c42bcd567eec0225453ca6"), looks := true }, kinds := [], alts := [], laidByText := true, laidKinds := [.data, .data, .data, .data, .sentinel, .sentinel, .pinned], laidTests := true, laidLooks := .later }
def FnExactGoodResponseUptoCardSaid : Prop := Claim7.holds Tryz.pinned (.plain (OpenSpec.upto fnExactGoodResponseSpec)) fnExactGoodResponseUptoCard

/-- THE SECOND FORM's CARD OF 'laws.FnExactRequestBytes'. -/
def fnExactRequestBytesUptoCard : Claim7 := { stood := { row := fnExactRequestBytesUptoRow, standIns := [], harness := (true, "cb167bee90101c79a34664f048198a13214eba98b0c42bcd567eec0225453ca6"), looks := true }, kinds := [], alts := [], laidByText := true, laidKinds := [.data, .data, .data, .data, .sentinel, .sentinel, .pinned], laidTests := true, laidLooks := .later }
def FnExactRequestBytesUptoCardSaid : Prop := Claim7.holds Tryz.pinned (.plain (OpenSpec.upto fnExactRequestBytesSpec)) fnExactRequestBytesUptoCard

/-- THE SECOND FORM's CARD OF 'laws.FnExactResponseBytes'. -/
def fnExactResponseBytesUptoCard : Claim7 := { stood := { row := fnExactResponseBytesUptoRow, standIns := [], harness := (true, "cb167bee90101c79a34664f048198a13214eba98b0c42bcd567eec0225453ca6"), looks := true }, kinds := [], alts := [], laidByText := true, laidKinds := [.data, .data, .data, .data, .sentinel, .sentinel, .pinned], laidTests := true, laidLooks := .later }
def FnExactResponseBytesUptoCardSaid : Prop := Claim7.holds Tryz.pinned (.plain (OpenSpec.upto fnExactResponseBytesSpec)) fnExactResponseBytesUptoCard

/-- THE SECOND FORM's CARD OF 'laws.FnExactHostOf'. -/
def fnExactHostOfUptoCard : Claim7 := { stood := { row := fnExactHostOfUptoRow, standIns := [], harness := (true, "cb167bee90101c79a34664f048198a13214eba98b0c42bcd567eec0225453ca6"), looks := true }, kinds := [], alts := [], laidByText := true, laidKinds := [.data, .data, .data, .data, .sentinel, .sentinel, .pinned], laidTests := true, laidLooks := .later }
def FnExactHostOfUptoCardSaid : Prop := Claim7.holds Tryz.pinned (.plain (OpenSpec.upto fnExactHostOfSpec)) fnExactHostOfUptoCard

/-- THE SECOND FORM's CARD OF 'laws.FnExactGoodKept'. -/
def fnExactGoodKeptUptoCard : Claim7 := { stood := { row := fnExactGoodKeptUptoRow, standIns := [], harness := (true, "cb167bee90101c79a34664f048198a13214eba98b0c42bcd567eec0225453ca6"), looks := true }, kinds := [], alts := [], laidByText := true, laidKinds := [.data, .data, .data, .data, .sentinel, .sentinel, .pinned], laidTests := true, laidLooks := .later }
def FnExactGoodKeptUptoCardSaid : Prop := Claim7.holds Tryz.pinned (.plain (OpenSpec.upto fnExactGoodKeptSpec)) fnExactGoodKeptUptoCard
end Rows
end Go.Proofs.YtebdamodeonbeaaGreatDoor
