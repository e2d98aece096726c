/-
  DERIVED. GIVEN WITH THE SEED: THE CARDS: each row of YtebdamodeonbeaaDoorRows.lean that lists a variable, with what it lists TIED to the program's text (the seventh form; the later family's looks); each row that meets fmt, with fmt's text TOLD by the authors' own Lean function (tested against real Go, not proved from fmt's source: count such statements apart). THE CARD IS WHAT COUNTS. Prove the row's statement (the work); the ties are given (YtebdamodeonbeaaDoorTie.lean); close each card by the builder's one call (the guide's Derived/Test/ToyasCard.lean, 'card_holds'). Laid BY PROGRAM, IN A SANDBOX (cutbox-door.mjs). By AI agents, Wed Nov 11 2026. No macro, syntax, notation, axiom, sorry.
-/
import Derived.Test.YtebdamodeonbeaaDoorRows
import GoSem.ClaimSeven
namespace Go.Proofs.YtebdamodeonbeaaDoor
namespace Rows

/-- THE TIED CARD OF 'laws.FnExactLengthOf'. -/
def fnExactLengthOfCard : Claim7 := { stood := { row := fnExactLengthOfRow, standIns := [], harness := (true, "8753f6a486e833006b1b3e4c9efc4fa3318959cd39aa507d3b23752b3093c474"), looks := true }, kinds := [], alts := [], laidByText := true, laidKinds := [.data, .data, .data, .data, .sentinel, .sentinel, .pinned], laidTests := true, laidLooks := .later }
def FnExactLengthOfCardSaid : Prop := Claim7.holds Tryd.pinned (.plain (OpenSpec.ofChange fnExactLengthOfSpec)) fnExactLengthOfCard

/-- THE SECOND FORM's CARD OF 'laws.FnExactLengthOf'. -/
def fnExactLengthOfUptoCard : Claim7 := { stood := { row := fnExactLengthOfUptoRow, standIns := [], harness := (true, "8753f6a486e833006b1b3e4c9efc4fa3318959cd39aa507d3b23752b3093c474"), looks := true }, kinds := [], alts := [], laidByText := true, laidKinds := [.data, .data, .data, .data, .sentinel, .sentinel, .pinned], laidTests := true, laidLooks := .later }
def FnExactLengthOfUptoCardSaid : Prop := Claim7.holds Tryd.pinned (.plain (OpenSpec.upto fnExactLengthOfSpec)) fnExactLengthOfUptoCard
end Rows
end Go.Proofs.YtebdamodeonbeaaDoor
