/-
  DERIVED. GIVEN WITH THE SEED: THE CARDS: each row of YtmnddfiidnemiaaGreatDoorRows.lean that lists a variable, with what it lists TIED to the program's text (the seventh form; the later family's looks); each row that meets fmt, with fmt's text TOLD by the authors' own Lean function (tested against real Go, not proved from fmt's source: count such statements apart). THE CARD IS WHAT COUNTS. Prove the row's statement (the work); the ties are given (YtmnddfiidnemiaaGreatDoorTie.lean); close each card by the builder's one call (the guide's Derived/Test/ToyasCard.lean, 'card_holds'). Laid BY PROGRAM, IN A SANDBOX (cutbox-door.mjs). By AI agents, Wed Nov 11 2026. No macro, syntax, notation, axiom, sorry.
-/
import Derived.Test.YtmnddfiidnemiaaGreatDoorRows
import GoSem.ClaimSeven
namespace Go.Proofs.YtmnddfiidnemiaaGreatDoor
namespace Rows

/-- THE TIED CARD OF 'laws.FnExactBestChoice'. -/
def fnExactBestChoiceCard : Claim7 := { stood := { row := fnExactBestChoiceRow, standIns := [], harness := (true, "b3733fe554f296748992c5a9db95824a9dd4dbecf437a559fc53680fd51ea0e0"), looks := true }, kinds := [], alts := [], laidByText := true, laidKinds := [.data, .data, .data, .data, .sentinel, .sentinel, .pinned], laidTests := true, laidLooks := .later }
def FnExactBestChoiceCardSaid : Prop := Claim7.holds Tryz.pinned (.plain (OpenSpec.ofChange fnExactBestChoiceSpec)) fnExactBestChoiceCard

/-- THE SECOND FORM's CARD OF 'laws.FnExactBestChoice'. -/
def fnExactBestChoiceUptoCard : Claim7 := { stood := { row := fnExactBestChoiceUptoRow, standIns := [], harness := (true, "b3733fe554f296748992c5a9db95824a9dd4dbecf437a559fc53680fd51ea0e0"), looks := true }, kinds := [], alts := [], laidByText := true, laidKinds := [.data, .data, .data, .data, .sentinel, .sentinel, .pinned], laidTests := true, laidLooks := .later }
def FnExactBestChoiceUptoCardSaid : Prop := Claim7.holds Tryz.pinned (.plain (OpenSpec.upto fnExactBestChoiceSpec)) fnExactBestChoiceUptoCard
end Rows
end Go.Proofs.YtmnddfiidnemiaaGreatDoor
