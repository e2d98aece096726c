/-
  DERIVED. GIVEN WITH THE SEED: THE CARDS: each row of YtehflacblgliiaaDoorRows.lean that lists a variable, with what it lists TIED to the program's text (the seventh form; the later family's looks); each row that meets fmt, with fmt's text TOLD by the authors' own Lean function (tested against real Go, not proved from fmt's source: count such statements apart). THE CARD IS WHAT COUNTS. Prove the row's statement (the work); the ties are given (YtehflacblgliiaaDoorTie.lean); close each card by the builder's one call (the guide's Derived/Test/ToyasCard.lean, 'card_holds'). Laid BY PROGRAM, IN A SANDBOX (cutbox-door.mjs). By AI agents, Wed Nov 11 2026. No macro, syntax, notation, axiom, sorry.
-/
import Derived.Test.YtehflacblgliiaaDoorRows
import GoSem.ClaimSeven
namespace Go.Proofs.YtehflacblgliiaaDoor
namespace Rows

/-- THE TIED CARD OF 'laws.FnExactDropDots'. -/
def fnExactDropDotsCard : Claim7 := { stood := { row := fnExactDropDotsRow, standIns := [], harness := (true, "40a7b3333db9eca5a9993be0024909d88a9340776b34de859c0d799b7bb46bab"), looks := true }, kinds := [], alts := [], laidByText := true, laidKinds := [.data, .pinned], laidTests := true, laidLooks := .later }
def FnExactDropDotsCardSaid : Prop := Claim7.holds Tryd.pinned (.plain (OpenSpec.ofChange fnExactDropDotsSpec)) fnExactDropDotsCard

/-- THE TIED CARD OF 'laws.FnExactGoodUrl'. -/
def fnExactGoodUrlCard : Claim7 := { stood := { row := fnExactGoodUrlRow, standIns := [], harness := (true, "40a7b3333db9eca5a9993be0024909d88a9340776b34de859c0d799b7bb46bab"), looks := true }, kinds := [], alts := [], laidByText := true, laidKinds := [.data, .data, .data], laidTests := true, laidLooks := .later }
def FnExactGoodUrlCardSaid : Prop := Claim7.holds Tryd.pinned (.plain (OpenSpec.ofChange fnExactGoodUrlSpec)) fnExactGoodUrlCard

/-- THE TIED CARD OF 'laws.FnExactUrlText'. -/
def fnExactUrlTextCard : Claim7 := { stood := { row := fnExactUrlTextRow, standIns := [], harness := (true, "40a7b3333db9eca5a9993be0024909d88a9340776b34de859c0d799b7bb46bab"), looks := true }, kinds := [], alts := [], laidByText := true, laidKinds := [.data, .data, .data], laidTests := true, laidLooks := .later }
def FnExactUrlTextCardSaid : Prop := Claim7.holds Tryd.pinned (.plain (OpenSpec.ofChange fnExactUrlTextSpec)) fnExactUrlTextCard

/-- THE TIED CARD OF 'laws.FnExactReadUrl'. -/
def fnExactReadUrlCard : Claim7 := { stood := { row := fnExactReadUrlRow, standIns := [], harness := (true, "40a7b3333db9eca5a9993be0024909d88a9340776b34de859c0d799b7bb46bab"), looks := true }, kinds := [], alts := [], laidByText := true, laidKinds := [.data, .data, .data, .sentinel, .sentinel], laidTests := true, laidLooks := .later }
def FnExactReadUrlCardSaid : Prop := Claim7.holds Tryd.pinned (.plain (OpenSpec.ofChange fnExactReadUrlSpec)) fnExactReadUrlCard

/-- THE TIED CARD OF 'laws.FnExactNormalUrl'. -/
def fnExactNormalUrlCard : Claim7 := { stood := { row := fnExactNormalUrlRow, standIns := [], harness := (true, "40a7b3333db9eca5a9993be0024909d88a9340776b34de859c0d799b7bb46bab"), looks := true }, kinds := [], alts := [], laidByText := true, laidKinds := [.data, .data, .data, .data, .pinned], laidTests := true, laidLooks := .later }
def FnExactNormalUrlCardSaid : Prop := Claim7.holds Tryd.pinned (.plain (OpenSpec.ofChange fnExactNormalUrlSpec)) fnExactNormalUrlCard

/-- THE TIED CARD OF 'laws.FnExactSameUrl'. -/
def fnExactSameUrlCard : Claim7 := { stood := { row := fnExactSameUrlRow, standIns := [], harness := (true, "40a7b3333db9eca5a9993be0024909d88a9340776b34de859c0d799b7bb46bab"), looks := true }, kinds := [], alts := [], laidByText := true, laidKinds := [.data, .data, .data, .data, .pinned], laidTests := true, laidLooks := .later }
def FnExactSameUrlCardSaid : Prop := Claim7.holds Tryd.pinned (.plain (OpenSpec.ofChange fnExactSameUrlSpec)) fnExactSameUrlCard

/-- THE TIED CARD OF 'laws.FnExactDateText'. -/
def fnExactDateTextCard : Claim7 := { stood := { row := fnExactDateTextRow, standIns := [], harness := (true, "40a7b3333db9eca5a9993be0024909d88a9340776b34de859c0d799b7bb46bab"), looks := true }, kinds := [], alts := [], laidByText := true, laidKinds := [.data, .data, .data, .listed, .data], laidTests := true, laidLooks := .later }
def FnExactDateTextCardSaid : Prop := Claim7.holds Tryd.pinned (.plain (OpenSpec.ofChange fnExactDateTextSpec)) fnExactDateTextCard

/-- THE SECOND FORM's CARD OF 'laws.FnExactDropDots'. -/
def fnExactDropDotsUptoCard : Claim7 := { stood := { row := fnExactDropDotsUptoRow, standIns := [], harness := (true, "40a7b3333db9eca5a9993be0024909d88a9340776b34de859c0d799b7bb46bab"), looks := true }, kinds := [], alts := [], laidByText := true, laidKinds := [.data, .pinned], laidTests := true, laidLooks := .later }
def FnExactDropDotsUptoCardSaid : Prop := Claim7.holds Tryd.pinned (.plain (OpenSpec.upto fnExactDropDotsSpec)) fnExactDropDotsUptoCard

/-- THE SECOND FORM's CARD OF 'laws.FnExactGoodUrl'. -/
def fnExactGoodUrlUptoCard : Claim7 := { stood := { row := fnExactGoodUrlUptoRow, standIns := [], harness := (true, "40a7b3333db9eca5a9993be0024909d88a9340776b34de859c0d799b7bb46bab"), looks := true }, kinds := [], alts := [], laidByText := true, laidKinds := [.data, .data, .data], laidTests := true, laidLooks := .later }
def FnExactGoodUrlUptoCardSaid : Prop := Claim7.holds Tryd.pinned (.plain (OpenSpec.upto fnExactGoodUrlSpec)) fnExactGoodUrlUptoCard

/-- THE SECOND FORM's CARD OF 'laws.FnExactUrlText'. -/
def fnExactUrlTextUptoCard : Claim7 := { stood := { row := fnExactUrlTextUptoRow, standIns := [], harness := (true, "40a7b3333db9eca5a9993be0024909d88a9340776b34de859c0d799b7bb46bab"), looks := true }, kinds := [], alts := [], laidByText := true, laidKinds := [.data, .data, .data], laidTests := true, laidLooks := .later }
def FnExactUrlTextUptoCardSaid : Prop := Claim7.holds Tryd.pinned (.plain (OpenSpec.upto fnExactUrlTextSpec)) fnExactUrlTextUptoCard

/-- THE SECOND FORM's CARD OF 'laws.FnExactReadUrl'. -/
def fnExactReadUrlUptoCard : Claim7 := { stood := { row := fnExactReadUrlUptoRow, standIns := [], harness := (true, "40a7b3333db9eca5a9993be0024909d88a9340776b34de859c0d799b7bb46bab"), looks := true }, kinds := [], alts := [], laidByText := true, laidKinds := [.data, .data, .data, .sentinel, .sentinel], laidTests := true, laidLooks := .later }
def FnExactReadUrlUptoCardSaid : Prop := Claim7.holds Tryd.pinned (.plain (OpenSpec.upto fnExactReadUrlSpec)) fnExactReadUrlUptoCard

/-- THE SECOND FORM's CARD OF 'laws.FnExactNormalUrl'. -/
def fnExactNormalUrlUptoCard : Claim7 := { stood := { row := fnExactNormalUrlUptoRow, standIns := [], harness := (true, "40a7b3333db9eca5a9993be0024909d88a9340776b34de859c0d799b7bb46bab"), looks := true }, kinds := [], alts := [], laidByText := true, laidKinds := [.data, .data, .data, .data, .pinned], laidTests := true, laidLooks := .later }
def FnExactNormalUrlUptoCardSaid : Prop := Claim7.holds Tryd.pinned (.plain (OpenSpec.upto fnExactNormalUrlSpec)) fnExactNormalUrlUptoCard

/-- THE SECOND FORM's CARD OF 'laws.FnExactSameUrl'. -/
def fnExactSameUrlUptoCard : Claim7 := { stood := { row := fnExactSameUrlUptoRow, standIns := [], harness := (true, "40a7b3333db9eca5a9993be0024909d88a9340776b34de859c0d799b7bb46bab"), looks := true }, kinds := [], alts := [], laidByText := true, laidKinds := [.data, .data, .data, .data, .pinned], laidTests := true, laidLooks := .later }
def FnExactSameUrlUptoCardSaid : Prop := Claim7.holds Tryd.pinned (.plain (OpenSpec.upto fnExactSameUrlSpec)) fnExactSameUrlUptoCard

/-- THE SECOND FORM's CARD OF 'laws.FnExactDateText'. -/
def fnExactDateTextUptoCard : Claim7 := { stood := { row := fnExactDateTextUptoRow, standIns := [], harness := (true, "40a7b3333db9eca5a9993be0024909d88a9340776b34de859c0d799b7bb46bab"), looks := true }, kinds := [], alts := [], laidByText := true, laidKinds := [.data, .data, .data, .listed, .data], laidTests := true, laidLooks := .later }
def FnExactDateTextUptoCardSaid : Prop := Claim7.holds Tryd.pinned (.plain (OpenSpec.upto fnExactDateTextSpec)) fnExactDateTextUptoCard
end Rows
end Go.Proofs.YtehflacblgliiaaDoor
