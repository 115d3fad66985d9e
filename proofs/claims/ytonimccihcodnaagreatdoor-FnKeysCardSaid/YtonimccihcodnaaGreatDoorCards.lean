/-
  DERIVED. GIVEN WITH THE SEED: THE CARDS: each row of YtonimccihcodnaaGreatDoorRows.lean that lists a variable, with what it lists TIED to the program's text (the seventh form; the later family's looks); each row that meets fmt, with fmt's text TOLD by the authors' own Lean function (tested against real Go, not proved from fmt's source: count such statements apart). THE CARD IS WHAT COUNTS. Prove the row's statement (the work); the ties are given (YtonimccihcodnaaGreatDoorTie.lean); close each card by the builder's one call (the guide's Derived/Test/ToyasCard.lean, 'card_holds'). Laid BY PROGRAM, IN A SANDBOX (cutbox-door.mjs). By AI agents, Wed Nov 11 2026. No macro, syntax, notation, axiom, sorry.
-/
import Derived.Test.YtonimccihcodnaaGreatDoorRows
import GoSem.ClaimSeven
namespace Go.Proofs.YtonimccihcodnaaGreatDoor
namespace Rows

/-- THE TIED CARD OF 'laws.FnExactKey'. -/
def fnExactKeyCard : Claim7 := { stood := { row := fnExactKeyRow, standIns := [], harness := (true, "5d71cc010c7e5b103ca4b64b465079f0d9553a51a8e5b911972eab9e819bcd7f"), looks := true }, kinds := [], alts := [], laidByText := true, laidKinds := [.data, .data, .data, .data, .sentinel, .sentinel, .pinned], laidTests := true, laidLooks := .later }
def FnExactKeyCardSaid : Prop := Claim7.holds Tryz.pinned (.plain (OpenSpec.ofChange fnExactKeySpec)) fnExactKeyCard

/-- THE TIED CARD OF 'laws.FnKeys'. -/
def fnKeysCard : Claim7 := { stood := { row := fnKeysRow, standIns := [], harness := (true, "5d71cc010c7e5b103ca4b64b465079f0d9553a51a8e5b911972eab9e819bcd7f"), looks := true }, kinds := [], alts := [], laidByText := true, laidKinds := [.data, .data, .data, .data, .sentinel, .sentinel, .pinned], laidTests := true, laidLooks := .later }
def FnKeysCardSaid : Prop := Claim7.holds Tryz.pinned (.plain (OpenSpec.ofChange fnKeysSpec)) fnKeysCard

/-- THE SECOND FORM's CARD OF 'laws.FnExactKey'. -/
def fnExactKeyUptoCard : Claim7 := { stood := { row := fnExactKeyUptoRow, standIns := [], harness := (true, "5d71cc010c7e5b103ca4b64b465079f0d9553a51a8e5b911972eab9e819bcd7f"), looks := true }, kinds := [], alts := [], laidByText := true, laidKinds := [.data, .data, .data, .data, .sentinel, .sentinel, .pinned], laidTests := true, laidLooks := .later }
def FnExactKeyUptoCardSaid : Prop := Claim7.holds Tryz.pinned (.plain (OpenSpec.upto fnExactKeySpec)) fnExactKeyUptoCard

/-- THE SECOND FORM's CARD OF 'laws.FnKeys'. -/
def fnKeysUptoCard : Claim7 := { stood := { row := fnKeysUptoRow, standIns := [], harness := (true, "5d71cc010c7e5b103ca4b64b465079f0d9553a51a8e5b911972eab9e819bcd7f"), looks := true }, kinds := [], alts := [], laidByText := true, laidKinds := [.data, .data, .data, .data, .sentinel, .sentinel, .pinned], laidTests := true, laidLooks := .later }
def FnKeysUptoCardSaid : Prop := Claim7.holds Tryz.pinned (.plain (OpenSpec.upto fnKeysSpec)) fnKeysUptoCard
end Rows
end Go.Proofs.YtonimccihcodnaaGreatDoor
