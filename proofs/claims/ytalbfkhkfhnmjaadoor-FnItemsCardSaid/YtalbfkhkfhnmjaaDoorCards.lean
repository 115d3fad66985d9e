/-
  DERIVED. GIVEN WITH THE SEED: THE CARDS: each row of YtalbfkhkfhnmjaaDoorRows.lean that lists a variable, with what it lists TIED to the program's text (the seventh form; the later family's looks); each row that meets fmt, with fmt's text TOLD by the authors' own Lean function (tested against real Go, not proved from fmt's source: count such statements apart). THE CARD IS WHAT COUNTS. Prove the row's statement (the work); the ties are given (YtalbfkhkfhnmjaaDoorTie.lean); close each card by the builder's one call (the guide's Derived/Test/ToyasCard.lean, 'card_holds'). Laid BY PROGRAM, IN A SANDBOX (cutbox-door.mjs). By AI agents, Wed Nov 11 2026. No macro, syntax, notation, axiom, sorry.
-/
import Derived.Test.YtalbfkhkfhnmjaaDoorRows
import GoSem.ClaimSeven
namespace Go.Proofs.YtalbfkhkfhnmjaaDoor
namespace Rows

/-- THE TIED CARD OF 'laws.FnExactItems'. -/
def fnExactItemsCard : Claim7 := { stood := { row := fnExactItemsRow, standIns := [], harness := (true, "7e7a3fefffea0b553aa830ed627cf692d5253a5efc4814182ed69e94805bf61a"), looks := true }, kinds := [], alts := [], laidByText := true, laidKinds := [.data, .pinned], laidTests := true, laidLooks := .later }
def FnExactItemsCardSaid : Prop := Claim7.holds Tryd.pinned (.plain (OpenSpec.ofChange fnExactItemsSpec)) fnExactItemsCard

/-- THE TIED CARD OF 'laws.FnItems'. -/
def fnItemsCard : Claim7 := { stood := { row := fnItemsRow, standIns := [], harness := (true, "7e7a3fefffea0b553aa830ed627cf692d5253a5efc4814182ed69e94805bf61a"), looks := true }, kinds := [], alts := [], laidByText := true, laidKinds := [.data, .pinned], laidTests := true, laidLooks := .later }
def FnItemsCardSaid : Prop := Claim7.holds Tryd.pinned (.plain (OpenSpec.ofChange fnItemsSpec)) fnItemsCard

/-- THE TIED CARD OF 'laws.FnExactChunked'. -/
def fnExactChunkedCard : Claim7 := { stood := { row := fnExactChunkedRow, standIns := [], harness := (true, "7e7a3fefffea0b553aa830ed627cf692d5253a5efc4814182ed69e94805bf61a"), looks := true }, kinds := [], alts := [], laidByText := true, laidKinds := [.data, .data, .data], laidTests := true, laidLooks := .later }
def FnExactChunkedCardSaid : Prop := Claim7.holds Tryd.pinned (.plain (OpenSpec.ofChange fnExactChunkedSpec)) fnExactChunkedCard

/-- THE TIED CARD OF 'laws.FnEaten'. -/
def fnEatenCard : Claim7 := { stood := { row := fnEatenRow, standIns := [], harness := (true, "7e7a3fefffea0b553aa830ed627cf692d5253a5efc4814182ed69e94805bf61a"), looks := true }, kinds := [], alts := [], laidByText := true, laidKinds := [.data, .data, .data, .sentinel, .sentinel], laidTests := true, laidLooks := .later }
def FnEatenCardSaid : Prop := Claim7.holds Tryd.pinned (.plain (OpenSpec.ofChange fnEatenSpec)) fnEatenCard

/-- THE SECOND FORM's CARD OF 'laws.FnExactItems'. -/
def fnExactItemsUptoCard : Claim7 := { stood := { row := fnExactItemsUptoRow, standIns := [], harness := (true, "7e7a3fefffea0b553aa830ed627cf692d5253a5efc4814182ed69e94805bf61a"), looks := true }, kinds := [], alts := [], laidByText := true, laidKinds := [.data, .pinned], laidTests := true, laidLooks := .later }
def FnExactItemsUptoCardSaid : Prop := Claim7.holds Tryd.pinned (.plain (OpenSpec.upto fnExactItemsSpec)) fnExactItemsUptoCard

/-- THE SECOND FORM's CARD OF 'laws.FnItems'. -/
def fnItemsUptoCard : Claim7 := { stood := { row := fnItemsUptoRow, standIns := [], harness := (true, "7e7a3fefffea0b553aa830ed627cf692d5253a5efc4814182ed69e94805bf61a"), looks := true }, kinds := [], alts := [], laidByText := true, laidKinds := [.data, .pinned], laidTests := true, laidLooks := .later }
def FnItemsUptoCardSaid : Prop := Claim7.holds Tryd.pinned (.plain (OpenSpec.upto fnItemsSpec)) fnItemsUptoCard

/-- THE SECOND FORM's CARD OF 'laws.FnExactChunked'. -/
def fnExactChunkedUptoCard : Claim7 := { stood := { row := fnExactChunkedUptoRow, standIns := [], harness := (true, "7e7a3fefffea0b553aa830ed627cf692d5253a5efc4814182ed69e94805bf61a"), looks := true }, kinds := [], alts := [], laidByText := true, laidKinds := [.data, .data, .data], laidTests := true, laidLooks := .later }
def FnExactChunkedUptoCardSaid : Prop := Claim7.holds Tryd.pinned (.plain (OpenSpec.upto fnExactChunkedSpec)) fnExactChunkedUptoCard

/-- THE SECOND FORM's CARD OF 'laws.FnEaten'. -/
def fnEatenUptoCard : Claim7 := { stood := { row := fnEatenUptoRow, standIns := [], harness := (true, "7e7a3fefffea0b553aa830ed627cf692d5253a5efc4814182ed69e94805bf61a"), looks := true }, kinds := [], alts := [], laidByText := true, laidKinds := [.data, .data, .data, .sentinel, .sentinel], laidTests := true, laidLooks := .later }
def FnEatenUptoCardSaid : Prop := Claim7.holds Tryd.pinned (.plain (OpenSpec.upto fnEatenSpec)) fnEatenUptoCard
end Rows
end Go.Proofs.YtalbfkhkfhnmjaaDoor
