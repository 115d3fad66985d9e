/-
  DERIVED. GIVEN WITH THE SEED: THE CARDS: each row of YtfbgpjhnjdhpcaaDoorRows.lean that lists a variable, with what it lists TIED to the program's text (the seventh form; the later family's looks); each row that meets fmt, with fmt's text TOLD by the authors' own Lean function (tested against real Go, not proved from fmt's source: count such statements apart). THE CARD IS WHAT COUNTS. Prove the row's statement (the work); the ties are given (YtfbgpjhnjdhpcaaDoorTie.lean); close each card by the builder's one call (the guide's Derived/Test/ToyasCard.lean, 'card_holds'). Laid BY PROGRAM, IN A SANDBOX (cutbox-door.mjs). By AI agents, Wed Nov 11 2026. No macro, syntax, notation, axiom, sorry.
-/
import Derived.Test.YtfbgpjhnjdhpcaaDoorRows
import GoSem.ClaimSeven
namespace Go.Proofs.YtfbgpjhnjdhpcaaDoor
namespace Rows

/-- THE TIED CARD OF 'laws.FnPaths'. -/
def fnPathsCard : Claim7 := { stood := { row := fnPathsRow, standIns := [], harness := (true, "78e80f0384d6e2022df3e81acfcb6307d5866df5814ad4cc6640037b35f23dbb"), looks := true }, kinds := [], alts := [], laidByText := true, laidKinds := [.data, .data, .data, .data, .sentinel, .sentinel, .pinned], laidTests := true, laidLooks := .later }
def FnPathsCardSaid : Prop := Claim7.holds Tryd.pinned (.plain (OpenSpec.ofChange fnPathsSpec)) fnPathsCard

/-- THE TIED CARD OF 'laws.FnChunked'. -/
def fnChunkedCard : Claim7 := { stood := { row := fnChunkedRow, standIns := [], harness := (true, "78e80f0384d6e2022df3e81acfcb6307d5866df5814ad4cc6640037b35f23dbb"), looks := true }, kinds := [], alts := [], laidByText := true, laidKinds := [.data, .data, .data, .sentinel, .sentinel], laidTests := true, laidLooks := .later }
def FnChunkedCardSaid : Prop := Claim7.holds Tryd.pinned (.plain (OpenSpec.ofChange fnChunkedSpec)) fnChunkedCard

/-- THE TIED CARD OF 'laws.FnEaten'. -/
def fnEatenCard : Claim7 := { stood := { row := fnEatenRow, standIns := [], harness := (true, "78e80f0384d6e2022df3e81acfcb6307d5866df5814ad4cc6640037b35f23dbb"), looks := true }, kinds := [], alts := [], laidByText := true, laidKinds := [.data, .data, .data, .sentinel, .sentinel], laidTests := true, laidLooks := .later }
def FnEatenCardSaid : Prop := Claim7.holds Tryd.pinned (.plain (OpenSpec.ofChange fnEatenSpec)) fnEatenCard

/-- THE SECOND FORM's CARD OF 'laws.FnPaths'. -/
def fnPathsUptoCard : Claim7 := { stood := { row := fnPathsUptoRow, standIns := [], harness := (true, "78e80f0384d6e2022df3e81acfcb6307d5866df5814ad4cc6640037b35f23dbb"), looks := true }, kinds := [], alts := [], laidByText := true, laidKinds := [.data, .data, .data, .data, .sentinel, .sentinel, .pinned], laidTests := true, laidLooks := .later }
def FnPathsUptoCardSaid : Prop := Claim7.holds Tryd.pinned (.plain (OpenSpec.upto fnPathsSpec)) fnPathsUptoCard

/-- THE SECOND FORM's CARD OF 'laws.FnChunked'. -/
def fnChunkedUptoCard : Claim7 := { stood := { row := fnChunkedUptoRow, standIns := [], harness := (true, "78e80f0384d6e2022df3e81acfcb6307d5866df5814ad4cc6640037b35f23dbb"), looks := true }, kinds := [], alts := [], laidByText := true, laidKinds := [.data, .data, .data, .sentinel, .sentinel], laidTests := true, laidLooks := .later }
def FnChunkedUptoCardSaid : Prop := Claim7.holds Tryd.pinned (.plain (OpenSpec.upto fnChunkedSpec)) fnChunkedUptoCard

/-- THE SECOND FORM's CARD OF 'laws.FnEaten'. -/
def fnEatenUptoCard : Claim7 := { stood := { row := fnEatenUptoRow, standIns := [], harness := (true, "78e80f0384d6e2022df3e81acfcb6307d5866df5814ad4cc6640037b35f23dbb"), looks := true }, kinds := [], alts := [], laidByText := true, laidKinds := [.data, .data, .data, .sentinel, .sentinel], laidTests := true, laidLooks := .later }
def FnEatenUptoCardSaid : Prop := Claim7.holds Tryd.pinned (.plain (OpenSpec.upto fnEatenSpec)) fnEatenUptoCard
end Rows
end Go.Proofs.YtfbgpjhnjdhpcaaDoor
