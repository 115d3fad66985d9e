/-
  DERIVED. GIVEN WITH THE SEED: THE CARDS: each row of YtpilaeoiagdoeaaDoorRows.lean that lists a variable, with what it lists TIED to the program's text (the seventh form; the later family's looks); each row that meets fmt, with fmt's text TOLD by the authors' own Lean function (tested against real Go, not proved from fmt's source: count such statements apart). THE CARD IS WHAT COUNTS. Prove the row's statement (the work); the ties are given (YtpilaeoiagdoeaaDoorTie.lean); close each card by the builder's one call (the guide's Derived/Test/ToyasCard.lean, 'card_holds'). Laid BY PROGRAM, IN A SANDBOX (cutbox-door.mjs). By AI agents, Wed Nov 11 2026. No macro, syntax, notation, axiom, sorry.
-/
import Derived.Test.YtpilaeoiagdoeaaDoorRows
import GoSem.ClaimSeven
namespace Go.Proofs.YtpilaeoiagdoeaaDoor
namespace Rows

/-- THE TIED CARD OF 'laws.FnExactTrimmed'. -/
def fnExactTrimmedCard : Claim7 := { stood := { row := fnExactTrimmedRow, standIns := [], harness := (true, "287fd3763fb036b34b0038566f3bf98d4b21d9ed6af4807099248ba743891527"), looks := true }, kinds := [], alts := [], laidByText := true, laidKinds := [.data, .pinned], laidTests := true, laidLooks := .later }
def FnExactTrimmedCardSaid : Prop := Claim7.holds Tryd.pinned (.plain (OpenSpec.ofChange fnExactTrimmedSpec)) fnExactTrimmedCard

/-- THE TIED CARD OF 'laws.FnExactItems'. -/
def fnExactItemsCard : Claim7 := { stood := { row := fnExactItemsRow, standIns := [], harness := (true, "287fd3763fb036b34b0038566f3bf98d4b21d9ed6af4807099248ba743891527"), looks := true }, kinds := [], alts := [], laidByText := true, laidKinds := [.data, .pinned], laidTests := true, laidLooks := .later }
def FnExactItemsCardSaid : Prop := Claim7.holds Tryd.pinned (.plain (OpenSpec.ofChange fnExactItemsSpec)) fnExactItemsCard

/-- THE TIED CARD OF 'laws.FnItems'. -/
def fnItemsCard : Claim7 := { stood := { row := fnItemsRow, standIns := [], harness := (true, "287fd3763fb036b34b0038566f3bf98d4b21d9ed6af4807099248ba743891527"), looks := true }, kinds := [], alts := [], laidByText := true, laidKinds := [.data, .pinned], laidTests := true, laidLooks := .later }
def FnItemsCardSaid : Prop := Claim7.holds Tryd.pinned (.plain (OpenSpec.ofChange fnItemsSpec)) fnItemsCard

/-- THE TIED CARD OF 'laws.FnExactReadTag'. -/
def fnExactReadTagCard : Claim7 := { stood := { row := fnExactReadTagRow, standIns := [], harness := (true, "287fd3763fb036b34b0038566f3bf98d4b21d9ed6af4807099248ba743891527"), looks := true }, kinds := [], alts := [], laidByText := true, laidKinds := [.data, .pinned], laidTests := true, laidLooks := .later }
def FnExactReadTagCardSaid : Prop := Claim7.holds Tryd.pinned (.plain (OpenSpec.ofChange fnExactReadTagSpec)) fnExactReadTagCard

/-- THE TIED CARD OF 'laws.FnExactChunked'. -/
def fnExactChunkedCard : Claim7 := { stood := { row := fnExactChunkedRow, standIns := [], harness := (true, "287fd3763fb036b34b0038566f3bf98d4b21d9ed6af4807099248ba743891527"), looks := true }, kinds := [], alts := [], laidByText := true, laidKinds := [.data, .data, .data], laidTests := true, laidLooks := .later }
def FnExactChunkedCardSaid : Prop := Claim7.holds Tryd.pinned (.plain (OpenSpec.ofChange fnExactChunkedSpec)) fnExactChunkedCard

/-- THE TIED CARD OF 'laws.FnExactUnchunked'. -/
def fnExactUnchunkedCard : Claim7 := { stood := { row := fnExactUnchunkedRow, standIns := [], harness := (true, "287fd3763fb036b34b0038566f3bf98d4b21d9ed6af4807099248ba743891527"), looks := true }, kinds := [], alts := [], laidByText := true, laidKinds := [.data, .data, .data, .sentinel, .sentinel], laidTests := true, laidLooks := .later }
def FnExactUnchunkedCardSaid : Prop := Claim7.holds Tryd.pinned (.plain (OpenSpec.ofChange fnExactUnchunkedSpec)) fnExactUnchunkedCard

/-- THE TIED CARD OF 'laws.FnExactEat'. -/
def fnExactEatCard : Claim7 := { stood := { row := fnExactEatRow, standIns := [], harness := (true, "287fd3763fb036b34b0038566f3bf98d4b21d9ed6af4807099248ba743891527"), looks := true }, kinds := [], alts := [], laidByText := true, laidKinds := [.data, .data, .data, .sentinel, .sentinel], laidTests := true, laidLooks := .later }
def FnExactEatCardSaid : Prop := Claim7.holds Tryd.pinned (.plain (OpenSpec.ofChange fnExactEatSpec)) fnExactEatCard

/-- THE TIED CARD OF 'laws.FnExactEatAll'. -/
def fnExactEatAllCard : Claim7 := { stood := { row := fnExactEatAllRow, standIns := [], harness := (true, "287fd3763fb036b34b0038566f3bf98d4b21d9ed6af4807099248ba743891527"), looks := true }, kinds := [], alts := [], laidByText := true, laidKinds := [.data, .data, .data, .sentinel, .sentinel], laidTests := true, laidLooks := .later }
def FnExactEatAllCardSaid : Prop := Claim7.holds Tryd.pinned (.plain (OpenSpec.ofChange fnExactEatAllSpec)) fnExactEatAllCard

/-- THE TIED CARD OF 'laws.FnEaten'. -/
def fnEatenCard : Claim7 := { stood := { row := fnEatenRow, standIns := [], harness := (true, "287fd3763fb036b34b0038566f3bf98d4b21d9ed6af4807099248ba743891527"), looks := true }, kinds := [], alts := [], laidByText := true, laidKinds := [.data, .data, .data, .sentinel, .sentinel], laidTests := true, laidLooks := .later }
def FnEatenCardSaid : Prop := Claim7.holds Tryd.pinned (.plain (OpenSpec.ofChange fnEatenSpec)) fnEatenCard

/-- THE SECOND FORM's CARD OF 'laws.FnExactTrimmed'. -/
def fnExactTrimmedUptoCard : Claim7 := { stood := { row := fnExactTrimmedUptoRow, standIns := [], harness := (true, "287fd3763fb036b34b0038566f3bf98d4b21d9ed6af4807099248ba743891527"), looks := true }, kinds := [], alts := [], laidByText := true, laidKinds := [.data, .pinned], laidTests := true, laidLooks := .later }
def FnExactTrimmedUptoCardSaid : Prop := Claim7.holds Tryd.pinned (.plain (OpenSpec.upto fnExactTrimmedSpec)) fnExactTrimmedUptoCard

/-- THE SECOND FORM's CARD OF 'laws.FnExactItems'. -/
def fnExactItemsUptoCard : Claim7 := { stood := { row := fnExactItemsUptoRow, standIns := [], harness := (true, "287fd3763fb036b34b0038566f3bf98d4b21d9ed6af4807099248ba743891527"), looks := true }, kinds := [], alts := [], laidByText := true, laidKinds := [.data, .pinned], laidTests := true, laidLooks := .later }
def FnExactItemsUptoCardSaid : Prop := Claim7.holds Tryd.pinned (.plain (OpenSpec.upto fnExactItemsSpec)) fnExactItemsUptoCard

/-- THE SECOND FORM's CARD OF 'laws.FnItems'. -/
def fnItemsUptoCard : Claim7 := { stood := { row := fnItemsUptoRow, standIns := [], harness := (true, "287fd3763fb036b34b0038566f3bf98d4b21d9ed6af4807099248ba743891527"), looks := true }, kinds := [], alts := [], laidByText := true, laidKinds := [.data, .pinned], laidTests := true, laidLooks := .later }
def FnItemsUptoCardSaid : Prop := Claim7.holds Tryd.pinned (.plain (OpenSpec.upto fnItemsSpec)) fnItemsUptoCard

/-- THE SECOND FORM's CARD OF 'laws.FnExactReadTag'. -/
def fnExactReadTagUptoCard : Claim7 := { stood := { row := fnExactReadTagUptoRow, standIns := [], harness := (true, "287fd3763fb036b34b0038566f3bf98d4b21d9ed6af4807099248ba743891527"), looks := true }, kinds := [], alts := [], laidByText := true, laidKinds := [.data, .pinned], laidTests := true, laidLooks := .later }
def FnExactReadTagUptoCardSaid : Prop := Claim7.holds Tryd.pinned (.plain (OpenSpec.upto fnExactReadTagSpec)) fnExactReadTagUptoCard

/-- THE SECOND FORM's CARD OF 'laws.FnExactChunked'. -/
def fnExactChunkedUptoCard : Claim7 := { stood := { row := fnExactChunkedUptoRow, standIns := [], harness := (true, "287fd3763fb036b34b0038566f3bf98d4b21d9ed6af4807099248ba743891527"), looks := true }, kinds := [], alts := [], laidByText := true, laidKinds := [.data, .data, .data], laidTests := true, laidLooks := .later }
def FnExactChunkedUptoCardSaid : Prop := Claim7.holds Tryd.pinned (.plain (OpenSpec.upto fnExactChunkedSpec)) fnExactChunkedUptoCard

/-- THE SECOND FORM's CARD OF 'laws.FnExactUnchunked'. -/
def fnExactUnchunkedUptoCard : Claim7 := { stood := { row := fnExactUnchunkedUptoRow, standIns := [], harness := (true, "287fd3763fb036b34b0038566f3bf98d4b21d9ed6af4807099248ba743891527"), looks := true }, kinds := [], alts := [], laidByText := true, laidKinds := [.data, .data, .data, .sentinel, .sentinel], laidTests := true, laidLooks := .later }
def FnExactUnchunkedUptoCardSaid : Prop := Claim7.holds Tryd.pinned (.plain (OpenSpec.upto fnExactUnchunkedSpec)) fnExactUnchunkedUptoCard

/-- THE SECOND FORM's CARD OF 'laws.FnExactEat'. -/
def fnExactEatUptoCard : Claim7 := { stood := { row := fnExactEatUptoRow, standIns := [], harness := (true, "287fd3763fb036b34b0038566f3bf98d4b21d9ed6af4807099248ba743891527"), looks := true }, kinds := [], alts := [], laidByText := true, laidKinds := [.data, .data, .data, .sentinel, .sentinel], laidTests := true, laidLooks := .later }
def FnExactEatUptoCardSaid : Prop := Claim7.holds Tryd.pinned (.plain (OpenSpec.upto fnExactEatSpec)) fnExactEatUptoCard

/-- THE SECOND FORM's CARD OF 'laws.FnExactEatAll'. -/
def fnExactEatAllUptoCard : Claim7 := { stood := { row := fnExactEatAllUptoRow, standIns := [], harness := (true, "287fd3763fb036b34b0038566f3bf98d4b21d9ed6af4807099248ba743891527"), looks := true }, kinds := [], alts := [], laidByText := true, laidKinds := [.data, .data, .data, .sentinel, .sentinel], laidTests := true, laidLooks := .later }
def FnExactEatAllUptoCardSaid : Prop := Claim7.holds Tryd.pinned (.plain (OpenSpec.upto fnExactEatAllSpec)) fnExactEatAllUptoCard

/-- THE SECOND FORM's CARD OF 'laws.FnEaten'. -/
def fnEatenUptoCard : Claim7 := { stood := { row := fnEatenUptoRow, standIns := [], harness := (true, "287fd3763fb036b34b0038566f3bf98d4b21d9ed6af4807099248ba743891527"), looks := true }, kinds := [], alts := [], laidByText := true, laidKinds := [.data, .data, .data, .sentinel, .sentinel], laidTests := true, laidLooks := .later }
def FnEatenUptoCardSaid : Prop := Claim7.holds Tryd.pinned (.plain (OpenSpec.upto fnEatenSpec)) fnEatenUptoCard
end Rows
end Go.Proofs.YtpilaeoiagdoeaaDoor
