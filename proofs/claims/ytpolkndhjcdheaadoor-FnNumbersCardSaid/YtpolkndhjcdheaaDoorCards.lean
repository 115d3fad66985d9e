/-
  DERIVED. GIVEN WITH THE SEED: THE CARDS: each row of YtpolkndhjcdheaaDoorRows.lean that lists a variable, with what it lists TIED to the program's text (the seventh form; the later family's looks); each row that meets fmt, with fmt's text TOLD by the authors' own Lean function (tested against real Go, not proved from fmt's source: count such statements apart). THE CARD IS WHAT COUNTS. Prove the row's statement (the work); the ties are given (YtpolkndhjcdheaaDoorTie.lean); close each card by the builder's one call (the guide's Derived/Test/ToyasCard.lean, 'card_holds'). Laid BY PROGRAM, IN A SANDBOX (cutbox-door.mjs). By AI agents, Wed Nov 11 2026. No macro, syntax, notation, axiom, sorry.
-/
import Derived.Test.YtpolkndhjcdheaaDoorRows
import GoSem.ClaimSeven
namespace Go.Proofs.YtpolkndhjcdheaaDoor
namespace Rows

/-- THE TIED CARD OF 'laws.FnExactShowDate'. -/
def fnExactShowDateCard : Claim7 := { stood := { row := fnExactShowDateRow, standIns := [], harness := (true, "2134072171a85a52d68e86f520862ac0071c1be3afb9790bf4bf02533f5fb1dc"), looks := true }, kinds := [], alts := [], laidByText := true, laidKinds := [.data, .data, .data], laidTests := true, laidLooks := .later }
def FnExactShowDateCardSaid : Prop := Claim7.holds Tryd.pinned (.plain (OpenSpec.ofChange fnExactShowDateSpec)) fnExactShowDateCard

/-- THE TIED CARD OF 'laws.FnExactReadDate'. -/
def fnExactReadDateCard : Claim7 := { stood := { row := fnExactReadDateRow, standIns := [], harness := (true, "2134072171a85a52d68e86f520862ac0071c1be3afb9790bf4bf02533f5fb1dc"), looks := true }, kinds := [], alts := [], laidByText := true, laidKinds := [.data, .data, .data, .sentinel, .sentinel], laidTests := true, laidLooks := .later }
def FnExactReadDateCardSaid : Prop := Claim7.holds Tryd.pinned (.plain (OpenSpec.ofChange fnExactReadDateSpec)) fnExactReadDateCard

/-- THE TIED CARD OF 'laws.FnWritten'. -/
def fnWrittenCard : Claim7 := { stood := { row := fnWrittenRow, standIns := [], harness := (true, "2134072171a85a52d68e86f520862ac0071c1be3afb9790bf4bf02533f5fb1dc"), looks := true }, kinds := [], alts := [], laidByText := true, laidKinds := [.data, .data, .data, .sentinel, .sentinel], laidTests := true, laidLooks := .later }
def FnWrittenCardSaid : Prop := Claim7.holds Tryd.pinned (.plain (OpenSpec.ofChange fnWrittenSpec)) fnWrittenCard

/-- THE TIED CARD OF 'laws.FnExactHex'. -/
def fnExactHexCard : Claim7 := { stood := { row := fnExactHexRow, standIns := [], harness := (true, "2134072171a85a52d68e86f520862ac0071c1be3afb9790bf4bf02533f5fb1dc"), looks := true }, kinds := [], alts := [], laidByText := true, laidKinds := [.data, .data, .data], laidTests := true, laidLooks := .later }
def FnExactHexCardSaid : Prop := Claim7.holds Tryd.pinned (.plain (OpenSpec.ofChange fnExactHexSpec)) fnExactHexCard

/-- THE TIED CARD OF 'laws.FnNumbers'. -/
def fnNumbersCard : Claim7 := { stood := { row := fnNumbersRow, standIns := [], harness := (true, "2134072171a85a52d68e86f520862ac0071c1be3afb9790bf4bf02533f5fb1dc"), looks := true }, kinds := [], alts := [], laidByText := true, laidKinds := [.data, .data, .data, .sentinel, .sentinel], laidTests := true, laidLooks := .later }
def FnNumbersCardSaid : Prop := Claim7.holds Tryd.pinned (.plain (OpenSpec.ofChange fnNumbersSpec)) fnNumbersCard

/-- THE SECOND FORM's CARD OF 'laws.FnExactShowDate'. -/
def fnExactShowDateUptoCard : Claim7 := { stood := { row := fnExactShowDateUptoRow, standIns := [], harness := (true, "2134072171a85a52d68e86f520862ac0071c1be3afb9790bf4bf02533f5fb1dc"), looks := true }, kinds := [], alts := [], laidByText := true, laidKinds := [.data, .data, .data], laidTests := true, laidLooks := .later }
def FnExactShowDateUptoCardSaid : Prop := Claim7.holds Tryd.pinned (.plain (OpenSpec.upto fnExactShowDateSpec)) fnExactShowDateUptoCard

/-- THE SECOND FORM's CARD OF 'laws.FnExactReadDate'. -/
def fnExactReadDateUptoCard : Claim7 := { stood := { row := fnExactReadDateUptoRow, standIns := [], harness := (true, "2134072171a85a52d68e86f520862ac0071c1be3afb9790bf4bf02533f5fb1dc"), looks := true }, kinds := [], alts := [], laidByText := true, laidKinds := [.data, .data, .data, .sentinel, .sentinel], laidTests := true, laidLooks := .later }
def FnExactReadDateUptoCardSaid : Prop := Claim7.holds Tryd.pinned (.plain (OpenSpec.upto fnExactReadDateSpec)) fnExactReadDateUptoCard

/-- THE SECOND FORM's CARD OF 'laws.FnWritten'. -/
def fnWrittenUptoCard : Claim7 := { stood := { row := fnWrittenUptoRow, standIns := [], harness := (true, "2134072171a85a52d68e86f520862ac0071c1be3afb9790bf4bf02533f5fb1dc"), looks := true }, kinds := [], alts := [], laidByText := true, laidKinds := [.data, .data, .data, .sentinel, .sentinel], laidTests := true, laidLooks := .later }
def FnWrittenUptoCardSaid : Prop := Claim7.holds Tryd.pinned (.plain (OpenSpec.upto fnWrittenSpec)) fnWrittenUptoCard

/-- THE SECOND FORM's CARD OF 'laws.FnExactHex'. -/
def fnExactHexUptoCard : Claim7 := { stood := { row := fnExactHexUptoRow, standIns := [], harness := (true, "2134072171a85a52d68e86f520862ac0071c1be3afb9790bf4bf02533f5fb1dc"), looks := true }, kinds := [], alts := [], laidByText := true, laidKinds := [.data, .data, .data], laidTests := true, laidLooks := .later }
def FnExactHexUptoCardSaid : Prop := Claim7.holds Tryd.pinned (.plain (OpenSpec.upto fnExactHexSpec)) fnExactHexUptoCard

/-- THE SECOND FORM's CARD OF 'laws.FnNumbers'. -/
def fnNumbersUptoCard : Claim7 := { stood := { row := fnNumbersUptoRow, standIns := [], harness := (true, "2134072171a85a52d68e86f520862ac0071c1be3afb9790bf4bf02533f5fb1dc"), looks := true }, kinds := [], alts := [], laidByText := true, laidKinds := [.data, .data, .data, .sentinel, .sentinel], laidTests := true, laidLooks := .later }
def FnNumbersUptoCardSaid : Prop := Claim7.holds Tryd.pinned (.plain (OpenSpec.upto fnNumbersSpec)) fnNumbersUptoCard
end Rows
end Go.Proofs.YtpolkndhjcdheaaDoor
