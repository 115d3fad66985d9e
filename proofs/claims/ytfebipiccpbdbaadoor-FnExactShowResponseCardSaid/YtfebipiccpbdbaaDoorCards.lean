/-
  DERIVED. GIVEN WITH THE SEED: THE CARDS: each row of YtfebipiccpbdbaaDoorRows.lean that lists a variable, with what it lists TIED to the program's text (the seventh form; the later family's looks); each row that meets fmt, with fmt's text TOLD by the authors' own Lean function (tested against real Go, not proved from fmt's source: count such statements apart). THE CARD IS WHAT COUNTS. Prove the row's statement (the work); the ties are given (YtfebipiccpbdbaaDoorTie.lean); close each card by the builder's one call (the guide's Derived/Test/ToyasCard.lean, 'card_holds'). Laid BY PROGRAM, IN A SANDBOX (cutbox-door.mjs). By AI agents, Wed Nov 11 2026. No macro, syntax, notation, axiom, sorry.
-/
import Derived.Test.YtfebipiccpbdbaaDoorRows
import GoSem.ClaimSeven
namespace Go.Proofs.YtfebipiccpbdbaaDoor
namespace Rows

/-- THE TIED CARD OF 'laws.FnExactFieldsOk'. -/
def fnExactFieldsOkCard : Claim7 := { stood := { row := fnExactFieldsOkRow, standIns := [], harness := (true, "090dd8b52d5a9aab87a70a45cd45ba9354c43069745460516db811f4df20d7d4"), looks := false }, kinds := [], alts := [], laidByText := true, laidKinds := [.data, .pinned], laidTests := true, laidLooks := .later }
def FnExactFieldsOkCardSaid : Prop := Claim7.holds Tryd.pinned (.plain (OpenSpec.ofChange fnExactFieldsOkSpec)) fnExactFieldsOkCard

/-- THE TIED CARD OF 'laws.FnExactShowFields'. -/
def fnExactShowFieldsCard : Claim7 := { stood := { row := fnExactShowFieldsRow, standIns := [], harness := (true, "090dd8b52d5a9aab87a70a45cd45ba9354c43069745460516db811f4df20d7d4"), looks := false }, kinds := [], alts := [], laidByText := true, laidKinds := [.data, .pinned], laidTests := true, laidLooks := .later }
def FnExactShowFieldsCardSaid : Prop := Claim7.holds Tryd.pinned (.plain (OpenSpec.ofChange fnExactShowFieldsSpec)) fnExactShowFieldsCard

/-- THE TIED CARD OF 'laws.FnExactWithout'. -/
def fnExactWithoutCard : Claim7 := { stood := { row := fnExactWithoutRow, standIns := [], harness := (true, "090dd8b52d5a9aab87a70a45cd45ba9354c43069745460516db811f4df20d7d4"), looks := false }, kinds := [], alts := [], laidByText := true, laidKinds := [.data, .pinned], laidTests := true, laidLooks := .later }
def FnExactWithoutCardSaid : Prop := Claim7.holds Tryd.pinned (.plain (OpenSpec.ofChange fnExactWithoutSpec)) fnExactWithoutCard

/-- THE TIED CARD OF 'laws.FnExactWith'. -/
def fnExactWithCard : Claim7 := { stood := { row := fnExactWithRow, standIns := [], harness := (true, "090dd8b52d5a9aab87a70a45cd45ba9354c43069745460516db811f4df20d7d4"), looks := false }, kinds := [], alts := [], laidByText := true, laidKinds := [.data, .pinned], laidTests := true, laidLooks := .later }
def FnExactWithCardSaid : Prop := Claim7.holds Tryd.pinned (.plain (OpenSpec.ofChange fnExactWithSpec)) fnExactWithCard

/-- THE TIED CARD OF 'laws.FnExactReadFields'. -/
def fnExactReadFieldsCard : Claim7 := { stood := { row := fnExactReadFieldsRow, standIns := [], harness := (true, "090dd8b52d5a9aab87a70a45cd45ba9354c43069745460516db811f4df20d7d4"), looks := false }, kinds := [], alts := [], laidByText := true, laidKinds := [.data, .pinned], laidTests := true, laidLooks := .later }
def FnExactReadFieldsCardSaid : Prop := Claim7.holds Tryd.pinned (.plain (OpenSpec.ofChange fnExactReadFieldsSpec)) fnExactReadFieldsCard

/-- THE TIED CARD OF 'laws.FnFields'. -/
def fnFieldsCard : Claim7 := { stood := { row := fnFieldsRow, standIns := [], harness := (true, "090dd8b52d5a9aab87a70a45cd45ba9354c43069745460516db811f4df20d7d4"), looks := false }, kinds := [], alts := [], laidByText := true, laidKinds := [.data, .pinned], laidTests := true, laidLooks := .later }
def FnFieldsCardSaid : Prop := Claim7.holds Tryd.pinned (.plain (OpenSpec.ofChange fnFieldsSpec)) fnFieldsCard

/-- THE TIED CARD OF 'laws.FnExactResponseOk'. -/
def fnExactResponseOkCard : Claim7 := { stood := { row := fnExactResponseOkRow, standIns := [], harness := (true, "090dd8b52d5a9aab87a70a45cd45ba9354c43069745460516db811f4df20d7d4"), looks := false }, kinds := [], alts := [], laidByText := true, laidKinds := [.data, .pinned], laidTests := true, laidLooks := .later }
def FnExactResponseOkCardSaid : Prop := Claim7.holds Tryd.pinned (.plain (OpenSpec.ofChange fnExactResponseOkSpec)) fnExactResponseOkCard

/-- THE TIED CARD OF 'laws.FnExactRequestOk'. -/
def fnExactRequestOkCard : Claim7 := { stood := { row := fnExactRequestOkRow, standIns := [], harness := (true, "090dd8b52d5a9aab87a70a45cd45ba9354c43069745460516db811f4df20d7d4"), looks := false }, kinds := [], alts := [], laidByText := true, laidKinds := [.data, .pinned], laidTests := true, laidLooks := .later }
def FnExactRequestOkCardSaid : Prop := Claim7.holds Tryd.pinned (.plain (OpenSpec.ofChange fnExactRequestOkSpec)) fnExactRequestOkCard

/-- THE TIED CARD OF 'laws.FnExactShowRequest'. -/
def fnExactShowRequestCard : Claim7 := { stood := { row := fnExactShowRequestRow, standIns := [], harness := (true, "090dd8b52d5a9aab87a70a45cd45ba9354c43069745460516db811f4df20d7d4"), looks := false }, kinds := [], alts := [], laidByText := true, laidKinds := [.data, .data, .data, .data, .pinned], laidTests := true, laidLooks := .later }
def FnExactShowRequestCardSaid : Prop := Claim7.holds Tryd.pinned (.plain (OpenSpec.ofChange fnExactShowRequestSpec)) fnExactShowRequestCard

/-- THE TIED CARD OF 'laws.FnExactShowResponse'. -/
def fnExactShowResponseCard : Claim7 := { stood := { row := fnExactShowResponseRow, standIns := [], harness := (true, "090dd8b52d5a9aab87a70a45cd45ba9354c43069745460516db811f4df20d7d4"), looks := false }, kinds := [], alts := [], laidByText := true, laidKinds := [.data, .data, .data, .data, .pinned], laidTests := true, laidLooks := .later }
def FnExactShowResponseCardSaid : Prop := Claim7.holds Tryd.pinned (.plain (OpenSpec.ofChange fnExactShowResponseSpec)) fnExactShowResponseCard

/-- THE SECOND FORM's CARD OF 'laws.FnExactFieldsOk'. -/
def fnExactFieldsOkUptoCard : Claim7 := { stood := { row := fnExactFieldsOkUptoRow, standIns := [], harness := (true, "090dd8b52d5a9aab87a70a45cd45ba9354c43069745460516db811f4df20d7d4"), looks := false }, kinds := [], alts := [], laidByText := true, laidKinds := [.data, .pinned], laidTests := true, laidLooks := .later }
def FnExactFieldsOkUptoCardSaid : Prop := Claim7.holds Tryd.pinned (.plain (OpenSpec.upto fnExactFieldsOkSpec)) fnExactFieldsOkUptoCard

/-- THE SECOND FORM's CARD OF 'laws.FnExactShowFields'. -/
def fnExactShowFieldsUptoCard : Claim7 := { stood := { row := fnExactShowFieldsUptoRow, standIns := [], harness := (true, "090dd8b52d5a9aab87a70a45cd45ba9354c43069745460516db811f4df20d7d4"), looks := false }, kinds := [], alts := [], laidByText := true, laidKinds := [.data, .pinned], laidTests := true, laidLooks := .later }
def FnExactShowFieldsUptoCardSaid : Prop := Claim7.holds Tryd.pinned (.plain (OpenSpec.upto fnExactShowFieldsSpec)) fnExactShowFieldsUptoCard

/-- THE SECOND FORM's CARD OF 'laws.FnExactWithout'. -/
def fnExactWithoutUptoCard : Claim7 := { stood := { row := fnExactWithoutUptoRow, standIns := [], harness := (true, "090dd8b52d5a9aab87a70a45cd45ba9354c43069745460516db811f4df20d7d4"), looks := false }, kinds := [], alts := [], laidByText := true, laidKinds := [.data, .pinned], laidTests := true, laidLooks := .later }
def FnExactWithoutUptoCardSaid : Prop := Claim7.holds Tryd.pinned (.plain (OpenSpec.upto fnExactWithoutSpec)) fnExactWithoutUptoCard

/-- THE SECOND FORM's CARD OF 'laws.FnExactWith'. -/
def fnExactWithUptoCard : Claim7 := { stood := { row := fnExactWithUptoRow, standIns := [], harness := (true, "090dd8b52d5a9aab87a70a45cd45ba9354c43069745460516db811f4df20d7d4"), looks := false }, kinds := [], alts := [], laidByText := true, laidKinds := [.data, .pinned], laidTests := true, laidLooks := .later }
def FnExactWithUptoCardSaid : Prop := Claim7.holds Tryd.pinned (.plain (OpenSpec.upto fnExactWithSpec)) fnExactWithUptoCard

/-- THE SECOND FORM's CARD OF 'laws.FnExactReadFields'. -/
def fnExactReadFieldsUptoCard : Claim7 := { stood := { row := fnExactReadFieldsUptoRow, standIns := [], harness := (true, "090dd8b52d5a9aab87a70a45cd45ba9354c43069745460516db811f4df20d7d4"), looks := false }, kinds := [], alts := [], laidByText := true, laidKinds := [.data, .pinned], laidTests := true, laidLooks := .later }
def FnExactReadFieldsUptoCardSaid : Prop := Claim7.holds Tryd.pinned (.plain (OpenSpec.upto fnExactReadFieldsSpec)) fnExactReadFieldsUptoCard

/-- THE SECOND FORM's CARD OF 'laws.FnFields'. -/
def fnFieldsUptoCard : Claim7 := { stood := { row := fnFieldsUptoRow, standIns := [], harness := (true, "090dd8b52d5a9aab87a70a45cd45ba9354c43069745460516db811f4df20d7d4"), looks := false }, kinds := [], alts := [], laidByText := true, laidKinds := [.data, .pinned], laidTests := true, laidLooks := .later }
def FnFieldsUptoCardSaid : Prop := Claim7.holds Tryd.pinned (.plain (OpenSpec.upto fnFieldsSpec)) fnFieldsUptoCard

/-- THE SECOND FORM's CARD OF 'laws.FnExactResponseOk'. -/
def fnExactResponseOkUptoCard : Claim7 := { stood := { row := fnExactResponseOkUptoRow, standIns := [], harness := (true, "090dd8b52d5a9aab87a70a45cd45ba9354c43069745460516db811f4df20d7d4"), looks := false }, kinds := [], alts := [], laidByText := true, laidKinds := [.data, .pinned], laidTests := true, laidLooks := .later }
def FnExactResponseOkUptoCardSaid : Prop := Claim7.holds Tryd.pinned (.plain (OpenSpec.upto fnExactResponseOkSpec)) fnExactResponseOkUptoCard

/-- THE SECOND FORM's CARD OF 'laws.FnExactRequestOk'. -/
def fnExactRequestOkUptoCard : Claim7 := { stood := { row := fnExactRequestOkUptoRow, standIns := [], harness := (true, "090dd8b52d5a9aab87a70a45cd45ba9354c43069745460516db811f4df20d7d4"), looks := false }, kinds := [], alts := [], laidByText := true, laidKinds := [.data, .pinned], laidTests := true, laidLooks := .later }
def FnExactRequestOkUptoCardSaid : Prop := Claim7.holds Tryd.pinned (.plain (OpenSpec.upto fnExactRequestOkSpec)) fnExactRequestOkUptoCard

/-- THE SECOND FORM's CARD OF 'laws.FnExactShowRequest'. -/
def fnExactShowRequestUptoCard : Claim7 := { stood := { row := fnExactShowRequestUptoRow, standIns := [], harness := (true, "090dd8b52d5a9aab87a70a45cd45ba9354c43069745460516db811f4df20d7d4"), looks := false }, kinds := [], alts := [], laidByText := true, laidKinds := [.data, .data, .data, .data, .pinned], laidTests := true, laidLooks := .later }
def FnExactShowRequestUptoCardSaid : Prop := Claim7.holds Tryd.pinned (.plain (OpenSpec.upto fnExactShowRequestSpec)) fnExactShowRequestUptoCard

/-- THE SECOND FORM's CARD OF 'laws.FnExactShowResponse'. -/
def fnExactShowResponseUptoCard : Claim7 := { stood := { row := fnExactShowResponseUptoRow, standIns := [], harness := (true, "090dd8b52d5a9aab87a70a45cd45ba9354c43069745460516db811f4df20d7d4"), looks := false }, kinds := [], alts := [], laidByText := true, laidKinds := [.data, .data, .data, .data, .pinned], laidTests := true, laidLooks := .later }
def FnExactShowResponseUptoCardSaid : Prop := Claim7.holds Tryd.pinned (.plain (OpenSpec.upto fnExactShowResponseSpec)) fnExactShowResponseUptoCard
end Rows
end Go.Proofs.YtfebipiccpbdbaaDoor
