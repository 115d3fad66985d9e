/-
  DERIVED. GIVEN WITH THE SEED: THE CARDS: each row of YtonimccihcodnaaDoorRows.lean that lists a variable, with what it lists TIED to the program's text (the seventh form; the later family's looks); each row that meets fmt, with fmt's text TOLD by the authors' own Lean function (tested against real Go, not proved from fmt's source: count such statements apart). THE CARD IS WHAT COUNTS. Prove the row's statement (the work); the ties are given (YtonimccihcodnaaDoorTie.lean); close each card by the builder's one call (the guide's Derived/Test/ToyasCard.lean, 'card_holds'). Laid BY PROGRAM, IN A SANDBOX (cutbox-door.mjs). By AI agents, Wed Nov 11 2026. No macro, syntax, notation, axiom, sorry.
-/
import Derived.Test.YtonimccihcodnaaDoorRows
import GoSem.ClaimSeven
namespace Go.Proofs.YtonimccihcodnaaDoor
namespace Rows

/-- THE TIED CARD OF 'laws.FnExactDotless'. -/
def fnExactDotlessCard : Claim7 := { stood := { row := fnExactDotlessRow, standIns := [], harness := (true, "0f2a25fb34d235b8df6f75603f356f9c9fe71da704dab5b0fb308108ef28398e"), looks := true }, kinds := [], alts := [], laidByText := true, laidKinds := [.data, .pinned], laidTests := true, laidLooks := .later }
def FnExactDotlessCardSaid : Prop := Claim7.holds Tryd.pinned (.plain (OpenSpec.ofChange fnExactDotlessSpec)) fnExactDotlessCard

/-- THE TIED CARD OF 'laws.FnExactNormalPath'. -/
def fnExactNormalPathCard : Claim7 := { stood := { row := fnExactNormalPathRow, standIns := [], harness := (true, "0f2a25fb34d235b8df6f75603f356f9c9fe71da704dab5b0fb308108ef28398e"), looks := true }, kinds := [], alts := [], laidByText := true, laidKinds := [.data, .data, .data, .data, .sentinel, .sentinel, .pinned], laidTests := true, laidLooks := .later }
def FnExactNormalPathCardSaid : Prop := Claim7.holds Tryd.pinned (.plain (OpenSpec.ofChange fnExactNormalPathSpec)) fnExactNormalPathCard

/-- THE TIED CARD OF 'laws.FnExactSortedQuery'. -/
def fnExactSortedQueryCard : Claim7 := { stood := { row := fnExactSortedQueryRow, standIns := [], harness := (true, "0f2a25fb34d235b8df6f75603f356f9c9fe71da704dab5b0fb308108ef28398e"), looks := true }, kinds := [], alts := [], laidByText := true, laidKinds := [.data, .pinned], laidTests := true, laidLooks := .later }
def FnExactSortedQueryCardSaid : Prop := Claim7.holds Tryd.pinned (.plain (OpenSpec.ofChange fnExactSortedQuerySpec)) fnExactSortedQueryCard

/-- THE TIED CARD OF 'laws.FnPaths'. -/
def fnPathsCard : Claim7 := { stood := { row := fnPathsRow, standIns := [], harness := (true, "0f2a25fb34d235b8df6f75603f356f9c9fe71da704dab5b0fb308108ef28398e"), looks := true }, kinds := [], alts := [], laidByText := true, laidKinds := [.data, .data, .data, .data, .sentinel, .sentinel, .pinned], laidTests := true, laidLooks := .later }
def FnPathsCardSaid : Prop := Claim7.holds Tryd.pinned (.plain (OpenSpec.ofChange fnPathsSpec)) fnPathsCard

/-- THE TIED CARD OF 'laws.FnChunked'. -/
def fnChunkedCard : Claim7 := { stood := { row := fnChunkedRow, standIns := [], harness := (true, "0f2a25fb34d235b8df6f75603f356f9c9fe71da704dab5b0fb308108ef28398e"), looks := true }, kinds := [], alts := [], laidByText := true, laidKinds := [.data, .data, .data, .sentinel, .sentinel], laidTests := true, laidLooks := .later }
def FnChunkedCardSaid : Prop := Claim7.holds Tryd.pinned (.plain (OpenSpec.ofChange fnChunkedSpec)) fnChunkedCard

/-- THE SECOND FORM's CARD OF 'laws.FnExactDotless'. -/
def fnExactDotlessUptoCard : Claim7 := { stood := { row := fnExactDotlessUptoRow, standIns := [], harness := (true, "0f2a25fb34d235b8df6f75603f356f9c9fe71da704dab5b0fb308108ef28398e"), looks := true }, kinds := [], alts := [], laidByText := true, laidKinds := [.data, .pinned], laidTests := true, laidLooks := .later }
def FnExactDotlessUptoCardSaid : Prop := Claim7.holds Tryd.pinned (.plain (OpenSpec.upto fnExactDotlessSpec)) fnExactDotlessUptoCard

/-- THE SECOND FORM's CARD OF 'laws.FnExactNormalPath'. -/
def fnExactNormalPathUptoCard : Claim7 := { stood := { row := fnExactNormalPathUptoRow, standIns := [], harness := (true, "0f2a25fb34d235b8df6f75603f356f9c9fe71da704dab5b0fb308108ef28398e"), looks := true }, kinds := [], alts := [], laidByText := true, laidKinds := [.data, .data, .data, .data, .sentinel, .sentinel, .pinned], laidTests := true, laidLooks := .later }
def FnExactNormalPathUptoCardSaid : Prop := Claim7.holds Tryd.pinned (.plain (OpenSpec.upto fnExactNormalPathSpec)) fnExactNormalPathUptoCard

/-- THE SECOND FORM's CARD OF 'laws.FnExactSortedQuery'. -/
def fnExactSortedQueryUptoCard : Claim7 := { stood := { row := fnExactSortedQueryUptoRow, standIns := [], harness := (true, "0f2a25fb34d235b8df6f75603f356f9c9fe71da704dab5b0fb308108ef28398e"), looks := true }, kinds := [], alts := [], laidByText := true, laidKinds := [.data, .pinned], laidTests := true, laidLooks := .later }
def FnExactSortedQueryUptoCardSaid : Prop := Claim7.holds Tryd.pinned (.plain (OpenSpec.upto fnExactSortedQuerySpec)) fnExactSortedQueryUptoCard

/-- THE SECOND FORM's CARD OF 'laws.FnPaths'. -/
def fnPathsUptoCard : Claim7 := { stood := { row := fnPathsUptoRow, standIns := [], harness := (true, "0f2a25fb34d235b8df6f75603f356f9c9fe71da704dab5b0fb308108ef28398e"), looks := true }, kinds := [], alts := [], laidByText := true, laidKinds := [.data, .data, .data, .data, .sentinel, .sentinel, .pinned], laidTests := true, laidLooks := .later }
def FnPathsUptoCardSaid : Prop := Claim7.holds Tryd.pinned (.plain (OpenSpec.upto fnPathsSpec)) fnPathsUptoCard

/-- THE SECOND FORM's CARD OF 'laws.FnChunked'. -/
def fnChunkedUptoCard : Claim7 := { stood := { row := fnChunkedUptoRow, standIns := [], harness := (true, "0f2a25fb34d235b8df6f75603f356f9c9fe71da704dab5b0fb308108ef28398e"), looks := true }, kinds := [], alts := [], laidByText := true, laidKinds := [.data, .data, .data, .sentinel, .sentinel], laidTests := true, laidLooks := .later }
def FnChunkedUptoCardSaid : Prop := Claim7.holds Tryd.pinned (.plain (OpenSpec.upto fnChunkedSpec)) fnChunkedUptoCard
end Rows
end Go.Proofs.YtonimccihcodnaaDoor
