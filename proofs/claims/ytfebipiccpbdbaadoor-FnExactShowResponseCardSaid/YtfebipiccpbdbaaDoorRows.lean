/-
  NARROWER THAN 'FOR EVERY INPUT', by the rows' own cells (each row's printed sentence says how): FnExactFieldsOk: laid · FnExactShowFields: laid · FnExactWithout: laid · FnExactWith: laid · FnExactReadFields: laid · FnFields: laid · FnExactResponseOk: laid · FnExactRequestOk: laid · FnExactShowRequest: laid · FnExactShowResponse: laid.
  DERIVED. THE GIVEN ROWS OF THIS SEAT. 10 by the template 'for every input the law returns true; each argument reads behind the call as it read before'; 0 by the template 'total and deterministic' (their statements: YtfebipiccpbdbaaDoorTotals.lean).
  GIVEN WITH THE SEED: the statements are not yours to turn. If you find one false, say at which input.
  Laid BY PROGRAM, IN A SANDBOX (cutbox-rows.mjs): the forced cells as the released guide's own fill.sh prints them over the translation afa68cfe024ff0e7… (all of the seat's roots in one cut). By AI agents, Wed Nov 11 2026. No macro, syntax, notation, axiom, sorry.
-/
import Derived.Test.YtfebipiccpbdbaaDoorChecked
import GoSem.PinnedTables
import GoSem.Claim
import GoSem.ClaimJoined
import GoSem.ClaimMapViews
import Derived.JoinedTies
import Derived.KernelRfl
namespace Go.Proofs.YtfebipiccpbdbaaDoor
/- THE CELL 'sum', in the pinned program and in every row, IS THE sha256 OF THE DUMP (.gsa) THAT YtfebipiccpbdbaaDoorProg.lean LOADS. Nothing in Lean hashes anything: it is a label: what it is worth is what the hold of that sum in a sandbox is worth. -/
noncomputable def Tryd.pinned : Pinned := { name := "ytfebipiccpbdbaadoor", sum := "afa68cfe024ff0e7abfb4cde6f2b2a2059de3cb1e502cf1cd9d256fdc616759a", checked := Tryd.checked }
namespace Rows
def none {H : Type} : Left H := { results := [], args := [] }

/- WHAT THE LISTED PACKAGE-LEVEL VARIABLES READ AS WHEN THE CALL BEGINS. Each datum BY PROGRAM (the guide's laid-datum.mjs) off the statement by which the dump's own 'gosem.cut.vars' lays the variable. In a bare row this is a premise. The card (YtfebipiccpbdbaaDoorCards.lean) ties it to the program's text. -/
def laid_unicode_utf8_acceptRanges {H : Type} : DataW H := .agg [.agg [.lit (.int .u8 128), .lit (.int .u8 191)], .agg [.lit (.int .u8 160), .lit (.int .u8 191)], .agg [.lit (.int .u8 128), .lit (.int .u8 159)], .agg [.lit (.int .u8 144), .lit (.int .u8 191)], .agg [.lit (.int .u8 128), .lit (.int .u8 143)], .agg [.lit (.int .u8 0), .lit (.int .u8 0)], .agg [.lit (.int .u8 0), .lit (.int .u8 0)], .agg [.lit (.int .u8 0), .lit (.int .u8 0)], .agg [.lit (.int .u8 0), .lit (.int .u8 0)], .agg [.lit (.int .u8 0), .lit (.int .u8 0)], .agg [.lit (.int .u8 0), .lit (.int .u8 0)], .agg [.lit (.int .u8 0), .lit (.int .u8 0)], .agg [.lit (.int .u8 0), .lit (.int .u8 0)], .agg [.lit (.int .u8 0), .lit (.int .u8 0)], .agg [.lit (.int .u8 0), .lit (.int .u8 0)], .agg [.lit (.int .u8 0), .lit (.int .u8 0)]]
/-- One of Go's own tables, pinned by name: the form's constant. -/
def laid_unicode_utf8_first : DataW Unit := Go.Pinned.utf8First
def laid_math_bits_deBruijn32tab {H : Type} : DataW H := .agg [.lit (.int .u8 0), .lit (.int .u8 1), .lit (.int .u8 28), .lit (.int .u8 2), .lit (.int .u8 29), .lit (.int .u8 14), .lit (.int .u8 24), .lit (.int .u8 3), .lit (.int .u8 30), .lit (.int .u8 22), .lit (.int .u8 20), .lit (.int .u8 15), .lit (.int .u8 25), .lit (.int .u8 17), .lit (.int .u8 4), .lit (.int .u8 8), .lit (.int .u8 31), .lit (.int .u8 27), .lit (.int .u8 13), .lit (.int .u8 23), .lit (.int .u8 21), .lit (.int .u8 19), .lit (.int .u8 16), .lit (.int .u8 7), .lit (.int .u8 26), .lit (.int .u8 12), .lit (.int .u8 18), .lit (.int .u8 6), .lit (.int .u8 11), .lit (.int .u8 5), .lit (.int .u8 10), .lit (.int .u8 9)]
def laid_math_bits_deBruijn64tab {H : Type} : DataW H := .agg [.lit (.int .u8 0), .lit (.int .u8 1), .lit (.int .u8 56), .lit (.int .u8 2), .lit (.int .u8 57), .lit (.int .u8 49), .lit (.int .u8 28), .lit (.int .u8 3), .lit (.int .u8 61), .lit (.int .u8 58), .lit (.int .u8 42), .lit (.int .u8 50), .lit (.int .u8 38), .lit (.int .u8 29), .lit (.int .u8 17), .lit (.int .u8 4), .lit (.int .u8 62), .lit (.int .u8 47), .lit (.int .u8 59), .lit (.int .u8 36), .lit (.int .u8 45), .lit (.int .u8 43), .lit (.int .u8 51), .lit (.int .u8 22), .lit (.int .u8 53), .lit (.int .u8 39), .lit (.int .u8 33), .lit (.int .u8 30), .lit (.int .u8 24), .lit (.int .u8 18), .lit (.int .u8 12), .lit (.int .u8 5), .lit (.int .u8 63), .lit (.int .u8 55), .lit (.int .u8 48), .lit (.int .u8 27), .lit (.int .u8 60), .lit (.int .u8 41), .lit (.int .u8 37), .lit (.int .u8 16), .lit (.int .u8 46), .lit (.int .u8 35), .lit (.int .u8 44), .lit (.int .u8 21), .lit (.int .u8 52), .lit (.int .u8 32), .lit (.int .u8 23), .lit (.int .u8 11), .lit (.int .u8 54), .lit (.int .u8 26), .lit (.int .u8 40), .lit (.int .u8 15), .lit (.int .u8 34), .lit (.int .u8 20), .lit (.int .u8 31), .lit (.int .u8 10), .lit (.int .u8 25), .lit (.int .u8 14), .lit (.int .u8 19), .lit (.int .u8 9), .lit (.int .u8 13), .lit (.int .u8 8), .lit (.int .u8 7), .lit (.int .u8 6)]
def laid_internal_strconv_uint64pow10 {H : Type} : DataW H := .agg [.lit (.int .u64 1), .lit (.int .u64 10), .lit (.int .u64 100), .lit (.int .u64 1000), .lit (.int .u64 10000), .lit (.int .u64 100000), .lit (.int .u64 1000000), .lit (.int .u64 10000000), .lit (.int .u64 100000000), .lit (.int .u64 1000000000), .lit (.int .u64 10000000000), .lit (.int .u64 100000000000), .lit (.int .u64 1000000000000), .lit (.int .u64 10000000000000), .lit (.int .u64 100000000000000), .lit (.int .u64 1000000000000000), .lit (.int .u64 10000000000000000), .lit (.int .u64 100000000000000000), .lit (.int .u64 1000000000000000000), .lit (.int .u64 10000000000000000000)]

/-- 'laws.FnExactFieldsOk': WHATEVER THE INPUT: true; the input reads as it did. -/
def fnExactFieldsOkSpec : ChangeSpec := { name := "fnExactFieldsOk", fn := fun _ => fun
  | [d] => { results := [.lit (.bool true)], args := [d] }
  | _ => none }
def fnExactFieldsOkRow : OpenClaim := { program := "ytfebipiccpbdbaadoor", sum := "afa68cfe024ff0e7abfb4cde6f2b2a2059de3cb1e502cf1cd9d256fdc616759a", func := "loop.example/g00207/laws.FnExactFieldsOk", spec := "fnExactFieldsOk", inPlace := ["internal/bytealg.IndexByteString", "internal/bytealg.IndexString"], unfollowed := true, recurses := true, named := ["unicode/utf8.first", "unicode/utf8.acceptRanges", "internal/bytealg.MaxLen"], apart := false, laid := [("unicode/utf8.acceptRanges", laid_unicode_utf8_acceptRanges), ("unicode/utf8.first", laid_unicode_utf8_first)] }
def FnExactFieldsOkSaid : Prop := fnExactFieldsOkRow.holds Tryd.pinned (OpenSpec.ofChange fnExactFieldsOkSpec)

/-- ITS FALSE NEIGHBOUR: 'it returns false'. Refute it at one input. -/
def fnExactFieldsOkWrong : ChangeSpec := { name := "fnExactFieldsOk", fn := fun _ => fun
  | [d] => { results := [.lit (.bool false)], args := [d] }
  | _ => none }
def FnExactFieldsOkWrongFalsely : Prop := fnExactFieldsOkRow.holds Tryd.pinned (OpenSpec.ofChange fnExactFieldsOkWrong)

/-- 'laws.FnExactShowFields': WHATEVER THE INPUT: true; the input reads as it did. -/
def fnExactShowFieldsSpec : ChangeSpec := { name := "fnExactShowFields", fn := fun _ => fun
  | [d] => { results := [.lit (.bool true)], args := [d] }
  | _ => none }
def fnExactShowFieldsRow : OpenClaim := { program := "ytfebipiccpbdbaadoor", sum := "afa68cfe024ff0e7abfb4cde6f2b2a2059de3cb1e502cf1cd9d256fdc616759a", func := "loop.example/g00207/laws.FnExactShowFields", spec := "fnExactShowFields", inPlace := ["internal/bytealg.IndexByteString", "internal/bytealg.IndexString", "internal/abi.NoEscape"], unfollowed := true, recurses := true, named := ["unicode/utf8.first", "unicode/utf8.acceptRanges", "internal/bytealg.MaxLen"], apart := false, laid := [("unicode/utf8.acceptRanges", laid_unicode_utf8_acceptRanges), ("unicode/utf8.first", laid_unicode_utf8_first)] }
def FnExactShowFieldsSaid : Prop := fnExactShowFieldsRow.holds Tryd.pinned (OpenSpec.ofChange fnExactShowFieldsSpec)

/-- ITS FALSE NEIGHBOUR: 'it returns false'. Refute it at one input. -/
def fnExactShowFieldsWrong : ChangeSpec := { name := "fnExactShowFields", fn := fun _ => fun
  | [d] => { results := [.lit (.bool false)], args := [d] }
  | _ => none }
def FnExactShowFieldsWrongFalsely : Prop := fnExactShowFieldsRow.holds Tryd.pinned (OpenSpec.ofChange fnExactShowFieldsWrong)

/-- 'laws.FnExactWithout': WHATEVER THE INPUT: true; the input reads as it did. -/
def fnExactWithoutSpec : ChangeSpec := { name := "fnExactWithout", fn := fun _ => fun
  | [d1, d2] => { results := [.lit (.bool true)], args := [d1, d2] }
  | _ => none }
def fnExactWithoutRow : OpenClaim := { program := "ytfebipiccpbdbaadoor", sum := "afa68cfe024ff0e7abfb4cde6f2b2a2059de3cb1e502cf1cd9d256fdc616759a", func := "loop.example/g00207/laws.FnExactWithout", spec := "fnExactWithout", inPlace := ["internal/bytealg.IndexByteString", "internal/bytealg.IndexString"], unfollowed := true, recurses := true, named := ["unicode/utf8.first", "unicode/utf8.acceptRanges", "internal/bytealg.MaxLen"], apart := false, laid := [("unicode/utf8.acceptRanges", laid_unicode_utf8_acceptRanges), ("unicode/utf8.first", laid_unicode_utf8_first)] }
def FnExactWithoutSaid : Prop := fnExactWithoutRow.holds Tryd.pinned (OpenSpec.ofChange fnExactWithoutSpec)

/-- ITS FALSE NEIGHBOUR: 'it returns false'. Refute it at one input. -/
def fnExactWithoutWrong : ChangeSpec := { name := "fnExactWithout", fn := fun _ => fun
  | [d1, d2] => { results := [.lit (.bool false)], args := [d1, d2] }
  | _ => none }
def FnExactWithoutWrongFalsely : Prop := fnExactWithoutRow.holds Tryd.pinned (OpenSpec.ofChange fnExactWithoutWrong)

/-- 'laws.FnExactWith': WHATEVER THE INPUT: true; the input reads as it did. -/
def fnExactWithSpec : ChangeSpec := { name := "fnExactWith", fn := fun _ => fun
  | [d1, d2, d3] => { results := [.lit (.bool true)], args := [d1, d2, d3] }
  | _ => none }
def fnExactWithRow : OpenClaim := { program := "ytfebipiccpbdbaadoor", sum := "afa68cfe024ff0e7abfb4cde6f2b2a2059de3cb1e502cf1cd9d256fdc616759a", func := "loop.example/g00207/laws.FnExactWith", spec := "fnExactWith", inPlace := ["internal/bytealg.IndexByteString", "internal/bytealg.IndexString"], unfollowed := true, recurses := true, named := ["unicode/utf8.first", "unicode/utf8.acceptRanges", "internal/bytealg.MaxLen"], apart := false, laid := [("unicode/utf8.acceptRanges", laid_unicode_utf8_acceptRanges), ("unicode/utf8.first", laid_unicode_utf8_first)] }
def FnExactWithSaid : Prop := fnExactWithRow.holds Tryd.pinned (OpenSpec.ofChange fnExactWithSpec)

/-- ITS FALSE NEIGHBOUR: 'it returns false'. Refute it at one input. -/
def fnExactWithWrong : ChangeSpec := { name := "fnExactWith", fn := fun _ => fun
  | [d1, d2, d3] => { results := [.lit (.bool false)], args := [d1, d2, d3] }
  | _ => none }
def FnExactWithWrongFalsely : Prop := fnExactWithRow.holds Tryd.pinned (OpenSpec.ofChange fnExactWithWrong)

/-- 'laws.FnExactReadFields': WHATEVER THE INPUT: true; the input reads as it did. -/
def fnExactReadFieldsSpec : ChangeSpec := { name := "fnExactReadFields", fn := fun _ => fun
  | [d] => { results := [.lit (.bool true)], args := [d] }
  | _ => none }
def fnExactReadFieldsRow : OpenClaim := { program := "ytfebipiccpbdbaadoor", sum := "afa68cfe024ff0e7abfb4cde6f2b2a2059de3cb1e502cf1cd9d256fdc616759a", func := "loop.example/g00207/laws.FnExactReadFields", spec := "fnExactReadFields", inPlace := ["internal/bytealg.IndexByteString", "internal/bytealg.IndexString"], unfollowed := true, recurses := true, named := ["internal/bytealg.MaxLen", "unicode/utf8.first", "unicode/utf8.acceptRanges"], apart := false, laid := [("unicode/utf8.acceptRanges", laid_unicode_utf8_acceptRanges), ("unicode/utf8.first", laid_unicode_utf8_first)] }
def FnExactReadFieldsSaid : Prop := fnExactReadFieldsRow.holds Tryd.pinned (OpenSpec.ofChange fnExactReadFieldsSpec)

/-- ITS FALSE NEIGHBOUR: 'it returns false'. Refute it at one input. -/
def fnExactReadFieldsWrong : ChangeSpec := { name := "fnExactReadFields", fn := fun _ => fun
  | [d] => { results := [.lit (.bool false)], args := [d] }
  | _ => none }
def FnExactReadFieldsWrongFalsely : Prop := fnExactReadFieldsRow.holds Tryd.pinned (OpenSpec.ofChange fnExactReadFieldsWrong)

/-- 'laws.FnFields': WHATEVER THE INPUT: true; the input reads as it did. -/
def fnFieldsSpec : ChangeSpec := { name := "fnFields", fn := fun _ => fun
  | [d] => { results := [.lit (.bool true)], args := [d] }
  | _ => none }
def fnFieldsRow : OpenClaim := { program := "ytfebipiccpbdbaadoor", sum := "afa68cfe024ff0e7abfb4cde6f2b2a2059de3cb1e502cf1cd9d256fdc616759a", func := "loop.example/g00207/laws.FnFields", spec := "fnFields", inPlace := ["internal/bytealg.IndexByteString", "internal/bytealg.IndexString", "internal/abi.NoEscape"], unfollowed := true, recurses := true, named := ["unicode/utf8.first", "unicode/utf8.acceptRanges", "internal/bytealg.MaxLen"], apart := false, laid := [("unicode/utf8.acceptRanges", laid_unicode_utf8_acceptRanges), ("unicode/utf8.first", laid_unicode_utf8_first)] }
def FnFieldsSaid : Prop := fnFieldsRow.holds Tryd.pinned (OpenSpec.ofChange fnFieldsSpec)

/-- ITS FALSE NEIGHBOUR: 'it returns false'. Refute it at one input. -/
def fnFieldsWrong : ChangeSpec := { name := "fnFields", fn := fun _ => fun
  | [d] => { results := [.lit (.bool false)], args := [d] }
  | _ => none }
def FnFieldsWrongFalsely : Prop := fnFieldsRow.holds Tryd.pinned (OpenSpec.ofChange fnFieldsWrong)

/-- 'laws.FnExactResponseOk': WHATEVER THE INPUT: true; the input reads as it did. -/
def fnExactResponseOkSpec : ChangeSpec := { name := "fnExactResponseOk", fn := fun _ => fun
  | [d] => { results := [.lit (.bool true)], args := [d] }
  | _ => none }
def fnExactResponseOkRow : OpenClaim := { program := "ytfebipiccpbdbaadoor", sum := "afa68cfe024ff0e7abfb4cde6f2b2a2059de3cb1e502cf1cd9d256fdc616759a", func := "loop.example/g00207/laws.FnExactResponseOk", spec := "fnExactResponseOk", inPlace := ["internal/bytealg.IndexByteString", "internal/bytealg.IndexString"], unfollowed := true, recurses := true, named := ["unicode/utf8.first", "unicode/utf8.acceptRanges", "internal/bytealg.MaxLen"], apart := false, laid := [("unicode/utf8.acceptRanges", laid_unicode_utf8_acceptRanges), ("unicode/utf8.first", laid_unicode_utf8_first)] }
def FnExactResponseOkSaid : Prop := fnExactResponseOkRow.holds Tryd.pinned (OpenSpec.ofChange fnExactResponseOkSpec)

/-- ITS FALSE NEIGHBOUR: 'it returns false'. Refute it at one input. -/
def fnExactResponseOkWrong : ChangeSpec := { name := "fnExactResponseOk", fn := fun _ => fun
  | [d] => { results := [.lit (.bool false)], args := [d] }
  | _ => none }
def FnExactResponseOkWrongFalsely : Prop := fnExactResponseOkRow.holds Tryd.pinned (OpenSpec.ofChange fnExactResponseOkWrong)

/-- 'laws.FnExactRequestOk': WHATEVER THE INPUT: true; the input reads as it did. -/
def fnExactRequestOkSpec : ChangeSpec := { name := "fnExactRequestOk", fn := fun _ => fun
  | [d] => { results := [.lit (.bool true)], args := [d] }
  | _ => none }
def fnExactRequestOkRow : OpenClaim := { program := "ytfebipiccpbdbaadoor", sum := "afa68cfe024ff0e7abfb4cde6f2b2a2059de3cb1e502cf1cd9d256fdc616759a", func := "loop.example/g00207/laws.FnExactRequestOk", spec := "fnExactRequestOk", inPlace := ["internal/bytealg.IndexByteString", "internal/bytealg.IndexString"], unfollowed := true, recurses := true, named := ["unicode/utf8.first", "unicode/utf8.acceptRanges", "internal/bytealg.MaxLen"], apart := false, laid := [("unicode/utf8.acceptRanges", laid_unicode_utf8_acceptRanges), ("unicode/utf8.first", laid_unicode_utf8_first)] }
def FnExactRequestOkSaid : Prop := fnExactRequestOkRow.holds Tryd.pinned (OpenSpec.ofChange fnExactRequestOkSpec)

/-- ITS FALSE NEIGHBOUR: 'it returns false'. Refute it at one input. -/
def fnExactRequestOkWrong : ChangeSpec := { name := "fnExactRequestOk", fn := fun _ => fun
  | [d] => { results := [.lit (.bool false)], args := [d] }
  | _ => none }
def FnExactRequestOkWrongFalsely : Prop := fnExactRequestOkRow.holds Tryd.pinned (OpenSpec.ofChange fnExactRequestOkWrong)

/-- 'laws.FnExactShowRequest': WHATEVER THE INPUT: true; the input reads as it did. -/
def fnExactShowRequestSpec : ChangeSpec := { name := "fnExactShowRequest", fn := fun _ => fun
  | [d] => { results := [.lit (.bool true)], args := [d] }
  | _ => none }
def fnExactShowRequestRow : OpenClaim := { program := "ytfebipiccpbdbaadoor", sum := "afa68cfe024ff0e7abfb4cde6f2b2a2059de3cb1e502cf1cd9d256fdc616759a", func := "loop.example/g00207/laws.FnExactShowRequest", spec := "fnExactShowRequest", inPlace := ["internal/bytealg.IndexByteString", "internal/bytealg.IndexString", "internal/abi.NoEscape"], unfollowed := true, recurses := true, named := ["unicode/utf8.first", "unicode/utf8.acceptRanges", "internal/strconv.uint64pow10", "math/bits.deBruijn32tab", "math/bits.deBruijn64tab", "internal/bytealg.MaxLen"], apart := false, laid := [("math/bits.deBruijn32tab", laid_math_bits_deBruijn32tab), ("math/bits.deBruijn64tab", laid_math_bits_deBruijn64tab), ("internal/strconv.uint64pow10", laid_internal_strconv_uint64pow10), ("unicode/utf8.acceptRanges", laid_unicode_utf8_acceptRanges), ("unicode/utf8.first", laid_unicode_utf8_first)] }
def FnExactShowRequestSaid : Prop := fnExactShowRequestRow.holds Tryd.pinned (OpenSpec.ofChange fnExactShowRequestSpec)

/-- ITS FALSE NEIGHBOUR: 'it returns false'. Refute it at one input. -/
def fnExactShowRequestWrong : ChangeSpec := { name := "fnExactShowRequest", fn := fun _ => fun
  | [d] => { results := [.lit (.bool false)], args := [d] }
  | _ => none }
def FnExactShowRequestWrongFalsely : Prop := fnExactShowRequestRow.holds Tryd.pinned (OpenSpec.ofChange fnExactShowRequestWrong)

/-- 'laws.FnExactShowResponse': WHATEVER THE INPUT: true; the input reads as it did. -/
def fnExactShowResponseSpec : ChangeSpec := { name := "fnExactShowResponse", fn := fun _ => fun
  | [d] => { results := [.lit (.bool true)], args := [d] }
  | _ => none }
def fnExactShowResponseRow : OpenClaim := { program := "ytfebipiccpbdbaadoor", sum := "afa68cfe024ff0e7abfb4cde6f2b2a2059de3cb1e502cf1cd9d256fdc616759a", func := "loop.example/g00207/laws.FnExactShowResponse", spec := "fnExactShowResponse", inPlace := ["internal/bytealg.IndexByteString", "internal/bytealg.IndexString", "internal/abi.NoEscape"], unfollowed := true, recurses := true, named := ["unicode/utf8.first", "unicode/utf8.acceptRanges", "internal/strconv.uint64pow10", "math/bits.deBruijn32tab", "math/bits.deBruijn64tab", "internal/bytealg.MaxLen"], apart := false, laid := [("math/bits.deBruijn32tab", laid_math_bits_deBruijn32tab), ("math/bits.deBruijn64tab", laid_math_bits_deBruijn64tab), ("internal/strconv.uint64pow10", laid_internal_strconv_uint64pow10), ("unicode/utf8.acceptRanges", laid_unicode_utf8_acceptRanges), ("unicode/utf8.first", laid_unicode_utf8_first)] }
def FnExactShowResponseSaid : Prop := fnExactShowResponseRow.holds Tryd.pinned (OpenSpec.ofChange fnExactShowResponseSpec)

/-- ITS FALSE NEIGHBOUR: 'it returns false'. Refute it at one input. -/
def fnExactShowResponseWrong : ChangeSpec := { name := "fnExactShowResponse", fn := fun _ => fun
  | [d] => { results := [.lit (.bool false)], args := [d] }
  | _ => none }
def FnExactShowResponseWrongFalsely : Prop := fnExactShowResponseRow.holds Tryd.pinned (OpenSpec.ofChange fnExactShowResponseWrong)

/- THE SECOND FORM. 'bulk': how many values and letters a reading holds, each counted each time it is reached (what is shared counts as often as it is met; a slice's spare places count too). A statement '..UptoSaid' is the law's where the arguments, and the package variables that the reading takes, are together of bulk at most 1048576: NARROWER than '..Said'. Prove '..Said' where nothing that the law and all that it calls make is longer than what came in: it says more and counts as full. Else prove '..UptoSaid'. A law counts once. -/
mutual
def uptoBulk {H : Type} : DataW H → Nat
  | .lit (.string bytes) => bytes.length + 1
  | .lit _ => 1
  | .nil => 1
  | .ptr d => uptoBulk d + 1
  | .slice elems spare => uptoBulkAll elems + uptoBulkAll spare + 1
  | .agg parts => uptoBulkAll parts + 1
  | .iface _ d => uptoBulk d + 1
  | .map entries => uptoBulkEntries entries + 1
  | .held _ => 1
def uptoBulkAll {H : Type} : List (DataW H) → Nat
  | [] => 0
  | d :: r => uptoBulk d + uptoBulkAll r
def uptoBulkEntries {H : Type} : List (Lit × DataW H) → Nat
  | [] => 0
  | x :: r => uptoBulkEntry x + uptoBulkEntries r
def uptoBulkEntry {H : Type} : Lit × DataW H → Nat
  | (.string bytes, d) => bytes.length + uptoBulk d + 1
  | (_, d) => uptoBulk d + 1
 end
def uptoSmall : (H : Type) → List (DataW H) → Bool := fun _ ds => decide (uptoBulkAll ds ≤ 1048576)
def OpenSpec.upto (s : _root_.Go.ChangeSpec) : _root_.Go.OpenSpec := { _root_.Go.OpenSpec.ofChange s with cond := some uptoSmall }

/-- 'laws.FnExactFieldsOk', WHERE WHAT IT READS IS OF BULK AT MOST 1048576: true; the input reads as it did. -/
def fnExactFieldsOkUptoRow : OpenClaim := { program := "ytfebipiccpbdbaadoor", sum := "afa68cfe024ff0e7abfb4cde6f2b2a2059de3cb1e502cf1cd9d256fdc616759a", func := "loop.example/g00207/laws.FnExactFieldsOk", spec := "fnExactFieldsOk", inPlace := ["internal/bytealg.IndexByteString", "internal/bytealg.IndexString"], unfollowed := true, recurses := true, named := ["unicode/utf8.first", "unicode/utf8.acceptRanges", "internal/bytealg.MaxLen"], apart := false, laid := [("unicode/utf8.acceptRanges", laid_unicode_utf8_acceptRanges), ("unicode/utf8.first", laid_unicode_utf8_first)], narrowed := true }
def FnExactFieldsOkUptoSaid : Prop := fnExactFieldsOkUptoRow.holds Tryd.pinned (OpenSpec.upto fnExactFieldsOkSpec)

/-- 'laws.FnExactShowFields', WHERE WHAT IT READS IS OF BULK AT MOST 1048576: true; the input reads as it did. -/
def fnExactShowFieldsUptoRow : OpenClaim := { program := "ytfebipiccpbdbaadoor", sum := "afa68cfe024ff0e7abfb4cde6f2b2a2059de3cb1e502cf1cd9d256fdc616759a", func := "loop.example/g00207/laws.FnExactShowFields", spec := "fnExactShowFields", inPlace := ["internal/bytealg.IndexByteString", "internal/bytealg.IndexString", "internal/abi.NoEscape"], unfollowed := true, recurses := true, named := ["unicode/utf8.first", "unicode/utf8.acceptRanges", "internal/bytealg.MaxLen"], apart := false, laid := [("unicode/utf8.acceptRanges", laid_unicode_utf8_acceptRanges), ("unicode/utf8.first", laid_unicode_utf8_first)], narrowed := true }
def FnExactShowFieldsUptoSaid : Prop := fnExactShowFieldsUptoRow.holds Tryd.pinned (OpenSpec.upto fnExactShowFieldsSpec)

/-- 'laws.FnExactWithout', WHERE WHAT IT READS IS OF BULK AT MOST 1048576: true; the input reads as it did. -/
def fnExactWithoutUptoRow : OpenClaim := { program := "ytfebipiccpbdbaadoor", sum := "afa68cfe024ff0e7abfb4cde6f2b2a2059de3cb1e502cf1cd9d256fdc616759a", func := "loop.example/g00207/laws.FnExactWithout", spec := "fnExactWithout", inPlace := ["internal/bytealg.IndexByteString", "internal/bytealg.IndexString"], unfollowed := true, recurses := true, named := ["unicode/utf8.first", "unicode/utf8.acceptRanges", "internal/bytealg.MaxLen"], apart := false, laid := [("unicode/utf8.acceptRanges", laid_unicode_utf8_acceptRanges), ("unicode/utf8.first", laid_unicode_utf8_first)], narrowed := true }
def FnExactWithoutUptoSaid : Prop := fnExactWithoutUptoRow.holds Tryd.pinned (OpenSpec.upto fnExactWithoutSpec)

/-- 'laws.FnExactWith', WHERE WHAT IT READS IS OF BULK AT MOST 1048576: true; the input reads as it did. -/
def fnExactWithUptoRow : OpenClaim := { program := "ytfebipiccpbdbaadoor", sum := "afa68cfe024ff0e7abfb4cde6f2b2a2059de3cb1e502cf1cd9d256fdc616759a", func := "loop.example/g00207/laws.FnExactWith", spec := "fnExactWith", inPlace := ["internal/bytealg.IndexByteString", "internal/bytealg.IndexString"], unfollowed := true, recurses := true, named := ["unicode/utf8.first", "unicode/utf8.acceptRanges", "internal/bytealg.MaxLen"], apart := false, laid := [("unicode/utf8.acceptRanges", laid_unicode_utf8_acceptRanges), ("unicode/utf8.first", laid_unicode_utf8_first)], narrowed := true }
def FnExactWithUptoSaid : Prop := fnExactWithUptoRow.holds Tryd.pinned (OpenSpec.upto fnExactWithSpec)

/-- 'laws.FnExactReadFields', WHERE WHAT IT READS IS OF BULK AT MOST 1048576: true; the input reads as it did. -/
def fnExactReadFieldsUptoRow : OpenClaim := { program := "ytfebipiccpbdbaadoor", sum := "afa68cfe024ff0e7abfb4cde6f2b2a2059de3cb1e502cf1cd9d256fdc616759a", func := "loop.example/g00207/laws.FnExactReadFields", spec := "fnExactReadFields", inPlace := ["internal/bytealg.IndexByteString", "internal/bytealg.IndexString"], unfollowed := true, recurses := true, named := ["internal/bytealg.MaxLen", "unicode/utf8.first", "unicode/utf8.acceptRanges"], apart := false, laid := [("unicode/utf8.acceptRanges", laid_unicode_utf8_acceptRanges), ("unicode/utf8.first", laid_unicode_utf8_first)], narrowed := true }
def FnExactReadFieldsUptoSaid : Prop := fnExactReadFieldsUptoRow.holds Tryd.pinned (OpenSpec.upto fnExactReadFieldsSpec)

/-- 'laws.FnFields', WHERE WHAT IT READS IS OF BULK AT MOST 1048576: true; the input reads as it did. -/
def fnFieldsUptoRow : OpenClaim := { program := "ytfebipiccpbdbaadoor", sum := "afa68cfe024ff0e7abfb4cde6f2b2a2059de3cb1e502cf1cd9d256fdc616759a", func := "loop.example/g00207/laws.FnFields", spec := "fnFields", inPlace := ["internal/bytealg.IndexByteString", "internal/bytealg.IndexString", "internal/abi.NoEscape"], unfollowed := true, recurses := true, named := ["unicode/utf8.first", "unicode/utf8.acceptRanges", "internal/bytealg.MaxLen"], apart := false, laid := [("unicode/utf8.acceptRanges", laid_unicode_utf8_acceptRanges), ("unicode/utf8.first", laid_unicode_utf8_first)], narrowed := true }
def FnFieldsUptoSaid : Prop := fnFieldsUptoRow.holds Tryd.pinned (OpenSpec.upto fnFieldsSpec)

/-- 'laws.FnExactResponseOk', WHERE WHAT IT READS IS OF BULK AT MOST 1048576: true; the input reads as it did. -/
def fnExactResponseOkUptoRow : OpenClaim := { program := "ytfebipiccpbdbaadoor", sum := "afa68cfe024ff0e7abfb4cde6f2b2a2059de3cb1e502cf1cd9d256fdc616759a", func := "loop.example/g00207/laws.FnExactResponseOk", spec := "fnExactResponseOk", inPlace := ["internal/bytealg.IndexByteString", "internal/bytealg.IndexString"], unfollowed := true, recurses := true, named := ["unicode/utf8.first", "unicode/utf8.acceptRanges", "internal/bytealg.MaxLen"], apart := false, laid := [("unicode/utf8.acceptRanges", laid_unicode_utf8_acceptRanges), ("unicode/utf8.first", laid_unicode_utf8_first)], narrowed := true }
def FnExactResponseOkUptoSaid : Prop := fnExactResponseOkUptoRow.holds Tryd.pinned (OpenSpec.upto fnExactResponseOkSpec)

/-- 'laws.FnExactRequestOk', WHERE WHAT IT READS IS OF BULK AT MOST 1048576: true; the input reads as it did. -/
def fnExactRequestOkUptoRow : OpenClaim := { program := "ytfebipiccpbdbaadoor", sum := "afa68cfe024ff0e7abfb4cde6f2b2a2059de3cb1e502cf1cd9d256fdc616759a", func := "loop.example/g00207/laws.FnExactRequestOk", spec := "fnExactRequestOk", inPlace := ["internal/bytealg.IndexByteString", "internal/bytealg.IndexString"], unfollowed := true, recurses := true, named := ["unicode/utf8.first", "unicode/utf8.acceptRanges", "internal/bytealg.MaxLen"], apart := false, laid := [("unicode/utf8.acceptRanges", laid_unicode_utf8_acceptRanges), ("unicode/utf8.first", laid_unicode_utf8_first)], narrowed := true }
def FnExactRequestOkUptoSaid : Prop := fnExactRequestOkUptoRow.holds Tryd.pinned (OpenSpec.upto fnExactRequestOkSpec)

/-- 'laws.FnExactShowRequest', WHERE WHAT IT READS IS OF BULK AT MOST 1048576: true; the input reads as it did. -/
def fnExactShowRequestUptoRow : OpenClaim := { program := "ytfebipiccpbdbaadoor", sum := "afa68cfe024ff0e7abfb4cde6f2b2a2059de3cb1e502cf1cd9d256fdc616759a", func := "loop.example/g00207/laws.FnExactShowRequest", spec := "fnExactShowRequest", inPlace := ["internal/bytealg.IndexByteString", "internal/bytealg.IndexString", "internal/abi.NoEscape"], unfollowed := true, recurses := true, named := ["unicode/utf8.first", "unicode/utf8.acceptRanges", "internal/strconv.uint64pow10", "math/bits.deBruijn32tab", "math/bits.deBruijn64tab", "internal/bytealg.MaxLen"], apart := false, laid := [("math/bits.deBruijn32tab", laid_math_bits_deBruijn32tab), ("math/bits.deBruijn64tab", laid_math_bits_deBruijn64tab), ("internal/strconv.uint64pow10", laid_internal_strconv_uint64pow10), ("unicode/utf8.acceptRanges", laid_unicode_utf8_acceptRanges), ("unicode/utf8.first", laid_unicode_utf8_first)], narrowed := true }
def FnExactShowRequestUptoSaid : Prop := fnExactShowRequestUptoRow.holds Tryd.pinned (OpenSpec.upto fnExactShowRequestSpec)

/-- 'laws.FnExactShowResponse', WHERE WHAT IT READS IS OF BULK AT MOST 1048576: true; the input reads as it did. -/
def fnExactShowResponseUptoRow : OpenClaim := { program := "ytfebipiccpbdbaadoor", sum := "afa68cfe024ff0e7abfb4cde6f2b2a2059de3cb1e502cf1cd9d256fdc616759a", func := "loop.example/g00207/laws.FnExactShowResponse", spec := "fnExactShowResponse", inPlace := ["internal/bytealg.IndexByteString", "internal/bytealg.IndexString", "internal/abi.NoEscape"], unfollowed := true, recurses := true, named := ["unicode/utf8.first", "unicode/utf8.acceptRanges", "internal/strconv.uint64pow10", "math/bits.deBruijn32tab", "math/bits.deBruijn64tab", "internal/bytealg.MaxLen"], apart := false, laid := [("math/bits.deBruijn32tab", laid_math_bits_deBruijn32tab), ("math/bits.deBruijn64tab", laid_math_bits_deBruijn64tab), ("internal/strconv.uint64pow10", laid_internal_strconv_uint64pow10), ("unicode/utf8.acceptRanges", laid_unicode_utf8_acceptRanges), ("unicode/utf8.first", laid_unicode_utf8_first)], narrowed := true }
def FnExactShowResponseUptoSaid : Prop := fnExactShowResponseUptoRow.holds Tryd.pinned (OpenSpec.upto fnExactShowResponseSpec)

end Rows
end Go.Proofs.YtfebipiccpbdbaaDoor
