/-
  No cell of these rows narrows 'for every input' (looked for: loops, veiled, ifaces, maps, wideKeys, modest, calm, conditions, laid).
  DERIVED. THE GIVEN ROWS OF THIS SEAT. 12 by the template 'for every input the law returns true; each argument reads behind the call as it read before'; 0 by the template 'total and deterministic' (their statements: YtfckiehbpgbpcaaTotals.lean).
  GIVEN WITH THE SEED: the statements are not yours to turn. If you find one false, say at which input.
  Laid BY PROGRAM, IN A SANDBOX (cutbox-rows.mjs): the forced cells as the released guide's own fill.sh prints them over the translation 99b5e5b2438648b1… (all of the seat's roots in one cut). By AI agents, Wed Nov 11 2026. No macro, syntax, notation, axiom, sorry.
-/
import Derived.Test.YtfckiehbpgbpcaaChecked
import GoSem.Claim
import GoSem.ClaimJoined
import GoSem.ClaimMapViews
import Derived.JoinedTies
import Derived.KernelRfl
namespace Go.Proofs.Ytfckiehbpgbpcaa
/- THE CELL 'sum', in the pinned program and in every row, IS THE sha256 OF THE DUMP (.gsa) THAT YtfckiehbpgbpcaaProg.lean LOADS. Nothing in Lean hashes anything: it is a label: what it is worth is what the hold of that sum in a sandbox is worth. -/
noncomputable def Try.pinned : Pinned := { name := "ytfckiehbpgbpcaa", sum := "99b5e5b2438648b1bf511a1e1b113b9a5b3c7bee81dcc76740f43f8617b1b48a", checked := Try.checked }
namespace Rows
def none {H : Type} : Left H := { results := [], args := [] }

/-- 'laws.FnExactConstants': WHATEVER THE INPUT: true; the input reads as it did. -/
def fnExactConstantsSpec : ChangeSpec := { name := "fnExactConstants", fn := fun _ => fun
  | [] => { results := [.lit (.bool true)], args := [] }
  | _ => none }
def fnExactConstantsRow : OpenClaim := { program := "ytfckiehbpgbpcaa", sum := "99b5e5b2438648b1bf511a1e1b113b9a5b3c7bee81dcc76740f43f8617b1b48a", func := "loop.example/g00207/laws.FnExactConstants", spec := "fnExactConstants", apart := false }
def FnExactConstantsSaid : Prop := fnExactConstantsRow.holds Try.pinned (OpenSpec.ofChange fnExactConstantsSpec)

/-- ITS FALSE NEIGHBOUR: 'it returns false'. Refute it at one input. -/
def fnExactConstantsWrong : ChangeSpec := { name := "fnExactConstants", fn := fun _ => fun
  | [] => { results := [.lit (.bool false)], args := [] }
  | _ => none }
def FnExactConstantsWrongFalsely : Prop := fnExactConstantsRow.holds Try.pinned (OpenSpec.ofChange fnExactConstantsWrong)

/-- 'laws.FnExactLeap': WHATEVER THE INPUT: true; the input reads as it did. -/
def fnExactLeapSpec : ChangeSpec := { name := "fnExactLeap", fn := fun _ => fun
  | [d] => { results := [.lit (.bool true)], args := [d] }
  | _ => none }
def fnExactLeapRow : OpenClaim := { program := "ytfckiehbpgbpcaa", sum := "99b5e5b2438648b1bf511a1e1b113b9a5b3c7bee81dcc76740f43f8617b1b48a", func := "loop.example/g00207/laws.FnExactLeap", spec := "fnExactLeap", apart := false }
def FnExactLeapSaid : Prop := fnExactLeapRow.holds Try.pinned (OpenSpec.ofChange fnExactLeapSpec)

/-- ITS FALSE NEIGHBOUR: 'it returns false'. Refute it at one input. -/
def fnExactLeapWrong : ChangeSpec := { name := "fnExactLeap", fn := fun _ => fun
  | [d] => { results := [.lit (.bool false)], args := [d] }
  | _ => none }
def FnExactLeapWrongFalsely : Prop := fnExactLeapRow.holds Try.pinned (OpenSpec.ofChange fnExactLeapWrong)

/-- 'laws.FnExactLower': WHATEVER THE INPUT: true; the input reads as it did. -/
def fnExactLowerSpec : ChangeSpec := { name := "fnExactLower", fn := fun _ => fun
  | [d] => { results := [.lit (.bool true)], args := [d] }
  | _ => none }
def fnExactLowerRow : OpenClaim := { program := "ytfckiehbpgbpcaa", sum := "99b5e5b2438648b1bf511a1e1b113b9a5b3c7bee81dcc76740f43f8617b1b48a", func := "loop.example/g00207/laws.FnExactLower", spec := "fnExactLower", apart := false }
def FnExactLowerSaid : Prop := fnExactLowerRow.holds Try.pinned (OpenSpec.ofChange fnExactLowerSpec)

/-- ITS FALSE NEIGHBOUR: 'it returns false'. Refute it at one input. -/
def fnExactLowerWrong : ChangeSpec := { name := "fnExactLower", fn := fun _ => fun
  | [d] => { results := [.lit (.bool false)], args := [d] }
  | _ => none }
def FnExactLowerWrongFalsely : Prop := fnExactLowerRow.holds Try.pinned (OpenSpec.ofChange fnExactLowerWrong)

/-- 'laws.FnExactVisibleOk': WHATEVER THE INPUT: true; the input reads as it did. -/
def fnExactVisibleOkSpec : ChangeSpec := { name := "fnExactVisibleOk", fn := fun _ => fun
  | [d] => { results := [.lit (.bool true)], args := [d] }
  | _ => none }
def fnExactVisibleOkRow : OpenClaim := { program := "ytfckiehbpgbpcaa", sum := "99b5e5b2438648b1bf511a1e1b113b9a5b3c7bee81dcc76740f43f8617b1b48a", func := "loop.example/g00207/laws.FnExactVisibleOk", spec := "fnExactVisibleOk", unfollowed := true, recurses := true, apart := false }
def FnExactVisibleOkSaid : Prop := fnExactVisibleOkRow.holds Try.pinned (OpenSpec.ofChange fnExactVisibleOkSpec)

/-- ITS FALSE NEIGHBOUR: 'it returns false'. Refute it at one input. -/
def fnExactVisibleOkWrong : ChangeSpec := { name := "fnExactVisibleOk", fn := fun _ => fun
  | [d] => { results := [.lit (.bool false)], args := [d] }
  | _ => none }
def FnExactVisibleOkWrongFalsely : Prop := fnExactVisibleOkRow.holds Try.pinned (OpenSpec.ofChange fnExactVisibleOkWrong)

/-- 'laws.FnExactDateOk': WHATEVER THE INPUT: true; the input reads as it did. -/
def fnExactDateOkSpec : ChangeSpec := { name := "fnExactDateOk", fn := fun _ => fun
  | [d] => { results := [.lit (.bool true)], args := [d] }
  | _ => none }
def fnExactDateOkRow : OpenClaim := { program := "ytfckiehbpgbpcaa", sum := "99b5e5b2438648b1bf511a1e1b113b9a5b3c7bee81dcc76740f43f8617b1b48a", func := "loop.example/g00207/laws.FnExactDateOk", spec := "fnExactDateOk", apart := false }
def FnExactDateOkSaid : Prop := fnExactDateOkRow.holds Try.pinned (OpenSpec.ofChange fnExactDateOkSpec)

/-- ITS FALSE NEIGHBOUR: 'it returns false'. Refute it at one input. -/
def fnExactDateOkWrong : ChangeSpec := { name := "fnExactDateOk", fn := fun _ => fun
  | [d] => { results := [.lit (.bool false)], args := [d] }
  | _ => none }
def FnExactDateOkWrongFalsely : Prop := fnExactDateOkRow.holds Try.pinned (OpenSpec.ofChange fnExactDateOkWrong)

/-- 'laws.FnExactTagOk': WHATEVER THE INPUT: true; the input reads as it did. -/
def fnExactTagOkSpec : ChangeSpec := { name := "fnExactTagOk", fn := fun _ => fun
  | [d] => { results := [.lit (.bool true)], args := [d] }
  | _ => none }
def fnExactTagOkRow : OpenClaim := { program := "ytfckiehbpgbpcaa", sum := "99b5e5b2438648b1bf511a1e1b113b9a5b3c7bee81dcc76740f43f8617b1b48a", func := "loop.example/g00207/laws.FnExactTagOk", spec := "fnExactTagOk", unfollowed := true, recurses := true, apart := false }
def FnExactTagOkSaid : Prop := fnExactTagOkRow.holds Try.pinned (OpenSpec.ofChange fnExactTagOkSpec)

/-- ITS FALSE NEIGHBOUR: 'it returns false'. Refute it at one input. -/
def fnExactTagOkWrong : ChangeSpec := { name := "fnExactTagOk", fn := fun _ => fun
  | [d] => { results := [.lit (.bool false)], args := [d] }
  | _ => none }
def FnExactTagOkWrongFalsely : Prop := fnExactTagOkRow.holds Try.pinned (OpenSpec.ofChange fnExactTagOkWrong)

/-- 'laws.FnExactAlike': WHATEVER THE INPUT: true; the input reads as it did. -/
def fnExactAlikeSpec : ChangeSpec := { name := "fnExactAlike", fn := fun _ => fun
  | [d1, d2] => { results := [.lit (.bool true)], args := [d1, d2] }
  | _ => none }
def fnExactAlikeRow : OpenClaim := { program := "ytfckiehbpgbpcaa", sum := "99b5e5b2438648b1bf511a1e1b113b9a5b3c7bee81dcc76740f43f8617b1b48a", func := "loop.example/g00207/laws.FnExactAlike", spec := "fnExactAlike", unfollowed := true, recurses := true, apart := false }
def FnExactAlikeSaid : Prop := fnExactAlikeRow.holds Try.pinned (OpenSpec.ofChange fnExactAlikeSpec)

/-- ITS FALSE NEIGHBOUR: 'it returns false'. Refute it at one input. -/
def fnExactAlikeWrong : ChangeSpec := { name := "fnExactAlike", fn := fun _ => fun
  | [d1, d2] => { results := [.lit (.bool false)], args := [d1, d2] }
  | _ => none }
def FnExactAlikeWrongFalsely : Prop := fnExactAlikeRow.holds Try.pinned (OpenSpec.ofChange fnExactAlikeWrong)

/-- 'laws.FnExactStrong': WHATEVER THE INPUT: true; the input reads as it did. -/
def fnExactStrongSpec : ChangeSpec := { name := "fnExactStrong", fn := fun _ => fun
  | [d1, d2] => { results := [.lit (.bool true)], args := [d1, d2] }
  | _ => none }
def fnExactStrongRow : OpenClaim := { program := "ytfckiehbpgbpcaa", sum := "99b5e5b2438648b1bf511a1e1b113b9a5b3c7bee81dcc76740f43f8617b1b48a", func := "loop.example/g00207/laws.FnExactStrong", spec := "fnExactStrong", unfollowed := true, recurses := true, apart := false }
def FnExactStrongSaid : Prop := fnExactStrongRow.holds Try.pinned (OpenSpec.ofChange fnExactStrongSpec)

/-- ITS FALSE NEIGHBOUR: 'it returns false'. Refute it at one input. -/
def fnExactStrongWrong : ChangeSpec := { name := "fnExactStrong", fn := fun _ => fun
  | [d1, d2] => { results := [.lit (.bool false)], args := [d1, d2] }
  | _ => none }
def FnExactStrongWrongFalsely : Prop := fnExactStrongRow.holds Try.pinned (OpenSpec.ofChange fnExactStrongWrong)

/-- 'laws.FnExactTokenOk': WHATEVER THE INPUT: true; the input reads as it did. -/
def fnExactTokenOkSpec : ChangeSpec := { name := "fnExactTokenOk", fn := fun _ => fun
  | [d] => { results := [.lit (.bool true)], args := [d] }
  | _ => none }
def fnExactTokenOkRow : OpenClaim := { program := "ytfckiehbpgbpcaa", sum := "99b5e5b2438648b1bf511a1e1b113b9a5b3c7bee81dcc76740f43f8617b1b48a", func := "loop.example/g00207/laws.FnExactTokenOk", spec := "fnExactTokenOk", inPlace := ["internal/bytealg.IndexByteString"], unfollowed := true, recurses := true, apart := false }
def FnExactTokenOkSaid : Prop := fnExactTokenOkRow.holds Try.pinned (OpenSpec.ofChange fnExactTokenOkSpec)

/-- ITS FALSE NEIGHBOUR: 'it returns false'. Refute it at one input. -/
def fnExactTokenOkWrong : ChangeSpec := { name := "fnExactTokenOk", fn := fun _ => fun
  | [d] => { results := [.lit (.bool false)], args := [d] }
  | _ => none }
def FnExactTokenOkWrongFalsely : Prop := fnExactTokenOkRow.holds Try.pinned (OpenSpec.ofChange fnExactTokenOkWrong)

/-- 'laws.FnExactCoded': WHATEVER THE INPUT: true; the input reads as it did. -/
def fnExactCodedSpec : ChangeSpec := { name := "fnExactCoded", fn := fun _ => fun
  | [d] => { results := [.lit (.bool true)], args := [d] }
  | _ => none }
def fnExactCodedRow : OpenClaim := { program := "ytfckiehbpgbpcaa", sum := "99b5e5b2438648b1bf511a1e1b113b9a5b3c7bee81dcc76740f43f8617b1b48a", func := "loop.example/g00207/laws.FnExactCoded", spec := "fnExactCoded", inPlace := ["internal/bytealg.IndexByteString"], apart := false }
def FnExactCodedSaid : Prop := fnExactCodedRow.holds Try.pinned (OpenSpec.ofChange fnExactCodedSpec)

/-- ITS FALSE NEIGHBOUR: 'it returns false'. Refute it at one input. -/
def fnExactCodedWrong : ChangeSpec := { name := "fnExactCoded", fn := fun _ => fun
  | [d] => { results := [.lit (.bool false)], args := [d] }
  | _ => none }
def FnExactCodedWrongFalsely : Prop := fnExactCodedRow.holds Try.pinned (OpenSpec.ofChange fnExactCodedWrong)

/-- 'laws.FnExactShowTag': WHATEVER THE INPUT: true; the input reads as it did. -/
def fnExactShowTagSpec : ChangeSpec := { name := "fnExactShowTag", fn := fun _ => fun
  | [d] => { results := [.lit (.bool true)], args := [d] }
  | _ => none }
def fnExactShowTagRow : OpenClaim := { program := "ytfckiehbpgbpcaa", sum := "99b5e5b2438648b1bf511a1e1b113b9a5b3c7bee81dcc76740f43f8617b1b48a", func := "loop.example/g00207/laws.FnExactShowTag", spec := "fnExactShowTag", unfollowed := true, recurses := true, apart := false }
def FnExactShowTagSaid : Prop := fnExactShowTagRow.holds Try.pinned (OpenSpec.ofChange fnExactShowTagSpec)

/-- ITS FALSE NEIGHBOUR: 'it returns false'. Refute it at one input. -/
def fnExactShowTagWrong : ChangeSpec := { name := "fnExactShowTag", fn := fun _ => fun
  | [d] => { results := [.lit (.bool false)], args := [d] }
  | _ => none }
def FnExactShowTagWrongFalsely : Prop := fnExactShowTagRow.holds Try.pinned (OpenSpec.ofChange fnExactShowTagWrong)

/-- 'laws.FnExactChunkerOk': WHATEVER THE INPUT: true; the input reads as it did. -/
def fnExactChunkerOkSpec : ChangeSpec := { name := "fnExactChunkerOk", fn := fun _ => fun
  | [d] => { results := [.lit (.bool true)], args := [d] }
  | _ => none }
def fnExactChunkerOkRow : OpenClaim := { program := "ytfckiehbpgbpcaa", sum := "99b5e5b2438648b1bf511a1e1b113b9a5b3c7bee81dcc76740f43f8617b1b48a", func := "loop.example/g00207/laws.FnExactChunkerOk", spec := "fnExactChunkerOk", unfollowed := true, recurses := true, apart := false }
def FnExactChunkerOkSaid : Prop := fnExactChunkerOkRow.holds Try.pinned (OpenSpec.ofChange fnExactChunkerOkSpec)

/-- ITS FALSE NEIGHBOUR: 'it returns false'. Refute it at one input. -/
def fnExactChunkerOkWrong : ChangeSpec := { name := "fnExactChunkerOk", fn := fun _ => fun
  | [d] => { results := [.lit (.bool false)], args := [d] }
  | _ => none }
def FnExactChunkerOkWrongFalsely : Prop := fnExactChunkerOkRow.holds Try.pinned (OpenSpec.ofChange fnExactChunkerOkWrong)

/- THE SECOND FORM. 'bulk': how many values and letters a reading holds, each counted each time it is reached (what is shared counts as often as it is met; a slice's spare places count too). A statement '..UptoSaid' is the law's where the arguments, and the package variables that the reading takes, are together of bulk at most 1048576: NARROWER than '..Said'. Prove '..Said' where nothing that the law and all that it calls make is longer than what came in: it says more and counts as full. Else prove '..UptoSaid'. A law counts once. -/
mutual
def uptoBulk {H : Type} : DataW H → Nat
  | .lit (.string bytes) => bytes.length + 1
  | .lit _ => 1
  | .nil => 1
  | .ptr d => uptoBulk d + 1
  | .slice elems spare => uptoBulkAll elems + uptoBulkAll spare + 1
  | .agg parts => uptoBulkAll parts + 1
  | .iface _ d => uptoBulk d + 1
  | .map entries => uptoBulkEntries entries + 1
  | .held _ => 1
def uptoBulkAll {H : Type} : List (DataW H) → Nat
  | [] => 0
  | d :: r => uptoBulk d + uptoBulkAll r
def uptoBulkEntries {H : Type} : List (Lit × DataW H) → Nat
  | [] => 0
  | x :: r => uptoBulkEntry x + uptoBulkEntries r
def uptoBulkEntry {H : Type} : Lit × DataW H → Nat
  | (.string bytes, d) => bytes.length + uptoBulk d + 1
  | (_, d) => uptoBulk d + 1
 end
def uptoSmall : (H : Type) → List (DataW H) → Bool := fun _ ds => decide (uptoBulkAll ds ≤ 1048576)
def OpenSpec.upto (s : _root_.Go.ChangeSpec) : _root_.Go.OpenSpec := { _root_.Go.OpenSpec.ofChange s with cond := some uptoSmall }

/-- 'laws.FnExactConstants', WHERE WHAT IT READS IS OF BULK AT MOST 1048576: true; the input reads as it did. -/
def fnExactConstantsUptoRow : OpenClaim := { program := "ytfckiehbpgbpcaa", sum := "99b5e5b2438648b1bf511a1e1b113b9a5b3c7bee81dcc76740f43f8617b1b48a", func := "loop.example/g00207/laws.FnExactConstants", spec := "fnExactConstants", apart := false, narrowed := true }
def FnExactConstantsUptoSaid : Prop := fnExactConstantsUptoRow.holds Try.pinned (OpenSpec.upto fnExactConstantsSpec)

/-- 'laws.FnExactLeap', WHERE WHAT IT READS IS OF BULK AT MOST 1048576: true; the input reads as it did. -/
def fnExactLeapUptoRow : OpenClaim := { program := "ytfckiehbpgbpcaa", sum := "99b5e5b2438648b1bf511a1e1b113b9a5b3c7bee81dcc76740f43f8617b1b48a", func := "loop.example/g00207/laws.FnExactLeap", spec := "fnExactLeap", apart := false, narrowed := true }
def FnExactLeapUptoSaid : Prop := fnExactLeapUptoRow.holds Try.pinned (OpenSpec.upto fnExactLeapSpec)

/-- 'laws.FnExactLower', WHERE WHAT IT READS IS OF BULK AT MOST 1048576: true; the input reads as it did. -/
def fnExactLowerUptoRow : OpenClaim := { program := "ytfckiehbpgbpcaa", sum := "99b5e5b2438648b1bf511a1e1b113b9a5b3c7bee81dcc76740f43f8617b1b48a", func := "loop.example/g00207/laws.FnExactLower", spec := "fnExactLower", apart := false, narrowed := true }
def FnExactLowerUptoSaid : Prop := fnExactLowerUptoRow.holds Try.pinned (OpenSpec.upto fnExactLowerSpec)

/-- 'laws.FnExactVisibleOk', WHERE WHAT IT READS IS OF BULK AT MOST 1048576: true; the input reads as it did. -/
def fnExactVisibleOkUptoRow : OpenClaim := { program := "ytfckiehbpgbpcaa", sum := "99b5e5b2438648b1bf511a1e1b113b9a5b3c7bee81dcc76740f43f8617b1b48a", func := "loop.example/g00207/laws.FnExactVisibleOk", spec := "fnExactVisibleOk", unfollowed := true, recurses := true, apart := false, narrowed := true }
def FnExactVisibleOkUptoSaid : Prop := fnExactVisibleOkUptoRow.holds Try.pinned (OpenSpec.upto fnExactVisibleOkSpec)

/-- 'laws.FnExactDateOk', WHERE WHAT IT READS IS OF BULK AT MOST 1048576: true; the input reads as it did. -/
def fnExactDateOkUptoRow : OpenClaim := { program := "ytfckiehbpgbpcaa", sum := "99b5e5b2438648b1bf511a1e1b113b9a5b3c7bee81dcc76740f43f8617b1b48a", func := "loop.example/g00207/laws.FnExactDateOk", spec := "fnExactDateOk", apart := false, narrowed := true }
def FnExactDateOkUptoSaid : Prop := fnExactDateOkUptoRow.holds Try.pinned (OpenSpec.upto fnExactDateOkSpec)

/-- 'laws.FnExactTagOk', WHERE WHAT IT READS IS OF BULK AT MOST 1048576: true; the input reads as it did. -/
def fnExactTagOkUptoRow : OpenClaim := { program := "ytfckiehbpgbpcaa", sum := "99b5e5b2438648b1bf511a1e1b113b9a5b3c7bee81dcc76740f43f8617b1b48a", func := "loop.example/g00207/laws.FnExactTagOk", spec := "fnExactTagOk", unfollowed := true, recurses := true, apart := false, narrowed := true }
def FnExactTagOkUptoSaid : Prop := fnExactTagOkUptoRow.holds Try.pinned (OpenSpec.upto fnExactTagOkSpec)

/-- 'laws.FnExactAlike', WHERE WHAT IT READS IS OF BULK AT MOST 1048576: true; the input reads as it did. -/
def fnExactAlikeUptoRow : OpenClaim := { program := "ytfckiehbpgbpcaa", sum := "99b5e5b2438648b1bf511a1e1b113b9a5b3c7bee81dcc76740f43f8617b1b48a", func := "loop.example/g00207/laws.FnExactAlike", spec := "fnExactAlike", unfollowed := true, recurses := true, apart := false, narrowed := true }
def FnExactAlikeUptoSaid : Prop := fnExactAlikeUptoRow.holds Try.pinned (OpenSpec.upto fnExactAlikeSpec)

/-- 'laws.FnExactStrong', WHERE WHAT IT READS IS OF BULK AT MOST 1048576: true; the input reads as it did. -/
def fnExactStrongUptoRow : OpenClaim := { program := "ytfckiehbpgbpcaa", sum := "99b5e5b2438648b1bf511a1e1b113b9a5b3c7bee81dcc76740f43f8617b1b48a", func := "loop.example/g00207/laws.FnExactStrong", spec := "fnExactStrong", unfollowed := true, recurses := true, apart := false, narrowed := true }
def FnExactStrongUptoSaid : Prop := fnExactStrongUptoRow.holds Try.pinned (OpenSpec.upto fnExactStrongSpec)

/-- 'laws.FnExactTokenOk', WHERE WHAT IT READS IS OF BULK AT MOST 1048576: true; the input reads as it did. -/
def fnExactTokenOkUptoRow : OpenClaim := { program := "ytfckiehbpgbpcaa", sum := "99b5e5b2438648b1bf511a1e1b113b9a5b3c7bee81dcc76740f43f8617b1b48a", func := "loop.example/g00207/laws.FnExactTokenOk", spec := "fnExactTokenOk", inPlace := ["internal/bytealg.IndexByteString"], unfollowed := true, recurses := true, apart := false, narrowed := true }
def FnExactTokenOkUptoSaid : Prop := fnExactTokenOkUptoRow.holds Try.pinned (OpenSpec.upto fnExactTokenOkSpec)

/-- 'laws.FnExactCoded', WHERE WHAT IT READS IS OF BULK AT MOST 1048576: true; the input reads as it did. -/
def fnExactCodedUptoRow : OpenClaim := { program := "ytfckiehbpgbpcaa", sum := "99b5e5b2438648b1bf511a1e1b113b9a5b3c7bee81dcc76740f43f8617b1b48a", func := "loop.example/g00207/laws.FnExactCoded", spec := "fnExactCoded", inPlace := ["internal/bytealg.IndexByteString"], apart := false, narrowed := true }
def FnExactCodedUptoSaid : Prop := fnExactCodedUptoRow.holds Try.pinned (OpenSpec.upto fnExactCodedSpec)

/-- 'laws.FnExactShowTag', WHERE WHAT IT READS IS OF BULK AT MOST 1048576: true; the input reads as it did. -/
def fnExactShowTagUptoRow : OpenClaim := { program := "ytfckiehbpgbpcaa", sum := "99b5e5b2438648b1bf511a1e1b113b9a5b3c7bee81dcc76740f43f8617b1b48a", func := "loop.example/g00207/laws.FnExactShowTag", spec := "fnExactShowTag", unfollowed := true, recurses := true, apart := false, narrowed := true }
def FnExactShowTagUptoSaid : Prop := fnExactShowTagUptoRow.holds Try.pinned (OpenSpec.upto fnExactShowTagSpec)

/-- 'laws.FnExactChunkerOk', WHERE WHAT IT READS IS OF BULK AT MOST 1048576: true; the input reads as it did. -/
def fnExactChunkerOkUptoRow : OpenClaim := { program := "ytfckiehbpgbpcaa", sum := "99b5e5b2438648b1bf511a1e1b113b9a5b3c7bee81dcc76740f43f8617b1b48a", func := "loop.example/g00207/laws.FnExactChunkerOk", spec := "fnExactChunkerOk", unfollowed := true, recurses := true, apart := false, narrowed := true }
def FnExactChunkerOkUptoSaid : Prop := fnExactChunkerOkUptoRow.holds Try.pinned (OpenSpec.upto fnExactChunkerOkSpec)

end Rows
end Go.Proofs.Ytfckiehbpgbpcaa
