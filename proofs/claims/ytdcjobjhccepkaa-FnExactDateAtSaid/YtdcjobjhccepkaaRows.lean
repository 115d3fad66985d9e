/-
  No cell of these rows narrows 'for every input' (looked for: loops, veiled, ifaces, maps, wideKeys, modest, calm, conditions, laid).
  DERIVED. THE GIVEN ROWS OF THIS SEAT. 5 by the template 'for every input the law returns true; each argument reads behind the call as it read before'; 0 by the template 'total and deterministic' (their statements: YtdcjobjhccepkaaTotals.lean).
  GIVEN WITH THE SEED: the statements are not yours to turn. If you find one false, say at which input.
  Laid BY PROGRAM, IN A SANDBOX (cutbox-rows.mjs): the forced cells as the released guide's own fill.sh prints them over the translation 7fc0b0497503cce2… (all of the seat's roots in one cut). By AI agents, Wed Nov 11 2026. No macro, syntax, notation, axiom, sorry.
-/
import Derived.Test.YtdcjobjhccepkaaChecked
import GoSem.Claim
import GoSem.ClaimJoined
import GoSem.ClaimMapViews
import Derived.JoinedTies
import Derived.KernelRfl
namespace Go.Proofs.Ytdcjobjhccepkaa
/- THE CELL 'sum', in the pinned program and in every row, IS THE sha256 OF THE DUMP (.gsa) THAT YtdcjobjhccepkaaProg.lean LOADS. Nothing in Lean hashes anything: it is a label: what it is worth is what the hold of that sum in a sandbox is worth. -/
noncomputable def Try.pinned : Pinned := { name := "ytdcjobjhccepkaa", sum := "7fc0b0497503cce2a2d081b54c0fc5a9bdb546f135ce519154fa1c52702da909", checked := Try.checked }
namespace Rows
def none {H : Type} : Left H := { results := [], args := [] }

/-- 'laws.FnExactDays': WHATEVER THE INPUT: true; the input reads as it did. -/
def fnExactDaysSpec : ChangeSpec := { name := "fnExactDays", fn := fun _ => fun
  | [d] => { results := [.lit (.bool true)], args := [d] }
  | _ => none }
def fnExactDaysRow : OpenClaim := { program := "ytdcjobjhccepkaa", sum := "7fc0b0497503cce2a2d081b54c0fc5a9bdb546f135ce519154fa1c52702da909", func := "loop.example/g00207/laws.FnExactDays", spec := "fnExactDays", apart := false }
def FnExactDaysSaid : Prop := fnExactDaysRow.holds Try.pinned (OpenSpec.ofChange fnExactDaysSpec)

/-- ITS FALSE NEIGHBOUR: 'it returns false'. Refute it at one input. -/
def fnExactDaysWrong : ChangeSpec := { name := "fnExactDays", fn := fun _ => fun
  | [d] => { results := [.lit (.bool false)], args := [d] }
  | _ => none }
def FnExactDaysWrongFalsely : Prop := fnExactDaysRow.holds Try.pinned (OpenSpec.ofChange fnExactDaysWrong)

/-- 'laws.FnExactMoment': WHATEVER THE INPUT: true; the input reads as it did. -/
def fnExactMomentSpec : ChangeSpec := { name := "fnExactMoment", fn := fun _ => fun
  | [d] => { results := [.lit (.bool true)], args := [d] }
  | _ => none }
def fnExactMomentRow : OpenClaim := { program := "ytdcjobjhccepkaa", sum := "7fc0b0497503cce2a2d081b54c0fc5a9bdb546f135ce519154fa1c52702da909", func := "loop.example/g00207/laws.FnExactMoment", spec := "fnExactMoment", apart := false }
def FnExactMomentSaid : Prop := fnExactMomentRow.holds Try.pinned (OpenSpec.ofChange fnExactMomentSpec)

/-- ITS FALSE NEIGHBOUR: 'it returns false'. Refute it at one input. -/
def fnExactMomentWrong : ChangeSpec := { name := "fnExactMoment", fn := fun _ => fun
  | [d] => { results := [.lit (.bool false)], args := [d] }
  | _ => none }
def FnExactMomentWrongFalsely : Prop := fnExactMomentRow.holds Try.pinned (OpenSpec.ofChange fnExactMomentWrong)

/-- 'laws.FnExactWeekday': WHATEVER THE INPUT: true; the input reads as it did. -/
def fnExactWeekdaySpec : ChangeSpec := { name := "fnExactWeekday", fn := fun _ => fun
  | [d] => { results := [.lit (.bool true)], args := [d] }
  | _ => none }
def fnExactWeekdayRow : OpenClaim := { program := "ytdcjobjhccepkaa", sum := "7fc0b0497503cce2a2d081b54c0fc5a9bdb546f135ce519154fa1c52702da909", func := "loop.example/g00207/laws.FnExactWeekday", spec := "fnExactWeekday", apart := false }
def FnExactWeekdaySaid : Prop := fnExactWeekdayRow.holds Try.pinned (OpenSpec.ofChange fnExactWeekdaySpec)

/-- ITS FALSE NEIGHBOUR: 'it returns false'. Refute it at one input. -/
def fnExactWeekdayWrong : ChangeSpec := { name := "fnExactWeekday", fn := fun _ => fun
  | [d] => { results := [.lit (.bool false)], args := [d] }
  | _ => none }
def FnExactWeekdayWrongFalsely : Prop := fnExactWeekdayRow.holds Try.pinned (OpenSpec.ofChange fnExactWeekdayWrong)

/-- 'laws.FnExactDateAt': WHATEVER THE INPUT: true; the input reads as it did. -/
def fnExactDateAtSpec : ChangeSpec := { name := "fnExactDateAt", fn := fun _ => fun
  | [d] => { results := [.lit (.bool true)], args := [d] }
  | _ => none }
def fnExactDateAtRow : OpenClaim := { program := "ytdcjobjhccepkaa", sum := "7fc0b0497503cce2a2d081b54c0fc5a9bdb546f135ce519154fa1c52702da909", func := "loop.example/g00207/laws.FnExactDateAt", spec := "fnExactDateAt", apart := false }
def FnExactDateAtSaid : Prop := fnExactDateAtRow.holds Try.pinned (OpenSpec.ofChange fnExactDateAtSpec)

/-- ITS FALSE NEIGHBOUR: 'it returns false'. Refute it at one input. -/
def fnExactDateAtWrong : ChangeSpec := { name := "fnExactDateAt", fn := fun _ => fun
  | [d] => { results := [.lit (.bool false)], args := [d] }
  | _ => none }
def FnExactDateAtWrongFalsely : Prop := fnExactDateAtRow.holds Try.pinned (OpenSpec.ofChange fnExactDateAtWrong)

/-- 'laws.FnDates': WHATEVER THE INPUT: true; the input reads as it did. -/
def fnDatesSpec : ChangeSpec := { name := "fnDates", fn := fun _ => fun
  | [d] => { results := [.lit (.bool true)], args := [d] }
  | _ => none }
def fnDatesRow : OpenClaim := { program := "ytdcjobjhccepkaa", sum := "7fc0b0497503cce2a2d081b54c0fc5a9bdb546f135ce519154fa1c52702da909", func := "loop.example/g00207/laws.FnDates", spec := "fnDates", apart := false }
def FnDatesSaid : Prop := fnDatesRow.holds Try.pinned (OpenSpec.ofChange fnDatesSpec)

/-- ITS FALSE NEIGHBOUR: 'it returns false'. Refute it at one input. -/
def fnDatesWrong : ChangeSpec := { name := "fnDates", fn := fun _ => fun
  | [d] => { results := [.lit (.bool false)], args := [d] }
  | _ => none }
def FnDatesWrongFalsely : Prop := fnDatesRow.holds Try.pinned (OpenSpec.ofChange fnDatesWrong)

/- THE SECOND FORM. 'bulk': how many values and letters a reading holds, each counted each time it is reached (what is shared counts as often as it is met; a slice's spare places count too). A statement '..UptoSaid' is the law's where the arguments, and the package variables that the reading takes, are together of bulk at most 1048576: NARROWER than '..Said'. Prove '..Said' where nothing that the law and all that it calls make is longer than what came in: it says more and counts as full. Else prove '..UptoSaid'. A law counts once. -/
mutual
def uptoBulk {H : Type} : DataW H → Nat
  | .lit (.string bytes) => bytes.length + 1
  | .lit _ => 1
  | .nil => 1
  | .ptr d => uptoBulk d + 1
  | .slice elems spare => uptoBulkAll elems + uptoBulkAll spare + 1
  | .agg parts => uptoBulkAll parts + 1
  | .iface _ d => uptoBulk d + 1
  | .map entries => uptoBulkEntries entries + 1
  | .held _ => 1
def uptoBulkAll {H : Type} : List (DataW H) → Nat
  | [] => 0
  | d :: r => uptoBulk d + uptoBulkAll r
def uptoBulkEntries {H : Type} : List (Lit × DataW H) → Nat
  | [] => 0
  | x :: r => uptoBulkEntry x + uptoBulkEntries r
def uptoBulkEntry {H : Type} : Lit × DataW H → Nat
  | (.string bytes, d) => bytes.length + uptoBulk d + 1
  | (_, d) => uptoBulk d + 1
 end
def uptoSmall : (H : Type) → List (DataW H) → Bool := fun _ ds => decide (uptoBulkAll ds ≤ 1048576)
def OpenSpec.upto (s : _root_.Go.ChangeSpec) : _root_.Go.OpenSpec := { _root_.Go.OpenSpec.ofChange s with cond := some uptoSmall }

/-- 'laws.FnExactDays', WHERE WHAT IT READS IS OF BULK AT MOST 1048576: true; the input reads as it did. -/
def fnExactDaysUptoRow : OpenClaim := { program := "ytdcjobjhccepkaa", sum := "7fc0b0497503cce2a2d081b54c0fc5a9bdb546f135ce519154fa1c52702da909", func := "loop.example/g00207/laws.FnExactDays", spec := "fnExactDays", apart := false, narrowed := true }
def FnExactDaysUptoSaid : Prop := fnExactDaysUptoRow.holds Try.pinned (OpenSpec.upto fnExactDaysSpec)

/-- 'laws.FnExactMoment', WHERE WHAT IT READS IS OF BULK AT MOST 1048576: true; the input reads as it did. -/
def fnExactMomentUptoRow : OpenClaim := { program := "ytdcjobjhccepkaa", sum := "7fc0b0497503cce2a2d081b54c0fc5a9bdb546f135ce519154fa1c52702da909", func := "loop.example/g00207/laws.FnExactMoment", spec := "fnExactMoment", apart := false, narrowed := true }
def FnExactMomentUptoSaid : Prop := fnExactMomentUptoRow.holds Try.pinned (OpenSpec.upto fnExactMomentSpec)

/-- 'laws.FnExactWeekday', WHERE WHAT IT READS IS OF BULK AT MOST 1048576: true; the input reads as it did. -/
def fnExactWeekdayUptoRow : OpenClaim := { program := "ytdcjobjhccepkaa", sum := "7fc0b0497503cce2a2d081b54c0fc5a9bdb546f135ce519154fa1c52702da909", func := "loop.example/g00207/laws.FnExactWeekday", spec := "fnExactWeekday", apart := false, narrowed := true }
def FnExactWeekdayUptoSaid : Prop := fnExactWeekdayUptoRow.holds Try.pinned (OpenSpec.upto fnExactWeekdaySpec)

/-- 'laws.FnExactDateAt', WHERE WHAT IT READS IS OF BULK AT MOST 1048576: true; the input reads as it did. -/
def fnExactDateAtUptoRow : OpenClaim := { program := "ytdcjobjhccepkaa", sum := "7fc0b0497503cce2a2d081b54c0fc5a9bdb546f135ce519154fa1c52702da909", func := "loop.example/g00207/laws.FnExactDateAt", spec := "fnExactDateAt", apart := false, narrowed := true }
def FnExactDateAtUptoSaid : Prop := fnExactDateAtUptoRow.holds Try.pinned (OpenSpec.upto fnExactDateAtSpec)

/-- 'laws.FnDates', WHERE WHAT IT READS IS OF BULK AT MOST 1048576: true; the input reads as it did. -/
def fnDatesUptoRow : OpenClaim := { program := "ytdcjobjhccepkaa", sum := "7fc0b0497503cce2a2d081b54c0fc5a9bdb546f135ce519154fa1c52702da909", func := "loop.example/g00207/laws.FnDates", spec := "fnDates", apart := false, narrowed := true }
def FnDatesUptoSaid : Prop := fnDatesUptoRow.holds Try.pinned (OpenSpec.upto fnDatesSpec)

end Rows
end Go.Proofs.Ytdcjobjhccepkaa
