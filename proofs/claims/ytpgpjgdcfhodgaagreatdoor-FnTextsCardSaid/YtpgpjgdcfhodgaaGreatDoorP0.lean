/- Functions of the Go program as Lean functions, and proofs that each Go function comes to its Lean function's answers; conditions: those that each theorem states. Written by this session's program hprint.py, which drives the kit's printer. -/
import Derived.Test.YtpgpjgdcfhodgaaGreatDoorProg
import Derived.Below
import Derived.Deep.Draws
import Derived.Deep.AppendLies
import Derived.Maps.AppendAt
import Derived.OwnWalk
import Derived.Laws.BytesArg
import Derived.Laws.MakeOwn
import Derived.Laws.OwnMore
import Derived.Deep.OwnRows
import Derived.Tactics
import Derived.Lib.ConvBytes
import Derived.Laws.Slices
import Derived.WalkKit
import Derived.KernelRfl
import Derived.RowKit3
import Derived.Deep.LoopGhost
import Derived.Deep.QuietTactic
import Derived.BigQuiet
import Derived.WideLaws
import Derived.Deep.DeepCutAuto
import Derived.Deep.CutBlock
import Derived.Deep.RegionHeld3
import Derived.Laws.Rows
import Derived.Lib.AppendStr
import Derived.ArgAppend
import Derived.Laws.IdiomCopy
import Derived.OrdersHeld
import Derived.Laws.BitsLemmas
import Derived.RowKit
import Derived.Test.YtpgpjgdcfhodgaaGreatDoorWWords
import Derived.Test.YtpgpjgdcfhodgaaGreatDoorWLast
import Derived.Test.YtpgpjgdcfhodgaaGreatDoorWTab
import Derived.Test.YtpgpjgdcfhodgaaGreatDoorWQPut
import Derived.Test.YtpgpjgdcfhodgaaGreatDoorWApart
import Derived.Test.YtpgpjgdcfhodgaaGreatDoorWArr
import Derived.Test.YtpgpjgdcfhodgaaGreatDoorWZeros
import Derived.Test.YtpgpjgdcfhodgaaGreatDoorWFoot
import Derived.Test.YtpgpjgdcfhodgaaGreatDoorWKept
import Derived.Test.YtpgpjgdcfhodgaaGreatDoorWShare
import Derived.Test.YtpgpjgdcfhodgaaGreatDoorWN
import Derived.Test.YtpgpjgdcfhodgaaGreatDoorWFootNe
import Derived.Test.YtpgpjgdcfhodgaaGreatDoorWEqStruct
import Derived.Test.YtpgpjgdcfhodgaaGreatDoorWRepsOne
import Derived.Test.YtpgpjgdcfhodgaaGreatDoorWInv
import Derived.Test.YtpgpjgdcfhodgaaGreatDoorWGuard
import Derived.Test.YtpgpjgdcfhodgaaGreatDoorWNEv
import Derived.Test.YtpgpjgdcfhodgaaGreatDoorWMore
namespace Go.Proofs.YtpgpjgdcfhodgaaGreatDoor.P
open Go.RowKit Go.Proofs.YtpgpjgdcfhodgaaGreatDoorW.PrintWords Go.Proofs.YtpgpjgdcfhodgaaGreatDoorW.PrintLast Go.Proofs.YtpgpjgdcfhodgaaGreatDoorW.PrintMore
attribute [local go_sem] max2_int min2_int max_two min_two max_three min_three max_four min_four   -- for this text's walks alone
set_option linter.unusedVariables false
set_option linter.unusedSimpArgs false



def errW : Option Int → Value
  | none => .nilIface
  | some c => .iface 0 (.int .i64 c)
theorem errW_none : errW none = .nilIface := rfl
theorem errW_some (c : Int) : errW (some c) = .iface 0 (.int .i64 c) := rfl

theorem info5 : (Tryz.prog.info? 5).map (fun i => (i.zero, i.size, i.bytes)) = some (some (.int .u8 0), 1, 1) := by kernel_rfl
-- the values' own types

end Go.Proofs.YtpgpjgdcfhodgaaGreatDoor.P
