-- By gp.py, a program of this session: the print of the kit with contracts of this session's own beside it.
import Derived.Test.YtdeggcnccciapaaProg
import Derived.Below
import Derived.Deep.Draws
import Derived.Deep.AppendLies
import Derived.Maps.AppendAt
import Derived.OwnWalk
import Derived.Laws.BytesArg
import Derived.Laws.MakeOwn
import Derived.Laws.OwnMore
import Derived.Deep.OwnRows
import Derived.Tactics
import Derived.Lib.ConvBytes
import Derived.Laws.Slices
import Derived.WalkKit
import Derived.KernelRfl
import Derived.RowKit3
import Derived.Deep.LoopGhost
import Derived.Deep.QuietTactic
import Derived.BigQuiet
import Derived.WideLaws
import Derived.Deep.DeepCutAuto
import Derived.Deep.CutBlock
import Derived.Deep.RegionHeld3
import Derived.Laws.Rows
import Derived.Lib.AppendStr
import Derived.ArgAppend
import Derived.Laws.IdiomCopy
import Derived.OrdersHeld
import Derived.Laws.BitsLemmas
import Derived.RowKit
import Derived.Lib.SlBytesConst
import Derived.LoopTactic
import Derived.Test.YtdeggcnccciapaaGp
import Derived.Test.YtdeggcnccciapaaWWords
import Derived.Test.YtdeggcnccciapaaWLast
import Derived.Test.YtdeggcnccciapaaWTab
import Derived.Test.YtdeggcnccciapaaWFour
import Derived.Test.YtdeggcnccciapaaWQPut
import Derived.Test.YtdeggcnccciapaaWApart
import Derived.Test.YtdeggcnccciapaaWArr
import Derived.Test.YtdeggcnccciapaaWZeros
import Derived.Test.YtdeggcnccciapaaWFoot
import Derived.Test.YtdeggcnccciapaaWKept
import Derived.Test.YtdeggcnccciapaaWShare
import Derived.Test.YtdeggcnccciapaaWN
import Derived.Test.YtdeggcnccciapaaWFootNe
import Derived.Test.YtdeggcnccciapaaWAt
import Derived.Test.YtdeggcnccciapaaWEqStruct
import Derived.Test.YtdeggcnccciapaaWRepsOne
import Derived.Test.YtdeggcnccciapaaWInv
import Derived.Test.YtdeggcnccciapaaWInvWords
import Derived.Test.YtdeggcnccciapaaWGuard
import Derived.Test.YtdeggcnccciapaaWNEv
import Derived.Test.YtdeggcnccciapaaWMore
namespace Go.Proofs.Ytdeggcnccciapaa.PUtfWalks
open Go.RowKit Go.Proofs.Ytdeggcnccciapaa.Gp Go.Proofs.YtdeggcnccciapaaW.PrintWords Go.Proofs.YtdeggcnccciapaaW.PrintLast Go.Proofs.YtdeggcnccciapaaW.PrintMore
attribute [local go_sem] max2_int min2_int max_two min_two max_three min_three max_four min_four gp_gtr gp_leq gp_geq   -- for this text's walks alone
set_option linter.unusedVariables false
set_option linter.unusedSimpArgs false



def errW : Option Int → Value
  | none => .nilIface
  | some c => .iface 0 (.int .i64 c)
theorem errW_none : errW none = .nilIface := rfl
theorem errW_some (c : Int) : errW (some c) = .iface 0 (.int .i64 c) := rfl

theorem info3 : (Try.prog.info? 3).map (fun i => (i.zero, i.size, i.bytes)) = some (some (.int .i64 0), 1, 8) := by kernel_rfl
theorem info5 : (Try.prog.info? 5).map (fun i => (i.zero, i.size, i.bytes)) = some (some (.int .u8 0), 1, 1) := by kernel_rfl
-- the values' own types

end Go.Proofs.Ytdeggcnccciapaa.PUtfWalks
