-- By gp.py, a program of this session: the print of the kit with contracts of this session's own beside it.
import Derived.Test.YtdkdefbaekcahaaProg
import Derived.Below
import Derived.Deep.Draws
import Derived.Deep.AppendLies
import Derived.Maps.AppendAt
import Derived.OwnWalk
import Derived.Laws.BytesArg
import Derived.Laws.MakeOwn
import Derived.Laws.OwnMore
import Derived.Deep.OwnRows
import Derived.Tactics
import Derived.Lib.ConvBytes
import Derived.Laws.Slices
import Derived.WalkKit
import Derived.KernelRfl
import Derived.RowKit3
import Derived.Deep.LoopGhost
import Derived.Deep.QuietTactic
import Derived.BigQuiet
import Derived.WideLaws
import Derived.Deep.DeepCutAuto
import Derived.Deep.CutBlock
import Derived.Deep.RegionHeld3
import Derived.Laws.Rows
import Derived.Lib.AppendStr
import Derived.ArgAppend
import Derived.Laws.IdiomCopy
import Derived.OrdersHeld
import Derived.Laws.BitsLemmas
import Derived.RowKit
import Derived.Lib.SlBytesConst
import Derived.LoopTactic
import Derived.Test.YtdkdefbaekcahaaGp
import Derived.Test.YtdkdefbaekcahaaWWords
import Derived.Test.YtdkdefbaekcahaaWLast
import Derived.Test.YtdkdefbaekcahaaWTab
import Derived.Test.YtdkdefbaekcahaaWFour
import Derived.Test.YtdkdefbaekcahaaWQPut
import Derived.Test.YtdkdefbaekcahaaWApart
import Derived.Test.YtdkdefbaekcahaaWArr
import Derived.Test.YtdkdefbaekcahaaWZeros
import Derived.Test.YtdkdefbaekcahaaWFoot
import Derived.Test.YtdkdefbaekcahaaWKept
import Derived.Test.YtdkdefbaekcahaaWShare
import Derived.Test.YtdkdefbaekcahaaWN
import Derived.Test.YtdkdefbaekcahaaWFootNe
import Derived.Test.YtdkdefbaekcahaaWAt
import Derived.Test.YtdkdefbaekcahaaWEqStruct
import Derived.Test.YtdkdefbaekcahaaWRepsOne
import Derived.Test.YtdkdefbaekcahaaWInv
import Derived.Test.YtdkdefbaekcahaaWInvWords
import Derived.Test.YtdkdefbaekcahaaWGuard
import Derived.Test.YtdkdefbaekcahaaWNEv
import Derived.Test.YtdkdefbaekcahaaWMore
namespace Go.Proofs.Ytdkdefbaekcahaa.PNumSize
open Go.RowKit Go.Proofs.Ytdkdefbaekcahaa.Gp Go.Proofs.YtdkdefbaekcahaaW.PrintWords Go.Proofs.YtdkdefbaekcahaaW.PrintLast Go.Proofs.YtdkdefbaekcahaaW.PrintMore
attribute [local go_sem] max2_int min2_int max_two min_two max_three min_three max_four min_four gp_gtr gp_leq gp_geq   -- for this text's walks alone
set_option linter.unusedVariables false
set_option linter.unusedSimpArgs false



def errW : Option Int → Value
  | none => .nilIface
  | some c => .iface 0 (.int .i64 c)
theorem errW_none : errW none = .nilIface := rfl
theorem errW_some (c : Int) : errW (some c) = .iface 0 (.int .i64 c) := rfl

-- the values' own types

end Go.Proofs.Ytdkdefbaekcahaa.PNumSize
