-- By gp.py, a program of this session: the print of the kit with contracts of this session's own beside it.
import Derived.Test.YtahhanmoonjgbaaDoorProg
import Derived.Below
import Derived.Deep.Draws
import Derived.Deep.AppendLies
import Derived.Maps.AppendAt
import Derived.OwnWalk
import Derived.Laws.BytesArg
import Derived.Laws.MakeOwn
import Derived.Laws.OwnMore
import Derived.Deep.OwnRows
import Derived.Tactics
import Derived.Lib.ConvBytes
import Derived.Laws.Slices
import Derived.WalkKit
import Derived.KernelRfl
import Derived.RowKit3
import Derived.Deep.LoopGhost
import Derived.Deep.QuietTactic
import Derived.BigQuiet
import Derived.WideLaws
import Derived.Deep.DeepCutAuto
import Derived.Deep.CutBlock
import Derived.Deep.RegionHeld3
import Derived.Laws.Rows
import Derived.Lib.AppendStr
import Derived.ArgAppend
import Derived.Laws.IdiomCopy
import Derived.OrdersHeld
import Derived.Laws.BitsLemmas
import Derived.RowKit
import Derived.Lib.SlBytesConst
import Derived.LoopTactic
import Derived.Test.YtahhanmoonjgbaaDoorShelf
import Derived.Test.YtahhanmoonjgbaaDoorGp
import Derived.Test.YtahhanmoonjgbaaDoorWWords
import Derived.Test.YtahhanmoonjgbaaDoorWLast
import Derived.Test.YtahhanmoonjgbaaDoorWTab
import Derived.Test.YtahhanmoonjgbaaDoorWFour
import Derived.Test.YtahhanmoonjgbaaDoorWQPut
import Derived.Test.YtahhanmoonjgbaaDoorWApart
import Derived.Test.YtahhanmoonjgbaaDoorWArr
import Derived.Test.YtahhanmoonjgbaaDoorWZeros
import Derived.Test.YtahhanmoonjgbaaDoorWFoot
import Derived.Test.YtahhanmoonjgbaaDoorWKept
import Derived.Test.YtahhanmoonjgbaaDoorWShare
import Derived.Test.YtahhanmoonjgbaaDoorWN
import Derived.Test.YtahhanmoonjgbaaDoorWFootNe
import Derived.Test.YtahhanmoonjgbaaDoorWAt
import Derived.Test.YtahhanmoonjgbaaDoorWEqStruct
import Derived.Test.YtahhanmoonjgbaaDoorWRepsOne
import Derived.Test.YtahhanmoonjgbaaDoorWInv
import Derived.Test.YtahhanmoonjgbaaDoorWInvWords
import Derived.Test.YtahhanmoonjgbaaDoorWGuard
import Derived.Test.YtahhanmoonjgbaaDoorWNEv
import Derived.Test.YtahhanmoonjgbaaDoorWMore
namespace Go.Proofs.YtahhanmoonjgbaaDoor.PCharsLower
open Go.RowKit Go.Proofs.YtahhanmoonjgbaaDoor.Gp Go.Proofs.YtahhanmoonjgbaaDoorW.PrintWords Go.Proofs.YtahhanmoonjgbaaDoorW.PrintLast Go.Proofs.YtahhanmoonjgbaaDoorW.PrintMore
attribute [local go_sem] max2_int min2_int max_two min_two max_three min_three max_four min_four gp_gtr gp_leq gp_geq   -- for this text's walks alone
set_option linter.unusedVariables false
set_option linter.unusedSimpArgs false



def errW : Option Int → Value
  | none => .nilIface
  | some c => .iface 0 (.int .i64 c)
theorem errW_none : errW none = .nilIface := rfl
theorem errW_some (c : Int) : errW (some c) = .iface 0 (.int .i64 c) := rfl

theorem info5 : (Tryd.prog.info? 5).map (fun i => (i.zero, i.size, i.bytes)) = some (some (.int .u8 0), 1, 1) := by kernel_rfl
theorem info9 : (Tryd.prog.info? 9).map (fun i => (i.zero, i.size, i.bytes)) = some (some (.string ⟨#[]⟩), 1, 16) := by kernel_rfl
-- the values' own types

end Go.Proofs.YtahhanmoonjgbaaDoor.PCharsLower
