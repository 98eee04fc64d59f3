-- By gp.py, a program of this session: the print of the kit with contracts of this session's own beside it.
import Derived.Test.YtedfpgelcdekoaaDoorProg
import Derived.Below
import Derived.Deep.Draws
import Derived.Deep.AppendLies
import Derived.Maps.AppendAt
import Derived.OwnWalk
import Derived.Laws.BytesArg
import Derived.Laws.MakeOwn
import Derived.Laws.OwnMore
import Derived.Deep.OwnRows
import Derived.Tactics
import Derived.Lib.ConvBytes
import Derived.Laws.Slices
import Derived.WalkKit
import Derived.KernelRfl
import Derived.RowKit3
import Derived.Deep.LoopGhost
import Derived.Deep.QuietTactic
import Derived.BigQuiet
import Derived.WideLaws
import Derived.Deep.DeepCutAuto
import Derived.Deep.CutBlock
import Derived.Deep.RegionHeld3
import Derived.Laws.Rows
import Derived.Lib.AppendStr
import Derived.ArgAppend
import Derived.Laws.IdiomCopy
import Derived.OrdersHeld
import Derived.Laws.BitsLemmas
import Derived.RowKit
import Derived.Lib.SlBytesConst
import Derived.LoopTactic
import Derived.Test.YtedfpgelcdekoaaDoorShelf
import Derived.Test.YtedfpgelcdekoaaDoorGp
import Derived.Test.YtedfpgelcdekoaaDoorWWords
import Derived.Test.YtedfpgelcdekoaaDoorWLast
import Derived.Test.YtedfpgelcdekoaaDoorWTab
import Derived.Test.YtedfpgelcdekoaaDoorWFour
import Derived.Test.YtedfpgelcdekoaaDoorWQPut
import Derived.Test.YtedfpgelcdekoaaDoorWApart
import Derived.Test.YtedfpgelcdekoaaDoorWArr
import Derived.Test.YtedfpgelcdekoaaDoorWZeros
import Derived.Test.YtedfpgelcdekoaaDoorWFoot
import Derived.Test.YtedfpgelcdekoaaDoorWKept
import Derived.Test.YtedfpgelcdekoaaDoorWShare
import Derived.Test.YtedfpgelcdekoaaDoorWN
import Derived.Test.YtedfpgelcdekoaaDoorWFootNe
import Derived.Test.YtedfpgelcdekoaaDoorWAt
import Derived.Test.YtedfpgelcdekoaaDoorWEqStruct
import Derived.Test.YtedfpgelcdekoaaDoorWRepsOne
import Derived.Test.YtedfpgelcdekoaaDoorWInv
import Derived.Test.YtedfpgelcdekoaaDoorWInvWords
import Derived.Test.YtedfpgelcdekoaaDoorWGuard
import Derived.Test.YtedfpgelcdekoaaDoorWNEv
import Derived.Test.YtedfpgelcdekoaaDoorWMore
namespace Go.Proofs.YtedfpgelcdekoaaDoor.PPageNames
open Go.RowKit Go.Proofs.YtedfpgelcdekoaaDoor.Gp Go.Proofs.YtedfpgelcdekoaaDoorW.PrintWords Go.Proofs.YtedfpgelcdekoaaDoorW.PrintLast Go.Proofs.YtedfpgelcdekoaaDoorW.PrintMore
attribute [local go_sem] max2_int min2_int max_two min_two max_three min_three max_four min_four gp_gtr gp_leq gp_geq   -- for this text's walks alone
set_option linter.unusedVariables false
set_option linter.unusedSimpArgs false



def errW : Option Int → Value
  | none => .nilIface
  | some c => .iface 0 (.int .i64 c)
theorem errW_none : errW none = .nilIface := rfl
theorem errW_some (c : Int) : errW (some c) = .iface 0 (.int .i64 c) := rfl

theorem info9 : (Tryd.prog.info? 9).map (fun i => (i.zero, i.size, i.bytes)) = some (some (.string ⟨#[]⟩), 1, 16) := by kernel_rfl
-- the values' own types

end Go.Proofs.YtedfpgelcdekoaaDoor.PPageNames
