-- By gp.py, a program of this session: the print of the kit with contracts of this session's own beside it.
import Derived.Test.YtipdkajfcicfkaaProg
import Derived.Below
import Derived.Deep.Draws
import Derived.Deep.AppendLies
import Derived.Maps.AppendAt
import Derived.OwnWalk
import Derived.Laws.BytesArg
import Derived.Laws.MakeOwn
import Derived.Laws.OwnMore
import Derived.Deep.OwnRows
import Derived.Tactics
import Derived.Lib.ConvBytes
import Derived.Laws.Slices
import Derived.WalkKit
import Derived.KernelRfl
import Derived.RowKit3
import Derived.Deep.LoopGhost
import Derived.Deep.QuietTactic
import Derived.BigQuiet
import Derived.WideLaws
import Derived.Deep.DeepCutAuto
import Derived.Deep.CutBlock
import Derived.Deep.RegionHeld3
import Derived.Laws.Rows
import Derived.Lib.AppendStr
import Derived.ArgAppend
import Derived.Laws.IdiomCopy
import Derived.OrdersHeld
import Derived.Laws.BitsLemmas
import Derived.RowKit
import Derived.Lib.SlBytesConst
import Derived.LoopTactic
import Derived.Test.YtipdkajfcicfkaaShelf
import Derived.Test.YtipdkajfcicfkaaGp
import Derived.Test.YtipdkajfcicfkaaWWords
import Derived.Test.YtipdkajfcicfkaaWLast
import Derived.Test.YtipdkajfcicfkaaWTab
import Derived.Test.YtipdkajfcicfkaaWFour
import Derived.Test.YtipdkajfcicfkaaWQPut
import Derived.Test.YtipdkajfcicfkaaWApart
import Derived.Test.YtipdkajfcicfkaaWArr
import Derived.Test.YtipdkajfcicfkaaWZeros
import Derived.Test.YtipdkajfcicfkaaWFoot
import Derived.Test.YtipdkajfcicfkaaWKept
import Derived.Test.YtipdkajfcicfkaaWShare
import Derived.Test.YtipdkajfcicfkaaWN
import Derived.Test.YtipdkajfcicfkaaWFootNe
import Derived.Test.YtipdkajfcicfkaaWAt
import Derived.Test.YtipdkajfcicfkaaWEqStruct
import Derived.Test.YtipdkajfcicfkaaWRepsOne
import Derived.Test.YtipdkajfcicfkaaWInv
import Derived.Test.YtipdkajfcicfkaaWInvWords
import Derived.Test.YtipdkajfcicfkaaWGuard
import Derived.Test.YtipdkajfcicfkaaWNEv
import Derived.Test.YtipdkajfcicfkaaWMore
namespace Go.Proofs.Ytipdkajfcicfkaa.PPageCursor
open Go.RowKit Go.Proofs.Ytipdkajfcicfkaa.Gp Go.Proofs.YtipdkajfcicfkaaW.PrintWords Go.Proofs.YtipdkajfcicfkaaW.PrintLast Go.Proofs.YtipdkajfcicfkaaW.PrintMore
attribute [local go_sem] max2_int min2_int max_two min_two max_three min_three max_four min_four gp_gtr gp_leq gp_geq   -- for this text's walks alone
set_option linter.unusedVariables false
set_option linter.unusedSimpArgs false



def errW : Option Int → Value
  | none => .nilIface
  | some c => .iface 0 (.int .i64 c)
theorem errW_none : errW none = .nilIface := rfl
theorem errW_some (c : Int) : errW (some c) = .iface 0 (.int .i64 c) := rfl

theorem info5 : (Try.prog.info? 5).map (fun i => (i.zero, i.size, i.bytes)) = some (some (.int .u8 0), 1, 1) := by kernel_rfl
theorem info9 : (Try.prog.info? 9).map (fun i => (i.zero, i.size, i.bytes)) = some (some (.string ⟨#[]⟩), 1, 16) := by kernel_rfl
-- the values' own types

end Go.Proofs.Ytipdkajfcicfkaa.PPageCursor
