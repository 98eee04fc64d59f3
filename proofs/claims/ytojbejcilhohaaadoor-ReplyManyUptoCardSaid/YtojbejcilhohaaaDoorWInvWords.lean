import Derived.Test.YtojbejcilhohaaaDoorWInv
import Derived.Test.YtojbejcilhohaaaDoorWFootNe
namespace Go.Proofs.YtojbejcilhohaaaDoorW.PrintWords
open Go.RowKit
end Go.Proofs.YtojbejcilhohaaaDoorW.PrintWords
namespace Go.Proofs.YtojbejcilhohaaaDoorW.PrintLast
section
variable {ops : Array Oper} {a : Act} {o og : Oper} {g : Nat} {t : Tmp} {u : Bool}
end
end Go.Proofs.YtojbejcilhohaaaDoorW.PrintLast

