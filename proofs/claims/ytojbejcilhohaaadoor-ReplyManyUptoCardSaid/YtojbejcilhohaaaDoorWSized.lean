import Derived.SizedLaws
import Derived.ChangeSlices
namespace Go.Proofs.YtojbejcilhohaaaDoorW.PrintWords
open Go.ChangeShapes Go.WideShapes
end Go.Proofs.YtojbejcilhohaaaDoorW.PrintWords

