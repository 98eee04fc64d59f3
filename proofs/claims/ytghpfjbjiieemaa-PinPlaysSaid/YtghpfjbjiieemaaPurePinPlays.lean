/- Whatever is added, kept, dropped, and expires, pins answer, and hold, what the chapter says: for any limit, any calls, any id. No condition. -/
import Derived.Test.YtghpfjbjiieemaaPPinPlaysx2
namespace Go.Proofs.Ytghpfjbjiieemaa.Pure
open Go Go.RowKit Go.Proofs.Ytghpfjbjiieemaa.PPinPlays Go.Proofs.Ytghpfjbjiieemaa.Gp Go.Proofs.YtghpfjbjiieemaaW Go.Proofs.YtghpfjbjiieemaaW.PrintWords Go.Proofs.YtghpfjbjiieemaaW.PrintLast Go.Proofs.YtghpfjbjiieemaaW.PrintMore
set_option linter.unusedVariables false
set_option linter.unusedSimpArgs false
theorem PinPlays : larumlaw21_PinPlays.Pure := fun _ _ _ _ _ _ _ => ⟨0, rfl⟩
end Go.Proofs.Ytghpfjbjiieemaa.Pure
