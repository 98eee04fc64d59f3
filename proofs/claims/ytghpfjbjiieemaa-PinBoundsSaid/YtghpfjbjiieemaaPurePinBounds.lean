/- Never more are held than may be, and what is lowest is not above any one that is held. No condition. -/
import Derived.Test.YtghpfjbjiieemaaPPinBoundsx2
namespace Go.Proofs.Ytghpfjbjiieemaa.Pure
open Go Go.RowKit Go.Proofs.Ytghpfjbjiieemaa.PPinBounds Go.Proofs.Ytghpfjbjiieemaa.Gp Go.Proofs.YtghpfjbjiieemaaW Go.Proofs.YtghpfjbjiieemaaW.PrintWords Go.Proofs.YtghpfjbjiieemaaW.PrintLast Go.Proofs.YtghpfjbjiieemaaW.PrintMore
set_option linter.unusedVariables false
set_option linter.unusedSimpArgs false
theorem PinBounds : larumlaw21_PinBounds.Pure := fun _ _ _ _ _ => ⟨0, rfl⟩
end Go.Proofs.Ytghpfjbjiieemaa.Pure
