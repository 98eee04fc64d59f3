/- Pins that are not there hold nothing: for any numbers. No condition. -/
import Derived.Test.YtghpfjbjiieemaaPPinNilx1
namespace Go.Proofs.Ytghpfjbjiieemaa.Pure
open Go Go.RowKit Go.Proofs.Ytghpfjbjiieemaa.PPinNil Go.Proofs.Ytghpfjbjiieemaa.Gp Go.Proofs.YtghpfjbjiieemaaW Go.Proofs.YtghpfjbjiieemaaW.PrintWords Go.Proofs.YtghpfjbjiieemaaW.PrintLast Go.Proofs.YtghpfjbjiieemaaW.PrintMore
set_option linter.unusedVariables false
set_option linter.unusedSimpArgs false
theorem PinNil : larumlaw21_PinNil.Pure := fun _ _ _ _ => ⟨0, rfl⟩
end Go.Proofs.Ytghpfjbjiieemaa.Pure
