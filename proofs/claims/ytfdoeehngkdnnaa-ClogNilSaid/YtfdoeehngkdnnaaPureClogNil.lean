/- A log that is not there tells nothing: for any revision. No condition. -/
import Derived.Test.YtfdoeehngkdnnaaPClogNilx1
namespace Go.Proofs.Ytfdoeehngkdnnaa.Pure
open Go Go.RowKit Go.Proofs.Ytfdoeehngkdnnaa.PClogNil Go.Proofs.Ytfdoeehngkdnnaa.Gp Go.Proofs.YtfdoeehngkdnnaaW Go.Proofs.YtfdoeehngkdnnaaW.PrintWords Go.Proofs.YtfdoeehngkdnnaaW.PrintLast Go.Proofs.YtfdoeehngkdnnaaW.PrintMore
set_option linter.unusedVariables false
set_option linter.unusedSimpArgs false
theorem ClogNil : larumlaw20_ClogNil.Pure := fun _ _ => ⟨0, rfl⟩
end Go.Proofs.Ytfdoeehngkdnnaa.Pure
