/- Those behind a revision that fit, and up to which one that is, are as the chapter says: for any limit, any changes, any revision, any key. No condition. -/
import Derived.Test.YtfdoeehngkdnnaaPClogNextx3
namespace Go.Proofs.Ytfdoeehngkdnnaa.Pure
open Go Go.RowKit Go.Proofs.Ytfdoeehngkdnnaa.PClogNext Go.Proofs.Ytfdoeehngkdnnaa.Gp Go.Proofs.YtfdoeehngkdnnaaW Go.Proofs.YtfdoeehngkdnnaaW.PrintWords Go.Proofs.YtfdoeehngkdnnaaW.PrintLast Go.Proofs.YtfdoeehngkdnnaaW.PrintMore
set_option linter.unusedVariables false
set_option linter.unusedSimpArgs false
theorem ClogNext : larumlaw20_ClogNext.Pure := fun _ _ _ _ => ⟨0, rfl⟩
end Go.Proofs.Ytfdoeehngkdnnaa.Pure
