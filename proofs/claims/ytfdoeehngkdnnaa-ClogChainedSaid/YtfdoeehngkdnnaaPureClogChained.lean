/- What is told from a revision on, and then from where that ended on, is together what is told later from the revision on, as long as it is not gone: for any changes, later ones, any revision, any key. No condition. -/
import Derived.Test.YtfdoeehngkdnnaaPClogChainedx1
namespace Go.Proofs.Ytfdoeehngkdnnaa.Pure
open Go Go.RowKit Go.Proofs.Ytfdoeehngkdnnaa.PClogChained Go.Proofs.Ytfdoeehngkdnnaa.Gp Go.Proofs.YtfdoeehngkdnnaaW Go.Proofs.YtfdoeehngkdnnaaW.PrintWords Go.Proofs.YtfdoeehngkdnnaaW.PrintLast Go.Proofs.YtfdoeehngkdnnaaW.PrintMore
set_option linter.unusedVariables false
set_option linter.unusedSimpArgs false
theorem ClogChained : larumlaw20_ClogChained.Pure := fun _ _ _ _ => ⟨0, rfl⟩
end Go.Proofs.Ytfdoeehngkdnnaa.Pure
