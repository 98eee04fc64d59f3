/- Whatever is added, a log holds, and tells behind any revision, what the chapter says: for any limit, any changes, any revision. No condition. -/
import Derived.Test.YtfdoeehngkdnnaaPClogPlaysx3
namespace Go.Proofs.Ytfdoeehngkdnnaa.Pure
open Go Go.RowKit Go.Proofs.Ytfdoeehngkdnnaa.PClogPlays Go.Proofs.Ytfdoeehngkdnnaa.Gp Go.Proofs.YtfdoeehngkdnnaaW Go.Proofs.YtfdoeehngkdnnaaW.PrintWords Go.Proofs.YtfdoeehngkdnnaaW.PrintLast Go.Proofs.YtfdoeehngkdnnaaW.PrintMore
set_option linter.unusedVariables false
set_option linter.unusedSimpArgs false
theorem ClogPlays : larumlaw20_ClogPlays.Pure := fun _ _ _ _ _ _ _ => ⟨0, rfl⟩
end Go.Proofs.Ytfdoeehngkdnnaa.Pure
