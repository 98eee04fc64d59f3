/- Whether a byte is a digit, a letter, visible, a blank, a token's, is as the chapter says: for any byte. No condition. -/
import Derived.Test.YtahhanmoonjgbaaDoorPCharsArex2
namespace Go.Proofs.YtahhanmoonjgbaaDoor.Pure
open Go Go.RowKit Go.Proofs.YtahhanmoonjgbaaDoor.PCharsAre Go.Proofs.YtahhanmoonjgbaaDoor.Gp Go.Proofs.YtahhanmoonjgbaaDoorW Go.Proofs.YtahhanmoonjgbaaDoorW.PrintWords Go.Proofs.YtahhanmoonjgbaaDoorW.PrintLast Go.Proofs.YtahhanmoonjgbaaDoorW.PrintMore
set_option linter.unusedVariables false
set_option linter.unusedSimpArgs false
theorem all256 : ∀ c : Fin 256, larumlaw01_CharsAre.f 100 (c.val : Int) = some true := by decide +kernel
theorem CharsAre : larumlaw01_CharsAre.Pure := by
  intro c hc
  have h : 0 ≤ c ∧ c ≤ 255 := by simpa [Lit.wf, IntKind.min, IntKind.max, IntKind.bits, IntKind.signed] using hc
  refine ⟨100, ?_⟩
  have := all256 ⟨c.toNat, by omega⟩
  rw [show ((⟨c.toNat, by omega⟩ : Fin 256).val : Int) = c from by show ((c.toNat : Nat) : Int) = c; omega] at this
  exact this
end Go.Proofs.YtahhanmoonjgbaaDoor.Pure
