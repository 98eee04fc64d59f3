import Derived.WalkKit
import Derived.Test.YtdkdefbaekcahaaWWords
/-! Small laws of this session's own, for the walks that gp.py writes. -/
namespace Go.Proofs.Ytdkdefbaekcahaa.Gp
open Go Go.RowKit
set_option linter.unusedSimpArgs false
theorem gp_ne (l : List UInt8) : (l != []) = !l.isEmpty := by cases l <;> rfl
theorem gp_bl (a : List UInt8) : ∀ b, (Op.bytesLess a b || a == b) = !(Op.bytesLess b a) := by
  induction a with
  | nil => intro b; cases b <;> simp [Op.bytesLess]
  | cons x a ih =>
    intro b
    cases b with
    | nil => simp [Op.bytesLess]
    | cons y b =>
      have h := ih b
      simp only [Op.bytesLess]
      by_cases h1 : x < y
      · have h2 : ¬ y < x := by rw [UInt8.lt_iff_toNat_lt] at *; omega
        have h4 : ¬ y = x := by rintro rfl; exact absurd h1 (by rw [UInt8.lt_iff_toNat_lt]; omega)
        simp [h1, h2, h4]
      · by_cases h2 : y < x
        · have h3 : ¬ x = y := by rintro rfl; exact absurd h2 (by rw [UInt8.lt_iff_toNat_lt]; omega)
          simp [h1, h2, h3]
        · have h3 : x = y := by
            apply UInt8.toNat_inj.mp
            rw [UInt8.lt_iff_toNat_lt] at *; omega
          subst h3
          simp only [h1, decide_false, Bool.false_or, BEq.rfl, Bool.true_and]
          simpa using h
theorem gp_gtr (t : TypeId) (a b : ByteArray) : binOp .gtr t (.string a) (.string b) = pure (.bool (Op.bytesLess b.toList a.toList)) := by
  have h : binOp .gtr t (.string a) (.string b) = pure (.bool !(Op.bytesLess a.toList b.toList || a.toList == b.toList)) := by simp [binOp, Op.stringOp]
  rw [h, gp_bl, Bool.not_not]
theorem gp_leq (t : TypeId) (a b : ByteArray) : binOp .leq t (.string a) (.string b) = pure (.bool !(Op.bytesLess b.toList a.toList)) := by
  have h : binOp .leq t (.string a) (.string b) = pure (.bool (Op.bytesLess a.toList b.toList || a.toList == b.toList)) := by simp [binOp, Op.stringOp]
  rw [h, gp_bl]
theorem gp_geq (t : TypeId) (a b : ByteArray) : binOp .geq t (.string a) (.string b) = pure (.bool !(Op.bytesLess a.toList b.toList)) := by simp [binOp, Op.stringOp]
end Go.Proofs.Ytdkdefbaekcahaa.Gp
