/- Two halves are a rune as the chapter says, and all of four bytes are such: for any two numbers and any rune. No condition. -/
import Derived.Test.YtdeggcnccciapaaPUtfPairsx4
namespace Go.Proofs.Ytdeggcnccciapaa.Pure
open Go.RowKit Go.Proofs.Ytdeggcnccciapaa.PUtfPairs Go.Proofs.YtdeggcnccciapaaW.PrintWords Go.Proofs.YtdeggcnccciapaaW.PrintLast

theorem awake10 : larumlaw02_awake.f 10 = some true := by decide +kernel
theorem i32_bd {a : Int} (h : (Lit.int .i32 a).wf = true) : -2147483648 ≤ a ∧ a ≤ 2147483647 := by
  simpa [Lit.wf, IntKind.min, IntKind.max, IntKind.bits, IntKind.signed] using h
theorem pair_in (a0 a1 : Int) (h0 : 55296 ≤ a0) (h1 : a0 < 56320) (h2 : 56320 ≤ a1) (h3 : a1 < 57344) : utf_Pair.f a0 a1 = some (65536 + 1024 * (a0 - 55296) + a1 - 56320, true) := by
  unfold utf_Pair.f
  rw [if_neg (by omega), if_neg (by omega), if_neg (by omega), if_neg (by omega)]
  congr 2
  unfold wrap32
  omega
theorem pair_out (a0 a1 : Int) (h : ¬ (55296 ≤ a0 ∧ a0 < 56320 ∧ 56320 ≤ a1 ∧ a1 < 57344)) : utf_Pair.f a0 a1 = some (0, false) := by
  unfold utf_Pair.f
  by_cases c0 : a0 < 55296
  · rw [if_pos c0]
  by_cases c1 : a0 ≥ 56320
  · rw [if_neg c0, if_pos c1]
  by_cases c2 : a1 < 56320
  · rw [if_neg c0, if_neg c1, if_pos c2]
  by_cases c3 : a1 ≥ 57344
  · rw [if_neg c0, if_neg c1, if_neg c2, if_pos c3]
  exact absurd (by omega) h
/-- All of four bytes are two halves. -/
theorem pair_back (r : Int) (h0 : 65536 ≤ r) (h1 : r ≤ 1114111) : utf_Pair.f (wrap32 (55296 + (wrap32 (Int.tdiv (wrap32 (r - 65536)) 1024)))) (wrap32 (56320 + (Int.tmod (wrap32 (r - 65536)) 1024))) = some (r, true) := by
  have e0 : wrap32 (r - 65536) = r - 65536 := by unfold wrap32; omega
  rw [e0, Int.tdiv_eq_ediv_of_nonneg (by omega), Int.tmod_eq_emod_of_nonneg (by omega)]
  have e1 : wrap32 ((r - 65536) / 1024) = (r - 65536) / 1024 := by unfold wrap32; omega
  have e2 : wrap32 (55296 + (r - 65536) / 1024) = 55296 + (r - 65536) / 1024 := by unfold wrap32; omega
  have e3 : wrap32 (56320 + (r - 65536) % 1024) = 56320 + (r - 65536) % 1024 := by unfold wrap32; omega
  rw [e1, e2, e3, pair_in _ _ (by omega) (by omega) (by omega) (by omega)]
  congr 2
  omega

theorem UtfPairs : larumlaw02_UtfPairs.Pure := by
  intro a0 a1 a2 w0 w1 w2
  obtain ⟨b0, b0'⟩ := i32_bd w0
  obtain ⟨b1, b1'⟩ := i32_bd w1
  obtain ⟨b2, b2'⟩ := i32_bd w2
  refine ⟨10, ?_⟩
  unfold larumlaw02_UtfPairs.f
  simp only [awake10, Option.bind_some]
  by_cases hp : 55296 ≤ a0 ∧ a0 < 56320 ∧ 56320 ≤ a1 ∧ a1 < 57344
  · obtain ⟨h0, h1, h2, h3⟩ := hp
    rw [pair_in a0 a1 h0 h1 h2 h3]
    simp only [Option.bind_some]
    rw [if_pos (by omega), if_pos (by omega), if_pos (by omega), if_neg (by simp; omega)]
    rw [if_pos trivial, if_pos (by unfold wrap64; omega)]
    by_cases c0 : a2 < 65536
    · rw [if_pos c0]
    · rw [if_neg c0]
      by_cases c1 : a2 > 1114111
      · rw [if_pos c1]
      · rw [if_neg c1, pair_back a2 (by omega) (by omega)]
        simp
  · rw [pair_out a0 a1 hp]
    simp only [Option.bind_some]
    have hrest : (if a2 < 65536 then some true else if a2 > 1114111 then some true else (utf_Pair.f (wrap32 (55296 + (wrap32 (Int.tdiv (wrap32 (a2 - 65536)) 1024)))) (wrap32 (56320 + (Int.tmod (wrap32 (a2 - 65536)) 1024)))).bind fun bt => if bt.2 = true then (if bt.1 = a2 then some true else some false) else some false) = some true := by
      by_cases c0 : a2 < 65536
      · rw [if_pos c0]
      · rw [if_neg c0]
        by_cases c1 : a2 > 1114111
        · rw [if_pos c1]
        · rw [if_neg c1, pair_back a2 (by omega) (by omega)]
          simp
    by_cases g0 : a0 ≥ 55296
    · rw [if_pos g0]
      by_cases g1 : a1 ≥ 56320
      · rw [if_pos g1]
        by_cases g2 : a0 ≤ 56319
        · rw [if_pos g2]
          have g3 : ¬ a1 ≤ 57343 := fun g3 => hp (by omega)
          rw [decide_eq_false g3, if_neg (show ¬ ((false != false) = true) by decide), if_neg (show ¬ (false = true) by decide), if_pos trivial]
          first | exact hrest | (split <;> exact hrest)
        · rw [if_neg g2, if_neg (show ¬ ((false != false) = true) by decide), if_neg (show ¬ (false = true) by decide), if_pos trivial]
          first | exact hrest | (split <;> exact hrest)
      · rw [if_neg g1, if_neg (show ¬ ((false != false) = true) by decide), if_neg (show ¬ (false = true) by decide), if_pos trivial]
        first | exact hrest | (split <;> exact hrest)
    · rw [if_neg g0, if_neg (show ¬ ((false != false) = true) by decide), if_neg (show ¬ (false = true) by decide), if_pos trivial]
      first | exact hrest | (split <;> exact hrest)
end Go.Proofs.Ytdeggcnccciapaa.Pure
