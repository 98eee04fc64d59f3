import Derived.WalkKit
import Derived.Test.YtojbejcilhohaaaDoorWLast
/-! A fact more is held from here on (a cell that a call of the same region gave). -/
namespace Go.Proofs.YtojbejcilhohaaaDoor.Gp
open Go Go.Proofs.YtojbejcilhohaaaDoorW.PrintLast
theorem grow_ {P : Program} {md : Region.Mode} {ops : Array Oper} {Q : Exit → Act → World → Prop} {S S' : World → Prop} (hSS : ∀ w, S' w → S w) : ∀ {fuel : Nat} {l : Array Bool} {a : Act} {w : World}, S' w → (S' w → wpAnyLast P md ops Q S' [] fuel l a w) → wpAnyLast P md ops Q S [] fuel l a w
  | 0, _, _, _, hS, h => h hS
  | fuel + 1, l, a, w, hS, h => by
    have h0 := h hS
    exact ⟨h0.1, fun i hi => wpOp_mono (fun a' w' h' => ⟨fun hn _ => hSS _ (h'.1 hn hS), grow_ hSS (h'.1 (by simp) hS) (fun _ => h'.2)⟩) (h0.2 i hi)⟩
end Go.Proofs.YtojbejcilhohaaaDoor.Gp
