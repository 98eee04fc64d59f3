-- By gp.py, a program of this session: the print of the kit with contracts of this session's own beside it.
import Derived.Test.YtojbejcilhohaaaDoorRows
import Derived.Test.YtojbejcilhohaaaDoorTie
import Derived.Test.YtojbejcilhohaaaDoorCards
import Derived.Test.YtojbejcilhohaaaDoorOpU
import Derived.Test.YtojbejcilhohaaaDoorPReplyBackx11
import Derived.Test.YtojbejcilhohaaaDoorPureReplyBack
import Derived.Test.YtojbejcilhohaaaDoorShelf
import Derived.WalkKit
import Derived.ProofKit
import Derived.OpenShut
import Derived.ShutString
import Derived.ChangeOld
import Derived.Below
import Derived.SizedLaws
import Derived.SevenTiedAt
import Derived.LaidMore
import Derived.Lay
import Derived.MakeChecks
import Derived.Stop.Joined
import Derived.Deep.DeepHandedRow
import Derived.Lib.SmallJoins
import Derived.Test.YtojbejcilhohaaaDoorWSized
namespace Go.Proofs.YtojbejcilhohaaaDoor.replyBack
open Go.ChangeShapes Go.WideShapes Go.ChangeAt Go.RowKit
open Go.Joins (open_agg2 open_agg3 open_agg4)
open Go.ChangeMaps (open_string shut_string)
set_option linter.unusedVariables false
set_option linter.unusedSimpArgs false
theorem own : ownKnob Tryd.prog.godebug = none := by kernel_rfl
theorem laidOut : laidOutB Tryd.prog = true := by kernel_rfl
theorem laid_met (os : Os) : laidMet Tryd.prog Rows.replyBackUptoRow.laid ((World.laidAll Tryd.prog os Rows.replyBackUptoRow.laid).forCall (fun _ _ => 0) ⟨#[], #[.agg #[.int .i64 0, .slice none 0 0, .string ByteArray.empty], .string ByteArray.empty, .int .u16 0], []⟩).memory := laidMet_laidAll _ (by kernel_rfl) (by kernel_rfl)
theorem reads (os : Os) {H : Type} (enc : TypeId × Value → H) : ∃ places, DataW.whole enc Tryd.prog ((World.laidAll Tryd.prog os Rows.replyBackUptoRow.laid).forCall (fun _ _ => 0) ⟨#[], #[.agg #[.int .i64 0, .slice none 0 0, .string ByteArray.empty], .string ByteArray.empty, .int .u16 0], []⟩).memory Tryd.f5.params.toList Rows.replyBackSpec.vars false (#[.agg #[.int .i64 0, .slice none 0 0, .string ByteArray.empty], .string ByteArray.empty, .int .u16 0] : Array Value).toList 8 = some ([.agg [.lit (.int .i64 0), .nil, .lit (.string [])], .lit (.string []), .lit (.int .u16 0)], [], places) := ⟨[], by kernel_rfl⟩
set_option maxRecDepth 100000 in
theorem lifted (os : Os) (started : os.Started) (H : Type) (enc : TypeId × Value → H) (F : Stop.Interp) :
    ReturnsInHanded {} Tryd.checked os 5 .any ((Rows.OpenSpec.upto Rows.replyBackSpec).preRow enc Tryd.prog Tryd.f5 Rows.replyBackUptoRow.domain false Rows.replyBackUptoRow.laid) (((Rows.OpenSpec.upto Rows.replyBackSpec).at F).post enc Tryd.prog Tryd.f5 false true false false) := by
  obtain ⟨places, hx⟩ := reads os enc
  refine returnsInHanded_of_row (C := Tryd.checked) (s := Rows.OpenSpec.upto Rows.replyBackSpec) own started (by kernel_rfl) Tryd.func5
    ⟨World.laidAll Tryd.prog os Rows.replyBackUptoRow.laid, fun _ _ => 0, ⟨#[], #[.agg #[.int .i64 0, .slice none 0 0, .string ByteArray.empty], .string ByteArray.empty, .int .u16 0], []⟩, World.laidAll_os _ _ _, World.shaped_of_ZipB (by kernel_rfl) (by kernel_rfl), rfl, (Input.okWide_of_okWideB (by kernel_rfl)).2,
      OpenSpec.preRow_of_cond 8 hx (by kernel_rfl) (fun k hk => by cases hk; kernel_rfl) (by kernel_rfl) (laid_met os), by simp [Assume.holds]⟩ ?_
  intro W base args ds gs before hval0 hW hcnd hcond hsz0 hL hsh _
  have hk : Rows.uptoBulkAll (ds ++ gs) ≤ 1048576 := of_decide_eq_true (hcond _ rfl)
  have hsz : (DataW.weightsEach Tryd.prog (Tryd.f5.params.toList ++ Rows.replyBackSpec.plain.varTypes Tryd.prog) (ds ++ gs)).all (· ≤ reachBytes) = true := hsz0
  have hval : ∀ (j : Nat) t v, Tryd.f5.params[j]? = some t → args[j]? = some v → Value.okWide Tryd.prog W .any base t v := hval0
  have hW0 : DataW.Whole enc Tryd.prog Tryd.f5.params.toList Rows.replyBackSpec.vars false W args.toList ds gs before := hW
  clear hW
  have hW' := hW0
  obtain ⟨p, q, hA0, hV, rfl, hfz, hnd⟩ := hW0
  have hA : DataW.TrodAll enc Tryd.prog W 0 (fun _ => true) true Tryd.f5.params.toList args.toList ds p := hA0
  rw [Tryd.params5] at hA hval hsz
  obtain ⟨v0, vs0, d0, ds0, p0, q0, hargs, rfl, rfl, h0, r0⟩ := trodAll_cons hA
  obtain ⟨v1, vs1, d1, ds1, p1, q1, rfl, rfl, rfl, h1, r1⟩ := trodAll_cons r0
  obtain ⟨v2, vs2, d2, ds2, p2, q2, rfl, rfl, rfl, h2, r2⟩ := trodAll_cons r1
  obtain ⟨rfl, rfl, rfl⟩ := trodAll_nil r2
  obtain rfl : args = #[v0, v1, v2] := by cases args; simp_all
  obtain ⟨rfl, rfl⟩ := trodVars_none hV
  have k0 := h0
  have lt0 : ∀ x ∈ p0, x.block < W.heap.size := by obtain ⟨m, hm⟩ := k0; exact DataW.trod_lt m _ _ _ hm
  obtain ⟨u0_0, u0_1, u0_2, y0_0, y0_1, y0_2, n0, rfl, rfl, rfl, g0_0, g0_1, g0_2⟩ := open_agg3 Tryd.underlying24 (by kernel_rfl) (by kernel_rfl) (hval 0 24 v0 rfl rfl) h0
  obtain ⟨a0_0, e0_0, rfl, w0_0⟩ := DataW.trod_int Tryd.underlying3 g0_0
  obtain rfl : u0_0 = _ := List.cons.inj e0_0 |>.1
  obtain ⟨A0_1, c0_1, l0_1, e0_1, hr0_1, hc0_1, hm0_1, hg0_1⟩ := OpU.open_part Tryd.underlying22 (by kernel_rfl) (open Go.Proofs.YtojbejcilhohaaaDoor.PReplyBack in (OpU.opens_iso (fun x : S64 => (x.f0, x.f1)) (fun p => (⟨p.1, p.2⟩ : S64)) (fun _ => rfl) (OpU.opens_struct Tryd.underlying64 (by kernel_rfl) (OpU.opensF_cons (by kernel_rfl) (OpU.opens_str Tryd.underlying9) (OpU.opensF_one (by kernel_rfl) (OpU.opens_str Tryd.underlying9)))))) g0_1
  obtain rfl : u0_1 = _ := List.cons.inj e0_1 |>.1
  obtain ⟨a0_2, e0_2, rfl, w0_2⟩ := DataW.trod_string Tryd.underlying9 g0_2
  obtain rfl : u0_2 = _ := List.cons.inj e0_2 |>.1
  obtain ⟨a1, rfl, rfl, rfl, y1⟩ := open_string Tryd.underlying9 (hval 1 9 v1 rfl rfl) h1
  obtain ⟨a2, rfl, rfl, rfl, w2⟩ := open_int Tryd.underlying40 (hval 2 40 v2 rfl rfl) h2
  simp only [List.cons_append, List.nil_append, List.append_nil, Rows.uptoBulkAll, Rows.uptoBulk, Array.length_toList] at hk
  obtain ⟨hm0_1, hg0_1⟩ := (OpU.opens_slice Tryd.underlying22 (by kernel_rfl) (open Go.Proofs.YtojbejcilhohaaaDoor.PReplyBack in (OpU.opens_iso (fun x : S64 => (x.f0, x.f1)) (fun p => (⟨p.1, p.2⟩ : S64)) (fun _ => rfl) (OpU.opens_struct Tryd.underlying64 (by kernel_rfl) (OpU.opensF_cons (by kernel_rfl) (OpU.opens_str Tryd.underlying9) (OpU.opensF_one (by kernel_rfl) (OpU.opens_str Tryd.underlying9))))))).mono (m := 1048576) (by omega) ⟨hm0_1, hg0_1⟩
  have w0_2 : a0_2.size ≤ 1048576 := by have e : a0_2.data.size = a0_2.size := rfl; omega
  have w1 : a1.size ≤ 1048576 := by have e : a1.data.size = a1.size := rfl; omega
  clear hA0 hval0 hsz0 hsz
  refine (PReplyBack.larumlaw13_ReplyBack.walk Pure.ReplyBack a0_0 A0_1 c0_1 l0_1 a0_2 a1 a2 W w0_0 hr0_1 hc0_1 hm0_1 hg0_1 w0_2 w1 w2 ⟨Tryd.laysM219.s1_3 W hsh⟩).mono fun e W' ⟨he, bel⟩ => ?_
  subst he
  exact ⟨_, rfl, _, _, _, [], _, [], hW', trodAll_mk1 (shut_bool Tryd.underlying4 _), (trodAll_cons_mk (Below.trod laidOut (by kernel_rfl) (of_decide_eq_true (by kernel_rfl)) k0 bel lt0) (trodAll_cons_mk (shut_string Tryd.underlying9 y1) (trodAll_cons_mk (shut_int Tryd.underlying40 w2) trodAll_mk0))), rfl, bel.frame _, fun h => by cases h⟩
theorem over : Rows.replyBackUptoRow.holds Tryd.pinned (Rows.OpenSpec.upto Rows.replyBackSpec) :=
  OpenClaim.holds_of_cond 5 Tryd.f5 rfl rfl rfl rfl rfl rfl rfl ⟨rfl, rfl, rfl, rfl, rfl⟩ rfl rfl rfl rfl rfl (by kernel_rfl) Tryd.func5 (by kernel_rfl)
    (of_decide_eq_true (by kernel_rfl)) (by unfold Func.isWrapper; first | (rw [if_pos (by decide +kernel)]; kernel_rfl) | (rw [if_neg (by decide +kernel)]; exact ⟨rfl, rfl⟩))
    (fun os started H enc _ F => by rw [OpenClaim.pre_eq_preRow]; exact lifted os started H enc F)
theorem card_holds : Rows.ReplyBackUptoCardSaid :=
  Claim7.holds_tied_plain_at .later [] _ _ _ _ over (fun _ h => by cases h) (by kernel_rfl) (fun _ h => by cases h) replyBackUpto_row_tie rfl ⟨rfl, rfl⟩ (by kernel_rfl) rfl
    (fun f fn hf hfn => by
      obtain rfl : f = 5 := Option.some.inj ((show Tryd.prog.funcNamed Rows.replyBackUptoRow.func = some 5 by kernel_rfl).symm.trans hf) |>.symm
      obtain rfl : fn = Tryd.f5 := (Option.some.inj (Tryd.func5.symm.trans hfn)).symm
      exact ⟨by kernel_rfl, fun j t ht => by
        rw [Tryd.params5] at ht
        have hm : t ∈ [24, 9, 40] := by simpa using Array.mem_of_getElem? ht
        have hall : ([24, 9, 40].all fun u => !Tryd.prog.wantsStandIn u) = true := by kernel_rfl
        exact (show Tryd.prog.wantsStandIn t = false by simpa using List.all_eq_true.1 hall t hm)⟩)
    (by kernel_rfl)
theorem proved : Rows.ReplyBackUptoCardSaid := card_holds
#print axioms proved
end Go.Proofs.YtojbejcilhohaaaDoor.replyBack
namespace Go.Proofs.YtojbejcilhohaaaDoor
/-- The row, under a short name, for the claim. -/
theorem replyBack_holds : Rows.ReplyBackUptoCardSaid := replyBack.proved
end Go.Proofs.YtojbejcilhohaaaDoor
