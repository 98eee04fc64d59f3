-- By gp.py, a program of this session: the print of the kit with contracts of this session's own beside it.
import Derived.Test.YtojbejcilhohaaaDoorRows
import Derived.Test.YtojbejcilhohaaaDoorTie
import Derived.Test.YtojbejcilhohaaaDoorCards
import Derived.Test.YtojbejcilhohaaaDoorOpU
import Derived.Test.YtojbejcilhohaaaDoorPReplyManyx8
import Derived.Test.YtojbejcilhohaaaDoorPureReplyMany
import Derived.Test.YtojbejcilhohaaaDoorShelf
import Derived.WalkKit
import Derived.ProofKit
import Derived.OpenShut
import Derived.ShutString
import Derived.ChangeOld
import Derived.Below
import Derived.SizedLaws
import Derived.SevenTiedAt
import Derived.LaidMore
import Derived.Lay
import Derived.MakeChecks
import Derived.Stop.Joined
import Derived.Deep.DeepHandedRow
import Derived.Lib.SmallJoins
import Derived.Test.YtojbejcilhohaaaDoorWSized
namespace Go.Proofs.YtojbejcilhohaaaDoor.replyMany
open Go.ChangeShapes Go.WideShapes Go.ChangeAt Go.RowKit
open Go.Joins (open_agg2 open_agg3 open_agg4)
open Go.ChangeMaps (open_string shut_string)
set_option linter.unusedVariables false
set_option linter.unusedSimpArgs false
theorem own : ownKnob Tryd.prog.godebug = none := by kernel_rfl
theorem laidOut : laidOutB Tryd.prog = true := by kernel_rfl
theorem laid_met (os : Os) : laidMet Tryd.prog Rows.replyManyUptoRow.laid ((World.laidAll Tryd.prog os Rows.replyManyUptoRow.laid).forCall (fun _ _ => 0) ⟨#[], #[.slice none 0 0], []⟩).memory := laidMet_laidAll _ (by kernel_rfl) (by kernel_rfl)
theorem reads (os : Os) {H : Type} (enc : TypeId × Value → H) : ∃ places, DataW.whole enc Tryd.prog ((World.laidAll Tryd.prog os Rows.replyManyUptoRow.laid).forCall (fun _ _ => 0) ⟨#[], #[.slice none 0 0], []⟩).memory Tryd.f7.params.toList Rows.replyManySpec.vars false (#[.slice none 0 0] : Array Value).toList 8 = some ([.nil], [], places) := ⟨[], by kernel_rfl⟩
set_option maxRecDepth 100000 in
theorem lifted (os : Os) (started : os.Started) (H : Type) (enc : TypeId × Value → H) (F : Stop.Interp) :
    ReturnsInHanded {} Tryd.checked os 7 .any ((Rows.OpenSpec.upto Rows.replyManySpec).preRow enc Tryd.prog Tryd.f7 Rows.replyManyUptoRow.domain false Rows.replyManyUptoRow.laid) (((Rows.OpenSpec.upto Rows.replyManySpec).at F).post enc Tryd.prog Tryd.f7 false true false false) := by
  obtain ⟨places, hx⟩ := reads os enc
  refine returnsInHanded_of_row (C := Tryd.checked) (s := Rows.OpenSpec.upto Rows.replyManySpec) own started (by kernel_rfl) Tryd.func7
    ⟨World.laidAll Tryd.prog os Rows.replyManyUptoRow.laid, fun _ _ => 0, ⟨#[], #[.slice none 0 0], []⟩, World.laidAll_os _ _ _, World.shaped_of_ZipB (by kernel_rfl) (by kernel_rfl), rfl, (Input.okWide_of_okWideB (by kernel_rfl)).2,
      OpenSpec.preRow_of_cond 8 hx (by kernel_rfl) (fun k hk => by cases hk; kernel_rfl) (by kernel_rfl) (laid_met os), by simp [Assume.holds]⟩ ?_
  intro W base args ds gs before hval0 hW hcnd hcond hsz0 hL hsh _
  have hk : Rows.uptoBulkAll (ds ++ gs) ≤ 1048576 := of_decide_eq_true (hcond _ rfl)
  have hsz : (DataW.weightsEach Tryd.prog (Tryd.f7.params.toList ++ Rows.replyManySpec.plain.varTypes Tryd.prog) (ds ++ gs)).all (· ≤ reachBytes) = true := hsz0
  have hval : ∀ (j : Nat) t v, Tryd.f7.params[j]? = some t → args[j]? = some v → Value.okWide Tryd.prog W .any base t v := hval0
  have hW0 : DataW.Whole enc Tryd.prog Tryd.f7.params.toList Rows.replyManySpec.vars false W args.toList ds gs before := hW
  clear hW
  have hW' := hW0
  obtain ⟨p, q, hA0, hV, rfl, hfz, hnd⟩ := hW0
  have hA : DataW.TrodAll enc Tryd.prog W 0 (fun _ => true) true Tryd.f7.params.toList args.toList ds p := hA0
  rw [Tryd.params7] at hA hval hsz
  obtain ⟨v0, vs0, d0, ds0, p0, q0, hargs, rfl, rfl, h0, r0⟩ := trodAll_cons hA
  obtain ⟨rfl, rfl, rfl⟩ := trodAll_nil r0
  obtain rfl : args = #[v0] := by cases args; simp_all
  obtain ⟨rfl, rfl⟩ := trodVars_none hV
  have k0 := h0
  have lt0 : ∀ x ∈ p0, x.block < W.heap.size := by obtain ⟨m, hm⟩ := k0; exact DataW.trod_lt m _ _ _ hm
  obtain ⟨A0, c0, l0, rfl, hr0, hc0, hm0, hg0⟩ := OpU.open_row Tryd.underlying48 (by kernel_rfl) (open Go.Proofs.YtojbejcilhohaaaDoor.PReplyMany in (OpU.opens_iso (fun x : S24 => (x.f0, x.f1, x.f2)) (fun p => (⟨p.1, p.2.1, p.2.2⟩ : S24)) (fun _ => rfl) (OpU.opens_struct Tryd.underlying24 (by kernel_rfl) (OpU.opensF_cons (by kernel_rfl) (OpU.opens_int Tryd.underlying3) (OpU.opensF_cons (by kernel_rfl) (OpU.opens_slice Tryd.underlying22 (by kernel_rfl) (OpU.opens_iso (fun x : S64 => (x.f0, x.f1)) (fun p => (⟨p.1, p.2⟩ : S64)) (fun _ => rfl) (OpU.opens_struct Tryd.underlying64 (by kernel_rfl) (OpU.opensF_cons (by kernel_rfl) (OpU.opens_str Tryd.underlying9) (OpU.opensF_one (by kernel_rfl) (OpU.opens_str Tryd.underlying9)))))) (OpU.opensF_one (by kernel_rfl) (OpU.opens_str Tryd.underlying9))))))) (hval 0 48 v0 rfl rfl) h0
  simp only [List.cons_append, List.nil_append, List.append_nil, Rows.uptoBulkAll, Rows.uptoBulk, Array.length_toList] at hk
  obtain ⟨hm0, hg0⟩ := (OpU.opens_slice Tryd.underlying48 (by kernel_rfl) (open Go.Proofs.YtojbejcilhohaaaDoor.PReplyMany in (OpU.opens_iso (fun x : S24 => (x.f0, x.f1, x.f2)) (fun p => (⟨p.1, p.2.1, p.2.2⟩ : S24)) (fun _ => rfl) (OpU.opens_struct Tryd.underlying24 (by kernel_rfl) (OpU.opensF_cons (by kernel_rfl) (OpU.opens_int Tryd.underlying3) (OpU.opensF_cons (by kernel_rfl) (OpU.opens_slice Tryd.underlying22 (by kernel_rfl) (OpU.opens_iso (fun x : S64 => (x.f0, x.f1)) (fun p => (⟨p.1, p.2⟩ : S64)) (fun _ => rfl) (OpU.opens_struct Tryd.underlying64 (by kernel_rfl) (OpU.opensF_cons (by kernel_rfl) (OpU.opens_str Tryd.underlying9) (OpU.opensF_one (by kernel_rfl) (OpU.opens_str Tryd.underlying9)))))) (OpU.opensF_one (by kernel_rfl) (OpU.opens_str Tryd.underlying9)))))))).mono (m := 1048576) (by omega) ⟨hm0, hg0⟩
  clear hA0 hval0 hsz0 hsz
  refine (PReplyMany.larumlaw13_ReplyMany.walk Pure.ReplyMany A0 c0 l0 W hr0 hc0 hm0 hg0 ⟨Tryd.laysM219.s1_3 W hsh⟩).mono fun e W' ⟨he, bel⟩ => ?_
  subst he
  exact ⟨_, rfl, _, _, _, [], _, [], hW', trodAll_mk1 (shut_bool Tryd.underlying4 _), (trodAll_cons_mk (Below.trod laidOut (by kernel_rfl) (of_decide_eq_true (by kernel_rfl)) k0 bel lt0) trodAll_mk0), rfl, bel.frame _, fun h => by cases h⟩
theorem over : Rows.replyManyUptoRow.holds Tryd.pinned (Rows.OpenSpec.upto Rows.replyManySpec) :=
  OpenClaim.holds_of_cond 7 Tryd.f7 rfl rfl rfl rfl rfl rfl rfl ⟨rfl, rfl, rfl, rfl, rfl⟩ rfl rfl rfl rfl rfl (by kernel_rfl) Tryd.func7 (by kernel_rfl)
    (of_decide_eq_true (by kernel_rfl)) (by unfold Func.isWrapper; first | (rw [if_pos (by decide +kernel)]; kernel_rfl) | (rw [if_neg (by decide +kernel)]; exact ⟨rfl, rfl⟩))
    (fun os started H enc _ F => by rw [OpenClaim.pre_eq_preRow]; exact lifted os started H enc F)
theorem card_holds : Rows.ReplyManyUptoCardSaid :=
  Claim7.holds_tied_plain_at .later [] _ _ _ _ over (fun _ h => by cases h) (by kernel_rfl) (fun _ h => by cases h) replyManyUpto_row_tie rfl ⟨rfl, rfl⟩ (by kernel_rfl) rfl
    (fun f fn hf hfn => by
      obtain rfl : f = 7 := Option.some.inj ((show Tryd.prog.funcNamed Rows.replyManyUptoRow.func = some 7 by kernel_rfl).symm.trans hf) |>.symm
      obtain rfl : fn = Tryd.f7 := (Option.some.inj (Tryd.func7.symm.trans hfn)).symm
      exact ⟨by kernel_rfl, fun j t ht => by
        rw [Tryd.params7] at ht
        have hm : t ∈ [48] := by simpa using Array.mem_of_getElem? ht
        have hall : ([48].all fun u => !Tryd.prog.wantsStandIn u) = true := by kernel_rfl
        exact (show Tryd.prog.wantsStandIn t = false by simpa using List.all_eq_true.1 hall t hm)⟩)
    (by kernel_rfl)
theorem proved : Rows.ReplyManyUptoCardSaid := card_holds
#print axioms proved
end Go.Proofs.YtojbejcilhohaaaDoor.replyMany
namespace Go.Proofs.YtojbejcilhohaaaDoor
/-- The row, under a short name, for the claim. -/
theorem replyMany_holds : Rows.ReplyManyUptoCardSaid := replyMany.proved
end Go.Proofs.YtojbejcilhohaaaDoor
