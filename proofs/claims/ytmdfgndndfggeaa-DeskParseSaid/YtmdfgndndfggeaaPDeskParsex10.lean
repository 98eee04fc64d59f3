-- By gp.py, a program of this session: the print of the kit with contracts of this session's own beside it.
import Derived.Test.YtmdfgndndfggeaaPDeskParsex0
import Derived.Test.YtmdfgndndfggeaaPDeskParsex8
import Derived.Test.YtmdfgndndfggeaaPDeskParsex9
namespace Go.Proofs.Ytmdfgndndfggeaa.PDeskParse
open Go.RowKit Go.Proofs.Ytmdfgndndfggeaa.Gp Go.Proofs.YtmdfgndndfggeaaW.PrintWords Go.Proofs.YtmdfgndndfggeaaW.PrintLast Go.Proofs.YtmdfgndndfggeaaW.PrintMore
attribute [local go_sem] max2_int min2_int max_two min_two max_three min_three max_four min_four gp_gtr gp_leq gp_geq   -- for this text's walks alone
set_option linter.unusedVariables false
set_option linter.unusedSimpArgs false

/-! ### larumref33_Parse: function 17 -/
mutual
def larumref33_Parse.l0 : Nat → ByteArray → List ByteArray → List ByteArray → Int → Int → Int → Int → ByteArray → Int → Option (Int × Int × ByteArray × Int × Bool)
  | 0, _, _, _, _, _, _, _, _, _ => none
  | k + 1, x0, x4, x19, x20, x21, x190000, x190001, x190002, x190003 => if x21 < x20 then (if 0 ≤ x21 then (if x21 < (x19.length : Int) then (if x21 > 0 then (if 0 < (x4.length : Int) then (if (rdOf ByteArray.empty x19 x21).toList = (rdOf ByteArray.empty x4 0).toList then (larumref33_Parse.l0 k x0 x4 x19 x20 (wrap64 (x21 + 1)) x21 x190001 x190002 x190003) else (larumref33_Parse.l0 k x0 x4 x19 x20 (wrap64 (x21 + 1)) x190000 x190001 x190002 x190003)) else (none)) else (larumref33_Parse.l0 k x0 x4 x19 x20 (wrap64 (x21 + 1)) x190000 x190001 x190002 x190003)) else (none)) else (none)) else (if x190000 = 0 then (some (0, 0, (⟨#[]⟩ : ByteArray), 0, false)) else (if 0 < (x4.length : Int) then ((larumref33_signs.f).bind fun t196 => (if 0 ≤ x190000 then (if x190000 < (t196.length : Int) then (larumref33_Parse.l1 k x0 x4 ((rdOf ByteArray.empty x4 0).size : Int) (rdOf ByteArray.empty t196 x190000) 0 x190000 x190001 x190002 x190003) else (none)) else (none))) else (none)))
def larumref33_Parse.l1 : Nat → ByteArray → List ByteArray → Int → ByteArray → Int → Int → Int → ByteArray → Int → Option (Int × Int × ByteArray × Int × Bool)
  | 0, _, _, _, _, _, _, _, _, _ => none
  | k + 1, x0, x4, x8, x9, x10, x190000, x190001, x190002, x190003 => if x10 < (x9.size : Int) then (if x8 ≥ (x0.size : Int) then (some (0, 0, (⟨#[]⟩ : ByteArray), 0, false)) else (if 0 ≤ x10 then (if (bt x9 x10) = 116 then (if 0 ≤ (wrap64 (x8 + 1)) then (if (wrap64 (x8 + 1)) ≤ (x0.size : Int) then ((larumref33_Read.f k (x0.extract ((wrap64 (x8 + 1)) : Int).toNat x0.size)).bind fun bt200 => (if bt200.2.2 = true then (larumref33_Parse.l1 k x0 x4 (wrap64 ((wrap64 (x8 + 1)) + bt200.2.1)) x9 (wrap64 (x10 + 1)) x190000 x190001 bt200.1 x190003) else (some (0, 0, (⟨#[]⟩ : ByteArray), 0, false)))) else (none)) else (none)) else (if (wrap64 (x10 + 1)) ≥ (x4.length : Int) then (some (0, 0, (⟨#[]⟩ : ByteArray), 0, false)) else (if 0 ≤ (wrap64 (x10 + 1)) then (if (wrap64 (x10 + 1)) < (x4.length : Int) then ((larumref33_number.f k (rdOf ByteArray.empty x4 (wrap64 (x10 + 1)))).bind fun bt204 => (if bt204.2 = true then (if (bt x9 x10) = 99 then (larumref33_Parse.l1 k x0 x4 (wrap64 ((wrap64 (x8 + 1)) + ((rdOf ByteArray.empty x4 (wrap64 (x10 + 1))).size : Int))) x9 (wrap64 (x10 + 1)) x190000 bt204.1 x190002 x190003) else (larumref33_Parse.l1 k x0 x4 (wrap64 ((wrap64 (x8 + 1)) + ((rdOf ByteArray.empty x4 (wrap64 (x10 + 1))).size : Int))) x9 (wrap64 (x10 + 1)) x190000 x190001 x190002 bt204.1)) else (some (0, 0, (⟨#[]⟩ : ByteArray), 0, false)))) else (none)) else (none)))) else (none))) else (if x8 = (x0.size : Int) then (some (x190000, x190001, x190002, x190003, true)) else (some (0, 0, (⟨#[]⟩ : ByteArray), 0, false)))
end
def larumref33_Parse.f (k : Nat) (a0 : ByteArray) : Option (Int × Int × ByteArray × Int × Bool) := (larumref01_Cut.f k a0 32).bind fun t186 => ((larumref33_words.f).bind fun t190 => (larumref33_Parse.l0 k a0 t186 t190 (t190.length : Int) 0 0 0 (⟨#[]⟩ : ByteArray) 0))
theorem larumref33_Parse.mono_l : ∀ k, (∀ y0 y1 y2 y3 y4 y5 y6 y7 y8, LeO (larumref33_Parse.l0 k y0 y1 y2 y3 y4 y5 y6 y7 y8) (larumref33_Parse.l0 (k + 1) y0 y1 y2 y3 y4 y5 y6 y7 y8)) ∧ (∀ y0 y1 y2 y3 y4 y5 y6 y7 y8, LeO (larumref33_Parse.l1 k y0 y1 y2 y3 y4 y5 y6 y7 y8) (larumref33_Parse.l1 (k + 1) y0 y1 y2 y3 y4 y5 y6 y7 y8))
  | 0 => ⟨fun _ _ _ _ _ _ _ _ _ r h => by simp [larumref33_Parse.l0] at h, fun _ _ _ _ _ _ _ _ _ r h => by simp [larumref33_Parse.l1] at h⟩
  | k + 1 => by
    obtain ⟨ih0, ih1⟩ := larumref33_Parse.mono_l k
    refine ⟨?_, ?_⟩
    · intro y0 y1 y2 y3 y4 y5 y6 y7 y8
      unfold larumref33_Parse.l0
      repeat' first
      | (with_reducible exact ih0 _ _ _ _ _ _ _ _ _)
      | (with_reducible exact ih1 _ _ _ _ _ _ _ _ _)
      | (with_reducible exact larumref01_Cut.mono _ _ _)
      | (with_reducible exact larumref33_Read.mono _ _)
      | (with_reducible exact larumref33_number.mono _ _)
      | (with_reducible exact LeO.refl _)
      | (with_reducible exact LeO.none _)
      | (with_reducible refine LeO.ite ?_ ?_)
      | (with_reducible refine LeO.bind ?_ (fun _ => ?_))
      | exact ih0 _ _ _ _ _ _ _ _ _
      | exact ih1 _ _ _ _ _ _ _ _ _
      | exact larumref01_Cut.mono _ _ _
      | exact larumref33_Read.mono _ _
      | exact larumref33_number.mono _ _
      | exact LeO.none _
      | refine LeO.ite ?_ ?_
      | refine LeO.bind ?_ (fun _ => ?_)
    · intro y0 y1 y2 y3 y4 y5 y6 y7 y8
      unfold larumref33_Parse.l1
      repeat' first
      | (with_reducible exact ih0 _ _ _ _ _ _ _ _ _)
      | (with_reducible exact ih1 _ _ _ _ _ _ _ _ _)
      | (with_reducible exact larumref01_Cut.mono _ _ _)
      | (with_reducible exact larumref33_Read.mono _ _)
      | (with_reducible exact larumref33_number.mono _ _)
      | (with_reducible exact LeO.refl _)
      | (with_reducible exact LeO.none _)
      | (with_reducible refine LeO.ite ?_ ?_)
      | (with_reducible refine LeO.bind ?_ (fun _ => ?_))
      | exact ih0 _ _ _ _ _ _ _ _ _
      | exact ih1 _ _ _ _ _ _ _ _ _
      | exact larumref01_Cut.mono _ _ _
      | exact larumref33_Read.mono _ _
      | exact larumref33_number.mono _ _
      | exact LeO.none _
      | refine LeO.ite ?_ ?_
      | refine LeO.bind ?_ (fun _ => ?_)
theorem larumref33_Parse.mono : ∀ a0 k, LeO (larumref33_Parse.f k a0) (larumref33_Parse.f (k + 1) a0) := by
  intro a0 k
  obtain ⟨ih0, ih1⟩ := larumref33_Parse.mono_l k
  unfold larumref33_Parse.f
  repeat' first
      | (with_reducible exact ih0 _ _ _ _ _ _ _ _ _)
      | (with_reducible exact ih1 _ _ _ _ _ _ _ _ _)
      | (with_reducible exact larumref01_Cut.mono _ _ _)
      | (with_reducible exact larumref33_Read.mono _ _)
      | (with_reducible exact larumref33_number.mono _ _)
      | (with_reducible exact LeO.refl _)
      | (with_reducible exact LeO.none _)
      | (with_reducible refine LeO.ite ?_ ?_)
      | (with_reducible refine LeO.bind ?_ (fun _ => ?_))
      | exact ih0 _ _ _ _ _ _ _ _ _
      | exact ih1 _ _ _ _ _ _ _ _ _
      | exact larumref01_Cut.mono _ _ _
      | exact larumref33_Read.mono _ _
      | exact larumref33_number.mono _ _
      | exact LeO.none _
      | refine LeO.ite ?_ ?_
      | refine LeO.bind ?_ (fun _ => ?_)
set_option maxHeartbeats 8000000 in
set_option maxRecDepth 100000 in
theorem larumref33_Parse.calls (k : Nat) (a0 : ByteArray) (r1 : Int) (r2 : Int) (r3 : ByteArray) (r4 : Int) (r5 : Bool) (w : World) (h : larumref33_Parse.f k a0 = some (r1, r2, r3, r4, r5)) :
    Calls Try.prog 17 #[.string a0] w fun e w' => e = .returned (.tuple #[.agg #[.int .i64 r1, .int .i64 r2, .string r3, .int .i64 r4], .bool r5]) ∧ Below w.heap.size w w' := by
  have hu29 := Try.underlying29
  have HB := Aside0.mk (Below.refl w.heap.size w)
  have H : ((larumref01_Cut.f k a0 32).bind fun t186 => ((larumref33_words.f).bind fun t190 => (larumref33_Parse.l0 k a0 t186 t190 (t190.length : Int) 0 0 0 (⟨#[]⟩ : ByteArray) 0))) = some (r1, r2, r3, r4, r5) := h
  clear h
  replace H := Option.bind_eq_some_iff.mp H
  obtain ⟨t186, A20, H⟩ := H
  replace H : ((larumref33_words.f).bind fun t190 => (larumref33_Parse.l0 k a0 t186 t190 (t190.length : Int) 0 0 0 (⟨#[]⟩ : ByteArray) 0)) = some (r1, r2, r3, r4, r5) := H
  have A2 := Aside0.mk A20
  clear A20
  replace H := Option.bind_eq_some_iff.mp H
  obtain ⟨t190, A30, H⟩ := H
  replace H : (larumref33_Parse.l0 k a0 t186 t190 (t190.length : Int) 0 0 0 (⟨#[]⟩ : ByteArray) 0) = some (r1, r2, r3, r4, r5) := H
  have A3 := Aside0.mk A30
  clear A30
  have H' := Aside0.mk H
  clear H
  go_enter Try.func17, Try.ntmps17
  go_wp2_with (first | ((with_reducible refine gate_dst (N := 2) rfl ?_); refine box_event ?hg (N := 2) ?hd (cs := #[.int .i64 0, .int .i64 0, .string (⟨#[]⟩ : ByteArray), .int .i64 0]) (t := 29) ?hr ?_; (case hd => rfl); (case hg => rfl); (case hr => first | (go_simp; done) | (go_simp; rfl)); intro gb185 hg w4 hbox hb; have n0_ := Aside0.mk (below_step (by repeat (first | (with_reducible first | exact HB.out | apply below_alloc | apply pw_below_drewN | apply below_drew1) | exact HB.out)) hb); have n1_ := Aside0.mk (hbox); have n2_ := Aside0.mk ((by rw [hg]; exact (below_size (by repeat (first | (with_reducible first | exact HB.out | apply below_alloc | apply pw_below_drewN | apply below_drew1) | exact HB.out))) : w.heap.size ≤ gb185)); have n3_ := Aside0.mk ((by rw [hg]; exact (below_size (by repeat (first | (with_reducible first | exact HB.out | apply below_alloc | apply pw_below_drewN | apply below_drew1) | exact HB.out))) : w.heap.size ≤ gb185)); clear HB; have HB := n0_; have BK185 := n1_; have GW185 := n2_; have GE185 := n3_; clear n0_ n1_ n2_ n3_; clear hb hbox hg) | ((with_reducible refine gate_callee (f := 34) rfl ?_); refine goesL_ (some 17) rfl rfl Try.func34 (by kernel_rfl) rfl #[.string a0, .int .u8 32] rfl (by (try simp only [List.map_toArray, List.map_cons, List.map_nil]); first | done | rfl | (simp only [List.length_drop, List.length_take]; rfl)) ?_; (with_reducible refine (larumref01_Cut.calls k a0 32 t186 _ A2.out).mono ?_); rintro e w5 ⟨v187, rfl, ho0, hb⟩; refine ⟨_, rfl, ?_⟩; have n0_ := Aside0.mk (Kd.R_lower ho0 (below_size (by repeat (first | (with_reducible first | exact HB.out | apply below_alloc | apply pw_below_drewN | apply below_drew1 | refine below_set ?_ GE185.out) | exact HB.out)))); have n1_ := Aside0.mk (blk_below (g := gb185) (o := .cells #[.int .i64 0, .int .i64 0, .string (⟨#[]⟩ : ByteArray), .int .i64 0] 29 (0, 0)) (by (with_reducible repeat (first | refine blk_drewN ?_ _ | refine blk_drew ?_ | refine blk_alloc ?_ _)); exact BK185.out) hb); have n2_ := Aside0.mk (below_step (by repeat (first | (with_reducible first | exact HB.out | apply below_alloc | apply pw_below_drewN | apply below_drew1 | refine below_set ?_ GE185.out) | exact HB.out)) hb); clear BK185; clear HB; have HO188 := n0_; have BK185 := n1_; have HB := n2_; clear n0_ n1_ n2_; (try clear hb); (try clear hb2); (try clear hk); (try clear hi); (try clear ho0)) | ((with_reducible refine gate_dst (N := 5) rfl ?_); refine box_event ?hg (N := 5) ?hd (cs := #[.int .i64 0, .int .i64 0, .string (⟨#[]⟩ : ByteArray), .int .i64 0]) (t := 29) ?hr ?_; (case hd => rfl); (case hg => rfl); (case hr => first | (go_simp; done) | (go_simp; rfl)); intro gb189 hg w6 hbox hb; have n0_ := Aside0.mk (Kd.R_below (by (with_reducible repeat (first | apply Kd.R_alloc | apply Kd.R_drewN | apply Kd.R_drew)); exact HO188.out) hb); have n1_ := Aside0.mk (blk_below (g := gb185) (o := .cells #[.int .i64 0, .int .i64 0, .string (⟨#[]⟩ : ByteArray), .int .i64 0] 29 (0, 0)) (by (with_reducible repeat (first | refine blk_drewN ?_ _ | refine blk_drew ?_ | refine blk_alloc ?_ _)); exact BK185.out) hb); have n2_ := Aside0.mk (below_step (by repeat (first | (with_reducible first | exact HB.out | apply below_alloc | apply pw_below_drewN | apply below_drew1 | refine below_set ?_ GE185.out) | exact HB.out)) hb); have n3_ := Aside0.mk (hbox); have n4_ := Aside0.mk ((by rw [hg]; exact (below_size (by repeat (first | (with_reducible first | exact HB.out | apply below_alloc | apply pw_below_drewN | apply below_drew1 | refine below_set ?_ GE185.out) | exact HB.out))) : w.heap.size ≤ gb189)); have n5_ := Aside0.mk ((by rw [hg]; exact (below_size (by repeat (first | (with_reducible first | exact HB.out | apply below_alloc | apply pw_below_drewN | apply below_drew1 | refine below_set ?_ GE185.out) | exact HB.out))) : w.heap.size ≤ gb189)); have n6_ := Aside0.mk ((by rw [hg]; exact Nat.ne_of_lt (blk_lt (g := gb185) (o := .cells #[.int .i64 0, .int .i64 0, .string (⟨#[]⟩ : ByteArray), .int .i64 0] 29 (0, 0)) (by (with_reducible repeat (first | refine blk_drewN ?_ _ | refine blk_drew ?_ | refine blk_alloc ?_ _)); exact BK185.out)) : gb185 ≠ gb189)); have n7_ := Aside0.mk ((by rw [hg]; exact Nat.ne_of_gt (blk_lt (g := gb185) (o := .cells #[.int .i64 0, .int .i64 0, .string (⟨#[]⟩ : ByteArray), .int .i64 0] 29 (0, 0)) (by (with_reducible repeat (first | refine blk_drewN ?_ _ | refine blk_drew ?_ | refine blk_alloc ?_ _)); exact BK185.out)) : gb189 ≠ gb185)); clear HO188; clear BK185; clear HB; have HO188 := n0_; have BK185 := n1_; have HB := n2_; have BK189 := n3_; have GW189 := n4_; have GE189 := n5_; have NB185_189 := n6_; have NB189_185 := n7_; clear n0_ n1_ n2_ n3_ n4_ n5_ n6_ n7_; clear hb hbox hg; have hnb7 := NB189_185.out; have hnc7 := NB185_189.out; have hcz8_0 : w6.cell? ⟨gb189, 0, none⟩ = some (.int .i64 0) := (blk_cell BK189.out 0).trans rfl; have hcz8_1 : w6.cell? ⟨gb189, 1, none⟩ = some (.int .i64 0) := (blk_cell BK189.out 1).trans rfl; have hcz8_2 : w6.cell? ⟨gb189, 2, none⟩ = some (.string (⟨#[]⟩ : ByteArray)) := (blk_cell BK189.out 2).trans rfl; have hcz8_3 : w6.cell? ⟨gb189, 3, none⟩ = some (.int .i64 0) := (blk_cell BK189.out 3).trans rfl; have hfz8_0 := blk_frozen BK189.out 0; have hfz8_1 := blk_frozen BK189.out 1; have hfz8_2 := blk_frozen BK189.out 2; have hfz8_3 := blk_frozen BK189.out 3) | ((with_reducible refine gate_callee (f := 32) rfl ?_); refine goesL_ (some 19) rfl rfl Try.func32 (by kernel_rfl) rfl #[] rfl (by (try simp only [List.map_toArray, List.map_cons, List.map_nil]); first | done | rfl | (simp only [List.length_drop, List.length_take]; rfl)) ?_; (with_reducible refine (larumref33_words.calls  t190 _ A3.out).mono ?_); rintro e w9 ⟨v191, rfl, ho0, hb⟩; refine ⟨_, rfl, ?_⟩; have n0_ := Aside0.mk (Kd.R_elder' (by (with_reducible repeat (first | apply Kd.R_alloc | apply Kd.R_drewN | apply Kd.R_drew)); exact (Kd.R_mono (Kd.R_far (p := ⟨gb189, 3, none⟩) (Kd.R_far (p := ⟨gb189, 2, none⟩) (Kd.R_far (p := ⟨gb189, 1, none⟩) (Kd.R_far (p := ⟨gb189, 0, none⟩) (Kd.R_types HO188.out BK189.out (by decide)) (fun _ hk => hk.2) (.int .i64 0)) (fun _ hk => hk.2) (.int .i64 0)) (fun _ hk => hk.2) (.string (⟨#[]⟩ : ByteArray))) (fun _ hk => hk.2) (.int .i64 0)) (fun _ h_ => h_.1))) (Kd.R_base ho0) hb); have n1_ := Aside0.mk (Kd.R_lower (Kd.R_new' ho0 (Kd.R_lt (by (with_reducible repeat (first | apply Kd.R_alloc | apply Kd.R_drewN | apply Kd.R_drew)); exact (Kd.R_mono (Kd.R_far (p := ⟨gb189, 3, none⟩) (Kd.R_far (p := ⟨gb189, 2, none⟩) (Kd.R_far (p := ⟨gb189, 1, none⟩) (Kd.R_far (p := ⟨gb189, 0, none⟩) (Kd.R_types HO188.out BK189.out (by decide)) (fun _ hk => hk.2) (.int .i64 0)) (fun _ hk => hk.2) (.int .i64 0)) (fun _ hk => hk.2) (.string (⟨#[]⟩ : ByteArray))) (fun _ hk => hk.2) (.int .i64 0)) (fun _ h_ => h_.1))))) (below_size (by repeat (first | (with_reducible first | exact HB.out | apply below_alloc | apply pw_below_drewN | apply below_drew1 | refine below_set ?_ GE185.out | refine below_set ?_ GE189.out) | exact HB.out)))); have n2_ := Aside0.mk (blk_below (g := gb185) (o := .cells #[.int .i64 0, .int .i64 0, .string (⟨#[]⟩ : ByteArray), .int .i64 0] 29 (0, 0)) (by (with_reducible repeat (first | refine blk_drewN ?_ _ | refine blk_drew ?_ | refine blk_alloc ?_ _)); refine blk_far ?_ NB185_189.out _; (with_reducible repeat (first | refine blk_drewN ?_ _ | refine blk_drew ?_ | refine blk_alloc ?_ _)); refine blk_far ?_ NB185_189.out _; (with_reducible repeat (first | refine blk_drewN ?_ _ | refine blk_drew ?_ | refine blk_alloc ?_ _)); refine blk_far ?_ NB185_189.out _; (with_reducible repeat (first | refine blk_drewN ?_ _ | refine blk_drew ?_ | refine blk_alloc ?_ _)); refine blk_far ?_ NB185_189.out _; (with_reducible repeat (first | refine blk_drewN ?_ _ | refine blk_drew ?_ | refine blk_alloc ?_ _)); exact BK185.out) hb); have n3_ := Aside0.mk (blk_below (g := gb189) (o := .cells #[.int .i64 0, .int .i64 0, .string (⟨#[]⟩ : ByteArray), .int .i64 0] 29 (0, 0)) (by (with_reducible repeat (first | refine blk_drewN ?_ _ | refine blk_drew ?_ | refine blk_alloc ?_ _)); refine blk_put (cs := #[.int .i64 0, .int .i64 0, .string (⟨#[]⟩ : ByteArray), .int .i64 0]) ?_ 3 _ rfl; (with_reducible repeat (first | refine blk_drewN ?_ _ | refine blk_drew ?_ | refine blk_alloc ?_ _)); refine blk_put (cs := #[.int .i64 0, .int .i64 0, .string (⟨#[]⟩ : ByteArray), .int .i64 0]) ?_ 2 _ rfl; (with_reducible repeat (first | refine blk_drewN ?_ _ | refine blk_drew ?_ | refine blk_alloc ?_ _)); refine blk_put (cs := #[.int .i64 0, .int .i64 0, .string (⟨#[]⟩ : ByteArray), .int .i64 0]) ?_ 1 _ rfl; (with_reducible repeat (first | refine blk_drewN ?_ _ | refine blk_drew ?_ | refine blk_alloc ?_ _)); refine blk_put (cs := #[.int .i64 0, .int .i64 0, .string (⟨#[]⟩ : ByteArray), .int .i64 0]) ?_ 0 _ rfl; (with_reducible repeat (first | refine blk_drewN ?_ _ | refine blk_drew ?_ | refine blk_alloc ?_ _)); exact BK189.out) hb); have n4_ := Aside0.mk (below_step (by repeat (first | (with_reducible first | exact HB.out | apply below_alloc | apply pw_below_drewN | apply below_drew1 | refine below_set ?_ GE185.out | refine below_set ?_ GE189.out) | exact HB.out)) hb); clear HO188; clear BK185; clear BK189; clear HB; have HO188 := n0_; have HO192 := n1_; have BK185 := n2_; have BK189 := n3_; have HB := n4_; clear n0_ n1_ n2_ n3_ n4_; (try clear hb); (try clear hb2); (try clear hk); (try clear hi); (try clear ho0); obtain ⟨Ao10, co10, eo10⟩ := Kd.R_slice HO192.out; subst eo10))
  go_loopg [21] k (fun kq v21 w' => ∃ (x21_1 : Int) (x190000_1 : Int), v21 = .int .i64 x21_1 ∧ Aside0 (larumref33_Parse.l0 kq a0 t186 t190 (t190.length : Int) x21_1 x190000_1 0 (⟨#[]⟩ : ByteArray) 0 = some (r1, r2, r3, r4, r5)) ∧ Aside0 (kq ≤ k) ∧ Aside0 (Kd.R Kd.string 9 w' w.heap.size (fun k_ => some k_ ≠ ((.slice Ao10 t190.length co10) : Value).ownBlock) v187 t186) ∧ Aside0 (Kd.R Kd.string 9 w' w.heap.size (fun k_ => some k_ ≠ (v187 : Value).ownBlock) (.slice Ao10 t190.length co10) t190) ∧ Aside0 (w'.heap[gb185]? = some (.cells #[.int .i64 0, .int .i64 0, .string (⟨#[]⟩ : ByteArray), .int .i64 0] 29 (0, 0))) ∧ Aside0 (w'.heap[gb189]? = some (.cells #[.int .i64 x190000_1, .int .i64 0, .string (⟨#[]⟩ : ByteArray), .int .i64 0] 29 (0, 0))) ∧ Aside0 (Below w.heap.size w w'))
  case atStart => exact ⟨(0), (0), (by first | rfl | (simp; done) | (simp [*]; done) | (simp only [i64_w, i32_w]; done) | (simp [i64_w, i32_w, *]; done) | (simp [gp_ne]; done) | (simp [gp_ne, i64_w, i32_w, *]; done) | (simp [i64_w, i32_w]; (try unfold wrap64); (try unfold wrap32); omega)), H', ⟨Nat.le_refl _⟩, ⟨by (with_reducible repeat (first | apply Kd.R_alloc | apply Kd.R_drewN | apply Kd.R_drew)); exact Kd.R_mono HO188.out (fun _ hk => hk.2)⟩, ⟨by (with_reducible repeat (first | apply Kd.R_alloc | apply Kd.R_drewN | apply Kd.R_drew)); exact Kd.R_mono HO192.out (fun _ hk => hk.2)⟩, ⟨by (with_reducible repeat (first | refine blk_drewN ?_ _ | refine blk_drew ?_ | refine blk_alloc ?_ _)); exact BK185.out⟩, ⟨by (with_reducible repeat (first | refine blk_drewN ?_ _ | refine blk_drew ?_ | refine blk_alloc ?_ _)); exact BK189.out⟩, ⟨by repeat (first | (with_reducible first | exact HB.out | apply below_alloc | apply pw_below_drewN | apply below_drew1 | refine below_set ?_ GE185.out | refine below_set ?_ GE189.out) | exact HB.out)⟩⟩
  case round =>
    clear H'
    try clear c1
    try clear p2
    try clear c3
    try clear c7
    try clear hcz8_0
    try clear hcz8_1
    try clear hcz8_2
    try clear hcz8_3
    try clear hfz8_0
    try clear hfz8_1
    try clear hfz8_2
    try clear hfz8_3
    obtain ⟨x21_1, x190000_1, rfl, HA, HK1, HO_4, HO_19, BK185, BK189, HB⟩ := hrel
    cases gk with
    | zero => exact absurd HA.out (by simp [larumref33_Parse.l0])
    | succ k1 =>
      have H := HA.out
      clear HA
      simp only [larumref33_Parse.l0] at H
      by_cases c11 : x21_1 < (t190.length : Int)
      · rw [if_pos c11] at H
        have c11b0 : decide (x21_1 < (t190.length : Int)) = true := decide_eq_true c11
        clear c11
        by_cases c12 : 0 ≤ x21_1
        · rw [if_pos c12] at H
          have c12b0 : decide (0 ≤ x21_1) = true := decide_eq_true c12
          clear c12
          by_cases c13 : x21_1 < (t190.length : Int)
          · rw [if_pos c13] at H
            have c13b0 : decide (x21_1 < (t190.length : Int)) = true := decide_eq_true c13
            clear c13
            by_cases c14 : x21_1 > 0
            · rw [if_pos c14] at H
              have c14b0 : decide (0 < x21_1) = true := decide_eq_true c14
              clear c14
              by_cases c15 : 0 < (t186.length : Int)
              · rw [if_pos c15] at H
                have c15b0 : decide (0 < (t186.length : Int)) = true := decide_eq_true c15
                have c15b1 : decide (0 < t186.length) = true := decide_eq_true (by omega)
                clear c15
                by_cases c16 : (rdOf ByteArray.empty t190 x21_1).toList = (rdOf ByteArray.empty t186 0).toList
                · rw [if_pos c16] at H
                  have c16b0 : ((rdOf ByteArray.empty t190 x21_1).toList == (rdOf ByteArray.empty t186 0).toList) = true := beq_iff_eq.mpr c16
                  have c16b1 : ((rdOf ByteArray.empty t190 x21_1).toList != (rdOf ByteArray.empty t186 0).toList) = false := bne_eq_false_iff_eq.mpr c16
                  clear c16
                  have H' := Aside0.mk H
                  clear H
                  have p193 : 0 ≤ (x21_1 : Int) := of_decide_eq_true (by first | (with_reducible assumption) | assumption)
                  have q193 : x21_1 < (t190.length : Int) := of_decide_eq_true (by first | (with_reducible assumption) | assumption)
                  obtain ⟨ad193, e193, hx193_0⟩ := Kd.at_string (Kd.R_reads' HO_19.out).2.2 x21_1 p193 q193
                  cases e193
                  replace p193 := eq_true p193
                  replace q193 := eq_true q193
                  obtain ⟨Ao17, co17, eo17⟩ := Kd.R_slice HO_4.out
                  subst eo17
                  have p194 : 0 ≤ (0 : Int) := (by omega)
                  have q194 : 0 < (t186.length : Int) := of_decide_eq_true (by first | (with_reducible assumption) | assumption)
                  obtain ⟨ad194, e194, hx194_0⟩ := Kd.at_string (Kd.R_reads' HO_4.out).2.2 0 p194 q194
                  cases e194
                  have qi194 : (0 < t186.length) = True := eq_true (by omega)
                  (try rw [show ((0 : Int)).toNat = 0 from rfl] at hx194_0)
                  (try rw [Addr.add_zero'] at hx194_0)
                  replace p194 := eq_true p194
                  replace q194 := eq_true q194
                  have hnb18 := NB189_185.out
                  have hnc18 := NB185_189.out
                  have hcz19_0 : wr.cell? ⟨gb189, 0, none⟩ = some (.int .i64 x190000_1) := (blk_cell BK189.out 0).trans rfl
                  have hcz19_1 : wr.cell? ⟨gb189, 1, none⟩ = some (.int .i64 0) := (blk_cell BK189.out 1).trans rfl
                  have hcz19_2 : wr.cell? ⟨gb189, 2, none⟩ = some (.string (⟨#[]⟩ : ByteArray)) := (blk_cell BK189.out 2).trans rfl
                  have hcz19_3 : wr.cell? ⟨gb189, 3, none⟩ = some (.int .i64 0) := (blk_cell BK189.out 3).trans rfl
                  have hfz19_0 := blk_frozen BK189.out 0
                  have hfz19_1 := blk_frozen BK189.out 1
                  have hfz19_2 := blk_frozen BK189.out 2
                  have hfz19_3 := blk_frozen BK189.out 3
                  go_wp2
                  go_roundg k1
                  case measure => have := HK1.out; omega
                  case rel => exact ⟨(wrap64 (x21_1 + 1)), (x21_1), (by first | rfl | (simp; done) | (simp [*]; done) | (simp only [i64_w, i32_w]; done) | (simp [i64_w, i32_w, *]; done) | (simp [gp_ne]; done) | (simp [gp_ne, i64_w, i32_w, *]; done) | (simp [i64_w, i32_w]; (try unfold wrap64); (try unfold wrap32); omega)), H', ⟨by have := HK1.out; omega⟩, ⟨by (with_reducible repeat (first | apply Kd.R_alloc | apply Kd.R_drewN | apply Kd.R_drew)); exact Kd.R_mono (Kd.R_far (p := ⟨gb189, 0, none⟩) (Kd.R_types HO_4.out BK189.out (by decide)) (fun _ hk => hk.2) (.int .i64 x21_1)) (fun _ hk => hk.1)⟩, ⟨by (with_reducible repeat (first | apply Kd.R_alloc | apply Kd.R_drewN | apply Kd.R_drew)); exact Kd.R_mono (Kd.R_far (p := ⟨gb189, 0, none⟩) (Kd.R_types HO_19.out BK189.out (by decide)) (fun _ hk => hk.2) (.int .i64 x21_1)) (fun _ hk => hk.1)⟩, ⟨by (with_reducible repeat (first | refine blk_drewN ?_ _ | refine blk_drew ?_ | refine blk_alloc ?_ _)); refine blk_far ?_ NB185_189.out _; (with_reducible repeat (first | refine blk_drewN ?_ _ | refine blk_drew ?_ | refine blk_alloc ?_ _)); exact BK185.out⟩, ⟨by (with_reducible repeat (first | refine blk_drewN ?_ _ | refine blk_drew ?_ | refine blk_alloc ?_ _)); refine blk_put (cs := #[.int .i64 x190000_1, .int .i64 0, .string (⟨#[]⟩ : ByteArray), .int .i64 0]) ?_ 0 _ rfl; (with_reducible repeat (first | refine blk_drewN ?_ _ | refine blk_drew ?_ | refine blk_alloc ?_ _)); exact BK189.out⟩, ⟨by repeat (first | (with_reducible first | exact HB.out | apply below_alloc | apply pw_below_drewN | apply below_drew1 | refine below_set ?_ GE185.out | refine below_set ?_ GE189.out) | exact HB.out)⟩⟩
                · rw [if_neg c16] at H
                  have c16b0 : ((rdOf ByteArray.empty t190 x21_1).toList == (rdOf ByteArray.empty t186 0).toList) = false := beq_eq_false_iff_ne.mpr c16
                  have c16b1 : ((rdOf ByteArray.empty t190 x21_1).toList != (rdOf ByteArray.empty t186 0).toList) = true := bne_iff_ne.mpr c16
                  have H' := Aside0.mk H
                  clear H
                  have p193 : 0 ≤ (x21_1 : Int) := of_decide_eq_true (by first | (with_reducible assumption) | assumption)
                  have q193 : x21_1 < (t190.length : Int) := of_decide_eq_true (by first | (with_reducible assumption) | assumption)
                  obtain ⟨ad193, e193, hx193_0⟩ := Kd.at_string (Kd.R_reads' HO_19.out).2.2 x21_1 p193 q193
                  cases e193
                  replace p193 := eq_true p193
                  replace q193 := eq_true q193
                  obtain ⟨Ao20, co20, eo20⟩ := Kd.R_slice HO_4.out
                  subst eo20
                  have p194 : 0 ≤ (0 : Int) := (by omega)
                  have q194 : 0 < (t186.length : Int) := of_decide_eq_true (by first | (with_reducible assumption) | assumption)
                  obtain ⟨ad194, e194, hx194_0⟩ := Kd.at_string (Kd.R_reads' HO_4.out).2.2 0 p194 q194
                  cases e194
                  have qi194 : (0 < t186.length) = True := eq_true (by omega)
                  (try rw [show ((0 : Int)).toNat = 0 from rfl] at hx194_0)
                  (try rw [Addr.add_zero'] at hx194_0)
                  replace p194 := eq_true p194
                  replace q194 := eq_true q194
                  go_wp2
                  go_roundg k1
                  case measure => have := HK1.out; omega
                  case rel => exact ⟨(wrap64 (x21_1 + 1)), (x190000_1), (by first | rfl | (simp; done) | (simp [*]; done) | (simp only [i64_w, i32_w]; done) | (simp [i64_w, i32_w, *]; done) | (simp [gp_ne]; done) | (simp [gp_ne, i64_w, i32_w, *]; done) | (simp [i64_w, i32_w]; (try unfold wrap64); (try unfold wrap32); omega)), H', ⟨by have := HK1.out; omega⟩, ⟨by (with_reducible repeat (first | apply Kd.R_alloc | apply Kd.R_drewN | apply Kd.R_drew)); exact HO_4.out⟩, ⟨by (with_reducible repeat (first | apply Kd.R_alloc | apply Kd.R_drewN | apply Kd.R_drew)); exact HO_19.out⟩, ⟨by (with_reducible repeat (first | refine blk_drewN ?_ _ | refine blk_drew ?_ | refine blk_alloc ?_ _)); exact BK185.out⟩, ⟨by (with_reducible repeat (first | refine blk_drewN ?_ _ | refine blk_drew ?_ | refine blk_alloc ?_ _)); exact BK189.out⟩, ⟨by repeat (first | (with_reducible first | exact HB.out | apply below_alloc | apply pw_below_drewN | apply below_drew1 | refine below_set ?_ GE185.out | refine below_set ?_ GE189.out) | exact HB.out)⟩⟩
              · rw [if_neg c15] at H
                exact absurd H (by simp)
            · rw [if_neg c14] at H
              have c14b0 : decide (0 < x21_1) = false := decide_eq_false c14
              clear c14
              have H' := Aside0.mk H
              clear H
              have p193 : 0 ≤ (x21_1 : Int) := of_decide_eq_true (by first | (with_reducible assumption) | assumption)
              have q193 : x21_1 < (t190.length : Int) := of_decide_eq_true (by first | (with_reducible assumption) | assumption)
              obtain ⟨ad193, e193, hx193_0⟩ := Kd.at_string (Kd.R_reads' HO_19.out).2.2 x21_1 p193 q193
              cases e193
              replace p193 := eq_true p193
              replace q193 := eq_true q193
              go_wp2
              go_roundg k1
              case measure => have := HK1.out; omega
              case rel => exact ⟨(wrap64 (x21_1 + 1)), (x190000_1), (by first | rfl | (simp; done) | (simp [*]; done) | (simp only [i64_w, i32_w]; done) | (simp [i64_w, i32_w, *]; done) | (simp [gp_ne]; done) | (simp [gp_ne, i64_w, i32_w, *]; done) | (simp [i64_w, i32_w]; (try unfold wrap64); (try unfold wrap32); omega)), H', ⟨by have := HK1.out; omega⟩, ⟨by (with_reducible repeat (first | apply Kd.R_alloc | apply Kd.R_drewN | apply Kd.R_drew)); exact HO_4.out⟩, ⟨by (with_reducible repeat (first | apply Kd.R_alloc | apply Kd.R_drewN | apply Kd.R_drew)); exact HO_19.out⟩, ⟨by (with_reducible repeat (first | refine blk_drewN ?_ _ | refine blk_drew ?_ | refine blk_alloc ?_ _)); exact BK185.out⟩, ⟨by (with_reducible repeat (first | refine blk_drewN ?_ _ | refine blk_drew ?_ | refine blk_alloc ?_ _)); exact BK189.out⟩, ⟨by repeat (first | (with_reducible first | exact HB.out | apply below_alloc | apply pw_below_drewN | apply below_drew1 | refine below_set ?_ GE185.out | refine below_set ?_ GE189.out) | exact HB.out)⟩⟩
          · rw [if_neg c13] at H
            exact absurd H (by simp)
        · rw [if_neg c12] at H
          exact absurd H (by simp)
      · rw [if_neg c11] at H
        have c11b0 : decide (x21_1 < (t190.length : Int)) = false := decide_eq_false c11
        clear c11
        by_cases c21 : x190000_1 = 0
        · rw [if_pos c21] at H
          have c21b0 : (x190000_1 == 0) = true := beq_iff_eq.mpr c21
          have c21b1 : (x190000_1 != 0) = false := bne_eq_false_iff_eq.mpr c21
          clear c21
          simp only [Option.some.injEq, Prod.mk.injEq] at H
          obtain ⟨rfl, rfl, rfl, rfl, rfl⟩ := H
          have hnb22 := NB189_185.out
          have hnc22 := NB185_189.out
          have hcz23_0 : wr.cell? ⟨gb189, 0, none⟩ = some (.int .i64 x190000_1) := (blk_cell BK189.out 0).trans rfl
          have hcz23_1 : wr.cell? ⟨gb189, 1, none⟩ = some (.int .i64 0) := (blk_cell BK189.out 1).trans rfl
          have hcz23_2 : wr.cell? ⟨gb189, 2, none⟩ = some (.string (⟨#[]⟩ : ByteArray)) := (blk_cell BK189.out 2).trans rfl
          have hcz23_3 : wr.cell? ⟨gb189, 3, none⟩ = some (.int .i64 0) := (blk_cell BK189.out 3).trans rfl
          have hfz23_0 := blk_frozen BK189.out 0
          have hfz23_1 := blk_frozen BK189.out 1
          have hfz23_2 := blk_frozen BK189.out 2
          have hfz23_3 := blk_frozen BK189.out 3
          have hcz24_0 : wr.cell? ⟨gb185, 0, none⟩ = some (.int .i64 0) := (blk_cell BK185.out 0).trans rfl
          have hcz24_1 : wr.cell? ⟨gb185, 1, none⟩ = some (.int .i64 0) := (blk_cell BK185.out 1).trans rfl
          have hcz24_2 : wr.cell? ⟨gb185, 2, none⟩ = some (.string (⟨#[]⟩ : ByteArray)) := (blk_cell BK185.out 2).trans rfl
          have hcz24_3 : wr.cell? ⟨gb185, 3, none⟩ = some (.int .i64 0) := (blk_cell BK185.out 3).trans rfl
          have hfz24_0 := blk_frozen BK185.out 0
          have hfz24_1 := blk_frozen BK185.out 1
          have hfz24_2 := blk_frozen BK185.out 2
          have hfz24_3 := blk_frozen BK185.out 3
          go_wp2
          refine bodyPost_ret (results_ct rfl _ _ gb185 29 #[.int .i64 0, .int .i64 0, .string (⟨#[]⟩ : ByteArray), .int .i64 0] (0, 0) _ rfl (by (with_reducible repeat (first | refine blk_drewN ?_ _ | refine blk_drew ?_ | refine blk_alloc ?_ _)); refine blk_put (cs := #[.int .i64 0, .int .i64 0, .string (⟨#[]⟩ : ByteArray), .int .i64 0]) ?_ 3 _ rfl; (with_reducible repeat (first | refine blk_drewN ?_ _ | refine blk_drew ?_ | refine blk_alloc ?_ _)); refine blk_put (cs := #[.int .i64 0, .int .i64 0, .string (⟨#[]⟩ : ByteArray), .int .i64 0]) ?_ 2 _ rfl; (with_reducible repeat (first | refine blk_drewN ?_ _ | refine blk_drew ?_ | refine blk_alloc ?_ _)); refine blk_put (cs := #[.int .i64 0, .int .i64 0, .string (⟨#[]⟩ : ByteArray), .int .i64 0]) ?_ 1 _ rfl; (with_reducible repeat (first | refine blk_drewN ?_ _ | refine blk_drew ?_ | refine blk_alloc ?_ _)); refine blk_put (cs := #[.int .i64 0, .int .i64 0, .string (⟨#[]⟩ : ByteArray), .int .i64 0]) ?_ 0 _ rfl; (with_reducible repeat (first | refine blk_drewN ?_ _ | refine blk_drew ?_ | refine blk_alloc ?_ _)); exact BK185.out) Try.underlying29 rfl (by kernel_rfl)) rfl ?_
          exact ⟨by first | rfl | (simp [errW_none, errW_some] <;> rfl) | (simp [*, errW_none, errW_some] <;> rfl) | (simp [gp_ne]; done) | (simp [gp_ne, i64_w, i32_w, *]; done) | (simp [i64_w, i32_w]; (try unfold wrap64); (try unfold wrap32); omega), by repeat (first | (with_reducible first | exact HB.out | apply below_alloc | apply pw_below_drewN | apply below_drew1 | refine below_set ?_ GE185.out | refine below_set ?_ GE189.out) | exact HB.out)⟩
        · rw [if_neg c21] at H
          have c21b0 : (x190000_1 == 0) = false := beq_eq_false_iff_ne.mpr c21
          have c21b1 : (x190000_1 != 0) = true := bne_iff_ne.mpr c21
          by_cases c25 : 0 < (t186.length : Int)
          · rw [if_pos c25] at H
            have c25b0 : decide (0 < (t186.length : Int)) = true := decide_eq_true c25
            have c25b1 : decide (0 < t186.length) = true := decide_eq_true (by omega)
            clear c25
            replace H := Option.bind_eq_some_iff.mp H
            obtain ⟨t196, A260, H⟩ := H
            replace H : (if 0 ≤ x190000_1 then (if x190000_1 < (t196.length : Int) then (larumref33_Parse.l1 k1 a0 t186 ((rdOf ByteArray.empty t186 0).size : Int) (rdOf ByteArray.empty t196 x190000_1) 0 x190000_1 0 (⟨#[]⟩ : ByteArray) 0) else (none)) else (none)) = some (r1, r2, r3, r4, r5) := H
            have A26 := Aside0.mk A260
            clear A260
            by_cases c27 : 0 ≤ x190000_1
            · rw [if_pos c27] at H
              have c27b0 : decide (0 ≤ x190000_1) = true := decide_eq_true c27
              clear c27
              by_cases c28 : x190000_1 < (t196.length : Int)
              · rw [if_pos c28] at H
                have c28b0 : decide (x190000_1 < (t196.length : Int)) = true := decide_eq_true c28
                clear c28
                have H' := Aside0.mk H
                clear H
                have hnb29 := NB189_185.out
                have hnc29 := NB185_189.out
                have hcz30_0 : wr.cell? ⟨gb189, 0, none⟩ = some (.int .i64 x190000_1) := (blk_cell BK189.out 0).trans rfl
                have hcz30_1 : wr.cell? ⟨gb189, 1, none⟩ = some (.int .i64 0) := (blk_cell BK189.out 1).trans rfl
                have hcz30_2 : wr.cell? ⟨gb189, 2, none⟩ = some (.string (⟨#[]⟩ : ByteArray)) := (blk_cell BK189.out 2).trans rfl
                have hcz30_3 : wr.cell? ⟨gb189, 3, none⟩ = some (.int .i64 0) := (blk_cell BK189.out 3).trans rfl
                have hfz30_0 := blk_frozen BK189.out 0
                have hfz30_1 := blk_frozen BK189.out 1
                have hfz30_2 := blk_frozen BK189.out 2
                have hfz30_3 := blk_frozen BK189.out 3
                obtain ⟨Ao31, co31, eo31⟩ := Kd.R_slice HO_4.out
                subst eo31
                have p195 : 0 ≤ (0 : Int) := (by omega)
                have q195 : 0 < (t186.length : Int) := of_decide_eq_true (by first | (with_reducible assumption) | assumption)
                obtain ⟨ad195, e195, hx195_0⟩ := Kd.at_string (Kd.R_reads' HO_4.out).2.2 0 p195 q195
                cases e195
                have qi195 : (0 < t186.length) = True := eq_true (by omega)
                (try rw [show ((0 : Int)).toNat = 0 from rfl] at hx195_0)
                (try rw [Addr.add_zero'] at hx195_0)
                replace p195 := eq_true p195
                replace q195 := eq_true q195
                try go_wp2
                have n0_ := Aside0.mk (Kd.R_drew HO_4.out)
                have n1_ := Aside0.mk (Kd.R_drew HO_19.out)
                have n2_ := Aside0.mk (blk_drew BK185.out)
                have n3_ := Aside0.mk (blk_drew BK189.out)
                have n4_ := Aside0.mk (below_drew1 HB.out)
                clear HO_4
                clear HO_19
                clear BK185
                clear BK189
                clear HB
                have HO_4 := n0_
                have HO_19 := n1_
                have BK185 := n2_
                have BK189 := n3_
                have HB := n4_
                clear n0_ n1_ n2_ n3_ n4_
                refine start_ (n := 6) (S := fun w' => w'.cell? ⟨gb189, 0, none⟩ = some (.int .i64 x190000_1) ∧ w'.cell? ⟨gb189, 1, none⟩ = some (.int .i64 0) ∧ w'.cell? ⟨gb189, 2, none⟩ = some (.string (⟨#[]⟩ : ByteArray)) ∧ w'.cell? ⟨gb189, 3, none⟩ = some (.int .i64 0) ∧ True) (ds := []) #[false, false, false, false, false, false] (by kernel_rfl) rfl rfl ⟨(blk_cell BK189.out 0).trans rfl, (blk_cell BK189.out 1).trans rfl, (blk_cell BK189.out 2).trans rfl, (blk_cell BK189.out 3).trans rfl, trivial⟩ (fun hHeld => ?_)
                generalize wr.drew = w32 at HO_4 HO_19 BK185 BK189 HB hHeld ⊢
                refine pure_ (i := 1) (N := some 47) (v := ?_) (a' := ?_) #[false, true, false, false, false, false] rfl rfl (by kernel_rfl) (fun _ _ _ h => h) (Or.inl ⟨by rfl, ?_⟩) ?_ ?_
                rotate_left
                · intro w'
                  go_simp
                  with_reducible rfl
                rotate_left
                · simp only [Act.put, List.setIfInBounds_toArray, List.set_cons_zero, List.set_cons_succ, i64_w, i32_w]
                  rfl
                refine take_ (i := 2) (N := some 48) (v := ?_) (a' := ?_) #[false, true, true, false, false, false] rfl rfl (by kernel_rfl) (fun _ _ _ h => h) (Or.inl ⟨by rfl, ?_⟩) hHeld ?_ ?_
                rotate_left
                · rintro w' ⟨s0, s1, s2, s3, s4⟩
                  go_simp
                  with_reducible rfl
                rotate_left
                · simp only [Act.put, List.setIfInBounds_toArray, List.set_cons_zero, List.set_cons_succ, i64_w, i32_w]
                  rfl
                refine one_ (i := 0) (N := some 46) #[true, true, true, false, false, false] rfl rfl (by kernel_rfl) (by decide) (fun K hK => ?_)
                refine goes_ Try.func28 (by kernel_rfl) rfl #[] (by rfl) rfl rfl (by (try simp only [List.map_toArray, List.map_cons, List.map_nil]); first | done | rfl | (simp only [List.length_drop, List.length_take]; rfl)) ?_
                with_reducible refine (larumref33_signs.calls  t196 _ A26.out).mono ?_
                rintro e w33 ⟨v197, rfl, ho0, hb⟩
                have HS4_ := True.intro
                refine ⟨_, rfl, ?_⟩
                have n0_ := Aside0.mk (Kd.R_elder' (by (with_reducible repeat (first | apply Kd.R_alloc | apply Kd.R_drewN | apply Kd.R_drew)); exact HO_4.out) (Kd.R_base ho0) hb)
                have n1_ := Aside0.mk (Kd.R_elder' (by (with_reducible repeat (first | apply Kd.R_alloc | apply Kd.R_drewN | apply Kd.R_drew)); exact HO_19.out) (Kd.R_base ho0) hb)
                have n2_ := Aside0.mk (Kd.R_lower (Kd.R_new' (Kd.R_new' ho0 (Kd.R_lt (by (with_reducible repeat (first | apply Kd.R_alloc | apply Kd.R_drewN | apply Kd.R_drew)); exact HO_4.out))) (Kd.R_lt (by (with_reducible repeat (first | apply Kd.R_alloc | apply Kd.R_drewN | apply Kd.R_drew)); exact HO_19.out))) (below_size (by repeat (first | (with_reducible first | exact HB.out | apply below_alloc | apply pw_below_drewN | apply below_drew1 | refine below_set ?_ GE185.out | refine below_set ?_ GE189.out) | exact HB.out))))
                have n3_ := Aside0.mk (blk_below (g := gb185) (o := .cells #[.int .i64 0, .int .i64 0, .string (⟨#[]⟩ : ByteArray), .int .i64 0] 29 (0, 0)) (by (with_reducible repeat (first | refine blk_drewN ?_ _ | refine blk_drew ?_ | refine blk_alloc ?_ _)); exact BK185.out) hb)
                have n4_ := Aside0.mk (blk_below (g := gb189) (o := .cells #[.int .i64 x190000_1, .int .i64 0, .string (⟨#[]⟩ : ByteArray), .int .i64 0] 29 (0, 0)) (by (with_reducible repeat (first | refine blk_drewN ?_ _ | refine blk_drew ?_ | refine blk_alloc ?_ _)); exact BK189.out) hb)
                have n5_ := Aside0.mk (below_step (by repeat (first | (with_reducible first | exact HB.out | apply below_alloc | apply pw_below_drewN | apply below_drew1 | refine below_set ?_ GE185.out | refine below_set ?_ GE189.out) | exact HB.out)) hb)
                clear HO_4
                clear HO_19
                clear BK185
                clear BK189
                clear HB
                have HO_4 := n0_
                have HO_19 := n1_
                have HO198 := n2_
                have BK185 := n3_
                have BK189 := n4_
                have HB := n5_
                clear n0_ n1_ n2_ n3_ n4_ n5_
                (try clear hb)
                (try clear hb2)
                (try clear hk)
                (try clear hi)
                (try clear ho0)
                obtain ⟨Ao34, co34, eo34⟩ := Kd.R_slice HO198.out
                (first | subst eo34 | (injection eo34 with f1_ f2_ f3_; have f4_ := f1_.symm; have f5_ := f3_.symm; clear f1_ f2_ f3_; subst f4_; subst f5_))
                have p199 : 0 ≤ (x190000_1 : Int) := of_decide_eq_true (by first | (with_reducible assumption) | assumption)
                have q199 : x190000_1 < (t196.length : Int) := of_decide_eq_true (by first | (with_reducible assumption) | assumption)
                obtain ⟨ad199, e199, hx199_0⟩ := Kd.at_string (Kd.R_reads' HO198.out).2.2 x190000_1 p199 q199
                cases e199
                replace p199 := eq_true p199
                replace q199 := eq_true q199
                refine hK.out _ _ ⟨(blk_cell BK189.out 0).trans rfl, (blk_cell BK189.out 1).trans rfl, (blk_cell BK189.out 2).trans rfl, (blk_cell BK189.out 3).trans rfl, trivial⟩ (fun _ => ?_)
                refine grow_ (S' := fun w' => w'.cell? ⟨gb189, 0, none⟩ = some (.int .i64 x190000_1) ∧ w'.cell? ⟨gb189, 1, none⟩ = some (.int .i64 0) ∧ w'.cell? ⟨gb189, 2, none⟩ = some (.string (⟨#[]⟩ : ByteArray)) ∧ w'.cell? ⟨gb189, 3, none⟩ = some (.int .i64 0) ∧ w'.cell? (ad199.add (x190000_1).toNat) = some (.string (rdOf ByteArray.empty t196 x190000_1))) (fun _ h_ => ⟨h_.1, h_.2.1, h_.2.2.1, h_.2.2.2.1, trivial⟩) ⟨(blk_cell BK189.out 0).trans rfl, (blk_cell BK189.out 1).trans rfl, (blk_cell BK189.out 2).trans rfl, (blk_cell BK189.out 3).trans rfl, hx199_0⟩ (fun hHeld => ?_)
                clear hK K
                refine norm_ (a' := ?_) ?_ ?_
                rotate_left
                · show Act.put _ (some 46) _ = _
                  simp only [Act.put, List.setIfInBounds_toArray, List.set_cons_zero, List.set_cons_succ, i64_w, i32_w]
                  rfl
                refine pure_ (i := 3) (N := some 49) (v := ?_) (a' := ?_) #[true, true, true, true, false, false] rfl rfl (by kernel_rfl) (fun _ _ _ h => h) (Or.inl ⟨by rfl, ?_⟩) ?_ ?_
                rotate_left
                · intro w'
                  go_simp
                  with_reducible rfl
                rotate_left
                · simp only [Act.put, List.setIfInBounds_toArray, List.set_cons_zero, List.set_cons_succ, i64_w, i32_w]
                  rfl
                refine take_ (i := 4) (N := some 50) (v := ?_) (a' := ?_) #[true, true, true, true, true, false] rfl rfl (by kernel_rfl) (fun _ _ _ h => h) (Or.inl ⟨by rfl, ?_⟩) hHeld ?_ ?_
                rotate_left
                · rintro w' ⟨s0, s1, s2, s3, s4⟩
                  go_simp
                  with_reducible rfl
                rotate_left
                · simp only [Act.put, List.setIfInBounds_toArray, List.set_cons_zero, List.set_cons_succ, i64_w, i32_w]
                  rfl
                refine pure_ (i := 5) (N := some 9) (v := ?_) (a' := ?_) #[true, true, true, true, true, true] rfl rfl (by kernel_rfl) (fun _ _ _ h => h) (Or.inl ⟨by rfl, ?_⟩) ?_ ?_
                rotate_left
                · intro w'
                  go_simp
                  with_reducible rfl
                rotate_left
                · simp only [Act.put, List.setIfInBounds_toArray, List.set_cons_zero, List.set_cons_succ, i64_w, i32_w]
                  rfl
                refine done_ (by kernel_rfl) ?_
                try go_wp2
                go_loopg [8, 10] k1 (fun kq v8 v10 w' => ∃ (x8_2 : Int) (x10_2 : Int) (x186000_2 : Int) (x186001_2 : Int) (x186002_2 : ByteArray) (x186003_2 : Int) (x190001_2 : Int) (x190002_2 : ByteArray) (x190003_2 : Int), v8 = .int .i64 x8_2 ∧ v10 = .int .i64 x10_2 ∧ Aside0 (larumref33_Parse.l1 kq a0 t186 x8_2 (rdOf ByteArray.empty t196 x190000_1) x10_2 x190000_1 x190001_2 x190002_2 x190003_2 = some (r1, r2, r3, r4, r5)) ∧ Aside0 (kq ≤ k1) ∧ Aside0 (Kd.R Kd.string 9 w' w.heap.size (fun _ => True) (.slice (some ad195) t186.length co31) t186) ∧ Aside0 (w'.heap[gb185]? = some (.cells #[.int .i64 x186000_2, .int .i64 x186001_2, .string x186002_2, .int .i64 x186003_2] 29 (0, 0))) ∧ Aside0 (w'.heap[gb189]? = some (.cells #[.int .i64 x190000_1, .int .i64 x190001_2, .string x190002_2, .int .i64 x190003_2] 29 (0, 0))) ∧ Aside0 (Below w.heap.size w w'))
                case atStart => exact ⟨(((rdOf ByteArray.empty t186 0).size : Int)), (0), (0), (0), ((⟨#[]⟩ : ByteArray)), (0), (0), ((⟨#[]⟩ : ByteArray)), (0), (by first | rfl | (simp; done) | (simp [*]; done) | (simp only [i64_w, i32_w]; done) | (simp [i64_w, i32_w, *]; done) | (simp [gp_ne]; done) | (simp [gp_ne, i64_w, i32_w, *]; done) | (simp [i64_w, i32_w]; (try unfold wrap64); (try unfold wrap32); omega)), (by first | rfl | (simp; done) | (simp [*]; done) | (simp only [i64_w, i32_w]; done) | (simp [i64_w, i32_w, *]; done) | (simp [gp_ne]; done) | (simp [gp_ne, i64_w, i32_w, *]; done) | (simp [i64_w, i32_w]; (try unfold wrap64); (try unfold wrap32); omega)), H', ⟨Nat.le_refl _⟩, ⟨by (with_reducible repeat (first | apply Kd.R_alloc | apply Kd.R_drewN | apply Kd.R_drew)); exact Kd.R_mono HO_4.out (fun _ hk => trivial)⟩, ⟨by (with_reducible repeat (first | refine blk_drewN ?_ _ | refine blk_drew ?_ | refine blk_alloc ?_ _)); exact BK185.out⟩, ⟨by (with_reducible repeat (first | refine blk_drewN ?_ _ | refine blk_drew ?_ | refine blk_alloc ?_ _)); exact BK189.out⟩, ⟨by repeat (first | (with_reducible first | exact HB.out | apply below_alloc | apply pw_below_drewN | apply below_drew1 | refine below_set ?_ GE185.out | refine below_set ?_ GE189.out) | exact HB.out)⟩⟩
                case round =>
                  clear H'
                  try clear c1
                  try clear p1
                  try clear q1
                  try clear hx1
                  try clear qi1
                  try clear c2
                  try clear p2
                  try clear c3
                  try clear p6
                  try clear c7
                  try clear c11
                  try clear c11b0
                  try clear c12
                  try clear c12b0
                  try clear c13
                  try clear c13b0
                  try clear c14
                  try clear c14b0
                  try clear c15
                  try clear c15b0
                  try clear c15b1
                  try clear c16
                  try clear c16b0
                  try clear c16b1
                  try clear c17
                  try clear c18
                  try clear p19
                  try clear q19
                  try clear hx19
                  try clear qi19
                  try clear c21
                  try clear c21b0
                  try clear c21b1
                  try clear c22
                  try clear c25
                  try clear c25b0
                  try clear c25b1
                  try clear c27
                  try clear c27b0
                  try clear c28
                  try clear c28b0
                  try clear c29
                  try clear c32
                  try clear c34
                  try clear hcz19_0
                  try clear hcz19_1
                  try clear hcz19_2
                  try clear hcz19_3
                  try clear hcz23_0
                  try clear hcz23_1
                  try clear hcz23_2
                  try clear hcz23_3
                  try clear hcz24_0
                  try clear hcz24_1
                  try clear hcz24_2
                  try clear hcz24_3
                  try clear hcz30_0
                  try clear hcz30_1
                  try clear hcz30_2
                  try clear hcz30_3
                  try clear hcz8_0
                  try clear hcz8_1
                  try clear hcz8_2
                  try clear hcz8_3
                  try clear hfz19_0
                  try clear hfz19_1
                  try clear hfz19_2
                  try clear hfz19_3
                  try clear hfz23_0
                  try clear hfz23_1
                  try clear hfz23_2
                  try clear hfz23_3
                  try clear hfz24_0
                  try clear hfz24_1
                  try clear hfz24_2
                  try clear hfz24_3
                  try clear hfz30_0
                  try clear hfz30_1
                  try clear hfz30_2
                  try clear hfz30_3
                  try clear hfz8_0
                  try clear hfz8_1
                  try clear hfz8_2
                  try clear hfz8_3
                  try clear hx193_0
                  try clear hx194_0
                  try clear hx195_0
                  try clear hx199_0
                  try clear p193
                  try clear p194
                  try clear p195
                  try clear p199
                  try clear p2
                  try clear q193
                  try clear q194
                  try clear q195
                  try clear q199
                  obtain ⟨x8_2, x10_2, x186000_2, x186001_2, x186002_2, x186003_2, x190001_2, x190002_2, x190003_2, rfl, rfl, HA, HK2, HO_4, BK185, BK189, HB⟩ := hrel
                  cases gk with
                  | zero => exact absurd HA.out (by simp [larumref33_Parse.l1])
                  | succ k2 =>
                    have H := HA.out
                    clear HA
                    simp only [larumref33_Parse.l1] at H
                    by_cases c35 : x10_2 < ((rdOf ByteArray.empty t196 x190000_1).size : Int)
                    · rw [if_pos c35] at H
                      have c35b0 : decide (x10_2 < ((rdOf ByteArray.empty t196 x190000_1).size : Int)) = true := decide_eq_true c35
                      clear c35
                      by_cases c36 : x8_2 ≥ (a0.size : Int)
                      · rw [if_pos c36] at H
                        have c36b0 : decide ((a0.size : Int) ≤ x8_2) = true := decide_eq_true c36
                        clear c36
                        simp only [Option.some.injEq, Prod.mk.injEq] at H
                        obtain ⟨rfl, rfl, rfl, rfl, rfl⟩ := H
                        have hnb37 := NB185_189.out
                        have hnc37 := NB189_185.out
                        have hcz38_0 : wr.cell? ⟨gb185, 0, none⟩ = some (.int .i64 x186000_2) := (blk_cell BK185.out 0).trans rfl
                        have hcz38_1 : wr.cell? ⟨gb185, 1, none⟩ = some (.int .i64 x186001_2) := (blk_cell BK185.out 1).trans rfl
                        have hcz38_2 : wr.cell? ⟨gb185, 2, none⟩ = some (.string x186002_2) := (blk_cell BK185.out 2).trans rfl
                        have hcz38_3 : wr.cell? ⟨gb185, 3, none⟩ = some (.int .i64 x186003_2) := (blk_cell BK185.out 3).trans rfl
                        have hfz38_0 := blk_frozen BK185.out 0
                        have hfz38_1 := blk_frozen BK185.out 1
                        have hfz38_2 := blk_frozen BK185.out 2
                        have hfz38_3 := blk_frozen BK185.out 3
                        go_wp2
                        refine bodyPost_ret (results_ct rfl _ _ gb185 29 #[.int .i64 0, .int .i64 0, .string (⟨#[]⟩ : ByteArray), .int .i64 0] (0, 0) _ rfl (by (with_reducible repeat (first | refine blk_drewN ?_ _ | refine blk_drew ?_ | refine blk_alloc ?_ _)); refine blk_put (cs := #[.int .i64 0, .int .i64 0, .string (⟨#[]⟩ : ByteArray), .int .i64 x186003_2]) ?_ 3 _ rfl; (with_reducible repeat (first | refine blk_drewN ?_ _ | refine blk_drew ?_ | refine blk_alloc ?_ _)); refine blk_put (cs := #[.int .i64 0, .int .i64 0, .string x186002_2, .int .i64 x186003_2]) ?_ 2 _ rfl; (with_reducible repeat (first | refine blk_drewN ?_ _ | refine blk_drew ?_ | refine blk_alloc ?_ _)); refine blk_put (cs := #[.int .i64 0, .int .i64 x186001_2, .string x186002_2, .int .i64 x186003_2]) ?_ 1 _ rfl; (with_reducible repeat (first | refine blk_drewN ?_ _ | refine blk_drew ?_ | refine blk_alloc ?_ _)); refine blk_put (cs := #[.int .i64 x186000_2, .int .i64 x186001_2, .string x186002_2, .int .i64 x186003_2]) ?_ 0 _ rfl; (with_reducible repeat (first | refine blk_drewN ?_ _ | refine blk_drew ?_ | refine blk_alloc ?_ _)); exact BK185.out) Try.underlying29 rfl (by kernel_rfl)) rfl ?_
                        exact ⟨by first | rfl | (simp [errW_none, errW_some] <;> rfl) | (simp [*, errW_none, errW_some] <;> rfl) | (simp [gp_ne]; done) | (simp [gp_ne, i64_w, i32_w, *]; done) | (simp [i64_w, i32_w]; (try unfold wrap64); (try unfold wrap32); omega), by repeat (first | (with_reducible first | exact HB.out | apply below_alloc | apply pw_below_drewN | apply below_drew1 | refine below_set ?_ GE185.out | refine below_set ?_ GE189.out) | exact HB.out)⟩
                      · rw [if_neg c36] at H
                        have c36b0 : decide ((a0.size : Int) ≤ x8_2) = false := decide_eq_false c36
                        clear c36
                        by_cases c39 : 0 ≤ x10_2
                        · rw [if_pos c39] at H
                          have c39b0 : decide (0 ≤ x10_2) = true := decide_eq_true c39
                          clear c39
                          by_cases c41 : (bt (rdOf ByteArray.empty t196 x190000_1) x10_2) = 116
                          · rw [if_pos c41] at H
                            have c41b0 : ((bt (rdOf ByteArray.empty t196 x190000_1) x10_2) == 116) = true := beq_iff_eq.mpr c41
                            have c41b1 : ((bt (rdOf ByteArray.empty t196 x190000_1) x10_2) != 116) = false := bne_eq_false_iff_eq.mpr c41
                            clear c41
                            obtain ⟨ji42, hji42⟩ : ∃ j_ : Int, (wrap64 (x8_2 + 1)) = j_ := ⟨_, rfl⟩
                            replace H : (if 0 ≤ (ji42) then (if (ji42) ≤ (a0.size : Int) then ((larumref33_Read.f k2 (a0.extract ((ji42) : Int).toNat a0.size)).bind fun bt200 => (if bt200.2.2 = true then (larumref33_Parse.l1 k2 a0 t186 (wrap64 ((ji42) + bt200.2.1)) (rdOf ByteArray.empty t196 x190000_1) (wrap64 (x10_2 + 1)) x190000_1 x190001_2 bt200.1 x190003_2) else (some (0, 0, (⟨#[]⟩ : ByteArray), 0, false)))) else (none)) else (none)) = some (r1, r2, r3, r4, r5) := by first | (rw [hji42] at H; exact H) | (simp only [hji42] at H ⊢; exact H)
                            have hji42w : (IntKind.i64.wrap (x8_2 + 1)) = ji42 := (i64_w _).trans hji42
                            by_cases c43 : 0 ≤ (ji42)
                            · rw [if_pos c43] at H
                              have c43b0 := eq_true c43
                              have c43b1 : decide (0 ≤ (ji42)) = true := decide_eq_true c43
                              clear c43
                              by_cases c44 : (ji42) ≤ (a0.size : Int)
                              · rw [if_pos c44] at H
                                have c44b0 := eq_true c44
                                have c44b1 : decide ((ji42) ≤ (a0.size : Int)) = true := decide_eq_true c44
                                clear c44
                                replace H := Option.bind_eq_some_iff.mp H
                                obtain ⟨⟨t200, t201, t202⟩, A450, H⟩ := H
                                replace H : (if t202 = true then (larumref33_Parse.l1 k2 a0 t186 (wrap64 ((ji42) + t201)) (rdOf ByteArray.empty t196 x190000_1) (wrap64 (x10_2 + 1)) x190000_1 x190001_2 t200 x190003_2) else (some (0, 0, (⟨#[]⟩ : ByteArray), 0, false))) = some (r1, r2, r3, r4, r5) := H
                                have A45 := Aside0.mk A450
                                clear A450
                                by_cases c46 : t202 = true
                                · subst c46
                                  have H1 : (larumref33_Parse.l1 k2 a0 t186 (wrap64 ((ji42) + t201)) (rdOf ByteArray.empty t196 x190000_1) (wrap64 (x10_2 + 1)) x190000_1 x190001_2 t200 x190003_2) = some (r1, r2, r3, r4, r5) := by rw [if_pos rfl] at H; exact H
                                  clear H
                                  have H := H1
                                  clear H1
                                  have H' := Aside0.mk H
                                  clear H
                                  have p40 : 0 ≤ (x10_2 : Int) := of_decide_eq_true (by first | (with_reducible assumption) | assumption)
                                  have q40 : x10_2 < ((rdOf ByteArray.empty t196 x190000_1).size : Int) := of_decide_eq_true (by first | (with_reducible assumption) | assumption)
                                  have hx40 := bt_at (rdOf ByteArray.empty t196 x190000_1) x10_2
                                  replace p40 := eq_true p40
                                  replace q40 := eq_true q40
                                  go_wp2_with (first | ((with_reducible refine gate_callee (f := 9) rfl ?_); refine goesL_ (some 72) rfl rfl Try.func9 (by kernel_rfl) rfl #[.string (a0.extract ((ji42) : Int).toNat a0.size)] rfl (by (try simp only [List.map_toArray, List.map_cons, List.map_nil]); first | done | (simp only [hji42]; rfl) | rfl | (simp only [List.length_drop, List.length_take]; rfl)) ?_; (with_reducible refine (larumref33_Read.calls k2 (a0.extract ((ji42) : Int).toNat a0.size) t200 t201 true _ A45.out).mono ?_); rintro e w47 ⟨rfl, hb⟩; refine ⟨_, rfl, ?_⟩; have n0_ := Aside0.mk (Kd.R_below (by (with_reducible repeat (first | apply Kd.R_alloc | apply Kd.R_drewN | apply Kd.R_drew)); exact HO_4.out) hb); have n1_ := Aside0.mk (blk_below (g := gb185) (o := .cells #[.int .i64 x186000_2, .int .i64 x186001_2, .string x186002_2, .int .i64 x186003_2] 29 (0, 0)) (by (with_reducible repeat (first | refine blk_drewN ?_ _ | refine blk_drew ?_ | refine blk_alloc ?_ _)); exact BK185.out) hb); have n2_ := Aside0.mk (blk_below (g := gb189) (o := .cells #[.int .i64 x190000_1, .int .i64 x190001_2, .string x190002_2, .int .i64 x190003_2] 29 (0, 0)) (by (with_reducible repeat (first | refine blk_drewN ?_ _ | refine blk_drew ?_ | refine blk_alloc ?_ _)); exact BK189.out) hb); have n3_ := Aside0.mk (below_step (by repeat (first | (with_reducible first | exact HB.out | apply below_alloc | apply pw_below_drewN | apply below_drew1 | refine below_set ?_ GE185.out | refine below_set ?_ GE189.out) | exact HB.out)) hb); clear HO_4; clear BK185; clear BK189; clear HB; have HO_4 := n0_; have BK185 := n1_; have BK189 := n2_; have HB := n3_; clear n0_ n1_ n2_ n3_; (try clear hb); (try clear hb2); (try clear hk); (try clear hi); have hnb48 := NB189_185.out; have hnc48 := NB185_189.out; have hcz49_0 : w47.cell? ⟨gb189, 0, none⟩ = some (.int .i64 x190000_1) := (blk_cell BK189.out 0).trans rfl; have hcz49_1 : w47.cell? ⟨gb189, 1, none⟩ = some (.int .i64 x190001_2) := (blk_cell BK189.out 1).trans rfl; have hcz49_2 : w47.cell? ⟨gb189, 2, none⟩ = some (.string x190002_2) := (blk_cell BK189.out 2).trans rfl; have hcz49_3 : w47.cell? ⟨gb189, 3, none⟩ = some (.int .i64 x190003_2) := (blk_cell BK189.out 3).trans rfl; have hfz49_0 := blk_frozen BK189.out 0; have hfz49_1 := blk_frozen BK189.out 1; have hfz49_2 := blk_frozen BK189.out 2; have hfz49_3 := blk_frozen BK189.out 3))
                                  go_roundg k2
                                  case measure => have := HK1.out; have := HK2.out; omega
                                  case rel => exact ⟨(wrap64 ((ji42) + t201)), (wrap64 (x10_2 + 1)), (x186000_2), (x186001_2), (x186002_2), (x186003_2), (x190001_2), (t200), (x190003_2), (by first | rfl | (simp; done) | (simp only [← hji42] <;> (first | rfl | simp)) | (simp [*]; done)), (by first | rfl | (simp; done) | (simp [*]; done) | (simp only [i64_w, i32_w]; done) | (simp [i64_w, i32_w, *]; done) | (simp [gp_ne]; done) | (simp [gp_ne, i64_w, i32_w, *]; done) | (simp [i64_w, i32_w]; (try unfold wrap64); (try unfold wrap32); omega)), H', ⟨by have := HK1.out; have := HK2.out; omega⟩, ⟨by (with_reducible repeat (first | apply Kd.R_alloc | apply Kd.R_drewN | apply Kd.R_drew)); exact Kd.R_mono (Kd.R_far (p := ⟨gb189, 2, none⟩) (Kd.R_types HO_4.out BK189.out (by decide)) (fun _ hk => hk.2) (.string t200)) (fun _ hk => trivial)⟩, ⟨by (with_reducible repeat (first | refine blk_drewN ?_ _ | refine blk_drew ?_ | refine blk_alloc ?_ _)); refine blk_far ?_ NB185_189.out _; (with_reducible repeat (first | refine blk_drewN ?_ _ | refine blk_drew ?_ | refine blk_alloc ?_ _)); exact BK185.out⟩, ⟨by (with_reducible repeat (first | refine blk_drewN ?_ _ | refine blk_drew ?_ | refine blk_alloc ?_ _)); refine blk_put (cs := #[.int .i64 x190000_1, .int .i64 x190001_2, .string x190002_2, .int .i64 x190003_2]) ?_ 2 _ rfl; (with_reducible repeat (first | refine blk_drewN ?_ _ | refine blk_drew ?_ | refine blk_alloc ?_ _)); exact BK189.out⟩, ⟨by repeat (first | (with_reducible first | exact HB.out | apply below_alloc | apply pw_below_drewN | apply below_drew1 | refine below_set ?_ GE185.out | refine below_set ?_ GE189.out) | exact HB.out)⟩⟩
                                · replace c46 := Bool.eq_false_iff.mpr c46
                                  subst c46
                                  have H1 : (some (0, 0, (⟨#[]⟩ : ByteArray), 0, false)) = some (r1, r2, r3, r4, r5) := by rw [if_neg (show ¬ (false = true) by decide)] at H; exact H
                                  clear H
                                  have H := H1
                                  clear H1
                                  simp only [Option.some.injEq, Prod.mk.injEq] at H
                                  obtain ⟨rfl, rfl, rfl, rfl, rfl⟩ := H
                                  have p40 : 0 ≤ (x10_2 : Int) := of_decide_eq_true (by first | (with_reducible assumption) | assumption)
                                  have q40 : x10_2 < ((rdOf ByteArray.empty t196 x190000_1).size : Int) := of_decide_eq_true (by first | (with_reducible assumption) | assumption)
                                  have hx40 := bt_at (rdOf ByteArray.empty t196 x190000_1) x10_2
                                  replace p40 := eq_true p40
                                  replace q40 := eq_true q40
                                  go_wp2_with (first | ((with_reducible refine gate_callee (f := 9) rfl ?_); refine goesL_ (some 72) rfl rfl Try.func9 (by kernel_rfl) rfl #[.string (a0.extract ((ji42) : Int).toNat a0.size)] rfl (by (try simp only [List.map_toArray, List.map_cons, List.map_nil]); first | done | (simp only [hji42]; rfl) | rfl | (simp only [List.length_drop, List.length_take]; rfl)) ?_; (with_reducible refine (larumref33_Read.calls k2 (a0.extract ((ji42) : Int).toNat a0.size) t200 t201 false _ A45.out).mono ?_); rintro e w50 ⟨rfl, hb⟩; refine ⟨_, rfl, ?_⟩; have n0_ := Aside0.mk (Kd.R_below (by (with_reducible repeat (first | apply Kd.R_alloc | apply Kd.R_drewN | apply Kd.R_drew)); exact HO_4.out) hb); have n1_ := Aside0.mk (blk_below (g := gb185) (o := .cells #[.int .i64 x186000_2, .int .i64 x186001_2, .string x186002_2, .int .i64 x186003_2] 29 (0, 0)) (by (with_reducible repeat (first | refine blk_drewN ?_ _ | refine blk_drew ?_ | refine blk_alloc ?_ _)); exact BK185.out) hb); have n2_ := Aside0.mk (blk_below (g := gb189) (o := .cells #[.int .i64 x190000_1, .int .i64 x190001_2, .string x190002_2, .int .i64 x190003_2] 29 (0, 0)) (by (with_reducible repeat (first | refine blk_drewN ?_ _ | refine blk_drew ?_ | refine blk_alloc ?_ _)); exact BK189.out) hb); have n3_ := Aside0.mk (below_step (by repeat (first | (with_reducible first | exact HB.out | apply below_alloc | apply pw_below_drewN | apply below_drew1 | refine below_set ?_ GE185.out | refine below_set ?_ GE189.out) | exact HB.out)) hb); clear HO_4; clear BK185; clear BK189; clear HB; have HO_4 := n0_; have BK185 := n1_; have BK189 := n2_; have HB := n3_; clear n0_ n1_ n2_ n3_; (try clear hb); (try clear hb2); (try clear hk); (try clear hi); have hnb51 := NB185_189.out; have hnc51 := NB189_185.out; have hcz52_0 : w50.cell? ⟨gb185, 0, none⟩ = some (.int .i64 x186000_2) := (blk_cell BK185.out 0).trans rfl; have hcz52_1 : w50.cell? ⟨gb185, 1, none⟩ = some (.int .i64 x186001_2) := (blk_cell BK185.out 1).trans rfl; have hcz52_2 : w50.cell? ⟨gb185, 2, none⟩ = some (.string x186002_2) := (blk_cell BK185.out 2).trans rfl; have hcz52_3 : w50.cell? ⟨gb185, 3, none⟩ = some (.int .i64 x186003_2) := (blk_cell BK185.out 3).trans rfl; have hfz52_0 := blk_frozen BK185.out 0; have hfz52_1 := blk_frozen BK185.out 1; have hfz52_2 := blk_frozen BK185.out 2; have hfz52_3 := blk_frozen BK185.out 3))
                                  refine bodyPost_ret (results_ct rfl _ _ gb185 29 #[.int .i64 0, .int .i64 0, .string (⟨#[]⟩ : ByteArray), .int .i64 0] (0, 0) _ rfl (by (with_reducible repeat (first | refine blk_drewN ?_ _ | refine blk_drew ?_ | refine blk_alloc ?_ _)); refine blk_put (cs := #[.int .i64 0, .int .i64 0, .string (⟨#[]⟩ : ByteArray), .int .i64 x186003_2]) ?_ 3 _ rfl; (with_reducible repeat (first | refine blk_drewN ?_ _ | refine blk_drew ?_ | refine blk_alloc ?_ _)); refine blk_put (cs := #[.int .i64 0, .int .i64 0, .string x186002_2, .int .i64 x186003_2]) ?_ 2 _ rfl; (with_reducible repeat (first | refine blk_drewN ?_ _ | refine blk_drew ?_ | refine blk_alloc ?_ _)); refine blk_put (cs := #[.int .i64 0, .int .i64 x186001_2, .string x186002_2, .int .i64 x186003_2]) ?_ 1 _ rfl; (with_reducible repeat (first | refine blk_drewN ?_ _ | refine blk_drew ?_ | refine blk_alloc ?_ _)); refine blk_put (cs := #[.int .i64 x186000_2, .int .i64 x186001_2, .string x186002_2, .int .i64 x186003_2]) ?_ 0 _ rfl; (with_reducible repeat (first | refine blk_drewN ?_ _ | refine blk_drew ?_ | refine blk_alloc ?_ _)); exact BK185.out) Try.underlying29 rfl (by kernel_rfl)) rfl ?_
                                  exact ⟨by first | rfl | (simp [errW_none, errW_some] <;> rfl) | (simp only [← hji42]; first | rfl | (simp [errW_none, errW_some] <;> rfl)) | (simp [*, errW_none, errW_some] <;> rfl) | (simp [gp_ne]; done) | (simp [gp_ne, i64_w, i32_w, *]; done) | (simp [i64_w, i32_w]; (try unfold wrap64); (try unfold wrap32); omega), by repeat (first | (with_reducible first | exact HB.out | apply below_alloc | apply pw_below_drewN | apply below_drew1 | refine below_set ?_ GE185.out | refine below_set ?_ GE189.out) | exact HB.out)⟩
                              · rw [if_neg c44] at H
                                exact absurd H (by simp)
                            · rw [if_neg c43] at H
                              exact absurd H (by simp)
                          · rw [if_neg c41] at H
                            have c41b0 : ((bt (rdOf ByteArray.empty t196 x190000_1) x10_2) == 116) = false := beq_eq_false_iff_ne.mpr c41
                            have c41b1 : ((bt (rdOf ByteArray.empty t196 x190000_1) x10_2) != 116) = true := bne_iff_ne.mpr c41
                            by_cases c53 : (wrap64 (x10_2 + 1)) ≥ (t186.length : Int)
                            · rw [if_pos c53] at H
                              have c53b0 : decide ((t186.length : Int) ≤ (wrap64 (x10_2 + 1))) = true := decide_eq_true c53
                              clear c53
                              simp only [Option.some.injEq, Prod.mk.injEq] at H
                              obtain ⟨rfl, rfl, rfl, rfl, rfl⟩ := H
                              have p40 : 0 ≤ (x10_2 : Int) := of_decide_eq_true (by first | (with_reducible assumption) | assumption)
                              have q40 : x10_2 < ((rdOf ByteArray.empty t196 x190000_1).size : Int) := of_decide_eq_true (by first | (with_reducible assumption) | assumption)
                              have hx40 := bt_at (rdOf ByteArray.empty t196 x190000_1) x10_2
                              replace p40 := eq_true p40
                              replace q40 := eq_true q40
                              have hnb54 := NB185_189.out
                              have hnc54 := NB189_185.out
                              have hcz55_0 : wr.cell? ⟨gb185, 0, none⟩ = some (.int .i64 x186000_2) := (blk_cell BK185.out 0).trans rfl
                              have hcz55_1 : wr.cell? ⟨gb185, 1, none⟩ = some (.int .i64 x186001_2) := (blk_cell BK185.out 1).trans rfl
                              have hcz55_2 : wr.cell? ⟨gb185, 2, none⟩ = some (.string x186002_2) := (blk_cell BK185.out 2).trans rfl
                              have hcz55_3 : wr.cell? ⟨gb185, 3, none⟩ = some (.int .i64 x186003_2) := (blk_cell BK185.out 3).trans rfl
                              have hfz55_0 := blk_frozen BK185.out 0
                              have hfz55_1 := blk_frozen BK185.out 1
                              have hfz55_2 := blk_frozen BK185.out 2
                              have hfz55_3 := blk_frozen BK185.out 3
                              go_wp2
                              refine bodyPost_ret (results_ct rfl _ _ gb185 29 #[.int .i64 0, .int .i64 0, .string (⟨#[]⟩ : ByteArray), .int .i64 0] (0, 0) _ rfl (by (with_reducible repeat (first | refine blk_drewN ?_ _ | refine blk_drew ?_ | refine blk_alloc ?_ _)); refine blk_put (cs := #[.int .i64 0, .int .i64 0, .string (⟨#[]⟩ : ByteArray), .int .i64 x186003_2]) ?_ 3 _ rfl; (with_reducible repeat (first | refine blk_drewN ?_ _ | refine blk_drew ?_ | refine blk_alloc ?_ _)); refine blk_put (cs := #[.int .i64 0, .int .i64 0, .string x186002_2, .int .i64 x186003_2]) ?_ 2 _ rfl; (with_reducible repeat (first | refine blk_drewN ?_ _ | refine blk_drew ?_ | refine blk_alloc ?_ _)); refine blk_put (cs := #[.int .i64 0, .int .i64 x186001_2, .string x186002_2, .int .i64 x186003_2]) ?_ 1 _ rfl; (with_reducible repeat (first | refine blk_drewN ?_ _ | refine blk_drew ?_ | refine blk_alloc ?_ _)); refine blk_put (cs := #[.int .i64 x186000_2, .int .i64 x186001_2, .string x186002_2, .int .i64 x186003_2]) ?_ 0 _ rfl; (with_reducible repeat (first | refine blk_drewN ?_ _ | refine blk_drew ?_ | refine blk_alloc ?_ _)); exact BK185.out) Try.underlying29 rfl (by kernel_rfl)) rfl ?_
                              exact ⟨by first | rfl | (simp [errW_none, errW_some] <;> rfl) | (simp [*, errW_none, errW_some] <;> rfl) | (simp [gp_ne]; done) | (simp [gp_ne, i64_w, i32_w, *]; done) | (simp [i64_w, i32_w]; (try unfold wrap64); (try unfold wrap32); omega), by repeat (first | (with_reducible first | exact HB.out | apply below_alloc | apply pw_below_drewN | apply below_drew1 | refine below_set ?_ GE185.out | refine below_set ?_ GE189.out) | exact HB.out)⟩
                            · rw [if_neg c53] at H
                              have c53b0 : decide ((t186.length : Int) ≤ (wrap64 (x10_2 + 1))) = false := decide_eq_false c53
                              clear c53
                              obtain ⟨ji56, hji56⟩ : ∃ j_ : Int, (wrap64 (x10_2 + 1)) = j_ := ⟨_, rfl⟩
                              replace H : (if 0 ≤ (ji56) then (if (ji56) < (t186.length : Int) then ((larumref33_number.f k2 (rdOf ByteArray.empty t186 (ji56))).bind fun bt204 => (if bt204.2 = true then (if (bt (rdOf ByteArray.empty t196 x190000_1) x10_2) = 99 then (larumref33_Parse.l1 k2 a0 t186 (wrap64 ((wrap64 (x8_2 + 1)) + ((rdOf ByteArray.empty t186 (ji56)).size : Int))) (rdOf ByteArray.empty t196 x190000_1) ji56 x190000_1 bt204.1 x190002_2 x190003_2) else (larumref33_Parse.l1 k2 a0 t186 (wrap64 ((wrap64 (x8_2 + 1)) + ((rdOf ByteArray.empty t186 (ji56)).size : Int))) (rdOf ByteArray.empty t196 x190000_1) ji56 x190000_1 x190001_2 x190002_2 bt204.1)) else (some (0, 0, (⟨#[]⟩ : ByteArray), 0, false)))) else (none)) else (none)) = some (r1, r2, r3, r4, r5) := by first | (rw [hji56] at H; exact H) | (simp only [hji56] at H ⊢; exact H)
                              (try rw [hji56] at c53b0)
                              have hji56w : (IntKind.i64.wrap (x10_2 + 1)) = ji56 := (i64_w _).trans hji56
                              by_cases c57 : 0 ≤ (ji56)
                              · rw [if_pos c57] at H
                                have c57b0 : decide (0 ≤ (ji56)) = true := decide_eq_true c57
                                clear c57
                                by_cases c58 : (ji56) < (t186.length : Int)
                                · rw [if_pos c58] at H
                                  have c58b0 : decide ((ji56) < (t186.length : Int)) = true := decide_eq_true c58
                                  clear c58
                                  replace H := Option.bind_eq_some_iff.mp H
                                  obtain ⟨⟨t204, t205⟩, A590, H⟩ := H
                                  replace H : (if t205 = true then (if (bt (rdOf ByteArray.empty t196 x190000_1) x10_2) = 99 then (larumref33_Parse.l1 k2 a0 t186 (wrap64 ((wrap64 (x8_2 + 1)) + ((rdOf ByteArray.empty t186 (ji56)).size : Int))) (rdOf ByteArray.empty t196 x190000_1) ji56 x190000_1 t204 x190002_2 x190003_2) else (larumref33_Parse.l1 k2 a0 t186 (wrap64 ((wrap64 (x8_2 + 1)) + ((rdOf ByteArray.empty t186 (ji56)).size : Int))) (rdOf ByteArray.empty t196 x190000_1) ji56 x190000_1 x190001_2 x190002_2 t204)) else (some (0, 0, (⟨#[]⟩ : ByteArray), 0, false))) = some (r1, r2, r3, r4, r5) := H
                                  have A59 := Aside0.mk A590
                                  clear A590
                                  by_cases c60 : t205 = true
                                  · subst c60
                                    have H1 : (if (bt (rdOf ByteArray.empty t196 x190000_1) x10_2) = 99 then (larumref33_Parse.l1 k2 a0 t186 (wrap64 ((wrap64 (x8_2 + 1)) + ((rdOf ByteArray.empty t186 (ji56)).size : Int))) (rdOf ByteArray.empty t196 x190000_1) ji56 x190000_1 t204 x190002_2 x190003_2) else (larumref33_Parse.l1 k2 a0 t186 (wrap64 ((wrap64 (x8_2 + 1)) + ((rdOf ByteArray.empty t186 (ji56)).size : Int))) (rdOf ByteArray.empty t196 x190000_1) ji56 x190000_1 x190001_2 x190002_2 t204)) = some (r1, r2, r3, r4, r5) := by rw [if_pos rfl] at H; exact H
                                    clear H
                                    have H := H1
                                    clear H1
                                    by_cases c62 : (bt (rdOf ByteArray.empty t196 x190000_1) x10_2) = 99
                                    · rw [if_pos c62] at H
                                      have c62b0 : ((bt (rdOf ByteArray.empty t196 x190000_1) x10_2) == 99) = true := beq_iff_eq.mpr c62
                                      have c62b1 : ((bt (rdOf ByteArray.empty t196 x190000_1) x10_2) != 99) = false := bne_eq_false_iff_eq.mpr c62
                                      clear c62
                                      have H' := Aside0.mk H
                                      clear H
                                      have p40 : 0 ≤ (x10_2 : Int) := of_decide_eq_true (by first | (with_reducible assumption) | assumption)
                                      have q40 : x10_2 < ((rdOf ByteArray.empty t196 x190000_1).size : Int) := of_decide_eq_true (by first | (with_reducible assumption) | assumption)
                                      have hx40 := bt_at (rdOf ByteArray.empty t196 x190000_1) x10_2
                                      replace p40 := eq_true p40
                                      replace q40 := eq_true q40
                                      have p203 : 0 ≤ ((ji56) : Int) := of_decide_eq_true (by first | (with_reducible assumption) | assumption)
                                      have q203 : (ji56) < (t186.length : Int) := of_decide_eq_true (by first | (with_reducible assumption) | assumption)
                                      obtain ⟨ad203, e203, hx203_0⟩ := Kd.at_string (Kd.R_reads' HO_4.out).2.2 (ji56) p203 q203
                                      obtain rfl : ad195 = ad203 := (by injection e203)
                                      replace p203 := eq_true p203
                                      replace q203 := eq_true q203
                                      go_wp2_with (first | ((with_reducible refine gate_callee (f := 35) rfl ?_); refine goesL_ (some 96) rfl rfl Try.func35 (by kernel_rfl) rfl #[.string (rdOf ByteArray.empty t186 (ji56))] rfl (by (try simp only [List.map_toArray, List.map_cons, List.map_nil]); first | done | (simp only [hji56]; rfl) | rfl | (simp only [List.length_drop, List.length_take]; rfl)) ?_; (with_reducible refine (larumref33_number.calls k2 (rdOf ByteArray.empty t186 (ji56)) t204 true _ A59.out).mono ?_); rintro e w63 ⟨rfl, hb⟩; refine ⟨_, rfl, ?_⟩; have n0_ := Aside0.mk (Kd.R_below (by (with_reducible repeat (first | apply Kd.R_alloc | apply Kd.R_drewN | apply Kd.R_drew)); exact HO_4.out) hb); have n1_ := Aside0.mk (blk_below (g := gb185) (o := .cells #[.int .i64 x186000_2, .int .i64 x186001_2, .string x186002_2, .int .i64 x186003_2] 29 (0, 0)) (by (with_reducible repeat (first | refine blk_drewN ?_ _ | refine blk_drew ?_ | refine blk_alloc ?_ _)); exact BK185.out) hb); have n2_ := Aside0.mk (blk_below (g := gb189) (o := .cells #[.int .i64 x190000_1, .int .i64 x190001_2, .string x190002_2, .int .i64 x190003_2] 29 (0, 0)) (by (with_reducible repeat (first | refine blk_drewN ?_ _ | refine blk_drew ?_ | refine blk_alloc ?_ _)); exact BK189.out) hb); have n3_ := Aside0.mk (below_step (by repeat (first | (with_reducible first | exact HB.out | apply below_alloc | apply pw_below_drewN | apply below_drew1 | refine below_set ?_ GE185.out | refine below_set ?_ GE189.out) | exact HB.out)) hb); clear HO_4; clear BK185; clear BK189; clear HB; have HO_4 := n0_; have BK185 := n1_; have BK189 := n2_; have HB := n3_; clear n0_ n1_ n2_ n3_; (try clear hb); (try clear hb2); (try clear hk); (try clear hi); have p61 : 0 ≤ (x10_2 : Int) := of_decide_eq_true (by first | (with_reducible assumption) | assumption); have q61 : x10_2 < ((rdOf ByteArray.empty t196 x190000_1).size : Int) := of_decide_eq_true (by first | (with_reducible assumption) | assumption); have hx61 := bt_at (rdOf ByteArray.empty t196 x190000_1) x10_2; replace p61 := eq_true p61; replace q61 := eq_true q61; have hnb64 := NB189_185.out; have hnc64 := NB185_189.out; have hcz65_0 : w63.cell? ⟨gb189, 0, none⟩ = some (.int .i64 x190000_1) := (blk_cell BK189.out 0).trans rfl; have hcz65_1 : w63.cell? ⟨gb189, 1, none⟩ = some (.int .i64 x190001_2) := (blk_cell BK189.out 1).trans rfl; have hcz65_2 : w63.cell? ⟨gb189, 2, none⟩ = some (.string x190002_2) := (blk_cell BK189.out 2).trans rfl; have hcz65_3 : w63.cell? ⟨gb189, 3, none⟩ = some (.int .i64 x190003_2) := (blk_cell BK189.out 3).trans rfl; have hfz65_0 := blk_frozen BK189.out 0; have hfz65_1 := blk_frozen BK189.out 1; have hfz65_2 := blk_frozen BK189.out 2; have hfz65_3 := blk_frozen BK189.out 3; have p206 : 0 ≤ ((ji56) : Int) := of_decide_eq_true (by first | (with_reducible assumption) | assumption); have q206 : (ji56) < (t186.length : Int) := of_decide_eq_true (by first | (with_reducible assumption) | assumption); obtain ⟨ad206, e206, hx206_0⟩ := Kd.at_string (Kd.R_reads' HO_4.out).2.2 (ji56) p206 q206; obtain rfl : ad195 = ad206 := (by injection e206); have hn206_0 : ad195.block ≠ gb189 := Kd.own_blk (Kd.R_ne HO_4.out BK189.out (by decide)); replace hx206_0 := (cell_far (p := ⟨gb189, 1, none⟩) (by first | (rw [add_block]; exact hn206_0) | (show (Addr.add _ _).block ≠ _; rw [add_block]; exact hn206_0) | exact hn206_0) (.int .i64 t204)).trans hx206_0; clear hn206_0; replace p206 := eq_true p206; replace q206 := eq_true q206))
                                      go_roundg k2
                                      case measure => have := HK1.out; have := HK2.out; omega
                                      case rel => exact ⟨(wrap64 ((wrap64 (x8_2 + 1)) + ((rdOf ByteArray.empty t186 (ji56)).size : Int))), (ji56), (x186000_2), (x186001_2), (x186002_2), (x186003_2), (t204), (x190002_2), (x190003_2), (by first | rfl | (simp; done) | (simp only [← hji56] <;> (first | rfl | simp)) | (simp [*]; done)), (by first | rfl | (simp; done) | (simp only [← hji56] <;> (first | rfl | simp)) | (simp [*]; done)), H', ⟨by have := HK1.out; have := HK2.out; omega⟩, ⟨by (with_reducible repeat (first | apply Kd.R_alloc | apply Kd.R_drewN | apply Kd.R_drew)); exact Kd.R_mono (Kd.R_far (p := ⟨gb189, 1, none⟩) (Kd.R_types HO_4.out BK189.out (by decide)) (fun _ hk => hk.2) (.int .i64 t204)) (fun _ hk => trivial)⟩, ⟨by (with_reducible repeat (first | refine blk_drewN ?_ _ | refine blk_drew ?_ | refine blk_alloc ?_ _)); refine blk_far ?_ NB185_189.out _; (with_reducible repeat (first | refine blk_drewN ?_ _ | refine blk_drew ?_ | refine blk_alloc ?_ _)); exact BK185.out⟩, ⟨by (with_reducible repeat (first | refine blk_drewN ?_ _ | refine blk_drew ?_ | refine blk_alloc ?_ _)); refine blk_put (cs := #[.int .i64 x190000_1, .int .i64 x190001_2, .string x190002_2, .int .i64 x190003_2]) ?_ 1 _ rfl; (with_reducible repeat (first | refine blk_drewN ?_ _ | refine blk_drew ?_ | refine blk_alloc ?_ _)); exact BK189.out⟩, ⟨by repeat (first | (with_reducible first | exact HB.out | apply below_alloc | apply pw_below_drewN | apply below_drew1 | refine below_set ?_ GE185.out | refine below_set ?_ GE189.out) | exact HB.out)⟩⟩
                                    · rw [if_neg c62] at H
                                      have c62b0 : ((bt (rdOf ByteArray.empty t196 x190000_1) x10_2) == 99) = false := beq_eq_false_iff_ne.mpr c62
                                      have c62b1 : ((bt (rdOf ByteArray.empty t196 x190000_1) x10_2) != 99) = true := bne_iff_ne.mpr c62
                                      have H' := Aside0.mk H
                                      clear H
                                      have p40 : 0 ≤ (x10_2 : Int) := of_decide_eq_true (by first | (with_reducible assumption) | assumption)
                                      have q40 : x10_2 < ((rdOf ByteArray.empty t196 x190000_1).size : Int) := of_decide_eq_true (by first | (with_reducible assumption) | assumption)
                                      have hx40 := bt_at (rdOf ByteArray.empty t196 x190000_1) x10_2
                                      replace p40 := eq_true p40
                                      replace q40 := eq_true q40
                                      have p203 : 0 ≤ ((ji56) : Int) := of_decide_eq_true (by first | (with_reducible assumption) | assumption)
                                      have q203 : (ji56) < (t186.length : Int) := of_decide_eq_true (by first | (with_reducible assumption) | assumption)
                                      obtain ⟨ad203, e203, hx203_0⟩ := Kd.at_string (Kd.R_reads' HO_4.out).2.2 (ji56) p203 q203
                                      obtain rfl : ad195 = ad203 := (by injection e203)
                                      replace p203 := eq_true p203
                                      replace q203 := eq_true q203
                                      go_wp2_with (first | ((with_reducible refine gate_callee (f := 35) rfl ?_); refine goesL_ (some 96) rfl rfl Try.func35 (by kernel_rfl) rfl #[.string (rdOf ByteArray.empty t186 (ji56))] rfl (by (try simp only [List.map_toArray, List.map_cons, List.map_nil]); first | done | (simp only [hji56]; rfl) | rfl | (simp only [List.length_drop, List.length_take]; rfl)) ?_; (with_reducible refine (larumref33_number.calls k2 (rdOf ByteArray.empty t186 (ji56)) t204 true _ A59.out).mono ?_); rintro e w66 ⟨rfl, hb⟩; refine ⟨_, rfl, ?_⟩; have n0_ := Aside0.mk (Kd.R_below (by (with_reducible repeat (first | apply Kd.R_alloc | apply Kd.R_drewN | apply Kd.R_drew)); exact HO_4.out) hb); have n1_ := Aside0.mk (blk_below (g := gb185) (o := .cells #[.int .i64 x186000_2, .int .i64 x186001_2, .string x186002_2, .int .i64 x186003_2] 29 (0, 0)) (by (with_reducible repeat (first | refine blk_drewN ?_ _ | refine blk_drew ?_ | refine blk_alloc ?_ _)); exact BK185.out) hb); have n2_ := Aside0.mk (blk_below (g := gb189) (o := .cells #[.int .i64 x190000_1, .int .i64 x190001_2, .string x190002_2, .int .i64 x190003_2] 29 (0, 0)) (by (with_reducible repeat (first | refine blk_drewN ?_ _ | refine blk_drew ?_ | refine blk_alloc ?_ _)); exact BK189.out) hb); have n3_ := Aside0.mk (below_step (by repeat (first | (with_reducible first | exact HB.out | apply below_alloc | apply pw_below_drewN | apply below_drew1 | refine below_set ?_ GE185.out | refine below_set ?_ GE189.out) | exact HB.out)) hb); clear HO_4; clear BK185; clear BK189; clear HB; have HO_4 := n0_; have BK185 := n1_; have BK189 := n2_; have HB := n3_; clear n0_ n1_ n2_ n3_; (try clear hb); (try clear hb2); (try clear hk); (try clear hi); have p61 : 0 ≤ (x10_2 : Int) := of_decide_eq_true (by first | (with_reducible assumption) | assumption); have q61 : x10_2 < ((rdOf ByteArray.empty t196 x190000_1).size : Int) := of_decide_eq_true (by first | (with_reducible assumption) | assumption); have hx61 := bt_at (rdOf ByteArray.empty t196 x190000_1) x10_2; replace p61 := eq_true p61; replace q61 := eq_true q61; have hnb67 := NB189_185.out; have hnc67 := NB185_189.out; have hcz68_0 : w66.cell? ⟨gb189, 0, none⟩ = some (.int .i64 x190000_1) := (blk_cell BK189.out 0).trans rfl; have hcz68_1 : w66.cell? ⟨gb189, 1, none⟩ = some (.int .i64 x190001_2) := (blk_cell BK189.out 1).trans rfl; have hcz68_2 : w66.cell? ⟨gb189, 2, none⟩ = some (.string x190002_2) := (blk_cell BK189.out 2).trans rfl; have hcz68_3 : w66.cell? ⟨gb189, 3, none⟩ = some (.int .i64 x190003_2) := (blk_cell BK189.out 3).trans rfl; have hfz68_0 := blk_frozen BK189.out 0; have hfz68_1 := blk_frozen BK189.out 1; have hfz68_2 := blk_frozen BK189.out 2; have hfz68_3 := blk_frozen BK189.out 3; have p207 : 0 ≤ ((ji56) : Int) := of_decide_eq_true (by first | (with_reducible assumption) | assumption); have q207 : (ji56) < (t186.length : Int) := of_decide_eq_true (by first | (with_reducible assumption) | assumption); obtain ⟨ad207, e207, hx207_0⟩ := Kd.at_string (Kd.R_reads' HO_4.out).2.2 (ji56) p207 q207; obtain rfl : ad195 = ad207 := (by injection e207); have hn207_0 : ad195.block ≠ gb189 := Kd.own_blk (Kd.R_ne HO_4.out BK189.out (by decide)); replace hx207_0 := (cell_far (p := ⟨gb189, 3, none⟩) (by first | (rw [add_block]; exact hn207_0) | (show (Addr.add _ _).block ≠ _; rw [add_block]; exact hn207_0) | exact hn207_0) (.int .i64 t204)).trans hx207_0; clear hn207_0; replace p207 := eq_true p207; replace q207 := eq_true q207))
                                      go_roundg k2
                                      case measure => have := HK1.out; have := HK2.out; omega
                                      case rel => exact ⟨(wrap64 ((wrap64 (x8_2 + 1)) + ((rdOf ByteArray.empty t186 (ji56)).size : Int))), (ji56), (x186000_2), (x186001_2), (x186002_2), (x186003_2), (x190001_2), (x190002_2), (t204), (by first | rfl | (simp; done) | (simp only [← hji56] <;> (first | rfl | simp)) | (simp [*]; done)), (by first | rfl | (simp; done) | (simp only [← hji56] <;> (first | rfl | simp)) | (simp [*]; done)), H', ⟨by have := HK1.out; have := HK2.out; omega⟩, ⟨by (with_reducible repeat (first | apply Kd.R_alloc | apply Kd.R_drewN | apply Kd.R_drew)); exact Kd.R_mono (Kd.R_far (p := ⟨gb189, 3, none⟩) (Kd.R_types HO_4.out BK189.out (by decide)) (fun _ hk => hk.2) (.int .i64 t204)) (fun _ hk => trivial)⟩, ⟨by (with_reducible repeat (first | refine blk_drewN ?_ _ | refine blk_drew ?_ | refine blk_alloc ?_ _)); refine blk_far ?_ NB185_189.out _; (with_reducible repeat (first | refine blk_drewN ?_ _ | refine blk_drew ?_ | refine blk_alloc ?_ _)); exact BK185.out⟩, ⟨by (with_reducible repeat (first | refine blk_drewN ?_ _ | refine blk_drew ?_ | refine blk_alloc ?_ _)); refine blk_put (cs := #[.int .i64 x190000_1, .int .i64 x190001_2, .string x190002_2, .int .i64 x190003_2]) ?_ 3 _ rfl; (with_reducible repeat (first | refine blk_drewN ?_ _ | refine blk_drew ?_ | refine blk_alloc ?_ _)); exact BK189.out⟩, ⟨by repeat (first | (with_reducible first | exact HB.out | apply below_alloc | apply pw_below_drewN | apply below_drew1 | refine below_set ?_ GE185.out | refine below_set ?_ GE189.out) | exact HB.out)⟩⟩
                                  · replace c60 := Bool.eq_false_iff.mpr c60
                                    subst c60
                                    have H1 : (some (0, 0, (⟨#[]⟩ : ByteArray), 0, false)) = some (r1, r2, r3, r4, r5) := by rw [if_neg (show ¬ (false = true) by decide)] at H; exact H
                                    clear H
                                    have H := H1
                                    clear H1
                                    simp only [Option.some.injEq, Prod.mk.injEq] at H
                                    obtain ⟨rfl, rfl, rfl, rfl, rfl⟩ := H
                                    have p40 : 0 ≤ (x10_2 : Int) := of_decide_eq_true (by first | (with_reducible assumption) | assumption)
                                    have q40 : x10_2 < ((rdOf ByteArray.empty t196 x190000_1).size : Int) := of_decide_eq_true (by first | (with_reducible assumption) | assumption)
                                    have hx40 := bt_at (rdOf ByteArray.empty t196 x190000_1) x10_2
                                    replace p40 := eq_true p40
                                    replace q40 := eq_true q40
                                    have p203 : 0 ≤ ((ji56) : Int) := of_decide_eq_true (by first | (with_reducible assumption) | assumption)
                                    have q203 : (ji56) < (t186.length : Int) := of_decide_eq_true (by first | (with_reducible assumption) | assumption)
                                    obtain ⟨ad203, e203, hx203_0⟩ := Kd.at_string (Kd.R_reads' HO_4.out).2.2 (ji56) p203 q203
                                    obtain rfl : ad195 = ad203 := (by injection e203)
                                    replace p203 := eq_true p203
                                    replace q203 := eq_true q203
                                    go_wp2_with (first | ((with_reducible refine gate_callee (f := 35) rfl ?_); refine goesL_ (some 96) rfl rfl Try.func35 (by kernel_rfl) rfl #[.string (rdOf ByteArray.empty t186 (ji56))] rfl (by (try simp only [List.map_toArray, List.map_cons, List.map_nil]); first | done | (simp only [hji56]; rfl) | rfl | (simp only [List.length_drop, List.length_take]; rfl)) ?_; (with_reducible refine (larumref33_number.calls k2 (rdOf ByteArray.empty t186 (ji56)) t204 false _ A59.out).mono ?_); rintro e w69 ⟨rfl, hb⟩; refine ⟨_, rfl, ?_⟩; have n0_ := Aside0.mk (Kd.R_below (by (with_reducible repeat (first | apply Kd.R_alloc | apply Kd.R_drewN | apply Kd.R_drew)); exact HO_4.out) hb); have n1_ := Aside0.mk (blk_below (g := gb185) (o := .cells #[.int .i64 x186000_2, .int .i64 x186001_2, .string x186002_2, .int .i64 x186003_2] 29 (0, 0)) (by (with_reducible repeat (first | refine blk_drewN ?_ _ | refine blk_drew ?_ | refine blk_alloc ?_ _)); exact BK185.out) hb); have n2_ := Aside0.mk (blk_below (g := gb189) (o := .cells #[.int .i64 x190000_1, .int .i64 x190001_2, .string x190002_2, .int .i64 x190003_2] 29 (0, 0)) (by (with_reducible repeat (first | refine blk_drewN ?_ _ | refine blk_drew ?_ | refine blk_alloc ?_ _)); exact BK189.out) hb); have n3_ := Aside0.mk (below_step (by repeat (first | (with_reducible first | exact HB.out | apply below_alloc | apply pw_below_drewN | apply below_drew1 | refine below_set ?_ GE185.out | refine below_set ?_ GE189.out) | exact HB.out)) hb); clear HO_4; clear BK185; clear BK189; clear HB; have HO_4 := n0_; have BK185 := n1_; have BK189 := n2_; have HB := n3_; clear n0_ n1_ n2_ n3_; (try clear hb); (try clear hb2); (try clear hk); (try clear hi); have hnb70 := NB185_189.out; have hnc70 := NB189_185.out; have hcz71_0 : w69.cell? ⟨gb185, 0, none⟩ = some (.int .i64 x186000_2) := (blk_cell BK185.out 0).trans rfl; have hcz71_1 : w69.cell? ⟨gb185, 1, none⟩ = some (.int .i64 x186001_2) := (blk_cell BK185.out 1).trans rfl; have hcz71_2 : w69.cell? ⟨gb185, 2, none⟩ = some (.string x186002_2) := (blk_cell BK185.out 2).trans rfl; have hcz71_3 : w69.cell? ⟨gb185, 3, none⟩ = some (.int .i64 x186003_2) := (blk_cell BK185.out 3).trans rfl; have hfz71_0 := blk_frozen BK185.out 0; have hfz71_1 := blk_frozen BK185.out 1; have hfz71_2 := blk_frozen BK185.out 2; have hfz71_3 := blk_frozen BK185.out 3))
                                    refine bodyPost_ret (results_ct rfl _ _ gb185 29 #[.int .i64 0, .int .i64 0, .string (⟨#[]⟩ : ByteArray), .int .i64 0] (0, 0) _ rfl (by (with_reducible repeat (first | refine blk_drewN ?_ _ | refine blk_drew ?_ | refine blk_alloc ?_ _)); refine blk_put (cs := #[.int .i64 0, .int .i64 0, .string (⟨#[]⟩ : ByteArray), .int .i64 x186003_2]) ?_ 3 _ rfl; (with_reducible repeat (first | refine blk_drewN ?_ _ | refine blk_drew ?_ | refine blk_alloc ?_ _)); refine blk_put (cs := #[.int .i64 0, .int .i64 0, .string x186002_2, .int .i64 x186003_2]) ?_ 2 _ rfl; (with_reducible repeat (first | refine blk_drewN ?_ _ | refine blk_drew ?_ | refine blk_alloc ?_ _)); refine blk_put (cs := #[.int .i64 0, .int .i64 x186001_2, .string x186002_2, .int .i64 x186003_2]) ?_ 1 _ rfl; (with_reducible repeat (first | refine blk_drewN ?_ _ | refine blk_drew ?_ | refine blk_alloc ?_ _)); refine blk_put (cs := #[.int .i64 x186000_2, .int .i64 x186001_2, .string x186002_2, .int .i64 x186003_2]) ?_ 0 _ rfl; (with_reducible repeat (first | refine blk_drewN ?_ _ | refine blk_drew ?_ | refine blk_alloc ?_ _)); exact BK185.out) Try.underlying29 rfl (by kernel_rfl)) rfl ?_
                                    exact ⟨by first | rfl | (simp [errW_none, errW_some] <;> rfl) | (simp only [← hji56]; first | rfl | (simp [errW_none, errW_some] <;> rfl)) | (simp [*, errW_none, errW_some] <;> rfl) | (simp [gp_ne]; done) | (simp [gp_ne, i64_w, i32_w, *]; done) | (simp [i64_w, i32_w]; (try unfold wrap64); (try unfold wrap32); omega), by repeat (first | (with_reducible first | exact HB.out | apply below_alloc | apply pw_below_drewN | apply below_drew1 | refine below_set ?_ GE185.out | refine below_set ?_ GE189.out) | exact HB.out)⟩
                                · rw [if_neg c58] at H
                                  exact absurd H (by simp)
                              · rw [if_neg c57] at H
                                exact absurd H (by simp)
                        · rw [if_neg c39] at H
                          exact absurd H (by simp)
                    · rw [if_neg c35] at H
                      have c35b0 : decide (x10_2 < ((rdOf ByteArray.empty t196 x190000_1).size : Int)) = false := decide_eq_false c35
                      clear c35
                      by_cases c72 : x8_2 = (a0.size : Int)
                      · rw [if_pos c72] at H
                        have c72b0 : (x8_2 == (a0.size : Int)) = true := beq_iff_eq.mpr c72
                        have c72b1 : (x8_2 != (a0.size : Int)) = false := bne_eq_false_iff_eq.mpr c72
                        clear c72
                        simp only [Option.some.injEq, Prod.mk.injEq] at H
                        obtain ⟨rfl, rfl, rfl, rfl, rfl⟩ := H
                        have hnb73 := NB189_185.out
                        have hnc73 := NB185_189.out
                        have hcz74_0 : wr.cell? ⟨gb189, 0, none⟩ = some (.int .i64 x190000_1) := (blk_cell BK189.out 0).trans rfl
                        have hcz74_1 : wr.cell? ⟨gb189, 1, none⟩ = some (.int .i64 x190001_2) := (blk_cell BK189.out 1).trans rfl
                        have hcz74_2 : wr.cell? ⟨gb189, 2, none⟩ = some (.string x190002_2) := (blk_cell BK189.out 2).trans rfl
                        have hcz74_3 : wr.cell? ⟨gb189, 3, none⟩ = some (.int .i64 x190003_2) := (blk_cell BK189.out 3).trans rfl
                        have hfz74_0 := blk_frozen BK189.out 0
                        have hfz74_1 := blk_frozen BK189.out 1
                        have hfz74_2 := blk_frozen BK189.out 2
                        have hfz74_3 := blk_frozen BK189.out 3
                        have hcz75_0 : wr.cell? ⟨gb185, 0, none⟩ = some (.int .i64 x186000_2) := (blk_cell BK185.out 0).trans rfl
                        have hcz75_1 : wr.cell? ⟨gb185, 1, none⟩ = some (.int .i64 x186001_2) := (blk_cell BK185.out 1).trans rfl
                        have hcz75_2 : wr.cell? ⟨gb185, 2, none⟩ = some (.string x186002_2) := (blk_cell BK185.out 2).trans rfl
                        have hcz75_3 : wr.cell? ⟨gb185, 3, none⟩ = some (.int .i64 x186003_2) := (blk_cell BK185.out 3).trans rfl
                        have hfz75_0 := blk_frozen BK185.out 0
                        have hfz75_1 := blk_frozen BK185.out 1
                        have hfz75_2 := blk_frozen BK185.out 2
                        have hfz75_3 := blk_frozen BK185.out 3
                        go_wp2
                        refine bodyPost_ret (results_ct rfl _ _ gb185 29 #[.int .i64 x190000_1, .int .i64 x190001_2, .string x190002_2, .int .i64 x190003_2] (0, 0) _ rfl (by (with_reducible repeat (first | refine blk_drewN ?_ _ | refine blk_drew ?_ | refine blk_alloc ?_ _)); refine blk_put (cs := #[.int .i64 x190000_1, .int .i64 x190001_2, .string x190002_2, .int .i64 x186003_2]) ?_ 3 _ rfl; (with_reducible repeat (first | refine blk_drewN ?_ _ | refine blk_drew ?_ | refine blk_alloc ?_ _)); refine blk_put (cs := #[.int .i64 x190000_1, .int .i64 x190001_2, .string x186002_2, .int .i64 x186003_2]) ?_ 2 _ rfl; (with_reducible repeat (first | refine blk_drewN ?_ _ | refine blk_drew ?_ | refine blk_alloc ?_ _)); refine blk_put (cs := #[.int .i64 x190000_1, .int .i64 x186001_2, .string x186002_2, .int .i64 x186003_2]) ?_ 1 _ rfl; (with_reducible repeat (first | refine blk_drewN ?_ _ | refine blk_drew ?_ | refine blk_alloc ?_ _)); refine blk_put (cs := #[.int .i64 x186000_2, .int .i64 x186001_2, .string x186002_2, .int .i64 x186003_2]) ?_ 0 _ rfl; (with_reducible repeat (first | refine blk_drewN ?_ _ | refine blk_drew ?_ | refine blk_alloc ?_ _)); exact BK185.out) Try.underlying29 rfl (by kernel_rfl)) rfl ?_
                        exact ⟨by first | rfl | (simp [errW_none, errW_some] <;> rfl) | (simp [*, errW_none, errW_some] <;> rfl) | (simp [gp_ne]; done) | (simp [gp_ne, i64_w, i32_w, *]; done) | (simp [i64_w, i32_w]; (try unfold wrap64); (try unfold wrap32); omega), by repeat (first | (with_reducible first | exact HB.out | apply below_alloc | apply pw_below_drewN | apply below_drew1 | refine below_set ?_ GE185.out | refine below_set ?_ GE189.out) | exact HB.out)⟩
                      · rw [if_neg c72] at H
                        have c72b0 : (x8_2 == (a0.size : Int)) = false := beq_eq_false_iff_ne.mpr c72
                        have c72b1 : (x8_2 != (a0.size : Int)) = true := bne_iff_ne.mpr c72
                        simp only [Option.some.injEq, Prod.mk.injEq] at H
                        obtain ⟨rfl, rfl, rfl, rfl, rfl⟩ := H
                        have hnb76 := NB185_189.out
                        have hnc76 := NB189_185.out
                        have hcz77_0 : wr.cell? ⟨gb185, 0, none⟩ = some (.int .i64 x186000_2) := (blk_cell BK185.out 0).trans rfl
                        have hcz77_1 : wr.cell? ⟨gb185, 1, none⟩ = some (.int .i64 x186001_2) := (blk_cell BK185.out 1).trans rfl
                        have hcz77_2 : wr.cell? ⟨gb185, 2, none⟩ = some (.string x186002_2) := (blk_cell BK185.out 2).trans rfl
                        have hcz77_3 : wr.cell? ⟨gb185, 3, none⟩ = some (.int .i64 x186003_2) := (blk_cell BK185.out 3).trans rfl
                        have hfz77_0 := blk_frozen BK185.out 0
                        have hfz77_1 := blk_frozen BK185.out 1
                        have hfz77_2 := blk_frozen BK185.out 2
                        have hfz77_3 := blk_frozen BK185.out 3
                        go_wp2
                        refine bodyPost_ret (results_ct rfl _ _ gb185 29 #[.int .i64 0, .int .i64 0, .string (⟨#[]⟩ : ByteArray), .int .i64 0] (0, 0) _ rfl (by (with_reducible repeat (first | refine blk_drewN ?_ _ | refine blk_drew ?_ | refine blk_alloc ?_ _)); refine blk_put (cs := #[.int .i64 0, .int .i64 0, .string (⟨#[]⟩ : ByteArray), .int .i64 x186003_2]) ?_ 3 _ rfl; (with_reducible repeat (first | refine blk_drewN ?_ _ | refine blk_drew ?_ | refine blk_alloc ?_ _)); refine blk_put (cs := #[.int .i64 0, .int .i64 0, .string x186002_2, .int .i64 x186003_2]) ?_ 2 _ rfl; (with_reducible repeat (first | refine blk_drewN ?_ _ | refine blk_drew ?_ | refine blk_alloc ?_ _)); refine blk_put (cs := #[.int .i64 0, .int .i64 x186001_2, .string x186002_2, .int .i64 x186003_2]) ?_ 1 _ rfl; (with_reducible repeat (first | refine blk_drewN ?_ _ | refine blk_drew ?_ | refine blk_alloc ?_ _)); refine blk_put (cs := #[.int .i64 x186000_2, .int .i64 x186001_2, .string x186002_2, .int .i64 x186003_2]) ?_ 0 _ rfl; (with_reducible repeat (first | refine blk_drewN ?_ _ | refine blk_drew ?_ | refine blk_alloc ?_ _)); exact BK185.out) Try.underlying29 rfl (by kernel_rfl)) rfl ?_
                        exact ⟨by first | rfl | (simp [errW_none, errW_some] <;> rfl) | (simp [*, errW_none, errW_some] <;> rfl) | (simp [gp_ne]; done) | (simp [gp_ne, i64_w, i32_w, *]; done) | (simp [i64_w, i32_w]; (try unfold wrap64); (try unfold wrap32); omega), by repeat (first | (with_reducible first | exact HB.out | apply below_alloc | apply pw_below_drewN | apply below_drew1 | refine below_set ?_ GE185.out | refine below_set ?_ GE189.out) | exact HB.out)⟩
              · rw [if_neg c28] at H
                exact absurd H (by simp)
            · rw [if_neg c27] at H
              exact absurd H (by simp)
          · rw [if_neg c25] at H
            exact absurd H (by simp)

end Go.Proofs.Ytmdfgndndfggeaa.PDeskParse
