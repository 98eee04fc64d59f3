-- By gp.py, a program of this session: the print of the kit with contracts of this session's own beside it.
import Derived.Test.YtghpfjbjiieemaaPPinNilx0
namespace Go.Proofs.Ytghpfjbjiieemaa.PPinNil
open Go.RowKit Go.Proofs.Ytghpfjbjiieemaa.Gp Go.Proofs.YtghpfjbjiieemaaW.PrintWords Go.Proofs.YtghpfjbjiieemaaW.PrintLast Go.Proofs.YtghpfjbjiieemaaW.PrintMore
attribute [local go_sem] max2_int min2_int max_two min_two max_three min_three max_four min_four gp_gtr gp_leq gp_geq   -- for this text's walks alone
set_option linter.unusedVariables false
set_option linter.unusedSimpArgs false

/-! ### larumlaw21_PinNil: function 5 -/
def PinSt (w : World) (base g : Nat) (L : List S52) (most last : Int) : Prop := ∃ v, w.heap[g]? = some (.cells #[v, .int .i64 most, .int .i64 last] 48 (0, 0)) ∧ base ≤ g ∧ Kd.R k52 52 w base (fun _ => True) v L
set_option maxHeartbeats 8000000 in
set_option maxRecDepth 100000 in
theorem pin_New.callsS (w : World) : Calls Try.prog 6 #[.int .i64 4] w fun e w' => ∃ g_ : Nat, e = .returned (.pointer (some ⟨g_, 0, none⟩)) ∧ PinSt w' w.heap.size g_ [] 4 0 ∧ Below w.heap.size w w' := by
  have hu48 := Try.underlying48
  have HB := Aside0.mk (Below.refl w.heap.size w)
  go_enter Try.func6, Try.ntmps6
  go_wp2_with (first | ((with_reducible refine gate_dst (N := 6) rfl ?_); refine box_event ?hg (N := 6) ?hd (cs := #[.slice none 0 0, .int .i64 4, .int .i64 0]) (t := 48) ?hr ?_; (case hd => rfl); (case hg => rfl); (case hr => first | (go_simp; done) | (go_simp; rfl)); intro gb101 hg w3 hbox hb; have BK := Aside0.mk hbox; have HG := Aside0.mk hg; have HB3 := Aside0.mk hb; clear hb hbox hg))
  go_ret
  exact ⟨_, rfl, ⟨_, BK.out, by rw [HG.out]; exact Nat.le_refl _, Kd.R_nil _ _ _ _ _⟩, HB3.out⟩
set_option maxHeartbeats 8000000 in
set_option maxRecDepth 100000 in
theorem pin_Add.callsS (base g : Nat) (L : List S52) (most last rev until_ : Int) (w : World) (h : PinSt w base g L most last) (hr : 0 ≤ rev) (hl : (L.length : Int) < most) (hlast : -1 ≤ last ∧ last ≤ 1000000) (hlen : L.length ≤ 1000) :
    Calls Try.prog 16 #[.pointer (some ⟨g, 0, none⟩), .int .i64 rev, .int .i64 until_] w fun e w' => e = .returned (.tuple #[.int .i64 (last + 1), .int .i64 0]) ∧ PinSt w' base g (L ++ [⟨last + 1, rev, until_⟩]) most (last + 1) ∧ Below base w w' := by
  have hu48 := Try.underlying48
  have hu52 := Try.underlying52
  have hu46 := Try.underlying46
  have hu23 := Try.underlying23
  obtain ⟨v, hb, hg, hR⟩ := h
  obtain ⟨A, c, rfl⟩ := Kd.R_slice hR
  have BK := Aside0.mk hb
  have HG := Aside0.mk hg
  have HR := Aside0.mk hR
  have HLEN := Aside0.mk hlen
  have hc1 : decide (rev < 0) = false := decide_eq_false (by omega)
  have hc2 : decide ((L.length : Int) ≥ most) = false := decide_eq_false (by omega)
  have hw1 : wrap64 (last + 1) = last + 1 := by unfold wrap64; omega
  clear hg hR hlen
  go_enter Try.func16, Try.ntmps16
  go_upto_region 5 with fail
  refine start_ (n := 11) (S := fun w' => w'.cell? ⟨g, 0, none⟩ = some (.slice A L.length c) ∧ w'.cell? ⟨g, 1, none⟩ = some (.int .i64 most)) (ds := []) #[false, false, false, false, false, false, false, false, false, false, false] (by kernel_rfl) rfl rfl ⟨(blk_cell hb 0).trans rfl, (blk_cell hb 1).trans rfl⟩ (fun hHeld => ?_)
  refine pure_ (i := 0) (N := some 15) (v := ?_) (a' := ?_) #[true, false, false, false, false, false, false, false, false, false, false] rfl rfl (by kernel_rfl) (fun _ _ _ h => h) (Or.inl ⟨by rfl, ?_⟩) ?_ ?_
  rotate_left
  · intro w'
    go_simp
    with_reducible rfl
  rotate_left
  · simp only [Act.put, List.setIfInBounds_toArray, List.set_cons_zero, List.set_cons_succ, i64_w, i32_w]
    rfl
  refine pure_ (i := 1) (N := some 16) (v := ?_) (a' := ?_) #[true, true, false, false, false, false, false, false, false, false, false] rfl rfl (by kernel_rfl) (fun _ _ _ h => h) (Or.inl ⟨by rfl, ?_⟩) ?_ ?_
  rotate_left
  · intro w'
    go_simp
    with_reducible rfl
  rotate_left
  · simp only [Act.put, List.setIfInBounds_toArray, List.set_cons_zero, List.set_cons_succ, i64_w, i32_w]
    rfl
  refine pure_ (i := 2) (N := some 17) (v := ?_) (a' := ?_) #[true, true, true, false, false, false, false, false, false, false, false] rfl rfl (by kernel_rfl) (fun _ _ _ h => h) (Or.inl ⟨by rfl, ?_⟩) ?_ ?_
  rotate_left
  · intro w'
    go_simp
    with_reducible rfl
  rotate_left
  · simp only [Act.put, List.setIfInBounds_toArray, List.set_cons_zero, List.set_cons_succ, i64_w, i32_w]
    rfl
  refine pure_ (i := 5) (N := some 20) (v := ?_) (a' := ?_) #[true, true, true, false, false, true, false, false, false, false, false] rfl rfl (by kernel_rfl) (fun _ _ _ h => h) (Or.inl ⟨by rfl, ?_⟩) ?_ ?_
  rotate_left
  · intro w'
    go_simp
    with_reducible rfl
  rotate_left
  · simp only [Act.put, List.setIfInBounds_toArray, List.set_cons_zero, List.set_cons_succ, i64_w, i32_w]
    rfl
  refine pure_ (i := 6) (N := some 21) (v := ?_) (a' := ?_) #[true, true, true, false, false, true, true, false, false, false, false] rfl rfl (by kernel_rfl) (fun _ _ _ h => h) (Or.inl ⟨by rfl, ?_⟩) ?_ ?_
  rotate_left
  · intro w'
    go_simp
    with_reducible rfl
  rotate_left
  · simp only [Act.put, List.setIfInBounds_toArray, List.set_cons_zero, List.set_cons_succ, i64_w, i32_w]
    rfl
  refine pure_ (i := 7) (N := some 22) (v := ?_) (a' := ?_) #[true, true, true, false, false, true, true, true, false, false, false] rfl rfl (by kernel_rfl) (fun _ _ _ h => h) (Or.inl ⟨by rfl, ?_⟩) ?_ ?_
  rotate_left
  · intro w'
    go_simp
    with_reducible rfl
  rotate_left
  · simp only [Act.put, List.setIfInBounds_toArray, List.set_cons_zero, List.set_cons_succ, i64_w, i32_w]
    rfl
  refine take_ (i := 3) (N := some 18) (v := ?_) (a' := ?_) #[true, true, true, true, false, true, true, true, false, false, false] rfl rfl (by kernel_rfl) (fun _ _ _ h => h) (Or.inl ⟨by rfl, ?_⟩) hHeld ?_ ?_
  rotate_left
  · rintro w' ⟨s0, s1⟩
    go_simp
    with_reducible rfl
  rotate_left
  · simp only [Act.put, List.setIfInBounds_toArray, List.set_cons_zero, List.set_cons_succ, i64_w, i32_w]
    rfl
  refine pure_ (i := 4) (N := some 19) (v := ?_) (a' := ?_) #[true, true, true, true, true, true, true, true, false, false, false] rfl rfl (by kernel_rfl) (fun _ _ _ h => h) (Or.inl ⟨by rfl, ?_⟩) ?_ ?_
  rotate_left
  · intro w'
    go_simp
    with_reducible rfl
  rotate_left
  · simp only [Act.put, List.setIfInBounds_toArray, List.set_cons_zero, List.set_cons_succ, i64_w, i32_w]
    rfl
  refine take_ (i := 8) (N := some 23) (v := ?_) (a' := ?_) #[true, true, true, true, true, true, true, true, true, false, false] rfl rfl (by kernel_rfl) (fun _ _ _ h => h) (Or.inl ⟨by rfl, ?_⟩) hHeld ?_ ?_
  rotate_left
  · rintro w' ⟨s0, s1⟩
    go_simp
    with_reducible rfl
  rotate_left
  · simp only [Act.put, List.setIfInBounds_toArray, List.set_cons_zero, List.set_cons_succ, i64_w, i32_w]
    rfl
  refine pure_ (i := 9) (N := some 24) (v := ?_) (a' := ?_) #[true, true, true, true, true, true, true, true, true, true, false] rfl rfl (by kernel_rfl) (fun _ _ _ h => h) (Or.inl ⟨by rfl, ?_⟩) ?_ ?_
  rotate_left
  · intro w'
    go_simp
    with_reducible rfl
  rotate_left
  · simp only [Act.put, List.setIfInBounds_toArray, List.set_cons_zero, List.set_cons_succ, i64_w, i32_w]
    rfl
  refine pure_ (i := 10) (N := some 14) (v := ?_) (a' := ?_) #[true, true, true, true, true, true, true, true, true, true, true] rfl rfl (by kernel_rfl) (fun _ _ _ h => h) (Or.inl ⟨by rfl, ?_⟩) ?_ ?_
  rotate_left
  · intro w'
    go_simp
    with_reducible rfl
  rotate_left
  · simp only [Act.put, List.setIfInBounds_toArray, List.set_cons_zero, List.set_cons_succ, i64_w, i32_w]
    rfl
  refine done_ (by kernel_rfl) ?_
  have hc0 := blk_cell BK.out 0
  have hcc2 := blk_cell BK.out 2
  have hf2 := blk_frozen BK.out 2
  go_upto_region 8 with fail
  have HB2_ : Below base w (w.setCell ⟨g, 2, none⟩ (.int .i64 (last + 1))).drew := below_drew (Below.setCell (Below.refl _ _) HG.out _)
  have BK2_ : (w.setCell ⟨g, 2, none⟩ (.int .i64 (last + 1))).drew.heap[g]? = some (.cells #[.slice A L.length c, .int .i64 most, .int .i64 (last + 1)] 48 (0, 0)) := blk_drew (by simpa using blk_set BK.out 2 (.int .i64 (last + 1)))
  have HR2_ : Kd.R k52 52 (w.setCell ⟨g, 2, none⟩ (.int .i64 (last + 1))).drew base (fun _ => True) (.slice A L.length c) L := Kd.R_drew (Kd.R_set HR.out BK.out (by decide) 2 _)
  clear hc0 hcc2 hf2
  generalize (w.setCell ⟨g, 2, none⟩ (.int .i64 (last + 1))).drew = w2 at HB2_ BK2_ HR2_ ⊢
  have HB2 := Aside0.mk HB2_
  have BK2 := Aside0.mk BK2_
  have HR2 := Aside0.mk HR2_
  clear HB2_ BK2_ HR2_
  refine start_ (n := 17) (S := fun w' => w'.cell? ⟨g, 0, none⟩ = some (.slice A L.length c) ∧ w'.cell? ⟨g, 2, none⟩ = some (.int .i64 (last + 1))) (ds := [16]) #[false, false, false, false, false, false, false, false, false, false, false, false, false, false, false, false, false] (by kernel_rfl) rfl rfl ⟨(blk_cell BK2.out 0).trans rfl, (blk_cell BK2.out 2).trans rfl⟩ (fun hHeld => ?_)
  have BK2d_ := blk_drew BK2.out
  have HR2d_ := Kd.R_drew HR2.out
  have HB2d_ := below_drew HB2.out
  clear BK2 HR2 HB2
  generalize w2.drew = w2d at BK2d_ HR2d_ HB2d_ hHeld ⊢
  have BK2d := Aside0.mk BK2d_
  have HR2d := Aside0.mk HR2d_
  have HB2d := Aside0.mk HB2d_
  clear BK2d_ HR2d_ HB2d_
  refine pure_ (i := 0) (N := some 32) (v := ?_) (a' := ?_) #[true, false, false, false, false, false, false, false, false, false, false, false, false, false, false, false, false] rfl rfl (by kernel_rfl) (fun _ _ _ h => h) (Or.inl ⟨by rfl, ?_⟩) ?_ ?_
  rotate_left
  · intro w'
    go_simp
    with_reducible rfl
  rotate_left
  · simp only [Act.put, List.setIfInBounds_toArray, List.set_cons_zero, List.set_cons_succ, i64_w, i32_w]
    rfl
  refine pure_ (i := 1) (N := some 33) (v := ?_) (a' := ?_) #[true, true, false, false, false, false, false, false, false, false, false, false, false, false, false, false, false] rfl rfl (by kernel_rfl) (fun _ _ _ h => h) (Or.inl ⟨by rfl, ?_⟩) ?_ ?_
  rotate_left
  · intro w'
    go_simp
    with_reducible rfl
  rotate_left
  · simp only [Act.put, List.setIfInBounds_toArray, List.set_cons_zero, List.set_cons_succ, i64_w, i32_w]
    rfl
  refine pure_ (i := 2) (N := some 34) (v := ?_) (a' := ?_) #[true, true, true, false, false, false, false, false, false, false, false, false, false, false, false, false, false] rfl rfl (by kernel_rfl) (fun _ _ _ h => h) (Or.inl ⟨by rfl, ?_⟩) ?_ ?_
  rotate_left
  · intro w'
    go_simp
    with_reducible rfl
  rotate_left
  · simp only [Act.put, List.setIfInBounds_toArray, List.set_cons_zero, List.set_cons_succ, i64_w, i32_w]
    rfl
  refine pure_ (i := 3) (N := some 35) (v := ?_) (a' := ?_) #[true, true, true, true, false, false, false, false, false, false, false, false, false, false, false, false, false] rfl rfl (by kernel_rfl) (fun _ _ _ h => h) (Or.inl ⟨by rfl, ?_⟩) ?_ ?_
  rotate_left
  · intro w'
    go_simp
    with_reducible rfl
  rotate_left
  · simp only [Act.put, List.setIfInBounds_toArray, List.set_cons_zero, List.set_cons_succ, i64_w, i32_w]
    rfl
  refine pure_ (i := 5) (N := some 37) (v := ?_) (a' := ?_) #[true, true, true, true, false, true, false, false, false, false, false, false, false, false, false, false, false] rfl rfl (by kernel_rfl) (fun _ _ _ h => h) (Or.inl ⟨by rfl, ?_⟩) ?_ ?_
  rotate_left
  · intro w'
    go_simp
    with_reducible rfl
  rotate_left
  · simp only [Act.put, List.setIfInBounds_toArray, List.set_cons_zero, List.set_cons_succ, i64_w, i32_w]
    rfl
  refine pure_ (i := 6) (N := some 38) (v := ?_) (a' := ?_) #[true, true, true, true, false, true, true, false, false, false, false, false, false, false, false, false, false] rfl rfl (by kernel_rfl) (fun _ _ _ h => h) (Or.inl ⟨by rfl, ?_⟩) ?_ ?_
  rotate_left
  · intro w'
    go_simp
    with_reducible rfl
  rotate_left
  · simp only [Act.put, List.setIfInBounds_toArray, List.set_cons_zero, List.set_cons_succ, i64_w, i32_w]
    rfl
  refine pure_ (i := 7) (N := some 39) (v := ?_) (a' := ?_) #[true, true, true, true, false, true, true, true, false, false, false, false, false, false, false, false, false] rfl rfl (by kernel_rfl) (fun _ _ _ h => h) (Or.inl ⟨by rfl, ?_⟩) ?_ ?_
  rotate_left
  · intro w'
    go_simp
    with_reducible rfl
  rotate_left
  · simp only [Act.put, List.setIfInBounds_toArray, List.set_cons_zero, List.set_cons_succ, i64_w, i32_w]
    rfl
  refine pure_ (i := 9) (N := some 41) (v := ?_) (a' := ?_) #[true, true, true, true, false, true, true, true, false, true, false, false, false, false, false, false, false] rfl rfl (by kernel_rfl) (fun _ _ _ h => h) (Or.inl ⟨by rfl, ?_⟩) ?_ ?_
  rotate_left
  · intro w'
    go_simp
    with_reducible rfl
  rotate_left
  · simp only [Act.put, List.setIfInBounds_toArray, List.set_cons_zero, List.set_cons_succ, i64_w, i32_w]
    rfl
  refine pure_ (i := 10) (N := some 42) (v := ?_) (a' := ?_) #[true, true, true, true, false, true, true, true, false, true, true, false, false, false, false, false, false] rfl rfl (by kernel_rfl) (fun _ _ _ h => h) (Or.inl ⟨by rfl, ?_⟩) ?_ ?_
  rotate_left
  · intro w'
    go_simp
    with_reducible rfl
  rotate_left
  · simp only [Act.put, List.setIfInBounds_toArray, List.set_cons_zero, List.set_cons_succ, i64_w, i32_w]
    rfl
  refine take_ (i := 4) (N := some 36) (v := ?_) (a' := ?_) #[true, true, true, true, true, true, true, true, false, true, true, false, false, false, false, false, false] rfl rfl (by kernel_rfl) (fun _ _ _ h => h) (Or.inl ⟨by rfl, ?_⟩) hHeld ?_ ?_
  rotate_left
  · rintro w' ⟨s0, s1⟩
    go_simp
    with_reducible rfl
  rotate_left
  · simp only [Act.put, List.setIfInBounds_toArray, List.set_cons_zero, List.set_cons_succ, i64_w, i32_w]
    rfl
  refine take_ (i := 8) (N := some 40) (v := ?_) (a' := ?_) #[true, true, true, true, true, true, true, true, true, true, true, false, false, false, false, false, false] rfl rfl (by kernel_rfl) (fun _ _ _ h => h) (Or.inl ⟨by rfl, ?_⟩) hHeld ?_ ?_
  rotate_left
  · rintro w' ⟨s0, s1⟩
    go_simp
    with_reducible rfl
  rotate_left
  · simp only [Act.put, List.setIfInBounds_toArray, List.set_cons_zero, List.set_cons_succ, i64_w, i32_w]
    rfl
  refine pure_ (i := 11) (N := some 43) (v := ?_) (a' := ?_) #[true, true, true, true, true, true, true, true, true, true, true, true, false, false, false, false, false] rfl rfl (by kernel_rfl) (fun _ _ _ h => h) (Or.inl ⟨by rfl, ?_⟩) ?_ ?_
  rotate_left
  · intro w'
    go_simp
    with_reducible rfl
  rotate_left
  · simp only [Act.put, List.setIfInBounds_toArray, List.set_cons_zero, List.set_cons_succ, i64_w, i32_w]
    rfl
  refine one_ (i := 12) (N := some 44) #[true, true, true, true, true, true, true, true, true, true, true, true, true, false, false, false, false] rfl rfl (by kernel_rfl) (by decide) (fun K hK => ?_)
  refine value_ (w1 := ?_) (v := ?_) (by rfl) rfl ?_ ?_
  rotate_left 2
  · go_simp
    constructor
    · rfl
    · rfl
  refine hK.out _ _ ⟨(blk_cell (blk_alloc BK2d.out _) 0).trans rfl, (blk_cell (blk_alloc BK2d.out _) 2).trans rfl⟩ (fun hHeld => ?_)
  clear hK K
  refine norm_ (a' := ?_) ?_ ?_
  rotate_left
  · show Act.put _ (some 44) _ = _
    simp only [Act.put, List.setIfInBounds_toArray, List.set_cons_zero, List.set_cons_succ, i64_w, i32_w]
    rfl
  refine one_ (i := 13) (N := some 45) #[true, true, true, true, true, true, true, true, true, true, true, true, true, true, false, false, false] rfl rfl (by kernel_rfl) (by decide) (fun K hK => ?_)
  refine Kd.R_append_step k52 (w0 := w) base (by rfl) (.tmp 36) (.tmp 44) 46 52 (.agg #[.int .i64 0, .int .i64 0, .int .i64 0]) 24 rfl Try.underlying46 info52 rfl (by decide) (by omega) (.slice A L.length c) L (⟨last + 1, rev, until_⟩ : S52) [.int .i64 (last + 1), .int .i64 rev, .int .i64 until_] (fun _ => True) (fun _ => False) rfl rfl ?aP (fun _ hk => hk.elim) ?aF ?aO ?aB ?aS ?aL ?_
  (case aP => exact k52_mkM _ _ _ (⟨last + 1, rev, until_⟩ : S52))
  (case aF => exact (fun _ _ => trivial))
  (case aO => exact HR2d.out)
  (case aB => exact HB2d.out)
  (case aS => exact Nat.le_trans HG.out (Nat.le_of_lt (blk_lt BK2d.out)))
  (case aL => have := HLEN.out; omega)
  intro v3 w3 ho hbb hg3 hat
  obtain ⟨A3, c3, rfl⟩ := Kd.R_slice ho
  rw [List.length_append, List.length_singleton] at ho
  have BK3 := Aside0.mk (blk_grown (g := g) BK2d.out hg3 (Kd.R_ne HR2d.out BK2d.out (by decide)))
  have HR3 := Aside0.mk ho
  have HB3 := Aside0.mk hbb
  clear ho hbb hg3 hat
  refine hK.out _ _ ⟨(blk_cell BK3.out 0).trans rfl, (blk_cell BK3.out 2).trans rfl⟩ (fun hHeld => ?_)
  clear hK K
  refine norm_ (a' := ?_) ?_ ?_
  rotate_left
  · show Act.put _ (some 45) _ = _
    simp only [Act.put, List.setIfInBounds_toArray, List.set_cons_zero, List.set_cons_succ, i64_w, i32_w]
    rfl
  refine pure_ (i := 14) (N := some 46) (v := ?_) (a' := ?_) #[true, true, true, true, true, true, true, true, true, true, true, true, true, true, true, false, false] rfl rfl (by kernel_rfl) (fun _ _ _ h => h) (Or.inl ⟨by rfl, ?_⟩) ?_ ?_
  rotate_left
  · intro w'
    go_simp
    with_reducible rfl
  rotate_left
  · simp only [Act.put, List.setIfInBounds_toArray, List.set_cons_zero, List.set_cons_succ, i64_w, i32_w]
    rfl
  refine pure_ (i := 15) (N := some 47) (v := ?_) (a' := ?_) #[true, true, true, true, true, true, true, true, true, true, true, true, true, true, true, true, false] rfl rfl (by kernel_rfl) (fun _ _ _ h => h) (Or.inl ⟨by rfl, ?_⟩) ?_ ?_
  rotate_left
  · intro w'
    go_simp
    with_reducible rfl
  rotate_left
  · simp only [Act.put, List.setIfInBounds_toArray, List.set_cons_zero, List.set_cons_succ, i64_w, i32_w]
    rfl
  refine last_ (i := 16) (N := none) #[true, true, true, true, true, true, true, true, true, true, true, true, true, true, true, true, true] rfl rfl (by kernel_rfl) (by decide) (fun K hK => ?_)
  have hs0 := (blk_cell BK3.out 0).trans (rfl : _ = some (Value.slice A L.length c))
  have hsf := blk_frozen BK3.out 0
  refine skip_ (w1 := ?_) (by rfl) rfl ?_ ?_
  rotate_left
  · go_simp
    rfl
  refine hK.out _ _ ?_
  clear hK K
  refine done_ (by kernel_rfl) ?_
  have BK4 := Aside0.mk (show (w3.setCell ⟨g, 0, none⟩ (.slice A3 (L.length + 1) c3)).heap[g]? = some (.cells #[.slice A3 (L.length + 1) c3, .int .i64 most, .int .i64 (last + 1)] 48 (0, 0)) by simpa using blk_set BK3.out 0 (.slice A3 (L.length + 1) c3))
  have HR4 := Aside0.mk (Kd.R_set HR3.out BK3.out (by decide) 0 (.slice A3 (L.length + 1) c3))
  have HB4 := Aside0.mk (Below.setCell HB3.out (p := ⟨g, 0, none⟩) HG.out (.slice A3 (L.length + 1) c3))
  clear hs0 hsf
  have hc5 := blk_cell BK4.out 2
  go_wp2_with fail
  go_ret2
  exact ⟨rfl, ⟨_, BK4.out, HG.out, HR4.out⟩, HB4.out⟩

theorem PinSt.below {w w' : World} {base g : Nat} {L : List S52} {most last : Int} (h : PinSt w base g L most last) (hb : Below w.heap.size w w') : PinSt w' base g L most last := by
  obtain ⟨v, h1, h2, h3⟩ := h
  exact ⟨v, blk_below h1 hb, h2, Kd.R_below h3 hb⟩
set_option maxHeartbeats 8000000 in
set_option maxRecDepth 100000 in
theorem pin_Len.callsN (w : World) : Calls Try.prog 9 #[.pointer none] w fun e w' => e = .returned (.int .i64 0) ∧ Below w.heap.size w w' := by
  have hu23 := Try.underlying23
  go_enter Try.func9, Try.ntmps9
  go_wp2
  go_ret
  exact ⟨rfl, Below.refl _ _⟩
set_option maxHeartbeats 8000000 in
set_option maxRecDepth 100000 in
theorem pin_Len.callsS (base g : Nat) (L : List S52) (most last : Int) (w : World) (h : PinSt w base g L most last) : Calls Try.prog 9 #[.pointer (some ⟨g, 0, none⟩)] w fun e w' => e = .returned (.int .i64 L.length) ∧ Below w.heap.size w w' := by
  have hu23 := Try.underlying23
  have hu48 := Try.underlying48
  have hu46 := Try.underlying46
  obtain ⟨v, hb, hg, hR⟩ := h
  obtain ⟨A, c, rfl⟩ := Kd.R_slice hR
  have hc0 := blk_cell hb 0
  clear hR
  go_enter Try.func9, Try.ntmps9
  go_wp2
  go_ret
  exact ⟨rfl, Below.refl _ _⟩
set_option maxHeartbeats 8000000 in
set_option maxRecDepth 100000 in
theorem pin_find.callsN (id : Int) (w : World) : Calls Try.prog 24 #[.pointer none, .int .i64 id] w fun e w' => e = .returned (.int .i64 (-1)) ∧ Below w.heap.size w w' := by
  have hu23 := Try.underlying23
  go_enter Try.func24, Try.ntmps24
  go_wp2
  go_ret
  exact ⟨rfl, below_alloc (Below.refl _ _) _⟩
set_option maxHeartbeats 8000000 in
set_option maxRecDepth 100000 in
theorem pin_Add.callsN (a b : Int) (w : World) : Calls Try.prog 16 #[.pointer none, .int .i64 a, .int .i64 b] w fun e w' => e = .returned (.tuple #[.int .i64 0, .int .i64 2]) ∧ Below w.heap.size w w' := by
  have hu23 := Try.underlying23
  go_enter Try.func16, Try.ntmps16
  go_wp2
  go_ret2
  exact ⟨rfl, Below.refl _ _⟩
set_option maxHeartbeats 8000000 in
set_option maxRecDepth 100000 in
theorem pin_Rev.callsN (a : Int) (w : World) : Calls Try.prog 11 #[.pointer none, .int .i64 a] w fun e w' => e = .returned (.tuple #[.int .i64 0, .bool false]) ∧ Below w.heap.size w w' := by
  have hu23 := Try.underlying23
  go_enter Try.func11, Try.ntmps11
  go_wp2_with (go_at_call 24; refine (pin_find.callsN a _).mono ?_; rintro e w1 ⟨rfl, hb⟩)
  go_ret2
  exact ⟨rfl, hb⟩
set_option maxHeartbeats 8000000 in
set_option maxRecDepth 100000 in
theorem pin_Keep.callsN (a b : Int) (w : World) : Calls Try.prog 17 #[.pointer none, .int .i64 a, .int .i64 b] w fun e w' => e = .returned (.bool false) ∧ Below w.heap.size w w' := by
  have hu23 := Try.underlying23
  go_enter Try.func17, Try.ntmps17
  go_wp2_with (go_at_call 24; refine (pin_find.callsN a _).mono ?_; rintro e w1 ⟨rfl, hb⟩)
  go_ret
  exact ⟨rfl, hb⟩
set_option maxHeartbeats 8000000 in
set_option maxRecDepth 100000 in
theorem pin_without.callsN (f : Value) (w : World) : Calls Try.prog 26 #[.pointer none, f] w fun e w' => e = .returned (.int .i64 0) ∧ Below w.heap.size w w' := by
  have hu23 := Try.underlying23
  go_enter Try.func26, Try.ntmps26
  go_wp2
  go_ret
  exact ⟨rfl, Below.refl _ _⟩
set_option maxHeartbeats 8000000 in
set_option maxRecDepth 100000 in
theorem pin_Drop.callsN (a : Int) (w : World) : Calls Try.prog 18 #[.pointer none, .int .i64 a] w fun e w' => e = .returned (.bool false) ∧ Below w.heap.size w w' := by
  have hu23 := Try.underlying23
  go_enter Try.func18, Try.ntmps18
  go_wp2_with (go_at_call 26; refine (pin_without.callsN _ _).mono ?_; rintro e w1 ⟨rfl, hb⟩)
  go_ret
  exact ⟨rfl, below_step (below_alloc (Below.refl _ _) _) hb⟩
set_option maxHeartbeats 8000000 in
set_option maxRecDepth 100000 in
theorem pin_Expire.callsN (a : Int) (w : World) : Calls Try.prog 19 #[.pointer none, .int .i64 a] w fun e w' => e = .returned (.int .i64 0) ∧ Below w.heap.size w w' := by
  have hu23 := Try.underlying23
  go_enter Try.func19, Try.ntmps19
  go_wp2_with (go_at_call 26; refine (pin_without.callsN _ _).mono ?_; rintro e w1 ⟨rfl, hb⟩)
  go_ret
  exact ⟨rfl, below_step (below_alloc (Below.refl _ _) _) hb⟩
set_option maxHeartbeats 8000000 in
set_option maxRecDepth 100000 in
theorem pin_Least.callsN (w : World) : Calls Try.prog 13 #[.pointer none] w fun e w' => e = .returned (.tuple #[.int .i64 0, .bool false]) ∧ Below w.heap.size w w' := by
  have hu23 := Try.underlying23
  go_enter Try.func13, Try.ntmps13
  go_wp2_with (go_at_call 9; refine (pin_Len.callsN _).mono ?_; rintro e w1 ⟨rfl, hb⟩)
  go_ret2
  exact ⟨rfl, hb⟩

def pinLow (L : List S52) (r : Int) : Int := L.foldl (fun r x => if x.f1 < r then x.f1 else r) r
theorem pinLow_step (L : List S52) (r : Int) (i : Nat) (h : i < L.length) : pinLow (L.take (i + 1)) r = if (rd_T52 L (i : Int)).f1 < pinLow (L.take i) r then (rd_T52 L (i : Int)).f1 else pinLow (L.take i) r := by
  have e : rd_T52 L (i : Int) = L[i] := by
    unfold rd_T52
    rw [Int.toNat_natCast, List.getD_eq_getElem?_getD, List.getElem?_eq_getElem h]
    rfl
  unfold pinLow
  rw [e, List.take_succ_eq_append_getElem h, List.foldl_append]
  rfl
set_option maxHeartbeats 8000000 in
set_option maxRecDepth 100000 in
theorem pin_Least.callsS (base g : Nat) (L : List S52) (most last : Int) (w : World) (h : PinSt w base g L most last) (hne : 0 < L.length) (hlen : L.length ≤ 1000) : Calls Try.prog 13 #[.pointer (some ⟨g, 0, none⟩)] w fun e w' => e = .returned (.tuple #[.int .i64 (pinLow L (rd_T52 L 0).f1), .bool true]) ∧ Below w.heap.size w w' := by
  have hu23 := Try.underlying23
  have hu48 := Try.underlying48
  have hu46 := Try.underlying46
  have hu52 := Try.underlying52
  have HS := Aside0.mk h
  obtain ⟨v, hb, hg, hR⟩ := h
  obtain ⟨A, c, rfl⟩ := Kd.R_slice hR
  have HR := Aside0.mk hR
  have HLEN := Aside0.mk hlen
  have HNE := Aside0.mk hne
  have BK := Aside0.mk hb
  clear hR hlen hne
  have hz : ((L.length : Int) == 0) = false := by have := HNE.out; rw [beq_eq_false_iff_ne]; omega
  go_enter Try.func13, Try.ntmps13
  go_upto_region 3 with (go_at_call 9; refine (pin_Len.callsS base g L most last _ HS.out).mono ?_; rintro e w1 ⟨rfl, hb1⟩; have BK1 := Aside0.mk (blk_below BK.out hb1); have HR1 := Aside0.mk (Kd.R_below HR.out hb1); have HB1 := Aside0.mk hb1; clear hb1)
  have p0 : (0 : Int) ≤ 0 := by omega
  have q0 : (0 : Int) < (L.length : Int) := by have := HNE.out; omega
  obtain ⟨ad, e0, hx0, hx1, hx2⟩ := at_T52 (Kd.R_reads' HR1.out).2.2 0 p0 q0
  cases e0
  have q1 : ((0 : Int) < (L.length : Int)) = True := eq_true q0
  have q2 : (0 < L.length) = True := eq_true HNE.out
  simp only [show (0 : Int).toNat = 0 from rfl, Nat.zero_mul, Nat.reduceMul, Nat.reduceEqDiff, Go.Addr.add, ↓reduceIte, Nat.add_zero] at hx0 hx1 hx2
  have hc0 := blk_cell BK1.out 0
  go_wp2
  clear hx0 hx1 hx2 q2
  go_loopg [22, 4] (L.length + 1) (fun kq v22 v4 wr => ∃ i : Nat, v22 = .int .i64 (i : Int) ∧ v4 = .int .i64 (pinLow (L.take i) (rd_T52 L 0).f1) ∧ Aside0 (i + kq = L.length + 1 ∧ i ≤ L.length) ∧ Aside0 (Below w1.heap.size w1 wr))
  case atStart => exact ⟨0, rfl, rfl, ⟨by omega, by omega⟩, ⟨Below.refl _ _⟩⟩
  case round =>
    obtain ⟨i, rfl, rfl, HI, HW⟩ := hrel
    cases gk with
    | zero => have := HI.out; omega
    | succ k1 =>
      clear hc0
      by_cases c2 : (i : Int) < (L.length : Int)
      · have c2b : decide ((i : Int) < (L.length : Int)) = true := decide_eq_true c2
        have p2 : (0 : Int) ≤ (i : Int) := by omega
        obtain ⟨ad2, e2, hx0, hx1, hx2⟩ := at_T52 (Kd.R_reads' (Kd.R_below HR1.out HW.out)).2.2 (i : Int) p2 c2
        cases e2
        have p2t : ((0 : Int) ≤ (i : Int)) = True := eq_true p2
        have q2t : ((i : Int) < (L.length : Int)) = True := eq_true c2
        have q2n : (i < L.length) = True := eq_true (by omega)
        simp only [Int.toNat_natCast] at hx0 hx1 hx2
        have hw2 : wrap64 ((i : Int) + 1) = ((i + 1 : Nat) : Int) := by have := HLEN.out; unfold wrap64; omega
        by_cases c3 : (rd_T52 L (i : Int)).f1 < pinLow (L.take i) (rd_T52 L 0).f1
        · go_wp2
          go_roundg k1
          case measure => omega
          case rel => exact ⟨i + 1, by first | rw [hw2] | simp, by rw [pinLow_step L _ i (by omega), if_pos c3], ⟨by have := HI.out; omega⟩, ⟨below_alloc HW.out _⟩⟩
        · go_wp2
          go_roundg k1
          case measure => omega
          case rel => exact ⟨i + 1, by first | rw [hw2] | simp, by rw [pinLow_step L _ i (by omega), if_neg (by omega)], ⟨by have := HI.out; omega⟩, ⟨below_alloc HW.out _⟩⟩
      · have c2b : decide ((i : Int) < (L.length : Int)) = false := decide_eq_false c2
        go_wp2
        go_ret2
        have hi : i = L.length := by have := HI.out; omega
        subst hi
        rw [List.take_length]
        exact ⟨rfl, below_step HB1.out HW.out⟩

set_option maxHeartbeats 8000000 in
set_option maxRecDepth 100000 in
theorem pin_awake.callsS (w : World) : Calls Try.prog 15 #[] w fun e w' => e = .returned (.bool true) ∧ Below w.heap.size w w' := by
  have hu23 := Try.underlying23
  go_enter Try.func15, Try.ntmps15
  go_wp2_with fail
  refine (pin_New.callsS _).mono ?_
  rintro e w1 ⟨g, rfl, h1, b1⟩
  go_wp2_with fail
  refine (pin_Add.callsS _ g [] 4 0 5 10 _ h1 (by omega) (by simp) (by omega) (by simp)).mono ?_
  rintro e w2 ⟨rfl, h2, b2⟩
  go_wp2_with fail
  refine (pin_Add.callsS _ g _ 4 (0 + 1) 3 10 _ h2 (by omega) (by simp) (by omega) (by simp)).mono ?_
  rintro e w3 ⟨rfl, h3, b3⟩
  go_wp2_with fail
  refine (pin_Least.callsS _ g _ 4 (0 + 1 + 1) _ h3 (by simp) (by simp)).mono ?_
  rintro e w4 ⟨rfl, b4⟩
  have hlow : pinLow (([] : List S52) ++ [⟨0 + 1, 5, 10⟩] ++ [⟨0 + 1 + 1, 3, 10⟩]) (rd_T52 (([] : List S52) ++ [⟨0 + 1, 5, 10⟩] ++ [⟨0 + 1 + 1, 3, 10⟩]) 0).f1 = 3 := by decide
  rw [hlow]
  go_wp2_with fail
  go_ret
  exact ⟨rfl, below_step ((b1.trans b2).trans b3) b4⟩
set_option maxHeartbeats 8000000 in
set_option maxRecDepth 100000 in
theorem larumlaw21_PinNil.callsS (a b : Int) (w : World) : Calls Try.prog 5 #[.int .i64 a, .int .i64 b] w fun e w' => e = .returned (.bool true) ∧ Below w.heap.size w w' := by
  have hu23 := Try.underlying23
  go_enter Try.func5, Try.ntmps5
  go_wp2_with fail
  refine (pin_Add.callsN a b _).mono ?_
  rintro e w1 ⟨rfl, b1⟩
  go_wp2_with fail
  refine (pin_Rev.callsN a _).mono ?_
  rintro e w2 ⟨rfl, b2⟩
  go_wp2_with fail
  refine (pin_Least.callsN _).mono ?_
  rintro e w3 ⟨rfl, b3⟩
  go_wp2_with fail
  refine (pin_Keep.callsN a b _).mono ?_
  rintro e w4 ⟨rfl, b4⟩
  go_wp2_with fail
  refine (pin_Drop.callsN a _).mono ?_
  rintro e w5 ⟨rfl, b5⟩
  go_wp2_with fail
  refine (pin_Expire.callsN b _).mono ?_
  rintro e w6 ⟨rfl, b6⟩
  go_wp2_with fail
  refine (pin_Len.callsN _).mono ?_
  rintro e w7 ⟨rfl, b7⟩
  go_wp2_with fail
  refine (pin_awake.callsS _).mono ?_
  rintro e w8 ⟨rfl, b8⟩
  go_wp2_with fail
  go_ret
  exact ⟨rfl, below_step (below_step (below_step (below_step (below_step (below_step (below_step b1 b2) b3) b4) b5) b6) b7) b8⟩
def larumlaw21_PinNil.f (k : Nat) (a0 : Int) (a1 : Int) : Option (Bool) := some true
def larumlaw21_PinNil.Pure : Prop := ∀ (a0 : Int) (a1 : Int), (Lit.int .i64 a0).wf = true → (Lit.int .i64 a1).wf = true → ∃ k, larumlaw21_PinNil.f k a0 a1 = some true
theorem larumlaw21_PinNil.walk (P : larumlaw21_PinNil.Pure) (a0 : Int) (a1 : Int) (w : World) (w0 : (Lit.int .i64 a0).wf = true) (w1 : (Lit.int .i64 a1).wf = true) :
    Calls Try.prog 5 #[.int .i64 a0, .int .i64 a1] w fun e w' => e = .returned (.bool true) ∧ Below w.heap.size w w' := larumlaw21_PinNil.callsS a0 a1 w


end Go.Proofs.Ytghpfjbjiieemaa.PPinNil
