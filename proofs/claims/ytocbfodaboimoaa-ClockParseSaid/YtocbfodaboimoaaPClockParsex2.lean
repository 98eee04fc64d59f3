-- By gp.py, a program of this session: the print of the kit with contracts of this session's own beside it.
import Derived.Test.YtocbfodaboimoaaPClockParsex0
import Derived.Test.YtocbfodaboimoaaPClockParsex1
namespace Go.Proofs.Ytocbfodaboimoaa.PClockParse
open Go.RowKit Go.Proofs.Ytocbfodaboimoaa.Gp Go.Proofs.YtocbfodaboimoaaW.PrintWords Go.Proofs.YtocbfodaboimoaaW.PrintLast Go.Proofs.YtocbfodaboimoaaW.PrintMore
attribute [local go_sem] max2_int min2_int max_two min_two max_three min_three max_four min_four gp_gtr gp_leq gp_geq   -- for this text's walks alone
set_option linter.unusedVariables false
set_option linter.unusedSimpArgs false

/-! ### clock_Print: function 13 -/
def clock_Print.Blk (w : World) (g e : Nat) (m : Nat × Nat) (l : List Int) : Prop := w.heap[g]? = some (.cells (l.map (Value.int .u8)).toArray e m)
theorem clock_Print.Blk.cell {w : World} {g e : Nat} {m : Nat × Nat} {l : List Int} (h : clock_Print.Blk w g e m l) {i : Nat} (hi : i < l.length) : w.cell? ⟨g, i, none⟩ = some (.int .u8 (l.getD i 0)) := by
  rw [cell_of_row w g i _ e m h]
  simp [List.getElem?_eq_getElem hi, List.getD_eq_getElem?_getD]
theorem clock_Print.Blk.frozen {w : World} {g e : Nat} {m : Nat × Nat} {l : List Int} (h : clock_Print.Blk w g e m l) {i : Nat} (hi : i < m.1) : w.frozen? ⟨g, i, none⟩ = false := by
  obtain ⟨a, b⟩ := m
  simp [World.frozen?, show w.heap[g]? = _ from h]
  omega
theorem clock_Print.Blk.set {w : World} {g e : Nat} {m : Nat × Nat} {l : List Int} (h : clock_Print.Blk w g e m l) (i : Nat) (x : Int) : clock_Print.Blk (w.setCell ⟨g, i, none⟩ (.int .u8 x)) g e m (l.set i x) := by
  unfold clock_Print.Blk at h ⊢
  simp [World.setCell, Array.getElem?_modify, h]
/-- Digits of a number at a place. -/
def clock_Print.putL : Nat → List Int → Nat → Int → List Int
  | 0, l, _, _ => l
  | n + 1, l, at_, v => clock_Print.putL n (l.set (at_ + n) (48 + v % 10)) at_ (v / 10)
theorem clock_Print.putL_len : ∀ (n : Nat) (l : List Int) (at_ : Nat) (v : Int), (clock_Print.putL n l at_ v).length = l.length
  | 0, _, _, _ => rfl
  | n + 1, l, at_, v => by
    show (clock_Print.putL n (l.set (at_ + n) (48 + v % 10)) at_ (v / 10)).length = l.length
    rw [clock_Print.putL_len n]; simp
def clock_Print.pat : List Int := [48, 48, 48, 48, 45, 48, 48, 45, 48, 48, 84, 48, 48, 58, 48, 48, 58, 48, 48, 90]
def clock_Print.PutRel (B : Nat) (w wr : World) (g e : Nat) (l : List Int) (at_ n : Nat) (v : Int) (v3 v8 : Value) : Prop := ∃ (j : Nat) (l' : List Int) (v' : Int), v3 = .int .i64 v' ∧ v8 = .int .i64 ((j : Int) - 1) ∧ j ≤ n ∧ 0 ≤ v' ∧ v' ≤ 1000000 ∧ l'.length = l.length ∧ clock_Print.Blk wr g e (20, 21) l' ∧ Below B w wr ∧ clock_Print.putL n l at_ v = clock_Print.putL j l' at_ v'
set_option maxHeartbeats 4000000 in
set_option maxRecDepth 100000 in
theorem clock_Print.put_calls (B : Nat) (w0 w : World) (g e : Nat) (l : List Int) (at_ n : Nat) (v : Int) (h : clock_Print.Blk w g e (20, 21) l) (hl : l.length = 20) (hn : at_ + n ≤ 20) (hv : 0 ≤ v) (hv' : v ≤ 1000000) (hB : Below B w0 w) (hg : B ≤ g) :
    Calls Try.prog 21 #[.slice (some ⟨g, 0, none⟩) 20 20, .int .i64 at_, .int .i64 n, .int .i64 v] w fun e_ w' => e_ = .returned (.tuple #[]) ∧ clock_Print.Blk w' g e (20, 21) (clock_Print.putL n l at_ v) ∧ Below B w0 w' := by
  have H := Aside0.mk h
  have HL := Aside0.mk hl
  have HB0 := Aside0.mk hB
  have HG := Aside0.mk hg
  clear h hl hB hg
  go_enter Try.func21, Try.ntmps21
  go_wp2
  go_loopw [3, 8] (fun v3 v8 w' => clock_Print.PutRel B w0 w' g e l at_ n v v3 v8) (fun _ v8 _ => (intOf v8 + 1).toNat)
  case atStart => exact ⟨n, l, v, rfl, rfl, Nat.le_refl _, hv, hv', rfl, H.out, HB0.out, rfl⟩
  case round =>
    obtain ⟨j, l', v', rfl, hv8, hj, h0, h1, hl', hb, hk, hp⟩ := hrel
    have HP := Aside0.mk hp
    have HB := Aside0.mk hb
    have HK := Aside0.mk hk
    have HL' := Aside0.mk hl'
    clear hp hb hk hl'
    cases j with
    | zero =>
      have hv8' : _ = Value.int .i64 (-1) := hv8
      clear hv8
      subst hv8'
      go_wp2
      go_end0
      refine ⟨rfl, ?_, HK.out⟩
      rw [HP.out]; exact HB.out
    | succ j =>
      have hv8' : _ = Value.int .i64 (j : Int) := hv8.trans (by congr 1; omega)
      clear hv8
      subst hv8'
      have hc := HB.out.cell (i := at_ + j) (by rw [HL'.out, HL.out]; omega)
      have hf := HB.out.frozen (i := at_ + j) (by show _ < 20; omega)
      go_wp2
      go_roundw
      case rel => exact ⟨j, l'.set (at_ + j) (48 + v' % 10), v' / 10, rfl, rfl, by omega, by omega, by omega, by rw [List.length_set]; exact HL'.out, HB.out.set _ _, HK.out.setCell HG.out _, HP.out⟩
      case measure => simp [intOf]
/-- A time's text. -/
def clock_Print.txt (y m d s : Int) : List Int :=
  clock_Print.putL 2 (clock_Print.putL 2 (clock_Print.putL 2 (clock_Print.putL 2 (clock_Print.putL 2 (clock_Print.putL 4 clock_Print.pat 0 y) 5 m) 8 d) 11 (s % 86400 / 3600)) 14 (s % 3600 / 60)) 17 (s % 60)
def clock_Print.f (k : Nat) (a0 : Int) : Option (ByteArray × Int) := if a0 < 0 then some (⟨#[]⟩, 1) else (if a0 > 137438953472 then some (⟨#[]⟩, 1) else ((clock_Date.f k (a0 / 86400)).bind fun b => if 0 ≤ b.1 ∧ b.1 ≤ 9999 ∧ 0 ≤ b.2.1 ∧ b.2.1 ≤ 99 ∧ 0 ≤ b.2.2.1 ∧ b.2.2.1 ≤ 99 then some (strOfNums (clock_Print.txt b.1 b.2.1 b.2.2.1 a0), 0) else none))
theorem clock_Print.mono : ∀ a0 k, LeO (clock_Print.f k a0) (clock_Print.f (k + 1) a0) := by
  intro a0 k
  unfold clock_Print.f
  exact LeO.ite (LeO.refl _) (LeO.ite (LeO.refl _) (LeO.bind (clock_Date.mono _ _) (fun _ => LeO.refl _)))
def clock_Print.blk : Obj := .cells #[.int .u8 48, .int .u8 48, .int .u8 48, .int .u8 48, .int .u8 45, .int .u8 48, .int .u8 48, .int .u8 45, .int .u8 48, .int .u8 48, .int .u8 84, .int .u8 48, .int .u8 48, .int .u8 58, .int .u8 48, .int .u8 48, .int .u8 58, .int .u8 48, .int .u8 48, .int .u8 90] 5 (20, 21)
set_option maxHeartbeats 8000000 in
set_option maxRecDepth 100000 in
theorem clock_Print.calls (k : Nat) (a0 : Int) (r1 : ByteArray) (r2 : Int) (w : World) (h : clock_Print.f k a0 = some (r1, r2)) :
    Calls Try.prog 13 #[.int .i64 a0] w fun e w' => e = .returned (.tuple #[.string r1, .int .i64 r2]) ∧ Below w.heap.size w w' := by
  unfold clock_Print.f at h
  by_cases c1 : a0 < 0
  · rw [if_pos c1] at h
    simp only [Option.some.injEq, Prod.mk.injEq] at h
    obtain ⟨rfl, rfl⟩ := h
    have c1b : decide (a0 < 0) = true := decide_eq_true c1
    clear c1
    go_enter Try.func13, Try.ntmps13
    go_wp2
    go_ret2
    exact ⟨rfl, Below.refl _ _⟩
  rw [if_neg c1] at h
  by_cases c2 : a0 > 137438953472
  · rw [if_pos c2] at h
    simp only [Option.some.injEq, Prod.mk.injEq] at h
    obtain ⟨rfl, rfl⟩ := h
    have c1b : decide (a0 < 0) = false := decide_eq_false c1
    have c2b : decide (137438953472 < a0) = true := decide_eq_true c2
    clear c1 c2
    go_enter Try.func13, Try.ntmps13
    go_wp2
    go_ret2
    exact ⟨rfl, Below.refl _ _⟩
  rw [if_neg c2] at h
  replace h := Option.bind_eq_some_iff.mp h
  obtain ⟨⟨y, m, d, q⟩, hd, h⟩ := h
  by_cases c3 : 0 ≤ y ∧ y ≤ 9999 ∧ 0 ≤ m ∧ m ≤ 99 ∧ 0 ≤ d ∧ d ≤ 99
  · rw [if_pos c3] at h
    simp only [Option.some.injEq, Prod.mk.injEq] at h
    obtain ⟨rfl, rfl⟩ := h
    obtain ⟨y0, y1, m0, m1, d0, d1⟩ := c3
    have A1 := Aside0.mk hd
    clear hd
    have hlo : 0 ≤ a0 := by omega
    have hhi : a0 ≤ 137438953472 := by omega
    clear c1 c2
    have HB : ∀ nd : Nat, Aside0 (Below w.heap.size w ((w.drewN nd).alloc clock_Print.blk)) := fun nd => ⟨(pw_below_drewN (Below.refl _ w) nd).alloc (Nat.le_refl _) _⟩
    have kc : ∀ (nd : Nat) (C : Array Value) (n c : Nat), Sem.run Try.prog (convert 45 45 (Value.slice (some ⟨w.heap.size, 0, none⟩) n c)) ((w.drewN nd).alloc (Obj.cells C 5)) = Result.ok (Value.slice (some ⟨w.heap.size, 0, none⟩) n c) ((w.drewN nd).alloc (Obj.cells C 5 (C.size, C.size + 1))) := fun nd C n c => Lib.run_convert_bytes_const (P := Try.prog) (w.drewN nd) 45 5 C n c Try.underlying45 Try.underlying5
    have HC : ∀ nd : Nat, Aside0 (clock_Print.Blk ((w.drewN nd).alloc clock_Print.blk) w.heap.size 5 (20, 21) clock_Print.pat) := fun nd => ⟨heap_alloc_new (w.drewN nd) clock_Print.blk⟩
    unfold clock_Print.blk at HC HB
    have P0 := fun (nd : Nat) => clock_Print.put_calls w.heap.size w _ w.heap.size 5 clock_Print.pat 0 4 y (HC nd).out rfl (by omega) y0 (by omega) (HB nd).out (Nat.le_refl _)
    clear HC HB
    go_enter Try.func13, Try.ntmps13
    go_wp2_with (go_at_call 11; (with_reducible refine (clock_Date.calls k (a0 / 86400) y m d q _ A1.out).mono ?_); rintro e w' ⟨rfl, ⟨nd, rfl⟩⟩)
    go_wp2_with fail
    refine (P0 nd).mono ?_
    rintro e w1 ⟨rfl, hb1, hB1⟩
    have HB1 := Aside0.mk hb1
    have HX1 := Aside0.mk hB1
    clear hb1 hB1 P0 kc
    have P1 := clock_Print.put_calls w.heap.size w w1 w.heap.size 5 _ 5 2 m HB1.out (by rw [clock_Print.putL_len]; rfl) (by omega) m0 (by omega) HX1.out (Nat.le_refl _)
    clear HB1 HX1
    go_wp2_with fail
    refine P1.mono ?_
    rintro e w2 ⟨rfl, hb2, hB2⟩
    have HB2 := Aside0.mk hb2
    have HX2 := Aside0.mk hB2
    clear hb2 hB2 P1
    have P2 := clock_Print.put_calls w.heap.size w w2 w.heap.size 5 _ 8 2 d HB2.out (by rw [clock_Print.putL_len, clock_Print.putL_len]; rfl) (by omega) d0 (by omega) HX2.out (Nat.le_refl _)
    clear HB2 HX2
    go_wp2_with fail
    refine P2.mono ?_
    rintro e w3 ⟨rfl, hb3, hB3⟩
    have HB3 := Aside0.mk hb3
    have HX3 := Aside0.mk hB3
    clear hb3 hB3 P2
    have P3 := clock_Print.put_calls w.heap.size w w3 w.heap.size 5 _ 11 2 (a0 % 86400 / 3600) HB3.out (by rw [clock_Print.putL_len, clock_Print.putL_len, clock_Print.putL_len]; rfl) (by omega) (by omega) (by omega) HX3.out (Nat.le_refl _)
    clear HB3 HX3
    go_wp2_with fail
    refine P3.mono ?_
    rintro e w4 ⟨rfl, hb4, hB4⟩
    have HB4 := Aside0.mk hb4
    have HX4 := Aside0.mk hB4
    clear hb4 hB4 P3
    have P4 := clock_Print.put_calls w.heap.size w w4 w.heap.size 5 _ 14 2 (a0 % 3600 / 60) HB4.out (by rw [clock_Print.putL_len, clock_Print.putL_len, clock_Print.putL_len, clock_Print.putL_len]; rfl) (by omega) (by omega) (by omega) HX4.out (Nat.le_refl _)
    clear HB4 HX4
    go_wp2_with fail
    refine P4.mono ?_
    rintro e w5 ⟨rfl, hb5, hB5⟩
    have HB5 := Aside0.mk hb5
    have HX5 := Aside0.mk hB5
    clear hb5 hB5 P4
    have P5 := clock_Print.put_calls w.heap.size w w5 w.heap.size 5 _ 17 2 (a0 % 60) HB5.out (by rw [clock_Print.putL_len, clock_Print.putL_len, clock_Print.putL_len, clock_Print.putL_len, clock_Print.putL_len]; rfl) (by omega) (by omega) (by omega) HX5.out (Nat.le_refl _)
    clear HB5 HX5
    go_wp2_with fail
    refine P5.mono ?_
    rintro e w6 ⟨rfl, hb6, hB6⟩
    have HB6 := Aside0.mk hb6
    have HX6 := Aside0.mk hB6
    clear hb6 hB6 P5
    have hlen : (clock_Print.txt y m d a0).length = 20 := by simp only [clock_Print.txt, clock_Print.putL_len]; rfl
    have hcell : ∀ i, i < 20 → w6.cell? ⟨w.heap.size, 0 + i, none⟩ = some (.int .u8 ((clock_Print.txt y m d a0).getD i 0)) := fun i hi => by
      rw [Nat.zero_add]
      exact clock_Print.Blk.cell (l := clock_Print.txt y m d a0) HB6.out (by rw [hlen]; exact hi)
    have hcv := run_convert_bytes_arg (P := Try.prog) w6 45 5 Try.underlying45 Try.underlying5 w.heap.size 0 20 20 (clock_Print.txt y m d a0) hlen hcell 9 Try.underlying9
    clear hlen hcell
    go_wp2
    go_ret2
    exact ⟨rfl, HX6.out⟩
  · rw [if_neg c3] at h
    exact absurd h (by simp)


/-! ### clock_Days: function 8 -/
mutual
def clock_Days.j0 : Nat → Int → Int → Int → Bool → Option (Int × Bool)
  | 0, _, _, _, _ => none
  | k + 1, x0, x1, x2, x34 => if x34 = true then (some (0, false)) else ((clock_ahead.f x0).bind fun t111 => ((clock_ahead.f 1970).bind fun t112 => (clock_Days.l0 k x0 x1 x2 (wrap64 (t111 - t112)) 1)))
def clock_Days.l0 : Nat → Int → Int → Int → Int → Int → Option (Int × Bool)
  | 0, _, _, _, _, _ => none
  | k + 1, x0, x1, x2, x8, x9 => if x9 < x1 then ((clock_length.f k x0 x9).bind fun t113 => (clock_Days.l0 k x0 x1 x2 (wrap64 (x8 + t113)) (wrap64 (x9 + 1)))) else (some (wrap64 (x8 + (wrap64 (x2 - 1))), true))
end
def clock_Days.f (k : Nat) (a0 : Int) (a1 : Int) (a2 : Int) : Option (Int × Bool) := if a0 < 1970 then (clock_Days.j0 k a0 a1 a2 true) else (if a0 > 9999 then (clock_Days.j0 k a0 a1 a2 true) else (if a1 < 1 then (clock_Days.j0 k a0 a1 a2 true) else (if a1 > 12 then (clock_Days.j0 k a0 a1 a2 true) else (if a2 < 1 then (clock_Days.j0 k a0 a1 a2 true) else ((clock_length.f k a0 a1).bind fun t110 => (clock_Days.j0 k a0 a1 a2 (decide (a2 > t110))))))))
theorem clock_Days.mono_l : ∀ k, (∀ y0 y1 y2 y3, LeO (clock_Days.j0 k y0 y1 y2 y3) (clock_Days.j0 (k + 1) y0 y1 y2 y3)) ∧ (∀ y0 y1 y2 y3 y4, LeO (clock_Days.l0 k y0 y1 y2 y3 y4) (clock_Days.l0 (k + 1) y0 y1 y2 y3 y4))
  | 0 => ⟨fun _ _ _ _ r h => by simp [clock_Days.j0] at h, fun _ _ _ _ _ r h => by simp [clock_Days.l0] at h⟩
  | k + 1 => by
    obtain ⟨ih0, ih1⟩ := clock_Days.mono_l k
    refine ⟨?_, ?_⟩
    · intro y0 y1 y2 y3
      unfold clock_Days.j0
      repeat' first
      | (with_reducible exact ih0 _ _ _ _)
      | (with_reducible exact ih1 _ _ _ _ _)
      | (with_reducible exact clock_length.mono _ _ _)
      | (with_reducible exact LeO.refl _)
      | (with_reducible exact LeO.none _)
      | (with_reducible refine LeO.ite ?_ ?_)
      | (with_reducible refine LeO.bind ?_ (fun _ => ?_))
      | exact ih0 _ _ _ _
      | exact ih1 _ _ _ _ _
      | exact clock_length.mono _ _ _
      | exact LeO.none _
      | refine LeO.ite ?_ ?_
      | refine LeO.bind ?_ (fun _ => ?_)
    · intro y0 y1 y2 y3 y4
      unfold clock_Days.l0
      repeat' first
      | (with_reducible exact ih0 _ _ _ _)
      | (with_reducible exact ih1 _ _ _ _ _)
      | (with_reducible exact clock_length.mono _ _ _)
      | (with_reducible exact LeO.refl _)
      | (with_reducible exact LeO.none _)
      | (with_reducible refine LeO.ite ?_ ?_)
      | (with_reducible refine LeO.bind ?_ (fun _ => ?_))
      | exact ih0 _ _ _ _
      | exact ih1 _ _ _ _ _
      | exact clock_length.mono _ _ _
      | exact LeO.none _
      | refine LeO.ite ?_ ?_
      | refine LeO.bind ?_ (fun _ => ?_)
theorem clock_Days.mono : ∀ a0 a1 a2 k, LeO (clock_Days.f k a0 a1 a2) (clock_Days.f (k + 1) a0 a1 a2) := by
  intro a0 a1 a2 k
  obtain ⟨ih0, ih1⟩ := clock_Days.mono_l k
  unfold clock_Days.f
  repeat' first
      | (with_reducible exact ih0 _ _ _ _)
      | (with_reducible exact ih1 _ _ _ _ _)
      | (with_reducible exact clock_length.mono _ _ _)
      | (with_reducible exact LeO.refl _)
      | (with_reducible exact LeO.none _)
      | (with_reducible refine LeO.ite ?_ ?_)
      | (with_reducible refine LeO.bind ?_ (fun _ => ?_))
      | exact ih0 _ _ _ _
      | exact ih1 _ _ _ _ _
      | exact clock_length.mono _ _ _
      | exact LeO.none _
      | refine LeO.ite ?_ ?_
      | refine LeO.bind ?_ (fun _ => ?_)
set_option maxHeartbeats 8000000 in
set_option maxRecDepth 100000 in
theorem clock_Days.calls (k : Nat) (a0 : Int) (a1 : Int) (a2 : Int) (r1 : Int) (r2 : Bool) (w : World) (h : clock_Days.f k a0 a1 a2 = some (r1, r2)) :
    Calls Try.prog 8 #[.int .i64 a0, .int .i64 a1, .int .i64 a2] w fun e w' => e = .returned (.tuple #[.int .i64 r1, .bool r2]) ∧ Drawn0 w w' := by
  have H : (if a0 < 1970 then (clock_Days.j0 k a0 a1 a2 true) else (if a0 > 9999 then (clock_Days.j0 k a0 a1 a2 true) else (if a1 < 1 then (clock_Days.j0 k a0 a1 a2 true) else (if a1 > 12 then (clock_Days.j0 k a0 a1 a2 true) else (if a2 < 1 then (clock_Days.j0 k a0 a1 a2 true) else ((clock_length.f k a0 a1).bind fun t110 => (clock_Days.j0 k a0 a1 a2 (decide (a2 > t110))))))))) = some (r1, r2) := h
  clear h
  have HC4 := Aside0.mk H
  clear H
  go_enter Try.func8, Try.ntmps8
  go_upto_region 1 with (fail)
  go_cut [34] (fun v34 wc => ∃ (kq : Nat) (x34_3 : Bool), v34 = .bool x34_3 ∧ Aside0 (clock_Days.j0 kq a0 a1 a2 x34_3 = some (r1, r2)) ∧ Aside0 (kq ≤ k) ∧ Drawn0 w wc)
  case first =>
    have H := HC4.out
    clear HC4
    by_cases c5 : a0 < 1970
    · rw [if_pos c5] at H
      have c5b0 : decide (a0 < 1970) = true := decide_eq_true c5
      clear c5
      (first | rw [c5b0] | (simp only [i64_w, i32_w]; rw [c5b0]) | skip)
      have H' := Aside0.mk H
      clear H
      go_wp2
      go_meet
      case rel => exact ⟨_, (true), (by first | rfl | (simp; done) | (simp [*]; done) | (simp only [i64_w, i32_w]; done) | (simp [i64_w, i32_w, *]; done) | (simp [gp_ne]; done) | (simp [gp_ne, i64_w, i32_w, *]; done) | (simp [i64_w, i32_w]; (try unfold wrap64); (try unfold wrap32); omega)), H', ⟨by first | omega | exact Nat.le_refl _⟩, by repeat (first | exact Drawn0.refl _ | apply Drawn0.step)⟩
    · rw [if_neg c5] at H
      have c5b0 : decide (a0 < 1970) = false := decide_eq_false c5
      clear c5
      (first | rw [c5b0] | (simp only [i64_w, i32_w]; rw [c5b0]) | skip)
      by_cases c6 : a0 > 9999
      · rw [if_pos c6] at H
        have c6b0 : decide (9999 < a0) = true := decide_eq_true c6
        clear c6
        have H' := Aside0.mk H
        clear H
        go_wp2
        go_meet
        case rel => exact ⟨_, (true), (by first | rfl | (simp; done) | (simp [*]; done) | (simp only [i64_w, i32_w]; done) | (simp [i64_w, i32_w, *]; done) | (simp [gp_ne]; done) | (simp [gp_ne, i64_w, i32_w, *]; done) | (simp [i64_w, i32_w]; (try unfold wrap64); (try unfold wrap32); omega)), H', ⟨by first | omega | exact Nat.le_refl _⟩, by repeat (first | exact Drawn0.refl _ | apply Drawn0.step)⟩
      · rw [if_neg c6] at H
        have c6b0 : decide (9999 < a0) = false := decide_eq_false c6
        clear c6
        by_cases c7 : a1 < 1
        · rw [if_pos c7] at H
          have c7b0 : decide (a1 < 1) = true := decide_eq_true c7
          clear c7
          have H' := Aside0.mk H
          clear H
          go_wp2
          go_meet
          case rel => exact ⟨_, (true), (by first | rfl | (simp; done) | (simp [*]; done) | (simp only [i64_w, i32_w]; done) | (simp [i64_w, i32_w, *]; done) | (simp [gp_ne]; done) | (simp [gp_ne, i64_w, i32_w, *]; done) | (simp [i64_w, i32_w]; (try unfold wrap64); (try unfold wrap32); omega)), H', ⟨by first | omega | exact Nat.le_refl _⟩, by repeat (first | exact Drawn0.refl _ | apply Drawn0.step)⟩
        · rw [if_neg c7] at H
          have c7b0 : decide (a1 < 1) = false := decide_eq_false c7
          clear c7
          by_cases c8 : a1 > 12
          · rw [if_pos c8] at H
            have c8b0 : decide (12 < a1) = true := decide_eq_true c8
            clear c8
            have H' := Aside0.mk H
            clear H
            go_wp2
            go_meet
            case rel => exact ⟨_, (true), (by first | rfl | (simp; done) | (simp [*]; done) | (simp only [i64_w, i32_w]; done) | (simp [i64_w, i32_w, *]; done) | (simp [gp_ne]; done) | (simp [gp_ne, i64_w, i32_w, *]; done) | (simp [i64_w, i32_w]; (try unfold wrap64); (try unfold wrap32); omega)), H', ⟨by first | omega | exact Nat.le_refl _⟩, by repeat (first | exact Drawn0.refl _ | apply Drawn0.step)⟩
          · rw [if_neg c8] at H
            have c8b0 : decide (12 < a1) = false := decide_eq_false c8
            clear c8
            by_cases c9 : a2 < 1
            · rw [if_pos c9] at H
              have c9b0 : decide (a2 < 1) = true := decide_eq_true c9
              clear c9
              have H' := Aside0.mk H
              clear H
              go_wp2
              go_meet
              case rel => exact ⟨_, (true), (by first | rfl | (simp; done) | (simp [*]; done) | (simp only [i64_w, i32_w]; done) | (simp [i64_w, i32_w, *]; done) | (simp [gp_ne]; done) | (simp [gp_ne, i64_w, i32_w, *]; done) | (simp [i64_w, i32_w]; (try unfold wrap64); (try unfold wrap32); omega)), H', ⟨by first | omega | exact Nat.le_refl _⟩, by repeat (first | exact Drawn0.refl _ | apply Drawn0.step)⟩
            · rw [if_neg c9] at H
              have c9b0 : decide (a2 < 1) = false := decide_eq_false c9
              clear c9
              replace H := Option.bind_eq_some_iff.mp H
              obtain ⟨t110, A100, H⟩ := H
              replace H : (clock_Days.j0 k a0 a1 a2 (decide (a2 > t110))) = some (r1, r2) := H
              have A10 := Aside0.mk A100
              clear A100
              have H' := Aside0.mk H
              clear H
              go_wp2_with (first | (go_at_call 17; (with_reducible refine (clock_length.calls k a0 a1 t110 _ A10.out).mono ?_); rintro e w' ⟨rfl, ⟨nd, rfl⟩⟩))
              go_meet
              case rel => exact ⟨_, (decide (a2 > t110)), (by first | rfl | (simp; done) | (simp [*]; done) | (simp only [i64_w, i32_w]; done) | (simp [i64_w, i32_w, *]; done) | (simp [gp_ne]; done) | (simp [gp_ne, i64_w, i32_w, *]; done) | (simp [i64_w, i32_w]; (try unfold wrap64); (try unfold wrap32); omega)), H', ⟨by first | omega | exact Nat.le_refl _⟩, by repeat (first | exact Drawn0.refl _ | apply Drawn0.step)⟩
  case rest =>
    clear HC4
    try clear p2
    try clear c5
    try clear c5b0
    try clear c6
    try clear c6b0
    try clear c7
    try clear c7b0
    try clear c8
    try clear c8b0
    try clear c9
    try clear c9b0
    obtain ⟨kq, x34_3, rfl, HA, HJ3, ⟨mc3, rfl⟩⟩ := hcut
    cases kq with
    | zero => exact absurd HA.out (by simp [clock_Days.j0])
    | succ kj3 =>
      have H := HA.out
      clear HA
      simp only [clock_Days.j0] at H
      by_cases c11 : x34_3 = true
      · subst c11
        have H1 : (some (0, false)) = some (r1, r2) := by rw [if_pos rfl] at H; exact H
        clear H
        have H := H1
        clear H1
        simp only [Option.some.injEq, Prod.mk.injEq] at H
        obtain ⟨rfl, rfl⟩ := H
        go_wp2
        go_ret2
        exact ⟨by first | rfl | (simp; done) | (simp [*]; done) | (simp only [i64_w, i32_w]; done) | (simp [i64_w, i32_w, *]; done) | (simp [gp_ne]; done) | (simp [gp_ne, i64_w, i32_w, *]; done) | (simp [i64_w, i32_w]; (try unfold wrap64); (try unfold wrap32); omega), by repeat (first | exact Drawn0.refl _ | apply Drawn0.step)⟩
      · replace c11 := Bool.eq_false_iff.mpr c11
        subst c11
        have H1 : ((clock_ahead.f a0).bind fun t111 => ((clock_ahead.f 1970).bind fun t112 => (clock_Days.l0 kj3 a0 a1 a2 (wrap64 (t111 - t112)) 1))) = some (r1, r2) := by rw [if_neg (show ¬ (false = true) by decide)] at H; exact H
        clear H
        have H := H1
        clear H1
        replace H := Option.bind_eq_some_iff.mp H
        obtain ⟨t111, A120, H⟩ := H
        replace H : ((clock_ahead.f 1970).bind fun t112 => (clock_Days.l0 kj3 a0 a1 a2 (wrap64 (t111 - t112)) 1)) = some (r1, r2) := H
        have A12 := Aside0.mk A120
        clear A120
        replace H := Option.bind_eq_some_iff.mp H
        obtain ⟨t112, A130, H⟩ := H
        replace H : (clock_Days.l0 kj3 a0 a1 a2 (wrap64 (t111 - t112)) 1) = some (r1, r2) := H
        have A13 := Aside0.mk A130
        clear A130
        have H' := Aside0.mk H
        clear H
        go_wp2_with (first | ((with_reducible refine gate_callee (f := 18) rfl ?_); refine goesL_ (some 36) rfl rfl Try.func18 (by kernel_rfl) rfl #[.int .i64 a0] rfl (by (try simp only [List.map_toArray, List.map_cons, List.map_nil]); first | done | rfl | (simp only [List.length_drop, List.length_take]; rfl)) ?_; (with_reducible refine (clock_ahead.calls a0 t111 _ A12.out).mono ?_); rintro e w' ⟨rfl, ⟨nd, rfl⟩⟩; refine ⟨_, rfl, ?_⟩) | ((with_reducible refine gate_callee (f := 18) rfl ?_); refine goesL_ (some 37) rfl rfl Try.func18 (by kernel_rfl) rfl #[.int .i64 1970] rfl (by (try simp only [List.map_toArray, List.map_cons, List.map_nil]); first | done | rfl | (simp only [List.length_drop, List.length_take]; rfl)) ?_; (with_reducible refine (clock_ahead.calls 1970 t112 _ A13.out).mono ?_); rintro e w' ⟨rfl, ⟨nd, rfl⟩⟩; refine ⟨_, rfl, ?_⟩))
        go_loopg [8, 9] kj3 (fun kq v8 v9 w' => ∃ (x8_2 : Int) (x9_2 : Int), v8 = .int .i64 x8_2 ∧ v9 = .int .i64 x9_2 ∧ Aside0 (clock_Days.l0 kq a0 a1 a2 x8_2 x9_2 = some (r1, r2)) ∧ Aside0 (kq ≤ kj3) ∧ Drawn0 w w')
        case atStart => exact ⟨(wrap64 (t111 - t112)), (1), (by first | rfl | (simp; done) | (simp [*]; done) | (simp only [i64_w, i32_w]; done) | (simp [i64_w, i32_w, *]; done) | (simp [gp_ne]; done) | (simp [gp_ne, i64_w, i32_w, *]; done) | (simp [i64_w, i32_w]; (try unfold wrap64); (try unfold wrap32); omega)), (by first | rfl | (simp; done) | (simp [*]; done) | (simp only [i64_w, i32_w]; done) | (simp [i64_w, i32_w, *]; done) | (simp [gp_ne]; done) | (simp [gp_ne, i64_w, i32_w, *]; done) | (simp [i64_w, i32_w]; (try unfold wrap64); (try unfold wrap32); omega)), H', ⟨Nat.le_refl _⟩, by repeat (first | exact Drawn0.refl _ | apply Drawn0.step)⟩
        case round =>
          clear H'
          try clear c1
          try clear p2
          try clear c3
          try clear c5
          try clear c5b0
          try clear c6
          try clear c6b0
          try clear p6
          try clear c7
          try clear c7b0
          try clear c8
          try clear c8b0
          try clear c9
          try clear c9b0
          try clear c11
          try clear p2
          obtain ⟨x8_2, x9_2, rfl, rfl, HA, HK2, ⟨m2, rfl⟩⟩ := hrel
          cases gk with
          | zero => exact absurd HA.out (by simp [clock_Days.l0])
          | succ k2 =>
            have H := HA.out
            clear HA
            simp only [clock_Days.l0] at H
            by_cases c14 : x9_2 < a1
            · rw [if_pos c14] at H
              have c14b0 : decide (x9_2 < a1) = true := decide_eq_true c14
              clear c14
              replace H := Option.bind_eq_some_iff.mp H
              obtain ⟨t113, A150, H⟩ := H
              replace H : (clock_Days.l0 k2 a0 a1 a2 (wrap64 (x8_2 + t113)) (wrap64 (x9_2 + 1))) = some (r1, r2) := H
              have A15 := Aside0.mk A150
              clear A150
              have H' := Aside0.mk H
              clear H
              go_wp2_with (first | ((with_reducible refine gate_callee (f := 17) rfl ?_); refine goesL_ (some 47) rfl rfl Try.func17 (by kernel_rfl) rfl #[.int .i64 a0, .int .i64 x9_2] rfl (by (try simp only [List.map_toArray, List.map_cons, List.map_nil]); first | done | rfl | (simp only [List.length_drop, List.length_take]; rfl)) ?_; (with_reducible refine (clock_length.calls k2 a0 x9_2 t113 _ A15.out).mono ?_); rintro e w' ⟨rfl, ⟨nd, rfl⟩⟩; refine ⟨_, rfl, ?_⟩))
              go_roundg k2
              case measure => have := HJ3.out; have := HK2.out; omega
              case rel => exact ⟨(wrap64 (x8_2 + t113)), (wrap64 (x9_2 + 1)), (by first | rfl | (simp; done) | (simp [*]; done) | (simp only [i64_w, i32_w]; done) | (simp [i64_w, i32_w, *]; done) | (simp [gp_ne]; done) | (simp [gp_ne, i64_w, i32_w, *]; done) | (simp [i64_w, i32_w]; (try unfold wrap64); (try unfold wrap32); omega)), (by first | rfl | (simp; done) | (simp [*]; done) | (simp only [i64_w, i32_w]; done) | (simp [i64_w, i32_w, *]; done) | (simp [gp_ne]; done) | (simp [gp_ne, i64_w, i32_w, *]; done) | (simp [i64_w, i32_w]; (try unfold wrap64); (try unfold wrap32); omega)), H', ⟨by have := HJ3.out; have := HK2.out; omega⟩, by repeat (first | exact Drawn0.refl _ | apply Drawn0.step)⟩
            · rw [if_neg c14] at H
              have c14b0 : decide (x9_2 < a1) = false := decide_eq_false c14
              clear c14
              simp only [Option.some.injEq, Prod.mk.injEq] at H
              obtain ⟨rfl, rfl⟩ := H
              go_wp2
              go_ret2
              exact ⟨by first | rfl | (simp; done) | (simp [*]; done) | (simp only [i64_w, i32_w]; done) | (simp [i64_w, i32_w, *]; done) | (simp [gp_ne]; done) | (simp [gp_ne, i64_w, i32_w, *]; done) | (simp [i64_w, i32_w]; (try unfold wrap64); (try unfold wrap32); omega), by repeat (first | exact Drawn0.refl _ | apply Drawn0.step)⟩

/-! ### chars_Digit: function 28 -/
def chars_Digit.f (a0 : Int) : Option (Bool) := if a0 ≥ 48 then (some (decide (a0 ≤ 57))) else (some false)
set_option maxHeartbeats 8000000 in
set_option maxRecDepth 100000 in
theorem chars_Digit.calls (a0 : Int) (r : Bool) (w : World) (h : chars_Digit.f a0 = some r) :
    Calls Try.prog 28 #[.int .u8 a0] w fun e w' => e = .returned (.bool r) ∧ Drawn0 w w' := by
  have H : (if a0 ≥ 48 then (some (decide (a0 ≤ 57))) else (some false)) = some r := h
  clear h
  by_cases c2 : a0 ≥ 48
  · rw [if_pos c2] at H
    have c2b0 : decide (48 ≤ a0) = true := decide_eq_true c2
    clear c2
    obtain rfl := Option.some.inj H
    go_enter Try.func28, Try.ntmps28
    go_wp2
    go_ret
    exact ⟨by first | rfl | (simp; done) | (simp [*]; done) | (simp only [i64_w, i32_w]; done) | (simp [i64_w, i32_w, *]; done) | (simp [gp_ne]; done) | (simp [gp_ne, i64_w, i32_w, *]; done) | (simp [i64_w, i32_w]; (try unfold wrap64); (try unfold wrap32); omega), by repeat (first | exact Drawn0.refl _ | apply Drawn0.step)⟩
  · rw [if_neg c2] at H
    have c2b0 : decide (48 ≤ a0) = false := decide_eq_false c2
    clear c2
    obtain rfl := Option.some.inj H
    go_enter Try.func28, Try.ntmps28
    go_wp2
    go_ret
    exact ⟨by first | rfl | (simp; done) | (simp [*]; done) | (simp only [i64_w, i32_w]; done) | (simp [i64_w, i32_w, *]; done) | (simp [gp_ne]; done) | (simp [gp_ne, i64_w, i32_w, *]; done) | (simp [i64_w, i32_w]; (try unfold wrap64); (try unfold wrap32); omega), by repeat (first | exact Drawn0.refl _ | apply Drawn0.step)⟩

/-! ### clock_like: function 22 -/
def clock_like.l0 : Nat → ByteArray → Int → Int → Option (Bool)
  | 0, _, _, _ => none
  | k + 1, x0, x9, x10 => if x10 < x9 then (if 0 ≤ x10 then (if x10 < 20 then (if (bt (⟨#[48, 48, 48, 48, 45, 48, 48, 45, 48, 48, 84, 48, 48, 58, 48, 48, 58, 48, 48, 90]⟩ : ByteArray) x10) = 48 then (if x10 < (x0.size : Int) then ((chars_Digit.f (bt x0 x10)).bind fun t114 => (if t114 = true then (clock_like.l0 k x0 x9 (wrap64 (x10 + 1))) else (some false))) else (none)) else (if x10 < (x0.size : Int) then (if (bt x0 x10) = (bt (⟨#[48, 48, 48, 48, 45, 48, 48, 45, 48, 48, 84, 48, 48, 58, 48, 48, 58, 48, 48, 90]⟩ : ByteArray) x10) then (clock_like.l0 k x0 x9 (wrap64 (x10 + 1))) else (some false)) else (none))) else (none)) else (none)) else (some true)
def clock_like.f (k : Nat) (a0 : ByteArray) : Option (Bool) := if (a0.size : Int) = 20 then (clock_like.l0 k a0 (a0.size : Int) 0) else (some false)
theorem clock_like.mono_l : ∀ k, (∀ y0 y1 y2, LeO (clock_like.l0 k y0 y1 y2) (clock_like.l0 (k + 1) y0 y1 y2))
  | 0 => fun _ _ _ r h => by simp [clock_like.l0] at h
  | k + 1 => by
    have ih0 := clock_like.mono_l k
    · intro y0 y1 y2
      unfold clock_like.l0
      repeat' first
      | (with_reducible exact ih0 _ _ _)
      | (with_reducible exact LeO.refl _)
      | (with_reducible exact LeO.none _)
      | (with_reducible refine LeO.ite ?_ ?_)
      | (with_reducible refine LeO.bind ?_ (fun _ => ?_))
      | exact ih0 _ _ _
      | exact LeO.none _
      | refine LeO.ite ?_ ?_
      | refine LeO.bind ?_ (fun _ => ?_)
theorem clock_like.mono : ∀ a0 k, LeO (clock_like.f k a0) (clock_like.f (k + 1) a0) := by
  intro a0 k
  have ih0 := clock_like.mono_l k
  unfold clock_like.f
  repeat' first
      | (with_reducible exact ih0 _ _ _)
      | (with_reducible exact LeO.refl _)
      | (with_reducible exact LeO.none _)
      | (with_reducible refine LeO.ite ?_ ?_)
      | (with_reducible refine LeO.bind ?_ (fun _ => ?_))
      | exact ih0 _ _ _
      | exact LeO.none _
      | refine LeO.ite ?_ ?_
      | refine LeO.bind ?_ (fun _ => ?_)
set_option maxHeartbeats 8000000 in
set_option maxRecDepth 100000 in
theorem clock_like.calls (k : Nat) (a0 : ByteArray) (r : Bool) (w : World) (h : clock_like.f k a0 = some r) :
    Calls Try.prog 22 #[.string a0] w fun e w' => e = .returned (.bool r) ∧ Drawn0 w w' := by
  have H : (if (a0.size : Int) = 20 then (clock_like.l0 k a0 (a0.size : Int) 0) else (some false)) = some r := h
  clear h
  by_cases c2 : (a0.size : Int) = 20
  · rw [if_pos c2] at H
    have c2b0 : ((a0.size : Int) == 20) = true := beq_iff_eq.mpr c2
    have c2b1 : ((a0.size : Int) != 20) = false := bne_eq_false_iff_eq.mpr c2
    clear c2
    have H' := Aside0.mk H
    clear H
    go_enter Try.func22, Try.ntmps22
    go_wp2
    repeat (go_quiet (fail); try go_wp2)
    go_loopg [10] k (fun kq v10 w' => ∃ (x10_1 : Int), v10 = .int .i64 x10_1 ∧ Aside0 (clock_like.l0 kq a0 (a0.size : Int) x10_1 = some r) ∧ Aside0 (kq ≤ k) ∧ Drawn0 w w')
    case atStart => exact ⟨(0), (by first | rfl | (simp; done) | (simp [*]; done) | (simp only [i64_w, i32_w]; done) | (simp [i64_w, i32_w, *]; done) | (simp [gp_ne]; done) | (simp [gp_ne, i64_w, i32_w, *]; done) | (simp [i64_w, i32_w]; (try unfold wrap64); (try unfold wrap32); omega)), H', ⟨Nat.le_refl _⟩, by repeat (first | exact Drawn0.refl _ | apply Drawn0.step)⟩
    case round =>
      clear H'
      try clear c2
      try clear c2b0
      try clear c2b1
      try clear p2
      obtain ⟨x10_1, rfl, HA, HK1, ⟨m1, rfl⟩⟩ := hrel
      cases gk with
      | zero => exact absurd HA.out (by simp [clock_like.l0])
      | succ k1 =>
        have H := HA.out
        clear HA
        simp only [clock_like.l0] at H
        by_cases c3 : x10_1 < (a0.size : Int)
        · rw [if_pos c3] at H
          have c3b0 : decide (x10_1 < (a0.size : Int)) = true := decide_eq_true c3
          clear c3
          by_cases c4 : 0 ≤ x10_1
          · rw [if_pos c4] at H
            have c4b0 : decide (0 ≤ x10_1) = true := decide_eq_true c4
            clear c4
            by_cases c5 : x10_1 < 20
            · rw [if_pos c5] at H
              have c5b0 : decide (x10_1 < 20) = true := decide_eq_true c5
              clear c5
              by_cases c7 : (bt (⟨#[48, 48, 48, 48, 45, 48, 48, 45, 48, 48, 84, 48, 48, 58, 48, 48, 58, 48, 48, 90]⟩ : ByteArray) x10_1) = 48
              · rw [if_pos c7] at H
                have c7b0 : ((bt (⟨#[48, 48, 48, 48, 45, 48, 48, 45, 48, 48, 84, 48, 48, 58, 48, 48, 58, 48, 48, 90]⟩ : ByteArray) x10_1) == 48) = true := beq_iff_eq.mpr c7
                have c7b1 : ((bt (⟨#[48, 48, 48, 48, 45, 48, 48, 45, 48, 48, 84, 48, 48, 58, 48, 48, 58, 48, 48, 90]⟩ : ByteArray) x10_1) != 48) = false := bne_eq_false_iff_eq.mpr c7
                clear c7
                by_cases c8 : x10_1 < (a0.size : Int)
                · rw [if_pos c8] at H
                  have c8b0 : decide (x10_1 < (a0.size : Int)) = true := decide_eq_true c8
                  clear c8
                  replace H := Option.bind_eq_some_iff.mp H
                  obtain ⟨t114, A100, H⟩ := H
                  replace H : (if t114 = true then (clock_like.l0 k1 a0 (a0.size : Int) (wrap64 (x10_1 + 1))) else (some false)) = some r := H
                  have A10 := Aside0.mk A100
                  clear A100
                  by_cases c11 : t114 = true
                  · subst c11
                    have H1 : (clock_like.l0 k1 a0 (a0.size : Int) (wrap64 (x10_1 + 1))) = some r := by rw [if_pos rfl] at H; exact H
                    clear H
                    have H := H1
                    clear H1
                    have H' := Aside0.mk H
                    clear H
                    have p6 : 0 ≤ (x10_1 : Int) := of_decide_eq_true (by first | (with_reducible assumption) | assumption)
                    have q6 : x10_1 < (20 : Int) := of_decide_eq_true (by first | (with_reducible assumption) | assumption)
                    have hx6 := bt_at (⟨#[48, 48, 48, 48, 45, 48, 48, 45, 48, 48, 84, 48, 48, 58, 48, 48, 58, 48, 48, 90]⟩ : ByteArray) x10_1
                    replace p6 := eq_true p6
                    replace q6 := eq_true q6
                    have p9 : 0 ≤ (x10_1 : Int) := of_decide_eq_true (by first | (with_reducible assumption) | assumption)
                    have q9 : x10_1 < (a0.size : Int) := of_decide_eq_true (by first | (with_reducible assumption) | assumption)
                    have hx9 := bt_at a0 x10_1
                    replace p9 := eq_true p9
                    replace q9 := eq_true q9
                    go_wp2_with (first | (go_at_call 28; (with_reducible refine (chars_Digit.calls (bt a0 x10_1) true _ A10.out).mono ?_); rintro e w' ⟨rfl, ⟨nd, rfl⟩⟩; (try first | exact ⟨rfl, _, World.drewN_drewN _ _ _⟩ | exact ⟨rfl, _, Eq.trans (World.drewN_drewN _ _ _) (congrArg (World.drewN _) (Nat.add_assoc _ _ _))⟩)))
                    repeat (go_quiet (first | (go_at_call 28; (with_reducible refine (chars_Digit.calls (bt a0 x10_1) true _ A10.out).mono ?_); rintro e w' ⟨rfl, ⟨nd, rfl⟩⟩; (try first | exact ⟨rfl, _, World.drewN_drewN _ _ _⟩ | exact ⟨rfl, _, Eq.trans (World.drewN_drewN _ _ _) (congrArg (World.drewN _) (Nat.add_assoc _ _ _))⟩))); try go_wp2_with (first | (go_at_call 28; (with_reducible refine (chars_Digit.calls (bt a0 x10_1) true _ A10.out).mono ?_); rintro e w' ⟨rfl, ⟨nd, rfl⟩⟩; (try first | exact ⟨rfl, _, World.drewN_drewN _ _ _⟩ | exact ⟨rfl, _, Eq.trans (World.drewN_drewN _ _ _) (congrArg (World.drewN _) (Nat.add_assoc _ _ _))⟩))))
                    go_roundg k1
                    case measure => have := HK1.out; omega
                    case rel => exact ⟨(wrap64 (x10_1 + 1)), (by first | rfl | (simp; done) | (simp [*]; done) | (simp only [i64_w, i32_w]; done) | (simp [i64_w, i32_w, *]; done) | (simp [gp_ne]; done) | (simp [gp_ne, i64_w, i32_w, *]; done) | (simp [i64_w, i32_w]; (try unfold wrap64); (try unfold wrap32); omega)), H', ⟨by have := HK1.out; omega⟩, by repeat (first | exact Drawn0.refl _ | apply Drawn0.step)⟩
                  · replace c11 := Bool.eq_false_iff.mpr c11
                    subst c11
                    have H1 : (some false) = some r := by rw [if_neg (show ¬ (false = true) by decide)] at H; exact H
                    clear H
                    have H := H1
                    clear H1
                    obtain rfl := Option.some.inj H
                    have p6 : 0 ≤ (x10_1 : Int) := of_decide_eq_true (by first | (with_reducible assumption) | assumption)
                    have q6 : x10_1 < (20 : Int) := of_decide_eq_true (by first | (with_reducible assumption) | assumption)
                    have hx6 := bt_at (⟨#[48, 48, 48, 48, 45, 48, 48, 45, 48, 48, 84, 48, 48, 58, 48, 48, 58, 48, 48, 90]⟩ : ByteArray) x10_1
                    replace p6 := eq_true p6
                    replace q6 := eq_true q6
                    have p9 : 0 ≤ (x10_1 : Int) := of_decide_eq_true (by first | (with_reducible assumption) | assumption)
                    have q9 : x10_1 < (a0.size : Int) := of_decide_eq_true (by first | (with_reducible assumption) | assumption)
                    have hx9 := bt_at a0 x10_1
                    replace p9 := eq_true p9
                    replace q9 := eq_true q9
                    go_wp2_with (first | (go_at_call 28; (with_reducible refine (chars_Digit.calls (bt a0 x10_1) false _ A10.out).mono ?_); rintro e w' ⟨rfl, ⟨nd, rfl⟩⟩; (try first | exact ⟨rfl, _, World.drewN_drewN _ _ _⟩ | exact ⟨rfl, _, Eq.trans (World.drewN_drewN _ _ _) (congrArg (World.drewN _) (Nat.add_assoc _ _ _))⟩)))
                    repeat (go_quiet (first | (go_at_call 28; (with_reducible refine (chars_Digit.calls (bt a0 x10_1) false _ A10.out).mono ?_); rintro e w' ⟨rfl, ⟨nd, rfl⟩⟩; (try first | exact ⟨rfl, _, World.drewN_drewN _ _ _⟩ | exact ⟨rfl, _, Eq.trans (World.drewN_drewN _ _ _) (congrArg (World.drewN _) (Nat.add_assoc _ _ _))⟩))); try go_wp2_with (first | (go_at_call 28; (with_reducible refine (chars_Digit.calls (bt a0 x10_1) false _ A10.out).mono ?_); rintro e w' ⟨rfl, ⟨nd, rfl⟩⟩; (try first | exact ⟨rfl, _, World.drewN_drewN _ _ _⟩ | exact ⟨rfl, _, Eq.trans (World.drewN_drewN _ _ _) (congrArg (World.drewN _) (Nat.add_assoc _ _ _))⟩))))
                    go_ret
                    exact ⟨by first | rfl | (simp; done) | (simp [*]; done) | (simp only [i64_w, i32_w]; done) | (simp [i64_w, i32_w, *]; done) | (simp [gp_ne]; done) | (simp [gp_ne, i64_w, i32_w, *]; done) | (simp [i64_w, i32_w]; (try unfold wrap64); (try unfold wrap32); omega), by repeat (first | exact Drawn0.refl _ | apply Drawn0.step)⟩
                · rw [if_neg c8] at H
                  exact absurd H (by simp)
              · rw [if_neg c7] at H
                have c7b0 : ((bt (⟨#[48, 48, 48, 48, 45, 48, 48, 45, 48, 48, 84, 48, 48, 58, 48, 48, 58, 48, 48, 90]⟩ : ByteArray) x10_1) == 48) = false := beq_eq_false_iff_ne.mpr c7
                have c7b1 : ((bt (⟨#[48, 48, 48, 48, 45, 48, 48, 45, 48, 48, 84, 48, 48, 58, 48, 48, 58, 48, 48, 90]⟩ : ByteArray) x10_1) != 48) = true := bne_iff_ne.mpr c7
                by_cases c12 : x10_1 < (a0.size : Int)
                · rw [if_pos c12] at H
                  have c12b0 : decide (x10_1 < (a0.size : Int)) = true := decide_eq_true c12
                  clear c12
                  by_cases c15 : (bt a0 x10_1) = (bt (⟨#[48, 48, 48, 48, 45, 48, 48, 45, 48, 48, 84, 48, 48, 58, 48, 48, 58, 48, 48, 90]⟩ : ByteArray) x10_1)
                  · rw [if_pos c15] at H
                    have c15b0 : ((bt a0 x10_1) == (bt (⟨#[48, 48, 48, 48, 45, 48, 48, 45, 48, 48, 84, 48, 48, 58, 48, 48, 58, 48, 48, 90]⟩ : ByteArray) x10_1)) = true := beq_iff_eq.mpr c15
                    have c15b1 : ((bt a0 x10_1) != (bt (⟨#[48, 48, 48, 48, 45, 48, 48, 45, 48, 48, 84, 48, 48, 58, 48, 48, 58, 48, 48, 90]⟩ : ByteArray) x10_1)) = false := bne_eq_false_iff_eq.mpr c15
                    clear c15
                    have H' := Aside0.mk H
                    clear H
                    have p6 : 0 ≤ (x10_1 : Int) := of_decide_eq_true (by first | (with_reducible assumption) | assumption)
                    have q6 : x10_1 < (20 : Int) := of_decide_eq_true (by first | (with_reducible assumption) | assumption)
                    have hx6 := bt_at (⟨#[48, 48, 48, 48, 45, 48, 48, 45, 48, 48, 84, 48, 48, 58, 48, 48, 58, 48, 48, 90]⟩ : ByteArray) x10_1
                    replace p6 := eq_true p6
                    replace q6 := eq_true q6
                    have p13 : 0 ≤ (x10_1 : Int) := of_decide_eq_true (by first | (with_reducible assumption) | assumption)
                    have q13 : x10_1 < (a0.size : Int) := of_decide_eq_true (by first | (with_reducible assumption) | assumption)
                    have hx13 := bt_at a0 x10_1
                    replace p13 := eq_true p13
                    replace q13 := eq_true q13
                    have p14 : 0 ≤ (x10_1 : Int) := of_decide_eq_true (by first | (with_reducible assumption) | assumption)
                    have q14 : x10_1 < (20 : Int) := of_decide_eq_true (by first | (with_reducible assumption) | assumption)
                    have hx14 := bt_at (⟨#[48, 48, 48, 48, 45, 48, 48, 45, 48, 48, 84, 48, 48, 58, 48, 48, 58, 48, 48, 90]⟩ : ByteArray) x10_1
                    replace p14 := eq_true p14
                    replace q14 := eq_true q14
                    go_wp2
                    repeat (go_quiet (fail); try go_wp2)
                    go_roundg k1
                    case measure => have := HK1.out; omega
                    case rel => exact ⟨(wrap64 (x10_1 + 1)), (by first | rfl | (simp; done) | (simp [*]; done) | (simp only [i64_w, i32_w]; done) | (simp [i64_w, i32_w, *]; done) | (simp [gp_ne]; done) | (simp [gp_ne, i64_w, i32_w, *]; done) | (simp [i64_w, i32_w]; (try unfold wrap64); (try unfold wrap32); omega)), H', ⟨by have := HK1.out; omega⟩, by repeat (first | exact Drawn0.refl _ | apply Drawn0.step)⟩
                  · rw [if_neg c15] at H
                    have c15b0 : ((bt a0 x10_1) == (bt (⟨#[48, 48, 48, 48, 45, 48, 48, 45, 48, 48, 84, 48, 48, 58, 48, 48, 58, 48, 48, 90]⟩ : ByteArray) x10_1)) = false := beq_eq_false_iff_ne.mpr c15
                    have c15b1 : ((bt a0 x10_1) != (bt (⟨#[48, 48, 48, 48, 45, 48, 48, 45, 48, 48, 84, 48, 48, 58, 48, 48, 58, 48, 48, 90]⟩ : ByteArray) x10_1)) = true := bne_iff_ne.mpr c15
                    obtain rfl := Option.some.inj H
                    have p6 : 0 ≤ (x10_1 : Int) := of_decide_eq_true (by first | (with_reducible assumption) | assumption)
                    have q6 : x10_1 < (20 : Int) := of_decide_eq_true (by first | (with_reducible assumption) | assumption)
                    have hx6 := bt_at (⟨#[48, 48, 48, 48, 45, 48, 48, 45, 48, 48, 84, 48, 48, 58, 48, 48, 58, 48, 48, 90]⟩ : ByteArray) x10_1
                    replace p6 := eq_true p6
                    replace q6 := eq_true q6
                    have p13 : 0 ≤ (x10_1 : Int) := of_decide_eq_true (by first | (with_reducible assumption) | assumption)
                    have q13 : x10_1 < (a0.size : Int) := of_decide_eq_true (by first | (with_reducible assumption) | assumption)
                    have hx13 := bt_at a0 x10_1
                    replace p13 := eq_true p13
                    replace q13 := eq_true q13
                    have p14 : 0 ≤ (x10_1 : Int) := of_decide_eq_true (by first | (with_reducible assumption) | assumption)
                    have q14 : x10_1 < (20 : Int) := of_decide_eq_true (by first | (with_reducible assumption) | assumption)
                    have hx14 := bt_at (⟨#[48, 48, 48, 48, 45, 48, 48, 45, 48, 48, 84, 48, 48, 58, 48, 48, 58, 48, 48, 90]⟩ : ByteArray) x10_1
                    replace p14 := eq_true p14
                    replace q14 := eq_true q14
                    go_wp2
                    repeat (go_quiet (fail); try go_wp2)
                    go_ret
                    exact ⟨by first | rfl | (simp; done) | (simp [*]; done) | (simp only [i64_w, i32_w]; done) | (simp [i64_w, i32_w, *]; done) | (simp [gp_ne]; done) | (simp [gp_ne, i64_w, i32_w, *]; done) | (simp [i64_w, i32_w]; (try unfold wrap64); (try unfold wrap32); omega), by repeat (first | exact Drawn0.refl _ | apply Drawn0.step)⟩
                · rw [if_neg c12] at H
                  exact absurd H (by simp)
            · rw [if_neg c5] at H
              exact absurd H (by simp)
          · rw [if_neg c4] at H
            exact absurd H (by simp)
        · rw [if_neg c3] at H
          have c3b0 : decide (x10_1 < (a0.size : Int)) = false := decide_eq_false c3
          clear c3
          obtain rfl := Option.some.inj H
          go_wp2
          repeat (go_quiet (fail); try go_wp2)
          go_ret
          exact ⟨by first | rfl | (simp; done) | (simp [*]; done) | (simp only [i64_w, i32_w]; done) | (simp [i64_w, i32_w, *]; done) | (simp [gp_ne]; done) | (simp [gp_ne, i64_w, i32_w, *]; done) | (simp [i64_w, i32_w]; (try unfold wrap64); (try unfold wrap32); omega), by repeat (first | exact Drawn0.refl _ | apply Drawn0.step)⟩
  · rw [if_neg c2] at H
    have c2b0 : ((a0.size : Int) == 20) = false := beq_eq_false_iff_ne.mpr c2
    have c2b1 : ((a0.size : Int) != 20) = true := bne_iff_ne.mpr c2
    obtain rfl := Option.some.inj H
    go_enter Try.func22, Try.ntmps22
    go_wp2
    repeat (go_quiet (fail); try go_wp2)
    go_ret
    exact ⟨by first | rfl | (simp; done) | (simp [*]; done) | (simp only [i64_w, i32_w]; done) | (simp [i64_w, i32_w, *]; done) | (simp [gp_ne]; done) | (simp [gp_ne, i64_w, i32_w, *]; done) | (simp [i64_w, i32_w]; (try unfold wrap64); (try unfold wrap32); omega), by repeat (first | exact Drawn0.refl _ | apply Drawn0.step)⟩

/-! ### clock_number: function 23 -/
def clock_number.l0 : Nat → ByteArray → Int → Int → Int → Option (Int)
  | 0, _, _, _, _ => none
  | k + 1, x0, x3, x6, x7 => if x7 < x6 then (if 0 ≤ x7 then (if x7 < (x0.size : Int) then (clock_number.l0 k x0 (wrap64 ((wrap64 (x3 * 10)) + (((bt x0 x7) - 48) % 256))) x6 (wrap64 (x7 + 1))) else (none)) else (none)) else (some x3)
def clock_number.f (k : Nat) (a0 : ByteArray) : Option (Int) := clock_number.l0 k a0 0 (a0.size : Int) 0
theorem clock_number.mono_l : ∀ k, (∀ y0 y1 y2 y3, LeO (clock_number.l0 k y0 y1 y2 y3) (clock_number.l0 (k + 1) y0 y1 y2 y3))
  | 0 => fun _ _ _ _ r h => by simp [clock_number.l0] at h
  | k + 1 => by
    have ih0 := clock_number.mono_l k
    · intro y0 y1 y2 y3
      unfold clock_number.l0
      repeat' first
      | (with_reducible exact ih0 _ _ _ _)
      | (with_reducible exact LeO.refl _)
      | (with_reducible exact LeO.none _)
      | (with_reducible refine LeO.ite ?_ ?_)
      | (with_reducible refine LeO.bind ?_ (fun _ => ?_))
      | exact ih0 _ _ _ _
      | exact LeO.none _
      | refine LeO.ite ?_ ?_
      | refine LeO.bind ?_ (fun _ => ?_)
theorem clock_number.mono : ∀ a0 k, LeO (clock_number.f k a0) (clock_number.f (k + 1) a0) := by
  intro a0 k
  have ih0 := clock_number.mono_l k
  unfold clock_number.f
  repeat' first
      | (with_reducible exact ih0 _ _ _ _)
      | (with_reducible exact LeO.refl _)
      | (with_reducible exact LeO.none _)
      | (with_reducible refine LeO.ite ?_ ?_)
      | (with_reducible refine LeO.bind ?_ (fun _ => ?_))
      | exact ih0 _ _ _ _
      | exact LeO.none _
      | refine LeO.ite ?_ ?_
      | refine LeO.bind ?_ (fun _ => ?_)
set_option maxHeartbeats 8000000 in
set_option maxRecDepth 100000 in
theorem clock_number.calls (k : Nat) (a0 : ByteArray) (r : Int) (w : World) (h : clock_number.f k a0 = some r) :
    Calls Try.prog 23 #[.string a0] w fun e w' => e = .returned (.int .i64 r) ∧ Drawn0 w w' := by
  have H : (clock_number.l0 k a0 0 (a0.size : Int) 0) = some r := h
  clear h
  have H' := Aside0.mk H
  clear H
  go_enter Try.func23, Try.ntmps23
  go_wp2
  go_loopg [3, 7] k (fun kq v3 v7 w' => ∃ (x3_1 : Int) (x7_1 : Int), v3 = .int .i64 x3_1 ∧ v7 = .int .i64 x7_1 ∧ Aside0 (clock_number.l0 kq a0 x3_1 (a0.size : Int) x7_1 = some r) ∧ Aside0 (kq ≤ k) ∧ Drawn0 w w')
  case atStart => exact ⟨(0), (0), (by first | rfl | (simp; done) | (simp [*]; done) | (simp only [i64_w, i32_w]; done) | (simp [i64_w, i32_w, *]; done) | (simp [gp_ne]; done) | (simp [gp_ne, i64_w, i32_w, *]; done) | (simp [i64_w, i32_w]; (try unfold wrap64); (try unfold wrap32); omega)), (by first | rfl | (simp; done) | (simp [*]; done) | (simp only [i64_w, i32_w]; done) | (simp [i64_w, i32_w, *]; done) | (simp [gp_ne]; done) | (simp [gp_ne, i64_w, i32_w, *]; done) | (simp [i64_w, i32_w]; (try unfold wrap64); (try unfold wrap32); omega)), H', ⟨Nat.le_refl _⟩, by repeat (first | exact Drawn0.refl _ | apply Drawn0.step)⟩
  case round =>
    clear H'
    obtain ⟨x3_1, x7_1, rfl, rfl, HA, HK1, ⟨m1, rfl⟩⟩ := hrel
    cases gk with
    | zero => exact absurd HA.out (by simp [clock_number.l0])
    | succ k1 =>
      have H := HA.out
      clear HA
      simp only [clock_number.l0] at H
      by_cases c2 : x7_1 < (a0.size : Int)
      · rw [if_pos c2] at H
        have c2b0 : decide (x7_1 < (a0.size : Int)) = true := decide_eq_true c2
        clear c2
        by_cases c3 : 0 ≤ x7_1
        · rw [if_pos c3] at H
          have c3b0 : decide (0 ≤ x7_1) = true := decide_eq_true c3
          clear c3
          by_cases c4 : x7_1 < (a0.size : Int)
          · rw [if_pos c4] at H
            have c4b0 : decide (x7_1 < (a0.size : Int)) = true := decide_eq_true c4
            clear c4
            have H' := Aside0.mk H
            clear H
            have p5 : 0 ≤ (x7_1 : Int) := of_decide_eq_true (by first | (with_reducible assumption) | assumption)
            have q5 : x7_1 < (a0.size : Int) := of_decide_eq_true (by first | (with_reducible assumption) | assumption)
            have hx5 := bt_at a0 x7_1
            replace p5 := eq_true p5
            replace q5 := eq_true q5
            go_wp2
            go_roundg k1
            case measure => have := HK1.out; omega
            case rel => exact ⟨(wrap64 ((wrap64 (x3_1 * 10)) + (((bt a0 x7_1) - 48) % 256))), (wrap64 (x7_1 + 1)), (by first | rfl | (simp; done) | (simp [*]; done) | (simp only [i64_w, i32_w]; done) | (simp [i64_w, i32_w, *]; done) | (simp [gp_ne]; done) | (simp [gp_ne, i64_w, i32_w, *]; done) | (simp [i64_w, i32_w]; (try unfold wrap64); (try unfold wrap32); omega)), (by first | rfl | (simp; done) | (simp [*]; done) | (simp only [i64_w, i32_w]; done) | (simp [i64_w, i32_w, *]; done) | (simp [gp_ne]; done) | (simp [gp_ne, i64_w, i32_w, *]; done) | (simp [i64_w, i32_w]; (try unfold wrap64); (try unfold wrap32); omega)), H', ⟨by have := HK1.out; omega⟩, by repeat (first | exact Drawn0.refl _ | apply Drawn0.step)⟩
          · rw [if_neg c4] at H
            exact absurd H (by simp)
        · rw [if_neg c3] at H
          exact absurd H (by simp)
      · rw [if_neg c2] at H
        have c2b0 : decide (x7_1 < (a0.size : Int)) = false := decide_eq_false c2
        clear c2
        obtain rfl := Option.some.inj H
        go_wp2
        go_ret
        exact ⟨by first | rfl | (simp; done) | (simp [*]; done) | (simp only [i64_w, i32_w]; done) | (simp [i64_w, i32_w, *]; done) | (simp [gp_ne]; done) | (simp [gp_ne, i64_w, i32_w, *]; done) | (simp [i64_w, i32_w]; (try unfold wrap64); (try unfold wrap32); omega), by repeat (first | exact Drawn0.refl _ | apply Drawn0.step)⟩

end Go.Proofs.Ytocbfodaboimoaa.PClockParse
