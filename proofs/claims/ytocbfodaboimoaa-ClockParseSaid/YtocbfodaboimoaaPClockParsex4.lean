-- By gp.py, a program of this session: the print of the kit with contracts of this session's own beside it.
import Derived.Test.YtocbfodaboimoaaPClockParsex0
import Derived.Test.YtocbfodaboimoaaPClockParsex3
namespace Go.Proofs.Ytocbfodaboimoaa.PClockParse
open Go.RowKit Go.Proofs.Ytocbfodaboimoaa.Gp Go.Proofs.YtocbfodaboimoaaW.PrintWords Go.Proofs.YtocbfodaboimoaaW.PrintLast Go.Proofs.YtocbfodaboimoaaW.PrintMore
attribute [local go_sem] max2_int min2_int max_two min_two max_three min_three max_four min_four gp_gtr gp_leq gp_geq   -- for this text's walks alone
set_option linter.unusedVariables false
set_option linter.unusedSimpArgs false

/-! ### larumref01_Digit: function 29 -/
def larumref01_Digit.f (a0 : Int) : Option (Bool) := (larumref01_is.f a0 48 57).bind fun t137 => (some t137)
set_option maxHeartbeats 8000000 in
set_option maxRecDepth 100000 in
theorem larumref01_Digit.calls (a0 : Int) (r : Bool) (w : World) (h : larumref01_Digit.f a0 = some r) :
    Calls Try.prog 29 #[.int .u8 a0] w fun e w' => e = .returned (.bool r) ∧ Drawn0 w w' := by
  have H : ((larumref01_is.f a0 48 57).bind fun t137 => (some t137)) = some r := h
  clear h
  replace H := Option.bind_eq_some_iff.mp H
  obtain ⟨t137, A20, H⟩ := H
  replace H : (some t137) = some r := H
  have A2 := Aside0.mk A20
  clear A20
  obtain rfl := Option.some.inj H
  go_enter Try.func29, Try.ntmps29
  go_wp2_with (first | ((with_reducible refine gate_callee (f := 30) rfl ?_); refine goesL_ (some 4) rfl rfl Try.func30 (by kernel_rfl) rfl #[.int .u8 a0, .int .i64 48, .int .i64 57] rfl (by (try simp only [List.map_toArray, List.map_cons, List.map_nil]); first | done | rfl | (simp only [List.length_drop, List.length_take]; rfl)) ?_; (with_reducible refine (larumref01_is.calls a0 48 57 t137 _ A2.out).mono ?_); rintro e w' ⟨rfl, ⟨nd, rfl⟩⟩; refine ⟨_, rfl, ?_⟩))
  go_ret
  exact ⟨by first | rfl | (simp; done) | (simp [*]; done) | (simp only [i64_w, i32_w]; done) | (simp [i64_w, i32_w, *]; done) | (simp [gp_ne]; done) | (simp [gp_ne, i64_w, i32_w, *]; done) | (simp [i64_w, i32_w]; (try unfold wrap64); (try unfold wrap32); omega), by repeat (first | exact Drawn0.refl _ | apply Drawn0.step)⟩

/-! ### larumref04_value: function 25 -/
def larumref04_value.l0 : Nat → ByteArray → Int → Int → Option (Int)
  | 0, _, _, _ => none
  | k + 1, x0, x3, x4 => if x4 < (x0.size : Int) then (if 0 ≤ x4 then ((larumref01_Digit.f (bt x0 x4)).bind fun t138 => (if t138 = true then (larumref04_value.l0 k x0 (wrap64 ((wrap64 ((wrap64 (10 * x3)) + (wrap64 (bt x0 x4)))) - 48)) (wrap64 (x4 + 1))) else (some (-1)))) else (none)) else (some x3)
def larumref04_value.f (k : Nat) (a0 : ByteArray) : Option (Int) := larumref04_value.l0 k a0 0 0
theorem larumref04_value.mono_l : ∀ k, (∀ y0 y1 y2, LeO (larumref04_value.l0 k y0 y1 y2) (larumref04_value.l0 (k + 1) y0 y1 y2))
  | 0 => fun _ _ _ r h => by simp [larumref04_value.l0] at h
  | k + 1 => by
    have ih0 := larumref04_value.mono_l k
    · intro y0 y1 y2
      unfold larumref04_value.l0
      repeat' first
      | (with_reducible exact ih0 _ _ _)
      | (with_reducible exact LeO.refl _)
      | (with_reducible exact LeO.none _)
      | (with_reducible refine LeO.ite ?_ ?_)
      | (with_reducible refine LeO.bind ?_ (fun _ => ?_))
      | exact ih0 _ _ _
      | exact LeO.none _
      | refine LeO.ite ?_ ?_
      | refine LeO.bind ?_ (fun _ => ?_)
theorem larumref04_value.mono : ∀ a0 k, LeO (larumref04_value.f k a0) (larumref04_value.f (k + 1) a0) := by
  intro a0 k
  have ih0 := larumref04_value.mono_l k
  unfold larumref04_value.f
  repeat' first
      | (with_reducible exact ih0 _ _ _)
      | (with_reducible exact LeO.refl _)
      | (with_reducible exact LeO.none _)
      | (with_reducible refine LeO.ite ?_ ?_)
      | (with_reducible refine LeO.bind ?_ (fun _ => ?_))
      | exact ih0 _ _ _
      | exact LeO.none _
      | refine LeO.ite ?_ ?_
      | refine LeO.bind ?_ (fun _ => ?_)
set_option maxHeartbeats 8000000 in
set_option maxRecDepth 100000 in
theorem larumref04_value.calls (k : Nat) (a0 : ByteArray) (r : Int) (w : World) (h : larumref04_value.f k a0 = some r) :
    Calls Try.prog 25 #[.string a0] w fun e w' => e = .returned (.int .i64 r) ∧ Drawn0 w w' := by
  have H : (larumref04_value.l0 k a0 0 0) = some r := h
  clear h
  have H' := Aside0.mk H
  clear H
  go_enter Try.func25, Try.ntmps25
  go_wp2
  go_loopg [3, 4] k (fun kq v3 v4 w' => ∃ (x3_1 : Int) (x4_1 : Int), v3 = .int .i64 x3_1 ∧ v4 = .int .i64 x4_1 ∧ Aside0 (larumref04_value.l0 kq a0 x3_1 x4_1 = some r) ∧ Aside0 (kq ≤ k) ∧ Drawn0 w w')
  case atStart => exact ⟨(0), (0), (by first | rfl | (simp; done) | (simp [*]; done) | (simp only [i64_w, i32_w]; done) | (simp [i64_w, i32_w, *]; done) | (simp [gp_ne]; done) | (simp [gp_ne, i64_w, i32_w, *]; done) | (simp [i64_w, i32_w]; (try unfold wrap64); (try unfold wrap32); omega)), (by first | rfl | (simp; done) | (simp [*]; done) | (simp only [i64_w, i32_w]; done) | (simp [i64_w, i32_w, *]; done) | (simp [gp_ne]; done) | (simp [gp_ne, i64_w, i32_w, *]; done) | (simp [i64_w, i32_w]; (try unfold wrap64); (try unfold wrap32); omega)), H', ⟨Nat.le_refl _⟩, by repeat (first | exact Drawn0.refl _ | apply Drawn0.step)⟩
  case round =>
    clear H'
    obtain ⟨x3_1, x4_1, rfl, rfl, HA, HK1, ⟨m1, rfl⟩⟩ := hrel
    cases gk with
    | zero => exact absurd HA.out (by simp [larumref04_value.l0])
    | succ k1 =>
      have H := HA.out
      clear HA
      simp only [larumref04_value.l0] at H
      by_cases c2 : x4_1 < (a0.size : Int)
      · rw [if_pos c2] at H
        have c2b0 : decide (x4_1 < (a0.size : Int)) = true := decide_eq_true c2
        clear c2
        by_cases c3 : 0 ≤ x4_1
        · rw [if_pos c3] at H
          have c3b0 : decide (0 ≤ x4_1) = true := decide_eq_true c3
          clear c3
          replace H := Option.bind_eq_some_iff.mp H
          obtain ⟨t138, A50, H⟩ := H
          replace H : (if t138 = true then (larumref04_value.l0 k1 a0 (wrap64 ((wrap64 ((wrap64 (10 * x3_1)) + (wrap64 (bt a0 x4_1)))) - 48)) (wrap64 (x4_1 + 1))) else (some (-1))) = some r := H
          have A5 := Aside0.mk A50
          clear A50
          by_cases c6 : t138 = true
          · subst c6
            have H1 : (larumref04_value.l0 k1 a0 (wrap64 ((wrap64 ((wrap64 (10 * x3_1)) + (wrap64 (bt a0 x4_1)))) - 48)) (wrap64 (x4_1 + 1))) = some r := by rw [if_pos rfl] at H; exact H
            clear H
            have H := H1
            clear H1
            have H' := Aside0.mk H
            clear H
            have p4 : 0 ≤ (x4_1 : Int) := of_decide_eq_true (by first | (with_reducible assumption) | assumption)
            have q4 : x4_1 < (a0.size : Int) := of_decide_eq_true (by first | (with_reducible assumption) | assumption)
            have hx4 := bt_at a0 x4_1
            replace p4 := eq_true p4
            replace q4 := eq_true q4
            go_wp2_with (first | ((with_reducible refine gate_callee (f := 29) rfl ?_); refine goesL_ (some 14) rfl rfl Try.func29 (by kernel_rfl) rfl #[.int .u8 (bt a0 x4_1)] rfl (by (try simp only [List.map_toArray, List.map_cons, List.map_nil]); first | done | rfl | (simp only [List.length_drop, List.length_take]; rfl)) ?_; (with_reducible refine (larumref01_Digit.calls (bt a0 x4_1) true _ A5.out).mono ?_); rintro e w' ⟨rfl, ⟨nd, rfl⟩⟩; refine ⟨_, rfl, ?_⟩; have p7 : 0 ≤ (x4_1 : Int) := of_decide_eq_true (by first | (with_reducible assumption) | assumption); have q7 : x4_1 < (a0.size : Int) := of_decide_eq_true (by first | (with_reducible assumption) | assumption); have hx7 := bt_at a0 x4_1; replace p7 := eq_true p7; replace q7 := eq_true q7))
            go_roundg k1
            case measure => have := HK1.out; omega
            case rel => exact ⟨(wrap64 ((wrap64 ((wrap64 (10 * x3_1)) + (wrap64 (bt a0 x4_1)))) - 48)), (wrap64 (x4_1 + 1)), (by first | rfl | (simp; done) | (simp [*]; done) | (simp only [i64_w, i32_w]; done) | (simp [i64_w, i32_w, *]; done) | (simp [gp_ne]; done) | (simp [gp_ne, i64_w, i32_w, *]; done) | (simp [i64_w, i32_w]; (try unfold wrap64); (try unfold wrap32); omega)), (by first | rfl | (simp; done) | (simp [*]; done) | (simp only [i64_w, i32_w]; done) | (simp [i64_w, i32_w, *]; done) | (simp [gp_ne]; done) | (simp [gp_ne, i64_w, i32_w, *]; done) | (simp [i64_w, i32_w]; (try unfold wrap64); (try unfold wrap32); omega)), H', ⟨by have := HK1.out; omega⟩, by repeat (first | exact Drawn0.refl _ | apply Drawn0.step)⟩
          · replace c6 := Bool.eq_false_iff.mpr c6
            subst c6
            have H1 : (some (-1)) = some r := by rw [if_neg (show ¬ (false = true) by decide)] at H; exact H
            clear H
            have H := H1
            clear H1
            obtain rfl := Option.some.inj H
            have p4 : 0 ≤ (x4_1 : Int) := of_decide_eq_true (by first | (with_reducible assumption) | assumption)
            have q4 : x4_1 < (a0.size : Int) := of_decide_eq_true (by first | (with_reducible assumption) | assumption)
            have hx4 := bt_at a0 x4_1
            replace p4 := eq_true p4
            replace q4 := eq_true q4
            go_wp2_with (first | ((with_reducible refine gate_callee (f := 29) rfl ?_); refine goesL_ (some 14) rfl rfl Try.func29 (by kernel_rfl) rfl #[.int .u8 (bt a0 x4_1)] rfl (by (try simp only [List.map_toArray, List.map_cons, List.map_nil]); first | done | rfl | (simp only [List.length_drop, List.length_take]; rfl)) ?_; (with_reducible refine (larumref01_Digit.calls (bt a0 x4_1) false _ A5.out).mono ?_); rintro e w' ⟨rfl, ⟨nd, rfl⟩⟩; refine ⟨_, rfl, ?_⟩))
            go_ret
            exact ⟨by first | rfl | (simp; done) | (simp [*]; done) | (simp only [i64_w, i32_w]; done) | (simp [i64_w, i32_w, *]; done) | (simp [gp_ne]; done) | (simp [gp_ne, i64_w, i32_w, *]; done) | (simp [i64_w, i32_w]; (try unfold wrap64); (try unfold wrap32); omega), by repeat (first | exact Drawn0.refl _ | apply Drawn0.step)⟩
        · rw [if_neg c3] at H
          exact absurd H (by simp)
      · rw [if_neg c2] at H
        have c2b0 : decide (x4_1 < (a0.size : Int)) = false := decide_eq_false c2
        clear c2
        obtain rfl := Option.some.inj H
        go_wp2
        go_ret
        exact ⟨by first | rfl | (simp; done) | (simp [*]; done) | (simp only [i64_w, i32_w]; done) | (simp [i64_w, i32_w, *]; done) | (simp [gp_ne]; done) | (simp [gp_ne, i64_w, i32_w, *]; done) | (simp [i64_w, i32_w]; (try unfold wrap64); (try unfold wrap32); omega), by repeat (first | exact Drawn0.refl _ | apply Drawn0.step)⟩

/-! ### larumref04_Parse: function 16 -/
def larumref04_Parse.lo : Nat → Int := fun j => [0, 5, 8, 11, 14, 17].getD j 0
def larumref04_Parse.hi : Nat → Int := fun j => [4, 7, 10, 13, 16, 19].getD j 0
def larumref04_Parse.l0 : Nat → ByteArray → List Int → Nat → Option (Int × Int)
  | 0, _, _, _ => none
  | k + 1, s, v, j => if j < 6 then ((larumref04_value.f k (s.extract (larumref04_Parse.lo j).toNat (larumref04_Parse.hi j).toNat)).bind fun x => if x < 0 then some (0, 3) else larumref04_Parse.l0 k s (v ++ [x]) (j + 1))
    else ((larumref04_Days.f k (rd v 0) (rd v 1) (rd v 2)).bind fun n => if n < 0 ∨ rd v 3 > 23 ∨ rd v 4 > 59 ∨ rd v 5 > 59 then some (0, 3) else if wrap64 (wrap64 (wrap64 (wrap64 (n * 86400) + wrap64 (rd v 3 * 3600)) + wrap64 (rd v 4 * 60)) + rd v 5) > 137438953472 then some (0, 5) else some (wrap64 (wrap64 (wrap64 (wrap64 (n * 86400) + wrap64 (rd v 3 * 3600)) + wrap64 (rd v 4 * 60)) + rd v 5), 0))
def larumref04_Parse.f (k : Nat) (a0 : ByteArray) : Option (Int × Int) := if a0.size = 20 ∧ bt a0 4 = 45 ∧ bt a0 7 = 45 ∧ bt a0 10 = 84 ∧ bt a0 13 = 58 ∧ bt a0 16 = 58 ∧ bt a0 19 = 90 then larumref04_Parse.l0 k a0 [] 0 else some (0, 3)
def larumref04_Parse.tab : Array Value := #[.int .i64 0, .int .i64 4, .int .i64 5, .int .i64 7, .int .i64 8, .int .i64 10, .int .i64 11, .int .i64 13, .int .i64 14, .int .i64 16, .int .i64 17, .int .i64 19]
theorem larumref04_Parse.mono_l : ∀ k, (∀ y0 y1 y2, LeO (larumref04_Parse.l0 k y0 y1 y2) (larumref04_Parse.l0 (k + 1) y0 y1 y2))
  | 0 => fun _ _ _ r h => by simp [larumref04_Parse.l0] at h
  | k + 1 => by
    have ih0 := larumref04_Parse.mono_l k
    · intro y0 y1 y2
      unfold larumref04_Parse.l0
      repeat' first
      | (with_reducible exact ih0 _ _ _)
      | (with_reducible exact larumref04_value.mono _ _)
      | (with_reducible exact larumref04_Days.mono _ _ _ _)
      | (with_reducible exact LeO.refl _)
      | (with_reducible exact LeO.none _)
      | (with_reducible refine LeO.ite ?_ ?_)
      | (with_reducible refine LeO.bind ?_ (fun _ => ?_))
      | exact ih0 _ _ _
      | exact larumref04_value.mono _ _
      | exact larumref04_Days.mono _ _ _ _
      | exact LeO.none _
      | refine LeO.ite ?_ ?_
      | refine LeO.bind ?_ (fun _ => ?_)
theorem larumref04_Parse.mono : ∀ a0 k, LeO (larumref04_Parse.f k a0) (larumref04_Parse.f (k + 1) a0) := by
  intro a0 k
  have ih0 := larumref04_Parse.mono_l k
  unfold larumref04_Parse.f
  repeat' first
      | (with_reducible exact ih0 _ _ _)
      | (with_reducible exact larumref04_value.mono _ _)
      | (with_reducible exact larumref04_Days.mono _ _ _ _)
      | (with_reducible exact LeO.refl _)
      | (with_reducible exact LeO.none _)
      | (with_reducible refine LeO.ite ?_ ?_)
      | (with_reducible refine LeO.bind ?_ (fun _ => ?_))
      | exact ih0 _ _ _
      | exact larumref04_value.mono _ _
      | exact larumref04_Days.mono _ _ _ _
      | exact LeO.none _
      | refine LeO.ite ?_ ?_
      | refine LeO.bind ?_ (fun _ => ?_)
set_option maxHeartbeats 8000000 in
set_option maxRecDepth 100000 in
theorem larumref04_Parse.calls (k : Nat) (a0 : ByteArray) (r1 : Int) (r2 : Int) (w : World) (h : larumref04_Parse.f k a0 = some (r1, r2)) :
    Calls Try.prog 16 #[.string a0] w fun e w' => e = .returned (.tuple #[.int .i64 r1, .int .i64 r2]) ∧ Below w.heap.size w w' := by
  unfold larumref04_Parse.f at h
  have HB := Aside0.mk (Below.refl w.heap.size w)
  by_cases hz : a0.size = 20
  · have hzi : (a0.size : Int) = 20 := by omega
    have hx4 : ∀ h : 4 < a0.size, ((a0[4]'h).toNat : Int) = bt a0 4 := bt_at a0 4
    have hx7 : ∀ h : 7 < a0.size, ((a0[7]'h).toNat : Int) = bt a0 7 := bt_at a0 7
    have hx10 : ∀ h : 10 < a0.size, ((a0[10]'h).toNat : Int) = bt a0 10 := bt_at a0 10
    have hx13 : ∀ h : 13 < a0.size, ((a0[13]'h).toNat : Int) = bt a0 13 := bt_at a0 13
    have hx16 : ∀ h : 16 < a0.size, ((a0[16]'h).toNat : Int) = bt a0 16 := bt_at a0 16
    have hx19 : ∀ h : 19 < a0.size, ((a0[19]'h).toNat : Int) = bt a0 19 := bt_at a0 19
    by_cases c4 : bt a0 4 = 45
    · by_cases c7 : bt a0 7 = 45
      · by_cases c10 : bt a0 10 = 84
        · by_cases c13 : bt a0 13 = 58
          · by_cases c16 : bt a0 16 = 58
            · by_cases c19 : bt a0 19 = 90
              · rw [if_pos ⟨hz, c4, c7, c10, c13, c16, c19⟩] at h
                have H' := Aside0.mk h
                clear h
                go_enter Try.func16, Try.ntmps16
                go_wp2
                go_loopg [4, 51] k (fun kq v4 v51 wr => ∃ (j : Nat) (v : List Int), v51 = .int .i64 (j : Int) ∧ Aside0 (j ≤ 6) ∧ Aside0 (v.length = j) ∧ Aside0 (larumref04_Parse.l0 kq a0 v j = some (r1, r2)) ∧ Aside0 (kq ≤ k) ∧ Aside0 (Kd.R (Kd.int .i64) 3 wr w.heap.size (fun _ => True) v4 v) ∧ Aside0 (wr.heap[w.heap.size]? = some (.cells larumref04_Parse.tab 50 (0, 0))) ∧ Aside0 (Below w.heap.size w wr))
                case atStart =>
                  refine ⟨0, [], rfl, ⟨by omega⟩, ⟨rfl⟩, H', ⟨Nat.le_refl _⟩, ⟨Kd.R_nil _ _ _ _ _⟩, ⟨?_⟩, ⟨below_alloc HB.out _⟩⟩
                  exact heap_alloc_new w (.cells larumref04_Parse.tab 50)
                case round =>
                  clear H' HB
                  obtain ⟨j, v, rfl, HJ, HV, HA, HK1, HO, HT, HB⟩ := hrel
                  cases gk with
                  | zero => exact absurd HA.out (by simp [larumref04_Parse.l0])
                  | succ k1 =>
                    have H := HA.out
                    clear HA
                    simp only [larumref04_Parse.l0] at H
                    have hj := HJ.out
                    have hcell : ∀ (i : Nat) (u : Value), larumref04_Parse.tab[i]? = some u → wr.cell? ⟨w.heap.size, i, none⟩ = some u := by
                      intro i u hu
                      simp only [World.cell?, HT.out]
                      simpa using hu
                    by_cases c6 : j < 6
                    · rw [if_pos c6] at H
                      replace H := Option.bind_eq_some_iff.mp H
                      obtain ⟨x, HX, H⟩ := H
                      rcases (by omega : j = 0 ∨ j = 1 ∨ j = 2 ∨ j = 3 ∨ j = 4 ∨ j = 5) with rfl | rfl | rfl | rfl | rfl | rfl
                      · have HX : larumref04_value.f k1 (a0.extract 0 4) = some x := HX
                        have HX := Aside0.mk HX
                        have g0 : wr.cell? ⟨w.heap.size, 0, none⟩ = some (.int .i64 0) := hcell 0 _ rfl
                        have g1 : wr.cell? ⟨w.heap.size, 1, none⟩ = some (.int .i64 4) := hcell 1 _ rfl
                        clear hcell
                        by_cases cx : x < 0
                        · have cxb : decide (x < 0) = true := decide_eq_true cx
                          rw [if_pos cx] at H
                          simp only [Option.some.injEq, Prod.mk.injEq] at H
                          obtain ⟨rfl, rfl⟩ := H
                          go_wp2_with (go_at_call 25; (with_reducible refine (larumref04_value.calls k1 _ x _ HX.out).mono ?_); rintro e w' ⟨rfl, ⟨nd, rfl⟩⟩)
                          go_ret2
                          exact ⟨rfl, by repeat (first | (with_reducible first | exact HB.out | apply below_alloc | apply pw_below_drewN) | exact HB.out)⟩
                        · have cxb : decide (x < 0) = false := decide_eq_false cx
                          rw [if_neg cx] at H
                          have H' := Aside0.mk H
                          clear H
                          go_wp2_with (first | (go_at_call 25; (with_reducible refine (larumref04_value.calls k1 _ x _ HX.out).mono ?_); rintro e w' ⟨rfl, ⟨nd, rfl⟩⟩) | ((with_reducible refine gate_builtin (b := .append) (xs := #[.tmp 64, .tmp 66]) rfl ?_); at_builtin; refine Kd.R_append (Kd.int .i64) (w0 := w) w.heap.size rfl (.tmp 64) (.tmp 66) 49 3 (.int .i64 0) 8 rfl Try.underlying49 info3 rfl (by decide) (by omega) u4 v x [.int .i64 x] (fun _ => True) (fun _ => False) rfl (by first | (go_simp; done) | (go_simp; rfl)) ?aP (fun _ hk => hk.elim) ?aF ?aO ?aB ?aS ?aL ?_; (case aP => exact rfl); (case aB => exact (by repeat (first | (with_reducible first | exact HB.out | apply below_alloc | apply pw_below_drewN) | exact HB.out))); (case aF => exact (fun _ _ => trivial)); (case aO => exact (by (with_reducible repeat (first | apply Kd.R_alloc | apply Kd.R_drewN | apply Kd.R_drew)); exact HO.out)); (case aS => exact (below_size (by repeat (first | (with_reducible first | exact HB.out | apply below_alloc | apply pw_below_drewN) | exact HB.out)))); (case aL => have := HV.out; omega); intro v1 w1 ho hb hg hat; have HT' := Aside0.mk (blk_grown (g := w.heap.size) (o := .cells larumref04_Parse.tab 50 (0, 0)) (by (with_reducible repeat (first | refine blk_drewN ?_ _ | refine blk_drew ?_ | refine blk_alloc ?_ _)); exact HT.out) hg (Kd.R_ne HO.out HT.out (by decide))); have HO' := Aside0.mk ho; have HB' := Aside0.mk hb; clear ho hb hg hat))
                          go_roundg k1
                          case measure => have := HK1.out; omega
                          case rel => exact ⟨1, v ++ [x], (by first | rfl | (simp; done)), ⟨by omega⟩, ⟨by have := HV.out; rw [List.length_append, List.length_cons, List.length_nil]; omega⟩, H', ⟨by have := HK1.out; omega⟩, HO', HT', HB'⟩
                      · have HX : larumref04_value.f k1 (a0.extract 5 7) = some x := HX
                        have HX := Aside0.mk HX
                        have g0 : wr.cell? ⟨w.heap.size, 2, none⟩ = some (.int .i64 5) := hcell 2 _ rfl
                        have g1 : wr.cell? ⟨w.heap.size, 3, none⟩ = some (.int .i64 7) := hcell 3 _ rfl
                        clear hcell
                        by_cases cx : x < 0
                        · have cxb : decide (x < 0) = true := decide_eq_true cx
                          rw [if_pos cx] at H
                          simp only [Option.some.injEq, Prod.mk.injEq] at H
                          obtain ⟨rfl, rfl⟩ := H
                          go_wp2_with (go_at_call 25; (with_reducible refine (larumref04_value.calls k1 _ x _ HX.out).mono ?_); rintro e w' ⟨rfl, ⟨nd, rfl⟩⟩)
                          go_ret2
                          exact ⟨rfl, by repeat (first | (with_reducible first | exact HB.out | apply below_alloc | apply pw_below_drewN) | exact HB.out)⟩
                        · have cxb : decide (x < 0) = false := decide_eq_false cx
                          rw [if_neg cx] at H
                          have H' := Aside0.mk H
                          clear H
                          go_wp2_with (first | (go_at_call 25; (with_reducible refine (larumref04_value.calls k1 _ x _ HX.out).mono ?_); rintro e w' ⟨rfl, ⟨nd, rfl⟩⟩) | ((with_reducible refine gate_builtin (b := .append) (xs := #[.tmp 64, .tmp 66]) rfl ?_); at_builtin; refine Kd.R_append (Kd.int .i64) (w0 := w) w.heap.size rfl (.tmp 64) (.tmp 66) 49 3 (.int .i64 0) 8 rfl Try.underlying49 info3 rfl (by decide) (by omega) u4 v x [.int .i64 x] (fun _ => True) (fun _ => False) rfl (by first | (go_simp; done) | (go_simp; rfl)) ?aP (fun _ hk => hk.elim) ?aF ?aO ?aB ?aS ?aL ?_; (case aP => exact rfl); (case aB => exact (by repeat (first | (with_reducible first | exact HB.out | apply below_alloc | apply pw_below_drewN) | exact HB.out))); (case aF => exact (fun _ _ => trivial)); (case aO => exact (by (with_reducible repeat (first | apply Kd.R_alloc | apply Kd.R_drewN | apply Kd.R_drew)); exact HO.out)); (case aS => exact (below_size (by repeat (first | (with_reducible first | exact HB.out | apply below_alloc | apply pw_below_drewN) | exact HB.out)))); (case aL => have := HV.out; omega); intro v1 w1 ho hb hg hat; have HT' := Aside0.mk (blk_grown (g := w.heap.size) (o := .cells larumref04_Parse.tab 50 (0, 0)) (by (with_reducible repeat (first | refine blk_drewN ?_ _ | refine blk_drew ?_ | refine blk_alloc ?_ _)); exact HT.out) hg (Kd.R_ne HO.out HT.out (by decide))); have HO' := Aside0.mk ho; have HB' := Aside0.mk hb; clear ho hb hg hat))
                          go_roundg k1
                          case measure => have := HK1.out; omega
                          case rel => exact ⟨2, v ++ [x], (by first | rfl | (simp; done)), ⟨by omega⟩, ⟨by have := HV.out; rw [List.length_append, List.length_cons, List.length_nil]; omega⟩, H', ⟨by have := HK1.out; omega⟩, HO', HT', HB'⟩
                      · have HX : larumref04_value.f k1 (a0.extract 8 10) = some x := HX
                        have HX := Aside0.mk HX
                        have g0 : wr.cell? ⟨w.heap.size, 4, none⟩ = some (.int .i64 8) := hcell 4 _ rfl
                        have g1 : wr.cell? ⟨w.heap.size, 5, none⟩ = some (.int .i64 10) := hcell 5 _ rfl
                        clear hcell
                        by_cases cx : x < 0
                        · have cxb : decide (x < 0) = true := decide_eq_true cx
                          rw [if_pos cx] at H
                          simp only [Option.some.injEq, Prod.mk.injEq] at H
                          obtain ⟨rfl, rfl⟩ := H
                          go_wp2_with (go_at_call 25; (with_reducible refine (larumref04_value.calls k1 _ x _ HX.out).mono ?_); rintro e w' ⟨rfl, ⟨nd, rfl⟩⟩)
                          go_ret2
                          exact ⟨rfl, by repeat (first | (with_reducible first | exact HB.out | apply below_alloc | apply pw_below_drewN) | exact HB.out)⟩
                        · have cxb : decide (x < 0) = false := decide_eq_false cx
                          rw [if_neg cx] at H
                          have H' := Aside0.mk H
                          clear H
                          go_wp2_with (first | (go_at_call 25; (with_reducible refine (larumref04_value.calls k1 _ x _ HX.out).mono ?_); rintro e w' ⟨rfl, ⟨nd, rfl⟩⟩) | ((with_reducible refine gate_builtin (b := .append) (xs := #[.tmp 64, .tmp 66]) rfl ?_); at_builtin; refine Kd.R_append (Kd.int .i64) (w0 := w) w.heap.size rfl (.tmp 64) (.tmp 66) 49 3 (.int .i64 0) 8 rfl Try.underlying49 info3 rfl (by decide) (by omega) u4 v x [.int .i64 x] (fun _ => True) (fun _ => False) rfl (by first | (go_simp; done) | (go_simp; rfl)) ?aP (fun _ hk => hk.elim) ?aF ?aO ?aB ?aS ?aL ?_; (case aP => exact rfl); (case aB => exact (by repeat (first | (with_reducible first | exact HB.out | apply below_alloc | apply pw_below_drewN) | exact HB.out))); (case aF => exact (fun _ _ => trivial)); (case aO => exact (by (with_reducible repeat (first | apply Kd.R_alloc | apply Kd.R_drewN | apply Kd.R_drew)); exact HO.out)); (case aS => exact (below_size (by repeat (first | (with_reducible first | exact HB.out | apply below_alloc | apply pw_below_drewN) | exact HB.out)))); (case aL => have := HV.out; omega); intro v1 w1 ho hb hg hat; have HT' := Aside0.mk (blk_grown (g := w.heap.size) (o := .cells larumref04_Parse.tab 50 (0, 0)) (by (with_reducible repeat (first | refine blk_drewN ?_ _ | refine blk_drew ?_ | refine blk_alloc ?_ _)); exact HT.out) hg (Kd.R_ne HO.out HT.out (by decide))); have HO' := Aside0.mk ho; have HB' := Aside0.mk hb; clear ho hb hg hat))
                          go_roundg k1
                          case measure => have := HK1.out; omega
                          case rel => exact ⟨3, v ++ [x], (by first | rfl | (simp; done)), ⟨by omega⟩, ⟨by have := HV.out; rw [List.length_append, List.length_cons, List.length_nil]; omega⟩, H', ⟨by have := HK1.out; omega⟩, HO', HT', HB'⟩
                      · have HX : larumref04_value.f k1 (a0.extract 11 13) = some x := HX
                        have HX := Aside0.mk HX
                        have g0 : wr.cell? ⟨w.heap.size, 6, none⟩ = some (.int .i64 11) := hcell 6 _ rfl
                        have g1 : wr.cell? ⟨w.heap.size, 7, none⟩ = some (.int .i64 13) := hcell 7 _ rfl
                        clear hcell
                        by_cases cx : x < 0
                        · have cxb : decide (x < 0) = true := decide_eq_true cx
                          rw [if_pos cx] at H
                          simp only [Option.some.injEq, Prod.mk.injEq] at H
                          obtain ⟨rfl, rfl⟩ := H
                          go_wp2_with (go_at_call 25; (with_reducible refine (larumref04_value.calls k1 _ x _ HX.out).mono ?_); rintro e w' ⟨rfl, ⟨nd, rfl⟩⟩)
                          go_ret2
                          exact ⟨rfl, by repeat (first | (with_reducible first | exact HB.out | apply below_alloc | apply pw_below_drewN) | exact HB.out)⟩
                        · have cxb : decide (x < 0) = false := decide_eq_false cx
                          rw [if_neg cx] at H
                          have H' := Aside0.mk H
                          clear H
                          go_wp2_with (first | (go_at_call 25; (with_reducible refine (larumref04_value.calls k1 _ x _ HX.out).mono ?_); rintro e w' ⟨rfl, ⟨nd, rfl⟩⟩) | ((with_reducible refine gate_builtin (b := .append) (xs := #[.tmp 64, .tmp 66]) rfl ?_); at_builtin; refine Kd.R_append (Kd.int .i64) (w0 := w) w.heap.size rfl (.tmp 64) (.tmp 66) 49 3 (.int .i64 0) 8 rfl Try.underlying49 info3 rfl (by decide) (by omega) u4 v x [.int .i64 x] (fun _ => True) (fun _ => False) rfl (by first | (go_simp; done) | (go_simp; rfl)) ?aP (fun _ hk => hk.elim) ?aF ?aO ?aB ?aS ?aL ?_; (case aP => exact rfl); (case aB => exact (by repeat (first | (with_reducible first | exact HB.out | apply below_alloc | apply pw_below_drewN) | exact HB.out))); (case aF => exact (fun _ _ => trivial)); (case aO => exact (by (with_reducible repeat (first | apply Kd.R_alloc | apply Kd.R_drewN | apply Kd.R_drew)); exact HO.out)); (case aS => exact (below_size (by repeat (first | (with_reducible first | exact HB.out | apply below_alloc | apply pw_below_drewN) | exact HB.out)))); (case aL => have := HV.out; omega); intro v1 w1 ho hb hg hat; have HT' := Aside0.mk (blk_grown (g := w.heap.size) (o := .cells larumref04_Parse.tab 50 (0, 0)) (by (with_reducible repeat (first | refine blk_drewN ?_ _ | refine blk_drew ?_ | refine blk_alloc ?_ _)); exact HT.out) hg (Kd.R_ne HO.out HT.out (by decide))); have HO' := Aside0.mk ho; have HB' := Aside0.mk hb; clear ho hb hg hat))
                          go_roundg k1
                          case measure => have := HK1.out; omega
                          case rel => exact ⟨4, v ++ [x], (by first | rfl | (simp; done)), ⟨by omega⟩, ⟨by have := HV.out; rw [List.length_append, List.length_cons, List.length_nil]; omega⟩, H', ⟨by have := HK1.out; omega⟩, HO', HT', HB'⟩
                      · have HX : larumref04_value.f k1 (a0.extract 14 16) = some x := HX
                        have HX := Aside0.mk HX
                        have g0 : wr.cell? ⟨w.heap.size, 8, none⟩ = some (.int .i64 14) := hcell 8 _ rfl
                        have g1 : wr.cell? ⟨w.heap.size, 9, none⟩ = some (.int .i64 16) := hcell 9 _ rfl
                        clear hcell
                        by_cases cx : x < 0
                        · have cxb : decide (x < 0) = true := decide_eq_true cx
                          rw [if_pos cx] at H
                          simp only [Option.some.injEq, Prod.mk.injEq] at H
                          obtain ⟨rfl, rfl⟩ := H
                          go_wp2_with (go_at_call 25; (with_reducible refine (larumref04_value.calls k1 _ x _ HX.out).mono ?_); rintro e w' ⟨rfl, ⟨nd, rfl⟩⟩)
                          go_ret2
                          exact ⟨rfl, by repeat (first | (with_reducible first | exact HB.out | apply below_alloc | apply pw_below_drewN) | exact HB.out)⟩
                        · have cxb : decide (x < 0) = false := decide_eq_false cx
                          rw [if_neg cx] at H
                          have H' := Aside0.mk H
                          clear H
                          go_wp2_with (first | (go_at_call 25; (with_reducible refine (larumref04_value.calls k1 _ x _ HX.out).mono ?_); rintro e w' ⟨rfl, ⟨nd, rfl⟩⟩) | ((with_reducible refine gate_builtin (b := .append) (xs := #[.tmp 64, .tmp 66]) rfl ?_); at_builtin; refine Kd.R_append (Kd.int .i64) (w0 := w) w.heap.size rfl (.tmp 64) (.tmp 66) 49 3 (.int .i64 0) 8 rfl Try.underlying49 info3 rfl (by decide) (by omega) u4 v x [.int .i64 x] (fun _ => True) (fun _ => False) rfl (by first | (go_simp; done) | (go_simp; rfl)) ?aP (fun _ hk => hk.elim) ?aF ?aO ?aB ?aS ?aL ?_; (case aP => exact rfl); (case aB => exact (by repeat (first | (with_reducible first | exact HB.out | apply below_alloc | apply pw_below_drewN) | exact HB.out))); (case aF => exact (fun _ _ => trivial)); (case aO => exact (by (with_reducible repeat (first | apply Kd.R_alloc | apply Kd.R_drewN | apply Kd.R_drew)); exact HO.out)); (case aS => exact (below_size (by repeat (first | (with_reducible first | exact HB.out | apply below_alloc | apply pw_below_drewN) | exact HB.out)))); (case aL => have := HV.out; omega); intro v1 w1 ho hb hg hat; have HT' := Aside0.mk (blk_grown (g := w.heap.size) (o := .cells larumref04_Parse.tab 50 (0, 0)) (by (with_reducible repeat (first | refine blk_drewN ?_ _ | refine blk_drew ?_ | refine blk_alloc ?_ _)); exact HT.out) hg (Kd.R_ne HO.out HT.out (by decide))); have HO' := Aside0.mk ho; have HB' := Aside0.mk hb; clear ho hb hg hat))
                          go_roundg k1
                          case measure => have := HK1.out; omega
                          case rel => exact ⟨5, v ++ [x], (by first | rfl | (simp; done)), ⟨by omega⟩, ⟨by have := HV.out; rw [List.length_append, List.length_cons, List.length_nil]; omega⟩, H', ⟨by have := HK1.out; omega⟩, HO', HT', HB'⟩
                      · have HX : larumref04_value.f k1 (a0.extract 17 19) = some x := HX
                        have HX := Aside0.mk HX
                        have g0 : wr.cell? ⟨w.heap.size, 10, none⟩ = some (.int .i64 17) := hcell 10 _ rfl
                        have g1 : wr.cell? ⟨w.heap.size, 11, none⟩ = some (.int .i64 19) := hcell 11 _ rfl
                        clear hcell
                        by_cases cx : x < 0
                        · have cxb : decide (x < 0) = true := decide_eq_true cx
                          rw [if_pos cx] at H
                          simp only [Option.some.injEq, Prod.mk.injEq] at H
                          obtain ⟨rfl, rfl⟩ := H
                          go_wp2_with (go_at_call 25; (with_reducible refine (larumref04_value.calls k1 _ x _ HX.out).mono ?_); rintro e w' ⟨rfl, ⟨nd, rfl⟩⟩)
                          go_ret2
                          exact ⟨rfl, by repeat (first | (with_reducible first | exact HB.out | apply below_alloc | apply pw_below_drewN) | exact HB.out)⟩
                        · have cxb : decide (x < 0) = false := decide_eq_false cx
                          rw [if_neg cx] at H
                          have H' := Aside0.mk H
                          clear H
                          go_wp2_with (first | (go_at_call 25; (with_reducible refine (larumref04_value.calls k1 _ x _ HX.out).mono ?_); rintro e w' ⟨rfl, ⟨nd, rfl⟩⟩) | ((with_reducible refine gate_builtin (b := .append) (xs := #[.tmp 64, .tmp 66]) rfl ?_); at_builtin; refine Kd.R_append (Kd.int .i64) (w0 := w) w.heap.size rfl (.tmp 64) (.tmp 66) 49 3 (.int .i64 0) 8 rfl Try.underlying49 info3 rfl (by decide) (by omega) u4 v x [.int .i64 x] (fun _ => True) (fun _ => False) rfl (by first | (go_simp; done) | (go_simp; rfl)) ?aP (fun _ hk => hk.elim) ?aF ?aO ?aB ?aS ?aL ?_; (case aP => exact rfl); (case aB => exact (by repeat (first | (with_reducible first | exact HB.out | apply below_alloc | apply pw_below_drewN) | exact HB.out))); (case aF => exact (fun _ _ => trivial)); (case aO => exact (by (with_reducible repeat (first | apply Kd.R_alloc | apply Kd.R_drewN | apply Kd.R_drew)); exact HO.out)); (case aS => exact (below_size (by repeat (first | (with_reducible first | exact HB.out | apply below_alloc | apply pw_below_drewN) | exact HB.out)))); (case aL => have := HV.out; omega); intro v1 w1 ho hb hg hat; have HT' := Aside0.mk (blk_grown (g := w.heap.size) (o := .cells larumref04_Parse.tab 50 (0, 0)) (by (with_reducible repeat (first | refine blk_drewN ?_ _ | refine blk_drew ?_ | refine blk_alloc ?_ _)); exact HT.out) hg (Kd.R_ne HO.out HT.out (by decide))); have HO' := Aside0.mk ho; have HB' := Aside0.mk hb; clear ho hb hg hat))
                          go_roundg k1
                          case measure => have := HK1.out; omega
                          case rel => exact ⟨6, v ++ [x], (by first | rfl | (simp; done)), ⟨by omega⟩, ⟨by have := HV.out; rw [List.length_append, List.length_cons, List.length_nil]; omega⟩, H', ⟨by have := HK1.out; omega⟩, HO', HT', HB'⟩
                    · rw [if_neg c6] at H
                      have hj6 : j = 6 := by omega
                      subst hj6
                      clear hcell c6
                      replace H := Option.bind_eq_some_iff.mp H
                      obtain ⟨n, HD, H⟩ := H
                      have HD := Aside0.mk HD
                      obtain ⟨Ao, co, eo, _, hr⟩ := Kd.R_reads HO.out
                      subst eo
                      have hv := HV.out
                      rw [hv] at hr
                      obtain ⟨ad, ea, c0⟩ := Kd.at_int hr 0 (by omega) (by omega)
                      subst ea
                      obtain ⟨_, e1, c1⟩ := Kd.at_int hr 1 (by omega) (by omega)
                      cases e1
                      obtain ⟨_, e2, c2⟩ := Kd.at_int hr 2 (by omega) (by omega)
                      cases e2
                      obtain ⟨_, e3, c3⟩ := Kd.at_int hr 3 (by omega) (by omega)
                      cases e3
                      obtain ⟨_, e4, c4'⟩ := Kd.at_int hr 4 (by omega) (by omega)
                      cases e4
                      obtain ⟨_, e5, c5⟩ := Kd.at_int hr 5 (by omega) (by omega)
                      cases e5
                      have c0 : wr.cell? ad = some (.int .i64 (rd v 0)) := by simpa [Addr.add] using c0
                      have c1 : wr.cell? ⟨ad.block, ad.off + 1, none⟩ = some (.int .i64 (rd v 1)) := c1
                      have c2 : wr.cell? ⟨ad.block, ad.off + 2, none⟩ = some (.int .i64 (rd v 2)) := c2
                      have c3 : wr.cell? ⟨ad.block, ad.off + 3, none⟩ = some (.int .i64 (rd v 3)) := c3
                      have c4v : wr.cell? ⟨ad.block, ad.off + 4, none⟩ = some (.int .i64 (rd v 4)) := c4'
                      have c5 : wr.cell? ⟨ad.block, ad.off + 5, none⟩ = some (.int .i64 (rd v 5)) := c5
                      clear c4' hr
                      rw [hv]
                      clear hv
                      replace H : (if n < 0 ∨ rd v 3 > 23 ∨ rd v 4 > 59 ∨ rd v 5 > 59 then some (0, 3) else if wrap64 (wrap64 (wrap64 (wrap64 (n * 86400) + wrap64 (rd v 3 * 3600)) + wrap64 (rd v 4 * 60)) + rd v 5) > 137438953472 then some (0, 5) else some (wrap64 (wrap64 (wrap64 (wrap64 (n * 86400) + wrap64 (rd v 3 * 3600)) + wrap64 (rd v 4 * 60)) + rd v 5), 0)) = some (r1, r2) := H
                      generalize rd v 0 = y0 at *
                      generalize rd v 1 = y1 at *
                      generalize rd v 2 = y2 at *
                      generalize rd v 3 = y3 at *
                      generalize rd v 4 = y4 at *
                      generalize rd v 5 = y5 at *
                      go_wp2
                      refine start_ (n := 11) (S := fun w' => w'.cell? ad = some (.int .i64 y0) ∧ w'.cell? ⟨ad.block, ad.off + 1, none⟩ = some (.int .i64 y1) ∧ w'.cell? ⟨ad.block, ad.off + 2, none⟩ = some (.int .i64 y2)) (ds := [9]) #[false, false, false, false, false, false, false, false, false, false, false] (by kernel_rfl) rfl rfl ⟨c0, c1, c2⟩ (fun hHeld => ?_)
                      refine pure_ (i := 0) (N := some 69) (v := ?_) (a' := ?_) #[true, false, false, false, false, false, false, false, false, false, false] rfl rfl (by kernel_rfl) (fun _ _ _ h => h) (Or.inl ⟨by rfl, ?_⟩) ?_ ?_
                      rotate_left
                      · intro w'
                        go_simp
                        with_reducible rfl
                      rotate_left
                      · simp only [Act.put, List.setIfInBounds_toArray, List.set_cons_zero, List.set_cons_succ, i64_w, i32_w]
                        rfl
                      refine pure_ (i := 1) (N := some 70) (v := ?_) (a' := ?_) #[true, true, false, false, false, false, false, false, false, false, false] rfl rfl (by kernel_rfl) (fun _ _ _ h => h) (Or.inl ⟨by rfl, ?_⟩) ?_ ?_
                      rotate_left
                      · intro w'
                        go_simp
                        with_reducible rfl
                      rotate_left
                      · simp only [Act.put, List.setIfInBounds_toArray, List.set_cons_zero, List.set_cons_succ, i64_w, i32_w]
                        rfl
                      refine pure_ (i := 3) (N := some 72) (v := ?_) (a' := ?_) #[true, true, false, true, false, false, false, false, false, false, false] rfl rfl (by kernel_rfl) (fun _ _ _ h => h) (Or.inl ⟨by rfl, ?_⟩) ?_ ?_
                      rotate_left
                      · intro w'
                        go_simp
                        with_reducible rfl
                      rotate_left
                      · simp only [Act.put, List.setIfInBounds_toArray, List.set_cons_zero, List.set_cons_succ, i64_w, i32_w]
                        rfl
                      refine pure_ (i := 4) (N := some 73) (v := ?_) (a' := ?_) #[true, true, false, true, true, false, false, false, false, false, false] rfl rfl (by kernel_rfl) (fun _ _ _ h => h) (Or.inl ⟨by rfl, ?_⟩) ?_ ?_
                      rotate_left
                      · intro w'
                        go_simp
                        with_reducible rfl
                      rotate_left
                      · simp only [Act.put, List.setIfInBounds_toArray, List.set_cons_zero, List.set_cons_succ, i64_w, i32_w]
                        rfl
                      refine pure_ (i := 6) (N := some 75) (v := ?_) (a' := ?_) #[true, true, false, true, true, false, true, false, false, false, false] rfl rfl (by kernel_rfl) (fun _ _ _ h => h) (Or.inl ⟨by rfl, ?_⟩) ?_ ?_
                      rotate_left
                      · intro w'
                        go_simp
                        with_reducible rfl
                      rotate_left
                      · simp only [Act.put, List.setIfInBounds_toArray, List.set_cons_zero, List.set_cons_succ, i64_w, i32_w]
                        rfl
                      refine pure_ (i := 7) (N := some 76) (v := ?_) (a' := ?_) #[true, true, false, true, true, false, true, true, false, false, false] rfl rfl (by kernel_rfl) (fun _ _ _ h => h) (Or.inl ⟨by rfl, ?_⟩) ?_ ?_
                      rotate_left
                      · intro w'
                        go_simp
                        with_reducible rfl
                      rotate_left
                      · simp only [Act.put, List.setIfInBounds_toArray, List.set_cons_zero, List.set_cons_succ, i64_w, i32_w]
                        rfl
                      refine take_ (i := 2) (N := some 71) (v := ?_) (a' := ?_) #[true, true, true, true, true, false, true, true, false, false, false] rfl rfl (by kernel_rfl) (fun _ _ _ h => h) (Or.inl ⟨by rfl, ?_⟩) hHeld ?_ ?_
                      rotate_left
                      · rintro w' ⟨s0, s1, s2⟩
                        go_simp
                        with_reducible rfl
                      rotate_left
                      · simp only [Act.put, List.setIfInBounds_toArray, List.set_cons_zero, List.set_cons_succ, i64_w, i32_w]
                        rfl
                      refine take_ (i := 5) (N := some 74) (v := ?_) (a' := ?_) #[true, true, true, true, true, true, true, true, false, false, false] rfl rfl (by kernel_rfl) (fun _ _ _ h => h) (Or.inl ⟨by rfl, ?_⟩) hHeld ?_ ?_
                      rotate_left
                      · rintro w' ⟨s0, s1, s2⟩
                        go_simp
                        with_reducible rfl
                      rotate_left
                      · simp only [Act.put, List.setIfInBounds_toArray, List.set_cons_zero, List.set_cons_succ, i64_w, i32_w]
                        rfl
                      refine take_ (i := 8) (N := some 77) (v := ?_) (a' := ?_) #[true, true, true, true, true, true, true, true, true, false, false] rfl rfl (by kernel_rfl) (fun _ _ _ h => h) (Or.inl ⟨by rfl, ?_⟩) hHeld ?_ ?_
                      rotate_left
                      · rintro w' ⟨s0, s1, s2⟩
                        go_simp
                        with_reducible rfl
                      rotate_left
                      · simp only [Act.put, List.setIfInBounds_toArray, List.set_cons_zero, List.set_cons_succ, i64_w, i32_w]
                        rfl
                      refine last_ (i := 9) (N := some 78) #[true, true, true, true, true, true, true, true, true, true, false] rfl rfl (by kernel_rfl) (by decide) (fun K hK => ?_)
                      refine goes_ Try.func9 (by kernel_rfl) rfl #[.int .i64 y0, .int .i64 y1, .int .i64 y2] (by rfl) rfl rfl (by simp only [List.map_toArray, List.map_cons, List.map_nil]; rfl) ?_
                      with_reducible refine (larumref04_Days.calls k1 y0 y1 y2 n _ HD.out).mono ?_
                      rintro e w3 ⟨rfl, hb⟩
                      refine ⟨_, rfl, ?_⟩
                      refine hK.out _ _ ?_
                      clear hK K
                      refine norm_ (a' := ?_) ?_ ?_
                      rotate_left
                      · show Act.put _ (some 78) _ = _
                        simp only [Act.put, List.setIfInBounds_toArray, List.set_cons_zero, List.set_cons_succ, i64_w, i32_w]
                        rfl
                      refine pure_ (i := 10) (N := some 8) (v := ?_) (a' := ?_) #[true, true, true, true, true, true, true, true, true, true, true] rfl rfl (by kernel_rfl) (fun _ _ _ h => h) (Or.inl ⟨by rfl, ?_⟩) ?_ ?_
                      rotate_left
                      · intro w'
                        go_simp
                        with_reducible rfl
                      rotate_left
                      · simp only [Act.put, List.setIfInBounds_toArray, List.set_cons_zero, List.set_cons_succ, i64_w, i32_w]
                        rfl
                      refine done_ (by kernel_rfl) ?_
                      have f3 := pw_cell_below hb (show wr.drew.cell? ⟨ad.block, ad.off + 3, none⟩ = some (.int .i64 y3) from c3)
                      have f4 := pw_cell_below hb (show wr.drew.cell? ⟨ad.block, ad.off + 4, none⟩ = some (.int .i64 y4) from c4v)
                      have f5 := pw_cell_below hb (show wr.drew.cell? ⟨ad.block, ad.off + 5, none⟩ = some (.int .i64 y5) from c5)
                      have HB' := below_step (below_drew HB.out) hb
                      clear c0 c1 c2 c3 c4v c5 hb
                      by_cases p0 : n < 0
                      · rw [if_pos (.inl p0)] at H
                        have d0 : decide (n < 0) = true := decide_eq_true p0
                        simp only [Option.some.injEq, Prod.mk.injEq] at H
                        obtain ⟨rfl, rfl⟩ := H
                        go_wp2
                        repeat (go_quiet (fail); try go_wp2)
                        go_ret2
                        exact ⟨rfl, by repeat (first | exact HB' | apply pw_below_drewN)⟩
                      have d0 : decide (n < 0) = false := decide_eq_false p0
                      by_cases p3 : y3 > 23
                      · rw [if_pos (.inr (.inl p3))] at H
                        have d3 : decide (23 < y3) = true := decide_eq_true p3
                        simp only [Option.some.injEq, Prod.mk.injEq] at H
                        obtain ⟨rfl, rfl⟩ := H
                        go_wp2
                        repeat (go_quiet (fail); try go_wp2)
                        go_ret2
                        exact ⟨rfl, by repeat (first | exact HB' | apply pw_below_drewN)⟩
                      have d3 : decide (23 < y3) = false := decide_eq_false p3
                      by_cases p4 : y4 > 59
                      · rw [if_pos (.inr (.inr (.inl p4)))] at H
                        have d4 : decide (59 < y4) = true := decide_eq_true p4
                        simp only [Option.some.injEq, Prod.mk.injEq] at H
                        obtain ⟨rfl, rfl⟩ := H
                        go_wp2
                        repeat (go_quiet (fail); try go_wp2)
                        go_ret2
                        exact ⟨rfl, by repeat (first | exact HB' | apply pw_below_drewN)⟩
                      have d4 : decide (59 < y4) = false := decide_eq_false p4
                      by_cases p5 : y5 > 59
                      · rw [if_pos (.inr (.inr (.inr p5)))] at H
                        have d5 : decide (59 < y5) = true := decide_eq_true p5
                        simp only [Option.some.injEq, Prod.mk.injEq] at H
                        obtain ⟨rfl, rfl⟩ := H
                        go_wp2
                        repeat (go_quiet (fail); try go_wp2)
                        go_ret2
                        exact ⟨rfl, by repeat (first | exact HB' | apply pw_below_drewN)⟩
                      have d5 : decide (59 < y5) = false := decide_eq_false p5
                      rw [if_neg (fun h => by rcases h with h | h | h | h <;> omega)] at H
                      by_cases p6 : wrap64 (wrap64 (wrap64 (wrap64 (n * 86400) + wrap64 (y3 * 3600)) + wrap64 (y4 * 60)) + y5) > 137438953472
                      · rw [if_pos p6] at H
                        have d6 : decide (137438953472 < wrap64 (wrap64 (wrap64 (wrap64 (n * 86400) + wrap64 (y3 * 3600)) + wrap64 (y4 * 60)) + y5)) = true := decide_eq_true p6
                        simp only [Option.some.injEq, Prod.mk.injEq] at H
                        obtain ⟨rfl, rfl⟩ := H
                        go_wp2
                        repeat (go_quiet (fail); try go_wp2)
                        go_ret2
                        exact ⟨rfl, by repeat (first | exact HB' | apply pw_below_drewN)⟩
                      · rw [if_neg p6] at H
                        have d6 : decide (137438953472 < wrap64 (wrap64 (wrap64 (wrap64 (n * 86400) + wrap64 (y3 * 3600)) + wrap64 (y4 * 60)) + y5)) = false := decide_eq_false p6
                        simp only [Option.some.injEq, Prod.mk.injEq] at H
                        obtain ⟨rfl, rfl⟩ := H
                        go_wp2
                        repeat (go_quiet (fail); try go_wp2)
                        go_ret2
                        exact ⟨rfl, by repeat (first | exact HB' | apply pw_below_drewN)⟩
              · have e19 : (bt a0 19 == 90) = false := by simpa using c19
                have f19 : (bt a0 19 != 90) = true := by simpa using c19
                rw [if_neg (fun h => c19 h.2.2.2.2.2.2)] at h
                simp only [Option.some.injEq, Prod.mk.injEq] at h
                obtain ⟨rfl, rfl⟩ := h
                go_enter Try.func16, Try.ntmps16
                go_wp2
                go_ret2
                exact ⟨rfl, Below.refl _ _⟩
            · have e16 : (bt a0 16 == 58) = false := by simpa using c16
              have f16 : (bt a0 16 != 58) = true := by simpa using c16
              rw [if_neg (fun h => c16 h.2.2.2.2.2.1)] at h
              simp only [Option.some.injEq, Prod.mk.injEq] at h
              obtain ⟨rfl, rfl⟩ := h
              go_enter Try.func16, Try.ntmps16
              go_wp2
              go_ret2
              exact ⟨rfl, Below.refl _ _⟩
          · have e13 : (bt a0 13 == 58) = false := by simpa using c13
            have f13 : (bt a0 13 != 58) = true := by simpa using c13
            rw [if_neg (fun h => c13 h.2.2.2.2.1)] at h
            simp only [Option.some.injEq, Prod.mk.injEq] at h
            obtain ⟨rfl, rfl⟩ := h
            go_enter Try.func16, Try.ntmps16
            go_wp2
            go_ret2
            exact ⟨rfl, Below.refl _ _⟩
        · have e10 : (bt a0 10 == 84) = false := by simpa using c10
          have f10 : (bt a0 10 != 84) = true := by simpa using c10
          rw [if_neg (fun h => c10 h.2.2.2.1)] at h
          simp only [Option.some.injEq, Prod.mk.injEq] at h
          obtain ⟨rfl, rfl⟩ := h
          go_enter Try.func16, Try.ntmps16
          go_wp2
          go_ret2
          exact ⟨rfl, Below.refl _ _⟩
      · have e7 : (bt a0 7 == 45) = false := by simpa using c7
        have f7 : (bt a0 7 != 45) = true := by simpa using c7
        rw [if_neg (fun h => c7 h.2.2.1)] at h
        simp only [Option.some.injEq, Prod.mk.injEq] at h
        obtain ⟨rfl, rfl⟩ := h
        go_enter Try.func16, Try.ntmps16
        go_wp2
        go_ret2
        exact ⟨rfl, Below.refl _ _⟩
    · have e4 : (bt a0 4 == 45) = false := by simpa using c4
      have f4 : (bt a0 4 != 45) = true := by simpa using c4
      rw [if_neg (fun h => c4 h.2.1)] at h
      simp only [Option.some.injEq, Prod.mk.injEq] at h
      obtain ⟨rfl, rfl⟩ := h
      go_enter Try.func16, Try.ntmps16
      go_wp2
      go_ret2
      exact ⟨rfl, Below.refl _ _⟩
  · have hzi : ((a0.size : Int) == 20) = false := by simp; omega
    have hzj : ((a0.size : Int) != 20) = true := by simp; omega
    rw [if_neg (fun h => hz h.1)] at h
    simp only [Option.some.injEq, Prod.mk.injEq] at h
    obtain ⟨rfl, rfl⟩ := h
    go_enter Try.func16, Try.ntmps16
    go_wp2
    go_ret2
    exact ⟨rfl, Below.refl _ _⟩


end Go.Proofs.Ytocbfodaboimoaa.PClockParse
