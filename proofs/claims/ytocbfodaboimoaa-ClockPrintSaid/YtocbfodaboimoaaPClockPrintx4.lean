-- By gp.py, a program of this session: the print of the kit with contracts of this session's own beside it.
import Derived.Test.YtocbfodaboimoaaPClockPrintx0
import Derived.Test.YtocbfodaboimoaaPClockPrintx2
import Derived.Test.YtocbfodaboimoaaPClockPrintx3
namespace Go.Proofs.Ytocbfodaboimoaa.PClockPrint
open Go.RowKit Go.Proofs.Ytocbfodaboimoaa.Gp Go.Proofs.YtocbfodaboimoaaW.PrintWords Go.Proofs.YtocbfodaboimoaaW.PrintLast Go.Proofs.YtocbfodaboimoaaW.PrintMore
attribute [local go_sem] max2_int min2_int max_two min_two max_three min_three max_four min_four gp_gtr gp_leq gp_geq   -- for this text's walks alone
set_option linter.unusedVariables false
set_option linter.unusedSimpArgs false

/-! ### larumref04_Date: function 12 -/
mutual
def larumref04_Date.j1 : Nat → Int → Int → Int → Option (Int × Int × Int)
  | 0, _, _, _ => none
  | k + 1, x0, x5, x6 => if x0 < 0 then (larumref04_Date.j2 k x0 x5 x6 true) else (larumref04_Date.j2 k x0 x5 x6 (decide (x5 > 9999)))
def larumref04_Date.j2 : Nat → Int → Int → Int → Bool → Option (Int × Int × Int)
  | 0, _, _, _, _ => none
  | k + 1, x0, x5, x6, x30 => if x30 = true then (some (0, 0, 0)) else (larumref04_Date.l1 k x0 x5 x6)
def larumref04_Date.l1 : Nat → Int → Int → Int → Option (Int × Int × Int)
  | 0, _, _, _ => none
  | k + 1, x0, x5, x6 => (larumref04_Length.f x5 x6).bind fun t137 => (if x0 ≥ t137 then ((larumref04_Length.f x5 x6).bind fun t138 => (larumref04_Date.l1 k (wrap64 (x0 - t138)) x5 (wrap64 (x6 + 1)))) else (some (x5, x6, wrap64 (x0 + 1))))
def larumref04_Date.l0 : Nat → Int → Int → Int → Option (Int × Int × Int)
  | 0, _, _, _ => none
  | k + 1, x0, x5, x6 => if x0 ≥ 0 then (if x5 ≤ 9999 then ((larumref04_Year.f x5).bind fun t135 => (if x0 ≥ t135 then ((larumref04_Year.f x5).bind fun t136 => (larumref04_Date.l0 k (wrap64 (x0 - t136)) (wrap64 (x5 + 1)) x6)) else (larumref04_Date.j1 k x0 x5 x6))) else (larumref04_Date.j1 k x0 x5 x6)) else (larumref04_Date.j1 k x0 x5 x6)
end
def larumref04_Date.f (k : Nat) (a0 : Int) : Option (Int × Int × Int) := larumref04_Date.l0 k a0 1970 1
theorem larumref04_Date.mono_l : ∀ k, (∀ y0 y1 y2, LeO (larumref04_Date.j1 k y0 y1 y2) (larumref04_Date.j1 (k + 1) y0 y1 y2)) ∧ (∀ y0 y1 y2 y3, LeO (larumref04_Date.j2 k y0 y1 y2 y3) (larumref04_Date.j2 (k + 1) y0 y1 y2 y3)) ∧ (∀ y0 y1 y2, LeO (larumref04_Date.l1 k y0 y1 y2) (larumref04_Date.l1 (k + 1) y0 y1 y2)) ∧ (∀ y0 y1 y2, LeO (larumref04_Date.l0 k y0 y1 y2) (larumref04_Date.l0 (k + 1) y0 y1 y2))
  | 0 => ⟨fun _ _ _ r h => by simp [larumref04_Date.j1] at h, fun _ _ _ _ r h => by simp [larumref04_Date.j2] at h, fun _ _ _ r h => by simp [larumref04_Date.l1] at h, fun _ _ _ r h => by simp [larumref04_Date.l0] at h⟩
  | k + 1 => by
    obtain ⟨ih0, ih1, ih2, ih3⟩ := larumref04_Date.mono_l k
    refine ⟨?_, ?_, ?_, ?_⟩
    · intro y0 y1 y2
      unfold larumref04_Date.j1
      repeat' first
      | (with_reducible exact ih0 _ _ _)
      | (with_reducible exact ih1 _ _ _ _)
      | (with_reducible exact ih2 _ _ _)
      | (with_reducible exact ih3 _ _ _)
      | (with_reducible exact LeO.refl _)
      | (with_reducible exact LeO.none _)
      | (with_reducible refine LeO.ite ?_ ?_)
      | (with_reducible refine LeO.bind ?_ (fun _ => ?_))
      | exact ih0 _ _ _
      | exact ih1 _ _ _ _
      | exact ih2 _ _ _
      | exact ih3 _ _ _
      | exact LeO.none _
      | refine LeO.ite ?_ ?_
      | refine LeO.bind ?_ (fun _ => ?_)
    · intro y0 y1 y2 y3
      unfold larumref04_Date.j2
      repeat' first
      | (with_reducible exact ih0 _ _ _)
      | (with_reducible exact ih1 _ _ _ _)
      | (with_reducible exact ih2 _ _ _)
      | (with_reducible exact ih3 _ _ _)
      | (with_reducible exact LeO.refl _)
      | (with_reducible exact LeO.none _)
      | (with_reducible refine LeO.ite ?_ ?_)
      | (with_reducible refine LeO.bind ?_ (fun _ => ?_))
      | exact ih0 _ _ _
      | exact ih1 _ _ _ _
      | exact ih2 _ _ _
      | exact ih3 _ _ _
      | exact LeO.none _
      | refine LeO.ite ?_ ?_
      | refine LeO.bind ?_ (fun _ => ?_)
    · intro y0 y1 y2
      unfold larumref04_Date.l1
      repeat' first
      | (with_reducible exact ih0 _ _ _)
      | (with_reducible exact ih1 _ _ _ _)
      | (with_reducible exact ih2 _ _ _)
      | (with_reducible exact ih3 _ _ _)
      | (with_reducible exact LeO.refl _)
      | (with_reducible exact LeO.none _)
      | (with_reducible refine LeO.ite ?_ ?_)
      | (with_reducible refine LeO.bind ?_ (fun _ => ?_))
      | exact ih0 _ _ _
      | exact ih1 _ _ _ _
      | exact ih2 _ _ _
      | exact ih3 _ _ _
      | exact LeO.none _
      | refine LeO.ite ?_ ?_
      | refine LeO.bind ?_ (fun _ => ?_)
    · intro y0 y1 y2
      unfold larumref04_Date.l0
      repeat' first
      | (with_reducible exact ih0 _ _ _)
      | (with_reducible exact ih1 _ _ _ _)
      | (with_reducible exact ih2 _ _ _)
      | (with_reducible exact ih3 _ _ _)
      | (with_reducible exact LeO.refl _)
      | (with_reducible exact LeO.none _)
      | (with_reducible refine LeO.ite ?_ ?_)
      | (with_reducible refine LeO.bind ?_ (fun _ => ?_))
      | exact ih0 _ _ _
      | exact ih1 _ _ _ _
      | exact ih2 _ _ _
      | exact ih3 _ _ _
      | exact LeO.none _
      | refine LeO.ite ?_ ?_
      | refine LeO.bind ?_ (fun _ => ?_)
theorem larumref04_Date.mono : ∀ a0 k, LeO (larumref04_Date.f k a0) (larumref04_Date.f (k + 1) a0) := by
  intro a0 k
  obtain ⟨ih0, ih1, ih2, ih3⟩ := larumref04_Date.mono_l k
  unfold larumref04_Date.f
  repeat' first
      | (with_reducible exact ih0 _ _ _)
      | (with_reducible exact ih1 _ _ _ _)
      | (with_reducible exact ih2 _ _ _)
      | (with_reducible exact ih3 _ _ _)
      | (with_reducible exact LeO.refl _)
      | (with_reducible exact LeO.none _)
      | (with_reducible refine LeO.ite ?_ ?_)
      | (with_reducible refine LeO.bind ?_ (fun _ => ?_))
      | exact ih0 _ _ _
      | exact ih1 _ _ _ _
      | exact ih2 _ _ _
      | exact ih3 _ _ _
      | exact LeO.none _
      | refine LeO.ite ?_ ?_
      | refine LeO.bind ?_ (fun _ => ?_)
set_option maxHeartbeats 8000000 in
set_option maxRecDepth 100000 in
theorem larumref04_Date.calls (k : Nat) (a0 : Int) (r1 : Int) (r2 : Int) (r3 : Int) (w : World) (h : larumref04_Date.f k a0 = some (r1, r2, r3)) :
    Calls Try.prog 12 #[.int .i64 a0] w fun e w' => e = .returned (.tuple #[.int .i64 r1, .int .i64 r2, .int .i64 r3]) ∧ Below w.heap.size w w' := by
  have HB := Aside0.mk (Below.refl w.heap.size w)
  have H : (larumref04_Date.l0 k a0 1970 1) = some (r1, r2, r3) := h
  clear h
  have HC2 := Aside0.mk H
  clear H
  go_enter Try.func12, Try.ntmps12
  go_upto_block 0 with (fail)
  go_cut [0, 5] (fun v0 v5 wc => ∃ (kq : Nat) (x0_1 : Int) (x5_1 : Int), v0 = .int .i64 x0_1 ∧ v5 = .int .i64 x5_1 ∧ Aside0 (larumref04_Date.j1 kq x0_1 x5_1 1 = some (r1, r2, r3)) ∧ Aside0 (kq ≤ k) ∧ Aside0 (Below w.heap.size w wc))
  case first =>
    have H := HC2.out
    clear HC2
    have H' := Aside0.mk H
    clear H
    go_wp2
    go_loopg [0, 5] k (fun kq v0 v5 w' => ∃ (x0_1 : Int) (x5_1 : Int), v0 = .int .i64 x0_1 ∧ v5 = .int .i64 x5_1 ∧ Aside0 (larumref04_Date.l0 kq x0_1 x5_1 1 = some (r1, r2, r3)) ∧ Aside0 (kq ≤ k) ∧ Aside0 (Below w.heap.size w w'))
    case atStart => exact ⟨(a0), (1970), (by first | rfl | (simp; done) | (simp [*]; done) | (simp only [i64_w, i32_w]; done) | (simp [i64_w, i32_w, *]; done) | (simp [gp_ne]; done) | (simp [gp_ne, i64_w, i32_w, *]; done) | (simp [i64_w, i32_w]; (try unfold wrap64); (try unfold wrap32); omega)), (by first | rfl | (simp; done) | (simp [*]; done) | (simp only [i64_w, i32_w]; done) | (simp [i64_w, i32_w, *]; done) | (simp [gp_ne]; done) | (simp [gp_ne, i64_w, i32_w, *]; done) | (simp [i64_w, i32_w]; (try unfold wrap64); (try unfold wrap32); omega)), H', ⟨Nat.le_refl _⟩, ⟨by repeat (first | (with_reducible first | exact HB.out | apply below_alloc | apply pw_below_drewN | apply below_drew1) | exact HB.out)⟩⟩
    case round =>
      clear H'
      try clear c1
      try clear p2
      obtain ⟨x0_1, x5_1, rfl, rfl, HA, HK1, HB⟩ := hrel
      cases gk with
      | zero => exact absurd HA.out (by simp [larumref04_Date.l0])
      | succ k1 =>
        have H := HA.out
        clear HA
        simp only [larumref04_Date.l0] at H
        by_cases c3 : x0_1 ≥ 0
        · rw [if_pos c3] at H
          have c3b0 : decide (0 ≤ x0_1) = true := decide_eq_true c3
          clear c3
          (first | rw [c3b0] | (simp only [i64_w, i32_w]; rw [c3b0]) | skip)
          by_cases c4 : x5_1 ≤ 9999
          · rw [if_pos c4] at H
            have c4b0 : decide (x5_1 ≤ 9999) = true := decide_eq_true c4
            clear c4
            replace H := Option.bind_eq_some_iff.mp H
            obtain ⟨t135, A50, H⟩ := H
            replace H : (if x0_1 ≥ t135 then ((larumref04_Year.f x5_1).bind fun t136 => (larumref04_Date.l0 k1 (wrap64 (x0_1 - t136)) (wrap64 (x5_1 + 1)) 1)) else (larumref04_Date.j1 k1 x0_1 x5_1 1)) = some (r1, r2, r3) := H
            have A5 := Aside0.mk A50
            clear A50
            by_cases c6 : x0_1 ≥ t135
            · rw [if_pos c6] at H
              have c6b0 : decide (t135 ≤ x0_1) = true := decide_eq_true c6
              clear c6
              replace H := Option.bind_eq_some_iff.mp H
              obtain ⟨t136, A70, H⟩ := H
              replace H : (larumref04_Date.l0 k1 (wrap64 (x0_1 - t136)) (wrap64 (x5_1 + 1)) 1) = some (r1, r2, r3) := H
              have A7 := Aside0.mk A70
              clear A70
              have H' := Aside0.mk H
              clear H
              go_wp2_with (first | (go_at_call 20; (with_reducible refine (larumref04_Year.calls x5_1 t135 _ A5.out).mono ?_); rintro e w' ⟨rfl, ⟨nd, rfl⟩⟩) | ((with_reducible refine gate_callee (f := 20) rfl ?_); refine goesL_ (some 21) rfl rfl Try.func20 (by kernel_rfl) rfl #[.int .i64 x5_1] rfl (by (try simp only [List.map_toArray, List.map_cons, List.map_nil]); first | done | rfl | (simp only [List.length_drop, List.length_take]; rfl)) ?_; (with_reducible refine (larumref04_Year.calls x5_1 t136 _ A7.out).mono ?_); rintro e w' ⟨rfl, ⟨nd, rfl⟩⟩; refine ⟨_, rfl, ?_⟩))
              go_roundg k1
              case measure => have := HK1.out; omega
              case rel => exact ⟨(wrap64 (x0_1 - t136)), (wrap64 (x5_1 + 1)), (by first | rfl | (simp; done) | (simp [*]; done) | (simp only [i64_w, i32_w]; done) | (simp [i64_w, i32_w, *]; done) | (simp [gp_ne]; done) | (simp [gp_ne, i64_w, i32_w, *]; done) | (simp [i64_w, i32_w]; (try unfold wrap64); (try unfold wrap32); omega)), (by first | rfl | (simp; done) | (simp [*]; done) | (simp only [i64_w, i32_w]; done) | (simp [i64_w, i32_w, *]; done) | (simp [gp_ne]; done) | (simp [gp_ne, i64_w, i32_w, *]; done) | (simp [i64_w, i32_w]; (try unfold wrap64); (try unfold wrap32); omega)), H', ⟨by have := HK1.out; omega⟩, ⟨by repeat (first | (with_reducible first | exact HB.out | apply below_alloc | apply pw_below_drewN | apply below_drew1) | exact HB.out)⟩⟩
            · rw [if_neg c6] at H
              have c6b0 : decide (t135 ≤ x0_1) = false := decide_eq_false c6
              clear c6
              have H' := Aside0.mk H
              clear H
              go_wp2_with (first | (go_at_call 20; (with_reducible refine (larumref04_Year.calls x5_1 t135 _ A5.out).mono ?_); rintro e w' ⟨rfl, ⟨nd, rfl⟩⟩))
              go_meet
              case rel => exact ⟨_, (x0_1), (x5_1), (by first | rfl | (simp; done) | (simp [*]; done) | (simp only [i64_w, i32_w]; done) | (simp [i64_w, i32_w, *]; done) | (simp [gp_ne]; done) | (simp [gp_ne, i64_w, i32_w, *]; done) | (simp [i64_w, i32_w]; (try unfold wrap64); (try unfold wrap32); omega)), (by first | rfl | (simp; done) | (simp [*]; done) | (simp only [i64_w, i32_w]; done) | (simp [i64_w, i32_w, *]; done) | (simp [gp_ne]; done) | (simp [gp_ne, i64_w, i32_w, *]; done) | (simp [i64_w, i32_w]; (try unfold wrap64); (try unfold wrap32); omega)), H', ⟨by have := HK1.out; first | omega | exact Nat.le_refl _⟩, ⟨by repeat (first | (with_reducible first | exact HB.out | apply below_alloc | apply pw_below_drewN | apply below_drew1) | exact HB.out)⟩⟩
          · rw [if_neg c4] at H
            have c4b0 : decide (x5_1 ≤ 9999) = false := decide_eq_false c4
            clear c4
            have H' := Aside0.mk H
            clear H
            go_wp2
            go_meet
            case rel => exact ⟨_, (x0_1), (x5_1), (by first | rfl | (simp; done) | (simp [*]; done) | (simp only [i64_w, i32_w]; done) | (simp [i64_w, i32_w, *]; done) | (simp [gp_ne]; done) | (simp [gp_ne, i64_w, i32_w, *]; done) | (simp [i64_w, i32_w]; (try unfold wrap64); (try unfold wrap32); omega)), (by first | rfl | (simp; done) | (simp [*]; done) | (simp only [i64_w, i32_w]; done) | (simp [i64_w, i32_w, *]; done) | (simp [gp_ne]; done) | (simp [gp_ne, i64_w, i32_w, *]; done) | (simp [i64_w, i32_w]; (try unfold wrap64); (try unfold wrap32); omega)), H', ⟨by have := HK1.out; first | omega | exact Nat.le_refl _⟩, ⟨by repeat (first | (with_reducible first | exact HB.out | apply below_alloc | apply pw_below_drewN | apply below_drew1) | exact HB.out)⟩⟩
        · rw [if_neg c3] at H
          have c3b0 : decide (0 ≤ x0_1) = false := decide_eq_false c3
          clear c3
          (first | rw [c3b0] | (simp only [i64_w, i32_w]; rw [c3b0]) | skip)
          have H' := Aside0.mk H
          clear H
          go_wp2
          go_meet
          case rel => exact ⟨_, (x0_1), (x5_1), (by first | rfl | (simp; done) | (simp [*]; done) | (simp only [i64_w, i32_w]; done) | (simp [i64_w, i32_w, *]; done) | (simp [gp_ne]; done) | (simp [gp_ne, i64_w, i32_w, *]; done) | (simp [i64_w, i32_w]; (try unfold wrap64); (try unfold wrap32); omega)), (by first | rfl | (simp; done) | (simp [*]; done) | (simp only [i64_w, i32_w]; done) | (simp [i64_w, i32_w, *]; done) | (simp [gp_ne]; done) | (simp [gp_ne, i64_w, i32_w, *]; done) | (simp [i64_w, i32_w]; (try unfold wrap64); (try unfold wrap32); omega)), H', ⟨by have := HK1.out; first | omega | exact Nat.le_refl _⟩, ⟨by repeat (first | (with_reducible first | exact HB.out | apply below_alloc | apply pw_below_drewN | apply below_drew1) | exact HB.out)⟩⟩
  case rest =>
    clear HC2
    try clear c1
    try clear c2
    try clear p2
    try clear c3
    try clear c3b0
    try clear c4
    try clear c4b0
    try clear c6
    try clear c6b0
    try clear p6
    try clear p2
    obtain ⟨kq, x0_1, x5_1, rfl, rfl, HA, HJ1, HB⟩ := hcut
    cases kq with
    | zero => exact absurd HA.out (by simp [larumref04_Date.j1])
    | succ kj1 =>
      have H := HA.out
      clear HA
      simp only [larumref04_Date.j1] at H
      have HC8 := Aside0.mk H
      clear H
      go_upto_region 5 with (fail)
      go_cut [30] (fun v30 wc => ∃ (kq : Nat) (x30_7 : Bool), v30 = .bool x30_7 ∧ Aside0 (larumref04_Date.j2 kq x0_1 x5_1 1 x30_7 = some (r1, r2, r3)) ∧ Aside0 (kq ≤ kj1) ∧ Aside0 (Below w.heap.size w wc))
      case first =>
        have H := HC8.out
        clear HC8
        by_cases c9 : x0_1 < 0
        · rw [if_pos c9] at H
          have c9b0 : decide (x0_1 < 0) = true := decide_eq_true c9
          clear c9
          (first | rw [c9b0] | (simp only [i64_w, i32_w]; rw [c9b0]) | skip)
          have H' := Aside0.mk H
          clear H
          go_wp2
          go_meet
          case rel => exact ⟨_, (true), (by first | rfl | (simp; done) | (simp [*]; done) | (simp only [i64_w, i32_w]; done) | (simp [i64_w, i32_w, *]; done) | (simp [gp_ne]; done) | (simp [gp_ne, i64_w, i32_w, *]; done) | (simp [i64_w, i32_w]; (try unfold wrap64); (try unfold wrap32); omega)), H', ⟨by have := HJ1.out; first | omega | exact Nat.le_refl _⟩, ⟨by repeat (first | (with_reducible first | exact HB.out | apply below_alloc | apply pw_below_drewN | apply below_drew1) | exact HB.out)⟩⟩
        · rw [if_neg c9] at H
          have c9b0 : decide (x0_1 < 0) = false := decide_eq_false c9
          clear c9
          (first | rw [c9b0] | (simp only [i64_w, i32_w]; rw [c9b0]) | skip)
          have H' := Aside0.mk H
          clear H
          go_wp2
          go_meet
          case rel => exact ⟨_, (decide (x5_1 > 9999)), (by first | rfl | (simp; done) | (simp [*]; done) | (simp only [i64_w, i32_w]; done) | (simp [i64_w, i32_w, *]; done) | (simp [gp_ne]; done) | (simp [gp_ne, i64_w, i32_w, *]; done) | (simp [i64_w, i32_w]; (try unfold wrap64); (try unfold wrap32); omega)), H', ⟨by have := HJ1.out; first | omega | exact Nat.le_refl _⟩, ⟨by repeat (first | (with_reducible first | exact HB.out | apply below_alloc | apply pw_below_drewN | apply below_drew1) | exact HB.out)⟩⟩
      case rest =>
        clear HC8
        try clear c1
        try clear c2
        try clear p2
        try clear c3
        try clear c3b0
        try clear c4
        try clear c4b0
        try clear c6
        try clear c6b0
        try clear p6
        try clear c9
        try clear c9b0
        try clear p2
        try clear p6
        obtain ⟨kq, x30_7, rfl, HA, HJ7, HB⟩ := hcut
        cases kq with
        | zero => exact absurd HA.out (by simp [larumref04_Date.j2])
        | succ kj7 =>
          have H := HA.out
          clear HA
          simp only [larumref04_Date.j2] at H
          by_cases c10 : x30_7 = true
          · subst c10
            have H1 : (some (0, 0, 0)) = some (r1, r2, r3) := by rw [if_pos rfl] at H; exact H
            clear H
            have H := H1
            clear H1
            simp only [Option.some.injEq, Prod.mk.injEq] at H
            obtain ⟨rfl, rfl, rfl⟩ := H
            go_wp2
            go_ret3
            exact ⟨by first | rfl | (simp [errW_none, errW_some] <;> rfl) | (simp [*, errW_none, errW_some] <;> rfl) | (simp [gp_ne]; done) | (simp [gp_ne, i64_w, i32_w, *]; done) | (simp [i64_w, i32_w]; (try unfold wrap64); (try unfold wrap32); omega), by repeat (first | (with_reducible first | exact HB.out | apply below_alloc | apply pw_below_drewN | apply below_drew1) | exact HB.out)⟩
          · replace c10 := Bool.eq_false_iff.mpr c10
            subst c10
            have H1 : (larumref04_Date.l1 kj7 x0_1 x5_1 1) = some (r1, r2, r3) := by rw [if_neg (show ¬ (false = true) by decide)] at H; exact H
            clear H
            have H := H1
            clear H1
            have H' := Aside0.mk H
            clear H
            go_wp2
            go_loopg [0, 6] kj7 (fun kq v0 v6 w' => ∃ (x0_3 : Int) (x6_3 : Int), v0 = .int .i64 x0_3 ∧ v6 = .int .i64 x6_3 ∧ Aside0 (larumref04_Date.l1 kq x0_3 x5_1 x6_3 = some (r1, r2, r3)) ∧ Aside0 (kq ≤ kj7) ∧ Aside0 (Below w.heap.size w w'))
            case atStart => exact ⟨(x0_1), (1), (by first | rfl | (simp; done) | (simp [*]; done) | (simp only [i64_w, i32_w]; done) | (simp [i64_w, i32_w, *]; done) | (simp [gp_ne]; done) | (simp [gp_ne, i64_w, i32_w, *]; done) | (simp [i64_w, i32_w]; (try unfold wrap64); (try unfold wrap32); omega)), (by first | rfl | (simp; done) | (simp [*]; done) | (simp only [i64_w, i32_w]; done) | (simp [i64_w, i32_w, *]; done) | (simp [gp_ne]; done) | (simp [gp_ne, i64_w, i32_w, *]; done) | (simp [i64_w, i32_w]; (try unfold wrap64); (try unfold wrap32); omega)), H', ⟨Nat.le_refl _⟩, ⟨by repeat (first | (with_reducible first | exact HB.out | apply below_alloc | apply pw_below_drewN | apply below_drew1) | exact HB.out)⟩⟩
            case round =>
              clear H'
              try clear c1
              try clear c2
              try clear p2
              try clear c3
              try clear c3b0
              try clear c4
              try clear c4b0
              try clear c6
              try clear c6b0
              try clear p6
              try clear c9
              try clear c9b0
              try clear c10
              try clear p2
              try clear p6
              obtain ⟨x0_3, x6_3, rfl, rfl, HA, HK3, HB⟩ := hrel
              cases gk with
              | zero => exact absurd HA.out (by simp [larumref04_Date.l1])
              | succ k3 =>
                have H := HA.out
                clear HA
                simp only [larumref04_Date.l1] at H
                replace H := Option.bind_eq_some_iff.mp H
                obtain ⟨t137, A110, H⟩ := H
                replace H : (if x0_3 ≥ t137 then ((larumref04_Length.f x5_1 x6_3).bind fun t138 => (larumref04_Date.l1 k3 (wrap64 (x0_3 - t138)) x5_1 (wrap64 (x6_3 + 1)))) else (some (x5_1, x6_3, wrap64 (x0_3 + 1)))) = some (r1, r2, r3) := H
                have A11 := Aside0.mk A110
                clear A110
                by_cases c12 : x0_3 ≥ t137
                · rw [if_pos c12] at H
                  have c12b0 : decide (t137 ≤ x0_3) = true := decide_eq_true c12
                  clear c12
                  replace H := Option.bind_eq_some_iff.mp H
                  obtain ⟨t138, A130, H⟩ := H
                  replace H : (larumref04_Date.l1 k3 (wrap64 (x0_3 - t138)) x5_1 (wrap64 (x6_3 + 1))) = some (r1, r2, r3) := H
                  have A13 := Aside0.mk A130
                  clear A130
                  have H' := Aside0.mk H
                  clear H
                  go_wp2_with (first | ((with_reducible refine gate_callee (f := 19) rfl ?_); refine goesL_ (some 34) rfl rfl Try.func19 (by kernel_rfl) rfl #[.int .i64 x5_1, .int .i64 x6_3] rfl (by (try simp only [List.map_toArray, List.map_cons, List.map_nil]); first | done | rfl | (simp only [List.length_drop, List.length_take]; rfl)) ?_; (with_reducible refine (larumref04_Length.calls x5_1 x6_3 t137 _ A11.out).mono ?_); rintro e w14 ⟨rfl, hb⟩; refine ⟨_, rfl, ?_⟩; have n0_ := Aside0.mk (below_step (by repeat (first | (with_reducible first | exact HB.out | apply below_alloc | apply pw_below_drewN | apply below_drew1) | exact HB.out)) hb); clear HB; have HB := n0_; clear n0_; (try clear hb); (try clear hb2); (try clear hk); (try clear hi)) | ((with_reducible refine gate_callee (f := 19) rfl ?_); refine goesL_ (some 39) rfl rfl Try.func19 (by kernel_rfl) rfl #[.int .i64 x5_1, .int .i64 x6_3] rfl (by (try simp only [List.map_toArray, List.map_cons, List.map_nil]); first | done | rfl | (simp only [List.length_drop, List.length_take]; rfl)) ?_; (with_reducible refine (larumref04_Length.calls x5_1 x6_3 t138 _ A13.out).mono ?_); rintro e w15 ⟨rfl, hb⟩; refine ⟨_, rfl, ?_⟩; have n0_ := Aside0.mk (below_step (by repeat (first | (with_reducible first | exact HB.out | apply below_alloc | apply pw_below_drewN | apply below_drew1) | exact HB.out)) hb); clear HB; have HB := n0_; clear n0_; (try clear hb); (try clear hb2); (try clear hk); (try clear hi)))
                  go_roundg k3
                  case measure => have := HJ1.out; have := HJ7.out; have := HK3.out; omega
                  case rel => exact ⟨(wrap64 (x0_3 - t138)), (wrap64 (x6_3 + 1)), (by first | rfl | (simp; done) | (simp [*]; done) | (simp only [i64_w, i32_w]; done) | (simp [i64_w, i32_w, *]; done) | (simp [gp_ne]; done) | (simp [gp_ne, i64_w, i32_w, *]; done) | (simp [i64_w, i32_w]; (try unfold wrap64); (try unfold wrap32); omega)), (by first | rfl | (simp; done) | (simp [*]; done) | (simp only [i64_w, i32_w]; done) | (simp [i64_w, i32_w, *]; done) | (simp [gp_ne]; done) | (simp [gp_ne, i64_w, i32_w, *]; done) | (simp [i64_w, i32_w]; (try unfold wrap64); (try unfold wrap32); omega)), H', ⟨by have := HJ1.out; have := HJ7.out; have := HK3.out; omega⟩, ⟨by repeat (first | (with_reducible first | exact HB.out | apply below_alloc | apply pw_below_drewN | apply below_drew1) | exact HB.out)⟩⟩
                · rw [if_neg c12] at H
                  have c12b0 : decide (t137 ≤ x0_3) = false := decide_eq_false c12
                  clear c12
                  simp only [Option.some.injEq, Prod.mk.injEq] at H
                  obtain ⟨rfl, rfl, rfl⟩ := H
                  go_wp2_with (first | ((with_reducible refine gate_callee (f := 19) rfl ?_); refine goesL_ (some 34) rfl rfl Try.func19 (by kernel_rfl) rfl #[.int .i64 x5_1, .int .i64 x6_3] rfl (by (try simp only [List.map_toArray, List.map_cons, List.map_nil]); first | done | rfl | (simp only [List.length_drop, List.length_take]; rfl)) ?_; (with_reducible refine (larumref04_Length.calls x5_1 x6_3 t137 _ A11.out).mono ?_); rintro e w16 ⟨rfl, hb⟩; refine ⟨_, rfl, ?_⟩; have n0_ := Aside0.mk (below_step (by repeat (first | (with_reducible first | exact HB.out | apply below_alloc | apply pw_below_drewN | apply below_drew1) | exact HB.out)) hb); clear HB; have HB := n0_; clear n0_; (try clear hb); (try clear hb2); (try clear hk); (try clear hi)))
                  go_ret3
                  exact ⟨by first | rfl | (simp [errW_none, errW_some] <;> rfl) | (simp [*, errW_none, errW_some] <;> rfl) | (simp [gp_ne]; done) | (simp [gp_ne, i64_w, i32_w, *]; done) | (simp [i64_w, i32_w]; (try unfold wrap64); (try unfold wrap32); omega), by repeat (first | (with_reducible first | exact HB.out | apply below_alloc | apply pw_below_drewN | apply below_drew1) | exact HB.out)⟩

/-! ### larumref04_digits: function 24 -/
def larumref04_digits.l0 : Nat → Int → Int → ByteArray → Int → Option (ByteArray)
  | 0, _, _, _, _ => none
  | k + 1, x0, x1, x5, x6 => if x6 < x1 then ((some (([(wrap64 (48 + (Int.tmod x0 10))) % 256] : List Int) : List Int)).bind fun y139 => (if (strOfNums y139).size + x5.size ≤ 9223372036854775807 then (larumref04_digits.l0 k (wrap64 (Int.tdiv x0 10)) x1 ((strOfNums y139) ++ x5) (wrap64 (x6 + 1))) else (none))) else (some x5)
def larumref04_digits.f (k : Nat) (a0 : Int) (a1 : Int) : Option (ByteArray) := larumref04_digits.l0 k a0 a1 (⟨#[]⟩ : ByteArray) 0
theorem larumref04_digits.mono_l : ∀ k, (∀ y0 y1 y2 y3, LeO (larumref04_digits.l0 k y0 y1 y2 y3) (larumref04_digits.l0 (k + 1) y0 y1 y2 y3))
  | 0 => fun _ _ _ _ r h => by simp [larumref04_digits.l0] at h
  | k + 1 => by
    have ih0 := larumref04_digits.mono_l k
    · intro y0 y1 y2 y3
      unfold larumref04_digits.l0
      repeat' first
      | (with_reducible exact ih0 _ _ _ _)
      | (with_reducible exact LeO.refl _)
      | (with_reducible exact LeO.none _)
      | (with_reducible refine LeO.ite ?_ ?_)
      | (with_reducible refine LeO.bind ?_ (fun _ => ?_))
      | exact ih0 _ _ _ _
      | exact LeO.none _
      | refine LeO.ite ?_ ?_
      | refine LeO.bind ?_ (fun _ => ?_)
theorem larumref04_digits.mono : ∀ a0 a1 k, LeO (larumref04_digits.f k a0 a1) (larumref04_digits.f (k + 1) a0 a1) := by
  intro a0 a1 k
  have ih0 := larumref04_digits.mono_l k
  unfold larumref04_digits.f
  repeat' first
      | (with_reducible exact ih0 _ _ _ _)
      | (with_reducible exact LeO.refl _)
      | (with_reducible exact LeO.none _)
      | (with_reducible refine LeO.ite ?_ ?_)
      | (with_reducible refine LeO.bind ?_ (fun _ => ?_))
      | exact ih0 _ _ _ _
      | exact LeO.none _
      | refine LeO.ite ?_ ?_
      | refine LeO.bind ?_ (fun _ => ?_)
set_option maxHeartbeats 8000000 in
set_option maxRecDepth 100000 in
theorem larumref04_digits.calls (k : Nat) (a0 : Int) (a1 : Int) (r : ByteArray) (w : World) (h : larumref04_digits.f k a0 a1 = some r) :
    Calls Try.prog 24 #[.int .i64 a0, .int .i64 a1] w fun e w' => e = .returned (.string r) ∧ Below w.heap.size w w' := by
  have HB := Aside0.mk (Below.refl w.heap.size w)
  have H : (larumref04_digits.l0 k a0 a1 (⟨#[]⟩ : ByteArray) 0) = some r := h
  clear h
  have H' := Aside0.mk H
  clear H
  go_enter Try.func24, Try.ntmps24
  go_wp2
  go_loopg [0, 5, 6] k (fun kq v0 v5 v6 w' => ∃ (x0_1 : Int) (x5_1 : ByteArray) (x6_1 : Int), v0 = .int .i64 x0_1 ∧ v5 = .string x5_1 ∧ v6 = .int .i64 x6_1 ∧ Aside0 (larumref04_digits.l0 kq x0_1 a1 x5_1 x6_1 = some r) ∧ Aside0 (kq ≤ k) ∧ Aside0 (Below w.heap.size w w'))
  case atStart => exact ⟨(a0), ((⟨#[]⟩ : ByteArray)), (0), (by first | rfl | (simp; done) | (simp [*]; done) | (simp only [i64_w, i32_w]; done) | (simp [i64_w, i32_w, *]; done) | (simp [gp_ne]; done) | (simp [gp_ne, i64_w, i32_w, *]; done) | (simp [i64_w, i32_w]; (try unfold wrap64); (try unfold wrap32); omega)), (by first | rfl | (simp; done) | (simp [*]; done) | (simp only [i64_w, i32_w]; done) | (simp [i64_w, i32_w, *]; done) | (simp [gp_ne]; done) | (simp [gp_ne, i64_w, i32_w, *]; done) | (simp [i64_w, i32_w]; (try unfold wrap64); (try unfold wrap32); omega)), (by first | rfl | (simp; done) | (simp [*]; done) | (simp only [i64_w, i32_w]; done) | (simp [i64_w, i32_w, *]; done) | (simp [gp_ne]; done) | (simp [gp_ne, i64_w, i32_w, *]; done) | (simp [i64_w, i32_w]; (try unfold wrap64); (try unfold wrap32); omega)), H', ⟨Nat.le_refl _⟩, ⟨by repeat (first | (with_reducible first | exact HB.out | apply below_alloc | apply pw_below_drewN | apply below_drew1) | exact HB.out)⟩⟩
  case round =>
    clear H'
    try clear c2
    try clear p2
    obtain ⟨x0_1, x5_1, x6_1, rfl, rfl, rfl, HA, HK1, HB⟩ := hrel
    cases gk with
    | zero => exact absurd HA.out (by simp [larumref04_digits.l0])
    | succ k1 =>
      have H := HA.out
      clear HA
      simp only [larumref04_digits.l0] at H
      by_cases c3 : x6_1 < a1
      · rw [if_pos c3] at H
        have c3b0 : decide (x6_1 < a1) = true := decide_eq_true c3
        clear c3
        obtain ⟨y139, hy139⟩ : ∃ y_ : List Int, y_ = (([(wrap64 (48 + (Int.tmod x0_1 10))) % 256] : List Int)) := ⟨_, rfl⟩
        replace H : (if (strOfNums y139).size + x5_1.size ≤ 9223372036854775807 then (larumref04_digits.l0 k1 (wrap64 (Int.tdiv x0_1 10)) a1 ((strOfNums y139) ++ x5_1) (wrap64 (x6_1 + 1))) else (none)) = some r := by first | (rw [hy139]; with_reducible exact H) | (have H2_ := (Option.bind_some _ _).symm.trans H; rw [hy139]; with_reducible exact H2_) | (have H2_ := (Option.bind_some _ _).symm.trans H; with_reducible exact H2_) | with_reducible exact H | (rw [hy139]; exact H) | exact H
        have Ny139 := Aside0.mk hy139
        clear hy139
        by_cases c4 : (strOfNums y139).size + x5_1.size ≤ 9223372036854775807
        · rw [if_pos c4] at H
          have c4b0 := eq_true c4
          have c4b1 : decide ((strOfNums y139).size + x5_1.size ≤ 9223372036854775807) = true := decide_eq_true c4
          try have c4b2 : (9223372036854775807 < (strOfNums y139).size + x5_1.size) = False := eq_false (Nat.not_lt.2 c4)
          (try (have c4b4 := c4b2; simp only [ByteArray.size_append, gp_mksize, List.size_toArray, List.length_cons, List.length_nil, Nat.zero_add, Nat.reduceAdd] at c4b4))
          have H' := Aside0.mk H
          clear H
          go_wp2_with (first | ((with_reducible refine gate_dst (N := 16) rfl ?_); refine Kd.R_lit (Kd.int .u8) _ 5 ?hg (N := 16) ?hd (xs := ([(wrap64 (48 + (Int.tmod x0_1 10))) % 256] : List Int)) (inner := [.int .u8 ((wrap64 (48 + (Int.tmod x0_1 10))) % 256)]) (ok := fun _ => True) (okp := fun _ => True) ?hr ?hp (fun _ hk => hk) trivial (Below.refl _ _) (Nat.le_refl _) (by simp) ?_; (case hd => rfl); (case hg => rfl); (case hr => first | (go_simp; done) | (go_simp; rfl)); (case hp => exact (Reps.one (show Kd.M (Kd.int .u8) _ _ _ ((wrap64 (48 + (Int.tmod x0_1 10))) % 256) [.int .u8 ((wrap64 (48 + (Int.tmod x0_1 10))) % 256)] from rfl) (Reps.none _ _))); intro v140 w5 ho6 hb hg_ hnew_; clear hg_ hnew_; (first | rw [← Ny139.out] at ho6 | (simp only [Int.reduceToNat] at ho6; rw [← Ny139.out] at ho6)); have n0_ := Aside0.mk (Kd.R_lower ho6 (below_size (by repeat (first | (with_reducible first | exact HB.out | apply below_alloc | apply pw_below_drewN | apply below_drew1) | exact HB.out)))); have n1_ := Aside0.mk (below_step (by repeat (first | (with_reducible first | exact HB.out | apply below_alloc | apply pw_below_drewN | apply below_drew1) | exact HB.out)) hb); clear HB; have HO141 := n0_; have HB := n1_; clear n0_ n1_; clear hb ho6; have hcv7 := own_string (P := Try.prog) Try.underlying45 Try.underlying5 Try.underlying9 (Kd.own_of_R HO141.out)))
          go_roundg k1
          case measure => have := HK1.out; omega
          case rel => exact ⟨(wrap64 (Int.tdiv x0_1 10)), ((strOfNums y139) ++ x5_1), (wrap64 (x6_1 + 1)), (by first | rfl | (simp; done) | (simp [*]; done) | (simp only [i64_w, i32_w]; done) | (simp [i64_w, i32_w, *]; done) | (simp [gp_ne]; done) | (simp [gp_ne, i64_w, i32_w, *]; done) | (simp [i64_w, i32_w]; (try unfold wrap64); (try unfold wrap32); omega)), (by first | rfl | (simp; done) | (simp [*]; done) | (simp only [i64_w, i32_w]; done) | (simp [i64_w, i32_w, *]; done) | (simp [gp_ne]; done) | (simp [gp_ne, i64_w, i32_w, *]; done) | (simp [i64_w, i32_w]; (try unfold wrap64); (try unfold wrap32); omega)), (by first | rfl | (simp; done) | (simp [*]; done) | (simp only [i64_w, i32_w]; done) | (simp [i64_w, i32_w, *]; done) | (simp [gp_ne]; done) | (simp [gp_ne, i64_w, i32_w, *]; done) | (simp [i64_w, i32_w]; (try unfold wrap64); (try unfold wrap32); omega)), H', ⟨by have := HK1.out; omega⟩, ⟨by repeat (first | (with_reducible first | exact HB.out | apply below_alloc | apply pw_below_drewN | apply below_drew1) | exact HB.out)⟩⟩
        · rw [if_neg c4] at H
          exact absurd H (by simp)
      · rw [if_neg c3] at H
        have c3b0 : decide (x6_1 < a1) = false := decide_eq_false c3
        clear c3
        obtain rfl := Option.some.inj H
        go_wp2
        go_ret
        exact ⟨by first | rfl | (simp [errW_none, errW_some] <;> rfl) | (simp [*, errW_none, errW_some] <;> rfl) | (simp [gp_ne]; done) | (simp [gp_ne, i64_w, i32_w, *]; done) | (simp [i64_w, i32_w]; (try unfold wrap64); (try unfold wrap32); omega), by repeat (first | (with_reducible first | exact HB.out | apply below_alloc | apply pw_below_drewN | apply below_drew1) | exact HB.out)⟩

/-! ### larumref04_Print: function 15 -/
def larumref04_Print.f (k : Nat) (a0 : Int) : Option (ByteArray) := (larumref04_Date.f k (wrap64 (Int.tdiv a0 86400))).bind fun bt142 => ((larumref04_digits.f k bt142.1 4).bind fun t145 => (if t145.size + 1 ≤ 9223372036854775807 then ((larumref04_digits.f k bt142.2.1 2).bind fun t146 => (if (t145 ++ (⟨#[45]⟩ : ByteArray)).size + t146.size ≤ 9223372036854775807 then (if ((t145 ++ (⟨#[45]⟩ : ByteArray)) ++ t146).size + 1 ≤ 9223372036854775807 then ((larumref04_digits.f k bt142.2.2 2).bind fun t147 => (if (((t145 ++ (⟨#[45]⟩ : ByteArray)) ++ t146) ++ (⟨#[45]⟩ : ByteArray)).size + t147.size ≤ 9223372036854775807 then (if ((((t145 ++ (⟨#[45]⟩ : ByteArray)) ++ t146) ++ (⟨#[45]⟩ : ByteArray)) ++ t147).size + 1 ≤ 9223372036854775807 then ((larumref04_digits.f k (wrap64 (Int.tdiv (Int.tmod a0 86400) 3600)) 2).bind fun t148 => (if (((((t145 ++ (⟨#[45]⟩ : ByteArray)) ++ t146) ++ (⟨#[45]⟩ : ByteArray)) ++ t147) ++ (⟨#[84]⟩ : ByteArray)).size + t148.size ≤ 9223372036854775807 then (if ((((((t145 ++ (⟨#[45]⟩ : ByteArray)) ++ t146) ++ (⟨#[45]⟩ : ByteArray)) ++ t147) ++ (⟨#[84]⟩ : ByteArray)) ++ t148).size + 1 ≤ 9223372036854775807 then ((larumref04_digits.f k (Int.tmod (wrap64 (Int.tdiv (Int.tmod a0 86400) 60)) 60) 2).bind fun t149 => (if (((((((t145 ++ (⟨#[45]⟩ : ByteArray)) ++ t146) ++ (⟨#[45]⟩ : ByteArray)) ++ t147) ++ (⟨#[84]⟩ : ByteArray)) ++ t148) ++ (⟨#[58]⟩ : ByteArray)).size + t149.size ≤ 9223372036854775807 then (if ((((((((t145 ++ (⟨#[45]⟩ : ByteArray)) ++ t146) ++ (⟨#[45]⟩ : ByteArray)) ++ t147) ++ (⟨#[84]⟩ : ByteArray)) ++ t148) ++ (⟨#[58]⟩ : ByteArray)) ++ t149).size + 1 ≤ 9223372036854775807 then ((larumref04_digits.f k (Int.tmod a0 60) 2).bind fun t150 => (if (((((((((t145 ++ (⟨#[45]⟩ : ByteArray)) ++ t146) ++ (⟨#[45]⟩ : ByteArray)) ++ t147) ++ (⟨#[84]⟩ : ByteArray)) ++ t148) ++ (⟨#[58]⟩ : ByteArray)) ++ t149) ++ (⟨#[58]⟩ : ByteArray)).size + t150.size ≤ 9223372036854775807 then (if ((((((((((t145 ++ (⟨#[45]⟩ : ByteArray)) ++ t146) ++ (⟨#[45]⟩ : ByteArray)) ++ t147) ++ (⟨#[84]⟩ : ByteArray)) ++ t148) ++ (⟨#[58]⟩ : ByteArray)) ++ t149) ++ (⟨#[58]⟩ : ByteArray)) ++ t150).size + 1 ≤ 9223372036854775807 then (some (((((((((((t145 ++ (⟨#[45]⟩ : ByteArray)) ++ t146) ++ (⟨#[45]⟩ : ByteArray)) ++ t147) ++ (⟨#[84]⟩ : ByteArray)) ++ t148) ++ (⟨#[58]⟩ : ByteArray)) ++ t149) ++ (⟨#[58]⟩ : ByteArray)) ++ t150) ++ (⟨#[90]⟩ : ByteArray))) else (none)) else (none))) else (none)) else (none))) else (none)) else (none))) else (none)) else (none))) else (none)) else (none))) else (none)))
theorem larumref04_Print.mono : ∀ a0 k, LeO (larumref04_Print.f k a0) (larumref04_Print.f (k + 1) a0) := by
  intro a0 k
  unfold larumref04_Print.f
  repeat' first
      | (with_reducible exact larumref04_Date.mono _ _)
      | (with_reducible exact larumref04_digits.mono _ _ _)
      | (with_reducible exact LeO.refl _)
      | (with_reducible exact LeO.none _)
      | (with_reducible refine LeO.ite ?_ ?_)
      | (with_reducible refine LeO.bind ?_ (fun _ => ?_))
      | exact larumref04_Date.mono _ _
      | exact larumref04_digits.mono _ _ _
      | exact LeO.none _
      | refine LeO.ite ?_ ?_
      | refine LeO.bind ?_ (fun _ => ?_)
set_option maxHeartbeats 8000000 in
set_option maxRecDepth 100000 in
theorem larumref04_Print.calls (k : Nat) (a0 : Int) (r : ByteArray) (w : World) (h : larumref04_Print.f k a0 = some r) :
    Calls Try.prog 15 #[.int .i64 a0] w fun e w' => e = .returned (.string r) ∧ Below w.heap.size w w' := by
  have HB := Aside0.mk (Below.refl w.heap.size w)
  have H : ((larumref04_Date.f k (wrap64 (Int.tdiv a0 86400))).bind fun bt142 => ((larumref04_digits.f k bt142.1 4).bind fun t145 => (if t145.size + 1 ≤ 9223372036854775807 then ((larumref04_digits.f k bt142.2.1 2).bind fun t146 => (if (t145 ++ (⟨#[45]⟩ : ByteArray)).size + t146.size ≤ 9223372036854775807 then (if ((t145 ++ (⟨#[45]⟩ : ByteArray)) ++ t146).size + 1 ≤ 9223372036854775807 then ((larumref04_digits.f k bt142.2.2 2).bind fun t147 => (if (((t145 ++ (⟨#[45]⟩ : ByteArray)) ++ t146) ++ (⟨#[45]⟩ : ByteArray)).size + t147.size ≤ 9223372036854775807 then (if ((((t145 ++ (⟨#[45]⟩ : ByteArray)) ++ t146) ++ (⟨#[45]⟩ : ByteArray)) ++ t147).size + 1 ≤ 9223372036854775807 then ((larumref04_digits.f k (wrap64 (Int.tdiv (Int.tmod a0 86400) 3600)) 2).bind fun t148 => (if (((((t145 ++ (⟨#[45]⟩ : ByteArray)) ++ t146) ++ (⟨#[45]⟩ : ByteArray)) ++ t147) ++ (⟨#[84]⟩ : ByteArray)).size + t148.size ≤ 9223372036854775807 then (if ((((((t145 ++ (⟨#[45]⟩ : ByteArray)) ++ t146) ++ (⟨#[45]⟩ : ByteArray)) ++ t147) ++ (⟨#[84]⟩ : ByteArray)) ++ t148).size + 1 ≤ 9223372036854775807 then ((larumref04_digits.f k (Int.tmod (wrap64 (Int.tdiv (Int.tmod a0 86400) 60)) 60) 2).bind fun t149 => (if (((((((t145 ++ (⟨#[45]⟩ : ByteArray)) ++ t146) ++ (⟨#[45]⟩ : ByteArray)) ++ t147) ++ (⟨#[84]⟩ : ByteArray)) ++ t148) ++ (⟨#[58]⟩ : ByteArray)).size + t149.size ≤ 9223372036854775807 then (if ((((((((t145 ++ (⟨#[45]⟩ : ByteArray)) ++ t146) ++ (⟨#[45]⟩ : ByteArray)) ++ t147) ++ (⟨#[84]⟩ : ByteArray)) ++ t148) ++ (⟨#[58]⟩ : ByteArray)) ++ t149).size + 1 ≤ 9223372036854775807 then ((larumref04_digits.f k (Int.tmod a0 60) 2).bind fun t150 => (if (((((((((t145 ++ (⟨#[45]⟩ : ByteArray)) ++ t146) ++ (⟨#[45]⟩ : ByteArray)) ++ t147) ++ (⟨#[84]⟩ : ByteArray)) ++ t148) ++ (⟨#[58]⟩ : ByteArray)) ++ t149) ++ (⟨#[58]⟩ : ByteArray)).size + t150.size ≤ 9223372036854775807 then (if ((((((((((t145 ++ (⟨#[45]⟩ : ByteArray)) ++ t146) ++ (⟨#[45]⟩ : ByteArray)) ++ t147) ++ (⟨#[84]⟩ : ByteArray)) ++ t148) ++ (⟨#[58]⟩ : ByteArray)) ++ t149) ++ (⟨#[58]⟩ : ByteArray)) ++ t150).size + 1 ≤ 9223372036854775807 then (some (((((((((((t145 ++ (⟨#[45]⟩ : ByteArray)) ++ t146) ++ (⟨#[45]⟩ : ByteArray)) ++ t147) ++ (⟨#[84]⟩ : ByteArray)) ++ t148) ++ (⟨#[58]⟩ : ByteArray)) ++ t149) ++ (⟨#[58]⟩ : ByteArray)) ++ t150) ++ (⟨#[90]⟩ : ByteArray))) else (none)) else (none))) else (none)) else (none))) else (none)) else (none))) else (none)) else (none))) else (none)) else (none))) else (none)))) = some r := h
  clear h
  replace H := Option.bind_eq_some_iff.mp H
  obtain ⟨⟨t142, t143, t144⟩, A20, H⟩ := H
  replace H : ((larumref04_digits.f k t142 4).bind fun t145 => (if t145.size + 1 ≤ 9223372036854775807 then ((larumref04_digits.f k t143 2).bind fun t146 => (if (t145 ++ (⟨#[45]⟩ : ByteArray)).size + t146.size ≤ 9223372036854775807 then (if ((t145 ++ (⟨#[45]⟩ : ByteArray)) ++ t146).size + 1 ≤ 9223372036854775807 then ((larumref04_digits.f k t144 2).bind fun t147 => (if (((t145 ++ (⟨#[45]⟩ : ByteArray)) ++ t146) ++ (⟨#[45]⟩ : ByteArray)).size + t147.size ≤ 9223372036854775807 then (if ((((t145 ++ (⟨#[45]⟩ : ByteArray)) ++ t146) ++ (⟨#[45]⟩ : ByteArray)) ++ t147).size + 1 ≤ 9223372036854775807 then ((larumref04_digits.f k (wrap64 (Int.tdiv (Int.tmod a0 86400) 3600)) 2).bind fun t148 => (if (((((t145 ++ (⟨#[45]⟩ : ByteArray)) ++ t146) ++ (⟨#[45]⟩ : ByteArray)) ++ t147) ++ (⟨#[84]⟩ : ByteArray)).size + t148.size ≤ 9223372036854775807 then (if ((((((t145 ++ (⟨#[45]⟩ : ByteArray)) ++ t146) ++ (⟨#[45]⟩ : ByteArray)) ++ t147) ++ (⟨#[84]⟩ : ByteArray)) ++ t148).size + 1 ≤ 9223372036854775807 then ((larumref04_digits.f k (Int.tmod (wrap64 (Int.tdiv (Int.tmod a0 86400) 60)) 60) 2).bind fun t149 => (if (((((((t145 ++ (⟨#[45]⟩ : ByteArray)) ++ t146) ++ (⟨#[45]⟩ : ByteArray)) ++ t147) ++ (⟨#[84]⟩ : ByteArray)) ++ t148) ++ (⟨#[58]⟩ : ByteArray)).size + t149.size ≤ 9223372036854775807 then (if ((((((((t145 ++ (⟨#[45]⟩ : ByteArray)) ++ t146) ++ (⟨#[45]⟩ : ByteArray)) ++ t147) ++ (⟨#[84]⟩ : ByteArray)) ++ t148) ++ (⟨#[58]⟩ : ByteArray)) ++ t149).size + 1 ≤ 9223372036854775807 then ((larumref04_digits.f k (Int.tmod a0 60) 2).bind fun t150 => (if (((((((((t145 ++ (⟨#[45]⟩ : ByteArray)) ++ t146) ++ (⟨#[45]⟩ : ByteArray)) ++ t147) ++ (⟨#[84]⟩ : ByteArray)) ++ t148) ++ (⟨#[58]⟩ : ByteArray)) ++ t149) ++ (⟨#[58]⟩ : ByteArray)).size + t150.size ≤ 9223372036854775807 then (if ((((((((((t145 ++ (⟨#[45]⟩ : ByteArray)) ++ t146) ++ (⟨#[45]⟩ : ByteArray)) ++ t147) ++ (⟨#[84]⟩ : ByteArray)) ++ t148) ++ (⟨#[58]⟩ : ByteArray)) ++ t149) ++ (⟨#[58]⟩ : ByteArray)) ++ t150).size + 1 ≤ 9223372036854775807 then (some (((((((((((t145 ++ (⟨#[45]⟩ : ByteArray)) ++ t146) ++ (⟨#[45]⟩ : ByteArray)) ++ t147) ++ (⟨#[84]⟩ : ByteArray)) ++ t148) ++ (⟨#[58]⟩ : ByteArray)) ++ t149) ++ (⟨#[58]⟩ : ByteArray)) ++ t150) ++ (⟨#[90]⟩ : ByteArray))) else (none)) else (none))) else (none)) else (none))) else (none)) else (none))) else (none)) else (none))) else (none)) else (none))) else (none))) = some r := H
  have A2 := Aside0.mk A20
  clear A20
  replace H := Option.bind_eq_some_iff.mp H
  obtain ⟨t145, A30, H⟩ := H
  replace H : (if t145.size + 1 ≤ 9223372036854775807 then ((larumref04_digits.f k t143 2).bind fun t146 => (if (t145 ++ (⟨#[45]⟩ : ByteArray)).size + t146.size ≤ 9223372036854775807 then (if ((t145 ++ (⟨#[45]⟩ : ByteArray)) ++ t146).size + 1 ≤ 9223372036854775807 then ((larumref04_digits.f k t144 2).bind fun t147 => (if (((t145 ++ (⟨#[45]⟩ : ByteArray)) ++ t146) ++ (⟨#[45]⟩ : ByteArray)).size + t147.size ≤ 9223372036854775807 then (if ((((t145 ++ (⟨#[45]⟩ : ByteArray)) ++ t146) ++ (⟨#[45]⟩ : ByteArray)) ++ t147).size + 1 ≤ 9223372036854775807 then ((larumref04_digits.f k (wrap64 (Int.tdiv (Int.tmod a0 86400) 3600)) 2).bind fun t148 => (if (((((t145 ++ (⟨#[45]⟩ : ByteArray)) ++ t146) ++ (⟨#[45]⟩ : ByteArray)) ++ t147) ++ (⟨#[84]⟩ : ByteArray)).size + t148.size ≤ 9223372036854775807 then (if ((((((t145 ++ (⟨#[45]⟩ : ByteArray)) ++ t146) ++ (⟨#[45]⟩ : ByteArray)) ++ t147) ++ (⟨#[84]⟩ : ByteArray)) ++ t148).size + 1 ≤ 9223372036854775807 then ((larumref04_digits.f k (Int.tmod (wrap64 (Int.tdiv (Int.tmod a0 86400) 60)) 60) 2).bind fun t149 => (if (((((((t145 ++ (⟨#[45]⟩ : ByteArray)) ++ t146) ++ (⟨#[45]⟩ : ByteArray)) ++ t147) ++ (⟨#[84]⟩ : ByteArray)) ++ t148) ++ (⟨#[58]⟩ : ByteArray)).size + t149.size ≤ 9223372036854775807 then (if ((((((((t145 ++ (⟨#[45]⟩ : ByteArray)) ++ t146) ++ (⟨#[45]⟩ : ByteArray)) ++ t147) ++ (⟨#[84]⟩ : ByteArray)) ++ t148) ++ (⟨#[58]⟩ : ByteArray)) ++ t149).size + 1 ≤ 9223372036854775807 then ((larumref04_digits.f k (Int.tmod a0 60) 2).bind fun t150 => (if (((((((((t145 ++ (⟨#[45]⟩ : ByteArray)) ++ t146) ++ (⟨#[45]⟩ : ByteArray)) ++ t147) ++ (⟨#[84]⟩ : ByteArray)) ++ t148) ++ (⟨#[58]⟩ : ByteArray)) ++ t149) ++ (⟨#[58]⟩ : ByteArray)).size + t150.size ≤ 9223372036854775807 then (if ((((((((((t145 ++ (⟨#[45]⟩ : ByteArray)) ++ t146) ++ (⟨#[45]⟩ : ByteArray)) ++ t147) ++ (⟨#[84]⟩ : ByteArray)) ++ t148) ++ (⟨#[58]⟩ : ByteArray)) ++ t149) ++ (⟨#[58]⟩ : ByteArray)) ++ t150).size + 1 ≤ 9223372036854775807 then (some (((((((((((t145 ++ (⟨#[45]⟩ : ByteArray)) ++ t146) ++ (⟨#[45]⟩ : ByteArray)) ++ t147) ++ (⟨#[84]⟩ : ByteArray)) ++ t148) ++ (⟨#[58]⟩ : ByteArray)) ++ t149) ++ (⟨#[58]⟩ : ByteArray)) ++ t150) ++ (⟨#[90]⟩ : ByteArray))) else (none)) else (none))) else (none)) else (none))) else (none)) else (none))) else (none)) else (none))) else (none)) else (none))) else (none)) = some r := H
  have A3 := Aside0.mk A30
  clear A30
  by_cases c4 : t145.size + 1 ≤ 9223372036854775807
  · rw [if_pos c4] at H
    have c4b0 := eq_true c4
    have c4b1 : decide (t145.size + 1 ≤ 9223372036854775807) = true := decide_eq_true c4
    try have c4b2 : (9223372036854775807 < t145.size + 1) = False := eq_false (Nat.not_lt.2 c4)
    (try (have c4b4 := c4b2; simp only [ByteArray.size_append, gp_mksize, List.size_toArray, List.length_cons, List.length_nil, Nat.zero_add, Nat.reduceAdd] at c4b4))
    replace H := Option.bind_eq_some_iff.mp H
    obtain ⟨t146, A50, H⟩ := H
    replace H : (if (t145 ++ (⟨#[45]⟩ : ByteArray)).size + t146.size ≤ 9223372036854775807 then (if ((t145 ++ (⟨#[45]⟩ : ByteArray)) ++ t146).size + 1 ≤ 9223372036854775807 then ((larumref04_digits.f k t144 2).bind fun t147 => (if (((t145 ++ (⟨#[45]⟩ : ByteArray)) ++ t146) ++ (⟨#[45]⟩ : ByteArray)).size + t147.size ≤ 9223372036854775807 then (if ((((t145 ++ (⟨#[45]⟩ : ByteArray)) ++ t146) ++ (⟨#[45]⟩ : ByteArray)) ++ t147).size + 1 ≤ 9223372036854775807 then ((larumref04_digits.f k (wrap64 (Int.tdiv (Int.tmod a0 86400) 3600)) 2).bind fun t148 => (if (((((t145 ++ (⟨#[45]⟩ : ByteArray)) ++ t146) ++ (⟨#[45]⟩ : ByteArray)) ++ t147) ++ (⟨#[84]⟩ : ByteArray)).size + t148.size ≤ 9223372036854775807 then (if ((((((t145 ++ (⟨#[45]⟩ : ByteArray)) ++ t146) ++ (⟨#[45]⟩ : ByteArray)) ++ t147) ++ (⟨#[84]⟩ : ByteArray)) ++ t148).size + 1 ≤ 9223372036854775807 then ((larumref04_digits.f k (Int.tmod (wrap64 (Int.tdiv (Int.tmod a0 86400) 60)) 60) 2).bind fun t149 => (if (((((((t145 ++ (⟨#[45]⟩ : ByteArray)) ++ t146) ++ (⟨#[45]⟩ : ByteArray)) ++ t147) ++ (⟨#[84]⟩ : ByteArray)) ++ t148) ++ (⟨#[58]⟩ : ByteArray)).size + t149.size ≤ 9223372036854775807 then (if ((((((((t145 ++ (⟨#[45]⟩ : ByteArray)) ++ t146) ++ (⟨#[45]⟩ : ByteArray)) ++ t147) ++ (⟨#[84]⟩ : ByteArray)) ++ t148) ++ (⟨#[58]⟩ : ByteArray)) ++ t149).size + 1 ≤ 9223372036854775807 then ((larumref04_digits.f k (Int.tmod a0 60) 2).bind fun t150 => (if (((((((((t145 ++ (⟨#[45]⟩ : ByteArray)) ++ t146) ++ (⟨#[45]⟩ : ByteArray)) ++ t147) ++ (⟨#[84]⟩ : ByteArray)) ++ t148) ++ (⟨#[58]⟩ : ByteArray)) ++ t149) ++ (⟨#[58]⟩ : ByteArray)).size + t150.size ≤ 9223372036854775807 then (if ((((((((((t145 ++ (⟨#[45]⟩ : ByteArray)) ++ t146) ++ (⟨#[45]⟩ : ByteArray)) ++ t147) ++ (⟨#[84]⟩ : ByteArray)) ++ t148) ++ (⟨#[58]⟩ : ByteArray)) ++ t149) ++ (⟨#[58]⟩ : ByteArray)) ++ t150).size + 1 ≤ 9223372036854775807 then (some (((((((((((t145 ++ (⟨#[45]⟩ : ByteArray)) ++ t146) ++ (⟨#[45]⟩ : ByteArray)) ++ t147) ++ (⟨#[84]⟩ : ByteArray)) ++ t148) ++ (⟨#[58]⟩ : ByteArray)) ++ t149) ++ (⟨#[58]⟩ : ByteArray)) ++ t150) ++ (⟨#[90]⟩ : ByteArray))) else (none)) else (none))) else (none)) else (none))) else (none)) else (none))) else (none)) else (none))) else (none)) else (none)) = some r := H
    have A5 := Aside0.mk A50
    clear A50
    by_cases c6 : (t145 ++ (⟨#[45]⟩ : ByteArray)).size + t146.size ≤ 9223372036854775807
    · rw [if_pos c6] at H
      have c6b0 := eq_true c6
      have c6b1 : decide ((t145 ++ (⟨#[45]⟩ : ByteArray)).size + t146.size ≤ 9223372036854775807) = true := decide_eq_true c6
      try have c6b2 : (9223372036854775807 < (t145 ++ (⟨#[45]⟩ : ByteArray)).size + t146.size) = False := eq_false (Nat.not_lt.2 c6)
      (try (have c6b4 := c6b2; simp only [ByteArray.size_append, gp_mksize, List.size_toArray, List.length_cons, List.length_nil, Nat.zero_add, Nat.reduceAdd] at c6b4))
      by_cases c7 : ((t145 ++ (⟨#[45]⟩ : ByteArray)) ++ t146).size + 1 ≤ 9223372036854775807
      · rw [if_pos c7] at H
        have c7b0 := eq_true c7
        have c7b1 : decide (((t145 ++ (⟨#[45]⟩ : ByteArray)) ++ t146).size + 1 ≤ 9223372036854775807) = true := decide_eq_true c7
        try have c7b2 : (9223372036854775807 < ((t145 ++ (⟨#[45]⟩ : ByteArray)) ++ t146).size + 1) = False := eq_false (Nat.not_lt.2 c7)
        (try (have c7b4 := c7b2; simp only [ByteArray.size_append, gp_mksize, List.size_toArray, List.length_cons, List.length_nil, Nat.zero_add, Nat.reduceAdd] at c7b4))
        replace H := Option.bind_eq_some_iff.mp H
        obtain ⟨t147, A80, H⟩ := H
        replace H : (if (((t145 ++ (⟨#[45]⟩ : ByteArray)) ++ t146) ++ (⟨#[45]⟩ : ByteArray)).size + t147.size ≤ 9223372036854775807 then (if ((((t145 ++ (⟨#[45]⟩ : ByteArray)) ++ t146) ++ (⟨#[45]⟩ : ByteArray)) ++ t147).size + 1 ≤ 9223372036854775807 then ((larumref04_digits.f k (wrap64 (Int.tdiv (Int.tmod a0 86400) 3600)) 2).bind fun t148 => (if (((((t145 ++ (⟨#[45]⟩ : ByteArray)) ++ t146) ++ (⟨#[45]⟩ : ByteArray)) ++ t147) ++ (⟨#[84]⟩ : ByteArray)).size + t148.size ≤ 9223372036854775807 then (if ((((((t145 ++ (⟨#[45]⟩ : ByteArray)) ++ t146) ++ (⟨#[45]⟩ : ByteArray)) ++ t147) ++ (⟨#[84]⟩ : ByteArray)) ++ t148).size + 1 ≤ 9223372036854775807 then ((larumref04_digits.f k (Int.tmod (wrap64 (Int.tdiv (Int.tmod a0 86400) 60)) 60) 2).bind fun t149 => (if (((((((t145 ++ (⟨#[45]⟩ : ByteArray)) ++ t146) ++ (⟨#[45]⟩ : ByteArray)) ++ t147) ++ (⟨#[84]⟩ : ByteArray)) ++ t148) ++ (⟨#[58]⟩ : ByteArray)).size + t149.size ≤ 9223372036854775807 then (if ((((((((t145 ++ (⟨#[45]⟩ : ByteArray)) ++ t146) ++ (⟨#[45]⟩ : ByteArray)) ++ t147) ++ (⟨#[84]⟩ : ByteArray)) ++ t148) ++ (⟨#[58]⟩ : ByteArray)) ++ t149).size + 1 ≤ 9223372036854775807 then ((larumref04_digits.f k (Int.tmod a0 60) 2).bind fun t150 => (if (((((((((t145 ++ (⟨#[45]⟩ : ByteArray)) ++ t146) ++ (⟨#[45]⟩ : ByteArray)) ++ t147) ++ (⟨#[84]⟩ : ByteArray)) ++ t148) ++ (⟨#[58]⟩ : ByteArray)) ++ t149) ++ (⟨#[58]⟩ : ByteArray)).size + t150.size ≤ 9223372036854775807 then (if ((((((((((t145 ++ (⟨#[45]⟩ : ByteArray)) ++ t146) ++ (⟨#[45]⟩ : ByteArray)) ++ t147) ++ (⟨#[84]⟩ : ByteArray)) ++ t148) ++ (⟨#[58]⟩ : ByteArray)) ++ t149) ++ (⟨#[58]⟩ : ByteArray)) ++ t150).size + 1 ≤ 9223372036854775807 then (some (((((((((((t145 ++ (⟨#[45]⟩ : ByteArray)) ++ t146) ++ (⟨#[45]⟩ : ByteArray)) ++ t147) ++ (⟨#[84]⟩ : ByteArray)) ++ t148) ++ (⟨#[58]⟩ : ByteArray)) ++ t149) ++ (⟨#[58]⟩ : ByteArray)) ++ t150) ++ (⟨#[90]⟩ : ByteArray))) else (none)) else (none))) else (none)) else (none))) else (none)) else (none))) else (none)) else (none)) = some r := H
        have A8 := Aside0.mk A80
        clear A80
        by_cases c9 : (((t145 ++ (⟨#[45]⟩ : ByteArray)) ++ t146) ++ (⟨#[45]⟩ : ByteArray)).size + t147.size ≤ 9223372036854775807
        · rw [if_pos c9] at H
          have c9b0 := eq_true c9
          have c9b1 : decide ((((t145 ++ (⟨#[45]⟩ : ByteArray)) ++ t146) ++ (⟨#[45]⟩ : ByteArray)).size + t147.size ≤ 9223372036854775807) = true := decide_eq_true c9
          try have c9b2 : (9223372036854775807 < (((t145 ++ (⟨#[45]⟩ : ByteArray)) ++ t146) ++ (⟨#[45]⟩ : ByteArray)).size + t147.size) = False := eq_false (Nat.not_lt.2 c9)
          (try (have c9b4 := c9b2; simp only [ByteArray.size_append, gp_mksize, List.size_toArray, List.length_cons, List.length_nil, Nat.zero_add, Nat.reduceAdd] at c9b4))
          by_cases c10 : ((((t145 ++ (⟨#[45]⟩ : ByteArray)) ++ t146) ++ (⟨#[45]⟩ : ByteArray)) ++ t147).size + 1 ≤ 9223372036854775807
          · rw [if_pos c10] at H
            have c10b0 := eq_true c10
            have c10b1 : decide (((((t145 ++ (⟨#[45]⟩ : ByteArray)) ++ t146) ++ (⟨#[45]⟩ : ByteArray)) ++ t147).size + 1 ≤ 9223372036854775807) = true := decide_eq_true c10
            try have c10b2 : (9223372036854775807 < ((((t145 ++ (⟨#[45]⟩ : ByteArray)) ++ t146) ++ (⟨#[45]⟩ : ByteArray)) ++ t147).size + 1) = False := eq_false (Nat.not_lt.2 c10)
            (try (have c10b4 := c10b2; simp only [ByteArray.size_append, gp_mksize, List.size_toArray, List.length_cons, List.length_nil, Nat.zero_add, Nat.reduceAdd] at c10b4))
            replace H := Option.bind_eq_some_iff.mp H
            obtain ⟨t148, A110, H⟩ := H
            replace H : (if (((((t145 ++ (⟨#[45]⟩ : ByteArray)) ++ t146) ++ (⟨#[45]⟩ : ByteArray)) ++ t147) ++ (⟨#[84]⟩ : ByteArray)).size + t148.size ≤ 9223372036854775807 then (if ((((((t145 ++ (⟨#[45]⟩ : ByteArray)) ++ t146) ++ (⟨#[45]⟩ : ByteArray)) ++ t147) ++ (⟨#[84]⟩ : ByteArray)) ++ t148).size + 1 ≤ 9223372036854775807 then ((larumref04_digits.f k (Int.tmod (wrap64 (Int.tdiv (Int.tmod a0 86400) 60)) 60) 2).bind fun t149 => (if (((((((t145 ++ (⟨#[45]⟩ : ByteArray)) ++ t146) ++ (⟨#[45]⟩ : ByteArray)) ++ t147) ++ (⟨#[84]⟩ : ByteArray)) ++ t148) ++ (⟨#[58]⟩ : ByteArray)).size + t149.size ≤ 9223372036854775807 then (if ((((((((t145 ++ (⟨#[45]⟩ : ByteArray)) ++ t146) ++ (⟨#[45]⟩ : ByteArray)) ++ t147) ++ (⟨#[84]⟩ : ByteArray)) ++ t148) ++ (⟨#[58]⟩ : ByteArray)) ++ t149).size + 1 ≤ 9223372036854775807 then ((larumref04_digits.f k (Int.tmod a0 60) 2).bind fun t150 => (if (((((((((t145 ++ (⟨#[45]⟩ : ByteArray)) ++ t146) ++ (⟨#[45]⟩ : ByteArray)) ++ t147) ++ (⟨#[84]⟩ : ByteArray)) ++ t148) ++ (⟨#[58]⟩ : ByteArray)) ++ t149) ++ (⟨#[58]⟩ : ByteArray)).size + t150.size ≤ 9223372036854775807 then (if ((((((((((t145 ++ (⟨#[45]⟩ : ByteArray)) ++ t146) ++ (⟨#[45]⟩ : ByteArray)) ++ t147) ++ (⟨#[84]⟩ : ByteArray)) ++ t148) ++ (⟨#[58]⟩ : ByteArray)) ++ t149) ++ (⟨#[58]⟩ : ByteArray)) ++ t150).size + 1 ≤ 9223372036854775807 then (some (((((((((((t145 ++ (⟨#[45]⟩ : ByteArray)) ++ t146) ++ (⟨#[45]⟩ : ByteArray)) ++ t147) ++ (⟨#[84]⟩ : ByteArray)) ++ t148) ++ (⟨#[58]⟩ : ByteArray)) ++ t149) ++ (⟨#[58]⟩ : ByteArray)) ++ t150) ++ (⟨#[90]⟩ : ByteArray))) else (none)) else (none))) else (none)) else (none))) else (none)) else (none)) = some r := H
            have A11 := Aside0.mk A110
            clear A110
            by_cases c12 : (((((t145 ++ (⟨#[45]⟩ : ByteArray)) ++ t146) ++ (⟨#[45]⟩ : ByteArray)) ++ t147) ++ (⟨#[84]⟩ : ByteArray)).size + t148.size ≤ 9223372036854775807
            · rw [if_pos c12] at H
              have c12b0 := eq_true c12
              have c12b1 : decide ((((((t145 ++ (⟨#[45]⟩ : ByteArray)) ++ t146) ++ (⟨#[45]⟩ : ByteArray)) ++ t147) ++ (⟨#[84]⟩ : ByteArray)).size + t148.size ≤ 9223372036854775807) = true := decide_eq_true c12
              try have c12b2 : (9223372036854775807 < (((((t145 ++ (⟨#[45]⟩ : ByteArray)) ++ t146) ++ (⟨#[45]⟩ : ByteArray)) ++ t147) ++ (⟨#[84]⟩ : ByteArray)).size + t148.size) = False := eq_false (Nat.not_lt.2 c12)
              (try (have c12b4 := c12b2; simp only [ByteArray.size_append, gp_mksize, List.size_toArray, List.length_cons, List.length_nil, Nat.zero_add, Nat.reduceAdd] at c12b4))
              by_cases c13 : ((((((t145 ++ (⟨#[45]⟩ : ByteArray)) ++ t146) ++ (⟨#[45]⟩ : ByteArray)) ++ t147) ++ (⟨#[84]⟩ : ByteArray)) ++ t148).size + 1 ≤ 9223372036854775807
              · rw [if_pos c13] at H
                have c13b0 := eq_true c13
                have c13b1 : decide (((((((t145 ++ (⟨#[45]⟩ : ByteArray)) ++ t146) ++ (⟨#[45]⟩ : ByteArray)) ++ t147) ++ (⟨#[84]⟩ : ByteArray)) ++ t148).size + 1 ≤ 9223372036854775807) = true := decide_eq_true c13
                try have c13b2 : (9223372036854775807 < ((((((t145 ++ (⟨#[45]⟩ : ByteArray)) ++ t146) ++ (⟨#[45]⟩ : ByteArray)) ++ t147) ++ (⟨#[84]⟩ : ByteArray)) ++ t148).size + 1) = False := eq_false (Nat.not_lt.2 c13)
                (try (have c13b4 := c13b2; simp only [ByteArray.size_append, gp_mksize, List.size_toArray, List.length_cons, List.length_nil, Nat.zero_add, Nat.reduceAdd] at c13b4))
                replace H := Option.bind_eq_some_iff.mp H
                obtain ⟨t149, A140, H⟩ := H
                replace H : (if (((((((t145 ++ (⟨#[45]⟩ : ByteArray)) ++ t146) ++ (⟨#[45]⟩ : ByteArray)) ++ t147) ++ (⟨#[84]⟩ : ByteArray)) ++ t148) ++ (⟨#[58]⟩ : ByteArray)).size + t149.size ≤ 9223372036854775807 then (if ((((((((t145 ++ (⟨#[45]⟩ : ByteArray)) ++ t146) ++ (⟨#[45]⟩ : ByteArray)) ++ t147) ++ (⟨#[84]⟩ : ByteArray)) ++ t148) ++ (⟨#[58]⟩ : ByteArray)) ++ t149).size + 1 ≤ 9223372036854775807 then ((larumref04_digits.f k (Int.tmod a0 60) 2).bind fun t150 => (if (((((((((t145 ++ (⟨#[45]⟩ : ByteArray)) ++ t146) ++ (⟨#[45]⟩ : ByteArray)) ++ t147) ++ (⟨#[84]⟩ : ByteArray)) ++ t148) ++ (⟨#[58]⟩ : ByteArray)) ++ t149) ++ (⟨#[58]⟩ : ByteArray)).size + t150.size ≤ 9223372036854775807 then (if ((((((((((t145 ++ (⟨#[45]⟩ : ByteArray)) ++ t146) ++ (⟨#[45]⟩ : ByteArray)) ++ t147) ++ (⟨#[84]⟩ : ByteArray)) ++ t148) ++ (⟨#[58]⟩ : ByteArray)) ++ t149) ++ (⟨#[58]⟩ : ByteArray)) ++ t150).size + 1 ≤ 9223372036854775807 then (some (((((((((((t145 ++ (⟨#[45]⟩ : ByteArray)) ++ t146) ++ (⟨#[45]⟩ : ByteArray)) ++ t147) ++ (⟨#[84]⟩ : ByteArray)) ++ t148) ++ (⟨#[58]⟩ : ByteArray)) ++ t149) ++ (⟨#[58]⟩ : ByteArray)) ++ t150) ++ (⟨#[90]⟩ : ByteArray))) else (none)) else (none))) else (none)) else (none)) = some r := H
                have A14 := Aside0.mk A140
                clear A140
                by_cases c15 : (((((((t145 ++ (⟨#[45]⟩ : ByteArray)) ++ t146) ++ (⟨#[45]⟩ : ByteArray)) ++ t147) ++ (⟨#[84]⟩ : ByteArray)) ++ t148) ++ (⟨#[58]⟩ : ByteArray)).size + t149.size ≤ 9223372036854775807
                · rw [if_pos c15] at H
                  have c15b0 := eq_true c15
                  have c15b1 : decide ((((((((t145 ++ (⟨#[45]⟩ : ByteArray)) ++ t146) ++ (⟨#[45]⟩ : ByteArray)) ++ t147) ++ (⟨#[84]⟩ : ByteArray)) ++ t148) ++ (⟨#[58]⟩ : ByteArray)).size + t149.size ≤ 9223372036854775807) = true := decide_eq_true c15
                  try have c15b2 : (9223372036854775807 < (((((((t145 ++ (⟨#[45]⟩ : ByteArray)) ++ t146) ++ (⟨#[45]⟩ : ByteArray)) ++ t147) ++ (⟨#[84]⟩ : ByteArray)) ++ t148) ++ (⟨#[58]⟩ : ByteArray)).size + t149.size) = False := eq_false (Nat.not_lt.2 c15)
                  (try (have c15b4 := c15b2; simp only [ByteArray.size_append, gp_mksize, List.size_toArray, List.length_cons, List.length_nil, Nat.zero_add, Nat.reduceAdd] at c15b4))
                  by_cases c16 : ((((((((t145 ++ (⟨#[45]⟩ : ByteArray)) ++ t146) ++ (⟨#[45]⟩ : ByteArray)) ++ t147) ++ (⟨#[84]⟩ : ByteArray)) ++ t148) ++ (⟨#[58]⟩ : ByteArray)) ++ t149).size + 1 ≤ 9223372036854775807
                  · rw [if_pos c16] at H
                    have c16b0 := eq_true c16
                    have c16b1 : decide (((((((((t145 ++ (⟨#[45]⟩ : ByteArray)) ++ t146) ++ (⟨#[45]⟩ : ByteArray)) ++ t147) ++ (⟨#[84]⟩ : ByteArray)) ++ t148) ++ (⟨#[58]⟩ : ByteArray)) ++ t149).size + 1 ≤ 9223372036854775807) = true := decide_eq_true c16
                    try have c16b2 : (9223372036854775807 < ((((((((t145 ++ (⟨#[45]⟩ : ByteArray)) ++ t146) ++ (⟨#[45]⟩ : ByteArray)) ++ t147) ++ (⟨#[84]⟩ : ByteArray)) ++ t148) ++ (⟨#[58]⟩ : ByteArray)) ++ t149).size + 1) = False := eq_false (Nat.not_lt.2 c16)
                    (try (have c16b4 := c16b2; simp only [ByteArray.size_append, gp_mksize, List.size_toArray, List.length_cons, List.length_nil, Nat.zero_add, Nat.reduceAdd] at c16b4))
                    replace H := Option.bind_eq_some_iff.mp H
                    obtain ⟨t150, A170, H⟩ := H
                    replace H : (if (((((((((t145 ++ (⟨#[45]⟩ : ByteArray)) ++ t146) ++ (⟨#[45]⟩ : ByteArray)) ++ t147) ++ (⟨#[84]⟩ : ByteArray)) ++ t148) ++ (⟨#[58]⟩ : ByteArray)) ++ t149) ++ (⟨#[58]⟩ : ByteArray)).size + t150.size ≤ 9223372036854775807 then (if ((((((((((t145 ++ (⟨#[45]⟩ : ByteArray)) ++ t146) ++ (⟨#[45]⟩ : ByteArray)) ++ t147) ++ (⟨#[84]⟩ : ByteArray)) ++ t148) ++ (⟨#[58]⟩ : ByteArray)) ++ t149) ++ (⟨#[58]⟩ : ByteArray)) ++ t150).size + 1 ≤ 9223372036854775807 then (some (((((((((((t145 ++ (⟨#[45]⟩ : ByteArray)) ++ t146) ++ (⟨#[45]⟩ : ByteArray)) ++ t147) ++ (⟨#[84]⟩ : ByteArray)) ++ t148) ++ (⟨#[58]⟩ : ByteArray)) ++ t149) ++ (⟨#[58]⟩ : ByteArray)) ++ t150) ++ (⟨#[90]⟩ : ByteArray))) else (none)) else (none)) = some r := H
                    have A17 := Aside0.mk A170
                    clear A170
                    by_cases c18 : (((((((((t145 ++ (⟨#[45]⟩ : ByteArray)) ++ t146) ++ (⟨#[45]⟩ : ByteArray)) ++ t147) ++ (⟨#[84]⟩ : ByteArray)) ++ t148) ++ (⟨#[58]⟩ : ByteArray)) ++ t149) ++ (⟨#[58]⟩ : ByteArray)).size + t150.size ≤ 9223372036854775807
                    · rw [if_pos c18] at H
                      have c18b0 := eq_true c18
                      have c18b1 : decide ((((((((((t145 ++ (⟨#[45]⟩ : ByteArray)) ++ t146) ++ (⟨#[45]⟩ : ByteArray)) ++ t147) ++ (⟨#[84]⟩ : ByteArray)) ++ t148) ++ (⟨#[58]⟩ : ByteArray)) ++ t149) ++ (⟨#[58]⟩ : ByteArray)).size + t150.size ≤ 9223372036854775807) = true := decide_eq_true c18
                      try have c18b2 : (9223372036854775807 < (((((((((t145 ++ (⟨#[45]⟩ : ByteArray)) ++ t146) ++ (⟨#[45]⟩ : ByteArray)) ++ t147) ++ (⟨#[84]⟩ : ByteArray)) ++ t148) ++ (⟨#[58]⟩ : ByteArray)) ++ t149) ++ (⟨#[58]⟩ : ByteArray)).size + t150.size) = False := eq_false (Nat.not_lt.2 c18)
                      (try (have c18b4 := c18b2; simp only [ByteArray.size_append, gp_mksize, List.size_toArray, List.length_cons, List.length_nil, Nat.zero_add, Nat.reduceAdd] at c18b4))
                      by_cases c19 : ((((((((((t145 ++ (⟨#[45]⟩ : ByteArray)) ++ t146) ++ (⟨#[45]⟩ : ByteArray)) ++ t147) ++ (⟨#[84]⟩ : ByteArray)) ++ t148) ++ (⟨#[58]⟩ : ByteArray)) ++ t149) ++ (⟨#[58]⟩ : ByteArray)) ++ t150).size + 1 ≤ 9223372036854775807
                      · rw [if_pos c19] at H
                        have c19b0 := eq_true c19
                        have c19b1 : decide (((((((((((t145 ++ (⟨#[45]⟩ : ByteArray)) ++ t146) ++ (⟨#[45]⟩ : ByteArray)) ++ t147) ++ (⟨#[84]⟩ : ByteArray)) ++ t148) ++ (⟨#[58]⟩ : ByteArray)) ++ t149) ++ (⟨#[58]⟩ : ByteArray)) ++ t150).size + 1 ≤ 9223372036854775807) = true := decide_eq_true c19
                        try have c19b2 : (9223372036854775807 < ((((((((((t145 ++ (⟨#[45]⟩ : ByteArray)) ++ t146) ++ (⟨#[45]⟩ : ByteArray)) ++ t147) ++ (⟨#[84]⟩ : ByteArray)) ++ t148) ++ (⟨#[58]⟩ : ByteArray)) ++ t149) ++ (⟨#[58]⟩ : ByteArray)) ++ t150).size + 1) = False := eq_false (Nat.not_lt.2 c19)
                        (try (have c19b4 := c19b2; simp only [ByteArray.size_append, gp_mksize, List.size_toArray, List.length_cons, List.length_nil, Nat.zero_add, Nat.reduceAdd] at c19b4))
                        obtain rfl := Option.some.inj H
                        go_enter Try.func15, Try.ntmps15
                        go_wp2_with (first | ((with_reducible refine gate_callee (f := 12) rfl ?_); refine goesL_ (some 10) rfl rfl Try.func12 (by kernel_rfl) rfl #[.int .i64 (wrap64 (Int.tdiv a0 86400))] rfl (by (try simp only [List.map_toArray, List.map_cons, List.map_nil]); first | done | rfl | (simp only [List.length_drop, List.length_take]; rfl)) ?_; (with_reducible refine (larumref04_Date.calls k (wrap64 (Int.tdiv a0 86400)) t142 t143 t144 _ A2.out).mono ?_); rintro e w20 ⟨rfl, hb⟩; refine ⟨_, rfl, ?_⟩; have n0_ := Aside0.mk (below_step (by repeat (first | (with_reducible first | exact HB.out | apply below_alloc | apply pw_below_drewN | apply below_drew1) | exact HB.out)) hb); clear HB; have HB := n0_; clear n0_; (try clear hb); (try clear hb2); (try clear hk); (try clear hi)) | ((with_reducible refine gate_callee (f := 24) rfl ?_); refine goesL_ (some 17) rfl rfl Try.func24 (by kernel_rfl) rfl #[.int .i64 t142, .int .i64 4] rfl (by (try simp only [List.map_toArray, List.map_cons, List.map_nil]); first | done | rfl | (simp only [List.length_drop, List.length_take]; rfl)) ?_; (with_reducible refine (larumref04_digits.calls k t142 4 t145 _ A3.out).mono ?_); rintro e w21 ⟨rfl, hb⟩; refine ⟨_, rfl, ?_⟩; have n0_ := Aside0.mk (below_step (by repeat (first | (with_reducible first | exact HB.out | apply below_alloc | apply pw_below_drewN | apply below_drew1) | exact HB.out)) hb); clear HB; have HB := n0_; clear n0_; (try clear hb); (try clear hb2); (try clear hk); (try clear hi)) | ((with_reducible refine gate_callee (f := 24) rfl ?_); refine goesL_ (some 20) rfl rfl Try.func24 (by kernel_rfl) rfl #[.int .i64 t143, .int .i64 2] rfl (by (try simp only [List.map_toArray, List.map_cons, List.map_nil]); first | done | rfl | (simp only [List.length_drop, List.length_take]; rfl)) ?_; (with_reducible refine (larumref04_digits.calls k t143 2 t146 _ A5.out).mono ?_); rintro e w22 ⟨rfl, hb⟩; refine ⟨_, rfl, ?_⟩; have n0_ := Aside0.mk (below_step (by repeat (first | (with_reducible first | exact HB.out | apply below_alloc | apply pw_below_drewN | apply below_drew1) | exact HB.out)) hb); clear HB; have HB := n0_; clear n0_; (try clear hb); (try clear hb2); (try clear hk); (try clear hi)) | ((with_reducible refine gate_callee (f := 24) rfl ?_); refine goesL_ (some 24) rfl rfl Try.func24 (by kernel_rfl) rfl #[.int .i64 t144, .int .i64 2] rfl (by (try simp only [List.map_toArray, List.map_cons, List.map_nil]); first | done | rfl | (simp only [List.length_drop, List.length_take]; rfl)) ?_; (with_reducible refine (larumref04_digits.calls k t144 2 t147 _ A8.out).mono ?_); rintro e w23 ⟨rfl, hb⟩; refine ⟨_, rfl, ?_⟩; have n0_ := Aside0.mk (below_step (by repeat (first | (with_reducible first | exact HB.out | apply below_alloc | apply pw_below_drewN | apply below_drew1) | exact HB.out)) hb); clear HB; have HB := n0_; clear n0_; (try clear hb); (try clear hb2); (try clear hk); (try clear hi)) | ((with_reducible refine gate_callee (f := 24) rfl ?_); refine goesL_ (some 29) rfl rfl Try.func24 (by kernel_rfl) rfl #[.int .i64 (wrap64 (Int.tdiv (Int.tmod a0 86400) 3600)), .int .i64 2] rfl (by (try simp only [List.map_toArray, List.map_cons, List.map_nil]); first | done | rfl | (simp only [List.length_drop, List.length_take]; rfl)) ?_; (with_reducible refine (larumref04_digits.calls k (wrap64 (Int.tdiv (Int.tmod a0 86400) 3600)) 2 t148 _ A11.out).mono ?_); rintro e w24 ⟨rfl, hb⟩; refine ⟨_, rfl, ?_⟩; have n0_ := Aside0.mk (below_step (by repeat (first | (with_reducible first | exact HB.out | apply below_alloc | apply pw_below_drewN | apply below_drew1) | exact HB.out)) hb); clear HB; have HB := n0_; clear n0_; (try clear hb); (try clear hb2); (try clear hk); (try clear hi)) | ((with_reducible refine gate_callee (f := 24) rfl ?_); refine goesL_ (some 35) rfl rfl Try.func24 (by kernel_rfl) rfl #[.int .i64 (Int.tmod (wrap64 (Int.tdiv (Int.tmod a0 86400) 60)) 60), .int .i64 2] rfl (by (try simp only [List.map_toArray, List.map_cons, List.map_nil]); first | done | rfl | (simp only [List.length_drop, List.length_take]; rfl)) ?_; (with_reducible refine (larumref04_digits.calls k (Int.tmod (wrap64 (Int.tdiv (Int.tmod a0 86400) 60)) 60) 2 t149 _ A14.out).mono ?_); rintro e w25 ⟨rfl, hb⟩; refine ⟨_, rfl, ?_⟩; have n0_ := Aside0.mk (below_step (by repeat (first | (with_reducible first | exact HB.out | apply below_alloc | apply pw_below_drewN | apply below_drew1) | exact HB.out)) hb); clear HB; have HB := n0_; clear n0_; (try clear hb); (try clear hb2); (try clear hk); (try clear hi)) | ((with_reducible refine gate_callee (f := 24) rfl ?_); refine goesL_ (some 40) rfl rfl Try.func24 (by kernel_rfl) rfl #[.int .i64 (Int.tmod a0 60), .int .i64 2] rfl (by (try simp only [List.map_toArray, List.map_cons, List.map_nil]); first | done | rfl | (simp only [List.length_drop, List.length_take]; rfl)) ?_; (with_reducible refine (larumref04_digits.calls k (Int.tmod a0 60) 2 t150 _ A17.out).mono ?_); rintro e w26 ⟨rfl, hb⟩; refine ⟨_, rfl, ?_⟩; have n0_ := Aside0.mk (below_step (by repeat (first | (with_reducible first | exact HB.out | apply below_alloc | apply pw_below_drewN | apply below_drew1) | exact HB.out)) hb); clear HB; have HB := n0_; clear n0_; (try clear hb); (try clear hb2); (try clear hk); (try clear hi)))
                        go_ret
                        exact ⟨by first | rfl | (simp [errW_none, errW_some] <;> rfl) | (simp [*, errW_none, errW_some] <;> rfl) | (simp [gp_ne]; done) | (simp [gp_ne, i64_w, i32_w, *]; done) | (simp [i64_w, i32_w]; (try unfold wrap64); (try unfold wrap32); omega), by repeat (first | (with_reducible first | exact HB.out | apply below_alloc | apply pw_below_drewN | apply below_drew1) | exact HB.out)⟩
                      · rw [if_neg c19] at H
                        exact absurd H (by simp)
                    · rw [if_neg c18] at H
                      exact absurd H (by simp)
                  · rw [if_neg c16] at H
                    exact absurd H (by simp)
                · rw [if_neg c15] at H
                  exact absurd H (by simp)
              · rw [if_neg c13] at H
                exact absurd H (by simp)
            · rw [if_neg c12] at H
              exact absurd H (by simp)
          · rw [if_neg c10] at H
            exact absurd H (by simp)
        · rw [if_neg c9] at H
          exact absurd H (by simp)
      · rw [if_neg c7] at H
        exact absurd H (by simp)
    · rw [if_neg c6] at H
      exact absurd H (by simp)
  · rw [if_neg c4] at H
    exact absurd H (by simp)

/-! ### larumlaw04_ClockPrint: function 5 -/
def larumlaw04_ClockPrint.j0 : Nat → Int → ByteArray → Int → Bool → Option (Bool)
  | 0, _, _, _, _ => none
  | k + 1, x0, x3, x4, x17 => if x17 = true then (if x4 = 1 then (if x3.toList = ([] : List UInt8) then ((larumlaw04_awake.f k).bind fun t153 => (some t153)) else (some false)) else (some false)) else ((clock_Parse.f k x3).bind fun bt154 => (if x4 = 0 then ((larumref04_Print.f k x0).bind fun t156 => (if x3.toList = t156.toList then (if bt154.1 = x0 then (if bt154.2 = 0 then ((larumlaw04_awake.f k).bind fun t157 => (some t157)) else (some false)) else (some false)) else (some false))) else (some false)))
def larumlaw04_ClockPrint.f (k : Nat) (a0 : Int) : Option (Bool) := (clock_Print.f k a0).bind fun bt151 => (if a0 < 0 then (larumlaw04_ClockPrint.j0 k a0 bt151.1 bt151.2 true) else (larumlaw04_ClockPrint.j0 k a0 bt151.1 bt151.2 (decide (a0 > 137438953472))))
theorem larumlaw04_ClockPrint.mono_l : ∀ k, (∀ y0 y1 y2 y3, LeO (larumlaw04_ClockPrint.j0 k y0 y1 y2 y3) (larumlaw04_ClockPrint.j0 (k + 1) y0 y1 y2 y3))
  | 0 => fun _ _ _ _ r h => by simp [larumlaw04_ClockPrint.j0] at h
  | k + 1 => by
    have ih0 := larumlaw04_ClockPrint.mono_l k
    · intro y0 y1 y2 y3
      unfold larumlaw04_ClockPrint.j0
      repeat' first
      | (with_reducible exact ih0 _ _ _ _)
      | (with_reducible exact clock_Parse.mono _ _)
      | (with_reducible exact clock_Print.mono _ _)
      | (with_reducible exact larumlaw04_awake.mono _)
      | (with_reducible exact larumref04_Print.mono _ _)
      | (with_reducible exact LeO.refl _)
      | (with_reducible exact LeO.none _)
      | (with_reducible refine LeO.ite ?_ ?_)
      | (with_reducible refine LeO.bind ?_ (fun _ => ?_))
      | exact ih0 _ _ _ _
      | exact clock_Parse.mono _ _
      | exact clock_Print.mono _ _
      | exact larumlaw04_awake.mono _
      | exact larumref04_Print.mono _ _
      | exact LeO.none _
      | refine LeO.ite ?_ ?_
      | refine LeO.bind ?_ (fun _ => ?_)
theorem larumlaw04_ClockPrint.mono : ∀ a0 k, LeO (larumlaw04_ClockPrint.f k a0) (larumlaw04_ClockPrint.f (k + 1) a0) := by
  intro a0 k
  have ih0 := larumlaw04_ClockPrint.mono_l k
  unfold larumlaw04_ClockPrint.f
  repeat' first
      | (with_reducible exact ih0 _ _ _ _)
      | (with_reducible exact clock_Parse.mono _ _)
      | (with_reducible exact clock_Print.mono _ _)
      | (with_reducible exact larumlaw04_awake.mono _)
      | (with_reducible exact larumref04_Print.mono _ _)
      | (with_reducible exact LeO.refl _)
      | (with_reducible exact LeO.none _)
      | (with_reducible refine LeO.ite ?_ ?_)
      | (with_reducible refine LeO.bind ?_ (fun _ => ?_))
      | exact ih0 _ _ _ _
      | exact clock_Parse.mono _ _
      | exact clock_Print.mono _ _
      | exact larumlaw04_awake.mono _
      | exact larumref04_Print.mono _ _
      | exact LeO.none _
      | refine LeO.ite ?_ ?_
      | refine LeO.bind ?_ (fun _ => ?_)
set_option maxHeartbeats 8000000 in
set_option maxRecDepth 100000 in
theorem larumlaw04_ClockPrint.calls (k : Nat) (a0 : Int) (r : Bool) (w : World) (h : larumlaw04_ClockPrint.f k a0 = some r) :
    Calls Try.prog 5 #[.int .i64 a0] w fun e w' => e = .returned (.bool r) ∧ Below w.heap.size w w' := by
  have HB := Aside0.mk (Below.refl w.heap.size w)
  have H : ((clock_Print.f k a0).bind fun bt151 => (if a0 < 0 then (larumlaw04_ClockPrint.j0 k a0 bt151.1 bt151.2 true) else (larumlaw04_ClockPrint.j0 k a0 bt151.1 bt151.2 (decide (a0 > 137438953472))))) = some r := h
  clear h
  replace H := Option.bind_eq_some_iff.mp H
  obtain ⟨⟨t151, t152⟩, A20, H⟩ := H
  replace H : (if a0 < 0 then (larumlaw04_ClockPrint.j0 k a0 t151 t152 true) else (larumlaw04_ClockPrint.j0 k a0 t151 t152 (decide (a0 > 137438953472)))) = some r := H
  have A2 := Aside0.mk A20
  clear A20
  have HC3 := Aside0.mk H
  clear H
  go_enter Try.func5, Try.ntmps5
  go_upto_region 2 with (first | ((with_reducible refine gate_callee (f := 13) rfl ?_); refine goesL_ (some 9) rfl rfl Try.func13 (by kernel_rfl) rfl #[.int .i64 a0] rfl (by (try simp only [List.map_toArray, List.map_cons, List.map_nil]); first | done | rfl | (simp only [List.length_drop, List.length_take]; rfl)) ?_; (with_reducible refine (clock_Print.calls k a0 t151 t152 _ A2.out).mono ?_); rintro e w4 ⟨rfl, hb⟩; refine ⟨_, rfl, ?_⟩; have n0_ := Aside0.mk (below_step (by repeat (first | (with_reducible first | exact HB.out | apply below_alloc | apply pw_below_drewN | apply below_drew1) | exact HB.out)) hb); clear HB; have HB := n0_; clear n0_; (try clear hb); (try clear hb2); (try clear hk); (try clear hi)))
  (try simp only [Act.put, List.setIfInBounds_toArray, List.set_cons_zero, List.set_cons_succ])
  go_cut [17] (fun v17 wc => ∃ (kq : Nat) (x17_2 : Bool), v17 = .bool x17_2 ∧ Aside0 (larumlaw04_ClockPrint.j0 kq a0 t151 t152 x17_2 = some r) ∧ Aside0 (kq ≤ k) ∧ Aside0 (Below w.heap.size w wc))
  case first =>
    have H := HC3.out
    clear HC3
    by_cases c5 : a0 < 0
    · rw [if_pos c5] at H
      have c5b0 : decide (a0 < 0) = true := decide_eq_true c5
      clear c5
      (first | rw [c5b0] | (simp only [i64_w, i32_w]; rw [c5b0]) | skip)
      have H' := Aside0.mk H
      clear H
      go_wp2
      go_meet
      case rel => exact ⟨_, (true), (by first | rfl | (simp; done) | (simp [*]; done) | (simp only [i64_w, i32_w]; done) | (simp [i64_w, i32_w, *]; done) | (simp [gp_ne]; done) | (simp [gp_ne, i64_w, i32_w, *]; done) | (simp [i64_w, i32_w]; (try unfold wrap64); (try unfold wrap32); omega)), H', ⟨by first | omega | exact Nat.le_refl _⟩, ⟨by repeat (first | (with_reducible first | exact HB.out | apply below_alloc | apply pw_below_drewN | apply below_drew1) | exact HB.out)⟩⟩
    · rw [if_neg c5] at H
      have c5b0 : decide (a0 < 0) = false := decide_eq_false c5
      clear c5
      (first | rw [c5b0] | (simp only [i64_w, i32_w]; rw [c5b0]) | skip)
      have H' := Aside0.mk H
      clear H
      go_wp2
      go_meet
      case rel => exact ⟨_, (decide (a0 > 137438953472)), (by first | rfl | (simp; done) | (simp [*]; done) | (simp only [i64_w, i32_w]; done) | (simp [i64_w, i32_w, *]; done) | (simp [gp_ne]; done) | (simp [gp_ne, i64_w, i32_w, *]; done) | (simp [i64_w, i32_w]; (try unfold wrap64); (try unfold wrap32); omega)), H', ⟨by first | omega | exact Nat.le_refl _⟩, ⟨by repeat (first | (with_reducible first | exact HB.out | apply below_alloc | apply pw_below_drewN | apply below_drew1) | exact HB.out)⟩⟩
  case rest =>
    clear HC3
    try clear c1
    try clear p2
    try clear c5
    try clear c5b0
    obtain ⟨kq, x17_2, rfl, HA, HJ2, HB⟩ := hcut
    cases kq with
    | zero => exact absurd HA.out (by simp [larumlaw04_ClockPrint.j0])
    | succ kj2 =>
      have H := HA.out
      clear HA
      simp only [larumlaw04_ClockPrint.j0] at H
      by_cases c6 : x17_2 = true
      · subst c6
        have H1 : (if t152 = 1 then (if t151.toList = ([] : List UInt8) then ((larumlaw04_awake.f kj2).bind fun t153 => (some t153)) else (some false)) else (some false)) = some r := by rw [if_pos rfl] at H; exact H
        clear H
        have H := H1
        clear H1
        by_cases c7 : t152 = 1
        · rw [if_pos c7] at H
          have c7b0 : (t152 == 1) = true := beq_iff_eq.mpr c7
          have c7b1 : (t152 != 1) = false := bne_eq_false_iff_eq.mpr c7
          clear c7
          by_cases c8 : t151.toList = ([] : List UInt8)
          · rw [if_pos c8] at H
            have c8b0 : (t151.toList == ([] : List UInt8)) = true := beq_iff_eq.mpr c8
            have c8b1 : (t151.toList != ([] : List UInt8)) = false := bne_eq_false_iff_eq.mpr c8
            clear c8
            replace H := Option.bind_eq_some_iff.mp H
            obtain ⟨t153, A90, H⟩ := H
            replace H : (some t153) = some r := H
            have A9 := Aside0.mk A90
            clear A90
            obtain rfl := Option.some.inj H
            go_wp2_with (first | (go_at_call 10; (with_reducible refine (larumlaw04_awake.calls kj2  t153 _ A9.out).mono ?_); rintro e w10 ⟨rfl, hb⟩; have n0_ := Aside0.mk (below_step (by repeat (first | (with_reducible first | exact HB.out | apply below_alloc | apply pw_below_drewN | apply below_drew1) | exact HB.out)) hb); clear HB; have HB := n0_; clear n0_; (try clear hb); (try clear hb2); (try clear hk); (try clear hi)))
            go_ret
            exact ⟨by first | rfl | (simp [errW_none, errW_some] <;> rfl) | (simp [*, errW_none, errW_some] <;> rfl) | (simp [gp_ne]; done) | (simp [gp_ne, i64_w, i32_w, *]; done) | (simp [i64_w, i32_w]; (try unfold wrap64); (try unfold wrap32); omega), by repeat (first | (with_reducible first | exact HB.out | apply below_alloc | apply pw_below_drewN | apply below_drew1) | exact HB.out)⟩
          · rw [if_neg c8] at H
            have c8b0 : (t151.toList == ([] : List UInt8)) = false := beq_eq_false_iff_ne.mpr c8
            have c8b1 : (t151.toList != ([] : List UInt8)) = true := bne_iff_ne.mpr c8
            obtain rfl := Option.some.inj H
            go_wp2
            go_ret
            exact ⟨by first | rfl | (simp [errW_none, errW_some] <;> rfl) | (simp [*, errW_none, errW_some] <;> rfl) | (simp [gp_ne]; done) | (simp [gp_ne, i64_w, i32_w, *]; done) | (simp [i64_w, i32_w]; (try unfold wrap64); (try unfold wrap32); omega), by repeat (first | (with_reducible first | exact HB.out | apply below_alloc | apply pw_below_drewN | apply below_drew1) | exact HB.out)⟩
        · rw [if_neg c7] at H
          have c7b0 : (t152 == 1) = false := beq_eq_false_iff_ne.mpr c7
          have c7b1 : (t152 != 1) = true := bne_iff_ne.mpr c7
          obtain rfl := Option.some.inj H
          go_wp2
          go_ret
          exact ⟨by first | rfl | (simp [errW_none, errW_some] <;> rfl) | (simp [*, errW_none, errW_some] <;> rfl) | (simp [gp_ne]; done) | (simp [gp_ne, i64_w, i32_w, *]; done) | (simp [i64_w, i32_w]; (try unfold wrap64); (try unfold wrap32); omega), by repeat (first | (with_reducible first | exact HB.out | apply below_alloc | apply pw_below_drewN | apply below_drew1) | exact HB.out)⟩
      · replace c6 := Bool.eq_false_iff.mpr c6
        subst c6
        have H1 : ((clock_Parse.f kj2 t151).bind fun bt154 => (if t152 = 0 then ((larumref04_Print.f kj2 a0).bind fun t156 => (if t151.toList = t156.toList then (if bt154.1 = a0 then (if bt154.2 = 0 then ((larumlaw04_awake.f kj2).bind fun t157 => (some t157)) else (some false)) else (some false)) else (some false))) else (some false))) = some r := by rw [if_neg (show ¬ (false = true) by decide)] at H; exact H
        clear H
        have H := H1
        clear H1
        replace H := Option.bind_eq_some_iff.mp H
        obtain ⟨⟨t154, t155⟩, A110, H⟩ := H
        replace H : (if t152 = 0 then ((larumref04_Print.f kj2 a0).bind fun t156 => (if t151.toList = t156.toList then (if t154 = a0 then (if t155 = 0 then ((larumlaw04_awake.f kj2).bind fun t157 => (some t157)) else (some false)) else (some false)) else (some false))) else (some false)) = some r := H
        have A11 := Aside0.mk A110
        clear A110
        by_cases c12 : t152 = 0
        · rw [if_pos c12] at H
          have c12b0 : (t152 == 0) = true := beq_iff_eq.mpr c12
          have c12b1 : (t152 != 0) = false := bne_eq_false_iff_eq.mpr c12
          clear c12
          replace H := Option.bind_eq_some_iff.mp H
          obtain ⟨t156, A130, H⟩ := H
          replace H : (if t151.toList = t156.toList then (if t154 = a0 then (if t155 = 0 then ((larumlaw04_awake.f kj2).bind fun t157 => (some t157)) else (some false)) else (some false)) else (some false)) = some r := H
          have A13 := Aside0.mk A130
          clear A130
          by_cases c14 : t151.toList = t156.toList
          · rw [if_pos c14] at H
            have c14b0 : (t151.toList == t156.toList) = true := beq_iff_eq.mpr c14
            have c14b1 : (t151.toList != t156.toList) = false := bne_eq_false_iff_eq.mpr c14
            clear c14
            by_cases c15 : t154 = a0
            · rw [if_pos c15] at H
              have c15b0 : (t154 == a0) = true := beq_iff_eq.mpr c15
              have c15b1 : (t154 != a0) = false := bne_eq_false_iff_eq.mpr c15
              clear c15
              by_cases c16 : t155 = 0
              · rw [if_pos c16] at H
                have c16b0 : (t155 == 0) = true := beq_iff_eq.mpr c16
                have c16b1 : (t155 != 0) = false := bne_eq_false_iff_eq.mpr c16
                clear c16
                replace H := Option.bind_eq_some_iff.mp H
                obtain ⟨t157, A170, H⟩ := H
                replace H : (some t157) = some r := H
                have A17 := Aside0.mk A170
                clear A170
                obtain rfl := Option.some.inj H
                go_wp2_with (first | ((with_reducible refine gate_callee (f := 14) rfl ?_); refine goesL_ (some 29) rfl rfl Try.func14 (by kernel_rfl) rfl #[.string t151] rfl (by (try simp only [List.map_toArray, List.map_cons, List.map_nil]); first | done | rfl | (simp only [List.length_drop, List.length_take]; rfl)) ?_; (with_reducible refine (clock_Parse.calls kj2 t151 t154 t155 _ A11.out).mono ?_); rintro e w' ⟨rfl, ⟨nd, rfl⟩⟩; refine ⟨_, rfl, ?_⟩) | (go_at_call 15; (with_reducible refine (larumref04_Print.calls kj2 a0 t156 _ A13.out).mono ?_); rintro e w18 ⟨rfl, hb⟩; have n0_ := Aside0.mk (below_step (by repeat (first | (with_reducible first | exact HB.out | apply below_alloc | apply pw_below_drewN | apply below_drew1) | exact HB.out)) hb); clear HB; have HB := n0_; clear n0_; (try clear hb); (try clear hb2); (try clear hk); (try clear hi)) | (go_at_call 10; (with_reducible refine (larumlaw04_awake.calls kj2  t157 _ A17.out).mono ?_); rintro e w19 ⟨rfl, hb⟩; have n0_ := Aside0.mk (below_step (by repeat (first | (with_reducible first | exact HB.out | apply below_alloc | apply pw_below_drewN | apply below_drew1) | exact HB.out)) hb); clear HB; have HB := n0_; clear n0_; (try clear hb); (try clear hb2); (try clear hk); (try clear hi)))
                go_ret
                exact ⟨by first | rfl | (simp [errW_none, errW_some] <;> rfl) | (simp [*, errW_none, errW_some] <;> rfl) | (simp [gp_ne]; done) | (simp [gp_ne, i64_w, i32_w, *]; done) | (simp [i64_w, i32_w]; (try unfold wrap64); (try unfold wrap32); omega), by repeat (first | (with_reducible first | exact HB.out | apply below_alloc | apply pw_below_drewN | apply below_drew1) | exact HB.out)⟩
              · rw [if_neg c16] at H
                have c16b0 : (t155 == 0) = false := beq_eq_false_iff_ne.mpr c16
                have c16b1 : (t155 != 0) = true := bne_iff_ne.mpr c16
                obtain rfl := Option.some.inj H
                go_wp2_with (first | ((with_reducible refine gate_callee (f := 14) rfl ?_); refine goesL_ (some 29) rfl rfl Try.func14 (by kernel_rfl) rfl #[.string t151] rfl (by (try simp only [List.map_toArray, List.map_cons, List.map_nil]); first | done | rfl | (simp only [List.length_drop, List.length_take]; rfl)) ?_; (with_reducible refine (clock_Parse.calls kj2 t151 t154 t155 _ A11.out).mono ?_); rintro e w' ⟨rfl, ⟨nd, rfl⟩⟩; refine ⟨_, rfl, ?_⟩) | (go_at_call 15; (with_reducible refine (larumref04_Print.calls kj2 a0 t156 _ A13.out).mono ?_); rintro e w20 ⟨rfl, hb⟩; have n0_ := Aside0.mk (below_step (by repeat (first | (with_reducible first | exact HB.out | apply below_alloc | apply pw_below_drewN | apply below_drew1) | exact HB.out)) hb); clear HB; have HB := n0_; clear n0_; (try clear hb); (try clear hb2); (try clear hk); (try clear hi)))
                go_ret
                exact ⟨by first | rfl | (simp [errW_none, errW_some] <;> rfl) | (simp [*, errW_none, errW_some] <;> rfl) | (simp [gp_ne]; done) | (simp [gp_ne, i64_w, i32_w, *]; done) | (simp [i64_w, i32_w]; (try unfold wrap64); (try unfold wrap32); omega), by repeat (first | (with_reducible first | exact HB.out | apply below_alloc | apply pw_below_drewN | apply below_drew1) | exact HB.out)⟩
            · rw [if_neg c15] at H
              have c15b0 : (t154 == a0) = false := beq_eq_false_iff_ne.mpr c15
              have c15b1 : (t154 != a0) = true := bne_iff_ne.mpr c15
              obtain rfl := Option.some.inj H
              go_wp2_with (first | ((with_reducible refine gate_callee (f := 14) rfl ?_); refine goesL_ (some 29) rfl rfl Try.func14 (by kernel_rfl) rfl #[.string t151] rfl (by (try simp only [List.map_toArray, List.map_cons, List.map_nil]); first | done | rfl | (simp only [List.length_drop, List.length_take]; rfl)) ?_; (with_reducible refine (clock_Parse.calls kj2 t151 t154 t155 _ A11.out).mono ?_); rintro e w' ⟨rfl, ⟨nd, rfl⟩⟩; refine ⟨_, rfl, ?_⟩) | (go_at_call 15; (with_reducible refine (larumref04_Print.calls kj2 a0 t156 _ A13.out).mono ?_); rintro e w21 ⟨rfl, hb⟩; have n0_ := Aside0.mk (below_step (by repeat (first | (with_reducible first | exact HB.out | apply below_alloc | apply pw_below_drewN | apply below_drew1) | exact HB.out)) hb); clear HB; have HB := n0_; clear n0_; (try clear hb); (try clear hb2); (try clear hk); (try clear hi)))
              go_ret
              exact ⟨by first | rfl | (simp [errW_none, errW_some] <;> rfl) | (simp [*, errW_none, errW_some] <;> rfl) | (simp [gp_ne]; done) | (simp [gp_ne, i64_w, i32_w, *]; done) | (simp [i64_w, i32_w]; (try unfold wrap64); (try unfold wrap32); omega), by repeat (first | (with_reducible first | exact HB.out | apply below_alloc | apply pw_below_drewN | apply below_drew1) | exact HB.out)⟩
          · rw [if_neg c14] at H
            have c14b0 : (t151.toList == t156.toList) = false := beq_eq_false_iff_ne.mpr c14
            have c14b1 : (t151.toList != t156.toList) = true := bne_iff_ne.mpr c14
            obtain rfl := Option.some.inj H
            go_wp2_with (first | ((with_reducible refine gate_callee (f := 14) rfl ?_); refine goesL_ (some 29) rfl rfl Try.func14 (by kernel_rfl) rfl #[.string t151] rfl (by (try simp only [List.map_toArray, List.map_cons, List.map_nil]); first | done | rfl | (simp only [List.length_drop, List.length_take]; rfl)) ?_; (with_reducible refine (clock_Parse.calls kj2 t151 t154 t155 _ A11.out).mono ?_); rintro e w' ⟨rfl, ⟨nd, rfl⟩⟩; refine ⟨_, rfl, ?_⟩) | (go_at_call 15; (with_reducible refine (larumref04_Print.calls kj2 a0 t156 _ A13.out).mono ?_); rintro e w22 ⟨rfl, hb⟩; have n0_ := Aside0.mk (below_step (by repeat (first | (with_reducible first | exact HB.out | apply below_alloc | apply pw_below_drewN | apply below_drew1) | exact HB.out)) hb); clear HB; have HB := n0_; clear n0_; (try clear hb); (try clear hb2); (try clear hk); (try clear hi)))
            go_ret
            exact ⟨by first | rfl | (simp [errW_none, errW_some] <;> rfl) | (simp [*, errW_none, errW_some] <;> rfl) | (simp [gp_ne]; done) | (simp [gp_ne, i64_w, i32_w, *]; done) | (simp [i64_w, i32_w]; (try unfold wrap64); (try unfold wrap32); omega), by repeat (first | (with_reducible first | exact HB.out | apply below_alloc | apply pw_below_drewN | apply below_drew1) | exact HB.out)⟩
        · rw [if_neg c12] at H
          have c12b0 : (t152 == 0) = false := beq_eq_false_iff_ne.mpr c12
          have c12b1 : (t152 != 0) = true := bne_iff_ne.mpr c12
          obtain rfl := Option.some.inj H
          go_wp2_with (first | ((with_reducible refine gate_callee (f := 14) rfl ?_); refine goesL_ (some 29) rfl rfl Try.func14 (by kernel_rfl) rfl #[.string t151] rfl (by (try simp only [List.map_toArray, List.map_cons, List.map_nil]); first | done | rfl | (simp only [List.length_drop, List.length_take]; rfl)) ?_; (with_reducible refine (clock_Parse.calls kj2 t151 t154 t155 _ A11.out).mono ?_); rintro e w' ⟨rfl, ⟨nd, rfl⟩⟩; refine ⟨_, rfl, ?_⟩))
          go_ret
          exact ⟨by first | rfl | (simp [errW_none, errW_some] <;> rfl) | (simp [*, errW_none, errW_some] <;> rfl) | (simp [gp_ne]; done) | (simp [gp_ne, i64_w, i32_w, *]; done) | (simp [i64_w, i32_w]; (try unfold wrap64); (try unfold wrap32); omega), by repeat (first | (with_reducible first | exact HB.out | apply below_alloc | apply pw_below_drewN | apply below_drew1) | exact HB.out)⟩

/-- THE ONE PURE STATEMENT of larumlaw04_ClockPrint: yours. -/
def larumlaw04_ClockPrint.Pure : Prop := ∀ (a0 : Int), (Lit.int .i64 a0).wf = true → ∃ k, larumlaw04_ClockPrint.f k a0 = some true
theorem larumlaw04_ClockPrint.walk (P : larumlaw04_ClockPrint.Pure) (a0 : Int) (w : World) (w0 : (Lit.int .i64 a0).wf = true) :
    Calls Try.prog 5 #[.int .i64 a0] w fun e w' => e = .returned (.bool true) ∧ Below w.heap.size w w' := by
  obtain ⟨k, h⟩ := P a0 w0
  refine (larumlaw04_ClockPrint.calls k a0 true w h).mono ?_
  rintro e w' ⟨rfl, hd⟩
  exact ⟨rfl, hd⟩

end Go.Proofs.Ytocbfodaboimoaa.PClockPrint
