-- By gp.py, a program of this session: the print of the kit with contracts of this session's own beside it.
import Derived.Test.YtpincmjianpmmaaGreatDoorPHeadLinex0
import Derived.Test.YtpincmjianpmmaaGreatDoorPHeadLinex2
import Derived.Test.YtpincmjianpmmaaGreatDoorPHeadLinex3
import Derived.Test.YtpincmjianpmmaaGreatDoorPHeadLinex5
namespace Go.Proofs.YtpincmjianpmmaaGreatDoor.PHeadLine
open Go.RowKit Go.Proofs.YtpincmjianpmmaaGreatDoor.Gp Go.Proofs.YtpincmjianpmmaaGreatDoorW.PrintWords Go.Proofs.YtpincmjianpmmaaGreatDoorW.PrintLast Go.Proofs.YtpincmjianpmmaaGreatDoorW.PrintMore
attribute [local go_sem] max2_int min2_int max_two min_two max_three min_three max_four min_four gp_gtr gp_leq gp_geq   -- for this text's walks alone
set_option linter.unusedVariables false
set_option linter.unusedSimpArgs false

/-! ### head_digits: function 60 -/
def head_digits.f (a0 : ByteArray) : Option (Int × Int × Bool) := (strings_CutPrefix.f a0 (⟨#[72, 84, 84, 80, 47]⟩ : ByteArray)).bind fun bt136 => (if bt136.2 = true then (if (bt136.1.size : Int) = 3 then (if 0 < (bt136.1.size : Int) then ((chars_Digit.f (bt bt136.1 0)).bind fun t138 => (if t138 = true then (if 1 < (bt136.1.size : Int) then (if (bt bt136.1 1) = 46 then (if 2 < (bt136.1.size : Int) then ((chars_Digit.f (bt bt136.1 2)).bind fun t139 => (if t139 = true then (some (((bt bt136.1 0) - 48) % 256, ((bt bt136.1 2) - 48) % 256, true)) else (some (0, 0, false)))) else (none)) else (some (0, 0, false))) else (none)) else (some (0, 0, false)))) else (none)) else (some (0, 0, false))) else (some (0, 0, false)))
set_option maxHeartbeats 8000000 in
set_option maxRecDepth 100000 in
theorem head_digits.calls (a0 : ByteArray) (r1 : Int) (r2 : Int) (r3 : Bool) (w : World) (h : head_digits.f a0 = some (r1, r2, r3)) :
    Calls Tryz.prog 60 #[.string a0] w fun e w' => e = .returned (.tuple #[.int .i64 r1, .int .i64 r2, .bool r3]) ∧ Drawn0 w w' := by
  have H : ((strings_CutPrefix.f a0 (⟨#[72, 84, 84, 80, 47]⟩ : ByteArray)).bind fun bt136 => (if bt136.2 = true then (if (bt136.1.size : Int) = 3 then (if 0 < (bt136.1.size : Int) then ((chars_Digit.f (bt bt136.1 0)).bind fun t138 => (if t138 = true then (if 1 < (bt136.1.size : Int) then (if (bt bt136.1 1) = 46 then (if 2 < (bt136.1.size : Int) then ((chars_Digit.f (bt bt136.1 2)).bind fun t139 => (if t139 = true then (some (((bt bt136.1 0) - 48) % 256, ((bt bt136.1 2) - 48) % 256, true)) else (some (0, 0, false)))) else (none)) else (some (0, 0, false))) else (none)) else (some (0, 0, false)))) else (none)) else (some (0, 0, false))) else (some (0, 0, false)))) = some (r1, r2, r3) := h
  clear h
  replace H := Option.bind_eq_some_iff.mp H
  obtain ⟨⟨t136, t137⟩, A20, H⟩ := H
  replace H : (if t137 = true then (if (t136.size : Int) = 3 then (if 0 < (t136.size : Int) then ((chars_Digit.f (bt t136 0)).bind fun t138 => (if t138 = true then (if 1 < (t136.size : Int) then (if (bt t136 1) = 46 then (if 2 < (t136.size : Int) then ((chars_Digit.f (bt t136 2)).bind fun t139 => (if t139 = true then (some (((bt t136 0) - 48) % 256, ((bt t136 2) - 48) % 256, true)) else (some (0, 0, false)))) else (none)) else (some (0, 0, false))) else (none)) else (some (0, 0, false)))) else (none)) else (some (0, 0, false))) else (some (0, 0, false))) = some (r1, r2, r3) := H
  have A2 := Aside0.mk A20
  clear A20
  by_cases c3 : t137 = true
  · subst c3
    have H1 : (if (t136.size : Int) = 3 then (if 0 < (t136.size : Int) then ((chars_Digit.f (bt t136 0)).bind fun t138 => (if t138 = true then (if 1 < (t136.size : Int) then (if (bt t136 1) = 46 then (if 2 < (t136.size : Int) then ((chars_Digit.f (bt t136 2)).bind fun t139 => (if t139 = true then (some (((bt t136 0) - 48) % 256, ((bt t136 2) - 48) % 256, true)) else (some (0, 0, false)))) else (none)) else (some (0, 0, false))) else (none)) else (some (0, 0, false)))) else (none)) else (some (0, 0, false))) = some (r1, r2, r3) := by rw [if_pos rfl] at H; exact H
    clear H
    have H := H1
    clear H1
    by_cases c4 : (t136.size : Int) = 3
    · rw [if_pos c4] at H
      have c4b0 : ((t136.size : Int) == 3) = true := beq_iff_eq.mpr c4
      have c4b1 : ((t136.size : Int) != 3) = false := bne_eq_false_iff_eq.mpr c4
      clear c4
      by_cases c5 : 0 < (t136.size : Int)
      · rw [if_pos c5] at H
        have c5b0 : decide (0 < (t136.size : Int)) = true := decide_eq_true c5
        have c5b1 : decide (0 < t136.size) = true := decide_eq_true (by omega)
        clear c5
        replace H := Option.bind_eq_some_iff.mp H
        obtain ⟨t138, A70, H⟩ := H
        replace H : (if t138 = true then (if 1 < (t136.size : Int) then (if (bt t136 1) = 46 then (if 2 < (t136.size : Int) then ((chars_Digit.f (bt t136 2)).bind fun t139 => (if t139 = true then (some (((bt t136 0) - 48) % 256, ((bt t136 2) - 48) % 256, true)) else (some (0, 0, false)))) else (none)) else (some (0, 0, false))) else (none)) else (some (0, 0, false))) = some (r1, r2, r3) := H
        have A7 := Aside0.mk A70
        clear A70
        by_cases c8 : t138 = true
        · subst c8
          have H1 : (if 1 < (t136.size : Int) then (if (bt t136 1) = 46 then (if 2 < (t136.size : Int) then ((chars_Digit.f (bt t136 2)).bind fun t139 => (if t139 = true then (some (((bt t136 0) - 48) % 256, ((bt t136 2) - 48) % 256, true)) else (some (0, 0, false)))) else (none)) else (some (0, 0, false))) else (none)) = some (r1, r2, r3) := by rw [if_pos rfl] at H; exact H
          clear H
          have H := H1
          clear H1
          by_cases c9 : 1 < (t136.size : Int)
          · rw [if_pos c9] at H
            have c9b0 : decide (1 < (t136.size : Int)) = true := decide_eq_true c9
            have c9b1 : decide (1 < t136.size) = true := decide_eq_true (by omega)
            clear c9
            by_cases c11 : (bt t136 1) = 46
            · rw [if_pos c11] at H
              have c11b0 : ((bt t136 1) == 46) = true := beq_iff_eq.mpr c11
              have c11b1 : ((bt t136 1) != 46) = false := bne_eq_false_iff_eq.mpr c11
              clear c11
              by_cases c12 : 2 < (t136.size : Int)
              · rw [if_pos c12] at H
                have c12b0 : decide (2 < (t136.size : Int)) = true := decide_eq_true c12
                have c12b1 : decide (2 < t136.size) = true := decide_eq_true (by omega)
                clear c12
                replace H := Option.bind_eq_some_iff.mp H
                obtain ⟨t139, A140, H⟩ := H
                replace H : (if t139 = true then (some (((bt t136 0) - 48) % 256, ((bt t136 2) - 48) % 256, true)) else (some (0, 0, false))) = some (r1, r2, r3) := H
                have A14 := Aside0.mk A140
                clear A140
                by_cases c15 : t139 = true
                · subst c15
                  have H1 : (some (((bt t136 0) - 48) % 256, ((bt t136 2) - 48) % 256, true)) = some (r1, r2, r3) := by rw [if_pos rfl] at H; exact H
                  clear H
                  have H := H1
                  clear H1
                  simp only [Option.some.injEq, Prod.mk.injEq] at H
                  obtain ⟨rfl, rfl, rfl⟩ := H
                  go_enter Tryz.func60, Tryz.ntmps60
                  go_wp2_with (first | (go_at_call 73; (with_reducible refine (strings_CutPrefix.calls a0 (⟨#[72, 84, 84, 80, 47]⟩ : ByteArray) t136 true _ A2.out).mono ?_); rintro e w' ⟨rfl, ⟨nd, rfl⟩⟩; (try first | exact ⟨rfl, _, World.drewN_drewN _ _ _⟩ | exact ⟨rfl, _, Eq.trans (World.drewN_drewN _ _ _) (congrArg (World.drewN _) (Nat.add_assoc _ _ _))⟩); have p6 : 0 ≤ (0 : Int) := (by omega); have q6 : 0 < t136.size := (by have : (0 : Int) < (t136.size : Int) := of_decide_eq_true (by first | (with_reducible assumption) | assumption); omega); have hx6 : ∀ h : 0 < t136.size, ((t136[0]'h).toNat : Int) = bt t136 0 := bt_at t136 0; clear p6; have qi6 : (0 < (t136.size : Int)) = True := eq_true (of_decide_eq_true (by first | (with_reducible assumption) | assumption)); replace q6 := eq_true q6) | (go_at_call 22; (with_reducible refine (chars_Digit.calls (bt t136 0) true _ A7.out).mono ?_); rintro e w' ⟨rfl, ⟨nd, rfl⟩⟩; (try first | exact ⟨rfl, _, World.drewN_drewN _ _ _⟩ | exact ⟨rfl, _, Eq.trans (World.drewN_drewN _ _ _) (congrArg (World.drewN _) (Nat.add_assoc _ _ _))⟩); have p10 : 0 ≤ (1 : Int) := (by omega); have q10 : 1 < t136.size := (by have : (1 : Int) < (t136.size : Int) := of_decide_eq_true (by first | (with_reducible assumption) | assumption); omega); have hx10 : ∀ h : 1 < t136.size, ((t136[1]'h).toNat : Int) = bt t136 1 := bt_at t136 1; clear p10; have qi10 : (1 < (t136.size : Int)) = True := eq_true (of_decide_eq_true (by first | (with_reducible assumption) | assumption)); replace q10 := eq_true q10; have p13 : 0 ≤ (2 : Int) := (by omega); have q13 : 2 < t136.size := (by have : (2 : Int) < (t136.size : Int) := of_decide_eq_true (by first | (with_reducible assumption) | assumption); omega); have hx13 : ∀ h : 2 < t136.size, ((t136[2]'h).toNat : Int) = bt t136 2 := bt_at t136 2; clear p13; have qi13 : (2 < (t136.size : Int)) = True := eq_true (of_decide_eq_true (by first | (with_reducible assumption) | assumption)); replace q13 := eq_true q13) | (go_at_call 22; (with_reducible refine (chars_Digit.calls (bt t136 2) true _ A14.out).mono ?_); rintro e w' ⟨rfl, ⟨nd, rfl⟩⟩; (try first | exact ⟨rfl, _, World.drewN_drewN _ _ _⟩ | exact ⟨rfl, _, Eq.trans (World.drewN_drewN _ _ _) (congrArg (World.drewN _) (Nat.add_assoc _ _ _))⟩); have p16 : 0 ≤ (0 : Int) := (by omega); have q16 : 0 < t136.size := (by have : (0 : Int) < (t136.size : Int) := of_decide_eq_true (by first | (with_reducible assumption) | assumption); omega); have hx16 : ∀ h : 0 < t136.size, ((t136[0]'h).toNat : Int) = bt t136 0 := bt_at t136 0; clear p16; have qi16 : (0 < (t136.size : Int)) = True := eq_true (of_decide_eq_true (by first | (with_reducible assumption) | assumption)); replace q16 := eq_true q16; have p17 : 0 ≤ (2 : Int) := (by omega); have q17 : 2 < t136.size := (by have : (2 : Int) < (t136.size : Int) := of_decide_eq_true (by first | (with_reducible assumption) | assumption); omega); have hx17 : ∀ h : 2 < t136.size, ((t136[2]'h).toNat : Int) = bt t136 2 := bt_at t136 2; clear p17; have qi17 : (2 < (t136.size : Int)) = True := eq_true (of_decide_eq_true (by first | (with_reducible assumption) | assumption)); replace q17 := eq_true q17))
                  repeat (go_quiet (first | (go_at_call 73; (with_reducible refine (strings_CutPrefix.calls a0 (⟨#[72, 84, 84, 80, 47]⟩ : ByteArray) t136 true _ A2.out).mono ?_); rintro e w' ⟨rfl, ⟨nd, rfl⟩⟩; (try first | exact ⟨rfl, _, World.drewN_drewN _ _ _⟩ | exact ⟨rfl, _, Eq.trans (World.drewN_drewN _ _ _) (congrArg (World.drewN _) (Nat.add_assoc _ _ _))⟩); have p6 : 0 ≤ (0 : Int) := (by omega); have q6 : 0 < t136.size := (by have : (0 : Int) < (t136.size : Int) := of_decide_eq_true (by first | (with_reducible assumption) | assumption); omega); have hx6 : ∀ h : 0 < t136.size, ((t136[0]'h).toNat : Int) = bt t136 0 := bt_at t136 0; clear p6; have qi6 : (0 < (t136.size : Int)) = True := eq_true (of_decide_eq_true (by first | (with_reducible assumption) | assumption)); replace q6 := eq_true q6) | (go_at_call 22; (with_reducible refine (chars_Digit.calls (bt t136 0) true _ A7.out).mono ?_); rintro e w' ⟨rfl, ⟨nd, rfl⟩⟩; (try first | exact ⟨rfl, _, World.drewN_drewN _ _ _⟩ | exact ⟨rfl, _, Eq.trans (World.drewN_drewN _ _ _) (congrArg (World.drewN _) (Nat.add_assoc _ _ _))⟩); have p10 : 0 ≤ (1 : Int) := (by omega); have q10 : 1 < t136.size := (by have : (1 : Int) < (t136.size : Int) := of_decide_eq_true (by first | (with_reducible assumption) | assumption); omega); have hx10 : ∀ h : 1 < t136.size, ((t136[1]'h).toNat : Int) = bt t136 1 := bt_at t136 1; clear p10; have qi10 : (1 < (t136.size : Int)) = True := eq_true (of_decide_eq_true (by first | (with_reducible assumption) | assumption)); replace q10 := eq_true q10; have p13 : 0 ≤ (2 : Int) := (by omega); have q13 : 2 < t136.size := (by have : (2 : Int) < (t136.size : Int) := of_decide_eq_true (by first | (with_reducible assumption) | assumption); omega); have hx13 : ∀ h : 2 < t136.size, ((t136[2]'h).toNat : Int) = bt t136 2 := bt_at t136 2; clear p13; have qi13 : (2 < (t136.size : Int)) = True := eq_true (of_decide_eq_true (by first | (with_reducible assumption) | assumption)); replace q13 := eq_true q13) | (go_at_call 22; (with_reducible refine (chars_Digit.calls (bt t136 2) true _ A14.out).mono ?_); rintro e w' ⟨rfl, ⟨nd, rfl⟩⟩; (try first | exact ⟨rfl, _, World.drewN_drewN _ _ _⟩ | exact ⟨rfl, _, Eq.trans (World.drewN_drewN _ _ _) (congrArg (World.drewN _) (Nat.add_assoc _ _ _))⟩); have p16 : 0 ≤ (0 : Int) := (by omega); have q16 : 0 < t136.size := (by have : (0 : Int) < (t136.size : Int) := of_decide_eq_true (by first | (with_reducible assumption) | assumption); omega); have hx16 : ∀ h : 0 < t136.size, ((t136[0]'h).toNat : Int) = bt t136 0 := bt_at t136 0; clear p16; have qi16 : (0 < (t136.size : Int)) = True := eq_true (of_decide_eq_true (by first | (with_reducible assumption) | assumption)); replace q16 := eq_true q16; have p17 : 0 ≤ (2 : Int) := (by omega); have q17 : 2 < t136.size := (by have : (2 : Int) < (t136.size : Int) := of_decide_eq_true (by first | (with_reducible assumption) | assumption); omega); have hx17 : ∀ h : 2 < t136.size, ((t136[2]'h).toNat : Int) = bt t136 2 := bt_at t136 2; clear p17; have qi17 : (2 < (t136.size : Int)) = True := eq_true (of_decide_eq_true (by first | (with_reducible assumption) | assumption)); replace q17 := eq_true q17)); try go_wp2_with (first | (go_at_call 73; (with_reducible refine (strings_CutPrefix.calls a0 (⟨#[72, 84, 84, 80, 47]⟩ : ByteArray) t136 true _ A2.out).mono ?_); rintro e w' ⟨rfl, ⟨nd, rfl⟩⟩; (try first | exact ⟨rfl, _, World.drewN_drewN _ _ _⟩ | exact ⟨rfl, _, Eq.trans (World.drewN_drewN _ _ _) (congrArg (World.drewN _) (Nat.add_assoc _ _ _))⟩); have p6 : 0 ≤ (0 : Int) := (by omega); have q6 : 0 < t136.size := (by have : (0 : Int) < (t136.size : Int) := of_decide_eq_true (by first | (with_reducible assumption) | assumption); omega); have hx6 : ∀ h : 0 < t136.size, ((t136[0]'h).toNat : Int) = bt t136 0 := bt_at t136 0; clear p6; have qi6 : (0 < (t136.size : Int)) = True := eq_true (of_decide_eq_true (by first | (with_reducible assumption) | assumption)); replace q6 := eq_true q6) | (go_at_call 22; (with_reducible refine (chars_Digit.calls (bt t136 0) true _ A7.out).mono ?_); rintro e w' ⟨rfl, ⟨nd, rfl⟩⟩; (try first | exact ⟨rfl, _, World.drewN_drewN _ _ _⟩ | exact ⟨rfl, _, Eq.trans (World.drewN_drewN _ _ _) (congrArg (World.drewN _) (Nat.add_assoc _ _ _))⟩); have p10 : 0 ≤ (1 : Int) := (by omega); have q10 : 1 < t136.size := (by have : (1 : Int) < (t136.size : Int) := of_decide_eq_true (by first | (with_reducible assumption) | assumption); omega); have hx10 : ∀ h : 1 < t136.size, ((t136[1]'h).toNat : Int) = bt t136 1 := bt_at t136 1; clear p10; have qi10 : (1 < (t136.size : Int)) = True := eq_true (of_decide_eq_true (by first | (with_reducible assumption) | assumption)); replace q10 := eq_true q10; have p13 : 0 ≤ (2 : Int) := (by omega); have q13 : 2 < t136.size := (by have : (2 : Int) < (t136.size : Int) := of_decide_eq_true (by first | (with_reducible assumption) | assumption); omega); have hx13 : ∀ h : 2 < t136.size, ((t136[2]'h).toNat : Int) = bt t136 2 := bt_at t136 2; clear p13; have qi13 : (2 < (t136.size : Int)) = True := eq_true (of_decide_eq_true (by first | (with_reducible assumption) | assumption)); replace q13 := eq_true q13) | (go_at_call 22; (with_reducible refine (chars_Digit.calls (bt t136 2) true _ A14.out).mono ?_); rintro e w' ⟨rfl, ⟨nd, rfl⟩⟩; (try first | exact ⟨rfl, _, World.drewN_drewN _ _ _⟩ | exact ⟨rfl, _, Eq.trans (World.drewN_drewN _ _ _) (congrArg (World.drewN _) (Nat.add_assoc _ _ _))⟩); have p16 : 0 ≤ (0 : Int) := (by omega); have q16 : 0 < t136.size := (by have : (0 : Int) < (t136.size : Int) := of_decide_eq_true (by first | (with_reducible assumption) | assumption); omega); have hx16 : ∀ h : 0 < t136.size, ((t136[0]'h).toNat : Int) = bt t136 0 := bt_at t136 0; clear p16; have qi16 : (0 < (t136.size : Int)) = True := eq_true (of_decide_eq_true (by first | (with_reducible assumption) | assumption)); replace q16 := eq_true q16; have p17 : 0 ≤ (2 : Int) := (by omega); have q17 : 2 < t136.size := (by have : (2 : Int) < (t136.size : Int) := of_decide_eq_true (by first | (with_reducible assumption) | assumption); omega); have hx17 : ∀ h : 2 < t136.size, ((t136[2]'h).toNat : Int) = bt t136 2 := bt_at t136 2; clear p17; have qi17 : (2 < (t136.size : Int)) = True := eq_true (of_decide_eq_true (by first | (with_reducible assumption) | assumption)); replace q17 := eq_true q17)))
                  go_ret3
                  exact ⟨by first | rfl | (simp; done) | (simp [*]; done) | (simp only [i64_w, i32_w]; done) | (simp [i64_w, i32_w, *]; done) | (simp [gp_ne]; done) | (simp [gp_ne, i64_w, i32_w, *]; done) | (simp [i64_w, i32_w]; (try unfold wrap64); (try unfold wrap32); omega), by repeat (first | exact Drawn0.refl _ | apply Drawn0.step)⟩
                · replace c15 := Bool.eq_false_iff.mpr c15
                  subst c15
                  have H1 : (some (0, 0, false)) = some (r1, r2, r3) := by rw [if_neg (show ¬ (false = true) by decide)] at H; exact H
                  clear H
                  have H := H1
                  clear H1
                  simp only [Option.some.injEq, Prod.mk.injEq] at H
                  obtain ⟨rfl, rfl, rfl⟩ := H
                  go_enter Tryz.func60, Tryz.ntmps60
                  go_wp2_with (first | (go_at_call 73; (with_reducible refine (strings_CutPrefix.calls a0 (⟨#[72, 84, 84, 80, 47]⟩ : ByteArray) t136 true _ A2.out).mono ?_); rintro e w' ⟨rfl, ⟨nd, rfl⟩⟩; (try first | exact ⟨rfl, _, World.drewN_drewN _ _ _⟩ | exact ⟨rfl, _, Eq.trans (World.drewN_drewN _ _ _) (congrArg (World.drewN _) (Nat.add_assoc _ _ _))⟩); have p6 : 0 ≤ (0 : Int) := (by omega); have q6 : 0 < t136.size := (by have : (0 : Int) < (t136.size : Int) := of_decide_eq_true (by first | (with_reducible assumption) | assumption); omega); have hx6 : ∀ h : 0 < t136.size, ((t136[0]'h).toNat : Int) = bt t136 0 := bt_at t136 0; clear p6; have qi6 : (0 < (t136.size : Int)) = True := eq_true (of_decide_eq_true (by first | (with_reducible assumption) | assumption)); replace q6 := eq_true q6) | (go_at_call 22; (with_reducible refine (chars_Digit.calls (bt t136 0) true _ A7.out).mono ?_); rintro e w' ⟨rfl, ⟨nd, rfl⟩⟩; (try first | exact ⟨rfl, _, World.drewN_drewN _ _ _⟩ | exact ⟨rfl, _, Eq.trans (World.drewN_drewN _ _ _) (congrArg (World.drewN _) (Nat.add_assoc _ _ _))⟩); have p10 : 0 ≤ (1 : Int) := (by omega); have q10 : 1 < t136.size := (by have : (1 : Int) < (t136.size : Int) := of_decide_eq_true (by first | (with_reducible assumption) | assumption); omega); have hx10 : ∀ h : 1 < t136.size, ((t136[1]'h).toNat : Int) = bt t136 1 := bt_at t136 1; clear p10; have qi10 : (1 < (t136.size : Int)) = True := eq_true (of_decide_eq_true (by first | (with_reducible assumption) | assumption)); replace q10 := eq_true q10; have p13 : 0 ≤ (2 : Int) := (by omega); have q13 : 2 < t136.size := (by have : (2 : Int) < (t136.size : Int) := of_decide_eq_true (by first | (with_reducible assumption) | assumption); omega); have hx13 : ∀ h : 2 < t136.size, ((t136[2]'h).toNat : Int) = bt t136 2 := bt_at t136 2; clear p13; have qi13 : (2 < (t136.size : Int)) = True := eq_true (of_decide_eq_true (by first | (with_reducible assumption) | assumption)); replace q13 := eq_true q13) | (go_at_call 22; (with_reducible refine (chars_Digit.calls (bt t136 2) false _ A14.out).mono ?_); rintro e w' ⟨rfl, ⟨nd, rfl⟩⟩; (try first | exact ⟨rfl, _, World.drewN_drewN _ _ _⟩ | exact ⟨rfl, _, Eq.trans (World.drewN_drewN _ _ _) (congrArg (World.drewN _) (Nat.add_assoc _ _ _))⟩)))
                  repeat (go_quiet (first | (go_at_call 73; (with_reducible refine (strings_CutPrefix.calls a0 (⟨#[72, 84, 84, 80, 47]⟩ : ByteArray) t136 true _ A2.out).mono ?_); rintro e w' ⟨rfl, ⟨nd, rfl⟩⟩; (try first | exact ⟨rfl, _, World.drewN_drewN _ _ _⟩ | exact ⟨rfl, _, Eq.trans (World.drewN_drewN _ _ _) (congrArg (World.drewN _) (Nat.add_assoc _ _ _))⟩); have p6 : 0 ≤ (0 : Int) := (by omega); have q6 : 0 < t136.size := (by have : (0 : Int) < (t136.size : Int) := of_decide_eq_true (by first | (with_reducible assumption) | assumption); omega); have hx6 : ∀ h : 0 < t136.size, ((t136[0]'h).toNat : Int) = bt t136 0 := bt_at t136 0; clear p6; have qi6 : (0 < (t136.size : Int)) = True := eq_true (of_decide_eq_true (by first | (with_reducible assumption) | assumption)); replace q6 := eq_true q6) | (go_at_call 22; (with_reducible refine (chars_Digit.calls (bt t136 0) true _ A7.out).mono ?_); rintro e w' ⟨rfl, ⟨nd, rfl⟩⟩; (try first | exact ⟨rfl, _, World.drewN_drewN _ _ _⟩ | exact ⟨rfl, _, Eq.trans (World.drewN_drewN _ _ _) (congrArg (World.drewN _) (Nat.add_assoc _ _ _))⟩); have p10 : 0 ≤ (1 : Int) := (by omega); have q10 : 1 < t136.size := (by have : (1 : Int) < (t136.size : Int) := of_decide_eq_true (by first | (with_reducible assumption) | assumption); omega); have hx10 : ∀ h : 1 < t136.size, ((t136[1]'h).toNat : Int) = bt t136 1 := bt_at t136 1; clear p10; have qi10 : (1 < (t136.size : Int)) = True := eq_true (of_decide_eq_true (by first | (with_reducible assumption) | assumption)); replace q10 := eq_true q10; have p13 : 0 ≤ (2 : Int) := (by omega); have q13 : 2 < t136.size := (by have : (2 : Int) < (t136.size : Int) := of_decide_eq_true (by first | (with_reducible assumption) | assumption); omega); have hx13 : ∀ h : 2 < t136.size, ((t136[2]'h).toNat : Int) = bt t136 2 := bt_at t136 2; clear p13; have qi13 : (2 < (t136.size : Int)) = True := eq_true (of_decide_eq_true (by first | (with_reducible assumption) | assumption)); replace q13 := eq_true q13) | (go_at_call 22; (with_reducible refine (chars_Digit.calls (bt t136 2) false _ A14.out).mono ?_); rintro e w' ⟨rfl, ⟨nd, rfl⟩⟩; (try first | exact ⟨rfl, _, World.drewN_drewN _ _ _⟩ | exact ⟨rfl, _, Eq.trans (World.drewN_drewN _ _ _) (congrArg (World.drewN _) (Nat.add_assoc _ _ _))⟩))); try go_wp2_with (first | (go_at_call 73; (with_reducible refine (strings_CutPrefix.calls a0 (⟨#[72, 84, 84, 80, 47]⟩ : ByteArray) t136 true _ A2.out).mono ?_); rintro e w' ⟨rfl, ⟨nd, rfl⟩⟩; (try first | exact ⟨rfl, _, World.drewN_drewN _ _ _⟩ | exact ⟨rfl, _, Eq.trans (World.drewN_drewN _ _ _) (congrArg (World.drewN _) (Nat.add_assoc _ _ _))⟩); have p6 : 0 ≤ (0 : Int) := (by omega); have q6 : 0 < t136.size := (by have : (0 : Int) < (t136.size : Int) := of_decide_eq_true (by first | (with_reducible assumption) | assumption); omega); have hx6 : ∀ h : 0 < t136.size, ((t136[0]'h).toNat : Int) = bt t136 0 := bt_at t136 0; clear p6; have qi6 : (0 < (t136.size : Int)) = True := eq_true (of_decide_eq_true (by first | (with_reducible assumption) | assumption)); replace q6 := eq_true q6) | (go_at_call 22; (with_reducible refine (chars_Digit.calls (bt t136 0) true _ A7.out).mono ?_); rintro e w' ⟨rfl, ⟨nd, rfl⟩⟩; (try first | exact ⟨rfl, _, World.drewN_drewN _ _ _⟩ | exact ⟨rfl, _, Eq.trans (World.drewN_drewN _ _ _) (congrArg (World.drewN _) (Nat.add_assoc _ _ _))⟩); have p10 : 0 ≤ (1 : Int) := (by omega); have q10 : 1 < t136.size := (by have : (1 : Int) < (t136.size : Int) := of_decide_eq_true (by first | (with_reducible assumption) | assumption); omega); have hx10 : ∀ h : 1 < t136.size, ((t136[1]'h).toNat : Int) = bt t136 1 := bt_at t136 1; clear p10; have qi10 : (1 < (t136.size : Int)) = True := eq_true (of_decide_eq_true (by first | (with_reducible assumption) | assumption)); replace q10 := eq_true q10; have p13 : 0 ≤ (2 : Int) := (by omega); have q13 : 2 < t136.size := (by have : (2 : Int) < (t136.size : Int) := of_decide_eq_true (by first | (with_reducible assumption) | assumption); omega); have hx13 : ∀ h : 2 < t136.size, ((t136[2]'h).toNat : Int) = bt t136 2 := bt_at t136 2; clear p13; have qi13 : (2 < (t136.size : Int)) = True := eq_true (of_decide_eq_true (by first | (with_reducible assumption) | assumption)); replace q13 := eq_true q13) | (go_at_call 22; (with_reducible refine (chars_Digit.calls (bt t136 2) false _ A14.out).mono ?_); rintro e w' ⟨rfl, ⟨nd, rfl⟩⟩; (try first | exact ⟨rfl, _, World.drewN_drewN _ _ _⟩ | exact ⟨rfl, _, Eq.trans (World.drewN_drewN _ _ _) (congrArg (World.drewN _) (Nat.add_assoc _ _ _))⟩))))
                  go_ret3
                  exact ⟨by first | rfl | (simp; done) | (simp [*]; done) | (simp only [i64_w, i32_w]; done) | (simp [i64_w, i32_w, *]; done) | (simp [gp_ne]; done) | (simp [gp_ne, i64_w, i32_w, *]; done) | (simp [i64_w, i32_w]; (try unfold wrap64); (try unfold wrap32); omega), by repeat (first | exact Drawn0.refl _ | apply Drawn0.step)⟩
              · rw [if_neg c12] at H
                exact absurd H (by simp)
            · rw [if_neg c11] at H
              have c11b0 : ((bt t136 1) == 46) = false := beq_eq_false_iff_ne.mpr c11
              have c11b1 : ((bt t136 1) != 46) = true := bne_iff_ne.mpr c11
              simp only [Option.some.injEq, Prod.mk.injEq] at H
              obtain ⟨rfl, rfl, rfl⟩ := H
              go_enter Tryz.func60, Tryz.ntmps60
              go_wp2_with (first | (go_at_call 73; (with_reducible refine (strings_CutPrefix.calls a0 (⟨#[72, 84, 84, 80, 47]⟩ : ByteArray) t136 true _ A2.out).mono ?_); rintro e w' ⟨rfl, ⟨nd, rfl⟩⟩; (try first | exact ⟨rfl, _, World.drewN_drewN _ _ _⟩ | exact ⟨rfl, _, Eq.trans (World.drewN_drewN _ _ _) (congrArg (World.drewN _) (Nat.add_assoc _ _ _))⟩); have p6 : 0 ≤ (0 : Int) := (by omega); have q6 : 0 < t136.size := (by have : (0 : Int) < (t136.size : Int) := of_decide_eq_true (by first | (with_reducible assumption) | assumption); omega); have hx6 : ∀ h : 0 < t136.size, ((t136[0]'h).toNat : Int) = bt t136 0 := bt_at t136 0; clear p6; have qi6 : (0 < (t136.size : Int)) = True := eq_true (of_decide_eq_true (by first | (with_reducible assumption) | assumption)); replace q6 := eq_true q6) | (go_at_call 22; (with_reducible refine (chars_Digit.calls (bt t136 0) true _ A7.out).mono ?_); rintro e w' ⟨rfl, ⟨nd, rfl⟩⟩; (try first | exact ⟨rfl, _, World.drewN_drewN _ _ _⟩ | exact ⟨rfl, _, Eq.trans (World.drewN_drewN _ _ _) (congrArg (World.drewN _) (Nat.add_assoc _ _ _))⟩); have p10 : 0 ≤ (1 : Int) := (by omega); have q10 : 1 < t136.size := (by have : (1 : Int) < (t136.size : Int) := of_decide_eq_true (by first | (with_reducible assumption) | assumption); omega); have hx10 : ∀ h : 1 < t136.size, ((t136[1]'h).toNat : Int) = bt t136 1 := bt_at t136 1; clear p10; have qi10 : (1 < (t136.size : Int)) = True := eq_true (of_decide_eq_true (by first | (with_reducible assumption) | assumption)); replace q10 := eq_true q10))
              repeat (go_quiet (first | (go_at_call 73; (with_reducible refine (strings_CutPrefix.calls a0 (⟨#[72, 84, 84, 80, 47]⟩ : ByteArray) t136 true _ A2.out).mono ?_); rintro e w' ⟨rfl, ⟨nd, rfl⟩⟩; (try first | exact ⟨rfl, _, World.drewN_drewN _ _ _⟩ | exact ⟨rfl, _, Eq.trans (World.drewN_drewN _ _ _) (congrArg (World.drewN _) (Nat.add_assoc _ _ _))⟩); have p6 : 0 ≤ (0 : Int) := (by omega); have q6 : 0 < t136.size := (by have : (0 : Int) < (t136.size : Int) := of_decide_eq_true (by first | (with_reducible assumption) | assumption); omega); have hx6 : ∀ h : 0 < t136.size, ((t136[0]'h).toNat : Int) = bt t136 0 := bt_at t136 0; clear p6; have qi6 : (0 < (t136.size : Int)) = True := eq_true (of_decide_eq_true (by first | (with_reducible assumption) | assumption)); replace q6 := eq_true q6) | (go_at_call 22; (with_reducible refine (chars_Digit.calls (bt t136 0) true _ A7.out).mono ?_); rintro e w' ⟨rfl, ⟨nd, rfl⟩⟩; (try first | exact ⟨rfl, _, World.drewN_drewN _ _ _⟩ | exact ⟨rfl, _, Eq.trans (World.drewN_drewN _ _ _) (congrArg (World.drewN _) (Nat.add_assoc _ _ _))⟩); have p10 : 0 ≤ (1 : Int) := (by omega); have q10 : 1 < t136.size := (by have : (1 : Int) < (t136.size : Int) := of_decide_eq_true (by first | (with_reducible assumption) | assumption); omega); have hx10 : ∀ h : 1 < t136.size, ((t136[1]'h).toNat : Int) = bt t136 1 := bt_at t136 1; clear p10; have qi10 : (1 < (t136.size : Int)) = True := eq_true (of_decide_eq_true (by first | (with_reducible assumption) | assumption)); replace q10 := eq_true q10)); try go_wp2_with (first | (go_at_call 73; (with_reducible refine (strings_CutPrefix.calls a0 (⟨#[72, 84, 84, 80, 47]⟩ : ByteArray) t136 true _ A2.out).mono ?_); rintro e w' ⟨rfl, ⟨nd, rfl⟩⟩; (try first | exact ⟨rfl, _, World.drewN_drewN _ _ _⟩ | exact ⟨rfl, _, Eq.trans (World.drewN_drewN _ _ _) (congrArg (World.drewN _) (Nat.add_assoc _ _ _))⟩); have p6 : 0 ≤ (0 : Int) := (by omega); have q6 : 0 < t136.size := (by have : (0 : Int) < (t136.size : Int) := of_decide_eq_true (by first | (with_reducible assumption) | assumption); omega); have hx6 : ∀ h : 0 < t136.size, ((t136[0]'h).toNat : Int) = bt t136 0 := bt_at t136 0; clear p6; have qi6 : (0 < (t136.size : Int)) = True := eq_true (of_decide_eq_true (by first | (with_reducible assumption) | assumption)); replace q6 := eq_true q6) | (go_at_call 22; (with_reducible refine (chars_Digit.calls (bt t136 0) true _ A7.out).mono ?_); rintro e w' ⟨rfl, ⟨nd, rfl⟩⟩; (try first | exact ⟨rfl, _, World.drewN_drewN _ _ _⟩ | exact ⟨rfl, _, Eq.trans (World.drewN_drewN _ _ _) (congrArg (World.drewN _) (Nat.add_assoc _ _ _))⟩); have p10 : 0 ≤ (1 : Int) := (by omega); have q10 : 1 < t136.size := (by have : (1 : Int) < (t136.size : Int) := of_decide_eq_true (by first | (with_reducible assumption) | assumption); omega); have hx10 : ∀ h : 1 < t136.size, ((t136[1]'h).toNat : Int) = bt t136 1 := bt_at t136 1; clear p10; have qi10 : (1 < (t136.size : Int)) = True := eq_true (of_decide_eq_true (by first | (with_reducible assumption) | assumption)); replace q10 := eq_true q10)))
              go_ret3
              exact ⟨by first | rfl | (simp; done) | (simp [*]; done) | (simp only [i64_w, i32_w]; done) | (simp [i64_w, i32_w, *]; done) | (simp [gp_ne]; done) | (simp [gp_ne, i64_w, i32_w, *]; done) | (simp [i64_w, i32_w]; (try unfold wrap64); (try unfold wrap32); omega), by repeat (first | exact Drawn0.refl _ | apply Drawn0.step)⟩
          · rw [if_neg c9] at H
            exact absurd H (by simp)
        · replace c8 := Bool.eq_false_iff.mpr c8
          subst c8
          have H1 : (some (0, 0, false)) = some (r1, r2, r3) := by rw [if_neg (show ¬ (false = true) by decide)] at H; exact H
          clear H
          have H := H1
          clear H1
          simp only [Option.some.injEq, Prod.mk.injEq] at H
          obtain ⟨rfl, rfl, rfl⟩ := H
          go_enter Tryz.func60, Tryz.ntmps60
          go_wp2_with (first | (go_at_call 73; (with_reducible refine (strings_CutPrefix.calls a0 (⟨#[72, 84, 84, 80, 47]⟩ : ByteArray) t136 true _ A2.out).mono ?_); rintro e w' ⟨rfl, ⟨nd, rfl⟩⟩; (try first | exact ⟨rfl, _, World.drewN_drewN _ _ _⟩ | exact ⟨rfl, _, Eq.trans (World.drewN_drewN _ _ _) (congrArg (World.drewN _) (Nat.add_assoc _ _ _))⟩); have p6 : 0 ≤ (0 : Int) := (by omega); have q6 : 0 < t136.size := (by have : (0 : Int) < (t136.size : Int) := of_decide_eq_true (by first | (with_reducible assumption) | assumption); omega); have hx6 : ∀ h : 0 < t136.size, ((t136[0]'h).toNat : Int) = bt t136 0 := bt_at t136 0; clear p6; have qi6 : (0 < (t136.size : Int)) = True := eq_true (of_decide_eq_true (by first | (with_reducible assumption) | assumption)); replace q6 := eq_true q6) | (go_at_call 22; (with_reducible refine (chars_Digit.calls (bt t136 0) false _ A7.out).mono ?_); rintro e w' ⟨rfl, ⟨nd, rfl⟩⟩; (try first | exact ⟨rfl, _, World.drewN_drewN _ _ _⟩ | exact ⟨rfl, _, Eq.trans (World.drewN_drewN _ _ _) (congrArg (World.drewN _) (Nat.add_assoc _ _ _))⟩)))
          repeat (go_quiet (first | (go_at_call 73; (with_reducible refine (strings_CutPrefix.calls a0 (⟨#[72, 84, 84, 80, 47]⟩ : ByteArray) t136 true _ A2.out).mono ?_); rintro e w' ⟨rfl, ⟨nd, rfl⟩⟩; (try first | exact ⟨rfl, _, World.drewN_drewN _ _ _⟩ | exact ⟨rfl, _, Eq.trans (World.drewN_drewN _ _ _) (congrArg (World.drewN _) (Nat.add_assoc _ _ _))⟩); have p6 : 0 ≤ (0 : Int) := (by omega); have q6 : 0 < t136.size := (by have : (0 : Int) < (t136.size : Int) := of_decide_eq_true (by first | (with_reducible assumption) | assumption); omega); have hx6 : ∀ h : 0 < t136.size, ((t136[0]'h).toNat : Int) = bt t136 0 := bt_at t136 0; clear p6; have qi6 : (0 < (t136.size : Int)) = True := eq_true (of_decide_eq_true (by first | (with_reducible assumption) | assumption)); replace q6 := eq_true q6) | (go_at_call 22; (with_reducible refine (chars_Digit.calls (bt t136 0) false _ A7.out).mono ?_); rintro e w' ⟨rfl, ⟨nd, rfl⟩⟩; (try first | exact ⟨rfl, _, World.drewN_drewN _ _ _⟩ | exact ⟨rfl, _, Eq.trans (World.drewN_drewN _ _ _) (congrArg (World.drewN _) (Nat.add_assoc _ _ _))⟩))); try go_wp2_with (first | (go_at_call 73; (with_reducible refine (strings_CutPrefix.calls a0 (⟨#[72, 84, 84, 80, 47]⟩ : ByteArray) t136 true _ A2.out).mono ?_); rintro e w' ⟨rfl, ⟨nd, rfl⟩⟩; (try first | exact ⟨rfl, _, World.drewN_drewN _ _ _⟩ | exact ⟨rfl, _, Eq.trans (World.drewN_drewN _ _ _) (congrArg (World.drewN _) (Nat.add_assoc _ _ _))⟩); have p6 : 0 ≤ (0 : Int) := (by omega); have q6 : 0 < t136.size := (by have : (0 : Int) < (t136.size : Int) := of_decide_eq_true (by first | (with_reducible assumption) | assumption); omega); have hx6 : ∀ h : 0 < t136.size, ((t136[0]'h).toNat : Int) = bt t136 0 := bt_at t136 0; clear p6; have qi6 : (0 < (t136.size : Int)) = True := eq_true (of_decide_eq_true (by first | (with_reducible assumption) | assumption)); replace q6 := eq_true q6) | (go_at_call 22; (with_reducible refine (chars_Digit.calls (bt t136 0) false _ A7.out).mono ?_); rintro e w' ⟨rfl, ⟨nd, rfl⟩⟩; (try first | exact ⟨rfl, _, World.drewN_drewN _ _ _⟩ | exact ⟨rfl, _, Eq.trans (World.drewN_drewN _ _ _) (congrArg (World.drewN _) (Nat.add_assoc _ _ _))⟩))))
          go_ret3
          exact ⟨by first | rfl | (simp; done) | (simp [*]; done) | (simp only [i64_w, i32_w]; done) | (simp [i64_w, i32_w, *]; done) | (simp [gp_ne]; done) | (simp [gp_ne, i64_w, i32_w, *]; done) | (simp [i64_w, i32_w]; (try unfold wrap64); (try unfold wrap32); omega), by repeat (first | exact Drawn0.refl _ | apply Drawn0.step)⟩
      · rw [if_neg c5] at H
        exact absurd H (by simp)
    · rw [if_neg c4] at H
      have c4b0 : ((t136.size : Int) == 3) = false := beq_eq_false_iff_ne.mpr c4
      have c4b1 : ((t136.size : Int) != 3) = true := bne_iff_ne.mpr c4
      simp only [Option.some.injEq, Prod.mk.injEq] at H
      obtain ⟨rfl, rfl, rfl⟩ := H
      go_enter Tryz.func60, Tryz.ntmps60
      go_wp2_with (first | (go_at_call 73; (with_reducible refine (strings_CutPrefix.calls a0 (⟨#[72, 84, 84, 80, 47]⟩ : ByteArray) t136 true _ A2.out).mono ?_); rintro e w' ⟨rfl, ⟨nd, rfl⟩⟩; (try first | exact ⟨rfl, _, World.drewN_drewN _ _ _⟩ | exact ⟨rfl, _, Eq.trans (World.drewN_drewN _ _ _) (congrArg (World.drewN _) (Nat.add_assoc _ _ _))⟩)))
      repeat (go_quiet (first | (go_at_call 73; (with_reducible refine (strings_CutPrefix.calls a0 (⟨#[72, 84, 84, 80, 47]⟩ : ByteArray) t136 true _ A2.out).mono ?_); rintro e w' ⟨rfl, ⟨nd, rfl⟩⟩; (try first | exact ⟨rfl, _, World.drewN_drewN _ _ _⟩ | exact ⟨rfl, _, Eq.trans (World.drewN_drewN _ _ _) (congrArg (World.drewN _) (Nat.add_assoc _ _ _))⟩))); try go_wp2_with (first | (go_at_call 73; (with_reducible refine (strings_CutPrefix.calls a0 (⟨#[72, 84, 84, 80, 47]⟩ : ByteArray) t136 true _ A2.out).mono ?_); rintro e w' ⟨rfl, ⟨nd, rfl⟩⟩; (try first | exact ⟨rfl, _, World.drewN_drewN _ _ _⟩ | exact ⟨rfl, _, Eq.trans (World.drewN_drewN _ _ _) (congrArg (World.drewN _) (Nat.add_assoc _ _ _))⟩))))
      go_ret3
      exact ⟨by first | rfl | (simp; done) | (simp [*]; done) | (simp only [i64_w, i32_w]; done) | (simp [i64_w, i32_w, *]; done) | (simp [gp_ne]; done) | (simp [gp_ne, i64_w, i32_w, *]; done) | (simp [i64_w, i32_w]; (try unfold wrap64); (try unfold wrap32); omega), by repeat (first | exact Drawn0.refl _ | apply Drawn0.step)⟩
  · replace c3 := Bool.eq_false_iff.mpr c3
    subst c3
    have H1 : (some (0, 0, false)) = some (r1, r2, r3) := by rw [if_neg (show ¬ (false = true) by decide)] at H; exact H
    clear H
    have H := H1
    clear H1
    simp only [Option.some.injEq, Prod.mk.injEq] at H
    obtain ⟨rfl, rfl, rfl⟩ := H
    go_enter Tryz.func60, Tryz.ntmps60
    go_wp2_with (first | (go_at_call 73; (with_reducible refine (strings_CutPrefix.calls a0 (⟨#[72, 84, 84, 80, 47]⟩ : ByteArray) t136 false _ A2.out).mono ?_); rintro e w' ⟨rfl, ⟨nd, rfl⟩⟩; (try first | exact ⟨rfl, _, World.drewN_drewN _ _ _⟩ | exact ⟨rfl, _, Eq.trans (World.drewN_drewN _ _ _) (congrArg (World.drewN _) (Nat.add_assoc _ _ _))⟩)))
    repeat (go_quiet (first | (go_at_call 73; (with_reducible refine (strings_CutPrefix.calls a0 (⟨#[72, 84, 84, 80, 47]⟩ : ByteArray) t136 false _ A2.out).mono ?_); rintro e w' ⟨rfl, ⟨nd, rfl⟩⟩; (try first | exact ⟨rfl, _, World.drewN_drewN _ _ _⟩ | exact ⟨rfl, _, Eq.trans (World.drewN_drewN _ _ _) (congrArg (World.drewN _) (Nat.add_assoc _ _ _))⟩))); try go_wp2_with (first | (go_at_call 73; (with_reducible refine (strings_CutPrefix.calls a0 (⟨#[72, 84, 84, 80, 47]⟩ : ByteArray) t136 false _ A2.out).mono ?_); rintro e w' ⟨rfl, ⟨nd, rfl⟩⟩; (try first | exact ⟨rfl, _, World.drewN_drewN _ _ _⟩ | exact ⟨rfl, _, Eq.trans (World.drewN_drewN _ _ _) (congrArg (World.drewN _) (Nat.add_assoc _ _ _))⟩))))
    go_ret3
    exact ⟨by first | rfl | (simp; done) | (simp [*]; done) | (simp only [i64_w, i32_w]; done) | (simp [i64_w, i32_w, *]; done) | (simp [gp_ne]; done) | (simp [gp_ne, i64_w, i32_w, *]; done) | (simp [i64_w, i32_w]; (try unfold wrap64); (try unfold wrap32); omega), by repeat (first | exact Drawn0.refl _ | apply Drawn0.step)⟩

/-! ### strings_HasPrefix: function 61 -/
def strings_HasPrefix.f (a0 : ByteArray) (a1 : ByteArray) : Option (Bool) := (stringslite_HasPrefix.f a0 a1).bind fun t140 => (some t140)
set_option maxHeartbeats 8000000 in
set_option maxRecDepth 100000 in
theorem strings_HasPrefix.calls (a0 : ByteArray) (a1 : ByteArray) (r : Bool) (w : World) (h : strings_HasPrefix.f a0 a1 = some r) :
    Calls Tryz.prog 61 #[.string a0, .string a1] w fun e w' => e = .returned (.bool r) ∧ Drawn0 w w' := by
  have H : ((stringslite_HasPrefix.f a0 a1).bind fun t140 => (some t140)) = some r := h
  clear h
  replace H := Option.bind_eq_some_iff.mp H
  obtain ⟨t140, A30, H⟩ := H
  replace H : (some t140) = some r := H
  have A3 := Aside0.mk A30
  clear A30
  obtain rfl := Option.some.inj H
  go_enter Tryz.func61, Tryz.ntmps61
  go_wp2_with (first | ((with_reducible refine gate_callee (f := 74) rfl ?_); refine goesL_ (some 7) rfl rfl Tryz.func74 (by kernel_rfl) rfl #[.string a0, .string a1] rfl (by (try simp only [List.map_toArray, List.map_cons, List.map_nil]); first | done | rfl | (simp only [List.length_drop, List.length_take]; rfl)) ?_; (with_reducible refine (stringslite_HasPrefix.calls a0 a1 t140 _ A3.out).mono ?_); rintro e w' ⟨rfl, ⟨nd, rfl⟩⟩; refine ⟨_, rfl, ?_⟩))
  go_ret
  exact ⟨by first | rfl | (simp; done) | (simp [*]; done) | (simp only [i64_w, i32_w]; done) | (simp [i64_w, i32_w, *]; done) | (simp [gp_ne]; done) | (simp [gp_ne, i64_w, i32_w, *]; done) | (simp [i64_w, i32_w]; (try unfold wrap64); (try unfold wrap32); omega), by repeat (first | exact Drawn0.refl _ | apply Drawn0.step)⟩

/-! ### chars_Visible: function 62 -/
def chars_Visible.f (a0 : Int) : Option (Bool) := if a0 ≥ 33 then (some (decide (a0 ≤ 126))) else (some false)
set_option maxHeartbeats 8000000 in
set_option maxRecDepth 100000 in
theorem chars_Visible.calls (a0 : Int) (r : Bool) (w : World) (h : chars_Visible.f a0 = some r) :
    Calls Tryz.prog 62 #[.int .u8 a0] w fun e w' => e = .returned (.bool r) ∧ Drawn0 w w' := by
  have H : (if a0 ≥ 33 then (some (decide (a0 ≤ 126))) else (some false)) = some r := h
  clear h
  by_cases c2 : a0 ≥ 33
  · rw [if_pos c2] at H
    have c2b0 : decide (33 ≤ a0) = true := decide_eq_true c2
    clear c2
    obtain rfl := Option.some.inj H
    go_enter Tryz.func62, Tryz.ntmps62
    go_wp2
    go_ret
    exact ⟨by first | rfl | (simp; done) | (simp [*]; done) | (simp only [i64_w, i32_w]; done) | (simp [i64_w, i32_w, *]; done) | (simp [gp_ne]; done) | (simp [gp_ne, i64_w, i32_w, *]; done) | (simp [i64_w, i32_w]; (try unfold wrap64); (try unfold wrap32); omega), by repeat (first | exact Drawn0.refl _ | apply Drawn0.step)⟩
  · rw [if_neg c2] at H
    have c2b0 : decide (33 ≤ a0) = false := decide_eq_false c2
    clear c2
    obtain rfl := Option.some.inj H
    go_enter Tryz.func62, Tryz.ntmps62
    go_wp2
    go_ret
    exact ⟨by first | rfl | (simp; done) | (simp [*]; done) | (simp only [i64_w, i32_w]; done) | (simp [i64_w, i32_w, *]; done) | (simp [gp_ne]; done) | (simp [gp_ne, i64_w, i32_w, *]; done) | (simp [i64_w, i32_w]; (try unfold wrap64); (try unfold wrap32); omega), by repeat (first | exact Drawn0.refl _ | apply Drawn0.step)⟩

/-! ### chars_All_chars_Visible_128: function 128 -/
def chars_All_chars_Visible_128.l0 : Nat → ByteArray → Int → Option (Bool)
  | 0, _, _ => none
  | k + 1, x0, x5 => if x5 < (x0.size : Int) then (if 0 ≤ x5 then ((chars_Visible.f (bt x0 x5)).bind fun t141 => (if t141 = true then (chars_All_chars_Visible_128.l0 k x0 (wrap64 (x5 + 1))) else (some false))) else (none)) else (some true)
def chars_All_chars_Visible_128.f (k : Nat) (a0 : ByteArray)  : Option (Bool) := chars_All_chars_Visible_128.l0 k a0 0
theorem chars_All_chars_Visible_128.mono_l : ∀ k, (∀ y0 y1, LeO (chars_All_chars_Visible_128.l0 k y0 y1) (chars_All_chars_Visible_128.l0 (k + 1) y0 y1))
  | 0 => fun _ _ r h => by simp [chars_All_chars_Visible_128.l0] at h
  | k + 1 => by
    have ih0 := chars_All_chars_Visible_128.mono_l k
    · intro y0 y1
      unfold chars_All_chars_Visible_128.l0
      repeat' first
      | (with_reducible exact ih0 _ _)
      | (with_reducible exact LeO.refl _)
      | (with_reducible exact LeO.none _)
      | (with_reducible refine LeO.ite ?_ ?_)
      | (with_reducible refine LeO.bind ?_ (fun _ => ?_))
      | exact ih0 _ _
      | exact LeO.none _
      | refine LeO.ite ?_ ?_
      | refine LeO.bind ?_ (fun _ => ?_)
theorem chars_All_chars_Visible_128.mono : ∀ a0 k, LeO (chars_All_chars_Visible_128.f k a0) (chars_All_chars_Visible_128.f (k + 1) a0) := by
  intro a0 k
  have ih0 := chars_All_chars_Visible_128.mono_l k
  unfold chars_All_chars_Visible_128.f
  repeat' first
      | (with_reducible exact ih0 _ _)
      | (with_reducible exact LeO.refl _)
      | (with_reducible exact LeO.none _)
      | (with_reducible refine LeO.ite ?_ ?_)
      | (with_reducible refine LeO.bind ?_ (fun _ => ?_))
      | exact ih0 _ _
      | exact LeO.none _
      | refine LeO.ite ?_ ?_
      | refine LeO.bind ?_ (fun _ => ?_)
set_option maxHeartbeats 8000000 in
set_option maxRecDepth 100000 in
theorem chars_All_chars_Visible_128.calls (k : Nat) (a0 : ByteArray)  (r : Bool) (w : World) (h : chars_All_chars_Visible_128.f k a0 = some r) :
    Calls Tryz.prog 13 #[.string a0, .func (.func 62) #[] #[]] w fun e w' => e = .returned (.bool r) ∧ Drawn0 w w' := by
  have hfn1neq : ∀ W : World, (binOp .neq 41 (.func (.func 62) #[] #[]) .nilFunc).run Tryz.prog W = .ok (.bool true) W := fun W => by rfl
  have hfn1eql : ∀ W : World, (binOp .eql 41 (.func (.func 62) #[] #[]) .nilFunc).run Tryz.prog W = .ok (.bool false) W := fun W => by rfl
  have H : (chars_All_chars_Visible_128.l0 k a0 0) = some r := h
  clear h
  have H' := Aside0.mk H
  clear H
  go_enter Tryz.func13, Tryz.ntmps13
  go_wp2
  go_loopg [5] k (fun kq v5 w' => ∃ (x5_1 : Int), v5 = .int .i64 x5_1 ∧ Aside0 (chars_All_chars_Visible_128.l0 kq a0 x5_1 = some r) ∧ Aside0 (kq ≤ k) ∧ Drawn0 w w')
  case atStart => exact ⟨(0), (by first | rfl | (simp; done) | (simp [*]; done) | (simp only [i64_w, i32_w]; done) | (simp [i64_w, i32_w, *]; done) | (simp [gp_ne]; done) | (simp [gp_ne, i64_w, i32_w, *]; done) | (simp [i64_w, i32_w]; (try unfold wrap64); (try unfold wrap32); omega)), H', ⟨Nat.le_refl _⟩, by repeat (first | exact Drawn0.refl _ | apply Drawn0.step)⟩
  case round =>
    clear H'
    try clear c1
    try clear p2
    obtain ⟨x5_1, rfl, HA, HK1, ⟨m1, rfl⟩⟩ := hrel
    cases gk with
    | zero => exact absurd HA.out (by simp [chars_All_chars_Visible_128.l0])
    | succ k1 =>
      have H := HA.out
      clear HA
      simp only [chars_All_chars_Visible_128.l0] at H
      by_cases c3 : x5_1 < (a0.size : Int)
      · rw [if_pos c3] at H
        have c3b0 : decide (x5_1 < (a0.size : Int)) = true := decide_eq_true c3
        clear c3
        by_cases c4 : 0 ≤ x5_1
        · rw [if_pos c4] at H
          have c4b0 : decide (0 ≤ x5_1) = true := decide_eq_true c4
          clear c4
          replace H := Option.bind_eq_some_iff.mp H
          obtain ⟨t141, A60, H⟩ := H
          replace H : (if t141 = true then (chars_All_chars_Visible_128.l0 k1 a0 (wrap64 (x5_1 + 1))) else (some false)) = some r := H
          have A6 := Aside0.mk A60
          clear A60
          by_cases c7 : t141 = true
          · subst c7
            have H1 : (chars_All_chars_Visible_128.l0 k1 a0 (wrap64 (x5_1 + 1))) = some r := by rw [if_pos rfl] at H; exact H
            clear H
            have H := H1
            clear H1
            have H' := Aside0.mk H
            clear H
            have p5 : 0 ≤ (x5_1 : Int) := of_decide_eq_true (by first | (with_reducible assumption) | assumption)
            have q5 : x5_1 < (a0.size : Int) := of_decide_eq_true (by first | (with_reducible assumption) | assumption)
            have hx5 := bt_at a0 x5_1
            replace p5 := eq_true p5
            replace q5 := eq_true q5
            go_wp2_with (first | (go_at_call 62; (with_reducible refine (chars_Visible.calls (bt a0 x5_1) true _ A6.out).mono ?_); rintro e w' ⟨rfl, ⟨nd, rfl⟩⟩))
            go_roundg k1
            case measure => have := HK1.out; omega
            case rel => exact ⟨(wrap64 (x5_1 + 1)), (by first | rfl | (simp; done) | (simp [*]; done) | (simp only [i64_w, i32_w]; done) | (simp [i64_w, i32_w, *]; done) | (simp [gp_ne]; done) | (simp [gp_ne, i64_w, i32_w, *]; done) | (simp [i64_w, i32_w]; (try unfold wrap64); (try unfold wrap32); omega)), H', ⟨by have := HK1.out; omega⟩, by repeat (first | exact Drawn0.refl _ | apply Drawn0.step)⟩
          · replace c7 := Bool.eq_false_iff.mpr c7
            subst c7
            have H1 : (some false) = some r := by rw [if_neg (show ¬ (false = true) by decide)] at H; exact H
            clear H
            have H := H1
            clear H1
            obtain rfl := Option.some.inj H
            have p5 : 0 ≤ (x5_1 : Int) := of_decide_eq_true (by first | (with_reducible assumption) | assumption)
            have q5 : x5_1 < (a0.size : Int) := of_decide_eq_true (by first | (with_reducible assumption) | assumption)
            have hx5 := bt_at a0 x5_1
            replace p5 := eq_true p5
            replace q5 := eq_true q5
            go_wp2_with (first | (go_at_call 62; (with_reducible refine (chars_Visible.calls (bt a0 x5_1) false _ A6.out).mono ?_); rintro e w' ⟨rfl, ⟨nd, rfl⟩⟩))
            go_ret
            exact ⟨by first | rfl | (simp; done) | (simp [*]; done) | (simp only [i64_w, i32_w]; done) | (simp [i64_w, i32_w, *]; done) | (simp [gp_ne]; done) | (simp [gp_ne, i64_w, i32_w, *]; done) | (simp [i64_w, i32_w]; (try unfold wrap64); (try unfold wrap32); omega), by repeat (first | exact Drawn0.refl _ | apply Drawn0.step)⟩
        · rw [if_neg c4] at H
          exact absurd H (by simp)
      · rw [if_neg c3] at H
        have c3b0 : decide (x5_1 < (a0.size : Int)) = false := decide_eq_false c3
        clear c3
        obtain rfl := Option.some.inj H
        go_wp2
        go_ret
        exact ⟨by first | rfl | (simp; done) | (simp [*]; done) | (simp only [i64_w, i32_w]; done) | (simp [i64_w, i32_w, *]; done) | (simp [gp_ne]; done) | (simp [gp_ne, i64_w, i32_w, *]; done) | (simp [i64_w, i32_w]; (try unfold wrap64); (try unfold wrap32); omega), by repeat (first | exact Drawn0.refl _ | apply Drawn0.step)⟩

/-! ### head_first: function 47 -/
mutual
def head_first.j0 : Nat → Int → Int → ByteArray → ByteArray → Bool → Option (ByteArray × ByteArray × Int × (List (S28)) × Option Int)
  | 0, _, _, _, _, _ => none
  | k + 1, x5, x6, x8, x9, x35 => if x35 = true then (none) else (if x5 = 1 then (if x8.toList = ([71, 69, 84] : List UInt8) then (head_first.j1 k x6 x8 x9 x8 (x8.toList == ([71, 69, 84] : List UInt8))) else (head_first.j1 k x6 x8 x9 x8 (x8.toList == ([80, 79, 83, 84] : List UInt8)))) else (none))
def head_first.j1 : Nat → Int → ByteArray → ByteArray → ByteArray → Bool → Option (ByteArray × ByteArray × Int × (List (S28)) × Option Int)
  | 0, _, _, _, _, _ => none
  | k + 1, x6, x8, x9, x72, x73 => if x73 = true then (some (x8, x9, x6, ([] : List (S28)), none)) else (if x72.toList = ([80, 85, 84] : List UInt8) then (some (x8, x9, x6, ([] : List (S28)), none)) else (if x72.toList = ([68, 69, 76, 69, 84, 69] : List UInt8) then (some (x8, x9, x6, ([] : List (S28)), none)) else (none)))
end
def head_first.f (k : Nat) (a0 : ByteArray) : Option (ByteArray × ByteArray × Int × (List (S28)) × Option Int) := (strings_Split.f a0 (⟨#[32]⟩ : ByteArray)).bind fun t143 => (if (t143.length : Int) = 3 then (if 2 < (t143.length : Int) then ((head_digits.f (rdOf ByteArray.empty t143 2)).bind fun bt147 => (if 0 < (t143.length : Int) then (if 1 < (t143.length : Int) then (if bt147.2.2 = true then (if (rdOf ByteArray.empty t143 0).toList = ([] : List UInt8) then (head_first.j0 k bt147.1 bt147.2.1 (rdOf ByteArray.empty t143 0) (rdOf ByteArray.empty t143 1) true) else ((chars_All_chars_Token_126.f k (rdOf ByteArray.empty t143 0)).bind fun t152 => (if t152 = true then ((strings_HasPrefix.f (rdOf ByteArray.empty t143 1) (⟨#[47]⟩ : ByteArray)).bind fun t153 => (if t153 = true then ((chars_All_chars_Visible_128.f k (rdOf ByteArray.empty t143 1)).bind fun t154 => (head_first.j0 k bt147.1 bt147.2.1 (rdOf ByteArray.empty t143 0) (rdOf ByteArray.empty t143 1) (!t154))) else (head_first.j0 k bt147.1 bt147.2.1 (rdOf ByteArray.empty t143 0) (rdOf ByteArray.empty t143 1) true))) else (head_first.j0 k bt147.1 bt147.2.1 (rdOf ByteArray.empty t143 0) (rdOf ByteArray.empty t143 1) true)))) else (head_first.j0 k bt147.1 bt147.2.1 (rdOf ByteArray.empty t143 0) (rdOf ByteArray.empty t143 1) true)) else (none)) else (none))) else (none)) else (none))
theorem head_first.mono_l : ∀ k, (∀ y0 y1 y2 y3 y4, LeO (head_first.j0 k y0 y1 y2 y3 y4) (head_first.j0 (k + 1) y0 y1 y2 y3 y4)) ∧ (∀ y0 y1 y2 y3 y4, LeO (head_first.j1 k y0 y1 y2 y3 y4) (head_first.j1 (k + 1) y0 y1 y2 y3 y4))
  | 0 => ⟨fun _ _ _ _ _ r h => by simp [head_first.j0] at h, fun _ _ _ _ _ r h => by simp [head_first.j1] at h⟩
  | k + 1 => by
    obtain ⟨ih0, ih1⟩ := head_first.mono_l k
    refine ⟨?_, ?_⟩
    · intro y0 y1 y2 y3 y4
      unfold head_first.j0
      repeat' first
      | (with_reducible exact ih0 _ _ _ _ _)
      | (with_reducible exact ih1 _ _ _ _ _)
      | (with_reducible exact chars_All_chars_Token_126.mono _ _)
      | (with_reducible exact chars_All_chars_Visible_128.mono _ _)
      | (with_reducible exact LeO.refl _)
      | (with_reducible exact LeO.none _)
      | (with_reducible refine LeO.ite ?_ ?_)
      | (with_reducible refine LeO.bind ?_ (fun _ => ?_))
      | exact ih0 _ _ _ _ _
      | exact ih1 _ _ _ _ _
      | exact chars_All_chars_Token_126.mono _ _
      | exact chars_All_chars_Visible_128.mono _ _
      | exact LeO.none _
      | refine LeO.ite ?_ ?_
      | refine LeO.bind ?_ (fun _ => ?_)
    · intro y0 y1 y2 y3 y4
      unfold head_first.j1
      repeat' first
      | (with_reducible exact ih0 _ _ _ _ _)
      | (with_reducible exact ih1 _ _ _ _ _)
      | (with_reducible exact chars_All_chars_Token_126.mono _ _)
      | (with_reducible exact chars_All_chars_Visible_128.mono _ _)
      | (with_reducible exact LeO.refl _)
      | (with_reducible exact LeO.none _)
      | (with_reducible refine LeO.ite ?_ ?_)
      | (with_reducible refine LeO.bind ?_ (fun _ => ?_))
      | exact ih0 _ _ _ _ _
      | exact ih1 _ _ _ _ _
      | exact chars_All_chars_Token_126.mono _ _
      | exact chars_All_chars_Visible_128.mono _ _
      | exact LeO.none _
      | refine LeO.ite ?_ ?_
      | refine LeO.bind ?_ (fun _ => ?_)
theorem head_first.mono : ∀ a0 k, LeO (head_first.f k a0) (head_first.f (k + 1) a0) := by
  intro a0 k
  obtain ⟨ih0, ih1⟩ := head_first.mono_l k
  unfold head_first.f
  repeat' first
      | (with_reducible exact ih0 _ _ _ _ _)
      | (with_reducible exact ih1 _ _ _ _ _)
      | (with_reducible exact chars_All_chars_Token_126.mono _ _)
      | (with_reducible exact chars_All_chars_Visible_128.mono _ _)
      | (with_reducible exact LeO.refl _)
      | (with_reducible exact LeO.none _)
      | (with_reducible refine LeO.ite ?_ ?_)
      | (with_reducible refine LeO.bind ?_ (fun _ => ?_))
      | exact ih0 _ _ _ _ _
      | exact ih1 _ _ _ _ _
      | exact chars_All_chars_Token_126.mono _ _
      | exact chars_All_chars_Visible_128.mono _ _
      | exact LeO.none _
      | refine LeO.ite ?_ ?_
      | refine LeO.bind ?_ (fun _ => ?_)
set_option maxHeartbeats 8000000 in
set_option maxRecDepth 100000 in
theorem head_first.calls (k : Nat) (a0 : ByteArray) (r1 : ByteArray) (r2 : ByteArray) (r3 : Int) (r4 : List (S28)) (r5 : Option Int) (w : World) (h : head_first.f k a0 = some (r1, r2, r3, r4, r5)) :
    Calls Tryz.prog 47 #[.string a0] w fun e w' => ∃ v3_ : Value, e = .returned (.tuple #[.agg #[.string r1, .string r2, .int .i64 r3, v3_], errW r5]) ∧ Kd.R k28 28 w' w.heap.size (fun _ => True) v3_ r4 ∧ Below w.heap.size w w' := by
  have hu45 := Tryz.underlying45
  have hu53 := Tryz.underlying53
  have hu75 := Tryz.underlying75
  have HB := Aside0.mk (Below.refl w.heap.size w)
  have H : ((strings_Split.f a0 (⟨#[32]⟩ : ByteArray)).bind fun t143 => (if (t143.length : Int) = 3 then (if 2 < (t143.length : Int) then ((head_digits.f (rdOf ByteArray.empty t143 2)).bind fun bt147 => (if 0 < (t143.length : Int) then (if 1 < (t143.length : Int) then (if bt147.2.2 = true then (if (rdOf ByteArray.empty t143 0).toList = ([] : List UInt8) then (head_first.j0 k bt147.1 bt147.2.1 (rdOf ByteArray.empty t143 0) (rdOf ByteArray.empty t143 1) true) else ((chars_All_chars_Token_126.f k (rdOf ByteArray.empty t143 0)).bind fun t152 => (if t152 = true then ((strings_HasPrefix.f (rdOf ByteArray.empty t143 1) (⟨#[47]⟩ : ByteArray)).bind fun t153 => (if t153 = true then ((chars_All_chars_Visible_128.f k (rdOf ByteArray.empty t143 1)).bind fun t154 => (head_first.j0 k bt147.1 bt147.2.1 (rdOf ByteArray.empty t143 0) (rdOf ByteArray.empty t143 1) (!t154))) else (head_first.j0 k bt147.1 bt147.2.1 (rdOf ByteArray.empty t143 0) (rdOf ByteArray.empty t143 1) true))) else (head_first.j0 k bt147.1 bt147.2.1 (rdOf ByteArray.empty t143 0) (rdOf ByteArray.empty t143 1) true)))) else (head_first.j0 k bt147.1 bt147.2.1 (rdOf ByteArray.empty t143 0) (rdOf ByteArray.empty t143 1) true)) else (none)) else (none))) else (none)) else (none))) = some (r1, r2, r3, r4, r5) := h
  clear h
  replace H := Option.bind_eq_some_iff.mp H
  obtain ⟨t143, A20, H⟩ := H
  replace H : (if (t143.length : Int) = 3 then (if 2 < (t143.length : Int) then ((head_digits.f (rdOf ByteArray.empty t143 2)).bind fun bt147 => (if 0 < (t143.length : Int) then (if 1 < (t143.length : Int) then (if bt147.2.2 = true then (if (rdOf ByteArray.empty t143 0).toList = ([] : List UInt8) then (head_first.j0 k bt147.1 bt147.2.1 (rdOf ByteArray.empty t143 0) (rdOf ByteArray.empty t143 1) true) else ((chars_All_chars_Token_126.f k (rdOf ByteArray.empty t143 0)).bind fun t152 => (if t152 = true then ((strings_HasPrefix.f (rdOf ByteArray.empty t143 1) (⟨#[47]⟩ : ByteArray)).bind fun t153 => (if t153 = true then ((chars_All_chars_Visible_128.f k (rdOf ByteArray.empty t143 1)).bind fun t154 => (head_first.j0 k bt147.1 bt147.2.1 (rdOf ByteArray.empty t143 0) (rdOf ByteArray.empty t143 1) (!t154))) else (head_first.j0 k bt147.1 bt147.2.1 (rdOf ByteArray.empty t143 0) (rdOf ByteArray.empty t143 1) true))) else (head_first.j0 k bt147.1 bt147.2.1 (rdOf ByteArray.empty t143 0) (rdOf ByteArray.empty t143 1) true)))) else (head_first.j0 k bt147.1 bt147.2.1 (rdOf ByteArray.empty t143 0) (rdOf ByteArray.empty t143 1) true)) else (none)) else (none))) else (none)) else (none)) = some (r1, r2, r3, r4, r5) := H
  have A2 := Aside0.mk A20
  clear A20
  by_cases c3 : (t143.length : Int) = 3
  · rw [if_pos c3] at H
    have c3b0 : ((t143.length : Int) == 3) = true := beq_iff_eq.mpr c3
    have c3b1 : ((t143.length : Int) != 3) = false := bne_eq_false_iff_eq.mpr c3
    clear c3
    by_cases c4 : 2 < (t143.length : Int)
    · rw [if_pos c4] at H
      have c4b0 : decide (2 < (t143.length : Int)) = true := decide_eq_true c4
      have c4b1 : decide (2 < t143.length) = true := decide_eq_true (by omega)
      clear c4
      replace H := Option.bind_eq_some_iff.mp H
      obtain ⟨⟨t147, t148, t149⟩, A50, H⟩ := H
      replace H : (if 0 < (t143.length : Int) then (if 1 < (t143.length : Int) then (if t149 = true then (if (rdOf ByteArray.empty t143 0).toList = ([] : List UInt8) then (head_first.j0 k t147 t148 (rdOf ByteArray.empty t143 0) (rdOf ByteArray.empty t143 1) true) else ((chars_All_chars_Token_126.f k (rdOf ByteArray.empty t143 0)).bind fun t152 => (if t152 = true then ((strings_HasPrefix.f (rdOf ByteArray.empty t143 1) (⟨#[47]⟩ : ByteArray)).bind fun t153 => (if t153 = true then ((chars_All_chars_Visible_128.f k (rdOf ByteArray.empty t143 1)).bind fun t154 => (head_first.j0 k t147 t148 (rdOf ByteArray.empty t143 0) (rdOf ByteArray.empty t143 1) (!t154))) else (head_first.j0 k t147 t148 (rdOf ByteArray.empty t143 0) (rdOf ByteArray.empty t143 1) true))) else (head_first.j0 k t147 t148 (rdOf ByteArray.empty t143 0) (rdOf ByteArray.empty t143 1) true)))) else (head_first.j0 k t147 t148 (rdOf ByteArray.empty t143 0) (rdOf ByteArray.empty t143 1) true)) else (none)) else (none)) = some (r1, r2, r3, r4, r5) := H
      have A5 := Aside0.mk A50
      clear A50
      by_cases c6 : 0 < (t143.length : Int)
      · rw [if_pos c6] at H
        have c6b0 : decide (0 < (t143.length : Int)) = true := decide_eq_true c6
        have c6b1 : decide (0 < t143.length) = true := decide_eq_true (by omega)
        clear c6
        by_cases c7 : 1 < (t143.length : Int)
        · rw [if_pos c7] at H
          have c7b0 : decide (1 < (t143.length : Int)) = true := decide_eq_true c7
          have c7b1 : decide (1 < t143.length) = true := decide_eq_true (by omega)
          clear c7
          have HC8 := Aside0.mk H
          clear H
          go_enter Tryz.func47, Tryz.ntmps47
          go_upto_region 6 with (first | ((with_reducible refine gate_dst (N := 2) rfl ?_); refine box_event ?hg (N := 2) ?hd (cs := #[.string (⟨#[]⟩ : ByteArray), .string (⟨#[]⟩ : ByteArray), .int .i64 0, .slice none 0 0]) (t := 45) ?hr ?_; (case hd => rfl); (case hg => rfl); (case hr => first | (go_simp; done) | (go_simp; rfl)); intro gb142 hg w9 hbox hb; have n0_ := Aside0.mk (below_step (by repeat (first | (with_reducible first | exact HB.out | apply below_alloc | apply pw_below_drewN | apply below_drew1) | exact HB.out)) hb); have n1_ := Aside0.mk (hbox); have n2_ := Aside0.mk ((by rw [hg]; exact (below_size (by repeat (first | (with_reducible first | exact HB.out | apply below_alloc | apply pw_below_drewN | apply below_drew1) | exact HB.out))) : w.heap.size ≤ gb142)); have n3_ := Aside0.mk ((by rw [hg]; exact (below_size (by repeat (first | (with_reducible first | exact HB.out | apply below_alloc | apply pw_below_drewN | apply below_drew1) | exact HB.out))) : w.heap.size ≤ gb142)); clear HB; have HB := n0_; have BK142 := n1_; have GW142 := n2_; have GE142 := n3_; clear n0_ n1_ n2_ n3_; clear hb hbox hg) | (go_at_call 59; (with_reducible refine (strings_Split.calls a0 (⟨#[32]⟩ : ByteArray) t143 _ A2.out (.inl (gsz1 _))).mono ?_); rintro e w10 ⟨v144, rfl, ho0, hb⟩; have n0_ := Aside0.mk (Kd.R_lower ho0 (below_size (by repeat (first | (with_reducible first | exact HB.out | apply below_alloc | apply pw_below_drewN | apply below_drew1 | refine below_set ?_ GE142.out) | exact HB.out)))); have n1_ := Aside0.mk (blk_below (g := gb142) (o := .cells #[.string (⟨#[]⟩ : ByteArray), .string (⟨#[]⟩ : ByteArray), .int .i64 0, .slice none 0 0] 45 (0, 0)) (by (with_reducible repeat (first | refine blk_drewN ?_ _ | refine blk_drew ?_ | refine blk_alloc ?_ _)); exact BK142.out) hb); have n2_ := Aside0.mk (below_step (by repeat (first | (with_reducible first | exact HB.out | apply below_alloc | apply pw_below_drewN | apply below_drew1 | refine below_set ?_ GE142.out) | exact HB.out)) hb); clear BK142; clear HB; have HO145 := n0_; have BK142 := n1_; have HB := n2_; clear n0_ n1_ n2_; (try clear hb); (try clear hb2); (try clear hk); (try clear hi); (try clear ho0); obtain ⟨Ao11, co11, eo11⟩ := Kd.R_slice HO145.out; subst eo11; have p146 : 0 ≤ (2 : Int) := (by omega); have q146 : 2 < (t143.length : Int) := of_decide_eq_true (by first | (with_reducible assumption) | assumption); obtain ⟨ad146, e146, hx146_0⟩ := Kd.at_string (Kd.R_reads' HO145.out).2.2 2 p146 q146; cases e146; (try simp only [show (2 : Int).toNat = 2 from rfl, Nat.reduceMul, Nat.reduceEqDiff, Go.Addr.add, ↓reduceIte] at hx146_0); have qi146 : (2 < t143.length) = True := eq_true (by omega); (try rw [show ((2 : Int)).toNat = 2 from rfl] at hx146_0); replace p146 := eq_true p146; replace q146 := eq_true q146) | (go_at_call 60; (with_reducible refine (head_digits.calls (rdOf ByteArray.empty t143 2) t147 t148 t149 _ A5.out).mono ?_); rintro e w' ⟨rfl, ⟨nd, rfl⟩⟩; (try first | exact ⟨rfl, _, World.drewN_drewN _ _ _⟩ | exact ⟨rfl, _, Eq.trans (World.drewN_drewN _ _ _) (congrArg (World.drewN _) (Nat.add_assoc _ _ _))⟩); have p150 : 0 ≤ (0 : Int) := (by omega); have q150 : 0 < (t143.length : Int) := of_decide_eq_true (by first | (with_reducible assumption) | assumption); obtain ⟨ad150, e150, hx150_0⟩ := Kd.at_string (Kd.R_reads' HO145.out).2.2 0 p150 q150; obtain rfl : ad146 = ad150 := (by injection e150); have qi150 : (0 < t143.length) = True := eq_true (by omega); (try rw [show ((0 : Int)).toNat = 0 from rfl] at hx150_0); (try rw [Addr.add_zero'] at hx150_0); replace p150 := eq_true p150; replace q150 := eq_true q150; have p151 : 0 ≤ (1 : Int) := (by omega); have q151 : 1 < (t143.length : Int) := of_decide_eq_true (by first | (with_reducible assumption) | assumption); obtain ⟨ad151, e151, hx151_0⟩ := Kd.at_string (Kd.R_reads' HO145.out).2.2 1 p151 q151; obtain rfl : ad146 = ad151 := (by injection e151); (try simp only [show (1 : Int).toNat = 1 from rfl, Nat.reduceMul, Nat.reduceEqDiff, Go.Addr.add, ↓reduceIte] at hx151_0); have qi151 : (1 < t143.length) = True := eq_true (by omega); (try rw [show ((1 : Int)).toNat = 1 from rfl] at hx151_0); replace p151 := eq_true p151; replace q151 := eq_true q151))
          repeat (go_quiet (first | ((with_reducible refine gate_dst (N := 2) rfl ?_); refine box_event ?hg (N := 2) ?hd (cs := #[.string (⟨#[]⟩ : ByteArray), .string (⟨#[]⟩ : ByteArray), .int .i64 0, .slice none 0 0]) (t := 45) ?hr ?_; (case hd => rfl); (case hg => rfl); (case hr => first | (go_simp; done) | (go_simp; rfl)); intro gb142 hg w9 hbox hb; have n0_ := Aside0.mk (below_step (by repeat (first | (with_reducible first | exact HB.out | apply below_alloc | apply pw_below_drewN | apply below_drew1) | exact HB.out)) hb); have n1_ := Aside0.mk (hbox); have n2_ := Aside0.mk ((by rw [hg]; exact (below_size (by repeat (first | (with_reducible first | exact HB.out | apply below_alloc | apply pw_below_drewN | apply below_drew1) | exact HB.out))) : w.heap.size ≤ gb142)); have n3_ := Aside0.mk ((by rw [hg]; exact (below_size (by repeat (first | (with_reducible first | exact HB.out | apply below_alloc | apply pw_below_drewN | apply below_drew1) | exact HB.out))) : w.heap.size ≤ gb142)); clear HB; have HB := n0_; have BK142 := n1_; have GW142 := n2_; have GE142 := n3_; clear n0_ n1_ n2_ n3_; clear hb hbox hg) | (go_at_call 59; (with_reducible refine (strings_Split.calls a0 (⟨#[32]⟩ : ByteArray) t143 _ A2.out (.inl (gsz1 _))).mono ?_); rintro e w10 ⟨v144, rfl, ho0, hb⟩; have n0_ := Aside0.mk (Kd.R_lower ho0 (below_size (by repeat (first | (with_reducible first | exact HB.out | apply below_alloc | apply pw_below_drewN | apply below_drew1 | refine below_set ?_ GE142.out) | exact HB.out)))); have n1_ := Aside0.mk (blk_below (g := gb142) (o := .cells #[.string (⟨#[]⟩ : ByteArray), .string (⟨#[]⟩ : ByteArray), .int .i64 0, .slice none 0 0] 45 (0, 0)) (by (with_reducible repeat (first | refine blk_drewN ?_ _ | refine blk_drew ?_ | refine blk_alloc ?_ _)); exact BK142.out) hb); have n2_ := Aside0.mk (below_step (by repeat (first | (with_reducible first | exact HB.out | apply below_alloc | apply pw_below_drewN | apply below_drew1 | refine below_set ?_ GE142.out) | exact HB.out)) hb); clear BK142; clear HB; have HO145 := n0_; have BK142 := n1_; have HB := n2_; clear n0_ n1_ n2_; (try clear hb); (try clear hb2); (try clear hk); (try clear hi); (try clear ho0); obtain ⟨Ao11, co11, eo11⟩ := Kd.R_slice HO145.out; subst eo11; have p146 : 0 ≤ (2 : Int) := (by omega); have q146 : 2 < (t143.length : Int) := of_decide_eq_true (by first | (with_reducible assumption) | assumption); obtain ⟨ad146, e146, hx146_0⟩ := Kd.at_string (Kd.R_reads' HO145.out).2.2 2 p146 q146; cases e146; (try simp only [show (2 : Int).toNat = 2 from rfl, Nat.reduceMul, Nat.reduceEqDiff, Go.Addr.add, ↓reduceIte] at hx146_0); have qi146 : (2 < t143.length) = True := eq_true (by omega); (try rw [show ((2 : Int)).toNat = 2 from rfl] at hx146_0); replace p146 := eq_true p146; replace q146 := eq_true q146) | (go_at_call 60; (with_reducible refine (head_digits.calls (rdOf ByteArray.empty t143 2) t147 t148 t149 _ A5.out).mono ?_); rintro e w' ⟨rfl, ⟨nd, rfl⟩⟩; (try first | exact ⟨rfl, _, World.drewN_drewN _ _ _⟩ | exact ⟨rfl, _, Eq.trans (World.drewN_drewN _ _ _) (congrArg (World.drewN _) (Nat.add_assoc _ _ _))⟩); have p150 : 0 ≤ (0 : Int) := (by omega); have q150 : 0 < (t143.length : Int) := of_decide_eq_true (by first | (with_reducible assumption) | assumption); obtain ⟨ad150, e150, hx150_0⟩ := Kd.at_string (Kd.R_reads' HO145.out).2.2 0 p150 q150; obtain rfl : ad146 = ad150 := (by injection e150); have qi150 : (0 < t143.length) = True := eq_true (by omega); (try rw [show ((0 : Int)).toNat = 0 from rfl] at hx150_0); (try rw [Addr.add_zero'] at hx150_0); replace p150 := eq_true p150; replace q150 := eq_true q150; have p151 : 0 ≤ (1 : Int) := (by omega); have q151 : 1 < (t143.length : Int) := of_decide_eq_true (by first | (with_reducible assumption) | assumption); obtain ⟨ad151, e151, hx151_0⟩ := Kd.at_string (Kd.R_reads' HO145.out).2.2 1 p151 q151; obtain rfl : ad146 = ad151 := (by injection e151); (try simp only [show (1 : Int).toNat = 1 from rfl, Nat.reduceMul, Nat.reduceEqDiff, Go.Addr.add, ↓reduceIte] at hx151_0); have qi151 : (1 < t143.length) = True := eq_true (by omega); (try rw [show ((1 : Int)).toNat = 1 from rfl] at hx151_0); replace p151 := eq_true p151; replace q151 := eq_true q151)); go_upto_region 6 with (first | ((with_reducible refine gate_dst (N := 2) rfl ?_); refine box_event ?hg (N := 2) ?hd (cs := #[.string (⟨#[]⟩ : ByteArray), .string (⟨#[]⟩ : ByteArray), .int .i64 0, .slice none 0 0]) (t := 45) ?hr ?_; (case hd => rfl); (case hg => rfl); (case hr => first | (go_simp; done) | (go_simp; rfl)); intro gb142 hg w9 hbox hb; have n0_ := Aside0.mk (below_step (by repeat (first | (with_reducible first | exact HB.out | apply below_alloc | apply pw_below_drewN | apply below_drew1) | exact HB.out)) hb); have n1_ := Aside0.mk (hbox); have n2_ := Aside0.mk ((by rw [hg]; exact (below_size (by repeat (first | (with_reducible first | exact HB.out | apply below_alloc | apply pw_below_drewN | apply below_drew1) | exact HB.out))) : w.heap.size ≤ gb142)); have n3_ := Aside0.mk ((by rw [hg]; exact (below_size (by repeat (first | (with_reducible first | exact HB.out | apply below_alloc | apply pw_below_drewN | apply below_drew1) | exact HB.out))) : w.heap.size ≤ gb142)); clear HB; have HB := n0_; have BK142 := n1_; have GW142 := n2_; have GE142 := n3_; clear n0_ n1_ n2_ n3_; clear hb hbox hg) | (go_at_call 59; (with_reducible refine (strings_Split.calls a0 (⟨#[32]⟩ : ByteArray) t143 _ A2.out (.inl (gsz1 _))).mono ?_); rintro e w10 ⟨v144, rfl, ho0, hb⟩; have n0_ := Aside0.mk (Kd.R_lower ho0 (below_size (by repeat (first | (with_reducible first | exact HB.out | apply below_alloc | apply pw_below_drewN | apply below_drew1 | refine below_set ?_ GE142.out) | exact HB.out)))); have n1_ := Aside0.mk (blk_below (g := gb142) (o := .cells #[.string (⟨#[]⟩ : ByteArray), .string (⟨#[]⟩ : ByteArray), .int .i64 0, .slice none 0 0] 45 (0, 0)) (by (with_reducible repeat (first | refine blk_drewN ?_ _ | refine blk_drew ?_ | refine blk_alloc ?_ _)); exact BK142.out) hb); have n2_ := Aside0.mk (below_step (by repeat (first | (with_reducible first | exact HB.out | apply below_alloc | apply pw_below_drewN | apply below_drew1 | refine below_set ?_ GE142.out) | exact HB.out)) hb); clear BK142; clear HB; have HO145 := n0_; have BK142 := n1_; have HB := n2_; clear n0_ n1_ n2_; (try clear hb); (try clear hb2); (try clear hk); (try clear hi); (try clear ho0); obtain ⟨Ao11, co11, eo11⟩ := Kd.R_slice HO145.out; subst eo11; have p146 : 0 ≤ (2 : Int) := (by omega); have q146 : 2 < (t143.length : Int) := of_decide_eq_true (by first | (with_reducible assumption) | assumption); obtain ⟨ad146, e146, hx146_0⟩ := Kd.at_string (Kd.R_reads' HO145.out).2.2 2 p146 q146; cases e146; (try simp only [show (2 : Int).toNat = 2 from rfl, Nat.reduceMul, Nat.reduceEqDiff, Go.Addr.add, ↓reduceIte] at hx146_0); have qi146 : (2 < t143.length) = True := eq_true (by omega); (try rw [show ((2 : Int)).toNat = 2 from rfl] at hx146_0); replace p146 := eq_true p146; replace q146 := eq_true q146) | (go_at_call 60; (with_reducible refine (head_digits.calls (rdOf ByteArray.empty t143 2) t147 t148 t149 _ A5.out).mono ?_); rintro e w' ⟨rfl, ⟨nd, rfl⟩⟩; (try first | exact ⟨rfl, _, World.drewN_drewN _ _ _⟩ | exact ⟨rfl, _, Eq.trans (World.drewN_drewN _ _ _) (congrArg (World.drewN _) (Nat.add_assoc _ _ _))⟩); have p150 : 0 ≤ (0 : Int) := (by omega); have q150 : 0 < (t143.length : Int) := of_decide_eq_true (by first | (with_reducible assumption) | assumption); obtain ⟨ad150, e150, hx150_0⟩ := Kd.at_string (Kd.R_reads' HO145.out).2.2 0 p150 q150; obtain rfl : ad146 = ad150 := (by injection e150); have qi150 : (0 < t143.length) = True := eq_true (by omega); (try rw [show ((0 : Int)).toNat = 0 from rfl] at hx150_0); (try rw [Addr.add_zero'] at hx150_0); replace p150 := eq_true p150; replace q150 := eq_true q150; have p151 : 0 ≤ (1 : Int) := (by omega); have q151 : 1 < (t143.length : Int) := of_decide_eq_true (by first | (with_reducible assumption) | assumption); obtain ⟨ad151, e151, hx151_0⟩ := Kd.at_string (Kd.R_reads' HO145.out).2.2 1 p151 q151; obtain rfl : ad146 = ad151 := (by injection e151); (try simp only [show (1 : Int).toNat = 1 from rfl, Nat.reduceMul, Nat.reduceEqDiff, Go.Addr.add, ↓reduceIte] at hx151_0); have qi151 : (1 < t143.length) = True := eq_true (by omega); (try rw [show ((1 : Int)).toNat = 1 from rfl] at hx151_0); replace p151 := eq_true p151; replace q151 := eq_true q151)))
          (try simp only [Act.put, List.setIfInBounds_toArray, List.set_cons_zero, List.set_cons_succ])
          go_cut [35] (fun v35 wc => ∃ (kq : Nat) (x35_7 : Bool), v35 = .bool x35_7 ∧ Aside0 (head_first.j0 kq t147 t148 (rdOf ByteArray.empty t143 0) (rdOf ByteArray.empty t143 1) x35_7 = some (r1, r2, r3, r4, r5)) ∧ Aside0 (kq ≤ k) ∧ Aside0 (wc.heap[gb142]? = some (.cells #[.string (⟨#[]⟩ : ByteArray), .string (⟨#[]⟩ : ByteArray), .int .i64 0, (.slice none 0 0)] 45 (0, 0))) ∧ Aside0 (Below w.heap.size w wc))
          case first =>
            have H := HC8.out
            clear HC8
            by_cases c12 : t149 = true
            · subst c12
              have H1 : (if (rdOf ByteArray.empty t143 0).toList = ([] : List UInt8) then (head_first.j0 k t147 t148 (rdOf ByteArray.empty t143 0) (rdOf ByteArray.empty t143 1) true) else ((chars_All_chars_Token_126.f k (rdOf ByteArray.empty t143 0)).bind fun t152 => (if t152 = true then ((strings_HasPrefix.f (rdOf ByteArray.empty t143 1) (⟨#[47]⟩ : ByteArray)).bind fun t153 => (if t153 = true then ((chars_All_chars_Visible_128.f k (rdOf ByteArray.empty t143 1)).bind fun t154 => (head_first.j0 k t147 t148 (rdOf ByteArray.empty t143 0) (rdOf ByteArray.empty t143 1) (!t154))) else (head_first.j0 k t147 t148 (rdOf ByteArray.empty t143 0) (rdOf ByteArray.empty t143 1) true))) else (head_first.j0 k t147 t148 (rdOf ByteArray.empty t143 0) (rdOf ByteArray.empty t143 1) true)))) = some (r1, r2, r3, r4, r5) := by rw [if_pos rfl] at H; exact H
              clear H
              have H := H1
              clear H1
              by_cases c13 : (rdOf ByteArray.empty t143 0).toList = ([] : List UInt8)
              · rw [if_pos c13] at H
                have c13b0 : ((rdOf ByteArray.empty t143 0).toList == ([] : List UInt8)) = true := beq_iff_eq.mpr c13
                have c13b1 : ((rdOf ByteArray.empty t143 0).toList != ([] : List UInt8)) = false := bne_eq_false_iff_eq.mpr c13
                clear c13
                (first | rw [c13b0] | (simp only [i64_w, i32_w]; rw [c13b0]) | skip)
                have H' := Aside0.mk H
                clear H
                go_wp2
                repeat (go_quiet (fail); try go_wp2)
                go_meet
                case rel => exact ⟨_, (true), (by first | rfl | (simp; done) | (simp [*]; done) | (simp only [i64_w, i32_w]; done) | (simp [i64_w, i32_w, *]; done) | (simp [gp_ne]; done) | (simp [gp_ne, i64_w, i32_w, *]; done) | (simp [i64_w, i32_w]; (try unfold wrap64); (try unfold wrap32); omega)), H', ⟨by first | omega | exact Nat.le_refl _⟩, ⟨by (with_reducible repeat (first | refine blk_drewN ?_ _ | refine blk_drew ?_ | refine blk_alloc ?_ _)); exact BK142.out⟩, ⟨by repeat (first | (with_reducible first | exact HB.out | apply below_alloc | apply pw_below_drewN | apply below_drew1 | refine below_set ?_ GE142.out) | exact HB.out)⟩⟩
              · rw [if_neg c13] at H
                have c13b0 : ((rdOf ByteArray.empty t143 0).toList == ([] : List UInt8)) = false := beq_eq_false_iff_ne.mpr c13
                have c13b1 : ((rdOf ByteArray.empty t143 0).toList != ([] : List UInt8)) = true := bne_iff_ne.mpr c13
                (first | rw [c13b0] | (simp only [i64_w, i32_w]; rw [c13b0]) | skip)
                replace H := Option.bind_eq_some_iff.mp H
                obtain ⟨t152, A140, H⟩ := H
                replace H : (if t152 = true then ((strings_HasPrefix.f (rdOf ByteArray.empty t143 1) (⟨#[47]⟩ : ByteArray)).bind fun t153 => (if t153 = true then ((chars_All_chars_Visible_128.f k (rdOf ByteArray.empty t143 1)).bind fun t154 => (head_first.j0 k t147 t148 (rdOf ByteArray.empty t143 0) (rdOf ByteArray.empty t143 1) (!t154))) else (head_first.j0 k t147 t148 (rdOf ByteArray.empty t143 0) (rdOf ByteArray.empty t143 1) true))) else (head_first.j0 k t147 t148 (rdOf ByteArray.empty t143 0) (rdOf ByteArray.empty t143 1) true)) = some (r1, r2, r3, r4, r5) := H
                have A14 := Aside0.mk A140
                clear A140
                by_cases c15 : t152 = true
                · subst c15
                  have H1 : ((strings_HasPrefix.f (rdOf ByteArray.empty t143 1) (⟨#[47]⟩ : ByteArray)).bind fun t153 => (if t153 = true then ((chars_All_chars_Visible_128.f k (rdOf ByteArray.empty t143 1)).bind fun t154 => (head_first.j0 k t147 t148 (rdOf ByteArray.empty t143 0) (rdOf ByteArray.empty t143 1) (!t154))) else (head_first.j0 k t147 t148 (rdOf ByteArray.empty t143 0) (rdOf ByteArray.empty t143 1) true))) = some (r1, r2, r3, r4, r5) := by rw [if_pos rfl] at H; exact H
                  clear H
                  have H := H1
                  clear H1
                  replace H := Option.bind_eq_some_iff.mp H
                  obtain ⟨t153, A160, H⟩ := H
                  replace H : (if t153 = true then ((chars_All_chars_Visible_128.f k (rdOf ByteArray.empty t143 1)).bind fun t154 => (head_first.j0 k t147 t148 (rdOf ByteArray.empty t143 0) (rdOf ByteArray.empty t143 1) (!t154))) else (head_first.j0 k t147 t148 (rdOf ByteArray.empty t143 0) (rdOf ByteArray.empty t143 1) true)) = some (r1, r2, r3, r4, r5) := H
                  have A16 := Aside0.mk A160
                  clear A160
                  by_cases c17 : t153 = true
                  · subst c17
                    have H1 : ((chars_All_chars_Visible_128.f k (rdOf ByteArray.empty t143 1)).bind fun t154 => (head_first.j0 k t147 t148 (rdOf ByteArray.empty t143 0) (rdOf ByteArray.empty t143 1) (!t154))) = some (r1, r2, r3, r4, r5) := by rw [if_pos rfl] at H; exact H
                    clear H
                    have H := H1
                    clear H1
                    replace H := Option.bind_eq_some_iff.mp H
                    obtain ⟨t154, A180, H⟩ := H
                    replace H : (head_first.j0 k t147 t148 (rdOf ByteArray.empty t143 0) (rdOf ByteArray.empty t143 1) (!t154)) = some (r1, r2, r3, r4, r5) := H
                    have A18 := Aside0.mk A180
                    clear A180
                    have H' := Aside0.mk H
                    clear H
                    go_wp2_with (first | (go_at_call 13; (with_reducible refine (chars_All_chars_Token_126.calls k (rdOf ByteArray.empty t143 0)  true _ A14.out).mono ?_); rintro e w' ⟨rfl, ⟨nd, rfl⟩⟩; (try first | exact ⟨rfl, _, World.drewN_drewN _ _ _⟩ | exact ⟨rfl, _, Eq.trans (World.drewN_drewN _ _ _) (congrArg (World.drewN _) (Nat.add_assoc _ _ _))⟩)) | (go_at_call 61; (with_reducible refine (strings_HasPrefix.calls (rdOf ByteArray.empty t143 1) (⟨#[47]⟩ : ByteArray) true _ A16.out).mono ?_); rintro e w' ⟨rfl, ⟨nd, rfl⟩⟩; (try first | exact ⟨rfl, _, World.drewN_drewN _ _ _⟩ | exact ⟨rfl, _, Eq.trans (World.drewN_drewN _ _ _) (congrArg (World.drewN _) (Nat.add_assoc _ _ _))⟩)) | (go_at_call 13; (with_reducible refine (chars_All_chars_Visible_128.calls k (rdOf ByteArray.empty t143 1)  t154 _ A18.out).mono ?_); rintro e w' ⟨rfl, ⟨nd, rfl⟩⟩; (try first | exact ⟨rfl, _, World.drewN_drewN _ _ _⟩ | exact ⟨rfl, _, Eq.trans (World.drewN_drewN _ _ _) (congrArg (World.drewN _) (Nat.add_assoc _ _ _))⟩)))
                    repeat (go_quiet (first | (go_at_call 13; (with_reducible refine (chars_All_chars_Token_126.calls k (rdOf ByteArray.empty t143 0)  true _ A14.out).mono ?_); rintro e w' ⟨rfl, ⟨nd, rfl⟩⟩; (try first | exact ⟨rfl, _, World.drewN_drewN _ _ _⟩ | exact ⟨rfl, _, Eq.trans (World.drewN_drewN _ _ _) (congrArg (World.drewN _) (Nat.add_assoc _ _ _))⟩)) | (go_at_call 61; (with_reducible refine (strings_HasPrefix.calls (rdOf ByteArray.empty t143 1) (⟨#[47]⟩ : ByteArray) true _ A16.out).mono ?_); rintro e w' ⟨rfl, ⟨nd, rfl⟩⟩; (try first | exact ⟨rfl, _, World.drewN_drewN _ _ _⟩ | exact ⟨rfl, _, Eq.trans (World.drewN_drewN _ _ _) (congrArg (World.drewN _) (Nat.add_assoc _ _ _))⟩)) | (go_at_call 13; (with_reducible refine (chars_All_chars_Visible_128.calls k (rdOf ByteArray.empty t143 1)  t154 _ A18.out).mono ?_); rintro e w' ⟨rfl, ⟨nd, rfl⟩⟩; (try first | exact ⟨rfl, _, World.drewN_drewN _ _ _⟩ | exact ⟨rfl, _, Eq.trans (World.drewN_drewN _ _ _) (congrArg (World.drewN _) (Nat.add_assoc _ _ _))⟩))); try go_wp2_with (first | (go_at_call 13; (with_reducible refine (chars_All_chars_Token_126.calls k (rdOf ByteArray.empty t143 0)  true _ A14.out).mono ?_); rintro e w' ⟨rfl, ⟨nd, rfl⟩⟩; (try first | exact ⟨rfl, _, World.drewN_drewN _ _ _⟩ | exact ⟨rfl, _, Eq.trans (World.drewN_drewN _ _ _) (congrArg (World.drewN _) (Nat.add_assoc _ _ _))⟩)) | (go_at_call 61; (with_reducible refine (strings_HasPrefix.calls (rdOf ByteArray.empty t143 1) (⟨#[47]⟩ : ByteArray) true _ A16.out).mono ?_); rintro e w' ⟨rfl, ⟨nd, rfl⟩⟩; (try first | exact ⟨rfl, _, World.drewN_drewN _ _ _⟩ | exact ⟨rfl, _, Eq.trans (World.drewN_drewN _ _ _) (congrArg (World.drewN _) (Nat.add_assoc _ _ _))⟩)) | (go_at_call 13; (with_reducible refine (chars_All_chars_Visible_128.calls k (rdOf ByteArray.empty t143 1)  t154 _ A18.out).mono ?_); rintro e w' ⟨rfl, ⟨nd, rfl⟩⟩; (try first | exact ⟨rfl, _, World.drewN_drewN _ _ _⟩ | exact ⟨rfl, _, Eq.trans (World.drewN_drewN _ _ _) (congrArg (World.drewN _) (Nat.add_assoc _ _ _))⟩))))
                    go_meet
                    case rel => exact ⟨_, (!t154), (by first | rfl | (simp; done) | (simp [*]; done) | (simp only [i64_w, i32_w]; done) | (simp [i64_w, i32_w, *]; done) | (simp [gp_ne]; done) | (simp [gp_ne, i64_w, i32_w, *]; done) | (simp [i64_w, i32_w]; (try unfold wrap64); (try unfold wrap32); omega)), H', ⟨by first | omega | exact Nat.le_refl _⟩, ⟨by (with_reducible repeat (first | refine blk_drewN ?_ _ | refine blk_drew ?_ | refine blk_alloc ?_ _)); exact BK142.out⟩, ⟨by repeat (first | (with_reducible first | exact HB.out | apply below_alloc | apply pw_below_drewN | apply below_drew1 | refine below_set ?_ GE142.out) | exact HB.out)⟩⟩
                  · replace c17 := Bool.eq_false_iff.mpr c17
                    subst c17
                    have H1 : (head_first.j0 k t147 t148 (rdOf ByteArray.empty t143 0) (rdOf ByteArray.empty t143 1) true) = some (r1, r2, r3, r4, r5) := by rw [if_neg (show ¬ (false = true) by decide)] at H; exact H
                    clear H
                    have H := H1
                    clear H1
                    have H' := Aside0.mk H
                    clear H
                    go_wp2_with (first | (go_at_call 13; (with_reducible refine (chars_All_chars_Token_126.calls k (rdOf ByteArray.empty t143 0)  true _ A14.out).mono ?_); rintro e w' ⟨rfl, ⟨nd, rfl⟩⟩; (try first | exact ⟨rfl, _, World.drewN_drewN _ _ _⟩ | exact ⟨rfl, _, Eq.trans (World.drewN_drewN _ _ _) (congrArg (World.drewN _) (Nat.add_assoc _ _ _))⟩)) | (go_at_call 61; (with_reducible refine (strings_HasPrefix.calls (rdOf ByteArray.empty t143 1) (⟨#[47]⟩ : ByteArray) false _ A16.out).mono ?_); rintro e w' ⟨rfl, ⟨nd, rfl⟩⟩; (try first | exact ⟨rfl, _, World.drewN_drewN _ _ _⟩ | exact ⟨rfl, _, Eq.trans (World.drewN_drewN _ _ _) (congrArg (World.drewN _) (Nat.add_assoc _ _ _))⟩)))
                    repeat (go_quiet (first | (go_at_call 13; (with_reducible refine (chars_All_chars_Token_126.calls k (rdOf ByteArray.empty t143 0)  true _ A14.out).mono ?_); rintro e w' ⟨rfl, ⟨nd, rfl⟩⟩; (try first | exact ⟨rfl, _, World.drewN_drewN _ _ _⟩ | exact ⟨rfl, _, Eq.trans (World.drewN_drewN _ _ _) (congrArg (World.drewN _) (Nat.add_assoc _ _ _))⟩)) | (go_at_call 61; (with_reducible refine (strings_HasPrefix.calls (rdOf ByteArray.empty t143 1) (⟨#[47]⟩ : ByteArray) false _ A16.out).mono ?_); rintro e w' ⟨rfl, ⟨nd, rfl⟩⟩; (try first | exact ⟨rfl, _, World.drewN_drewN _ _ _⟩ | exact ⟨rfl, _, Eq.trans (World.drewN_drewN _ _ _) (congrArg (World.drewN _) (Nat.add_assoc _ _ _))⟩))); try go_wp2_with (first | (go_at_call 13; (with_reducible refine (chars_All_chars_Token_126.calls k (rdOf ByteArray.empty t143 0)  true _ A14.out).mono ?_); rintro e w' ⟨rfl, ⟨nd, rfl⟩⟩; (try first | exact ⟨rfl, _, World.drewN_drewN _ _ _⟩ | exact ⟨rfl, _, Eq.trans (World.drewN_drewN _ _ _) (congrArg (World.drewN _) (Nat.add_assoc _ _ _))⟩)) | (go_at_call 61; (with_reducible refine (strings_HasPrefix.calls (rdOf ByteArray.empty t143 1) (⟨#[47]⟩ : ByteArray) false _ A16.out).mono ?_); rintro e w' ⟨rfl, ⟨nd, rfl⟩⟩; (try first | exact ⟨rfl, _, World.drewN_drewN _ _ _⟩ | exact ⟨rfl, _, Eq.trans (World.drewN_drewN _ _ _) (congrArg (World.drewN _) (Nat.add_assoc _ _ _))⟩))))
                    go_meet
                    case rel => exact ⟨_, (true), (by first | rfl | (simp; done) | (simp [*]; done) | (simp only [i64_w, i32_w]; done) | (simp [i64_w, i32_w, *]; done) | (simp [gp_ne]; done) | (simp [gp_ne, i64_w, i32_w, *]; done) | (simp [i64_w, i32_w]; (try unfold wrap64); (try unfold wrap32); omega)), H', ⟨by first | omega | exact Nat.le_refl _⟩, ⟨by (with_reducible repeat (first | refine blk_drewN ?_ _ | refine blk_drew ?_ | refine blk_alloc ?_ _)); exact BK142.out⟩, ⟨by repeat (first | (with_reducible first | exact HB.out | apply below_alloc | apply pw_below_drewN | apply below_drew1 | refine below_set ?_ GE142.out) | exact HB.out)⟩⟩
                · replace c15 := Bool.eq_false_iff.mpr c15
                  subst c15
                  have H1 : (head_first.j0 k t147 t148 (rdOf ByteArray.empty t143 0) (rdOf ByteArray.empty t143 1) true) = some (r1, r2, r3, r4, r5) := by rw [if_neg (show ¬ (false = true) by decide)] at H; exact H
                  clear H
                  have H := H1
                  clear H1
                  have H' := Aside0.mk H
                  clear H
                  go_wp2_with (first | (go_at_call 13; (with_reducible refine (chars_All_chars_Token_126.calls k (rdOf ByteArray.empty t143 0)  false _ A14.out).mono ?_); rintro e w' ⟨rfl, ⟨nd, rfl⟩⟩; (try first | exact ⟨rfl, _, World.drewN_drewN _ _ _⟩ | exact ⟨rfl, _, Eq.trans (World.drewN_drewN _ _ _) (congrArg (World.drewN _) (Nat.add_assoc _ _ _))⟩)))
                  repeat (go_quiet (first | (go_at_call 13; (with_reducible refine (chars_All_chars_Token_126.calls k (rdOf ByteArray.empty t143 0)  false _ A14.out).mono ?_); rintro e w' ⟨rfl, ⟨nd, rfl⟩⟩; (try first | exact ⟨rfl, _, World.drewN_drewN _ _ _⟩ | exact ⟨rfl, _, Eq.trans (World.drewN_drewN _ _ _) (congrArg (World.drewN _) (Nat.add_assoc _ _ _))⟩))); try go_wp2_with (first | (go_at_call 13; (with_reducible refine (chars_All_chars_Token_126.calls k (rdOf ByteArray.empty t143 0)  false _ A14.out).mono ?_); rintro e w' ⟨rfl, ⟨nd, rfl⟩⟩; (try first | exact ⟨rfl, _, World.drewN_drewN _ _ _⟩ | exact ⟨rfl, _, Eq.trans (World.drewN_drewN _ _ _) (congrArg (World.drewN _) (Nat.add_assoc _ _ _))⟩))))
                  go_meet
                  case rel => exact ⟨_, (true), (by first | rfl | (simp; done) | (simp [*]; done) | (simp only [i64_w, i32_w]; done) | (simp [i64_w, i32_w, *]; done) | (simp [gp_ne]; done) | (simp [gp_ne, i64_w, i32_w, *]; done) | (simp [i64_w, i32_w]; (try unfold wrap64); (try unfold wrap32); omega)), H', ⟨by first | omega | exact Nat.le_refl _⟩, ⟨by (with_reducible repeat (first | refine blk_drewN ?_ _ | refine blk_drew ?_ | refine blk_alloc ?_ _)); exact BK142.out⟩, ⟨by repeat (first | (with_reducible first | exact HB.out | apply below_alloc | apply pw_below_drewN | apply below_drew1 | refine below_set ?_ GE142.out) | exact HB.out)⟩⟩
            · replace c12 := Bool.eq_false_iff.mpr c12
              subst c12
              have H1 : (head_first.j0 k t147 t148 (rdOf ByteArray.empty t143 0) (rdOf ByteArray.empty t143 1) true) = some (r1, r2, r3, r4, r5) := by rw [if_neg (show ¬ (false = true) by decide)] at H; exact H
              clear H
              have H := H1
              clear H1
              have H' := Aside0.mk H
              clear H
              go_wp2
              repeat (go_quiet (fail); try go_wp2)
              go_meet
              case rel => exact ⟨_, (true), (by first | rfl | (simp; done) | (simp [*]; done) | (simp only [i64_w, i32_w]; done) | (simp [i64_w, i32_w, *]; done) | (simp [gp_ne]; done) | (simp [gp_ne, i64_w, i32_w, *]; done) | (simp [i64_w, i32_w]; (try unfold wrap64); (try unfold wrap32); omega)), H', ⟨by first | omega | exact Nat.le_refl _⟩, ⟨by (with_reducible repeat (first | refine blk_drewN ?_ _ | refine blk_drew ?_ | refine blk_alloc ?_ _)); exact BK142.out⟩, ⟨by repeat (first | (with_reducible first | exact HB.out | apply below_alloc | apply pw_below_drewN | apply below_drew1 | refine below_set ?_ GE142.out) | exact HB.out)⟩⟩
          case rest =>
            clear HC8
            try clear c1
            try clear p1
            try clear q1
            try clear hx1
            try clear qi1
            try clear p2
            try clear c3
            try clear c3b0
            try clear c3b1
            try clear c4
            try clear c4b0
            try clear c4b1
            try clear c6
            try clear c6b0
            try clear c6b1
            try clear c7
            try clear c7b0
            try clear c7b1
            try clear c12
            try clear c13
            try clear c13b0
            try clear c13b1
            try clear p14
            try clear q14
            try clear hx14
            try clear qi14
            try clear c15
            try clear p15
            try clear q15
            try clear hx15
            try clear qi15
            try clear c17
            try clear hx146_0
            try clear hx150_0
            try clear hx151_0
            try clear p146
            try clear p150
            try clear p151
            try clear q146
            try clear q150
            try clear q151
            obtain ⟨kq, x35_7, rfl, HA, HJ7, BK142, HB⟩ := hcut
            cases kq with
            | zero => exact absurd HA.out (by simp [head_first.j0])
            | succ kj7 =>
              have H := HA.out
              clear HA
              simp only [head_first.j0] at H
              by_cases c19 : x35_7 = true
              · subst c19
                have H1 : (none) = some (r1, r2, r3, r4, r5) := by rw [if_pos rfl] at H; exact H
                clear H
                have H := H1
                clear H1
                exact absurd H (by simp)
              · replace c19 := Bool.eq_false_iff.mpr c19
                subst c19
                have H1 : (if t147 = 1 then (if (rdOf ByteArray.empty t143 0).toList = ([71, 69, 84] : List UInt8) then (head_first.j1 kj7 t148 (rdOf ByteArray.empty t143 0) (rdOf ByteArray.empty t143 1) (rdOf ByteArray.empty t143 0) ((rdOf ByteArray.empty t143 0).toList == ([71, 69, 84] : List UInt8))) else (head_first.j1 kj7 t148 (rdOf ByteArray.empty t143 0) (rdOf ByteArray.empty t143 1) (rdOf ByteArray.empty t143 0) ((rdOf ByteArray.empty t143 0).toList == ([80, 79, 83, 84] : List UInt8)))) else (none)) = some (r1, r2, r3, r4, r5) := by rw [if_neg (show ¬ (false = true) by decide)] at H; exact H
                clear H
                have H := H1
                clear H1
                by_cases c20 : t147 = 1
                · rw [if_pos c20] at H
                  have c20b0 : (t147 == 1) = true := beq_iff_eq.mpr c20
                  have c20b1 : (t147 != 1) = false := bne_eq_false_iff_eq.mpr c20
                  clear c20
                  have HC21 := Aside0.mk H
                  clear H
                  go_upto_if 73 with (fail)
                  repeat (go_quiet (fail); go_upto_if 73 with (fail))
                  go_cut [73] (fun v73 wc => ∃ (kq : Nat) (x73_20 : Bool), v73 = .bool x73_20 ∧ Aside0 (head_first.j1 kq t148 (rdOf ByteArray.empty t143 0) (rdOf ByteArray.empty t143 1) (rdOf ByteArray.empty t143 0) x73_20 = some (r1, r2, r3, r4, r5)) ∧ Aside0 (kq ≤ kj7) ∧ Aside0 (wc.heap[gb142]? = some (.cells #[.string (⟨#[]⟩ : ByteArray), .string (⟨#[]⟩ : ByteArray), .int .i64 0, (.slice none 0 0)] 45 (0, 0))) ∧ Aside0 (Below w.heap.size w wc))
                  case first =>
                    have H := HC21.out
                    clear HC21
                    by_cases c22 : (rdOf ByteArray.empty t143 0).toList = ([71, 69, 84] : List UInt8)
                    · rw [if_pos c22] at H
                      have c22b0 : ((rdOf ByteArray.empty t143 0).toList == ([71, 69, 84] : List UInt8)) = true := beq_iff_eq.mpr c22
                      have c22b1 : ((rdOf ByteArray.empty t143 0).toList != ([71, 69, 84] : List UInt8)) = false := bne_eq_false_iff_eq.mpr c22
                      clear c22
                      (first | rw [c22b0] | (simp only [i64_w, i32_w]; rw [c22b0]) | skip)
                      have H' := Aside0.mk H
                      clear H
                      go_wp2
                      repeat (go_quiet (fail); try go_wp2)
                      go_meet
                      case rel => exact ⟨_, (((rdOf ByteArray.empty t143 0).toList == ([71, 69, 84] : List UInt8))), (by first | rfl | (simp; done) | (simp [*]; done) | (simp only [i64_w, i32_w]; done) | (simp [i64_w, i32_w, *]; done) | (simp [gp_ne]; done) | (simp [gp_ne, i64_w, i32_w, *]; done) | (simp [i64_w, i32_w]; (try unfold wrap64); (try unfold wrap32); omega)), H', ⟨by have := HJ7.out; first | omega | exact Nat.le_refl _⟩, ⟨by (with_reducible repeat (first | refine blk_drewN ?_ _ | refine blk_drew ?_ | refine blk_alloc ?_ _)); exact BK142.out⟩, ⟨by repeat (first | (with_reducible first | exact HB.out | apply below_alloc | apply pw_below_drewN | apply below_drew1 | refine below_set ?_ GE142.out) | exact HB.out)⟩⟩
                    · rw [if_neg c22] at H
                      have c22b0 : ((rdOf ByteArray.empty t143 0).toList == ([71, 69, 84] : List UInt8)) = false := beq_eq_false_iff_ne.mpr c22
                      have c22b1 : ((rdOf ByteArray.empty t143 0).toList != ([71, 69, 84] : List UInt8)) = true := bne_iff_ne.mpr c22
                      (first | rw [c22b0] | (simp only [i64_w, i32_w]; rw [c22b0]) | skip)
                      have H' := Aside0.mk H
                      clear H
                      go_wp2
                      repeat (go_quiet (fail); try go_wp2)
                      go_meet
                      case rel => exact ⟨_, (((rdOf ByteArray.empty t143 0).toList == ([80, 79, 83, 84] : List UInt8))), (by first | rfl | (simp; done) | (simp [*]; done) | (simp only [i64_w, i32_w]; done) | (simp [i64_w, i32_w, *]; done) | (simp [gp_ne]; done) | (simp [gp_ne, i64_w, i32_w, *]; done) | (simp [i64_w, i32_w]; (try unfold wrap64); (try unfold wrap32); omega)), H', ⟨by have := HJ7.out; first | omega | exact Nat.le_refl _⟩, ⟨by (with_reducible repeat (first | refine blk_drewN ?_ _ | refine blk_drew ?_ | refine blk_alloc ?_ _)); exact BK142.out⟩, ⟨by repeat (first | (with_reducible first | exact HB.out | apply below_alloc | apply pw_below_drewN | apply below_drew1 | refine below_set ?_ GE142.out) | exact HB.out)⟩⟩
                  case rest =>
                    clear HC21
                    try clear c1
                    try clear p1
                    try clear q1
                    try clear hx1
                    try clear qi1
                    try clear c2
                    try clear p2
                    try clear c3
                    try clear c3b0
                    try clear c3b1
                    try clear c4
                    try clear c4b0
                    try clear c4b1
                    try clear c6
                    try clear c6b0
                    try clear c6b1
                    try clear c7
                    try clear c7b0
                    try clear c7b1
                    try clear c12
                    try clear c13
                    try clear c13b0
                    try clear c13b1
                    try clear p14
                    try clear q14
                    try clear hx14
                    try clear qi14
                    try clear c15
                    try clear p15
                    try clear q15
                    try clear hx15
                    try clear qi15
                    try clear c17
                    try clear c19
                    try clear c20
                    try clear c20b0
                    try clear c20b1
                    try clear c22
                    try clear c22b0
                    try clear c22b1
                    try clear hx146_0
                    try clear hx150_0
                    try clear hx151_0
                    try clear p1
                    try clear p14
                    try clear p146
                    try clear p15
                    try clear p150
                    try clear p151
                    try clear p2
                    try clear q1
                    try clear q14
                    try clear q146
                    try clear q15
                    try clear q150
                    try clear q151
                    obtain ⟨kq, x73_20, rfl, HA, HJ20, BK142, HB⟩ := hcut
                    cases kq with
                    | zero => exact absurd HA.out (by simp [head_first.j1])
                    | succ kj20 =>
                      have H := HA.out
                      clear HA
                      simp only [head_first.j1] at H
                      by_cases c23 : x73_20 = true
                      · subst c23
                        have H1 : (some ((rdOf ByteArray.empty t143 0), (rdOf ByteArray.empty t143 1), t148, ([] : List (S28)), none)) = some (r1, r2, r3, r4, r5) := by rw [if_pos rfl] at H; exact H
                        clear H
                        have H := H1
                        clear H1
                        simp only [Option.some.injEq, Prod.mk.injEq] at H
                        obtain ⟨rfl, rfl, rfl, rfl, rfl⟩ := H
                        have hcz24_0 : wc.cell? ⟨gb142, 0, none⟩ = some (.string (⟨#[]⟩ : ByteArray)) := (blk_cell BK142.out 0).trans rfl
                        have hcz24_1 : wc.cell? ⟨gb142, 1, none⟩ = some (.string (⟨#[]⟩ : ByteArray)) := (blk_cell BK142.out 1).trans rfl
                        have hcz24_2 : wc.cell? ⟨gb142, 2, none⟩ = some (.int .i64 0) := (blk_cell BK142.out 2).trans rfl
                        have hcz24_3 : wc.cell? ⟨gb142, 3, none⟩ = some (.slice none 0 0) := (blk_cell BK142.out 3).trans rfl
                        have hfz24_0 := blk_frozen BK142.out 0
                        have hfz24_1 := blk_frozen BK142.out 1
                        have hfz24_2 := blk_frozen BK142.out 2
                        have hfz24_3 := blk_frozen BK142.out 3
                        go_wp2
                        repeat (go_quiet (fail); try go_wp2)
                        refine bodyPost_ret (results_ct rfl _ _ gb142 45 #[.string (rdOf ByteArray.empty t143 0), .string (rdOf ByteArray.empty t143 1), .int .i64 t148, .slice none 0 0] (0, 0) _ rfl (by (with_reducible repeat (first | refine blk_drewN ?_ _ | refine blk_drew ?_ | refine blk_alloc ?_ _)); refine blk_put (cs := #[.string (rdOf ByteArray.empty t143 0), .string (rdOf ByteArray.empty t143 1), .int .i64 t148, .slice none 0 0]) ?_ 3 _ rfl; (with_reducible repeat (first | refine blk_drewN ?_ _ | refine blk_drew ?_ | refine blk_alloc ?_ _)); refine blk_put (cs := #[.string (rdOf ByteArray.empty t143 0), .string (rdOf ByteArray.empty t143 1), .int .i64 0, .slice none 0 0]) ?_ 2 _ rfl; (with_reducible repeat (first | refine blk_drewN ?_ _ | refine blk_drew ?_ | refine blk_alloc ?_ _)); refine blk_put (cs := #[.string (rdOf ByteArray.empty t143 0), .string (⟨#[]⟩ : ByteArray), .int .i64 0, .slice none 0 0]) ?_ 1 _ rfl; (with_reducible repeat (first | refine blk_drewN ?_ _ | refine blk_drew ?_ | refine blk_alloc ?_ _)); refine blk_put (cs := #[.string (⟨#[]⟩ : ByteArray), .string (⟨#[]⟩ : ByteArray), .int .i64 0, .slice none 0 0]) ?_ 0 _ rfl; (with_reducible repeat (first | refine blk_drewN ?_ _ | refine blk_drew ?_ | refine blk_alloc ?_ _)); exact BK142.out) Tryz.underlying45 rfl (by kernel_rfl)) rfl ?_
                        exact ⟨_, by first | rfl | (simp [errW_none, errW_some] <;> rfl) | (simp [*, errW_none, errW_some] <;> rfl) | (simp [gp_ne]; done) | (simp [gp_ne, i64_w, i32_w, *]; done) | (simp [i64_w, i32_w]; (try unfold wrap64); (try unfold wrap32); omega), by first | exact Kd.R_nil _ _ _ _ _ | exact Kd.N_nil _ _ _ _ _ | exact Kd.V_nil _ _ _ _ _ | exact Kd.Q_nil _ _ _ _ _ | exact Kd.S_nil _ _ _ _ _, by repeat (first | (with_reducible first | exact HB.out | apply below_alloc | apply pw_below_drewN | apply below_drew1 | refine below_set ?_ GE142.out) | exact HB.out)⟩
                      · replace c23 := Bool.eq_false_iff.mpr c23
                        subst c23
                        have H1 : (if (rdOf ByteArray.empty t143 0).toList = ([80, 85, 84] : List UInt8) then (some ((rdOf ByteArray.empty t143 0), (rdOf ByteArray.empty t143 1), t148, ([] : List (S28)), none)) else (if (rdOf ByteArray.empty t143 0).toList = ([68, 69, 76, 69, 84, 69] : List UInt8) then (some ((rdOf ByteArray.empty t143 0), (rdOf ByteArray.empty t143 1), t148, ([] : List (S28)), none)) else (none))) = some (r1, r2, r3, r4, r5) := by rw [if_neg (show ¬ (false = true) by decide)] at H; exact H
                        clear H
                        have H := H1
                        clear H1
                        by_cases c25 : (rdOf ByteArray.empty t143 0).toList = ([80, 85, 84] : List UInt8)
                        · rw [if_pos c25] at H
                          have c25b0 : ((rdOf ByteArray.empty t143 0).toList == ([80, 85, 84] : List UInt8)) = true := beq_iff_eq.mpr c25
                          have c25b1 : ((rdOf ByteArray.empty t143 0).toList != ([80, 85, 84] : List UInt8)) = false := bne_eq_false_iff_eq.mpr c25
                          clear c25
                          simp only [Option.some.injEq, Prod.mk.injEq] at H
                          obtain ⟨rfl, rfl, rfl, rfl, rfl⟩ := H
                          have hcz26_0 : wc.cell? ⟨gb142, 0, none⟩ = some (.string (⟨#[]⟩ : ByteArray)) := (blk_cell BK142.out 0).trans rfl
                          have hcz26_1 : wc.cell? ⟨gb142, 1, none⟩ = some (.string (⟨#[]⟩ : ByteArray)) := (blk_cell BK142.out 1).trans rfl
                          have hcz26_2 : wc.cell? ⟨gb142, 2, none⟩ = some (.int .i64 0) := (blk_cell BK142.out 2).trans rfl
                          have hcz26_3 : wc.cell? ⟨gb142, 3, none⟩ = some (.slice none 0 0) := (blk_cell BK142.out 3).trans rfl
                          have hfz26_0 := blk_frozen BK142.out 0
                          have hfz26_1 := blk_frozen BK142.out 1
                          have hfz26_2 := blk_frozen BK142.out 2
                          have hfz26_3 := blk_frozen BK142.out 3
                          go_wp2
                          repeat (go_quiet (fail); try go_wp2)
                          refine bodyPost_ret (results_ct rfl _ _ gb142 45 #[.string (rdOf ByteArray.empty t143 0), .string (rdOf ByteArray.empty t143 1), .int .i64 t148, .slice none 0 0] (0, 0) _ rfl (by (with_reducible repeat (first | refine blk_drewN ?_ _ | refine blk_drew ?_ | refine blk_alloc ?_ _)); refine blk_put (cs := #[.string (rdOf ByteArray.empty t143 0), .string (rdOf ByteArray.empty t143 1), .int .i64 t148, .slice none 0 0]) ?_ 3 _ rfl; (with_reducible repeat (first | refine blk_drewN ?_ _ | refine blk_drew ?_ | refine blk_alloc ?_ _)); refine blk_put (cs := #[.string (rdOf ByteArray.empty t143 0), .string (rdOf ByteArray.empty t143 1), .int .i64 0, .slice none 0 0]) ?_ 2 _ rfl; (with_reducible repeat (first | refine blk_drewN ?_ _ | refine blk_drew ?_ | refine blk_alloc ?_ _)); refine blk_put (cs := #[.string (rdOf ByteArray.empty t143 0), .string (⟨#[]⟩ : ByteArray), .int .i64 0, .slice none 0 0]) ?_ 1 _ rfl; (with_reducible repeat (first | refine blk_drewN ?_ _ | refine blk_drew ?_ | refine blk_alloc ?_ _)); refine blk_put (cs := #[.string (⟨#[]⟩ : ByteArray), .string (⟨#[]⟩ : ByteArray), .int .i64 0, .slice none 0 0]) ?_ 0 _ rfl; (with_reducible repeat (first | refine blk_drewN ?_ _ | refine blk_drew ?_ | refine blk_alloc ?_ _)); exact BK142.out) Tryz.underlying45 rfl (by kernel_rfl)) rfl ?_
                          exact ⟨_, by first | rfl | (simp [errW_none, errW_some] <;> rfl) | (simp [*, errW_none, errW_some] <;> rfl) | (simp [gp_ne]; done) | (simp [gp_ne, i64_w, i32_w, *]; done) | (simp [i64_w, i32_w]; (try unfold wrap64); (try unfold wrap32); omega), by first | exact Kd.R_nil _ _ _ _ _ | exact Kd.N_nil _ _ _ _ _ | exact Kd.V_nil _ _ _ _ _ | exact Kd.Q_nil _ _ _ _ _ | exact Kd.S_nil _ _ _ _ _, by repeat (first | (with_reducible first | exact HB.out | apply below_alloc | apply pw_below_drewN | apply below_drew1 | refine below_set ?_ GE142.out) | exact HB.out)⟩
                        · rw [if_neg c25] at H
                          have c25b0 : ((rdOf ByteArray.empty t143 0).toList == ([80, 85, 84] : List UInt8)) = false := beq_eq_false_iff_ne.mpr c25
                          have c25b1 : ((rdOf ByteArray.empty t143 0).toList != ([80, 85, 84] : List UInt8)) = true := bne_iff_ne.mpr c25
                          by_cases c27 : (rdOf ByteArray.empty t143 0).toList = ([68, 69, 76, 69, 84, 69] : List UInt8)
                          · rw [if_pos c27] at H
                            have c27b0 : ((rdOf ByteArray.empty t143 0).toList == ([68, 69, 76, 69, 84, 69] : List UInt8)) = true := beq_iff_eq.mpr c27
                            have c27b1 : ((rdOf ByteArray.empty t143 0).toList != ([68, 69, 76, 69, 84, 69] : List UInt8)) = false := bne_eq_false_iff_eq.mpr c27
                            clear c27
                            simp only [Option.some.injEq, Prod.mk.injEq] at H
                            obtain ⟨rfl, rfl, rfl, rfl, rfl⟩ := H
                            have hcz28_0 : wc.cell? ⟨gb142, 0, none⟩ = some (.string (⟨#[]⟩ : ByteArray)) := (blk_cell BK142.out 0).trans rfl
                            have hcz28_1 : wc.cell? ⟨gb142, 1, none⟩ = some (.string (⟨#[]⟩ : ByteArray)) := (blk_cell BK142.out 1).trans rfl
                            have hcz28_2 : wc.cell? ⟨gb142, 2, none⟩ = some (.int .i64 0) := (blk_cell BK142.out 2).trans rfl
                            have hcz28_3 : wc.cell? ⟨gb142, 3, none⟩ = some (.slice none 0 0) := (blk_cell BK142.out 3).trans rfl
                            have hfz28_0 := blk_frozen BK142.out 0
                            have hfz28_1 := blk_frozen BK142.out 1
                            have hfz28_2 := blk_frozen BK142.out 2
                            have hfz28_3 := blk_frozen BK142.out 3
                            go_wp2
                            repeat (go_quiet (fail); try go_wp2)
                            refine bodyPost_ret (results_ct rfl _ _ gb142 45 #[.string (rdOf ByteArray.empty t143 0), .string (rdOf ByteArray.empty t143 1), .int .i64 t148, .slice none 0 0] (0, 0) _ rfl (by (with_reducible repeat (first | refine blk_drewN ?_ _ | refine blk_drew ?_ | refine blk_alloc ?_ _)); refine blk_put (cs := #[.string (rdOf ByteArray.empty t143 0), .string (rdOf ByteArray.empty t143 1), .int .i64 t148, .slice none 0 0]) ?_ 3 _ rfl; (with_reducible repeat (first | refine blk_drewN ?_ _ | refine blk_drew ?_ | refine blk_alloc ?_ _)); refine blk_put (cs := #[.string (rdOf ByteArray.empty t143 0), .string (rdOf ByteArray.empty t143 1), .int .i64 0, .slice none 0 0]) ?_ 2 _ rfl; (with_reducible repeat (first | refine blk_drewN ?_ _ | refine blk_drew ?_ | refine blk_alloc ?_ _)); refine blk_put (cs := #[.string (rdOf ByteArray.empty t143 0), .string (⟨#[]⟩ : ByteArray), .int .i64 0, .slice none 0 0]) ?_ 1 _ rfl; (with_reducible repeat (first | refine blk_drewN ?_ _ | refine blk_drew ?_ | refine blk_alloc ?_ _)); refine blk_put (cs := #[.string (⟨#[]⟩ : ByteArray), .string (⟨#[]⟩ : ByteArray), .int .i64 0, .slice none 0 0]) ?_ 0 _ rfl; (with_reducible repeat (first | refine blk_drewN ?_ _ | refine blk_drew ?_ | refine blk_alloc ?_ _)); exact BK142.out) Tryz.underlying45 rfl (by kernel_rfl)) rfl ?_
                            exact ⟨_, by first | rfl | (simp [errW_none, errW_some] <;> rfl) | (simp [*, errW_none, errW_some] <;> rfl) | (simp [gp_ne]; done) | (simp [gp_ne, i64_w, i32_w, *]; done) | (simp [i64_w, i32_w]; (try unfold wrap64); (try unfold wrap32); omega), by first | exact Kd.R_nil _ _ _ _ _ | exact Kd.N_nil _ _ _ _ _ | exact Kd.V_nil _ _ _ _ _ | exact Kd.Q_nil _ _ _ _ _ | exact Kd.S_nil _ _ _ _ _, by repeat (first | (with_reducible first | exact HB.out | apply below_alloc | apply pw_below_drewN | apply below_drew1 | refine below_set ?_ GE142.out) | exact HB.out)⟩
                          · rw [if_neg c27] at H
                            exact absurd H (by simp)
                · rw [if_neg c20] at H
                  exact absurd H (by simp)
        · rw [if_neg c7] at H
          exact absurd H (by simp)
      · rw [if_neg c6] at H
        exact absurd H (by simp)
    · rw [if_neg c4] at H
      exact absurd H (by simp)
  · rw [if_neg c3] at H
    exact absurd H (by simp)

end Go.Proofs.YtpincmjianpmmaaGreatDoor.PHeadLine
