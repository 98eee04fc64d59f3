-- By gp.py, a program of this session: the print of the kit with contracts of this session's own beside it.
import Derived.Test.YteladeppgedomaaDoorPPctTargetx0
import Derived.Test.YteladeppgedomaaDoorPPctTargetx2
import Derived.Test.YteladeppgedomaaDoorPPctTargetx3
namespace Go.Proofs.YteladeppgedomaaDoor.PPctTarget
open Go.RowKit Go.Proofs.YteladeppgedomaaDoor.Gp Go.Proofs.YteladeppgedomaaDoorW.PrintWords Go.Proofs.YteladeppgedomaaDoorW.PrintLast Go.Proofs.YteladeppgedomaaDoorW.PrintMore
attribute [local go_sem] max2_int min2_int max_two min_two max_three min_three max_four min_four gp_gtr gp_leq gp_geq   -- for this text's walks alone
set_option linter.unusedVariables false
set_option linter.unusedSimpArgs false

/-! ### pct_plain: function 30 -/
mutual
def pct_plain.j0 : Nat → Int → Int → Bool → Option (Bool)
  | 0, _, _, _ => none
  | k + 1, x0, x3, x4 => if x4 = true then (some true) else (if x3 = 95 then (pct_plain.j1 k x0 (x3 == 95)) else (pct_plain.j1 k x0 (x3 == 126)))
def pct_plain.j1 : Nat → Int → Bool → Option (Bool)
  | 0, _, _ => none
  | k + 1, x0, x7 => if x7 = true then (some true) else ((chars_Letter.f x0).bind fun t150 => (if t150 = true then (some true) else ((chars_Digit.f x0).bind fun t151 => (some t151))))
end
def pct_plain.f (k : Nat) (a0 : Int) : Option (Bool) := if a0 = 45 then (pct_plain.j0 k a0 a0 (a0 == 45)) else (pct_plain.j0 k a0 a0 (a0 == 46))
theorem pct_plain.mono_l : ∀ k, (∀ y0 y1 y2, LeO (pct_plain.j0 k y0 y1 y2) (pct_plain.j0 (k + 1) y0 y1 y2)) ∧ (∀ y0 y1, LeO (pct_plain.j1 k y0 y1) (pct_plain.j1 (k + 1) y0 y1))
  | 0 => ⟨fun _ _ _ r h => by simp [pct_plain.j0] at h, fun _ _ r h => by simp [pct_plain.j1] at h⟩
  | k + 1 => by
    obtain ⟨ih0, ih1⟩ := pct_plain.mono_l k
    refine ⟨?_, ?_⟩
    · intro y0 y1 y2
      unfold pct_plain.j0
      repeat' first
      | (with_reducible exact ih0 _ _ _)
      | (with_reducible exact ih1 _ _)
      | (with_reducible exact LeO.refl _)
      | (with_reducible exact LeO.none _)
      | (with_reducible refine LeO.ite ?_ ?_)
      | (with_reducible refine LeO.bind ?_ (fun _ => ?_))
      | exact ih0 _ _ _
      | exact ih1 _ _
      | exact LeO.none _
      | refine LeO.ite ?_ ?_
      | refine LeO.bind ?_ (fun _ => ?_)
    · intro y0 y1
      unfold pct_plain.j1
      repeat' first
      | (with_reducible exact ih0 _ _ _)
      | (with_reducible exact ih1 _ _)
      | (with_reducible exact LeO.refl _)
      | (with_reducible exact LeO.none _)
      | (with_reducible refine LeO.ite ?_ ?_)
      | (with_reducible refine LeO.bind ?_ (fun _ => ?_))
      | exact ih0 _ _ _
      | exact ih1 _ _
      | exact LeO.none _
      | refine LeO.ite ?_ ?_
      | refine LeO.bind ?_ (fun _ => ?_)
theorem pct_plain.mono : ∀ a0 k, LeO (pct_plain.f k a0) (pct_plain.f (k + 1) a0) := by
  intro a0 k
  obtain ⟨ih0, ih1⟩ := pct_plain.mono_l k
  unfold pct_plain.f
  repeat' first
      | (with_reducible exact ih0 _ _ _)
      | (with_reducible exact ih1 _ _)
      | (with_reducible exact LeO.refl _)
      | (with_reducible exact LeO.none _)
      | (with_reducible refine LeO.ite ?_ ?_)
      | (with_reducible refine LeO.bind ?_ (fun _ => ?_))
      | exact ih0 _ _ _
      | exact ih1 _ _
      | exact LeO.none _
      | refine LeO.ite ?_ ?_
      | refine LeO.bind ?_ (fun _ => ?_)
set_option maxHeartbeats 8000000 in
set_option maxRecDepth 100000 in
theorem pct_plain.calls (k : Nat) (a0 : Int) (r : Bool) (w : World) (h : pct_plain.f k a0 = some r) :
    Calls Tryd.prog 30 #[.int .u8 a0] w fun e w' => e = .returned (.bool r) ∧ Drawn0 w w' := by
  have H : (if a0 = 45 then (pct_plain.j0 k a0 a0 (a0 == 45)) else (pct_plain.j0 k a0 a0 (a0 == 46))) = some r := h
  clear h
  have HC2 := Aside0.mk H
  clear H
  go_enter Tryd.func30, Tryd.ntmps30
  go_upto_if 4 with (fail)
  go_cut [4] (fun v4 wc => ∃ (kq : Nat) (x4_1 : Bool), v4 = .bool x4_1 ∧ Aside0 (pct_plain.j0 kq a0 a0 x4_1 = some r) ∧ Aside0 (kq ≤ k) ∧ Drawn0 w wc)
  case first =>
    have H := HC2.out
    clear HC2
    by_cases c3 : a0 = 45
    · rw [if_pos c3] at H
      have c3b0 : (a0 == 45) = true := beq_iff_eq.mpr c3
      have c3b1 : (a0 != 45) = false := bne_eq_false_iff_eq.mpr c3
      clear c3
      (first | rw [c3b0] | (simp only [i64_w, i32_w]; rw [c3b0]) | skip)
      have H' := Aside0.mk H
      clear H
      go_wp2
      go_meet
      case rel => exact ⟨_, ((a0 == 45)), (by first | rfl | (simp; done) | (simp [*]; done) | (simp only [i64_w, i32_w]; done) | (simp [i64_w, i32_w, *]; done) | (simp [gp_ne]; done) | (simp [gp_ne, i64_w, i32_w, *]; done) | (simp [i64_w, i32_w]; (try unfold wrap64); (try unfold wrap32); omega)), H', ⟨by first | omega | exact Nat.le_refl _⟩, by repeat (first | exact Drawn0.refl _ | apply Drawn0.step)⟩
    · rw [if_neg c3] at H
      have c3b0 : (a0 == 45) = false := beq_eq_false_iff_ne.mpr c3
      have c3b1 : (a0 != 45) = true := bne_iff_ne.mpr c3
      (first | rw [c3b0] | (simp only [i64_w, i32_w]; rw [c3b0]) | skip)
      have H' := Aside0.mk H
      clear H
      go_wp2
      go_meet
      case rel => exact ⟨_, ((a0 == 46)), (by first | rfl | (simp; done) | (simp [*]; done) | (simp only [i64_w, i32_w]; done) | (simp [i64_w, i32_w, *]; done) | (simp [gp_ne]; done) | (simp [gp_ne, i64_w, i32_w, *]; done) | (simp [i64_w, i32_w]; (try unfold wrap64); (try unfold wrap32); omega)), H', ⟨by first | omega | exact Nat.le_refl _⟩, by repeat (first | exact Drawn0.refl _ | apply Drawn0.step)⟩
  case rest =>
    clear HC2
    try clear p2
    try clear c3
    try clear c3b0
    try clear c3b1
    obtain ⟨kq, x4_1, rfl, HA, HJ1, ⟨mc1, rfl⟩⟩ := hcut
    cases kq with
    | zero => exact absurd HA.out (by simp [pct_plain.j0])
    | succ kj1 =>
      have H := HA.out
      clear HA
      simp only [pct_plain.j0] at H
      by_cases c4 : x4_1 = true
      · subst c4
        have H1 : (some true) = some r := by rw [if_pos rfl] at H; exact H
        clear H
        have H := H1
        clear H1
        obtain rfl := Option.some.inj H
        go_wp2
        go_ret
        exact ⟨by first | rfl | (simp; done) | (simp [*]; done) | (simp only [i64_w, i32_w]; done) | (simp [i64_w, i32_w, *]; done) | (simp [gp_ne]; done) | (simp [gp_ne, i64_w, i32_w, *]; done) | (simp [i64_w, i32_w]; (try unfold wrap64); (try unfold wrap32); omega), by repeat (first | exact Drawn0.refl _ | apply Drawn0.step)⟩
      · replace c4 := Bool.eq_false_iff.mpr c4
        subst c4
        have H1 : (if a0 = 95 then (pct_plain.j1 kj1 a0 (a0 == 95)) else (pct_plain.j1 kj1 a0 (a0 == 126))) = some r := by rw [if_neg (show ¬ (false = true) by decide)] at H; exact H
        clear H
        have H := H1
        clear H1
        have HC5 := Aside0.mk H
        clear H
        go_upto_if 7 with (fail)
        go_cut [7] (fun v7 wc => ∃ (kq : Nat) (x7_4 : Bool), v7 = .bool x7_4 ∧ Aside0 (pct_plain.j1 kq a0 x7_4 = some r) ∧ Aside0 (kq ≤ kj1) ∧ Drawn0 w wc)
        case first =>
          have H := HC5.out
          clear HC5
          by_cases c6 : a0 = 95
          · rw [if_pos c6] at H
            have c6b0 : (a0 == 95) = true := beq_iff_eq.mpr c6
            have c6b1 : (a0 != 95) = false := bne_eq_false_iff_eq.mpr c6
            clear c6
            (first | rw [c6b0] | (simp only [i64_w, i32_w]; rw [c6b0]) | skip)
            have H' := Aside0.mk H
            clear H
            go_wp2
            go_meet
            case rel => exact ⟨_, ((a0 == 95)), (by first | rfl | (simp; done) | (simp [*]; done) | (simp only [i64_w, i32_w]; done) | (simp [i64_w, i32_w, *]; done) | (simp [gp_ne]; done) | (simp [gp_ne, i64_w, i32_w, *]; done) | (simp [i64_w, i32_w]; (try unfold wrap64); (try unfold wrap32); omega)), H', ⟨by have := HJ1.out; first | omega | exact Nat.le_refl _⟩, by repeat (first | exact Drawn0.refl _ | apply Drawn0.step)⟩
          · rw [if_neg c6] at H
            have c6b0 : (a0 == 95) = false := beq_eq_false_iff_ne.mpr c6
            have c6b1 : (a0 != 95) = true := bne_iff_ne.mpr c6
            (first | rw [c6b0] | (simp only [i64_w, i32_w]; rw [c6b0]) | skip)
            have H' := Aside0.mk H
            clear H
            go_wp2
            go_meet
            case rel => exact ⟨_, ((a0 == 126)), (by first | rfl | (simp; done) | (simp [*]; done) | (simp only [i64_w, i32_w]; done) | (simp [i64_w, i32_w, *]; done) | (simp [gp_ne]; done) | (simp [gp_ne, i64_w, i32_w, *]; done) | (simp [i64_w, i32_w]; (try unfold wrap64); (try unfold wrap32); omega)), H', ⟨by have := HJ1.out; first | omega | exact Nat.le_refl _⟩, by repeat (first | exact Drawn0.refl _ | apply Drawn0.step)⟩
        case rest =>
          clear HC5
          try clear c1
          try clear p2
          try clear c3
          try clear c3b0
          try clear c3b1
          try clear c4
          try clear c6
          try clear c6b0
          try clear c6b1
          try clear p2
          obtain ⟨kq, x7_4, rfl, HA, HJ4, ⟨mc4, rfl⟩⟩ := hcut
          cases kq with
          | zero => exact absurd HA.out (by simp [pct_plain.j1])
          | succ kj4 =>
            have H := HA.out
            clear HA
            simp only [pct_plain.j1] at H
            by_cases c7 : x7_4 = true
            · subst c7
              have H1 : (some true) = some r := by rw [if_pos rfl] at H; exact H
              clear H
              have H := H1
              clear H1
              obtain rfl := Option.some.inj H
              go_wp2
              go_ret
              exact ⟨by first | rfl | (simp; done) | (simp [*]; done) | (simp only [i64_w, i32_w]; done) | (simp [i64_w, i32_w, *]; done) | (simp [gp_ne]; done) | (simp [gp_ne, i64_w, i32_w, *]; done) | (simp [i64_w, i32_w]; (try unfold wrap64); (try unfold wrap32); omega), by repeat (first | exact Drawn0.refl _ | apply Drawn0.step)⟩
            · replace c7 := Bool.eq_false_iff.mpr c7
              subst c7
              have H1 : ((chars_Letter.f a0).bind fun t150 => (if t150 = true then (some true) else ((chars_Digit.f a0).bind fun t151 => (some t151)))) = some r := by rw [if_neg (show ¬ (false = true) by decide)] at H; exact H
              clear H
              have H := H1
              clear H1
              replace H := Option.bind_eq_some_iff.mp H
              obtain ⟨t150, A80, H⟩ := H
              replace H : (if t150 = true then (some true) else ((chars_Digit.f a0).bind fun t151 => (some t151))) = some r := H
              have A8 := Aside0.mk A80
              clear A80
              by_cases c9 : t150 = true
              · subst c9
                have H1 : (some true) = some r := by rw [if_pos rfl] at H; exact H
                clear H
                have H := H1
                clear H1
                obtain rfl := Option.some.inj H
                go_wp2_with (first | ((with_reducible refine gate_callee (f := 41) rfl ?_); refine goesL_ (some 11) rfl rfl Tryd.func41 (by kernel_rfl) rfl #[.int .u8 a0] rfl (by (try simp only [List.map_toArray, List.map_cons, List.map_nil]); first | done | rfl | (simp only [List.length_drop, List.length_take]; rfl)) ?_; (with_reducible refine (chars_Letter.calls a0 true _ A8.out).mono ?_); rintro e w' ⟨rfl, ⟨nd, rfl⟩⟩; refine ⟨_, rfl, ?_⟩))
                go_ret
                exact ⟨by first | rfl | (simp; done) | (simp [*]; done) | (simp only [i64_w, i32_w]; done) | (simp [i64_w, i32_w, *]; done) | (simp [gp_ne]; done) | (simp [gp_ne, i64_w, i32_w, *]; done) | (simp [i64_w, i32_w]; (try unfold wrap64); (try unfold wrap32); omega), by repeat (first | exact Drawn0.refl _ | apply Drawn0.step)⟩
              · replace c9 := Bool.eq_false_iff.mpr c9
                subst c9
                have H1 : ((chars_Digit.f a0).bind fun t151 => (some t151)) = some r := by rw [if_neg (show ¬ (false = true) by decide)] at H; exact H
                clear H
                have H := H1
                clear H1
                replace H := Option.bind_eq_some_iff.mp H
                obtain ⟨t151, A100, H⟩ := H
                replace H : (some t151) = some r := H
                have A10 := Aside0.mk A100
                clear A100
                obtain rfl := Option.some.inj H
                go_wp2_with (first | ((with_reducible refine gate_callee (f := 41) rfl ?_); refine goesL_ (some 11) rfl rfl Tryd.func41 (by kernel_rfl) rfl #[.int .u8 a0] rfl (by (try simp only [List.map_toArray, List.map_cons, List.map_nil]); first | done | rfl | (simp only [List.length_drop, List.length_take]; rfl)) ?_; (with_reducible refine (chars_Letter.calls a0 false _ A8.out).mono ?_); rintro e w' ⟨rfl, ⟨nd, rfl⟩⟩; refine ⟨_, rfl, ?_⟩) | (go_at_call 42; (with_reducible refine (chars_Digit.calls a0 t151 _ A10.out).mono ?_); rintro e w' ⟨rfl, ⟨nd, rfl⟩⟩))
                go_ret
                exact ⟨by first | rfl | (simp; done) | (simp [*]; done) | (simp only [i64_w, i32_w]; done) | (simp [i64_w, i32_w, *]; done) | (simp [gp_ne]; done) | (simp [gp_ne, i64_w, i32_w, *]; done) | (simp [i64_w, i32_w]; (try unfold wrap64); (try unfold wrap32); omega), by repeat (first | exact Drawn0.refl _ | apply Drawn0.step)⟩

/-! ### pct_Encode: function 16 -/
/-- What a builder holds, as a list. -/
theorem pct_Encode.keep {T e B b : Nat} {bs : List Value} {w w1 : World} (h : Lib.IsBuilderF T e B b bs w) (hb : Below w.heap.size w w1) : Lib.IsBuilderF T e B b bs w1 := by
  rcases h with h | h
  · have hl := h.lt
    obtain ⟨h1, v, h2, h3, h4⟩ := h
    exact .inl ⟨h1, v, (hb.block b hl).trans h2, h3.kept (grown_of_below hb none) (by cases v.ownBlock <;> simp), h4⟩
  · have hl := h.lt
    obtain ⟨h1, v, h2, h3, h4⟩ := h
    exact .inr ⟨h1, v, (hb.block b hl).trans h2, h3.kept (grown_of_below hb none) (by cases v.ownBlock <;> simp), h4⟩
theorem pct_Encode.size {T e B b : Nat} {bs : List Value} {w : World} (h : Lib.IsBuilderF T e B b bs w) : B ≤ w.heap.size := by
  rcases h with h | h
  · have := h.lt; have := h.1; omega
  · have := h.lt; have := h.1; omega
def pct_Encode.u8 (x : Int) : UInt8 := UInt8.ofNat x.toNat
theorem pct_Encode.u8_eq {x : Int} (h : 0 ≤ x ∧ x ≤ 255) : ((pct_Encode.u8 x).toNat : Int) = x := by
  unfold pct_Encode.u8
  rw [UInt8.toNat_ofNat']
  omega
theorem pct_Encode.put {T e B b : Nat} {out : List UInt8} {x : Int} (hx : 0 ≤ x ∧ x ≤ 255) {p : Value} {w : World} (hp : p = .pointer (some ⟨b, 0, none⟩)) (h : Lib.BuilderAtF T e B b p (Lib.byteCells out ++ [.int .u8 x]) w) : Lib.IsBuilderF T e B b (Lib.byteCells (out ++ [pct_Encode.u8 x])) w := by
  subst hp
  rw [Lib.byteCells_append]
  have : Lib.byteCells [pct_Encode.u8 x] = [.int .u8 x] := by
    show [Value.int .u8 ((pct_Encode.u8 x).toNat : Int)] = _
    rw [pct_Encode.u8_eq hx]
  rw [this]
  exact .inr h
def pct_Encode.hex (q : Int) : UInt8 := pct_Encode.u8 (bt (⟨#[48, 49, 50, 51, 52, 53, 54, 55, 56, 57, 65, 66, 67, 68, 69, 70]⟩ : ByteArray) q)
def pct_Encode.l0 : Nat → ByteArray → Int → List UInt8 → Option ByteArray
  | 0, _, _, _ => none
  | k + 1, s, i, out => if i < (s.size : Int) then ((pct_plain.f k (bt s i)).bind fun t => if t = true then pct_Encode.l0 k s (i + 1) (out ++ [pct_Encode.u8 (bt s i)]) else pct_Encode.l0 k s (i + 1) (out ++ [37, pct_Encode.hex (bt s i / 16), pct_Encode.hex (bt s i % 16)])) else some ⟨out.toArray⟩
def pct_Encode.f (k : Nat) (a0 : ByteArray) : Option (ByteArray) := if a0.size ≤ 1000000 then pct_Encode.l0 k a0 0 [] else none
theorem pct_Encode.mono_l : ∀ k, (∀ y0 y1 y2, LeO (pct_Encode.l0 k y0 y1 y2) (pct_Encode.l0 (k + 1) y0 y1 y2))
  | 0 => fun _ _ _ r h => by simp [pct_Encode.l0] at h
  | k + 1 => by
    have ih0 := pct_Encode.mono_l k
    · intro y0 y1 y2
      unfold pct_Encode.l0
      repeat' first
      | (with_reducible exact ih0 _ _ _)
      | (with_reducible exact pct_plain.mono _ _)
      | (with_reducible exact LeO.refl _)
      | (with_reducible exact LeO.none _)
      | (with_reducible refine LeO.ite ?_ ?_)
      | (with_reducible refine LeO.bind ?_ (fun _ => ?_))
      | exact ih0 _ _ _
      | exact pct_plain.mono _ _
      | exact LeO.none _
      | refine LeO.ite ?_ ?_
      | refine LeO.bind ?_ (fun _ => ?_)
theorem pct_Encode.mono : ∀ a0 k, LeO (pct_Encode.f k a0) (pct_Encode.f (k + 1) a0) := by
  intro a0 k
  have ih0 := pct_Encode.mono_l k
  unfold pct_Encode.f
  repeat' first
      | (with_reducible exact ih0 _ _ _)
      | (with_reducible exact pct_plain.mono _ _)
      | (with_reducible exact LeO.refl _)
      | (with_reducible exact LeO.none _)
      | (with_reducible refine LeO.ite ?_ ?_)
      | (with_reducible refine LeO.bind ?_ (fun _ => ?_))
      | exact ih0 _ _ _
      | exact pct_plain.mono _ _
      | exact LeO.none _
      | refine LeO.ite ?_ ?_
      | refine LeO.bind ?_ (fun _ => ?_)
set_option maxHeartbeats 8000000 in
set_option maxRecDepth 100000 in
theorem pct_Encode.calls (k : Nat) (a0 : ByteArray) (r : ByteArray) (w : World) (h : pct_Encode.f k a0 = some r) :
    Calls Tryd.prog 16 #[.string a0] w fun e w' => e = .returned (.string r) ∧ Below w.heap.size w w' := by
  unfold pct_Encode.f at h
  by_cases hs : a0.size ≤ 1000000
  · rw [if_pos hs] at h
    have H' := Aside0.mk h
    have HS := Aside0.mk hs
    clear h hs
    go_enter Tryd.func16, Tryd.ntmps16
    go_wp2
    go_loopg [8] k (fun kq v8 wr => ∃ (i : Int) (out : List UInt8), v8 = .int .i64 i ∧ Aside0 (pct_Encode.l0 kq a0 i out = some r) ∧ Aside0 (kq ≤ k) ∧ Aside0 (0 ≤ i ∧ i ≤ (a0.size : Int) ∧ (out.length : Int) ≤ 3 * i) ∧ Aside0 (Lib.IsBuilderF 53 5 w.heap.size w.heap.size (Lib.byteCells out) wr) ∧ Aside0 (Below w.heap.size w wr))
    case atStart => exact ⟨0, [], rfl, H', ⟨Nat.le_refl _⟩, ⟨by simp⟩, ⟨Lib.IsBuilderF.of (Lib.fresh_isBuilder 53 5 w)⟩, ⟨(Below.refl _ w).alloc (Nat.le_refl _) _⟩⟩
    case round =>
      clear H'
      obtain ⟨i, out, rfl, HA, HK1, HI, HB, HW⟩ := hrel
      cases gk with
      | zero => exact absurd HA.out (by simp [pct_Encode.l0])
      | succ k1 =>
        have H := HA.out
        clear HA
        have hi := HI.out
        have hs := HS.out
        simp only [pct_Encode.l0] at H
        have hx4 := bt_at a0 i
        have hw1 : wrap64 (i + 1) = i + 1 := by unfold wrap64; omega
        have hsz := pct_Encode.size HB.out
        by_cases c2 : i < (a0.size : Int)
        · rw [if_pos c2] at H
          have p4 : (0 ≤ i) = True := eq_true hi.1
          have q4 : (i < (a0.size : Int)) = True := eq_true c2
          have c2b : decide (i < (a0.size : Int)) = true := decide_eq_true c2
          have ho := HB.out
          have hol : (Lib.byteCells out).length + 1 ≤ 140737488355328 := by rw [Lib.byteCells_length]; omega
          have hbr := bt_range a0 i
          replace H := Option.bind_eq_some_iff.mp H
          obtain ⟨t, HX, H⟩ := H
          have HX := Aside0.mk HX
          cases t with
          | true =>
            replace H : pct_Encode.l0 k1 a0 (i + 1) (out ++ [pct_Encode.u8 (bt a0 i)]) = some r := H
            have H' := Aside0.mk H
            clear H
            go_wp2_with (first | (go_at_call 30; refine (pct_plain.calls k1 (bt a0 i) true _ HX.out).mono ?_; rintro e w' ⟨rfl, ⟨nd, rfl⟩⟩; have ho' := pct_Encode.keep (w1 := wr.drewN nd) HB.out (pw_below_drewN (Below.refl _ _) nd); have hsz' := pct_Encode.size ho') | (go_at_call 22; refine (Any.Builder_WriteByte_k BldTryd.lays167 BldTryd.extra w.heap.size w.heap.size (Lib.byteCells out) _ _ ho' hol hsz').mono ?_; rintro e W1 ⟨rfl, h1, b1, _⟩))
            go_roundg k1
            case measure => have := HK1.out; omega
            case rel => exact ⟨i + 1, _, (by first | rfl | (simp only [hw1]; done) | (simp; omega)), H', ⟨by have := HK1.out; omega⟩, ⟨by simp; omega⟩, ⟨pct_Encode.put hbr rfl h1⟩, ⟨(pw_below_drewN HW.out nd).trans b1⟩⟩
          | false =>
            replace H : pct_Encode.l0 k1 a0 (i + 1) (out ++ [37, pct_Encode.hex (bt a0 i / 16), pct_Encode.hex (bt a0 i % 16)]) = some r := H
            have H' := Aside0.mk H
            clear H
            obtain ⟨q, hq⟩ : ∃ q, bt (⟨#[48, 49, 50, 51, 52, 53, 54, 55, 56, 57, 65, 66, 67, 68, 69, 70]⟩ : ByteArray) (bt a0 i / 16) = q := ⟨_, rfl⟩
            obtain ⟨m, hm⟩ : ∃ q, bt (⟨#[48, 49, 50, 51, 52, 53, 54, 55, 56, 57, 65, 66, 67, 68, 69, 70]⟩ : ByteArray) (bt a0 i % 16) = q := ⟨_, rfl⟩
            have hxq := bt_at (⟨#[48, 49, 50, 51, 52, 53, 54, 55, 56, 57, 65, 66, 67, 68, 69, 70]⟩ : ByteArray) (bt a0 i / 16)
            have hxm := bt_at (⟨#[48, 49, 50, 51, 52, 53, 54, 55, 56, 57, 65, 66, 67, 68, 69, 70]⟩ : ByteArray) (bt a0 i % 16)
            have hqr := bt_range (⟨#[48, 49, 50, 51, 52, 53, 54, 55, 56, 57, 65, 66, 67, 68, 69, 70]⟩ : ByteArray) (bt a0 i / 16)
            have hmr := bt_range (⟨#[48, 49, 50, 51, 52, 53, 54, 55, 56, 57, 65, 66, 67, 68, 69, 70]⟩ : ByteArray) (bt a0 i % 16)
            rw [hq] at hxq hqr
            rw [hm] at hxm hmr
            have HQ := Aside0.mk hq
            have HM := Aside0.mk hm
            have HQR := Aside0.mk hqr
            have HMR := Aside0.mk hmr
            clear hq hm hqr hmr
            go_wp2_with (first | (go_at_call 30; refine (pct_plain.calls k1 (bt a0 i) false _ HX.out).mono ?_; rintro e w' ⟨rfl, ⟨nd, rfl⟩⟩; have ho' := pct_Encode.keep (w1 := wr.drewN nd) HB.out (pw_below_drewN (Below.refl _ _) nd); have hsz' := pct_Encode.size ho'))
            refine (Any.Builder_WriteByte_k BldTryd.lays167 BldTryd.extra w.heap.size w.heap.size (Lib.byteCells out) 37 _ ho' hol hsz').mono ?_
            rintro e W1 ⟨rfl, h1, b1, _⟩
            have i1 := pct_Encode.put (x := 37) (by omega) rfl h1
            clear h1
            have z1 := pct_Encode.size i1
            have l1 : (Lib.byteCells (out ++ [pct_Encode.u8 37])).length + 1 ≤ 140737488355328 := by rw [Lib.byteCells_length]; simp; omega
            go_wp2_with fail
            refine (Any.Builder_WriteByte_k BldTryd.lays167 BldTryd.extra w.heap.size w.heap.size _ q _ i1 l1 z1).mono ?_
            rintro e W2 ⟨rfl, h2, b2, _⟩
            have i2 := pct_Encode.put HQR.out rfl h2
            clear h2
            have z2 := pct_Encode.size i2
            have l2 : (Lib.byteCells (out ++ [pct_Encode.u8 37] ++ [pct_Encode.u8 q])).length + 1 ≤ 140737488355328 := by rw [Lib.byteCells_length]; simp; omega
            go_wp2_with fail
            refine (Any.Builder_WriteByte_k BldTryd.lays167 BldTryd.extra w.heap.size w.heap.size _ m _ i2 l2 z2).mono ?_
            rintro e W3 ⟨rfl, h3, b3, _⟩
            have i3 := pct_Encode.put HMR.out rfl h3
            clear h3
            go_wp2_with fail
            go_roundg k1
            case measure => have := HK1.out; omega
            case rel =>
              have e3 : out ++ [37, pct_Encode.hex (bt a0 i / 16), pct_Encode.hex (bt a0 i % 16)] = out ++ [pct_Encode.u8 37] ++ [pct_Encode.u8 q] ++ [pct_Encode.u8 m] := by
                rw [← HQ.out, ← HM.out]
                simp [pct_Encode.hex]
                rfl
              exact ⟨i + 1, _, (by first | rfl | (simp only [hw1]; done) | (simp; omega)), H', ⟨by have := HK1.out; omega⟩, ⟨by simp; omega⟩, ⟨by rw [e3]; exact i3⟩, ⟨(((pw_below_drewN HW.out nd).trans b1).trans b2).trans b3⟩⟩
        · rw [if_neg c2] at H
          have c2b : decide (i < (a0.size : Int)) = false := decide_eq_false c2
          simp only [Option.some.injEq] at H
          subst H
          go_wp2_with (go_at_call 23; refine (Tryd.Builder_String_any_k w.heap.size w.heap.size out _ HB.out hsz).mono ?_; rintro e W1 ⟨rfl, _, b1, _⟩)
          go_ret
          exact ⟨rfl, HW.out.trans b1⟩
  · rw [if_neg hs] at h
    cases h


/-! ### strings_Join: function 33 -/
def strings_Join.f (l0 : List ByteArray) (a1 : ByteArray) : Option ByteArray := if l0.length ≤ 140737488355328 ∧ (Lib.join (l0.map (·.data.toList)) a1.data.toList).length ≤ 140737488355328 then some ⟨(Lib.join (l0.map (·.data.toList)) a1.data.toList).toArray⟩ else none
theorem strings_Join.spot {w : World} {ad : Addr} {v : Value} (h : w.cell? ad = some v) : ad = ⟨ad.block, ad.off, none⟩ := by
  unfold World.cell? at h
  cases ad with
  | mk b o s =>
    cases s with
    | none => rfl
    | some s => split at h <;> simp at h
theorem strings_Join.add {b o : Nat} (j : Nat) : (⟨b, o, none⟩ : Addr).add j = ⟨b, o + j, none⟩ := by
  unfold Addr.add
  split
  · subst_vars; rfl
  · rfl
theorem strings_Join.calls (A0 : Option Addr) (c0 : Nat) (l0 : List ByteArray) (a1 : ByteArray) (r : ByteArray) (w : World) (hr0 : Kd.C Kd.string w A0 l0.length l0) (hc0 : l0.length ≤ c0) (h : strings_Join.f l0 a1 = some r) :
    Calls Tryd.prog 33 #[.slice A0 l0.length c0, .string a1] w fun e w' => e = .returned (.string r) ∧ Below w.heap.size w w' := by
  unfold strings_Join.f at h
  split at h
  · rename_i hc
    obtain rfl := Option.some.inj h
    rcases hl : l0 with _ | ⟨x, l⟩
    · refine (Tryd.strings_Join_none A0 c0 a1 w).mono ?_
      rintro e w' ⟨rfl, rfl⟩
      exact ⟨rfl, Below.refl _ _⟩
    · obtain ⟨ad, rfl, hp⟩ := hr0.2.2 (by rw [hl]; simp)
      obtain ⟨cs, h1, h2, h3⟩ := hp 0 x (by rw [hl]; rfl)
      have h2' : cs = [.string x] := h2
      subst h2'
      have hs := strings_Join.spot (h3 0 _ rfl)
      have hs' : ad = ⟨ad.block, ad.off, none⟩ := by
        have e0 : ad.add (0 * Kd.string.sz + 0) = ad := by simp [Addr.add]
        rw [e0] at hs
        exact hs
      obtain ⟨b, o, rfl⟩ : ∃ b o, ad = ⟨b, o, none⟩ := ⟨_, _, hs'⟩
      clear hs hs'
      have hcell : ∀ (j : Nat) x, l0[j]? = some x → w.cell? ⟨b, o + j, none⟩ = some (.string x) := by
        intro j y hy
        obtain ⟨cs, g1, g2, g3⟩ := hp j y hy
        have g2' : cs = [.string y] := g2
        subst g2'
        have := g3 0 _ rfl
        rw [show j * Kd.string.sz + 0 = j from by show j * 1 + 0 = j; omega, strings_Join.add] at this
        exact this
      have hb : b < w.heap.size := World.block_lt_of_cell? w ⟨b, o + 0, none⟩ (hcell 0 x (by rw [hl]; rfl))
      rw [← hl]
      refine (Tryd.strings_Join b o c0 l0 a1 w hcell hb hc.1 hc0 hc.2).mono ?_
      rintro e w' ⟨rfl, hb⟩
      exact ⟨rfl, hb⟩
  · cases h


end Go.Proofs.YteladeppgedomaaDoor.PPctTarget
