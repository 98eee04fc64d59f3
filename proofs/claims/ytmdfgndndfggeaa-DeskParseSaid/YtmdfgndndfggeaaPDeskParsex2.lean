-- By gp.py, a program of this session: the print of the kit with contracts of this session's own beside it.
import Derived.Test.YtmdfgndndfggeaaPDeskParsex0
namespace Go.Proofs.Ytmdfgndndfggeaa.PDeskParse
open Go.RowKit Go.Proofs.Ytmdfgndndfggeaa.Gp Go.Proofs.YtmdfgndndfggeaaW.PrintWords Go.Proofs.YtmdfgndndfggeaaW.PrintLast Go.Proofs.YtmdfgndndfggeaaW.PrintMore
attribute [local go_sem] max2_int min2_int max_two min_two max_three min_three max_four min_four gp_gtr gp_leq gp_geq   -- for this text's walks alone
set_option linter.unusedVariables false
set_option linter.unusedSimpArgs false

/-! ### larumlaw33_short: function 6 -/
def larumlaw33_short.f (a0 : ByteArray) (a1 : Int) : Option (ByteArray) := if (a0.size : Int) > a1 then (if 0 ≤ a1 then (if a1 ≤ (a0.size : Int) then (some (a0.extract 0 (a1 : Int).toNat)) else (none)) else (none)) else (some a0)
set_option maxHeartbeats 8000000 in
set_option maxRecDepth 100000 in
theorem larumlaw33_short.calls (a0 : ByteArray) (a1 : Int) (r : ByteArray) (w : World) (h : larumlaw33_short.f a0 a1 = some r) :
    Calls Try.prog 6 #[.string a0, .int .i64 a1] w fun e w' => e = .returned (.string r) ∧ Drawn0 w w' := by
  have H : (if (a0.size : Int) > a1 then (if 0 ≤ a1 then (if a1 ≤ (a0.size : Int) then (some (a0.extract 0 (a1 : Int).toNat)) else (none)) else (none)) else (some a0)) = some r := h
  clear h
  by_cases c3 : (a0.size : Int) > a1
  · rw [if_pos c3] at H
    have c3b0 : decide (a1 < (a0.size : Int)) = true := decide_eq_true c3
    clear c3
    by_cases c4 : 0 ≤ a1
    · rw [if_pos c4] at H
      have c4b0 := eq_true c4
      have c4b1 : decide (0 ≤ a1) = true := decide_eq_true c4
      clear c4
      by_cases c5 : a1 ≤ (a0.size : Int)
      · rw [if_pos c5] at H
        have c5b0 := eq_true c5
        have c5b1 : decide (a1 ≤ (a0.size : Int)) = true := decide_eq_true c5
        clear c5
        obtain rfl := Option.some.inj H
        go_enter Try.func6, Try.ntmps6
        go_wp2
        go_ret
        exact ⟨by first | rfl | (simp; done) | (simp [*]; done) | (simp only [i64_w, i32_w]; done) | (simp [i64_w, i32_w, *]; done) | (simp [gp_ne]; done) | (simp [gp_ne, i64_w, i32_w, *]; done) | (simp [i64_w, i32_w]; (try unfold wrap64); (try unfold wrap32); omega), by repeat (first | exact Drawn0.refl _ | apply Drawn0.step)⟩
      · rw [if_neg c5] at H
        exact absurd H (by simp)
    · rw [if_neg c4] at H
      exact absurd H (by simp)
  · rw [if_neg c3] at H
    have c3b0 : decide (a1 < (a0.size : Int)) = false := decide_eq_false c3
    clear c3
    obtain rfl := Option.some.inj H
    go_enter Try.func6, Try.ntmps6
    go_wp2
    go_ret
    exact ⟨by first | rfl | (simp; done) | (simp [*]; done) | (simp only [i64_w, i32_w]; done) | (simp [i64_w, i32_w, *]; done) | (simp [gp_ne]; done) | (simp [gp_ne, i64_w, i32_w, *]; done) | (simp [i64_w, i32_w]; (try unfold wrap64); (try unfold wrap32); omega), by repeat (first | exact Drawn0.refl _ | apply Drawn0.step)⟩

/-! ### desk_Quoted: function 7 -/
theorem desk_Quoted.keep {T e B b : Nat} {bs : List Value} {w w1 : World} (h : Lib.IsBuilderF T e B b bs w) (hb : Below w.heap.size w w1) : Lib.IsBuilderF T e B b bs w1 := by
  rcases h with h | h
  · have hl := h.lt
    obtain ⟨h1, v, h2, h3, h4⟩ := h
    exact .inl ⟨h1, v, (hb.block b hl).trans h2, h3.kept (grown_of_below hb none) (by cases v.ownBlock <;> simp), h4⟩
  · have hl := h.lt
    obtain ⟨h1, v, h2, h3, h4⟩ := h
    exact .inr ⟨h1, v, (hb.block b hl).trans h2, h3.kept (grown_of_below hb none) (by cases v.ownBlock <;> simp), h4⟩
theorem desk_Quoted.size {T e B b : Nat} {bs : List Value} {w : World} (h : Lib.IsBuilderF T e B b bs w) : B ≤ w.heap.size := by
  rcases h with h | h
  · have := h.lt; have := h.1; omega
  · have := h.lt; have := h.1; omega
def desk_Quoted.u8 (x : Int) : UInt8 := UInt8.ofNat x.toNat
theorem desk_Quoted.u8_eq {x : Int} (h : 0 ≤ x ∧ x ≤ 255) : ((desk_Quoted.u8 x).toNat : Int) = x := by
  unfold desk_Quoted.u8
  rw [UInt8.toNat_ofNat']
  omega
theorem desk_Quoted.put {T e B b : Nat} {out : List UInt8} {x : Int} (hx : 0 ≤ x ∧ x ≤ 255) {p : Value} {w : World} (hp : p = .pointer (some ⟨b, 0, none⟩)) (h : Lib.BuilderAtF T e B b p (Lib.byteCells out ++ [.int .u8 x]) w) : Lib.IsBuilderF T e B b (Lib.byteCells (out ++ [desk_Quoted.u8 x])) w := by
  subst hp
  rw [Lib.byteCells_append]
  have : Lib.byteCells [desk_Quoted.u8 x] = [.int .u8 x] := by
    show [Value.int .u8 ((desk_Quoted.u8 x).toNat : Int)] = _
    rw [desk_Quoted.u8_eq hx]
  rw [this]
  exact .inr h
theorem desk_Quoted.puts {T e B b : Nat} {out : List UInt8} {s : ByteArray} {p : Value} {w : World} (hp : p = .pointer (some ⟨b, 0, none⟩)) (h : Lib.BuilderAtF T e B b p (Lib.byteCells out ++ Lib.strCells s) w) : Lib.IsBuilderF T e B b (Lib.byteCells (out ++ s.data.toList)) w := by
  subst hp
  rw [Lib.byteCells_append]
  have : Lib.byteCells s.data.toList = Lib.strCells s := rfl
  rw [this]
  exact .inr h
def desk_Quoted.hex (q : Int) : UInt8 := desk_Quoted.u8 (bt (⟨#[48, 49, 50, 51, 52, 53, 54, 55, 56, 57, 97, 98, 99, 100, 101, 102]⟩ : ByteArray) q)
theorem desk_Quoted.esc (out : List UInt8) (c : Int) : out ++ [92, desk_Quoted.u8 c] = out ++ [desk_Quoted.u8 92] ++ [desk_Quoted.u8 c] := by
  rw [show desk_Quoted.u8 92 = 92 from rfl, List.append_assoc]
  rfl
def desk_Quoted.one (c : Int) : List UInt8 := if c < 32 ∨ c > 126 then [92, 120, desk_Quoted.hex (c / 16), desk_Quoted.hex (c % 16)] else if c = 34 ∨ c = 92 then [92, desk_Quoted.u8 c] else [desk_Quoted.u8 c]
def desk_Quoted.l0 : Nat → ByteArray → Int → List UInt8 → Option ByteArray
  | 0, _, _, _ => none
  | k + 1, s, i, out => if i < (s.size : Int) then desk_Quoted.l0 k s (i + 1) (out ++ desk_Quoted.one (bt s i)) else some ⟨(out ++ [34]).toArray⟩
def desk_Quoted.f (k : Nat) (a0 : ByteArray) : Option (ByteArray) := if a0.size ≤ 1000000 then desk_Quoted.l0 k a0 0 [34] else none
theorem desk_Quoted.mono_l : ∀ k, (∀ y0 y1 y2, LeO (desk_Quoted.l0 k y0 y1 y2) (desk_Quoted.l0 (k + 1) y0 y1 y2))
  | 0 => fun _ _ _ r h => by simp [desk_Quoted.l0] at h
  | k + 1 => by
    have ih0 := desk_Quoted.mono_l k
    · intro y0 y1 y2
      unfold desk_Quoted.l0
      repeat' first
      | (with_reducible exact ih0 _ _ _)
      | (with_reducible exact LeO.refl _)
      | (with_reducible exact LeO.none _)
      | (with_reducible refine LeO.ite ?_ ?_)
      | exact ih0 _ _ _
      | exact LeO.none _
      | refine LeO.ite ?_ ?_
theorem desk_Quoted.mono : ∀ a0 k, LeO (desk_Quoted.f k a0) (desk_Quoted.f (k + 1) a0) := by
  intro a0 k
  have ih0 := desk_Quoted.mono_l k
  unfold desk_Quoted.f
  repeat' first
      | (with_reducible exact ih0 _ _ _)
      | (with_reducible exact LeO.refl _)
      | (with_reducible exact LeO.none _)
      | (with_reducible refine LeO.ite ?_ ?_)
      | exact ih0 _ _ _
      | exact LeO.none _
      | refine LeO.ite ?_ ?_
set_option maxHeartbeats 8000000 in
set_option maxRecDepth 100000 in
theorem desk_Quoted.calls (k : Nat) (a0 : ByteArray) (r : ByteArray) (w : World) (h : desk_Quoted.f k a0 = some r) :
    Calls Try.prog 7 #[.string a0] w fun e w' => e = .returned (.string r) ∧ Below w.heap.size w w' := by
  unfold desk_Quoted.f at h
  by_cases hs : a0.size ≤ 1000000
  · rw [if_pos hs] at h
    have H' := Aside0.mk h
    have HS := Aside0.mk hs
    clear h hs
    have hof : Lib.IsBuilderF 46 5 w.heap.size w.heap.size (Lib.byteCells []) _ := Lib.IsBuilderF.of (Lib.fresh_isBuilder 46 5 w)
    have hsf := desk_Quoted.size hof
    have HOF := Aside0.mk hof
    have HBW := Aside0.mk ((Below.refl _ w).alloc (Nat.le_refl _) (.cells #[.pointer none, .slice none 0 0] 46))
    clear hof
    go_enter Try.func7, Try.ntmps7
    go_wp2_with fail
    refine (Any.Builder_WriteByte_k BldTry.lays167 BldTry.extra w.heap.size w.heap.size (Lib.byteCells []) 34 _ HOF.out (by rw [Lib.byteCells_length]; simp) hsf).mono ?_
    rintro e W0 ⟨rfl, h0, b0, _⟩
    have i0 := desk_Quoted.put (x := 34) (by omega) rfl h0
    clear h0
    have HB0 := Aside0.mk i0
    have HW0 := Aside0.mk (HBW.out.trans b0)
    clear i0 b0 hsf
    go_wp2_with fail
    go_loopg [9] k (fun kq v8 wr => ∃ (i : Int) (out : List UInt8), v8 = .int .i64 i ∧ Aside0 (desk_Quoted.l0 kq a0 i out = some r) ∧ Aside0 (kq ≤ k) ∧ Aside0 (0 ≤ i ∧ i ≤ (a0.size : Int) ∧ (out.length : Int) ≤ 4 * i + 1) ∧ Aside0 (Lib.IsBuilderF 46 5 w.heap.size w.heap.size (Lib.byteCells out) wr) ∧ Aside0 (Below w.heap.size w wr))
    case atStart => exact ⟨0, [34], rfl, H', ⟨Nat.le_refl _⟩, ⟨by simp⟩, HB0, HW0⟩
    case round =>
      clear H' HB0 HW0 HOF HBW
      obtain ⟨i, out, rfl, HA, HK1, HI, HB, HW⟩ := hrel
      cases gk with
      | zero => exact absurd HA.out (by simp [desk_Quoted.l0])
      | succ k1 =>
        have H := HA.out
        clear HA
        have hi := HI.out
        have hs := HS.out
        simp only [desk_Quoted.l0] at H
        have hx4 := bt_at a0 i
        have hw1 : wrap64 (i + 1) = i + 1 := by unfold wrap64; omega
        have hsz := desk_Quoted.size HB.out
        by_cases c2 : i < (a0.size : Int)
        · rw [if_pos c2] at H
          have p4 : (0 ≤ i) = True := eq_true hi.1
          have q4 : (i < (a0.size : Int)) = True := eq_true c2
          have c2b : decide (i < (a0.size : Int)) = true := decide_eq_true c2
          have ho := HB.out
          have hol : (Lib.byteCells out).length + 1 ≤ 140737488355328 := by rw [Lib.byteCells_length]; omega
          have hol2 : (Lib.byteCells out).length + (⟨#[92, 120]⟩ : ByteArray).size ≤ 140737488355328 := by rw [Lib.byteCells_length]; show _ + 2 ≤ _; omega
          have hbr := bt_range a0 i
          obtain ⟨c, hc⟩ : ∃ c, bt a0 i = c := ⟨_, rfl⟩
          rw [hc] at hx4 hbr H
          clear hc
          unfold desk_Quoted.one at H
          by_cases q1 : c < 32 ∨ c > 126
          · rw [if_pos q1] at H
            have H' := Aside0.mk H
            clear H
            obtain ⟨q, hq⟩ : ∃ q, bt (⟨#[48, 49, 50, 51, 52, 53, 54, 55, 56, 57, 97, 98, 99, 100, 101, 102]⟩ : ByteArray) (c / 16) = q := ⟨_, rfl⟩
            obtain ⟨m, hm⟩ : ∃ q, bt (⟨#[48, 49, 50, 51, 52, 53, 54, 55, 56, 57, 97, 98, 99, 100, 101, 102]⟩ : ByteArray) (c % 16) = q := ⟨_, rfl⟩
            have hxq := bt_at (⟨#[48, 49, 50, 51, 52, 53, 54, 55, 56, 57, 97, 98, 99, 100, 101, 102]⟩ : ByteArray) (c / 16)
            have hxm := bt_at (⟨#[48, 49, 50, 51, 52, 53, 54, 55, 56, 57, 97, 98, 99, 100, 101, 102]⟩ : ByteArray) (c % 16)
            have hqr := bt_range (⟨#[48, 49, 50, 51, 52, 53, 54, 55, 56, 57, 97, 98, 99, 100, 101, 102]⟩ : ByteArray) (c / 16)
            have hmr := bt_range (⟨#[48, 49, 50, 51, 52, 53, 54, 55, 56, 57, 97, 98, 99, 100, 101, 102]⟩ : ByteArray) (c % 16)
            rw [hq] at hxq hqr
            rw [hm] at hxm hmr
            have HQ := Aside0.mk hq
            have HM := Aside0.mk hm
            have HQR := Aside0.mk hqr
            have HMR := Aside0.mk hmr
            clear hq hm hqr hmr
            have hd1 : (decide (c < 32) || decide (c > 126)) = true := by simpa using q1
            cases hlt : decide (c < 32) with
            | true =>
              go_wp2_with fail
              refine (Any.Builder_WriteString_k BldTry.lays166 BldTry.extra w.heap.size w.heap.size (Lib.byteCells out) (⟨#[92, 120]⟩ : ByteArray) _ ho hol2 hsz).mono ?_
              rintro e W1 ⟨rfl, h1, b1, _⟩
              have i1 := desk_Quoted.puts rfl h1
              clear h1
              have z1 := desk_Quoted.size i1
              have l1 : (Lib.byteCells (out ++ (⟨#[92, 120]⟩ : ByteArray).data.toList)).length + 1 ≤ 140737488355328 := by rw [Lib.byteCells_length]; simp; omega
              go_wp2_with fail
              refine (Any.Builder_WriteByte_k BldTry.lays167 BldTry.extra w.heap.size w.heap.size _ q _ i1 l1 z1).mono ?_
              rintro e W2 ⟨rfl, h2, b2, _⟩
              have i2 := desk_Quoted.put HQR.out rfl h2
              clear h2
              have z2 := desk_Quoted.size i2
              have l2 : (Lib.byteCells (out ++ (⟨#[92, 120]⟩ : ByteArray).data.toList ++ [desk_Quoted.u8 q])).length + 1 ≤ 140737488355328 := by rw [Lib.byteCells_length]; simp; omega
              go_wp2_with fail
              refine (Any.Builder_WriteByte_k BldTry.lays167 BldTry.extra w.heap.size w.heap.size _ m _ i2 l2 z2).mono ?_
              rintro e W3 ⟨rfl, h3, b3, _⟩
              have i3 := desk_Quoted.put HMR.out rfl h3
              clear h3
              go_wp2_with fail
              go_roundg k1
              case measure => have := HK1.out; omega
              case rel =>
                have e3 : out ++ [92, 120, desk_Quoted.hex (c / 16), desk_Quoted.hex (c % 16)] = out ++ (⟨#[92, 120]⟩ : ByteArray).data.toList ++ [desk_Quoted.u8 q] ++ [desk_Quoted.u8 m] := by
                  rw [← HQ.out, ← HM.out]
                  simp [desk_Quoted.hex]
                exact ⟨i + 1, _, (by first | rfl | (simp only [hw1]; done) | (simp; omega)), H', ⟨by have := HK1.out; omega⟩, ⟨by simp; omega⟩, ⟨by rw [e3]; exact i3⟩, ⟨((HW.out.trans b1).trans b2).trans b3⟩⟩
            | false =>
              have hgt : decide (c > 126) = true := by simpa [hlt] using hd1
              go_wp2_with fail
              refine (Any.Builder_WriteString_k BldTry.lays166 BldTry.extra w.heap.size w.heap.size (Lib.byteCells out) (⟨#[92, 120]⟩ : ByteArray) _ ho hol2 hsz).mono ?_
              rintro e W1 ⟨rfl, h1, b1, _⟩
              have i1 := desk_Quoted.puts rfl h1
              clear h1
              have z1 := desk_Quoted.size i1
              have l1 : (Lib.byteCells (out ++ (⟨#[92, 120]⟩ : ByteArray).data.toList)).length + 1 ≤ 140737488355328 := by rw [Lib.byteCells_length]; simp; omega
              go_wp2_with fail
              refine (Any.Builder_WriteByte_k BldTry.lays167 BldTry.extra w.heap.size w.heap.size _ q _ i1 l1 z1).mono ?_
              rintro e W2 ⟨rfl, h2, b2, _⟩
              have i2 := desk_Quoted.put HQR.out rfl h2
              clear h2
              have z2 := desk_Quoted.size i2
              have l2 : (Lib.byteCells (out ++ (⟨#[92, 120]⟩ : ByteArray).data.toList ++ [desk_Quoted.u8 q])).length + 1 ≤ 140737488355328 := by rw [Lib.byteCells_length]; simp; omega
              go_wp2_with fail
              refine (Any.Builder_WriteByte_k BldTry.lays167 BldTry.extra w.heap.size w.heap.size _ m _ i2 l2 z2).mono ?_
              rintro e W3 ⟨rfl, h3, b3, _⟩
              have i3 := desk_Quoted.put HMR.out rfl h3
              clear h3
              go_wp2_with fail
              go_roundg k1
              case measure => have := HK1.out; omega
              case rel =>
                have e3 : out ++ [92, 120, desk_Quoted.hex (c / 16), desk_Quoted.hex (c % 16)] = out ++ (⟨#[92, 120]⟩ : ByteArray).data.toList ++ [desk_Quoted.u8 q] ++ [desk_Quoted.u8 m] := by
                  rw [← HQ.out, ← HM.out]
                  simp [desk_Quoted.hex]
                exact ⟨i + 1, _, (by first | rfl | (simp only [hw1]; done) | (simp; omega)), H', ⟨by have := HK1.out; omega⟩, ⟨by simp; omega⟩, ⟨by rw [e3]; exact i3⟩, ⟨((HW.out.trans b1).trans b2).trans b3⟩⟩
          · rw [if_neg q1] at H
            have g1 : decide (c < 32) = false := decide_eq_false (fun hh => q1 (.inl hh))
            have g2 : decide (c > 126) = false := decide_eq_false (fun hh => q1 (.inr hh))
            have g3 : decide (126 < c) = false := g2
            by_cases e1 : c = 34
            · rw [if_pos (.inl e1)] at H
              subst e1
              have H' := Aside0.mk H
              clear H
              go_wp2_with fail
              refine (Any.Builder_WriteByte_k BldTry.lays167 BldTry.extra w.heap.size w.heap.size _ 92 _ ho hol hsz).mono ?_
              rintro e W1 ⟨rfl, h1, b1, _⟩
              have i1 := desk_Quoted.put (x := 92) ⟨by decide, by decide⟩ rfl h1
              clear h1
              have z1 := desk_Quoted.size i1
              have l1 : (Lib.byteCells (out ++ [desk_Quoted.u8 92])).length + 1 ≤ 140737488355328 := by rw [Lib.byteCells_length]; simp; omega
              go_wp2_with fail
              refine (Any.Builder_WriteByte_k BldTry.lays167 BldTry.extra w.heap.size w.heap.size _ 34 _ i1 l1 z1).mono ?_
              rintro e W2 ⟨rfl, h2, b2, _⟩
              have i2 := desk_Quoted.put hbr rfl h2
              clear h2
              go_wp2_with fail
              go_roundg k1
              case measure => have := HK1.out; omega
              case rel => exact ⟨i + 1, _, (by first | rfl | (simp only [hw1]; done) | (simp; omega)), H', ⟨by have := HK1.out; omega⟩, ⟨by simp; omega⟩, ⟨by rw [desk_Quoted.esc]; exact i2⟩, ⟨(HW.out.trans b1).trans b2⟩⟩
            · by_cases e2 : c = 92
              · rw [if_pos (.inr e2)] at H
                subst e2
                have H' := Aside0.mk H
                clear H
                go_wp2_with fail
                refine (Any.Builder_WriteByte_k BldTry.lays167 BldTry.extra w.heap.size w.heap.size _ 92 _ ho hol hsz).mono ?_
                rintro e W1 ⟨rfl, h1, b1, _⟩
                have i1 := desk_Quoted.put (x := 92) ⟨by decide, by decide⟩ rfl h1
                clear h1
                have z1 := desk_Quoted.size i1
                have l1 : (Lib.byteCells (out ++ [desk_Quoted.u8 92])).length + 1 ≤ 140737488355328 := by rw [Lib.byteCells_length]; simp; omega
                go_wp2_with fail
                refine (Any.Builder_WriteByte_k BldTry.lays167 BldTry.extra w.heap.size w.heap.size _ 92 _ i1 l1 z1).mono ?_
                rintro e W2 ⟨rfl, h2, b2, _⟩
                have i2 := desk_Quoted.put hbr rfl h2
                clear h2
                go_wp2_with fail
                go_roundg k1
                case measure => have := HK1.out; omega
                case rel => exact ⟨i + 1, _, (by first | rfl | (simp only [hw1]; done) | (simp; omega)), H', ⟨by have := HK1.out; omega⟩, ⟨by simp; omega⟩, ⟨by rw [desk_Quoted.esc]; exact i2⟩, ⟨(HW.out.trans b1).trans b2⟩⟩
              · rw [if_neg (by omega)] at H
                have H' := Aside0.mk H
                clear H
                have e1b : (c == 34) = false := by simpa using e1
                have e2b : (c == 92) = false := by simpa using e2
                go_wp2_with fail
                refine (Any.Builder_WriteByte_k BldTry.lays167 BldTry.extra w.heap.size w.heap.size _ c _ ho hol hsz).mono ?_
                rintro e W2 ⟨rfl, h2, b2, _⟩
                have i2 := desk_Quoted.put hbr rfl h2
                clear h2
                go_wp2_with fail
                go_roundg k1
                case measure => have := HK1.out; omega
                case rel => exact ⟨i + 1, _, (by first | rfl | (simp only [hw1]; done) | (simp; omega)), H', ⟨by have := HK1.out; omega⟩, ⟨by simp; omega⟩, ⟨i2⟩, ⟨HW.out.trans b2⟩⟩
        · rw [if_neg c2] at H
          have c2b : decide (i < (a0.size : Int)) = false := decide_eq_false c2
          simp only [Option.some.injEq] at H
          subst H
          have hol : (Lib.byteCells out).length + 1 ≤ 140737488355328 := by rw [Lib.byteCells_length]; omega
          go_wp2_with fail
          refine (Any.Builder_WriteByte_k BldTry.lays167 BldTry.extra w.heap.size w.heap.size (Lib.byteCells out) 34 _ HB.out hol hsz).mono ?_
          rintro e W1 ⟨rfl, h1, b1, _⟩
          have i1 := desk_Quoted.put (x := 34) (by omega) rfl h1
          clear h1
          have z1 := desk_Quoted.size i1
          go_wp2_with (go_at_call 20; refine (Try.Builder_String_any_k w.heap.size w.heap.size (out ++ [desk_Quoted.u8 34]) _ i1 z1).mono ?_; rintro e W2 ⟨rfl, _, b2, _⟩)
          go_ret
          exact ⟨rfl, (HW.out.trans b1).trans b2⟩
  · rw [if_neg hs] at h
    cases h


/-! ### desk_form: function 24 -/
def desk_form.f (a0 : Int) : Option (ByteArray × ByteArray) := if a0 = 1 then (some ((⟨#[97, 99, 99, 101, 112, 116]⟩ : ByteArray), (⟨#[]⟩ : ByteArray))) else (if a0 = 2 then (some ((⟨#[98, 121, 116, 101, 115]⟩ : ByteArray), (⟨#[99, 116]⟩ : ByteArray))) else (if a0 = 3 then (some ((⟨#[98, 117, 100, 103, 101, 116]⟩ : ByteArray), (⟨#[99, 110]⟩ : ByteArray))) else (if a0 = 4 then (some ((⟨#[99, 108, 111, 115, 101]⟩ : ByteArray), (⟨#[99]⟩ : ByteArray))) else (if a0 = 5 then (some ((⟨#[116, 105, 99, 107]⟩ : ByteArray), (⟨#[110]⟩ : ByteArray))) else (if a0 = 6 then (some ((⟨#[112, 105, 99, 107]⟩ : ByteArray), (⟨#[99]⟩ : ByteArray))) else (some ((⟨#[]⟩ : ByteArray), (⟨#[]⟩ : ByteArray))))))))
set_option maxHeartbeats 8000000 in
set_option maxRecDepth 100000 in
theorem desk_form.calls (a0 : Int) (r1 : ByteArray) (r2 : ByteArray) (w : World) (h : desk_form.f a0 = some (r1, r2)) :
    Calls Try.prog 24 #[.int .i64 a0] w fun e w' => e = .returned (.tuple #[.string r1, .string r2]) ∧ Drawn0 w w' := by
  have H : (if a0 = 1 then (some ((⟨#[97, 99, 99, 101, 112, 116]⟩ : ByteArray), (⟨#[]⟩ : ByteArray))) else (if a0 = 2 then (some ((⟨#[98, 121, 116, 101, 115]⟩ : ByteArray), (⟨#[99, 116]⟩ : ByteArray))) else (if a0 = 3 then (some ((⟨#[98, 117, 100, 103, 101, 116]⟩ : ByteArray), (⟨#[99, 110]⟩ : ByteArray))) else (if a0 = 4 then (some ((⟨#[99, 108, 111, 115, 101]⟩ : ByteArray), (⟨#[99]⟩ : ByteArray))) else (if a0 = 5 then (some ((⟨#[116, 105, 99, 107]⟩ : ByteArray), (⟨#[110]⟩ : ByteArray))) else (if a0 = 6 then (some ((⟨#[112, 105, 99, 107]⟩ : ByteArray), (⟨#[99]⟩ : ByteArray))) else (some ((⟨#[]⟩ : ByteArray), (⟨#[]⟩ : ByteArray))))))))) = some (r1, r2) := h
  clear h
  by_cases c2 : a0 = 1
  · rw [if_pos c2] at H
    have c2b0 : (a0 == 1) = true := beq_iff_eq.mpr c2
    have c2b1 : (a0 != 1) = false := bne_eq_false_iff_eq.mpr c2
    clear c2
    simp only [Option.some.injEq, Prod.mk.injEq] at H
    obtain ⟨rfl, rfl⟩ := H
    go_enter Try.func24, Try.ntmps24
    go_wp2
    go_ret2
    exact ⟨by first | rfl | (simp; done) | (simp [*]; done) | (simp only [i64_w, i32_w]; done) | (simp [i64_w, i32_w, *]; done) | (simp [gp_ne]; done) | (simp [gp_ne, i64_w, i32_w, *]; done) | (simp [i64_w, i32_w]; (try unfold wrap64); (try unfold wrap32); omega), by repeat (first | exact Drawn0.refl _ | apply Drawn0.step)⟩
  · rw [if_neg c2] at H
    have c2b0 : (a0 == 1) = false := beq_eq_false_iff_ne.mpr c2
    have c2b1 : (a0 != 1) = true := bne_iff_ne.mpr c2
    by_cases c3 : a0 = 2
    · rw [if_pos c3] at H
      have c3b0 : (a0 == 2) = true := beq_iff_eq.mpr c3
      have c3b1 : (a0 != 2) = false := bne_eq_false_iff_eq.mpr c3
      clear c3
      simp only [Option.some.injEq, Prod.mk.injEq] at H
      obtain ⟨rfl, rfl⟩ := H
      go_enter Try.func24, Try.ntmps24
      go_wp2
      go_ret2
      exact ⟨by first | rfl | (simp; done) | (simp [*]; done) | (simp only [i64_w, i32_w]; done) | (simp [i64_w, i32_w, *]; done) | (simp [gp_ne]; done) | (simp [gp_ne, i64_w, i32_w, *]; done) | (simp [i64_w, i32_w]; (try unfold wrap64); (try unfold wrap32); omega), by repeat (first | exact Drawn0.refl _ | apply Drawn0.step)⟩
    · rw [if_neg c3] at H
      have c3b0 : (a0 == 2) = false := beq_eq_false_iff_ne.mpr c3
      have c3b1 : (a0 != 2) = true := bne_iff_ne.mpr c3
      by_cases c4 : a0 = 3
      · rw [if_pos c4] at H
        have c4b0 : (a0 == 3) = true := beq_iff_eq.mpr c4
        have c4b1 : (a0 != 3) = false := bne_eq_false_iff_eq.mpr c4
        clear c4
        simp only [Option.some.injEq, Prod.mk.injEq] at H
        obtain ⟨rfl, rfl⟩ := H
        go_enter Try.func24, Try.ntmps24
        go_wp2
        go_ret2
        exact ⟨by first | rfl | (simp; done) | (simp [*]; done) | (simp only [i64_w, i32_w]; done) | (simp [i64_w, i32_w, *]; done) | (simp [gp_ne]; done) | (simp [gp_ne, i64_w, i32_w, *]; done) | (simp [i64_w, i32_w]; (try unfold wrap64); (try unfold wrap32); omega), by repeat (first | exact Drawn0.refl _ | apply Drawn0.step)⟩
      · rw [if_neg c4] at H
        have c4b0 : (a0 == 3) = false := beq_eq_false_iff_ne.mpr c4
        have c4b1 : (a0 != 3) = true := bne_iff_ne.mpr c4
        by_cases c5 : a0 = 4
        · rw [if_pos c5] at H
          have c5b0 : (a0 == 4) = true := beq_iff_eq.mpr c5
          have c5b1 : (a0 != 4) = false := bne_eq_false_iff_eq.mpr c5
          clear c5
          simp only [Option.some.injEq, Prod.mk.injEq] at H
          obtain ⟨rfl, rfl⟩ := H
          go_enter Try.func24, Try.ntmps24
          go_wp2
          go_ret2
          exact ⟨by first | rfl | (simp; done) | (simp [*]; done) | (simp only [i64_w, i32_w]; done) | (simp [i64_w, i32_w, *]; done) | (simp [gp_ne]; done) | (simp [gp_ne, i64_w, i32_w, *]; done) | (simp [i64_w, i32_w]; (try unfold wrap64); (try unfold wrap32); omega), by repeat (first | exact Drawn0.refl _ | apply Drawn0.step)⟩
        · rw [if_neg c5] at H
          have c5b0 : (a0 == 4) = false := beq_eq_false_iff_ne.mpr c5
          have c5b1 : (a0 != 4) = true := bne_iff_ne.mpr c5
          by_cases c6 : a0 = 5
          · rw [if_pos c6] at H
            have c6b0 : (a0 == 5) = true := beq_iff_eq.mpr c6
            have c6b1 : (a0 != 5) = false := bne_eq_false_iff_eq.mpr c6
            clear c6
            simp only [Option.some.injEq, Prod.mk.injEq] at H
            obtain ⟨rfl, rfl⟩ := H
            go_enter Try.func24, Try.ntmps24
            go_wp2
            go_ret2
            exact ⟨by first | rfl | (simp; done) | (simp [*]; done) | (simp only [i64_w, i32_w]; done) | (simp [i64_w, i32_w, *]; done) | (simp [gp_ne]; done) | (simp [gp_ne, i64_w, i32_w, *]; done) | (simp [i64_w, i32_w]; (try unfold wrap64); (try unfold wrap32); omega), by repeat (first | exact Drawn0.refl _ | apply Drawn0.step)⟩
          · rw [if_neg c6] at H
            have c6b0 : (a0 == 5) = false := beq_eq_false_iff_ne.mpr c6
            have c6b1 : (a0 != 5) = true := bne_iff_ne.mpr c6
            by_cases c7 : a0 = 6
            · rw [if_pos c7] at H
              have c7b0 : (a0 == 6) = true := beq_iff_eq.mpr c7
              have c7b1 : (a0 != 6) = false := bne_eq_false_iff_eq.mpr c7
              clear c7
              simp only [Option.some.injEq, Prod.mk.injEq] at H
              obtain ⟨rfl, rfl⟩ := H
              go_enter Try.func24, Try.ntmps24
              go_wp2
              go_ret2
              exact ⟨by first | rfl | (simp; done) | (simp [*]; done) | (simp only [i64_w, i32_w]; done) | (simp [i64_w, i32_w, *]; done) | (simp [gp_ne]; done) | (simp [gp_ne, i64_w, i32_w, *]; done) | (simp [i64_w, i32_w]; (try unfold wrap64); (try unfold wrap32); omega), by repeat (first | exact Drawn0.refl _ | apply Drawn0.step)⟩
            · rw [if_neg c7] at H
              have c7b0 : (a0 == 6) = false := beq_eq_false_iff_ne.mpr c7
              have c7b1 : (a0 != 6) = true := bne_iff_ne.mpr c7
              simp only [Option.some.injEq, Prod.mk.injEq] at H
              obtain ⟨rfl, rfl⟩ := H
              go_enter Try.func24, Try.ntmps24
              go_wp2
              go_ret2
              exact ⟨by first | rfl | (simp; done) | (simp [*]; done) | (simp only [i64_w, i32_w]; done) | (simp [i64_w, i32_w, *]; done) | (simp [gp_ne]; done) | (simp [gp_ne, i64_w, i32_w, *]; done) | (simp [i64_w, i32_w]; (try unfold wrap64); (try unfold wrap32); omega), by repeat (first | exact Drawn0.refl _ | apply Drawn0.step)⟩

/-! ### num_based: function 40 -/
def num_based.l0 : Nat → Int → Int → ByteArray → Bool → Option (ByteArray)
  | 0, _, _, _, _ => none
  | k + 1, x0, x1, x5, x6 => if x6 = true then (if x1 = 0 then (none) else (if 0 ≤ (Int.tmod x0 x1) then (if (Int.tmod x0 x1) ≤ (IntKind.u64.wrap ((Int.tmod x0 x1) + 1)) then (if (IntKind.u64.wrap ((Int.tmod x0 x1) + 1)) ≤ 16 then (if ((⟨#[48, 49, 50, 51, 52, 53, 54, 55, 56, 57, 97, 98, 99, 100, 101, 102]⟩ : ByteArray).extract ((Int.tmod x0 x1) : Int).toNat ((IntKind.u64.wrap ((Int.tmod x0 x1) + 1)) : Int).toNat).size + x5.size ≤ 9223372036854775807 then (num_based.l0 k (IntKind.u64.wrap (Int.tdiv x0 x1)) x1 (((⟨#[48, 49, 50, 51, 52, 53, 54, 55, 56, 57, 97, 98, 99, 100, 101, 102]⟩ : ByteArray).extract ((Int.tmod x0 x1) : Int).toNat ((IntKind.u64.wrap ((Int.tmod x0 x1) + 1)) : Int).toNat) ++ x5) (decide ((IntKind.u64.wrap (Int.tdiv x0 x1)) > 0))) else (none)) else (none)) else (none)) else (none))) else (some x5)
def num_based.f (k : Nat) (a0 : Int) (a1 : Int) : Option (ByteArray) := num_based.l0 k a0 a1 (⟨#[]⟩ : ByteArray) true
theorem num_based.mono_l : ∀ k, (∀ y0 y1 y2 y3, LeO (num_based.l0 k y0 y1 y2 y3) (num_based.l0 (k + 1) y0 y1 y2 y3))
  | 0 => fun _ _ _ _ r h => by simp [num_based.l0] at h
  | k + 1 => by
    have ih0 := num_based.mono_l k
    · intro y0 y1 y2 y3
      unfold num_based.l0
      repeat' first
      | (with_reducible exact ih0 _ _ _ _)
      | (with_reducible exact LeO.refl _)
      | (with_reducible exact LeO.none _)
      | (with_reducible refine LeO.ite ?_ ?_)
      | (with_reducible refine LeO.bind ?_ (fun _ => ?_))
      | exact ih0 _ _ _ _
      | exact LeO.none _
      | refine LeO.ite ?_ ?_
      | refine LeO.bind ?_ (fun _ => ?_)
theorem num_based.mono : ∀ a0 a1 k, LeO (num_based.f k a0 a1) (num_based.f (k + 1) a0 a1) := by
  intro a0 a1 k
  have ih0 := num_based.mono_l k
  unfold num_based.f
  repeat' first
      | (with_reducible exact ih0 _ _ _ _)
      | (with_reducible exact LeO.refl _)
      | (with_reducible exact LeO.none _)
      | (with_reducible refine LeO.ite ?_ ?_)
      | (with_reducible refine LeO.bind ?_ (fun _ => ?_))
      | exact ih0 _ _ _ _
      | exact LeO.none _
      | refine LeO.ite ?_ ?_
      | refine LeO.bind ?_ (fun _ => ?_)
set_option maxHeartbeats 8000000 in
set_option maxRecDepth 100000 in
theorem num_based.calls (k : Nat) (a0 : Int) (a1 : Int) (r : ByteArray) (w : World) (h : num_based.f k a0 a1 = some r) :
    Calls Try.prog 40 #[.int .u64 a0, .int .u64 a1] w fun e w' => e = .returned (.string r) ∧ Drawn0 w w' := by
  have H : (num_based.l0 k a0 a1 (⟨#[]⟩ : ByteArray) true) = some r := h
  clear h
  have H' := Aside0.mk H
  clear H
  go_enter Try.func40, Try.ntmps40
  go_wp2
  repeat (go_quiet (fail); try go_wp2)
  go_loopg [0, 5, 6] k (fun kq v0 v5 v6 w' => ∃ (x0_1 : Int) (x5_1 : ByteArray) (x6_1 : Bool), v0 = .int .u64 x0_1 ∧ v5 = .string x5_1 ∧ v6 = .bool x6_1 ∧ Aside0 (num_based.l0 kq x0_1 a1 x5_1 x6_1 = some r) ∧ Aside0 (kq ≤ k) ∧ Drawn0 w w')
  case atStart => exact ⟨(a0), ((⟨#[]⟩ : ByteArray)), (true), (by first | rfl | (simp; done) | (simp [*]; done) | (simp only [i64_w, i32_w]; done) | (simp [i64_w, i32_w, *]; done) | (simp [gp_ne]; done) | (simp [gp_ne, i64_w, i32_w, *]; done) | (simp [i64_w, i32_w]; (try unfold wrap64); (try unfold wrap32); omega)), (by first | rfl | (simp; done) | (simp [*]; done) | (simp only [i64_w, i32_w]; done) | (simp [i64_w, i32_w, *]; done) | (simp [gp_ne]; done) | (simp [gp_ne, i64_w, i32_w, *]; done) | (simp [i64_w, i32_w]; (try unfold wrap64); (try unfold wrap32); omega)), (by first | rfl | (simp; done) | (simp [*]; done) | (simp only [i64_w, i32_w]; done) | (simp [i64_w, i32_w, *]; done) | (simp [gp_ne]; done) | (simp [gp_ne, i64_w, i32_w, *]; done) | (simp [i64_w, i32_w]; (try unfold wrap64); (try unfold wrap32); omega)), H', ⟨Nat.le_refl _⟩, by repeat (first | exact Drawn0.refl _ | apply Drawn0.step)⟩
  case round =>
    clear H'
    try clear p2
    obtain ⟨x0_1, x5_1, x6_1, rfl, rfl, rfl, HA, HK1, ⟨m1, rfl⟩⟩ := hrel
    cases gk with
    | zero => exact absurd HA.out (by simp [num_based.l0])
    | succ k1 =>
      have H := HA.out
      clear HA
      simp only [num_based.l0] at H
      by_cases c3 : x6_1 = true
      · subst c3
        have H1 : (if a1 = 0 then (none) else (if 0 ≤ (Int.tmod x0_1 a1) then (if (Int.tmod x0_1 a1) ≤ (IntKind.u64.wrap ((Int.tmod x0_1 a1) + 1)) then (if (IntKind.u64.wrap ((Int.tmod x0_1 a1) + 1)) ≤ 16 then (if ((⟨#[48, 49, 50, 51, 52, 53, 54, 55, 56, 57, 97, 98, 99, 100, 101, 102]⟩ : ByteArray).extract ((Int.tmod x0_1 a1) : Int).toNat ((IntKind.u64.wrap ((Int.tmod x0_1 a1) + 1)) : Int).toNat).size + x5_1.size ≤ 9223372036854775807 then (num_based.l0 k1 (IntKind.u64.wrap (Int.tdiv x0_1 a1)) a1 (((⟨#[48, 49, 50, 51, 52, 53, 54, 55, 56, 57, 97, 98, 99, 100, 101, 102]⟩ : ByteArray).extract ((Int.tmod x0_1 a1) : Int).toNat ((IntKind.u64.wrap ((Int.tmod x0_1 a1) + 1)) : Int).toNat) ++ x5_1) (decide ((IntKind.u64.wrap (Int.tdiv x0_1 a1)) > 0))) else (none)) else (none)) else (none)) else (none))) = some r := by rw [if_pos rfl] at H; exact H
        clear H
        have H := H1
        clear H1
        by_cases c4 : a1 = 0
        · rw [if_pos c4] at H
          exact absurd H (by simp)
        · rw [if_neg c4] at H
          have c4b0 : (a1 == 0) = false := beq_eq_false_iff_ne.mpr c4
          have c4b1 : (a1 != 0) = true := bne_iff_ne.mpr c4
          obtain ⟨ji5, hji5⟩ : ∃ j_ : Int, (Int.tmod x0_1 a1) = j_ := ⟨_, rfl⟩
          replace H : (if 0 ≤ (ji5) then (if (ji5) ≤ (IntKind.u64.wrap ((ji5) + 1)) then (if (IntKind.u64.wrap ((ji5) + 1)) ≤ 16 then (if ((⟨#[48, 49, 50, 51, 52, 53, 54, 55, 56, 57, 97, 98, 99, 100, 101, 102]⟩ : ByteArray).extract ((ji5) : Int).toNat ((IntKind.u64.wrap ((ji5) + 1)) : Int).toNat).size + x5_1.size ≤ 9223372036854775807 then (num_based.l0 k1 (IntKind.u64.wrap (Int.tdiv x0_1 a1)) a1 (((⟨#[48, 49, 50, 51, 52, 53, 54, 55, 56, 57, 97, 98, 99, 100, 101, 102]⟩ : ByteArray).extract ((ji5) : Int).toNat ((IntKind.u64.wrap ((ji5) + 1)) : Int).toNat) ++ x5_1) (decide ((IntKind.u64.wrap (Int.tdiv x0_1 a1)) > 0))) else (none)) else (none)) else (none)) else (none)) = some r := by first | (rw [hji5] at H; exact H) | (simp only [hji5] at H ⊢; exact H)
          by_cases c6 : 0 ≤ (ji5)
          · rw [if_pos c6] at H
            have c6b0 := eq_true c6
            have c6b1 : decide (0 ≤ (ji5)) = true := decide_eq_true c6
            clear c6
            by_cases c7 : (ji5) ≤ (IntKind.u64.wrap ((ji5) + 1))
            · rw [if_pos c7] at H
              have c7b0 := eq_true c7
              have c7b1 : decide ((ji5) ≤ (IntKind.u64.wrap ((ji5) + 1))) = true := decide_eq_true c7
              by_cases c8 : (IntKind.u64.wrap ((ji5) + 1)) ≤ 16
              · rw [if_pos c8] at H
                have c8b0 := eq_true c8
                have c8b1 : decide ((IntKind.u64.wrap ((ji5) + 1)) ≤ 16) = true := decide_eq_true c8
                by_cases c9 : ((⟨#[48, 49, 50, 51, 52, 53, 54, 55, 56, 57, 97, 98, 99, 100, 101, 102]⟩ : ByteArray).extract ((ji5) : Int).toNat ((IntKind.u64.wrap ((ji5) + 1)) : Int).toNat).size + x5_1.size ≤ 9223372036854775807
                · rw [if_pos c9] at H
                  have c9b0 := eq_true c9
                  have c9b1 : decide (((⟨#[48, 49, 50, 51, 52, 53, 54, 55, 56, 57, 97, 98, 99, 100, 101, 102]⟩ : ByteArray).extract ((ji5) : Int).toNat ((IntKind.u64.wrap ((ji5) + 1)) : Int).toNat).size + x5_1.size ≤ 9223372036854775807) = true := decide_eq_true c9
                  try have c9b2 : (9223372036854775807 < ((⟨#[48, 49, 50, 51, 52, 53, 54, 55, 56, 57, 97, 98, 99, 100, 101, 102]⟩ : ByteArray).extract ((ji5) : Int).toNat ((IntKind.u64.wrap ((ji5) + 1)) : Int).toNat).size + x5_1.size) = False := eq_false (Nat.not_lt.2 c9)
                  (try (have c9b4 := c9b2; simp only [ByteArray.size_append, gp_mksize, List.size_toArray, List.length_cons, List.length_nil, Nat.zero_add, Nat.reduceAdd] at c9b4))
                  have H' := Aside0.mk H
                  clear H
                  go_wp2
                  repeat (go_quiet (fail); try go_wp2)
                  go_roundg k1
                  case measure => have := HK1.out; omega
                  case rel => exact ⟨(IntKind.u64.wrap (Int.tdiv x0_1 a1)), (((⟨#[48, 49, 50, 51, 52, 53, 54, 55, 56, 57, 97, 98, 99, 100, 101, 102]⟩ : ByteArray).extract ((ji5) : Int).toNat ((IntKind.u64.wrap ((ji5) + 1)) : Int).toNat) ++ x5_1), (decide ((IntKind.u64.wrap (Int.tdiv x0_1 a1)) > 0)), (by first | rfl | (simp; done) | (simp [*]; done) | (simp only [i64_w, i32_w]; done) | (simp [i64_w, i32_w, *]; done) | (simp [gp_ne]; done) | (simp [gp_ne, i64_w, i32_w, *]; done) | (simp [i64_w, i32_w]; (try unfold wrap64); (try unfold wrap32); omega)), (by first | rfl | (simp; done) | (simp only [← hji5] <;> (first | rfl | simp)) | (simp [*]; done)), (by first | rfl | (simp; done) | (simp [*]; done) | (simp only [i64_w, i32_w]; done) | (simp [i64_w, i32_w, *]; done) | (simp [gp_ne]; done) | (simp [gp_ne, i64_w, i32_w, *]; done) | (simp [i64_w, i32_w]; (try unfold wrap64); (try unfold wrap32); omega)), H', ⟨by have := HK1.out; omega⟩, by repeat (first | exact Drawn0.refl _ | apply Drawn0.step)⟩
                · rw [if_neg c9] at H
                  exact absurd H (by simp)
              · rw [if_neg c8] at H
                exact absurd H (by simp)
            · rw [if_neg c7] at H
              exact absurd H (by simp)
          · rw [if_neg c6] at H
            exact absurd H (by simp)
      · replace c3 := Bool.eq_false_iff.mpr c3
        subst c3
        have H1 : (some x5_1) = some r := by rw [if_neg (show ¬ (false = true) by decide)] at H; exact H
        clear H
        have H := H1
        clear H1
        obtain rfl := Option.some.inj H
        go_wp2
        repeat (go_quiet (fail); try go_wp2)
        go_ret
        exact ⟨by first | rfl | (simp; done) | (simp [*]; done) | (simp only [i64_w, i32_w]; done) | (simp [i64_w, i32_w, *]; done) | (simp [gp_ne]; done) | (simp [gp_ne, i64_w, i32_w, *]; done) | (simp [i64_w, i32_w]; (try unfold wrap64); (try unfold wrap32); omega), by repeat (first | exact Drawn0.refl _ | apply Drawn0.step)⟩

/-! ### num_Print: function 27 -/
def num_Print.f (k : Nat) (a0 : Int) : Option (ByteArray) := if a0 < 0 then ((num_based.f k (IntKind.u64.wrap (-(IntKind.u64.wrap (a0)))) 10).bind fun t101 => (if 1 + t101.size ≤ 9223372036854775807 then (some ((⟨#[45]⟩ : ByteArray) ++ t101)) else (none))) else ((num_based.f k (IntKind.u64.wrap (a0)) 10).bind fun t102 => (some t102))
theorem num_Print.mono : ∀ a0 k, LeO (num_Print.f k a0) (num_Print.f (k + 1) a0) := by
  intro a0 k
  unfold num_Print.f
  repeat' first
      | (with_reducible exact num_based.mono _ _ _)
      | (with_reducible exact LeO.refl _)
      | (with_reducible exact LeO.none _)
      | (with_reducible refine LeO.ite ?_ ?_)
      | (with_reducible refine LeO.bind ?_ (fun _ => ?_))
      | exact num_based.mono _ _ _
      | exact LeO.none _
      | refine LeO.ite ?_ ?_
      | refine LeO.bind ?_ (fun _ => ?_)
set_option maxHeartbeats 8000000 in
set_option maxRecDepth 100000 in
theorem num_Print.calls (k : Nat) (a0 : Int) (r : ByteArray) (w : World) (h : num_Print.f k a0 = some r) :
    Calls Try.prog 27 #[.int .i64 a0] w fun e w' => e = .returned (.string r) ∧ Drawn0 w w' := by
  have H : (if a0 < 0 then ((num_based.f k (IntKind.u64.wrap (-(IntKind.u64.wrap (a0)))) 10).bind fun t101 => (if 1 + t101.size ≤ 9223372036854775807 then (some ((⟨#[45]⟩ : ByteArray) ++ t101)) else (none))) else ((num_based.f k (IntKind.u64.wrap (a0)) 10).bind fun t102 => (some t102))) = some r := h
  clear h
  by_cases c2 : a0 < 0
  · rw [if_pos c2] at H
    have c2b0 : decide (a0 < 0) = true := decide_eq_true c2
    clear c2
    replace H := Option.bind_eq_some_iff.mp H
    obtain ⟨t101, A30, H⟩ := H
    replace H : (if 1 + t101.size ≤ 9223372036854775807 then (some ((⟨#[45]⟩ : ByteArray) ++ t101)) else (none)) = some r := H
    have A3 := Aside0.mk A30
    clear A30
    by_cases c4 : 1 + t101.size ≤ 9223372036854775807
    · rw [if_pos c4] at H
      have c4b0 := eq_true c4
      have c4b1 : decide (1 + t101.size ≤ 9223372036854775807) = true := decide_eq_true c4
      try have c4b2 : (9223372036854775807 < 1 + t101.size) = False := eq_false (Nat.not_lt.2 c4)
      (try (have c4b4 := c4b2; simp only [ByteArray.size_append, gp_mksize, List.size_toArray, List.length_cons, List.length_nil, Nat.zero_add, Nat.reduceAdd] at c4b4))
      obtain rfl := Option.some.inj H
      go_enter Try.func27, Try.ntmps27
      go_wp2_with (first | ((with_reducible refine gate_callee (f := 40) rfl ?_); refine goesL_ (some 8) rfl rfl Try.func40 (by kernel_rfl) rfl #[.int .u64 (IntKind.u64.wrap (-(IntKind.u64.wrap (a0)))), .int .u64 10] rfl (by (try simp only [List.map_toArray, List.map_cons, List.map_nil]); first | done | rfl | (simp only [List.length_drop, List.length_take]; rfl)) ?_; (with_reducible refine (num_based.calls k (IntKind.u64.wrap (-(IntKind.u64.wrap (a0)))) 10 t101 _ A3.out).mono ?_); rintro e w' ⟨rfl, ⟨nd, rfl⟩⟩; refine ⟨_, rfl, ?_⟩))
      go_ret
      exact ⟨by first | rfl | (simp; done) | (simp [*]; done) | (simp only [i64_w, i32_w]; done) | (simp [i64_w, i32_w, *]; done) | (simp [gp_ne]; done) | (simp [gp_ne, i64_w, i32_w, *]; done) | (simp [i64_w, i32_w]; (try unfold wrap64); (try unfold wrap32); omega), by repeat (first | exact Drawn0.refl _ | apply Drawn0.step)⟩
    · rw [if_neg c4] at H
      exact absurd H (by simp)
  · rw [if_neg c2] at H
    have c2b0 : decide (a0 < 0) = false := decide_eq_false c2
    clear c2
    replace H := Option.bind_eq_some_iff.mp H
    obtain ⟨t102, A50, H⟩ := H
    replace H : (some t102) = some r := H
    have A5 := Aside0.mk A50
    clear A50
    obtain rfl := Option.some.inj H
    go_enter Try.func27, Try.ntmps27
    go_wp2_with (first | ((with_reducible refine gate_callee (f := 40) rfl ?_); refine goesL_ (some 12) rfl rfl Try.func40 (by kernel_rfl) rfl #[.int .u64 (IntKind.u64.wrap (a0)), .int .u64 10] rfl (by (try simp only [List.map_toArray, List.map_cons, List.map_nil]); first | done | rfl | (simp only [List.length_drop, List.length_take]; rfl)) ?_; (with_reducible refine (num_based.calls k (IntKind.u64.wrap (a0)) 10 t102 _ A5.out).mono ?_); rintro e w' ⟨rfl, ⟨nd, rfl⟩⟩; refine ⟨_, rfl, ?_⟩))
    go_ret
    exact ⟨by first | rfl | (simp; done) | (simp [*]; done) | (simp only [i64_w, i32_w]; done) | (simp [i64_w, i32_w, *]; done) | (simp [gp_ne]; done) | (simp [gp_ne, i64_w, i32_w, *]; done) | (simp [i64_w, i32_w]; (try unfold wrap64); (try unfold wrap32); omega), by repeat (first | exact Drawn0.refl _ | apply Drawn0.step)⟩

end Go.Proofs.Ytmdfgndndfggeaa.PDeskParse
