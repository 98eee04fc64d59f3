/- A text without great letters, and whether two are the same but for them, is as the chapter says: for any two texts. No condition. -/
import Derived.Test.YtahhanmoonjgbaaDoorPCharsLowerx2
namespace Go.Proofs.YtahhanmoonjgbaaDoor.Pure
open Go Go.RowKit Go.Proofs.YtahhanmoonjgbaaDoor.PCharsLower Go.Proofs.YtahhanmoonjgbaaDoor.Gp Go.Proofs.YtahhanmoonjgbaaDoorW Go.Proofs.YtahhanmoonjgbaaDoorW.PrintWords Go.Proofs.YtahhanmoonjgbaaDoorW.PrintLast Go.Proofs.YtahhanmoonjgbaaDoorW.PrintMore
set_option linter.unusedVariables false
set_option linter.unusedSimpArgs false
-- strings as lists of numbers
def Byt (l : List Int) : Prop := ∀ x ∈ l, 0 ≤ x ∧ x ≤ 255
theorem Byt.rd {l : List Int} (h : Byt l) (i : Int) : 0 ≤ PrintWords.rd l i ∧ PrintWords.rd l i ≤ 255 := by
  unfold PrintWords.rd
  rw [List.getD_eq_getElem?_getD]
  by_cases hi : i.toNat < l.length
  · rw [List.getElem?_eq_getElem hi]; exact h _ (List.getElem_mem hi)
  · rw [List.getElem?_eq_none (by omega)]; decide
theorem Byt.take {l : List Int} (h : Byt l) (n : Nat) : Byt (l.take n) := fun x hx => h x (List.mem_of_mem_take hx)
theorem Byt.drop {l : List Int} (h : Byt l) (n : Nat) : Byt (l.drop n) := fun x hx => h x (List.mem_of_mem_drop hx)
theorem w64 {x : Int} (h : -9223372036854775808 ≤ x ∧ x ≤ 9223372036854775807) : wrap64 x = x := by unfold wrap64; omega
theorem u64w (x : Int) : IntKind.u64.wrap x = x % 18446744073709551616 := by simp [IntKind.wrap, IntKind.bits, IntKind.signed]
theorem wu64 {x : Int} (h : 0 ≤ x ∧ x ≤ 18446744073709551615) : IntKind.u64.wrap x = x := by rw [u64w]; omega
theorem bts_byt (s : ByteArray) : Byt (bytesOf s) := by
  intro x hx
  simp only [bytesOf, List.mem_map] at hx
  obtain ⟨b, _, rfl⟩ := hx
  have := b.toNat_lt
  omega
theorem bts_len (s : ByteArray) : ((bytesOf s).length : Int) = (s.size : Int) := by rw [bytesOf_length]
theorem bt_rd (s : ByteArray) (i : Int) : bt s i = rd (bytesOf s) i := (rd_bytesOf s i).symm
theorem tl (s : ByteArray) : s.toList = s.data.toList := ByteArray.toList_eq s
theorem u8_map_inj : ∀ {a b : List UInt8}, a.map (fun x => (x.toNat : Int)) = b.map (fun x => (x.toNat : Int)) → a = b
  | [], [], _ => rfl
  | [], _ :: _, h => by simp at h
  | _ :: _, [], h => by simp at h
  | x :: a, y :: b, h => by
    simp only [List.map_cons, List.cons.injEq] at h
    rw [u8_map_inj h.2, UInt8.toNat_inj.1 (by omega : x.toNat = y.toNat)]
theorem tl_iff (s t : ByteArray) : s.toList = t.toList ↔ bytesOf s = bytesOf t := by
  rw [tl, tl]
  exact ⟨fun h => by unfold bytesOf; rw [h], fun h => u8_map_inj h⟩
theorem tl_nil (s : ByteArray) : s.toList = ([] : List UInt8) ↔ bytesOf s = [] := by
  rw [tl]
  unfold bytesOf
  rw [List.map_eq_nil_iff]
theorem bts_extract (s : ByteArray) (a b : Nat) : bytesOf (s.extract a b) = ((bytesOf s).take b).drop a := by
  unfold bytesOf
  rw [List.drop_take, ← List.map_drop, ← List.map_take]
  congr 1
  simp [List.drop_take]
theorem bts_extract_to (s : ByteArray) (a : Nat) : bytesOf (s.extract a s.size) = (bytesOf s).drop a := by
  rw [bts_extract, List.take_of_length_le (by rw [bytesOf_length]; omega)]
theorem bts_append (s t : ByteArray) : bytesOf (s ++ t) = bytesOf s ++ bytesOf t := by
  unfold bytesOf
  rw [← List.map_append]
  congr 1
theorem bts_size (s : ByteArray) : s.size = (bytesOf s).length := (bytesOf_length s).symm
theorem drop_rd {l : List Int} {i : Nat} (h : i < l.length) : l.drop i = rd l (i : Int) :: l.drop (i + 1) := by
  rw [List.drop_eq_getElem_cons h]
  unfold rd
  simp [List.getD_eq_getElem?_getD, List.getElem?_eq_getElem h]
theorem rd_cons_zero (a : Int) (l : List Int) : rd (a :: l) 0 = a := rfl
-- a string made of numbers
theorem bts_son {xs : List Int} (h : Byt xs) : bytesOf (strOfNums xs) = xs := by
  unfold bytesOf
  rw [strOfNums_data, List.map_map]
  conv => rhs; rw [← List.map_id xs]
  apply List.map_congr_left
  intro x hx
  have := h x hx
  simp only [Function.comp, id]
  have e : (UInt8.ofNat x.toNat).toNat = x.toNat := by
    rw [UInt8.toNat_ofNat']
    omega
  rw [e]; omega
theorem bts_tl_iff {s t : ByteArray} : s.toList = t.toList ↔ bytesOf s = bytesOf t := tl_iff s t
theorem ext_bts {s t : ByteArray} (h : bytesOf s = bytesOf t) : s = t := by
  have := (tl_iff s t).2 h
  rw [tl, tl] at this
  cases s with | mk a => cases t with | mk b => simp at this; rw [this]
theorem awake60 : larumlaw01_awake.f 100 = some true := by decide +kernel
theorem awake_at {k : Nat} (h : 100 ≤ k) : larumlaw01_awake.f k = some true := at_rounds (g := fun k => larumlaw01_awake.f k) (fun k => larumlaw01_awake.mono k) h awake60
theorem short_eq (s : ByteArray) : ∃ t, larumlaw01_short.f s = some t ∧ t.size ≤ 80 := by
  unfold larumlaw01_short.f
  by_cases h : (s.size : Int) > 80
  · exact ⟨_, by rw [if_pos h, if_pos (by decide), if_pos (by omega)], by simp; omega⟩
  · exact ⟨s, by rw [if_neg h], by omega⟩
-- without great letters
theorem low_byt {l : List Int} (h : Byt l) : Byt (l.map chars_Lower.low) := by
  intro x hx
  obtain ⟨y, hy, rfl⟩ := List.mem_map.1 hx
  have := h y hy
  unfold chars_Lower.low
  split <;> omega
theorem low_low (l : List Int) : (l.map chars_Lower.low).map chars_Lower.low = l.map chars_Lower.low := by
  rw [List.map_map]
  apply List.map_congr_left
  intro x _
  show chars_Lower.low (chars_Lower.low x) = chars_Lower.low x
  by_cases h : 65 ≤ x ∧ x ≤ 90
  · have e : chars_Lower.low x = x + 32 := by unfold chars_Lower.low; rw [if_pos h]
    rw [e]
    unfold chars_Lower.low
    rw [if_neg (by omega)]
  · have e : chars_Lower.low x = x := by unfold chars_Lower.low; rw [if_neg h]
    rw [e, e]
theorem Lower_f (s : ByteArray) (hs : s.size ≤ 140737488351232) : ∃ t, chars_Lower.f s = some t ∧ bytesOf t = (bytesOf s).map chars_Lower.low ∧ t.size = s.size := by
  refine ⟨strOfNums ((bytesOf s).map chars_Lower.low), by unfold chars_Lower.f; rw [if_pos hs], bts_son (low_byt (bts_byt s)), ?_⟩
  rw [bts_size, bts_son (low_byt (bts_byt s)), List.length_map, bytesOf_length]
theorem is_f {c : Int} (h : 0 ≤ c ∧ c ≤ 255) : larumref01_is.f c 65 90 = some (decide (65 ≤ c ∧ c ≤ 90)) := by
  unfold larumref01_is.f
  rw [w64 (by omega)]
  by_cases g : c ≥ 65
  · rw [if_pos g]; congr 1; exact decide_eq_decide.2 (by omega)
  · rw [if_neg g]; congr 1; symm; exact decide_eq_false (by omega)
theorem one_byt {x : Int} (h : 0 ≤ x ∧ x ≤ 255) : bytesOf (strOfNums [x]) = [x] := bts_son (by intro y hy; simp at hy; subst hy; exact h)
theorem RLower_l0 (s : ByteArray) (hs : s.size ≤ 1000) : ∀ (f i k : Nat) (o : ByteArray), i + f = s.size → f + 1 ≤ k → o.size = i →
    ∃ t, larumref01_Lower.l0 k s o (i : Int) = some t ∧ bytesOf t = bytesOf o ++ ((bytesOf s).drop i).map chars_Lower.low := by
  intro f
  induction f with
  | zero =>
    intro i k o hi hk ho
    obtain ⟨k, rfl⟩ : ∃ j, k = j + 1 := ⟨k - 1, by omega⟩
    simp only [larumref01_Lower.l0]
    rw [if_neg (by omega), List.drop_of_length_le (by rw [bytesOf_length]; omega)]
    exact ⟨o, rfl, by simp⟩
  | succ f ih =>
    intro i k o hi hk ho
    obtain ⟨k, rfl⟩ : ∃ j, k = j + 1 := ⟨k - 1, by omega⟩
    have b := (bts_byt s).rd (i : Int)
    have step : ∀ x, 0 ≤ x ∧ x ≤ 255 → ∃ t, larumref01_Lower.l0 k s (o ++ strOfNums [x]) ((i : Int) + 1) = some t ∧ bytesOf t = bytesOf o ++ x :: ((bytesOf s).drop (i + 1)).map chars_Lower.low := by
      intro x hx
      obtain ⟨t, t1, t2⟩ := ih (i + 1) k (o ++ strOfNums [x]) (by omega) (by omega) (by rw [bts_size, bts_append, one_byt hx, List.length_append, bytesOf_length, ho]; rfl)
      refine ⟨t, by rw [show (i : Int) + 1 = ((i + 1 : Nat) : Int) by omega]; exact t1, ?_⟩
      rw [t2, bts_append, one_byt hx]; simp
    have hz : ∀ x : Int, (strOfNums [x]).size = 1 := fun x => by rw [strOfNums_size]; rfl
    rw [drop_rd (by rw [bytesOf_length]; omega), List.map_cons]
    simp only [larumref01_Lower.l0]
    rw [if_pos (by omega), if_pos (by omega), bt_rd, is_f b, w64 (by omega)]
    simp only [Option.bind_some, hz]
    by_cases g : 65 ≤ rd (bytesOf s) (i : Int) ∧ rd (bytesOf s) (i : Int) ≤ 90
    · have e : (rd (bytesOf s) (i : Int) + 32) % 256 = chars_Lower.low (rd (bytesOf s) (i : Int)) := by
        unfold chars_Lower.low
        rw [if_pos g]; omega
      rw [if_pos (decide_eq_true g), if_pos (by omega), e]
      exact step _ (by unfold chars_Lower.low; rw [if_pos g]; omega)
    · have e : rd (bytesOf s) (i : Int) = chars_Lower.low (rd (bytesOf s) (i : Int)) := by
        unfold chars_Lower.low
        rw [if_neg g]
      rw [if_neg (by simpa using g), if_pos (by omega), ← e]
      exact step _ b
theorem RLower_f (s : ByteArray) (hs : s.size ≤ 1000) {k : Nat} (hk : 1001 ≤ k) : ∃ t, larumref01_Lower.f k s = some t ∧ bytesOf t = (bytesOf s).map chars_Lower.low := by
  obtain ⟨t, t1, t2⟩ := RLower_l0 s hs s.size 0 k ⟨#[]⟩ (by omega) (by omega) rfl
  exact ⟨t, t1, by rw [t2]; rfl⟩
theorem CharsLower : larumlaw01_CharsLower.Pure := by
  intro a b _ _
  obtain ⟨s, hs, hl⟩ := short_eq a
  obtain ⟨t, ht, hm⟩ := short_eq b
  obtain ⟨k, hk⟩ : ∃ k : Nat, k = 5000 := ⟨_, rfl⟩
  refine ⟨k, ?_⟩
  obtain ⟨x, x1, x2, x3⟩ := Lower_f s (by omega)
  obtain ⟨y, y1, y2, y3⟩ := Lower_f t (by omega)
  obtain ⟨u, u1, u2⟩ := RLower_f s (by omega) (k := k) (by omega)
  obtain ⟨v, v1, v2⟩ := RLower_f t (by omega) (k := k) (by omega)
  have eu : u = x := ext_bts (by rw [u2, x2])
  have ev : v = y := ext_bts (by rw [v2, y2])
  subst eu ev
  obtain ⟨z, z1, z2, _⟩ := Lower_f u (by omega)
  have ez : z = u := ext_bts (by rw [z2, u2, low_low])
  subst ez
  unfold larumlaw01_CharsLower.f chars_Same.f
  rw [hs, ht]
  simp only [Option.bind_some]
  rw [x1, y1, u1, v1]
  simp only [Option.bind_some]
  rw [z1, awake_at (by omega)]
  simp
end Go.Proofs.YtahhanmoonjgbaaDoor.Pure
