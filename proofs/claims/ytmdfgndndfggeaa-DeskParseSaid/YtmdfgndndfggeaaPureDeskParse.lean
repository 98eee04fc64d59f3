/- Which event a line is, or that it is none, is as the chapter says: for any text. No condition. -/
import Derived.Test.YtmdfgndndfggeaaPDeskParsex11
namespace Go.Proofs.Ytmdfgndndfggeaa.Pure
open Go Go.RowKit Go.Proofs.Ytmdfgndndfggeaa.PDeskParse Go.Proofs.Ytmdfgndndfggeaa.Gp Go.Proofs.YtmdfgndndfggeaaW Go.Proofs.YtmdfgndndfggeaaW.PrintWords Go.Proofs.YtmdfgndndfggeaaW.PrintLast Go.Proofs.YtmdfgndndfggeaaW.PrintMore
set_option linter.unusedVariables false
set_option linter.unusedSimpArgs false
-- strings as lists of numbers
def Byt (l : List Int) : Prop := ∀ x ∈ l, 0 ≤ x ∧ x ≤ 255
theorem Byt.rd {l : List Int} (h : Byt l) (i : Int) : 0 ≤ PrintWords.rd l i ∧ PrintWords.rd l i ≤ 255 := by
  unfold PrintWords.rd
  rw [List.getD_eq_getElem?_getD]
  by_cases hi : i.toNat < l.length
  · rw [List.getElem?_eq_getElem hi]; exact h _ (List.getElem_mem hi)
  · rw [List.getElem?_eq_none (by omega)]; decide
theorem Byt.take {l : List Int} (h : Byt l) (n : Nat) : Byt (l.take n) := fun x hx => h x (List.mem_of_mem_take hx)
theorem Byt.drop {l : List Int} (h : Byt l) (n : Nat) : Byt (l.drop n) := fun x hx => h x (List.mem_of_mem_drop hx)
theorem w64 {x : Int} (h : -9223372036854775808 ≤ x ∧ x ≤ 9223372036854775807) : wrap64 x = x := by unfold wrap64; omega
theorem u64w (x : Int) : IntKind.u64.wrap x = x % 18446744073709551616 := by simp [IntKind.wrap, IntKind.bits, IntKind.signed]
theorem wu64 {x : Int} (h : 0 ≤ x ∧ x ≤ 18446744073709551615) : IntKind.u64.wrap x = x := by rw [u64w]; omega
theorem bts_byt (s : ByteArray) : Byt (bytesOf s) := by
  intro x hx
  simp only [bytesOf, List.mem_map] at hx
  obtain ⟨b, _, rfl⟩ := hx
  have := b.toNat_lt
  omega
theorem bts_len (s : ByteArray) : ((bytesOf s).length : Int) = (s.size : Int) := by rw [bytesOf_length]
theorem bt_rd (s : ByteArray) (i : Int) : bt s i = rd (bytesOf s) i := (rd_bytesOf s i).symm
theorem tl (s : ByteArray) : s.toList = s.data.toList := ByteArray.toList_eq s
theorem u8_map_inj : ∀ {a b : List UInt8}, a.map (fun x => (x.toNat : Int)) = b.map (fun x => (x.toNat : Int)) → a = b
  | [], [], _ => rfl
  | [], _ :: _, h => by simp at h
  | _ :: _, [], h => by simp at h
  | x :: a, y :: b, h => by
    simp only [List.map_cons, List.cons.injEq] at h
    rw [u8_map_inj h.2, UInt8.toNat_inj.1 (by omega : x.toNat = y.toNat)]
theorem tl_iff (s t : ByteArray) : s.toList = t.toList ↔ bytesOf s = bytesOf t := by
  rw [tl, tl]
  exact ⟨fun h => by unfold bytesOf; rw [h], fun h => u8_map_inj h⟩
theorem tl_nil (s : ByteArray) : s.toList = ([] : List UInt8) ↔ bytesOf s = [] := by
  rw [tl]
  unfold bytesOf
  rw [List.map_eq_nil_iff]
theorem bts_extract (s : ByteArray) (a b : Nat) : bytesOf (s.extract a b) = ((bytesOf s).take b).drop a := by
  unfold bytesOf
  rw [List.drop_take, ← List.map_drop, ← List.map_take]
  congr 1
  simp [List.drop_take]
theorem bts_extract_to (s : ByteArray) (a : Nat) : bytesOf (s.extract a s.size) = (bytesOf s).drop a := by
  rw [bts_extract, List.take_of_length_le (by rw [bytesOf_length]; omega)]
theorem bts_append (s t : ByteArray) : bytesOf (s ++ t) = bytesOf s ++ bytesOf t := by
  unfold bytesOf
  rw [← List.map_append]
  congr 1
theorem bts_size (s : ByteArray) : s.size = (bytesOf s).length := (bytesOf_length s).symm
theorem drop_rd {l : List Int} {i : Nat} (h : i < l.length) : l.drop i = rd l (i : Int) :: l.drop (i + 1) := by
  rw [List.drop_eq_getElem_cons h]
  unfold rd
  simp [List.getD_eq_getElem?_getD, List.getElem?_eq_getElem h]
theorem rd_cons_zero (a : Int) (l : List Int) : rd (a :: l) 0 = a := rfl
-- a string made of numbers
theorem bts_son {xs : List Int} (h : Byt xs) : bytesOf (strOfNums xs) = xs := by
  unfold bytesOf
  rw [strOfNums_data, List.map_map]
  conv => rhs; rw [← List.map_id xs]
  apply List.map_congr_left
  intro x hx
  have := h x hx
  simp only [Function.comp, id]
  have e : (UInt8.ofNat x.toNat).toNat = x.toNat := by
    rw [UInt8.toNat_ofNat']
    omega
  rw [e]; omega
theorem bts_tl_iff {s t : ByteArray} : s.toList = t.toList ↔ bytesOf s = bytesOf t := tl_iff s t
theorem ext_bts {s t : ByteArray} (h : bytesOf s = bytesOf t) : s = t := by
  have := (tl_iff s t).2 h
  rw [tl, tl] at this
  cases s with | mk a => cases t with | mk b => simp at this; rw [this]
-- digits
def isD (c : Int) : Bool := decide (48 ≤ c ∧ c ≤ 57)
def allD (l : List Int) : Bool := l.all isD
def dv (v : Int) : List Int → Int
  | [] => v
  | c :: l => dv (10 * v + (c - 48)) l
theorem isD_iff {c : Int} : isD c = true ↔ 48 ≤ c ∧ c ≤ 57 := by simp [isD]
theorem dv_ge : ∀ (l : List Int) (v : Int), allD l = true → 0 ≤ v → v ≤ dv v l
  | [], v, _, _ => Int.le_refl v
  | c :: l, v, h, hv => by
    simp only [allD, List.all_cons, Bool.and_eq_true] at h
    have hc := isD_iff.1 h.1
    have := dv_ge l (10 * v + (c - 48)) h.2 (by omega)
    show v ≤ dv (10 * v + (c - 48)) l
    omega
theorem Digit_eq (c : Int) : chars_Digit.f c = some (isD c) := by
  unfold chars_Digit.f isD
  by_cases h : c ≥ 48
  · rw [if_pos h]; congr 1; exact decide_eq_decide.2 (by omega)
  · rw [if_neg h]; congr 1; symm; exact decide_eq_false (by omega)
theorem All_Digit_eq (s : ByteArray) (hs : s.size ≤ 140737488351232) (d : Nat) : ∀ (i k : Nat), i + d = s.size → d < k → chars_All_chars_Digit_82.l0 k s (i : Int) = some (allD ((bytesOf s).drop i)) := by
  induction d with
  | zero =>
    intro i k hi hk
    obtain ⟨k, rfl⟩ : ∃ m, k = m + 1 := ⟨k - 1, by omega⟩
    simp only [chars_All_chars_Digit_82.l0]
    rw [if_neg (by omega), List.drop_of_length_le (by rw [bytesOf_length]; omega)]
    rfl
  | succ d ih =>
    intro i k hi hk
    obtain ⟨k, rfl⟩ : ∃ m, k = m + 1 := ⟨k - 1, by omega⟩
    simp only [chars_All_chars_Digit_82.l0]
    rw [if_pos (by omega), if_pos (by omega), Digit_eq, bt_rd, drop_rd (by rw [bytesOf_length]; omega), w64 (by omega)]
    simp only [Option.bind_some]
    show _ = some (allD (_ :: _))
    cases hd : isD (rd (bytesOf s) (i : Int)) with
    | true =>
      rw [if_pos rfl, show ((i : Int) + 1) = ((i + 1 : Nat) : Int) by omega, ih (i + 1) k (by omega) (by omega)]
      simp only [allD, List.all_cons, hd, Bool.true_and]
    | false =>
      rw [if_neg (by simp)]
      simp only [allD, List.all_cons, hd, Bool.false_and]
theorem All_Digit (s : ByteArray) (hs : s.size ≤ 140737488351232) {k : Nat} (hk : s.size < k) : chars_All_chars_Digit_82.f k s = some (allD (bytesOf s)) := by
  unfold chars_All_chars_Digit_82.f
  exact All_Digit_eq s hs s.size 0 k (by omega) hk
theorem digits_eq (s : ByteArray) (hs : s.size ≤ 140737488351232) (M : Int) (hM : 9 ≤ M ∧ M ≤ 9223372036854775808) (d : Nat) : ∀ (i k : Nat) (v : Int), i + d = s.size → d < k → allD ((bytesOf s).drop i) = true → 0 ≤ v → v ≤ M →
    num_digits.l0 k s M v (s.size : Int) (i : Int) = some (if dv v ((bytesOf s).drop i) > M then (0, 5) else (dv v ((bytesOf s).drop i), 0)) := by
  induction d with
  | zero =>
    intro i k v hi hk ha h0 h1
    obtain ⟨k, rfl⟩ : ∃ m, k = m + 1 := ⟨k - 1, by omega⟩
    simp only [num_digits.l0]
    rw [if_neg (by omega), List.drop_of_length_le (by rw [bytesOf_length]; omega)]
    show _ = some (if v > M then _ else (v, 0))
    rw [if_neg (by omega)]
  | succ d ih =>
    intro i k v hi hk ha h0 h1
    obtain ⟨k, rfl⟩ : ∃ m, k = m + 1 := ⟨k - 1, by omega⟩
    rw [drop_rd (by rw [bytesOf_length]; omega)] at ha ⊢
    simp only [allD, List.all_cons, Bool.and_eq_true] at ha
    have hc := isD_iff.1 ha.1
    simp only [num_digits.l0]
    rw [if_pos (by omega), if_pos (by omega), if_pos (by omega), bt_rd]
    have e1 : (rd (bytesOf s) (i : Int) - 48) % 256 = rd (bytesOf s) (i : Int) - 48 := by omega
    rw [e1, wu64 (x := M - (rd (bytesOf s) (i : Int) - 48)) (by omega), Int.tdiv_eq_ediv_of_nonneg (by omega), wu64 (x := (M - (rd (bytesOf s) (i : Int) - 48)) / 10) (by omega)]
    show _ = some (if dv (10 * v + (rd (bytesOf s) (i : Int) - 48)) ((bytesOf s).drop (i + 1)) > M then (0, 5) else (dv (10 * v + (rd (bytesOf s) (i : Int) - 48)) ((bytesOf s).drop (i + 1)), 0))
    by_cases c : v > (M - (rd (bytesOf s) (i : Int) - 48)) / 10
    · rw [if_pos c, if_pos]
      have := dv_ge ((bytesOf s).drop (i + 1)) (10 * v + (rd (bytesOf s) (i : Int) - 48)) ha.2 (by omega)
      omega
    · rw [if_neg c, wu64 (x := v * 10) (by omega), wu64 (x := v * 10 + (rd (bytesOf s) (i : Int) - 48)) (by omega), w64 (by omega), show ((i : Int) + 1) = ((i + 1 : Nat) : Int) by omega, show v * 10 + (rd (bytesOf s) (i : Int) - 48) = 10 * v + (rd (bytesOf s) (i : Int) - 48) by omega]
      exact ih (i + 1) k _ (by omega) (by omega) ha.2 (by omega) (by omega)
theorem digits_f (s : ByteArray) (hs : s.size ≤ 140737488351232) {M : Int} (hM : 9 ≤ M ∧ M ≤ 9223372036854775808) {k : Nat} (hk : s.size < k) (ha : allD (bytesOf s) = true) :
    num_digits.f k s M = some (if dv 0 (bytesOf s) > M then (0, 5) else (dv 0 (bytesOf s), 0)) := by
  unfold num_digits.f
  exact digits_eq s hs M hM s.size 0 k 0 (by omega) hk ha (by omega) (by omega)
/-- Is a text of digits wrong? -/
def badD (l : List Int) : Bool := l.isEmpty || !allD l || (decide (1 < l.length) && rd l 0 == 48)
def maxP : Bool → Int
  | true => 9223372036854775808
  | false => 9223372036854775807
/-- What digits, behind a minus or without, are. -/
def parseD (m : Bool) (l : List Int) : Int × Int := if badD l = true then (0, 3) else if dv 0 l > maxP m then (0, 5) else (if m = true then -dv 0 l else dv 0 l, 0)
/-- Which number a text is. -/
def parseN (l : List Int) : Int × Int := if l ≠ [] ∧ rd l 0 = 45 then parseD true (l.drop 1) else parseD false l
theorem Parse_j1 (s : ByteArray) (hs : s.size ≤ 140737488351232) (m : Bool) {k : Nat} (hk : s.size + 2 < k) : num_Parse.j1 k s m (maxP m) = some (parseD m (bytesOf s)) := by
  obtain ⟨k, rfl⟩ : ∃ q, k = q + 2 := ⟨k - 2, by omega⟩
  have j2t : num_Parse.j2 (k + 1) s m (maxP m) true = some (0, 3) := by simp only [num_Parse.j2]; rw [if_pos trivial]
  have j2f : allD (bytesOf s) = true → num_Parse.j2 (k + 1) s m (maxP m) false = some (if dv 0 (bytesOf s) > maxP m then (0, 5) else (if m = true then -dv 0 (bytesOf s) else dv 0 (bytesOf s), 0)) := by
    intro ha
    have hge := dv_ge (bytesOf s) 0 ha (by omega)
    simp only [num_Parse.j2]
    rw [if_neg (by simp), digits_f s hs (M := maxP m) (by cases m <;> simp [maxP]) (by omega) ha]
    simp only [Option.bind_some]
    by_cases c : dv 0 (bytesOf s) > maxP m
    · rw [if_pos c, if_pos c]; rfl
    · rw [if_neg c, if_neg c]
      cases m with
      | true =>
        simp only [maxP] at c
        simp only [if_true, Option.some.injEq, Prod.mk.injEq, and_true]
        rw [u64w]; unfold wrap64; omega
      | false =>
        simp only [maxP] at c
        simp only [if_true, Option.some.injEq, Prod.mk.injEq, and_true]
        rw [if_neg (by simp), if_neg (by simp), w64 (by omega)]
  unfold parseD badD
  simp only [num_Parse.j1]
  by_cases c0 : s.toList = ([] : List UInt8)
  · rw [if_pos c0, j2t]
    rw [(tl_nil s).1 c0]; rfl
  rw [if_neg c0, All_Digit s hs (by omega)]
  have hne : (bytesOf s).isEmpty = false := by
    cases h : bytesOf s with
    | nil => exact absurd ((tl_nil s).2 h) c0
    | cons => rfl
  simp only [Option.bind_some, hne, Bool.false_or]
  cases ha : allD (bytesOf s) with
  | false =>
    rw [if_neg (by simp), j2t]; rfl
  | true =>
    rw [if_pos rfl]
    simp only [Bool.not_true, Bool.false_or]
    by_cases c1 : (s.size : Int) > 1
    · rw [if_pos c1, if_pos (by omega), bt_rd]
      have e : decide (1 < (bytesOf s).length) = true := decide_eq_true (by rw [bytesOf_length]; omega)
      rw [e, Bool.true_and]
      cases hz : rd (bytesOf s) 0 == 48 with
      | true => rw [j2t]; rfl
      | false => rw [j2f ha]; simp
    · rw [if_neg c1]
      have e : decide (1 < (bytesOf s).length) = false := decide_eq_false (by rw [bytesOf_length]; omega)
      rw [e, Bool.false_and, j2f ha]; simp
theorem Parse_eq (s : ByteArray) (hs : s.size ≤ 140737488351232) {k : Nat} (hk : s.size + 3 < k) : num_Parse.f k s = some (parseN (bytesOf s)) := by
  obtain ⟨k, rfl⟩ : ∃ q, k = q + 1 := ⟨k - 1, by omega⟩
  unfold num_Parse.f parseN
  by_cases c0 : (s.size : Int) > 0
  · have hne : bytesOf s ≠ [] := fun h => by have := bytesOf_length s; rw [h] at this; simp at this; omega
    rw [if_pos c0, if_pos c0, bt_rd]
    simp only [num_Parse.j0]
    by_cases c1 : rd (bytesOf s) 0 = 45
    · rw [if_pos (by simp [c1]), if_pos (by omega), if_pos ⟨hne, c1⟩]
      have e : (rd (bytesOf s) 0 == 45) = true := by simp [c1]
      rw [e, show (9223372036854775807 + 1 : Int) = maxP true from rfl, Parse_j1 _ (by simp; omega) true (by simp; omega), bts_extract_to]
    · have e : (rd (bytesOf s) 0 == 45) = false := by simp [c1]
      rw [e, if_neg (by simp), if_neg (fun h => c1 h.2), show (9223372036854775807 : Int) = maxP false from rfl, Parse_j1 s hs false (by omega)]
  · have hn : bytesOf s = [] := by have := bytesOf_length s; exact List.eq_nil_of_length_eq_zero (by omega)
    rw [if_neg c0]
    simp only [num_Parse.j0]
    rw [if_neg (by simp), show (9223372036854775807 : Int) = maxP false from rfl, Parse_j1 s hs false (by omega), hn]
    simp
-- the reference's numbers
theorem RDigit_eq {c : Int} (h : 0 ≤ c ∧ c ≤ 255) : larumref01_Digit.f c = some (isD c) := by
  unfold larumref01_Digit.f larumref01_is.f isD
  rw [w64 (by omega)]
  by_cases h : c ≥ 48
  · rw [if_pos h]; simp only [Option.bind_some]; congr 1; exact decide_eq_decide.2 (by omega)
  · rw [if_neg h]; simp only [Option.bind_some]; congr 1; symm; exact decide_eq_false (by omega)
theorem Rall_eq (s : ByteArray) (hs : s.size ≤ 140737488351232) (d : Nat) : ∀ (i k : Nat), i + d = s.size → d < k → larumref03_all.l0 k s (i : Int) = some (allD ((bytesOf s).drop i) && !(bytesOf s).isEmpty) := by
  have he : (s.toList != ([] : List UInt8)) = !(bytesOf s).isEmpty := by
    rw [tl]; unfold bytesOf; cases s.data.toList <;> rfl
  induction d with
  | zero =>
    intro i k hi hk
    obtain ⟨k, rfl⟩ : ∃ m, k = m + 1 := ⟨k - 1, by omega⟩
    simp only [larumref03_all.l0]
    rw [if_neg (by omega), List.drop_of_length_le (by rw [bytesOf_length]; omega), he]
    rfl
  | succ d ih =>
    intro i k hi hk
    obtain ⟨k, rfl⟩ : ∃ m, k = m + 1 := ⟨k - 1, by omega⟩
    simp only [larumref03_all.l0]
    rw [if_pos (by omega), if_pos (by omega), bt_rd, RDigit_eq ((bts_byt s).rd _), drop_rd (by rw [bytesOf_length]; omega), w64 (by omega)]
    simp only [Option.bind_some]
    cases hd : isD (rd (bytesOf s) (i : Int)) with
    | true =>
      rw [if_pos rfl, show ((i : Int) + 1) = ((i + 1 : Nat) : Int) by omega, ih (i + 1) k (by omega) (by omega)]
      simp only [allD, List.all_cons, hd, Bool.true_and]
    | false =>
      rw [if_neg (by simp)]
      simp only [allD, List.all_cons, hd, Bool.false_and]
theorem Rall (s : ByteArray) (hs : s.size ≤ 140737488351232) {k : Nat} (hk : s.size < k) : larumref03_all.f k s = some (allD (bytesOf s) && !(bytesOf s).isEmpty) := by
  unfold larumref03_all.f
  exact Rall_eq s hs s.size 0 k (by omega) hk
def stripL : List Int → List Int
  | [] => []
  | [c] => [c]
  | c :: d :: l => if c = 48 then stripL (d :: l) else c :: d :: l
theorem strip_eq (d : Nat) : ∀ (s : ByteArray) (k : Nat), s.size ≤ 140737488351232 → s.size = d → d < k → ∃ t, larumref03_strip.l0 k s = some t ∧ bytesOf t = stripL (bytesOf s) ∧ t.size ≤ s.size := by
  induction d with
  | zero =>
    intro s k hs hd hk
    obtain ⟨k, rfl⟩ : ∃ m, k = m + 1 := ⟨k - 1, by omega⟩
    have hn : bytesOf s = [] := List.eq_nil_of_length_eq_zero (by rw [bytesOf_length]; exact hd)
    refine ⟨s, ?_, by rw [hn]; rfl, Nat.le_refl _⟩
    simp only [larumref03_strip.l0]
    rw [if_neg (by omega)]
  | succ d ih =>
    intro s k hs hd hk
    obtain ⟨k, rfl⟩ : ∃ m, k = m + 1 := ⟨k - 1, by omega⟩
    have hl := bytesOf_length s
    simp only [larumref03_strip.l0]
    rcases hb : bytesOf s with _ | ⟨c, _ | ⟨e, l⟩⟩
    · rw [hb] at hl; simp at hl; omega
    · rw [hb] at hl
      simp at hl
      exact ⟨s, by rw [if_neg (by omega)], hb, Nat.le_refl _⟩
    · rw [hb] at hl
      simp at hl
      rw [if_pos (by omega), if_pos (by omega), bt_rd, hb, rd_cons_zero]
      by_cases hc : c = 48
      · rw [if_pos hc, if_pos (by omega)]
        obtain ⟨t, h1, h2, h3⟩ := ih (s.extract 1 s.size) k (by simp; omega) (by simp; omega) (by omega)
        refine ⟨t, h1, ?_, by simp at h3; omega⟩
        rw [h2, bts_extract_to, hb]
        simp only [List.drop_succ_cons, List.drop_zero]
        conv => rhs; unfold stripL
        rw [if_pos hc]
      · rw [if_neg hc]
        refine ⟨s, rfl, ?_, Nat.le_refl _⟩
        rw [hb]; unfold stripL; rw [if_neg hc]
theorem allD_stripL : ∀ l, allD l = true → allD (stripL l) = true
  | [], h => h
  | [_], h => h
  | c :: d :: l, h => by
    unfold stripL
    split
    · exact allD_stripL (d :: l) (by simp only [allD, List.all_cons, Bool.and_eq_true] at h ⊢; exact h.2)
    · exact h
theorem dv_stripL : ∀ l, dv 0 (stripL l) = dv 0 l
  | [] => rfl
  | [_] => rfl
  | c :: d :: l => by
    unfold stripL
    split
    · rename_i h
      rw [dv_stripL (d :: l), h]; rfl
    · rfl
theorem stripL_ne : ∀ l, l ≠ [] → stripL l ≠ []
  | [], h => absurd rfl h
  | [_], h => h
  | c :: d :: l, h => by
    unfold stripL
    split
    · exact stripL_ne (d :: l) (by simp)
    · simp
theorem stripL_head : ∀ l, 1 < (stripL l).length → rd (stripL l) 0 ≠ 48
  | [], h => by simp [stripL] at h
  | [_], h => by simp [stripL] at h
  | c :: d :: l, h => by
    unfold stripL at h ⊢
    split
    · rename_i hc
      rw [if_pos hc] at h
      exact stripL_head (d :: l) h
    · rename_i hc; exact hc
theorem stripL_self {l : List Int} (h : (decide (1 < l.length) && rd l 0 == 48) = false) : stripL l = l := by
  rcases l with _ | ⟨c, _ | ⟨d, l⟩⟩
  · rfl
  · rfl
  · unfold stripL
    rw [if_neg]
    intro hc
    rw [rd_cons_zero, hc] at h
    simp at h
def lexL : List Int → List Int → Bool
  | [], [] => false
  | [], _ :: _ => true
  | _ :: _, [] => false
  | x :: a, y :: b => decide (x < y) || (x == y && lexL a b)
theorem lex_map : ∀ a b : List UInt8, Op.bytesLess a b = lexL (a.map fun x => (x.toNat : Int)) (b.map fun x => (x.toNat : Int))
  | [], [] => by simp [Op.bytesLess, lexL]
  | [], _ :: _ => by simp [Op.bytesLess, lexL]
  | _ :: _, [] => by simp [Op.bytesLess, lexL]
  | x :: a, y :: b => by
    simp only [Op.bytesLess, lexL, List.map_cons]
    rw [lex_map a b]
    congr 1
    · exact decide_eq_decide.2 (by rw [UInt8.lt_iff_toNat_lt]; omega)
    · congr 1
      rw [Bool.eq_iff_iff]
      simp only [beq_iff_eq]
      exact ⟨fun h => by rw [h], fun h => UInt8.toNat_inj.1 (by omega)⟩
theorem lex_bts (s t : ByteArray) : Op.bytesLess s.toList t.toList = lexL (bytesOf s) (bytesOf t) := by
  rw [tl, tl, lex_map]; rfl
theorem dv_split : ∀ (l : List Int) (v : Int), dv v l = v * 10 ^ l.length + dv 0 l
  | [], v => by simp [dv]
  | c :: l, v => by
    show dv (10 * v + (c - 48)) l = v * 10 ^ (l.length + 1) + dv (10 * 0 + (c - 48)) l
    rw [dv_split l (10 * v + (c - 48)), dv_split l (10 * 0 + (c - 48)), Int.pow_succ]
    have e1 : (10 * v + (c - 48)) * 10 ^ l.length = v * (10 ^ l.length * 10) + (c - 48) * 10 ^ l.length := by
      rw [Int.add_mul]; congr 1
      rw [Int.mul_comm 10 v, Int.mul_assoc, Int.mul_comm 10 (10 ^ l.length)]
    have e2 : (10 * 0 + (c - 48)) * 10 ^ l.length = (c - 48) * 10 ^ l.length := by simp
    omega
theorem pow_pos10 (n : Nat) : (0 : Int) < 10 ^ n := Int.pow_pos (by decide)
theorem dv_lt : ∀ l : List Int, allD l = true → dv 0 l < 10 ^ l.length
  | [], _ => by simp [dv]
  | c :: l, h => by
    simp only [allD, List.all_cons, Bool.and_eq_true] at h
    have hc := isD_iff.1 h.1
    have ih := dv_lt l h.2
    have hp := pow_pos10 l.length
    show dv (10 * 0 + (c - 48)) l < 10 ^ (l.length + 1)
    rw [dv_split, Int.pow_succ]
    have := Int.mul_le_mul_of_nonneg_right (show c - 48 ≤ 9 by omega) (Int.le_of_lt hp)
    have e2 : (10 * 0 + (c - 48)) * 10 ^ l.length = (c - 48) * 10 ^ l.length := by simp
    omega
theorem dv_cons (c : Int) (l : List Int) : dv 0 (c :: l) = (c - 48) * 10 ^ l.length + dv 0 l := by
  show dv (10 * 0 + (c - 48)) l = _
  rw [dv_split]; simp
theorem lex_dv : ∀ a b : List Int, a.length = b.length → allD a = true → allD b = true → lexL a b = decide (dv 0 a < dv 0 b)
  | [], [], _, _, _ => by simp [lexL, dv]
  | [], _ :: _, h, _, _ => by simp at h
  | _ :: _, [], h, _, _ => by simp at h
  | x :: a, y :: b, h, ha, hb => by
    simp only [allD, List.all_cons, Bool.and_eq_true] at ha hb
    have hl : a.length = b.length := by simpa using h
    have ia := dv_lt a ha.2
    have ib := dv_lt b hb.2
    have ja := dv_ge a 0 ha.2 (by omega)
    have jb := dv_ge b 0 hb.2 (by omega)
    rw [hl] at ia
    have hp := pow_pos10 b.length
    simp only [lexL, lex_dv a b hl ha.2 hb.2, dv_cons, hl]
    rw [Bool.eq_iff_iff]
    simp only [Bool.or_eq_true, decide_eq_true_eq, Bool.and_eq_true, beq_iff_eq]
    constructor
    · rintro (h1 | ⟨rfl, h1⟩)
      · have e : (y - 48) * 10 ^ b.length = (x - 48) * 10 ^ b.length + (y - x) * 10 ^ b.length := by rw [← Int.add_mul]; congr 1; omega
        have := Int.mul_le_mul_of_nonneg_right (show 1 ≤ y - x by omega) (Int.le_of_lt hp)
        omega
      · omega
    · intro h1
      rcases Int.lt_trichotomy x y with h2 | h2 | h2
      · exact Or.inl h2
      · subst h2; exact Or.inr ⟨rfl, by omega⟩
      · exfalso
        have e : (x - 48) * 10 ^ b.length = (y - 48) * 10 ^ b.length + (x - y) * 10 ^ b.length := by rw [← Int.add_mul]; congr 1; omega
        have := Int.mul_le_mul_of_nonneg_right (show 1 ≤ x - y by omega) (Int.le_of_lt hp)
        omega
/-- A number with more digits is greater. -/
theorem longer {a b : List Int} (ha : allD a = true) (hb : allD b = true) (h1 : rd a 0 ≠ 48) (h : b.length < a.length) : dv 0 b < dv 0 a := by
  rcases a with _ | ⟨c, a⟩
  · simp at h
  · simp only [allD, List.all_cons, Bool.and_eq_true] at ha
    have hc := isD_iff.1 ha.1
    rw [rd_cons_zero] at h1
    have ib := dv_lt b hb
    have ja := dv_ge a 0 ha.2 (by omega)
    rw [dv_cons]
    have hp := pow_pos10 a.length
    have hle : (10 : Int) ^ b.length ≤ 10 ^ a.length := by have := Nat.pow_le_pow_right (show 0 < 10 by decide) (show b.length ≤ a.length by simp at h; omega); exact_mod_cast this
    have := Int.mul_le_mul_of_nonneg_right (show 1 ≤ c - 48 by omega) (Int.le_of_lt hp)
    omega
theorem above_eq (a b : ByteArray) (ha : a.size ≤ 140737488351232) (hb : b.size ≤ 140737488351232) (da : allD (bytesOf a) = true) (db : allD (bytesOf b) = true) (na : bytesOf a ≠ []) (nb : bytesOf b ≠ []) {k : Nat} (hk : a.size < k) (hk' : b.size < k) :
    larumref03_above.f k a b = some (decide (dv 0 (bytesOf a) > dv 0 (bytesOf b))) := by
  obtain ⟨x, x1, x2, _⟩ := strip_eq a.size a k ha rfl hk
  obtain ⟨y, y1, y2, _⟩ := strip_eq b.size b k hb rfl hk'
  unfold larumref03_above.f larumref03_strip.f
  rw [x1, y1]
  simp only [Option.bind_some]
  have dx := allD_stripL _ da
  have dy := allD_stripL _ db
  have nx := stripL_ne _ na
  have ny := stripL_ne _ nb
  have ex := dv_stripL (bytesOf a)
  have ey := dv_stripL (bytesOf b)
  have hx := stripL_head (bytesOf a)
  have hy := stripL_head (bytesOf b)
  rw [← x2] at dx nx ex hx
  rw [← y2] at dy ny ey hy
  rw [← ex, ← ey]
  have lx := bytesOf_length x
  have ly := bytesOf_length y
  have px : 0 < (bytesOf x).length := by cases h : bytesOf x with | nil => exact absurd h nx | cons => simp
  have py : 0 < (bytesOf y).length := by cases h : bytesOf y with | nil => exact absurd h ny | cons => simp
  by_cases h : (x.size : Int) = (y.size : Int)
  · rw [if_pos h, lex_bts, lex_dv _ _ (by omega) dy dx]
  · rw [if_neg h]
    congr 1
    apply decide_eq_decide.2
    constructor
    · intro h1; exact longer dx dy (hx (by omega)) (by omega)
    · intro h1
      apply Int.lt_of_not_ge
      intro h2
      have := longer dy dx (hy (by omega)) (by omega)
      omega
def sg : Bool → Int → Int
  | true, v => -v
  | false, v => v
theorem RParse_l0 (s : ByteArray) (hs : s.size ≤ 140737488351232) (m : Bool) (d : Nat) : ∀ (i k : Nat) (v : Int), i + d = s.size → d < k → allD ((bytesOf s).drop i) = true → 0 ≤ v → dv v ((bytesOf s).drop i) ≤ maxP m →
    larumref03_Parse.l0 k m s (sg m v) (i : Int) = some (sg m (dv v ((bytesOf s).drop i)), 0) := by
  induction d with
  | zero =>
    intro i k v hi hk ha h0 h1
    obtain ⟨k, rfl⟩ : ∃ q, k = q + 1 := ⟨k - 1, by omega⟩
    simp only [larumref03_Parse.l0]
    rw [if_neg (by omega), List.drop_of_length_le (by rw [bytesOf_length]; omega)]
    rfl
  | succ d ih =>
    intro i k v hi hk ha h0 h1
    obtain ⟨k, rfl⟩ : ∃ q, k = q + 1 := ⟨k - 1, by omega⟩
    rw [drop_rd (by rw [bytesOf_length]; omega)] at ha h1 ⊢
    simp only [allD, List.all_cons, Bool.and_eq_true] at ha
    have hc := isD_iff.1 ha.1
    have hge := dv_ge ((bytesOf s).drop (i + 1)) (10 * v + (rd (bytesOf s) (i : Int) - 48)) ha.2 (by omega)
    have h1' : dv (10 * v + (rd (bytesOf s) (i : Int) - 48)) ((bytesOf s).drop (i + 1)) ≤ maxP m := h1
    have := ih (i + 1) k _ (by omega) (by omega) ha.2 (by omega) h1'
    simp only [larumref03_Parse.l0]
    rw [if_pos (by omega), bt_rd, show (rd (bytesOf s) (i : Int) - 48) % 256 = rd (bytesOf s) (i : Int) - 48 by omega, w64 (x := (i : Int) + 1) (by omega)]
    cases m with
    | true =>
      simp only [maxP] at h1'
      rw [if_pos rfl, if_pos (by omega)]
      simp only [sg] at this ⊢
      rw [w64 (x := 10 * -v) (by omega), w64 (by omega), show 10 * -v - (rd (bytesOf s) (i : Int) - 48) = -(10 * v + (rd (bytesOf s) (i : Int) - 48)) by omega]
      exact this
    | false =>
      simp only [maxP] at h1'
      rw [if_neg (by simp), if_pos (by omega)]
      simp only [sg] at this ⊢
      rw [w64 (x := 10 * v) (by omega), w64 (by omega)]
      exact this
theorem RParse_j1 (s : ByteArray) (hs : s.size ≤ 140737488351232) (m : Bool) {k : Nat} (hk : s.size + 30 < k) : larumref03_Parse.j1 k m s = some (parseD m (bytesOf s)) := by
  obtain ⟨k, rfl⟩ : ∃ q, k = q + 3 := ⟨k - 3, by omega⟩
  have j2t : larumref03_Parse.j2 (k + 2) m s true = some (0, 3) := by simp only [larumref03_Parse.j2]; rw [if_pos trivial]
  have j2f : allD (bytesOf s) = true → bytesOf s ≠ [] → larumref03_Parse.j2 (k + 2) m s false = some (if dv 0 (bytesOf s) > maxP m then (0, 5) else (if m = true then -dv 0 (bytesOf s) else dv 0 (bytesOf s), 0)) := by
    intro ha hn
    have j3 : larumref03_Parse.j3 (k + 1) m s (decide (dv 0 (bytesOf s) > maxP m)) = some (if dv 0 (bytesOf s) > maxP m then (0, 5) else (if m = true then -dv 0 (bytesOf s) else dv 0 (bytesOf s), 0)) := by
      simp only [larumref03_Parse.j3]
      by_cases c : dv 0 (bytesOf s) > maxP m
      · rw [if_pos (decide_eq_true c), if_pos c]
      · rw [if_neg (by rw [decide_eq_false c]; simp), if_neg c]
        have := RParse_l0 s hs m s.size 0 k 0 (by omega) (by omega) ha (by omega) (by exact Int.not_lt.1 c)
        rw [show sg m 0 = 0 by cases m <;> rfl] at this
        rw [show ((0 : Nat) : Int) = 0 from rfl] at this
        rw [this, List.drop_zero]
        cases m <;> rfl
    simp only [larumref03_Parse.j2]
    rw [if_neg (by simp)]
    cases m with
    | true =>
      rw [if_pos rfl, above_eq s _ hs (by decide) ha (by decide +kernel) hn (by decide +kernel) (by omega) (by rw [show ByteArray.size _ = 19 from rfl]; omega)]
      simp only [Option.bind_some]
      rw [show dv 0 (bytesOf (⟨#[57, 50, 50, 51, 51, 55, 50, 48, 51, 54, 56, 53, 52, 55, 55, 53, 56, 48, 56]⟩ : ByteArray)) = maxP true by decide +kernel]
      exact j3
    | false =>
      rw [if_neg (by simp), above_eq s _ hs (by decide) ha (by decide +kernel) hn (by decide +kernel) (by omega) (by rw [show ByteArray.size _ = 19 from rfl]; omega)]
      simp only [Option.bind_some]
      rw [show dv 0 (bytesOf (⟨#[57, 50, 50, 51, 51, 55, 50, 48, 51, 54, 56, 53, 52, 55, 55, 53, 56, 48, 55]⟩ : ByteArray)) = maxP false by decide +kernel, ← j3]
      cases hd : decide (dv 0 (bytesOf s) > maxP false) <;> simp
  unfold parseD badD
  simp only [larumref03_Parse.j1]
  rw [Rall s hs (by omega)]
  simp only [Option.bind_some]
  cases he : (bytesOf s).isEmpty with
  | true =>
    rw [if_neg (by simp), j2t]; simp
  | false =>
    have hne : bytesOf s ≠ [] := fun h => by rw [h] at he; simp at he
    cases ha : allD (bytesOf s) with
    | false => rw [if_neg (by simp), j2t]; simp
    | true =>
      rw [if_pos (by simp)]
      simp only [Bool.not_true, Bool.false_or]
      by_cases c1 : (s.size : Int) > 1
      · rw [if_pos c1, if_pos (by omega), bt_rd]
        have e : decide (1 < (bytesOf s).length) = true := decide_eq_true (by rw [bytesOf_length]; omega)
        rw [e, Bool.true_and]
        cases hz : rd (bytesOf s) 0 == 48 with
        | true => rw [j2t]; rfl
        | false => rw [j2f ha hne]; simp
      · rw [if_neg c1]
        have e : decide (1 < (bytesOf s).length) = false := decide_eq_false (by rw [bytesOf_length]; omega)
        rw [e, Bool.false_and, j2f ha hne]; simp
theorem RParse_eq (s : ByteArray) (hs : s.size ≤ 140737488351232) {k : Nat} (hk : s.size + 31 < k) : larumref03_Parse.f k s = some (parseN (bytesOf s)) := by
  obtain ⟨k, rfl⟩ : ∃ q, k = q + 1 := ⟨k - 1, by omega⟩
  unfold larumref03_Parse.f parseN
  by_cases c0 : s.toList = ([] : List UInt8)
  · have hn := (tl_nil s).1 c0
    rw [if_pos c0]
    simp only [larumref03_Parse.j0]
    rw [if_neg (by simp), RParse_j1 s hs false (by omega), hn]
    simp
  · have hne : bytesOf s ≠ [] := fun h => c0 ((tl_nil s).2 h)
    have hp : 0 < (bytesOf s).length := by cases h : bytesOf s with | nil => exact absurd h hne | cons => simp
    have hl := bytesOf_length s
    rw [if_neg c0, if_pos (by omega), bt_rd]
    simp only [larumref03_Parse.j0]
    by_cases c1 : rd (bytesOf s) 0 = 45
    · have e : (rd (bytesOf s) 0 == 45) = true := by simp [c1]
      rw [if_pos e, if_pos (by omega), if_pos ⟨hne, c1⟩, e, RParse_j1 _ (by simp; omega) true (by simp; omega), bts_extract_to]
    · have e : (rd (bytesOf s) 0 == 45) = false := by simp [c1]
      rw [e, if_neg (by simp), if_neg (fun h => c1 h.2), RParse_j1 s hs false (by omega)]
-- a number's digits by a base
def dig (d : Int) : Int := if d < 10 then 48 + d else 87 + d
def digs (b v : Nat) : List Int := if h : v < b ∨ b < 2 then [dig v] else digs b (v / b) ++ [dig ((v % b : Nat) : Int)]
termination_by v
decreasing_by exact Nat.div_lt_self (by omega) (by omega)
theorem digs_lt {b v : Nat} (h : v < b) : digs b v = [dig v] := by rw [digs, dif_pos (Or.inl h)]
theorem digs_ge {b v : Nat} (h : b ≤ v) (hb : 2 ≤ b) : digs b v = digs b (v / b) ++ [dig ((v % b : Nat) : Int)] := by rw [digs, dif_neg (by omega)]
theorem digs_ne (b v : Nat) : digs b v ≠ [] := by
  rw [digs]
  split <;> simp
theorem hex_one : ∀ d : Fin 16, bytesOf ((⟨#[48, 49, 50, 51, 52, 53, 54, 55, 56, 57, 97, 98, 99, 100, 101, 102]⟩ : ByteArray).extract d.val (d.val + 1)) = [dig (d.val : Int)] := by decide +kernel
theorem hex_one' {d : Nat} (h : d < 16) : bytesOf ((⟨#[48, 49, 50, 51, 52, 53, 54, 55, 56, 57, 97, 98, 99, 100, 101, 102]⟩ : ByteArray).extract d (d + 1)) = [dig (d : Int)] := hex_one ⟨d, h⟩
theorem hex_size {d : Nat} (h : d < 16) : ((⟨#[48, 49, 50, 51, 52, 53, 54, 55, 56, 57, 97, 98, 99, 100, 101, 102]⟩ : ByteArray).extract d (d + 1)).size = 1 := by
  rw [bts_size, hex_one' h]; rfl
theorem based_eq {b : Nat} (hb : b = 10 ∨ b = 16) (f : Nat) : ∀ (v k : Nat) (acc : ByteArray), v < 2 ^ f → v < 18446744073709551616 → f + 3 ≤ k → acc.size + f ≤ 1000 →
    ∃ t, num_based.l0 k (v : Int) (b : Int) acc true = some t ∧ bytesOf t = digs b v ++ bytesOf acc ∧ t.size ≤ acc.size + f + 1 := by
  have hb2 : 2 ≤ b ∧ b ≤ 16 := by omega
  induction f with
  | zero =>
    intro v k acc hv hv' hk ha
    obtain ⟨k, rfl⟩ : ∃ m, k = m + 2 := ⟨k - 2, by omega⟩
    obtain rfl : v = 0 := by simp at hv; exact hv
    have hm : Int.tmod ((0 : Nat) : Int) (b : Int) = 0 := by simp
    have hd : Int.tdiv ((0 : Nat) : Int) (b : Int) = 0 := by simp
    have hz : IntKind.u64.wrap 0 = 0 := wu64 (by omega)
    have ho : IntKind.u64.wrap (0 + 1) = 1 := wu64 (by omega)
    have hs := hex_size (d := 0) (by omega)
    simp only [num_based.l0]
    rw [if_pos trivial, if_neg (by omega), hm, hd, hz, ho, if_pos (by omega), if_pos (by omega), if_pos (by omega), if_pos (by rw [show ((0 : Int)).toNat = 0 from rfl, show ((1 : Int)).toNat = 0 + 1 from rfl, hs]; omega)]
    refine ⟨_, by rw [if_neg (by simp)], ?_, ?_⟩
    · rw [bts_append, show ((0 : Int)).toNat = 0 from rfl, show ((1 : Int)).toNat = 0 + 1 from rfl, hex_one' (by omega), digs_lt (by omega)]
    · rw [bts_size, bts_append, show ((0 : Int)).toNat = 0 from rfl, show ((1 : Int)).toNat = 0 + 1 from rfl, hex_one' (by omega), List.length_append, bytesOf_length]; simp; omega
  | succ f ih =>
    intro v k acc hv hv' hk ha
    obtain ⟨k, rfl⟩ : ∃ m, k = m + 1 := ⟨k - 1, by omega⟩
    have hm : Int.tmod (v : Int) (b : Int) = ((v % b : Nat) : Int) := by rw [Int.tmod_eq_emod_of_nonneg (by omega)]; simp
    have hd : Int.tdiv (v : Int) (b : Int) = ((v / b : Nat) : Int) := by rw [Int.tdiv_eq_ediv_of_nonneg (by omega)]; simp
    have hlt : v % b < 16 := by have := Nat.mod_lt v (show 0 < b by omega); omega
    have hle : v / b ≤ v := Nat.div_le_self v b
    have hs := hex_size hlt
    have e1 : IntKind.u64.wrap (((v % b : Nat) : Int) + 1) = ((v % b : Nat) : Int) + 1 := wu64 (by omega)
    have e2 : IntKind.u64.wrap ((v / b : Nat) : Int) = ((v / b : Nat) : Int) := wu64 ⟨Int.natCast_nonneg _, by have h_ := Nat.le_trans hle (show v ≤ 18446744073709551615 by omega); exact Int.ofNat_le.2 h_⟩
    have t1 : (((v % b : Nat) : Int)).toNat = v % b := by omega
    have t2 : (((v % b : Nat) : Int) + 1).toNat = v % b + 1 := by omega
    simp only [num_based.l0]
    rw [if_pos trivial, if_neg (by omega), hm, hd, e1, e2, t1, t2, if_pos (by omega), if_pos (by omega), if_pos (by omega), if_pos (by omega)]
    by_cases c : v < b
    · have hz : v / b = 0 := Nat.div_eq_of_lt c
      obtain ⟨k, rfl⟩ : ∃ m, k = m + 1 := ⟨k - 1, by omega⟩
      rw [hz]
      simp only [num_based.l0]
      refine ⟨_, by rw [if_neg (by simp)], ?_, ?_⟩
      · rw [bts_append, hex_one' hlt, digs_lt c, Nat.mod_eq_of_lt c]
      · rw [bts_size, bts_append, hex_one' hlt, List.length_append, bytesOf_length]; simp; omega
    · have hpos : 0 < v / b := Nat.div_pos (by omega) (by omega)
      have hhalf : v / b < 2 ^ f := by
        rw [Nat.pow_succ] at hv
        have : v / b ≤ v / 2 := Nat.div_le_div_left hb2.1 (by omega)
        omega
      have hdec : decide (((v / b : Nat) : Int) > 0) = true := decide_eq_true (by omega)
      rw [hdec]
      have hsz : ((⟨#[48, 49, 50, 51, 52, 53, 54, 55, 56, 57, 97, 98, 99, 100, 101, 102]⟩ : ByteArray).extract (v % b) (v % b + 1) ++ acc).size = 1 + acc.size := by
        rw [bts_size, bts_append, hex_one' hlt, List.length_append, bytesOf_length]; simp
      obtain ⟨t, h1, h2, h3⟩ := ih (v / b) k ((⟨#[48, 49, 50, 51, 52, 53, 54, 55, 56, 57, 97, 98, 99, 100, 101, 102]⟩ : ByteArray).extract (v % b) (v % b + 1) ++ acc) hhalf (by omega) (by omega) (by omega)
      refine ⟨t, h1, ?_, by rw [hsz] at h3; clear hd e2 hpos hhalf hdec h1 h2 hle; omega⟩
      rw [h2, bts_append, hex_one' hlt, digs_ge (v := v) (by omega) hb2.1, List.append_assoc]
theorem based_f {b : Nat} (hb : b = 10 ∨ b = 16) (v : Nat) (hv : v < 18446744073709551616) {k : Nat} (hk : 67 ≤ k) : ∃ t, num_based.f k (v : Int) (b : Int) = some t ∧ bytesOf t = digs b v ∧ t.size ≤ 65 := by
  obtain ⟨t, h1, h2, h3⟩ := based_eq hb 64 v k ⟨#[]⟩ (by omega) hv hk (by decide)
  exact ⟨t, h1, by rw [h2]; simp [bytesOf], by rw [show ByteArray.size (⟨#[]⟩ : ByteArray) = 0 from rfl] at h3; omega⟩
theorem dv_snoc : ∀ (l : List Int) (v c : Int), dv v (l ++ [c]) = 10 * dv v l + (c - 48)
  | [], v, c => rfl
  | x :: l, v, c => dv_snoc l (10 * v + (x - 48)) c
theorem allD_append (a b : List Int) : allD (a ++ b) = (allD a && allD b) := by simp [allD]
theorem digs10_all (v : Nat) : allD (digs 10 v) = true ∧ dv 0 (digs 10 v) = v := by
  induction v using Nat.strongRecOn with
  | _ v ih =>
    by_cases c : v < 10
    · rw [digs_lt c]
      have e : dig (v : Int) = 48 + v := by unfold dig; rw [if_pos (by omega)]
      refine ⟨by simp [allD, isD, e]; omega, by rw [e]; show 10 * 0 + (48 + (v : Int) - 48) = v; omega⟩
    · rw [digs_ge (v := v) (by omega) (by omega)]
      obtain ⟨h1, h2⟩ := ih (v / 10) (Nat.div_lt_self (by omega) (by omega))
      have e : dig ((v % 10 : Nat) : Int) = 48 + ((v % 10 : Nat) : Int) := by unfold dig; rw [if_pos (by omega)]
      refine ⟨by rw [allD_append, h1, Bool.true_and]; show (isD _ && true) = true; rw [e, Bool.and_true]; exact isD_iff.2 (by omega), ?_⟩
      rw [dv_snoc, h2, e]; omega
theorem rd_append_zero {a : List Int} (h : a ≠ []) (b : List Int) : rd (a ++ b) 0 = rd a 0 := by
  cases a with
  | nil => exact absurd rfl h
  | cons x a => rfl
theorem digs_head {b : Nat} (hb : b = 10 ∨ b = 16) (v : Nat) (hv : 0 < v) : rd (digs b v) 0 ≠ 48 ∧ rd (digs b v) 0 ≠ 45 := by
  induction v using Nat.strongRecOn with
  | _ v ih =>
    by_cases c : v < b
    · rw [digs_lt c, rd_cons_zero]
      unfold dig
      split <;> omega
    · rw [digs_ge (v := v) (by omega) (by omega), rd_append_zero (digs_ne _ _)]
      exact ih (v / b) (Nat.div_lt_self (by omega) (by omega)) (Nat.div_pos (by omega) (by omega))
theorem digs_head0 {b : Nat} (hb : b = 10 ∨ b = 16) (v : Nat) : rd (digs b v) 0 ≠ 45 := by
  by_cases h : 0 < v
  · exact (digs_head hb v h).2
  · obtain rfl : v = 0 := by omega
    rw [digs_lt (by omega)]
    show dig ((0 : Nat) : Int) ≠ 45
    decide
theorem bad_digs (v : Nat) : badD (digs 10 v) = false := by
  unfold badD
  have hne : (digs 10 v).isEmpty = false := by cases h : digs 10 v with | nil => exact absurd h (digs_ne 10 v) | cons => rfl
  rw [hne, (digs10_all v).1]
  simp only [Bool.not_true, Bool.false_or, Bool.and_eq_false_iff, decide_eq_false_iff_not, beq_eq_false_iff_ne]
  by_cases c : v < 10
  · left; rw [digs_lt c]; simp
  · right; exact (digs_head (Or.inl rfl) v (by omega)).1
/-- A number as text. -/
def printN (n : Int) : List Int := if n < 0 then 45 :: digs 10 (-n).toNat else digs 10 n.toNat
theorem Print_eq {n : Int} (h : -9223372036854775808 ≤ n ∧ n ≤ 9223372036854775807) {k : Nat} (hk : 67 ≤ k) : ∃ t, num_Print.f k n = some t ∧ bytesOf t = printN n ∧ t.size ≤ 66 := by
  unfold num_Print.f printN
  by_cases c : n < 0
  · rw [if_pos c, if_pos c]
    have e : IntKind.u64.wrap (-(IntKind.u64.wrap n)) = ((-n).toNat : Int) := by rw [u64w, u64w]; omega
    obtain ⟨t, h1, h2, h3⟩ := based_f (b := 10) (Or.inl rfl) (-n).toNat (by omega) hk
    rw [e, show (10 : Int) = ((10 : Nat) : Int) from rfl, h1]
    simp only [Option.bind_some]
    rw [if_pos (by omega)]
    exact ⟨_, rfl, by rw [bts_append, h2]; rfl, by rw [bts_size, bts_append, List.length_append, bytesOf_length t]; simp [bytesOf]; omega⟩
  · rw [if_neg c, if_neg c]
    have e : IntKind.u64.wrap n = (n.toNat : Int) := by rw [u64w]; omega
    obtain ⟨t, h1, h2, h3⟩ := based_f (b := 10) (Or.inl rfl) n.toNat (by omega) hk
    rw [e, show (10 : Int) = ((10 : Nat) : Int) from rfl, h1]
    exact ⟨t, rfl, h2, by omega⟩
theorem parse_print {n : Int} (h : -9223372036854775808 ≤ n ∧ n ≤ 9223372036854775807) : parseN (printN n) = (n, 0) := by
  unfold parseN printN
  by_cases c : n < 0
  · rw [if_pos c, if_pos ⟨by simp, rfl⟩]
    simp only [List.drop_succ_cons, List.drop_zero]
    unfold parseD
    rw [bad_digs, if_neg (by simp), (digs10_all _).2, if_neg (by simp only [maxP]; omega), if_pos rfl]
    congr 1; omega
  · rw [if_neg c, if_neg (fun h => digs_head0 (Or.inl rfl) _ h.2)]
    unfold parseD
    rw [bad_digs, if_neg (by simp), (digs10_all _).2, if_neg (by simp only [maxP]; omega), if_neg (by simp)]
    congr 1; omega
theorem one_dig : ∀ d : Fin 10, bytesOf (strOfNums [(wrap64 (48 + (d.val : Int))) % 256]) = [dig (d.val : Int)] := by decide +kernel
/-- The reference's text of what is not below nought. -/
theorem RPrint_pos (f : Nat) : ∀ (v k : Nat), v < 2 ^ f → f ≤ 100 → v < 9223372036854775808 → 2 * f + 4 ≤ k → ∃ t, larumref03_Print.f k (v : Int) = some t ∧ bytesOf t = digs 10 v ∧ t.size ≤ f + 1 := by
  have base : ∀ (v k : Nat), v < 10 → 2 ≤ k → ∃ t, larumref03_Print.f k (v : Int) = some t ∧ bytesOf t = digs 10 v ∧ t.size ≤ 1 := by
    intro v k hv hk
    obtain ⟨k, rfl⟩ : ∃ m, k = m + 2 := ⟨k - 2, by omega⟩
    have e := one_dig ⟨v, hv⟩
    simp only [larumref03_Print.f, larumref03_Print.j0]
    rw [if_pos (by omega), if_pos (decide_eq_true (by omega))]
    exact ⟨_, rfl, by rw [e, digs_lt hv], by rw [bts_size, e]; simp⟩
  induction f with
  | zero =>
    intro v k hv _ _ hk
    obtain ⟨t, h1, h2, h3⟩ := base v k (by simp at hv; omega) (by omega)
    exact ⟨t, h1, h2, by omega⟩
  | succ f ih =>
    intro v k hv hf hv' hk
    by_cases c : v < 10
    · obtain ⟨t, h1, h2, h3⟩ := base v k c (by omega)
      exact ⟨t, h1, h2, by omega⟩
    obtain ⟨k, rfl⟩ : ∃ m, k = m + 2 := ⟨k - 2, by omega⟩
    rw [Nat.pow_succ] at hv
    have hd : Int.tdiv (v : Int) 10 = ((v / 10 : Nat) : Int) := by rw [Int.tdiv_eq_ediv_of_nonneg (by omega)]; omega
    have hm : Int.tmod (v : Int) 10 = ((v % 10 : Nat) : Int) := by rw [Int.tmod_eq_emod_of_nonneg (by omega)]; omega
    obtain ⟨t, h1, h2, h3⟩ := ih (v / 10) k (by omega) (by omega) (by omega) (by omega)
    obtain ⟨u, g1, g2, g3⟩ := base (v % 10) k (Nat.mod_lt _ (by omega)) (by omega)
    have hl := bytesOf_length t
    have hl' := bytesOf_length u
    simp only [larumref03_Print.f, larumref03_Print.j0]
    rw [if_pos (by omega), if_neg (by rw [decide_eq_false (by omega)]; simp), if_pos (by omega), hd, hm, w64 (by omega), h1, g1]
    simp only [Option.bind_some]
    rw [if_pos (by omega)]
    exact ⟨_, rfl, by rw [bts_append, h2, g2, digs_ge (v := v) (by omega) (by omega), digs_lt (v := v % 10) (by omega)], by rw [bts_size, bts_append, List.length_append]; omega⟩
theorem RPrint_eq {n : Int} (h : -9223372036854775808 ≤ n ∧ n ≤ 9223372036854775807) {k : Nat} (hk : 200 ≤ k) : ∃ t, larumref03_Print.f k n = some t ∧ bytesOf t = printN n := by
  obtain ⟨k, rfl⟩ : ∃ m, k = m + 2 := ⟨k - 2, by omega⟩
  unfold printN
  by_cases c : n < 0
  · rw [if_pos c]
    have key : ∀ (f v k : Nat), v < 2 ^ f → f ≤ 90 → v ≤ 9223372036854775808 → 0 < v → 2 * f + 20 ≤ k → ∃ t, larumref03_Print.f k (-(v : Int)) = some t ∧ bytesOf t = 45 :: digs 10 v ∧ t.size ≤ f + 2 := by
      have base : ∀ (v k : Nat), v < 10 → 0 < v → 4 ≤ k → ∃ t, larumref03_Print.f k (-(v : Int)) = some t ∧ bytesOf t = 45 :: digs 10 v ∧ t.size ≤ 2 := by
        intro v k hv hv0 hk
        obtain ⟨k, rfl⟩ : ∃ m, k = m + 2 := ⟨k - 2, by omega⟩
        obtain ⟨t, h1, h2, h3⟩ := RPrint_pos 4 v (k + 20) (by omega) (by omega) (by omega) (by omega)
        obtain ⟨t, h1, h2⟩ : ∃ t, larumref03_Print.f k (v : Int) = some t ∧ bytesOf t = digs 10 v := by
          obtain ⟨k, rfl⟩ : ∃ m, k = m + 2 := ⟨k - 2, by omega⟩
          have e := one_dig ⟨v, hv⟩
          simp only [larumref03_Print.f, larumref03_Print.j0]
          rw [if_pos (by omega), if_pos (decide_eq_true (by omega))]
          exact ⟨_, rfl, by rw [e, digs_lt hv]⟩
        have hl := bytesOf_length t
        rw [h2, digs_lt hv] at hl
        simp only [List.length_cons, List.length_nil] at hl
        simp only [larumref03_Print.f, larumref03_Print.j0]
        rw [if_neg (by omega), if_neg (by simp), if_neg (by omega), if_pos (by omega), show -(-(v : Int)) = v by omega, w64 (by omega), h1]
        simp only [Option.bind_some]
        rw [if_pos (by omega)]
        exact ⟨_, rfl, by rw [bts_append, h2]; rfl, by rw [bts_size, bts_append, List.length_append, h2, digs_lt hv]; simp [bytesOf]⟩
      intro f
      induction f with
      | zero => intro v k hv _ _ h0 _; simp at hv; omega
      | succ f ih =>
        intro v k hv hf hv' h0 hk
        by_cases c : v < 10
        · obtain ⟨t, h1, h2, h3⟩ := base v k c h0 (by omega)
          exact ⟨t, h1, h2, by omega⟩
        obtain ⟨k, rfl⟩ : ∃ m, k = m + 2 := ⟨k - 2, by omega⟩
        rw [Nat.pow_succ] at hv
        have hd : Int.tdiv (-(v : Int)) 10 = -((v / 10 : Nat) : Int) := by rw [Int.neg_tdiv, Int.tdiv_eq_ediv_of_nonneg (by omega)]; omega
        have hm : -(Int.tmod (-(v : Int)) 10) = ((v % 10 : Nat) : Int) := by rw [Int.neg_tmod, Int.tmod_eq_emod_of_nonneg (by omega)]; omega
        obtain ⟨t, h1, h2, h3⟩ := ih (v / 10) k (by omega) (by omega) (by omega) (by omega) (by omega)
        obtain ⟨u, g1, g2, g3⟩ := RPrint_pos 4 (v % 10) k (by omega) (by omega) (by omega) (by omega)
        simp only [larumref03_Print.f, larumref03_Print.j0]
        rw [if_neg (by omega), if_neg (by simp), if_neg (by omega), if_neg (by omega), hd, hm, w64 (x := -((v / 10 : Nat) : Int)) (by omega), w64 (x := ((v % 10 : Nat) : Int)) (by omega), h1, g1]
        simp only [Option.bind_some]
        rw [if_pos (by omega)]
        have hu : (bytesOf u).length = 1 := by rw [g2, digs_lt (by omega)]; rfl
        have ht := bytesOf_length t
        refine ⟨_, rfl, ?_, ?_⟩
        · rw [bts_append, h2, g2, digs_ge (v := v) (by omega) (by omega), digs_lt (v := v % 10) (by omega)]; rfl
        · rw [bts_size, bts_append, List.length_append]; omega
    obtain ⟨t, h1, h2, _⟩ := key 64 (-n).toNat (k + 2) (by omega) (by omega) (by omega) (by omega) (by omega)
    rw [show -(((-n).toNat : Nat) : Int) = n by omega] at h1
    exact ⟨t, h1, h2⟩
  · rw [if_neg c]
    obtain ⟨t, h1, h2, _⟩ := RPrint_pos 63 n.toNat (k + 2) (by omega) (by omega) (by omega) (by omega)
    rw [show ((n.toNat : Nat) : Int) = n by omega] at h1
    exact ⟨t, h1, h2⟩
-- prefixes, cuts at a byte
def nats (l : List UInt8) : List Int := l.map fun x => (x.toNat : Int)
theorem nats_bts (s : ByteArray) : nats s.data.toList = bytesOf s := rfl
theorem pre_nats : ∀ (p l : List UInt8), p.isPrefixOf l = (nats p).isPrefixOf (nats l)
  | [], _ => by simp [nats]
  | _ :: _, [] => by simp [nats]
  | a :: p, b :: l => by
    have e : (a == b) = ((a.toNat : Int) == (b.toNat : Int)) := by
      rw [Bool.eq_iff_iff, beq_iff_eq, beq_iff_eq, ← UInt8.toNat_inj]; omega
    show (a == b && p.isPrefixOf l) = (((a.toNat : Int) == (b.toNat : Int)) && (nats p).isPrefixOf (nats l))
    rw [e, pre_nats p l]
theorem CutPrefix_f (s p : ByteArray) : ∃ t b, strings_CutPrefix.f s p = some (t, b) ∧ b = (bytesOf p).isPrefixOf (bytesOf s) ∧ bytesOf t = (if (bytesOf p).isPrefixOf (bytesOf s) = true then (bytesOf s).drop (bytesOf p).length else bytesOf s) ∧ t.size ≤ s.size := by
  have e : Lib.hasPrefix s.data.toList p.data.toList = (bytesOf p).isPrefixOf (bytesOf s) := pre_nats _ _
  have eb : bytesOf (⟨(Lib.trimPrefix s.data.toList p.data.toList).toArray⟩ : ByteArray) = (if (bytesOf p).isPrefixOf (bytesOf s) = true then (bytesOf s).drop (bytesOf p).length else bytesOf s) := by
    unfold Lib.trimPrefix
    rw [e]
    have h0 : ∀ l : List UInt8, bytesOf (⟨l.toArray⟩ : ByteArray) = nats l := fun l => rfl
    rw [h0]
    by_cases h : (bytesOf p).isPrefixOf (bytesOf s) = true
    · rw [if_pos h, if_pos h]
      unfold nats
      rw [List.map_drop]
      simp [bytesOf]
    · rw [if_neg h, if_neg h]; rfl
  refine ⟨_, _, rfl, e, eb, ?_⟩
  rw [bts_size, eb, bts_size]
  split
  · rw [List.length_drop]; omega
  · exact Nat.le_refl _
theorem idx_while (c : UInt8) : ∀ (l : List UInt8),
    (Lib.indexByte l c = -1 ∧ (nats l).takeWhile (fun x => x != (c.toNat : Int)) = nats l ∧ (nats l).dropWhile (fun x => x != (c.toNat : Int)) = [] ∧ (nats l).contains (c.toNat : Int) = false) ∨
    ∃ j : Nat, Lib.indexByte l c = (j : Int) ∧ j < l.length ∧ (nats l).takeWhile (fun x => x != (c.toNat : Int)) = (nats l).take j ∧ (nats l).dropWhile (fun x => x != (c.toNat : Int)) = (nats l).drop j ∧ (nats l).contains (c.toNat : Int) = true
  | [] => Or.inl ⟨rfl, rfl, rfl, rfl⟩
  | x :: l => by
    have hn : nats (x :: l) = (x.toNat : Int) :: nats l := rfl
    by_cases h : x = c
    · subst h
      refine Or.inr ⟨0, by simp [Lib.indexByte], by simp, ?_, ?_, ?_⟩ <;> rw [hn] <;> simp
    · have hb : (x == c) = false := by simpa using h
      have hi : ¬ ((x.toNat : Int) = (c.toNat : Int)) := fun e => h (UInt8.toNat_inj.1 (by omega))
      have hi2 : ((x.toNat : Int) != (c.toNat : Int)) = true := by simpa using hi
      have hi3 : ((c.toNat : Int) == (x.toNat : Int)) = false := by simpa using fun e => hi e.symm
      rcases idx_while c l with ⟨h1, h2, h3, h4⟩ | ⟨j, h1, h2, h3, h4, h5⟩
      · refine Or.inl ⟨by simp [Lib.indexByte, hb, h1], ?_, ?_, ?_⟩
        · rw [hn, List.takeWhile_cons, hi2, if_pos rfl, h2]
        · rw [hn, List.dropWhile_cons, hi2, if_pos rfl, h3]
        · rw [hn, List.contains_cons, hi3, h4]; rfl
      · refine Or.inr ⟨j + 1, ?_, by simpa using h2, ?_, ?_, ?_⟩
        · have : ¬ ((j : Int) = -1) := by omega
          simp [Lib.indexByte, hb, h1, this]
        · rw [hn, List.takeWhile_cons, hi2, if_pos rfl, h3]; rfl
        · rw [hn, List.dropWhile_cons, hi2, if_pos rfl, h4]; rfl
        · rw [hn, List.contains_cons, h5, Bool.or_true]
theorem Cut_f (s : ByteArray) (hs : s.size < 4294967281) (c : UInt8) : ∃ t u b, strings_Cut.f s ⟨#[c]⟩ = some (t, u, b) ∧ bytesOf t = (bytesOf s).takeWhile (fun x => x != (c.toNat : Int)) ∧ bytesOf u = ((bytesOf s).dropWhile (fun x => x != (c.toNat : Int))).drop 1 ∧ b = (bytesOf s).contains (c.toNat : Int) := by
  unfold strings_Cut.f
  have ea : strings_Cut.at s ⟨#[c]⟩ = Lib.indexByte s.data.toList c := rfl
  rw [if_pos ⟨rfl, hs⟩, ea]
  rcases idx_while c s.data.toList with ⟨h1, h2, h3, h4⟩ | ⟨j, h1, h2, h3, h4, h5⟩
  · rw [nats_bts] at h2 h3 h4
    rw [h1, if_pos (by decide)]
    exact ⟨_, _, _, rfl, h2.symm, by rw [h3]; rfl, h4.symm⟩
  · rw [nats_bts] at h3 h4 h5
    rw [h1, if_neg (by omega), show ((j : Int)).toNat = j by omega]
    refine ⟨_, _, _, rfl, ?_, ?_, h5.symm⟩
    · rw [bts_extract, List.drop_zero, h3]
    · rw [bts_extract_to, h4, List.drop_drop]
-- parts at a byte
def cutG (c : Int) : List Int → List Int → List (List Int)
  | w, [] => [w]
  | w, x :: t => if x = c then w :: cutG c [] t else cutG c (w ++ [x]) t
-- how many parts
theorem cutG_len (c : Int) : ∀ (l w : List Int), (cutG c w l).length ≤ l.length + 1
  | [], w => Nat.le_refl _
  | x :: l, w => by
    unfold cutG
    split
    · simpa using cutG_len c l []
    · have := cutG_len c l (w ++ [x]); simp at this ⊢; omega
theorem cutG_size (c : Int) : ∀ (l w : List Int) (p : List Int), p ∈ cutG c w l → p.length ≤ w.length + l.length
  | [], w, p, h => by simp [cutG] at h; subst h; exact Nat.le_refl _
  | x :: l, w, p, h => by
    unfold cutG at h
    split at h
    · rcases List.mem_cons.1 h with rfl | h
      · simp
      · have := cutG_size c l [] p h; simp at this ⊢; omega
    · have := cutG_size c l (w ++ [x]) p h; simp at this ⊢; omega
theorem RCut_l0 (s : ByteArray) (hs : s.size ≤ 1000000) (c : Int) : ∀ (f i : Nat) (L : List ByteArray) (w : ByteArray) (k : Nat), i + f = s.size → f + 1 ≤ k → L.length ≤ i → w.size ≤ i →
    ∃ R, larumref01_Cut.l0 k s c L w (i : Int) = some R ∧ R.map bytesOf = L.map bytesOf ++ cutG c (bytesOf w) ((bytesOf s).drop i) := by
  intro f
  induction f with
  | zero =>
    intro i L w k hi hk hL hw
    obtain ⟨k, rfl⟩ : ∃ j, k = j + 1 := ⟨k - 1, by omega⟩
    simp only [larumref01_Cut.l0]
    rw [if_neg (by omega), if_pos (by omega), List.drop_of_length_le (by rw [bytesOf_length]; omega)]
    exact ⟨_, rfl, by simp [cutG]⟩
  | succ f ih =>
    intro i L w k hi hk hL hw
    obtain ⟨k, rfl⟩ : ∃ j, k = j + 1 := ⟨k - 1, by omega⟩
    rw [drop_rd (by rw [bytesOf_length]; omega)]
    simp only [larumref01_Cut.l0]
    rw [if_pos (by omega), if_pos (by omega), bt_rd, w64 (by omega), show (i : Int) + 1 = ((i + 1 : Nat) : Int) by omega]
    by_cases h : rd (bytesOf s) (i : Int) = c
    · rw [if_pos h, if_pos (by omega)]
      obtain ⟨R, r1, r2⟩ := ih (i + 1) (L ++ [w]) ⟨#[]⟩ k (by omega) (by omega) (by simp; omega) (Nat.zero_le _)
      refine ⟨R, r1, ?_⟩
      rw [r2]
      have e0 : bytesOf (⟨#[]⟩ : ByteArray) = [] := rfl
      simp [cutG, h, e0]
    · have ex : bytesOf (s.extract (i : Int).toNat ((i + 1 : Nat) : Int).toNat) = [rd (bytesOf s) (i : Int)] := by
        have hl : i < (bytesOf s).length := by rw [bytesOf_length]; omega
        rw [show (i : Int).toNat = i by omega, show (((i + 1 : Nat) : Int)).toNat = i + 1 by omega, bts_extract, List.drop_take, drop_rd hl]
        simp
      have hz : (s.extract (i : Int).toNat ((i + 1 : Nat) : Int).toNat).size = 1 := by rw [bts_size, ex]; rfl
      rw [if_neg h, if_pos (by omega), if_pos (by omega), hz, if_pos (by omega)]
      obtain ⟨R, r1, r2⟩ := ih (i + 1) L (w ++ s.extract (i : Int).toNat ((i + 1 : Nat) : Int).toNat) k (by omega) (by omega) (by omega) (by rw [bts_size, bts_append, ex, List.length_append, bytesOf_length]; simp; omega)
      refine ⟨R, r1, ?_⟩
      rw [r2, bts_append, ex]
      simp [cutG, h]
theorem RCut_f (s : ByteArray) (hs : s.size ≤ 1000000) (c : Int) {k : Nat} (hk : s.size + 1 ≤ k) : ∃ R, larumref01_Cut.f k s c = some R ∧ R.map bytesOf = cutG c [] (bytesOf s) := by
  obtain ⟨R, r1, r2⟩ := RCut_l0 s hs c s.size 0 [] ⟨#[]⟩ k (by omega) hk (Nat.zero_le _) (Nat.le_refl _)
  exact ⟨R, r1, by rw [r2]; rfl⟩
-- quoting and reading of quotes, as lists of numbers
def hx (c : Int) : Int := if 48 ≤ c ∧ c ≤ 57 then c - 48 else if 97 ≤ c ∧ c ≤ 102 then c - 87 else -1
def hxs (d : Int) : Int := if d < 10 then 48 + d else 87 + d
def q1 (c : Int) : List Int := if c < 32 ∨ c > 126 then [92, 120, hxs (c / 16), hxs (c % 16)] else if c = 34 ∨ c = 92 then [92, c] else [c]
def escT (d : Int) : List Int → Int × Int
  | a :: b :: _ => if d ≠ 120 ∨ hx a < 0 ∨ hx b < 0 then (0, 0) else if 32 ≤ 16 * hx a + hx b ∧ 16 * hx a + hx b ≤ 126 then (0, 0) else (16 * hx a + hx b, 3)
  | _ => (0, 0)
def escD : List Int → Int × Int
  | [] => (0, 0)
  | d :: l => if d = 34 ∨ d = 92 then (d, 1) else escT d l
theorem escD_cons (d : Int) (l : List Int) : escD (d :: l) = if d = 34 ∨ d = 92 then (d, 1) else escT d l := rfl
theorem escT_cons (d a b : Int) (l : List Int) : escT d (a :: b :: l) = if d ≠ 120 ∨ hx a < 0 ∨ hx b < 0 then (0, 0) else if 32 ≤ 16 * hx a + hx b ∧ 16 * hx a + hx b ≤ 126 then (0, 0) else (16 * hx a + hx b, 3) := rfl
def unitD (c : Int) (l : List Int) : Int × Int := if c < 32 ∨ c > 126 ∨ c = 34 then (0, 0) else if c ≠ 92 then (c, 1) else if (escD l).2 = 0 then (0, 0) else ((escD l).1, (escD l).2 + 1)
def readL : Nat → List Int → Int → List Int → List Int × Int × Bool
  | 0, _, _, _ => ([], 0, false)
  | _ + 1, _, _, [] => ([], 0, false)
  | f + 1, out, i, c :: l => if c = 34 then (out, i + 1, true) else if (unitD c l).2 = 0 then ([], 0, false) else readL f (out ++ [(unitD c l).1]) (i + (unitD c l).2) (l.drop ((unitD c l).2 - 1).toNat)
def readQ : List Int → List Int × Int × Bool
  | [] => ([], 0, false)
  | c :: l => if c ≠ 34 then ([], 0, false) else readL (l.length + 1) [] 1 l
theorem hx_range {c : Int} (h : 0 ≤ hx c) : hx c ≤ 15 ∧ hxs (hx c) = c := by
  unfold hx hxs at *
  by_cases c1 : 48 ≤ c ∧ c ≤ 57
  · rw [if_pos c1] at *; rw [if_pos (by omega)]; omega
  rw [if_neg c1] at *
  by_cases c2 : 97 ≤ c ∧ c ≤ 102
  · rw [if_pos c2] at *; rw [if_neg (by omega)]; omega
  rw [if_neg c2] at h
  omega
theorem hx_low (c : Int) : -1 ≤ hx c := by
  unfold hx
  split
  · omega
  split <;> omega
theorem hx_hxs {d : Int} (h : 0 ≤ d ∧ d ≤ 15) : hx (hxs d) = d := by
  unfold hx hxs
  by_cases c1 : d < 10
  · rw [if_pos c1, if_pos (by omega)]; omega
  · rw [if_neg c1, if_neg (by omega), if_pos (by omega)]; omega
theorem escT_byt (d : Int) (l : List Int) : 0 ≤ (escT d l).1 ∧ (escT d l).1 ≤ 255 ∧ ((escT d l).2 = 0 ∨ (escT d l).2 = 3 ∧ 2 ≤ l.length) := by
  match l with
  | [] => exact ⟨by show (0 : Int) ≤ 0; decide, by show (0 : Int) ≤ 255; decide, .inl rfl⟩
  | [a] => exact ⟨by show (0 : Int) ≤ 0; decide, by show (0 : Int) ≤ 255; decide, .inl rfl⟩
  | a :: b :: r =>
    rw [escT_cons]
    by_cases c2 : d ≠ 120 ∨ hx a < 0 ∨ hx b < 0
    · rw [if_pos c2]; simp
    rw [if_neg c2]
    have ha := hx_range (c := a) (by omega)
    have hb := hx_range (c := b) (by omega)
    by_cases c3 : 32 ≤ 16 * hx a + hx b ∧ 16 * hx a + hx b ≤ 126
    · rw [if_pos c3]; simp
    rw [if_neg c3]
    refine ⟨?_, ?_, .inr ⟨rfl, by simp⟩⟩ <;> dsimp only <;> omega
theorem escD_byt {l : List Int} (h : Byt l) : 0 ≤ (escD l).1 ∧ (escD l).1 ≤ 255 ∧ ((escD l).2 = 0 ∨ (escD l).2 = 1 ∧ 1 ≤ l.length ∨ (escD l).2 = 3 ∧ 3 ≤ l.length) := by
  match l with
  | [] => exact ⟨by decide, by decide, .inl rfl⟩
  | d :: r =>
    have hd := h d (by simp)
    rw [escD_cons]
    by_cases c : d = 34 ∨ d = 92
    · rw [if_pos c]
      exact ⟨hd.1, hd.2, .inr (.inl ⟨rfl, by simp⟩)⟩
    · rw [if_neg c]
      have := escT_byt d r
      simp only [List.length_cons]
      omega
theorem unitD_byt {c : Int} {l : List Int} (h : Byt l) : 0 ≤ (unitD c l).1 ∧ (unitD c l).1 ≤ 255 ∧ 0 ≤ (unitD c l).2 ∧ (unitD c l).2 ≤ l.length + 1 := by
  unfold unitD
  by_cases c1 : c < 32 ∨ c > 126 ∨ c = 34
  · rw [if_pos c1]; dsimp only; omega
  rw [if_neg c1]
  by_cases c2 : c ≠ 92
  · rw [if_pos c2]; dsimp only; omega
  rw [if_neg c2]
  have := escD_byt h
  by_cases c3 : (escD l).2 = 0
  · rw [if_pos c3]; dsimp only; omega
  rw [if_neg c3]
  dsimp only
  omega
theorem q1_unit {x : Int} (h : 0 ≤ x ∧ x ≤ 255) (rest : List Int) : ∃ c l, q1 x ++ rest = c :: l ∧ c ≠ 34 ∧ (unitD c l).1 = x ∧ (unitD c l).2 = (q1 x).length ∧ l.drop ((unitD c l).2 - 1).toNat = rest := by
  unfold q1
  by_cases c1 : x < 32 ∨ x > 126
  · rw [if_pos c1]
    have e1 := hx_hxs (d := x / 16) (by omega)
    have e2 := hx_hxs (d := x % 16) (by omega)
    have ee : escD (120 :: hxs (x / 16) :: hxs (x % 16) :: rest) = (x, 3) := by
      rw [escD_cons, if_neg (by decide), escT_cons, e1, e2, if_neg (by omega), if_neg (by omega), show 16 * (x / 16) + x % 16 = x by omega]
    have eu : unitD 92 (120 :: hxs (x / 16) :: hxs (x % 16) :: rest) = (x, 4) := by
      unfold unitD
      rw [if_neg (by decide), if_neg (by decide), ee, if_neg (show ¬ (3 : Int) = 0 by decide)]
      rfl
    exact ⟨92, 120 :: hxs (x / 16) :: hxs (x % 16) :: rest, rfl, by decide, by rw [eu], by rw [eu]; rfl, by rw [eu]; rfl⟩
  rw [if_neg c1]
  by_cases c2 : x = 34 ∨ x = 92
  · rw [if_pos c2]
    have eu : unitD 92 (x :: rest) = (x, 2) := by
      unfold unitD
      rw [if_neg (by decide), if_neg (by decide), escD_cons, if_pos c2, if_neg (by simp)]
      rfl
    exact ⟨92, x :: rest, rfl, by decide, by rw [eu], by rw [eu]; rfl, by rw [eu]; rfl⟩
  · rw [if_neg c2]
    have eu : unitD x rest = (x, 1) := by
      unfold unitD
      rw [if_neg (by omega), if_pos (by omega)]
    exact ⟨x, rest, rfl, by omega, by rw [eu], by rw [eu]; rfl, by rw [eu]; rfl⟩
theorem readL_quoted : ∀ (xs : List Int) (f : Nat) (out : List Int) (i : Int) (more : List Int), Byt xs → xs.length < f → readL f out i (xs.flatMap q1 ++ 34 :: more) = (out ++ xs, i + ((xs.flatMap q1).length : Int) + 1, true)
  | [], f + 1, out, i, more, _, _ => by
    simp [readL]
  | x :: xs, f + 1, out, i, more, hb, hf => by
    obtain ⟨c, l, e, h1, h2, h3, h4⟩ := q1_unit (hb x (by simp)) (xs.flatMap q1 ++ 34 :: more)
    have hl : (q1 x).length ≠ 0 := by unfold q1; split; simp; split <;> simp
    rw [List.flatMap_cons, List.append_assoc, e, readL, if_neg h1, if_neg (by omega), h4, h2, readL_quoted xs f _ _ _ (fun y hy => hb y (by simp [hy])) (by simp at hf; omega)]
    simp only [List.append_assoc, List.length_append, List.cons_append, List.nil_append, h3, Prod.mk.injEq, and_true, true_and]
    omega
def quoteL (xs : List Int) : List Int := 34 :: (xs.flatMap q1 ++ [34])
theorem flat_len (xs : List Int) : xs.length ≤ (xs.flatMap q1).length ∧ (xs.flatMap q1).length ≤ 4 * xs.length := by
  induction xs with
  | nil => simp
  | cons x xs ih =>
    have hl : 1 ≤ (q1 x).length ∧ (q1 x).length ≤ 4 := by unfold q1; split; simp; split <;> simp
    rw [List.flatMap_cons, List.length_append, List.length_cons]
    omega
theorem readQ_quoted (xs more : List Int) (hb : Byt xs) : readQ (quoteL xs ++ more) = (xs, ((quoteL xs).length : Int), true) := by
  have := flat_len xs
  have e : quoteL xs ++ more = 34 :: (xs.flatMap q1 ++ 34 :: more) := by simp [quoteL]
  rw [e, readQ, if_neg (by decide), readL_quoted xs _ _ _ _ hb (by simp only [List.length_append, List.length_cons]; omega)]
  simp only [quoteL, List.length_cons, List.length_append, List.nil_append, List.length_nil, Prod.mk.injEq, and_true, true_and]
  omega
def natsU (l : List UInt8) : List Int := l.map fun x => (x.toNat : Int)
theorem bts_mk (l : List UInt8) : bytesOf ⟨l.toArray⟩ = natsU l := by simp [bytesOf, natsU]
theorem one_fin : ∀ c : Fin 256, natsU (desk_Quoted.one (c.val : Int)) = q1 (c.val : Int) := by decide +kernel
theorem one_q1 {c : Int} (h : 0 ≤ c ∧ c ≤ 255) : natsU (desk_Quoted.one c) = q1 c := by
  have := one_fin ⟨c.toNat, by omega⟩
  rwa [show ((⟨c.toNat, by omega⟩ : Fin 256).val : Int) = c from by show ((c.toNat : Nat) : Int) = c; omega] at this
theorem natsU_app (a b : List UInt8) : natsU (a ++ b) = natsU a ++ natsU b := by simp [natsU]
theorem dq_l0 (s : ByteArray) : ∀ (n k i : Nat) (out : List UInt8), i + n = s.size → n < k → ∃ t, desk_Quoted.l0 k s (i : Int) out = some t ∧ bytesOf t = natsU out ++ ((bytesOf s).drop i).flatMap q1 ++ [34]
  | 0, k + 1, i, out, h, _ => by
    unfold desk_Quoted.l0
    rw [if_neg (by omega), List.drop_of_length_le (by rw [← bts_size]; omega)]
    exact ⟨_, rfl, by rw [bts_mk, natsU_app]; simp [natsU]⟩
  | n + 1, k + 1, i, out, h, hk => by
    unfold desk_Quoted.l0
    rw [if_pos (by omega), show ((i : Int) + 1) = ((i + 1 : Nat) : Int) by omega]
    obtain ⟨t, h1, h2⟩ := dq_l0 s n k (i + 1) (out ++ desk_Quoted.one (bt s (i : Int))) (by omega) (by omega)
    refine ⟨t, h1, ?_⟩
    rw [h2, natsU_app, drop_rd (l := bytesOf s) (i := i) (by rw [← bts_size]; omega), List.flatMap_cons, bt_rd, one_q1 ((bts_byt s).rd _)]
    simp only [List.append_assoc]
theorem dq_f (s : ByteArray) (hs : s.size ≤ 1000000) {k : Nat} (hk : s.size < k) : ∃ t, desk_Quoted.f k s = some t ∧ bytesOf t = quoteL (bytesOf s) := by
  unfold desk_Quoted.f
  rw [if_pos hs]
  obtain ⟨t, h1, h2⟩ := dq_l0 s s.size k 0 [34] (by omega) hk
  exact ⟨t, h1, by rw [h2]; rfl⟩
theorem idx_fin : ∀ c : Fin 256, Lib.indexByte (⟨#[48, 49, 50, 51, 52, 53, 54, 55, 56, 57, 97, 98, 99, 100, 101, 102]⟩ : ByteArray).data.toList (c.val : Int).toNat.toUInt8 = hx (c.val : Int) := by decide +kernel
theorem idx_hx {c : Int} (h : 0 ≤ c ∧ c ≤ 255) : strings_IndexByte.f (⟨#[48, 49, 50, 51, 52, 53, 54, 55, 56, 57, 97, 98, 99, 100, 101, 102]⟩ : ByteArray) c = some (hx c) := by
  have := idx_fin ⟨c.toNat, by omega⟩
  rw [show ((⟨c.toNat, by omega⟩ : Fin 256).val : Int) = c from by show ((c.toNat : Nat) : Int) = c; omega] at this
  unfold strings_IndexByte.f
  rw [this]
theorem or_fin : ∀ a b : Fin 16, (Go.bits .or .i64 (wrap64 ((a.val : Int) * 16)) (b.val : Int)) % 256 = 16 * (a.val : Int) + (b.val : Int) := by decide +kernel
theorem or_eq {a b : Int} (ha : 0 ≤ a ∧ a ≤ 15) (hb : 0 ≤ b ∧ b ≤ 15) : (Go.bits .or .i64 (wrap64 (a * 16)) b) % 256 = 16 * a + b := by
  have := or_fin ⟨a.toNat, by omega⟩ ⟨b.toNat, by omega⟩
  rwa [show ((⟨a.toNat, by omega⟩ : Fin 16).val : Int) = a from by show ((a.toNat : Nat) : Int) = a; omega, show ((⟨b.toNat, by omega⟩ : Fin 16).val : Int) = b from by show ((b.toNat : Nat) : Int) = b; omega] at this
theorem desc_f (t : ByteArray) {k : Nat} (hk : 1 ≤ k) : desk_escaped.f k t = some (escD (bytesOf t)) := by
  obtain ⟨k, rfl⟩ : ∃ m, k = m + 1 := ⟨k - 1, by omega⟩
  have hz := bts_size t
  have hy := bts_byt t
  unfold desk_escaped.f
  rw [bt_rd]
  match h : bytesOf t with
  | [] => rw [if_pos ((tl_nil t).2 h)]; rfl
  | d :: l =>
    rw [h, List.length_cons] at hz
    rw [if_neg (by rw [tl_nil, h]; simp), if_pos (by omega), rd_cons_zero]
    rw [escD_cons]
    by_cases c1 : d = 34
    · rw [if_pos c1, if_pos (Or.inl c1)]
      simp only [desk_escaped.j0, if_true]
      rw [if_pos (by omega), bt_rd, h, rd_cons_zero]
    rw [if_neg c1]
    by_cases c2 : d = 92
    · rw [if_pos (Or.inr c2)]
      simp only [desk_escaped.j0]
      rw [if_pos (beq_iff_eq.2 c2), if_pos (by omega), bt_rd, h, rd_cons_zero]
    rw [if_neg (by omega)]
    simp only [desk_escaped.j0]
    rw [if_neg (by simpa using c2), if_pos (by omega), bt_rd, h, rd_cons_zero]
    by_cases c3 : d = 120
    · rw [if_pos c3]
      match l, hz, h with
      | [], hz, h => rw [if_pos (by simp at hz; omega)]; rfl
      | [a], hz, h => rw [if_pos (by simp at hz; omega)]; rfl
      | a :: b :: r, hz, h =>
        simp only [List.length_cons] at hz
        have ea : bt t 1 = a := by rw [bt_rd, h]; rfl
        have eb : bt t 2 = b := by rw [bt_rd, h]; rfl
        rw [escT_cons]
        have ha := hy a (by rw [h]; simp)
        have hb := hy b (by rw [h]; simp)
        rw [if_neg (by omega), if_pos (by omega), ea, eb, idx_hx ha]
        simp only [Option.bind_some]
        rw [if_pos (by omega), idx_hx hb]
        simp only [Option.bind_some]
        have la := hx_low a
        have lb := hx_low b
        by_cases c4 : hx a < 0
        · rw [if_pos c4, if_pos (by omega)]
        rw [if_neg c4]
        by_cases c5 : hx b < 0
        · rw [if_pos c5, if_pos (by omega)]
        have ra := hx_range (c := a) (by omega)
        have rb := hx_range (c := b) (by omega)
        rw [if_neg c5, or_eq (by omega) (by omega), if_neg (show ¬ (d ≠ 120 ∨ hx a < 0 ∨ hx b < 0) by omega)]
        by_cases c6 : 16 * hx a + hx b ≥ 32
        · rw [if_pos c6]
          by_cases c7 : 16 * hx a + hx b ≤ 126
          · rw [if_pos c7, if_pos (by omega)]
          · rw [if_neg c7, if_neg (by omega)]
        · rw [if_neg c6, if_neg (by omega)]
    · rw [if_neg c3]
      match l with
      | [] => rfl
      | [a] => rfl
      | a :: b :: r => rw [escT_cons, if_pos (Or.inl c3)]
theorem dRead_l0 (s : ByteArray) (hs : s.size ≤ 1000000) : ∀ (f i k : Nat) (out : List Int), i ≤ s.size → s.size < i + f → 3 * f + 3 ≤ k → out.length ≤ i →
    desk_Read.l0 k s out (i : Int) = some (strOfNums (readL f out (i : Int) ((bytesOf s).drop i)).1, (readL f out (i : Int) ((bytesOf s).drop i)).2.1, (readL f out (i : Int) ((bytesOf s).drop i)).2.2)
  | 0, i, k, out, h1, h2, _, _ => by omega
  | f + 1, i, k, out, h1, h2, h3, h4 => by
    obtain ⟨k, rfl⟩ : ∃ m, k = m + 3 := ⟨k - 3, by omega⟩
    by_cases hi : i < s.size
    · have hd := drop_rd (l := bytesOf s) (i := i) (by rw [← bts_size]; exact hi)
      have hb := (bts_byt s).rd (i : Int)
      rw [hd]
      simp only [desk_Read.l0, readL]
      rw [if_pos (by omega), if_pos (by omega), bt_rd]
      generalize rd (bytesOf s) (i : Int) = c at hb ⊢
      by_cases c1 : c = 34
      · rw [if_pos c1, if_pos c1, w64 (by omega)]
      rw [if_neg c1, if_neg c1]
      by_cases c2 : c < 32 ∨ c > 126
      · have hu : ∀ l, unitD c l = (0, 0) := fun l => by unfold unitD; rw [if_pos (by omega)]
        rw [hu, if_pos rfl]
        have e : ∀ k, desk_Read.j2 (k + 1) s out (i : Int) c true = some ((⟨#[]⟩ : ByteArray), 0, false) := fun k => by simp only [desk_Read.j2, if_true]
        by_cases c3 : c < 32
        · rw [if_pos c3, e]; rfl
        · rw [if_neg c3, decide_eq_true (by omega), e]; rfl
      rw [if_neg (by omega), decide_eq_false (by omega)]
      simp only [desk_Read.j2]
      rw [if_neg (by simp)]
      by_cases c3 : c = 92
      · have hy := (bts_byt s).drop (i + 1)
        have he := escD_byt hy
        have hl : ((bytesOf s).drop (i + 1)).length = s.size - (i + 1) := by rw [List.length_drop, ← bts_size]
        rw [if_pos c3, w64 (by omega), if_pos (by omega), if_pos (by omega), show ((i : Int) + 1).toNat = i + 1 by omega, desc_f _ (by omega), bts_extract_to]
        simp only [Option.bind_some]
        have hu : unitD c ((bytesOf s).drop (i + 1)) = if (escD ((bytesOf s).drop (i + 1))).2 = 0 then (0, 0) else ((escD ((bytesOf s).drop (i + 1))).1, (escD ((bytesOf s).drop (i + 1))).2 + 1) := by
          unfold unitD
          rw [if_neg (by omega), if_neg (by omega)]
        rw [hu]
        by_cases c4 : (escD ((bytesOf s).drop (i + 1))).2 = 0
        · rw [if_pos c4, if_pos c4, if_pos rfl]; rfl
        rw [if_neg c4, if_neg c4]
        dsimp only
        rw [if_pos (show out.length < 140737488355328 by omega), if_neg (by omega), w64 (x := (i : Int) + (escD ((bytesOf s).drop (i + 1))).2) (by omega), w64 (x := (i : Int) + (escD ((bytesOf s).drop (i + 1))).2 + 1) (by omega)]
        obtain ⟨n, hn⟩ : ∃ n : Nat, (escD ((bytesOf s).drop (i + 1))).2 = n := ⟨(escD ((bytesOf s).drop (i + 1))).2.toNat, by omega⟩
        have key := dRead_l0 s hs f (i + n + 1) (k + 1) (out ++ [(escD ((bytesOf s).drop (i + 1))).1]) (by omega) (by omega) (by omega) (by simp; omega)
        simp only [hn]
        rw [show (i : Int) + (n : Int) + 1 = ((i + n + 1 : Nat) : Int) by omega, key, show (i : Int) + ((n : Int) + 1) = ((i + n + 1 : Nat) : Int) by omega, List.drop_drop, show ((n : Int) + 1 - 1).toNat = n by omega, show i + 1 + n = i + n + 1 by omega]
      · have hu : ∀ l, unitD c l = (c, 1) := fun l => by unfold unitD; rw [if_neg (by omega), if_pos c3]
        rw [if_neg c3, hu, if_pos (show out.length < 140737488355328 by omega), if_neg (show ¬ (1 : Int) = 0 by decide), w64 (by omega)]
        have key := dRead_l0 s hs f (i + 1) (k + 1) (out ++ [c]) (by omega) (by omega) (by omega) (by simp; omega)
        dsimp only
        rw [show (i : Int) + 1 = ((i + 1 : Nat) : Int) by omega, key, show ((1 : Int) - 1).toNat = 0 by omega, List.drop_zero]
    · rw [List.drop_of_length_le (by rw [← bts_size]; omega)]
      simp only [desk_Read.l0, readL]
      rw [if_neg (by omega)]
      rfl
theorem dRead_f (s : ByteArray) (hs : s.size ≤ 1000000) {k : Nat} (hk : 3 * s.size + 10 ≤ k) : desk_Read.f k s = some (strOfNums (readQ (bytesOf s)).1, (readQ (bytesOf s)).2.1, (readQ (bytesOf s)).2.2) := by
  obtain ⟨k, rfl⟩ : ∃ m, k = m + 1 := ⟨k - 1, by omega⟩
  have hz := bts_size s
  unfold desk_Read.f
  rw [bt_rd]
  match h : bytesOf s with
  | [] => rw [if_pos ((tl_nil s).2 h)]; simp only [desk_Read.j0, if_true]; rfl
  | d :: l =>
    rw [h, List.length_cons] at hz
    rw [if_neg (by rw [tl_nil, h]; simp), if_pos (by omega), rd_cons_zero]
    have hq : readQ (d :: l) = if d ≠ 34 then ([], 0, false) else readL (l.length + 1) [] 1 l := rfl
    rw [hq]
    by_cases c1 : d = 34
    · rw [if_neg (by simpa using c1)]
      simp only [desk_Read.j0]
      rw [if_neg (by simp [c1])]
      have key := dRead_l0 s hs (l.length + 1) 1 k [] (by omega) (by omega) (by omega) (by simp)
      rw [show ((1 : Nat) : Int) = 1 by rfl] at key
      rw [key, h]
      rfl
    · rw [if_pos c1]
      simp only [desk_Read.j0]
      rw [if_pos (by simpa using c1)]
      rfl
theorem rdig_f {k : Nat} (hk : 1 ≤ k) {c : Int} (h : 0 ≤ c ∧ c ≤ 255) : larumref33_digit.f k c = some (hx c) := by
  obtain ⟨k, rfl⟩ : ∃ m, k = m + 1 := ⟨k - 1, by omega⟩
  unfold larumref33_digit.f hx
  simp only [larumref33_digit.j0]
  by_cases c1 : c ≥ 48
  · rw [if_pos c1]
    by_cases c2 : c ≤ 57
    · rw [if_pos (decide_eq_true c2), if_pos ⟨c1, c2⟩, w64 (x := c) (by omega), w64 (by omega)]
    rw [if_neg (by simpa using c2), if_neg (show ¬ (48 ≤ c ∧ c ≤ 57) by omega)]
    by_cases c3 : c ≥ 97
    · rw [if_pos c3]
      by_cases c4 : c ≤ 102
      · rw [if_pos c4, if_pos ⟨c3, c4⟩, w64 (x := c) (by omega), w64 (by omega)]
      · rw [if_neg c4, if_neg (by omega)]
    · rw [if_neg c3, if_neg (by omega)]
  · rw [if_neg c1, if_neg (by simp), if_neg (by omega), if_neg (by omega), if_neg (by omega)]
theorem rescD (l : List Int) : escD l = if 0 < l.length ∧ (rd l 0 = 34 ∨ rd l 0 = 92) then (rd l 0, 1) else if l.length ≤ 2 ∨ rd l 0 ≠ 120 ∨ hx (rd l 1) < 0 ∨ hx (rd l 2) < 0 then (0, 0) else if 32 ≤ 16 * hx (rd l 1) + hx (rd l 2) ∧ 16 * hx (rd l 1) + hx (rd l 2) ≤ 126 then (0, 0) else (16 * hx (rd l 1) + hx (rd l 2), 3) := by
  match l with
  | [] => rw [if_neg (by simp), if_pos (by simp)]; rfl
  | d :: r =>
    rw [escD_cons, rd_cons_zero]
    by_cases c : d = 34 ∨ d = 92
    · rw [if_pos c, if_pos ⟨by simp, c⟩]
    rw [if_neg c, if_neg (fun h => c h.2)]
    match r with
    | [] => rw [if_pos (by simp)]; rfl
    | [a] => rw [if_pos (by simp)]; rfl
    | a :: b :: r =>
      have : ¬ (d :: a :: b :: r).length ≤ 2 := by simp
      rw [escT_cons, show rd (d :: a :: b :: r) 1 = a from rfl, show rd (d :: a :: b :: r) 2 = b from rfl]
      simp only [this, false_or]
theorem runit_f (s : ByteArray) (hs : s.size ≤ 1000000) (i : Nat) (hi : i < s.size) {k : Nat} (hk : 4 ≤ k) (h34 : rd (bytesOf s) (i : Int) ≠ 34) : larumref33_unit.f k s (i : Int) = some (unitD (rd (bytesOf s) (i : Int)) ((bytesOf s).drop (i + 1))) := by
  obtain ⟨k, rfl⟩ : ∃ m, k = m + 4 := ⟨k - 4, by omega⟩
  have hb := (bts_byt s).rd (i : Int)
  unfold larumref33_unit.f
  rw [if_pos (by omega), if_pos (by omega), bt_rd]
  generalize hc : rd (bytesOf s) (i : Int) = c at hb h34 ⊢
  have e : ∀ m (b : Bool), larumref33_unit.j0 (m + 1) s (i : Int) c true = some (0, 0) := fun m b => by simp only [larumref33_unit.j0, if_true]
  by_cases c1 : c < 32
  · rw [if_pos c1, e _ true]; unfold unitD; rw [if_pos (by omega)]
  rw [if_neg c1]
  by_cases c2 : c > 126
  · rw [if_pos c2, e _ true]; unfold unitD; rw [if_pos (by omega)]
  rw [if_neg c2, show (c == 34) = false by simpa using h34]
  unfold unitD
  rw [if_neg (by omega)]
  simp only [larumref33_unit.j0]
  rw [if_neg (by simp)]
  by_cases c3 : c = 92
  · have hlen : ((bytesOf s).drop (i + 1)).length = s.size - (i + 1) := by rw [List.length_drop, ← bts_size]
    have e1 : rd ((bytesOf s).drop (i + 1)) 0 = bt s ((i : Int) + 1) := by rw [bt_rd]; unfold rd; simp [show ((i : Int) + 1).toNat = i + 1 by omega]
    have e2 : rd ((bytesOf s).drop (i + 1)) 1 = bt s ((i : Int) + 2) := by rw [bt_rd]; unfold rd; simp [show ((i : Int) + 2).toNat = i + 1 + 1 by omega]
    have e3 : rd ((bytesOf s).drop (i + 1)) 2 = bt s ((i : Int) + 3) := by rw [bt_rd]; unfold rd; simp [show ((i : Int) + 3).toNat = i + 1 + 2 by omega]
    have hy : ∀ j : Int, 0 ≤ bt s j ∧ bt s j ≤ 255 := fun j => by rw [bt_rd]; exact (bts_byt s).rd j
    have hE := rescD ((bytesOf s).drop (i + 1))
    rw [hlen, e1, e2, e3] at hE
    generalize escD ((bytesOf s).drop (i + 1)) = E at hE
    rw [if_pos c3, if_neg (show ¬ c ≠ 92 by omega), w64 (x := (i : Int) + 1) (by omega)]
    have j1t : ∀ m, (i : Int) + 1 < (s.size : Int) → larumref33_unit.j1 (m + 1) s (i : Int) true = some (bt s ((i : Int) + 1), 2) := fun m h => by
      simp only [larumref33_unit.j1, if_true]
      rw [w64 (x := (i : Int) + 1) (by omega), if_pos (by omega), if_pos h]
    have j2t : ∀ m, larumref33_unit.j2 (m + 1) s (i : Int) true = some (0, 0) := fun m => by simp only [larumref33_unit.j2, if_true]
    have bad : (s.size - (i + 1) ≤ 2 ∨ bt s ((i : Int) + 1) ≠ 120 ∨ hx (bt s ((i : Int) + 2)) < 0 ∨ hx (bt s ((i : Int) + 3)) < 0) → ¬ (0 < s.size - (i + 1) ∧ (bt s ((i : Int) + 1) = 34 ∨ bt s ((i : Int) + 1) = 92)) → E = (0, 0) := fun h1 h2 => by rw [hE, if_neg h2, if_pos h1]
    have b0 : E = (0, 0) → (if E.2 = 0 then ((0 : Int), (0 : Int)) else (E.1, E.2 + 1)) = (0, 0) := fun h => by rw [h]; rfl
    by_cases c4 : (i : Int) + 1 < (s.size : Int)
    · rw [if_pos c4, if_pos (show 0 ≤ (i : Int) + 1 by omega)]
      by_cases c5 : bt s ((i : Int) + 1) = 34
      · rw [if_pos (show 0 < s.size - (i + 1) ∧ (bt s ((i : Int) + 1) = 34 ∨ bt s ((i : Int) + 1) = 92) from ⟨by omega, Or.inl c5⟩)] at hE
        rw [if_pos c5, j1t _ c4, hE]; rfl
      rw [if_neg c5]
      by_cases c6 : bt s ((i : Int) + 1) = 92
      · rw [if_pos (show 0 < s.size - (i + 1) ∧ (bt s ((i : Int) + 1) = 34 ∨ bt s ((i : Int) + 1) = 92) from ⟨by omega, Or.inr c6⟩)] at hE
        rw [beq_iff_eq.2 c6, j1t _ c4, hE]; rfl
      rw [show (bt s ((i : Int) + 1) == 92) = false by simpa using c6]
      have c56 : ¬ (0 < s.size - (i + 1) ∧ (bt s ((i : Int) + 1) = 34 ∨ bt s ((i : Int) + 1) = 92)) := by omega
      simp only [larumref33_unit.j1]
      rw [if_neg (show ¬ false = true by simp), w64 (x := (i : Int) + 1) (by omega), w64 (x := (i : Int) + 2) (by omega), w64 (x := (i : Int) + 3) (by omega)]
      by_cases c7 : (i : Int) + 3 ≥ (s.size : Int)
      · rw [if_pos c7, j2t, b0 (bad (by omega) c56)]
      rw [if_neg c7, if_pos (show 0 ≤ (i : Int) + 1 by omega), if_pos c4]
      by_cases c8 : bt s ((i : Int) + 1) = 120
      · rw [if_pos c8, if_pos (show 0 ≤ (i : Int) + 2 by omega), if_pos (show (i : Int) + 2 < (s.size : Int) by omega), rdig_f (by omega) (hy _)]
        simp only [Option.bind_some]
        have la := hx_low (bt s ((i : Int) + 2))
        have lb := hx_low (bt s ((i : Int) + 3))
        by_cases c9 : hx (bt s ((i : Int) + 2)) < 0
        · rw [if_pos c9, j2t, b0 (bad (by omega) c56)]
        rw [if_neg c9, if_pos (show 0 ≤ (i : Int) + 3 by omega), if_pos (show (i : Int) + 3 < (s.size : Int) by omega), rdig_f (by omega) (hy _)]
        simp only [Option.bind_some]
        by_cases c10 : hx (bt s ((i : Int) + 3)) < 0
        · rw [decide_eq_true c10, j2t, b0 (bad (by omega) c56)]
        have ra := hx_range (c := bt s ((i : Int) + 2)) (by omega)
        have rb := hx_range (c := bt s ((i : Int) + 3)) (by omega)
        rw [if_neg c56, if_neg (by omega)] at hE
        rw [decide_eq_false c10]
        simp only [larumref33_unit.j2]
        rw [if_neg (show ¬ false = true by simp), w64 (x := (i : Int) + 2) (by omega), w64 (x := (i : Int) + 3) (by omega), if_pos (show 0 ≤ (i : Int) + 2 by omega), if_pos (show (i : Int) + 2 < (s.size : Int) by omega), rdig_f (by omega) (hy _)]
        simp only [Option.bind_some]
        rw [if_pos (show 0 ≤ (i : Int) + 3 by omega), if_pos (show (i : Int) + 3 < (s.size : Int) by omega), rdig_f (by omega) (hy _)]
        simp only [Option.bind_some]
        rw [w64 (x := 16 * hx (bt s ((i : Int) + 2))) (by omega), w64 (x := 16 * hx (bt s ((i : Int) + 2)) + hx (bt s ((i : Int) + 3))) (by omega), show (16 * hx (bt s ((i : Int) + 2)) + hx (bt s ((i : Int) + 3))) % 256 = 16 * hx (bt s ((i : Int) + 2)) + hx (bt s ((i : Int) + 3)) by omega]
        by_cases c11 : 16 * hx (bt s ((i : Int) + 2)) + hx (bt s ((i : Int) + 3)) ≥ 32
        · rw [if_pos c11]
          by_cases c12 : 16 * hx (bt s ((i : Int) + 2)) + hx (bt s ((i : Int) + 3)) ≤ 126
          · rw [if_pos ⟨c11, c12⟩] at hE
            rw [if_pos c12, b0 hE]
          · rw [if_neg (by omega)] at hE
            rw [if_neg c12, hE]; rfl
        · rw [if_neg (by omega)] at hE
          rw [if_neg c11, hE]; rfl
      · rw [if_neg c8, j2t, b0 (bad (by omega) c56)]
    · rw [if_neg c4, b0 (bad (by omega) (by omega))]
      simp only [larumref33_unit.j1]
      rw [if_neg (by simp), w64 (x := (i : Int) + 3) (by omega), if_pos (by omega), j2t]
  · rw [if_neg c3, if_pos c3]
theorem rRead_l0 (s : ByteArray) (hs : s.size ≤ 1000000) : ∀ (f i k : Nat) (out : List Int), i ≤ s.size → s.size < i + f → f + 6 ≤ k → out.length ≤ i →
    larumref33_Read.l0 k s out (i : Int) = some (strOfNums (readL f out (i : Int) ((bytesOf s).drop i)).1, (readL f out (i : Int) ((bytesOf s).drop i)).2.1, (readL f out (i : Int) ((bytesOf s).drop i)).2.2)
  | 0, i, k, out, h1, h2, _, _ => by omega
  | f + 1, i, k, out, h1, h2, h3, h4 => by
    obtain ⟨k, rfl⟩ : ∃ m, k = m + 1 := ⟨k - 1, by omega⟩
    by_cases hi : i < s.size
    · have hd := drop_rd (l := bytesOf s) (i := i) (by rw [← bts_size]; exact hi)
      rw [hd]
      simp only [larumref33_Read.l0, readL]
      rw [if_pos (by omega), if_pos (by omega), bt_rd]
      by_cases c1 : rd (bytesOf s) (i : Int) = 34
      · rw [if_pos c1, if_pos c1, w64 (by omega)]
      rw [if_neg c1, if_neg c1, runit_f s hs i hi (by omega) c1]
      simp only [Option.bind_some]
      have hu := unitD_byt (c := rd (bytesOf s) (i : Int)) ((bts_byt s).drop (i + 1))
      have hlen : ((bytesOf s).drop (i + 1)).length = s.size - (i + 1) := by rw [List.length_drop, ← bts_size]
      generalize unitD (rd (bytesOf s) (i : Int)) ((bytesOf s).drop (i + 1)) = u at hu ⊢
      by_cases c4 : u.2 = 0
      · rw [if_pos c4, if_pos c4]; rfl
      rw [if_neg c4, if_neg c4, if_pos (by omega), w64 (by omega)]
      obtain ⟨n, hn⟩ : ∃ n : Nat, u.2 = n := ⟨u.2.toNat, by omega⟩
      have key := rRead_l0 s hs f (i + n) k (out ++ [u.1]) (by omega) (by omega) (by omega) (by simp; omega)
      rw [hn, show (i : Int) + (n : Int) = ((i + n : Nat) : Int) by omega, key, List.drop_drop, show i + 1 + ((n : Int) - 1).toNat = i + n by omega]
    · rw [List.drop_of_length_le (by rw [← bts_size]; omega)]
      simp only [larumref33_Read.l0, readL]
      rw [if_neg (by omega)]
      rfl
theorem rRead_f (s : ByteArray) (hs : s.size ≤ 1000000) {k : Nat} (hk : s.size + 10 ≤ k) : larumref33_Read.f k s = some (strOfNums (readQ (bytesOf s)).1, (readQ (bytesOf s)).2.1, (readQ (bytesOf s)).2.2) := by
  obtain ⟨k, rfl⟩ : ∃ m, k = m + 1 := ⟨k - 1, by omega⟩
  have hz := bts_size s
  unfold larumref33_Read.f
  rw [bt_rd]
  match h : bytesOf s with
  | [] => rw [if_pos ((tl_nil s).2 h)]; simp only [larumref33_Read.j0, if_true]; rfl
  | d :: l =>
    rw [h, List.length_cons] at hz
    rw [if_neg (by rw [tl_nil, h]; simp), if_pos (by omega), rd_cons_zero]
    have hq : readQ (d :: l) = if d ≠ 34 then ([], 0, false) else readL (l.length + 1) [] 1 l := rfl
    rw [hq]
    by_cases c1 : d = 34
    · rw [if_neg (by simpa using c1)]
      simp only [larumref33_Read.j0]
      rw [if_neg (by simp [c1])]
      have key := rRead_l0 s hs (l.length + 1) 1 k [] (by omega) (by omega) (by omega) (by simp)
      rw [show ((1 : Nat) : Int) = 1 by rfl] at key
      rw [key, h]
      rfl
    · rw [if_pos c1]
      simp only [larumref33_Read.j0]
      rw [if_pos (by simpa using c1)]
      rfl
-- events' lines: what is said, and the program's side
theorem parseN_bd (l : List Int) : -9223372036854775808 ≤ (parseN l).1 ∧ (parseN l).1 ≤ 9223372036854775807 := by
  have hD : ∀ m l, -9223372036854775808 ≤ (parseD m l).1 ∧ (parseD m l).1 ≤ 9223372036854775807 := by
    intro m l
    unfold parseD
    split
    · exact ⟨by decide, by decide⟩
    · split
      · exact ⟨by decide, by decide⟩
      · rename_i h1 h2
        have ha : allD l = true := by
          cases hh : allD l with
          | true => rfl
          | false => exact absurd (by simp [badD, hh]) h1
        have := dv_ge l 0 ha (by omega)
        cases m <;> simp only [maxP, Bool.false_eq_true, if_false, if_true] at h2 ⊢ <;> omega
  unfold parseN
  split <;> exact hD _ _
def I64 (n : Int) : Prop := -9223372036854775808 ≤ n ∧ n ≤ 9223372036854775807
def wrds : List ByteArray := [(⟨#[]⟩ : ByteArray), (⟨#[97, 99, 99, 101, 112, 116]⟩ : ByteArray), (⟨#[98, 121, 116, 101, 115]⟩ : ByteArray), (⟨#[98, 117, 100, 103, 101, 116]⟩ : ByteArray), (⟨#[99, 108, 111, 115, 101]⟩ : ByteArray), (⟨#[116, 105, 99, 107]⟩ : ByteArray), (⟨#[112, 105, 99, 107]⟩ : ByteArray)]
def sgns : List ByteArray := [(⟨#[]⟩ : ByteArray), (⟨#[]⟩ : ByteArray), (⟨#[99, 116]⟩ : ByteArray), (⟨#[99, 110]⟩ : ByteArray), (⟨#[99]⟩ : ByteArray), (⟨#[110]⟩ : ByteArray), (⟨#[99]⟩ : ByteArray)]
def wrd (kind : Int) : ByteArray := rdOf ByteArray.empty wrds kind
def sgn (kind : Int) : ByteArray := rdOf ByteArray.empty sgns kind
def pieceL (c conn : Int) (text : List Int) (n : Int) : List Int := if c = 99 then printN conn else if c = 110 then printN n else quoteL text
def tailL (l : List Int) (conn : Int) (text : List Int) (n : Int) : List Int := l.flatMap (fun c => 32 :: pieceL c conn text n)
def lineL (kind conn : Int) (text : List Int) (n : Int) : List Int := bytesOf (wrd kind) ++ tailL (bytesOf (sgn kind)) conn text n
def mayL (kind conn : Int) (text : List Int) (n : Int) : Bool := decide (1 ≤ kind ∧ kind ≤ 6) && (((bytesOf (sgn kind)).contains 99 || decide (conn = 0)) && ((bytesOf (sgn kind)).contains 110 || decide (n = 0)) && ((bytesOf (sgn kind)).contains 116 || decide (text = [])))
theorem six {kind : Int} (h : 1 ≤ kind ∧ kind ≤ 6) : kind = 1 ∨ kind = 2 ∨ kind = 3 ∨ kind = 4 ∨ kind = 5 ∨ kind = 6 := by omega
theorem form_eq {kind : Int} (h : 1 ≤ kind ∧ kind ≤ 6) : desk_form.f kind = some (wrd kind, sgn kind) := by
  rcases six h with rfl | rfl | rfl | rfl | rfl | rfl <;> rfl
theorem form_none {kind : Int} (h : ¬ (1 ≤ kind ∧ kind ≤ 6)) : desk_form.f kind = some ((⟨#[]⟩ : ByteArray), (⟨#[]⟩ : ByteArray)) := by
  unfold desk_form.f
  rw [if_neg (by omega), if_neg (by omega), if_neg (by omega), if_neg (by omega), if_neg (by omega), if_neg (by omega)]
theorem wrd_small {kind : Int} (h : 1 ≤ kind ∧ kind ≤ 6) : (wrd kind).size ≤ 6 ∧ bytesOf (wrd kind) ≠ [] ∧ (sgn kind).size ≤ 2 := by
  rcases six h with rfl | rfl | rfl | rfl | rfl | rfl <;> exact ⟨by decide, by decide, by decide⟩
theorem sgn_idx {kind : Int} (h : 1 ≤ kind ∧ kind ≤ 6) : decide (0 ≤ Lib.indexByte (sgn kind).data.toList 99) = (bytesOf (sgn kind)).contains 99 ∧ decide (0 ≤ Lib.indexByte (sgn kind).data.toList 110) = (bytesOf (sgn kind)).contains 110 ∧ decide (0 ≤ Lib.indexByte (sgn kind).data.toList 116) = (bytesOf (sgn kind)).contains 116 := by
  rcases six h with rfl | rfl | rfl | rfl | rfl | rfl <;> decide
theorem ok_eq {kind : Int} (h : 1 ≤ kind ∧ kind ≤ 6) (conn : Int) (text : ByteArray) (n : Int) : desk_Line.ok (sgn kind) conn text n = (((bytesOf (sgn kind)).contains 99 || decide (conn = 0)) && ((bytesOf (sgn kind)).contains 110 || decide (n = 0)) && ((bytesOf (sgn kind)).contains 116 || decide (bytesOf text = []))) := by
  obtain ⟨h1, h2, h3⟩ := sgn_idx h
  unfold desk_Line.ok
  rw [h1, h2, h3, show decide (text.toList = []) = decide (bytesOf text = []) from decide_eq_decide.2 (tl_nil text)]
theorem quoteL_len (l : List Int) : (quoteL l).length ≤ 4 * l.length + 2 := by
  have := flat_len l
  simp only [quoteL, List.length_cons, List.length_append, List.length_nil]
  omega
theorem dpiece {k : Nat} {conn n : Int} {text : ByteArray} (hk : 2000 ≤ k) (hc : I64 conn) (hn : I64 n) (ht : text.size ≤ 1000) (c : UInt8) : ∃ p, desk_Line.piece k conn text n c = some p ∧ bytesOf p = pieceL (c.toNat : Int) conn (bytesOf text) n ∧ p.size ≤ 5000 := by
  unfold desk_Line.piece pieceL
  by_cases c1 : c = 99
  · subst c1
    obtain ⟨p, h1, h2, h3⟩ := Print_eq hc (k := k) (by omega)
    exact ⟨p, by rw [if_pos rfl, h1], by rw [if_pos (show ((UInt8.toNat 99 : Nat) : Int) = 99 from rfl), h2], by omega⟩
  have c1' : ¬ ((c.toNat : Int) = 99) := fun e => c1 (UInt8.toNat_inj.1 (show c.toNat = 99 by omega))
  rw [if_neg c1, if_neg c1']
  by_cases c2 : c = 110
  · subst c2
    obtain ⟨p, h1, h2, h3⟩ := Print_eq hn (k := k) (by omega)
    exact ⟨p, by rw [if_pos rfl, h1], by rw [if_pos (show ((UInt8.toNat 110 : Nat) : Int) = 110 from rfl), h2], by omega⟩
  have c2' : ¬ ((c.toNat : Int) = 110) := fun e => c2 (UInt8.toNat_inj.1 (show c.toNat = 110 by omega))
  rw [if_neg c2, if_neg c2']
  obtain ⟨p, h1, h2⟩ := dq_f text (by omega) (k := k) (by omega)
  have := quoteL_len (bytesOf text)
  have := bts_size text
  exact ⟨p, h1, h2, by rw [bts_size, h2]; omega⟩
theorem ba_app (a b : ByteArray) : (a ++ b).size = a.size + b.size := ByteArray.size_append
theorem dgo {k : Nat} {conn n : Int} {text : ByteArray} (hk : 2000 ≤ k) (hc : I64 conn) (hn : I64 n) (ht : text.size ≤ 1000) : ∀ (l : List UInt8) (acc : ByteArray), acc.size + l.length * 6000 ≤ 100000000 → ∃ t, desk_Line.go k conn text n l acc = some t ∧ bytesOf t = bytesOf acc ++ tailL (natsU l) conn (bytesOf text) n ∧ t.size ≤ acc.size + l.length * 6000
  | [], acc, h => ⟨acc, rfl, by simp [natsU, tailL], by simp⟩
  | c :: r, acc, h => by
    obtain ⟨p, p1, p2, p3⟩ := dpiece hk hc hn ht c
    rw [List.length_cons] at h
    have hz : ((acc ++ (⟨#[32]⟩ : ByteArray)) ++ p).size = acc.size + 1 + p.size := by rw [ba_app, ba_app]; rfl
    obtain ⟨t, t1, t2, t3⟩ := dgo hk hc hn ht r ((acc ++ (⟨#[32]⟩ : ByteArray)) ++ p) (by omega)
    refine ⟨t, ?_, ?_, by rw [List.length_cons]; omega⟩
    · rw [desk_Line.go, p1]
      simp only [Option.bind_some]
      rw [if_pos (by omega), t1]
    · rw [t2, bts_append, bts_append, p2]
      simp only [tailL, natsU, List.map_cons, List.flatMap_cons, List.append_assoc]
      rfl
theorem dLine_eq {k : Nat} {kind conn n : Int} {text : ByteArray} (hk : 2000 ≤ k) (hc : I64 conn) (hn : I64 n) (ht : text.size ≤ 1000) :
    (mayL kind conn (bytesOf text) n = true → ∃ t, desk_Line.f k kind conn text n = some (t, 0) ∧ bytesOf t = lineL kind conn (bytesOf text) n ∧ t.size ≤ 20000) ∧ (mayL kind conn (bytesOf text) n = false → desk_Line.f k kind conn text n = some ((⟨#[]⟩ : ByteArray), 1)) := by
  unfold mayL
  by_cases hr : 1 ≤ kind ∧ kind ≤ 6
  · have hw := wrd_small hr
    rw [decide_eq_true hr, Bool.true_and, ← ok_eq hr]
    unfold desk_Line.f
    rw [form_eq hr]
    simp only [Option.bind_some]
    have hne : (wrd kind).toList ≠ [] := fun e => hw.2.1 ((tl_nil _).1 e)
    refine ⟨fun h => ?_, fun h => ?_⟩
    · rw [if_pos ⟨hne, h, by omega⟩]
      have hl : (sgn kind).data.toList.length ≤ 2 := hw.2.2
      obtain ⟨t, t1, t2, t3⟩ := dgo hk hc hn ht (sgn kind).data.toList (wrd kind) (by omega)
      exact ⟨t, by rw [t1]; rfl, t2, by omega⟩
    · rw [if_neg (fun e => by rw [h] at e; exact Bool.noConfusion e.2.1), if_pos (Or.inr h)]
  · rw [decide_eq_false hr, Bool.false_and]
    refine ⟨fun h => Bool.noConfusion h, fun _ => ?_⟩
    unfold desk_Line.f
    rw [form_none hr]
    simp only [Option.bind_some]
    rw [if_neg (fun e => e.1 ((tl_nil _).2 rfl)), if_pos (Or.inl ((tl_nil _).2 rfl))]
def numOk (l : List Int) : Bool := decide ((parseN l).2 = 0 ∧ printN (parseN l).1 = l)
theorem numOk_print {n : Int} (h : I64 n) : numOk (printN n) = true ∧ (parseN (printN n)).1 = n := by
  unfold numOk
  rw [parse_print h]
  simp
theorem numOk_of {l : List Int} (h : numOk l = true) : I64 (parseN l).1 ∧ printN (parseN l).1 = l := by
  unfold numOk at h
  exact ⟨parseN_bd l, (of_decide_eq_true h).2⟩
def upTo (l : List Int) : List Int := l.takeWhile (fun x => x != 32)
def behind (l : List Int) : List Int := l.dropWhile (fun x => x != 32)
theorem behind_cons : ∀ (l : List Int), (l.contains 32 = true ∧ 32 :: (behind l).drop 1 = behind l) ∨ (l.contains 32 = false ∧ behind l = [])
  | [] => Or.inr ⟨rfl, rfl⟩
  | x :: l => by
    unfold behind
    by_cases h : x = 32
    · subst h
      exact Or.inl ⟨by simp, by simp⟩
    · rw [List.dropWhile_cons, if_pos (by simpa using h)]
      rcases behind_cons l with ⟨h1, h2⟩ | ⟨h1, h2⟩
      · exact Or.inl ⟨by rw [List.contains_cons, h1, Bool.or_true], h2⟩
      · exact Or.inr ⟨by rw [List.contains_cons, h1, Bool.or_false]; simpa using fun e => h e.symm, h2⟩
theorem behind_len (l : List Int) : (behind l).length ≤ l.length := by
  unfold behind
  induction l with
  | nil => simp
  | cons x l ih =>
    rw [List.dropWhile_cons]
    split
    · simp only [List.length_cons]; omega
    · exact Nat.le_refl _
theorem upTo_len (l : List Int) : (upTo l).length ≤ l.length := by
  unfold upTo
  induction l with
  | nil => simp
  | cons x l ih =>
    rw [List.takeWhile_cons]
    split
    · simp only [List.length_cons]; omega
    · simp
theorem dnum (s : ByteArray) (hs : s.size ≤ 100000) {k : Nat} (hk : 200000 ≤ k) : ∃ t, desk_number.f k s = some ((parseN (upTo (bytesOf s))).1, t, numOk (upTo (bytesOf s))) ∧ bytesOf t = behind (bytesOf s) := by
  obtain ⟨w, u, b, e1, e2, e3, e4⟩ := Cut_f s (by omega) 32
  have hz := bts_size s
  have e2' : bytesOf w = upTo (bytesOf s) := e2
  have e3' : bytesOf u = (behind (bytesOf s)).drop 1 := e3
  have hw : w.size ≤ s.size := by rw [bts_size, e2', hz]; exact upTo_len _
  have hu : u.size ≤ s.size := by
    rw [bts_size, e3', hz, List.length_drop]
    have := behind_len (bytesOf s)
    omega
  have hb : bytesOf ((⟨#[32]⟩ : ByteArray) ++ u) = 32 :: (behind (bytesOf s)).drop 1 := by rw [bts_append, e3']; rfl
  obtain ⟨p, p1, p2, _⟩ := Print_eq (parseN_bd (bytesOf w)) (k := k) (by omega)
  have hok : (parseN (upTo (bytesOf s))).2 = 0 → (p.toList == w.toList) = numOk (upTo (bytesOf s)) := fun h0 => by
    rw [Bool.eq_iff_iff, beq_iff_eq, tl_iff, p2, e2']
    unfold numOk
    rw [decide_eq_true_eq]
    exact ⟨fun h => ⟨h0, h⟩, fun h => h.2⟩
  have hno : (parseN (upTo (bytesOf s))).2 ≠ 0 → numOk (upTo (bytesOf s)) = false := fun h0 => by
    unfold numOk
    rw [decide_eq_false (fun h => h0 h.1)]
  unfold desk_number.f
  rw [show (⟨#[32]⟩ : ByteArray) = ⟨#[(32 : UInt8)]⟩ from rfl, e1]
  simp only [Option.bind_some]
  rw [Parse_eq w (by omega) (by omega)]
  simp only [Option.bind_some]
  rw [p1, e2']
  simp only [Option.bind_some]
  rw [show ((32 : UInt8).toNat : Int) = 32 from rfl] at e4
  rcases behind_cons (bytesOf s) with ⟨h1, h2⟩ | ⟨h1, h2⟩
  · rw [h1] at e4
    rw [if_pos e4, if_pos (by omega)]
    by_cases h0 : (parseN (upTo (bytesOf s))).2 = 0
    · rw [if_pos h0, hok h0]; exact ⟨_, rfl, by rw [hb, h2]⟩
    · rw [if_neg h0, hno h0]; exact ⟨_, rfl, by rw [hb, h2]⟩
  · rw [h1] at e4
    rw [if_neg (by rw [e4]; simp)]
    by_cases h0 : (parseN (upTo (bytesOf s))).2 = 0
    · rw [if_pos h0, hok h0]; exact ⟨u, rfl, by rw [e3', h2]; rfl⟩
    · rw [if_neg h0, hno h0]; exact ⟨u, rfl, by rw [e3', h2]; rfl⟩
theorem readL_bd : ∀ (f : Nat) (out : List Int) (i : Int) (l : List Int), Byt l → Byt out → 0 ≤ i → Byt (readL f out i l).1 ∧ (readL f out i l).1.length ≤ out.length + l.length ∧ 0 ≤ (readL f out i l).2.1 ∧ (readL f out i l).2.1 ≤ i + l.length
  | 0, out, i, l, _, _, _ => ⟨by intro x hx; simp [readL] at hx, by simp [readL], by simp [readL], by simp [readL]; omega⟩
  | f + 1, out, i, [], _, _, _ => ⟨by intro x hx; simp [readL] at hx, by simp [readL], by simp [readL], by simp [readL]; omega⟩
  | f + 1, out, i, c :: l, hb, ho, hi => by
    rw [readL, List.length_cons]
    by_cases c1 : c = 34
    · rw [if_pos c1]
      exact ⟨ho, by dsimp only; omega, by dsimp only; omega, by dsimp only; omega⟩
    rw [if_neg c1]
    have hbl : Byt l := fun x hx => hb x (by simp [hx])
    have hu := unitD_byt (c := c) hbl
    by_cases c2 : (unitD c l).2 = 0
    · rw [if_pos c2]
      exact ⟨fun x hx => by simp at hx, by simp, by simp, by dsimp only; omega⟩
    rw [if_neg c2]
    obtain ⟨h1, h2, h3, h4⟩ := readL_bd f (out ++ [(unitD c l).1]) (i + (unitD c l).2) (l.drop ((unitD c l).2 - 1).toNat) (hbl.drop _) (fun x hx => by
      rcases List.mem_append.1 hx with h | h
      · exact ho x h
      · simp at h; subst h; exact ⟨hu.1, hu.2.1⟩) (by omega)
    rw [List.length_append, List.length_drop, List.length_singleton] at h2
    rw [List.length_drop] at h4
    exact ⟨h1, by omega, h3, by omega⟩
theorem readQ_bd (l : List Int) (hb : Byt l) : Byt (readQ l).1 ∧ (readQ l).1.length ≤ l.length ∧ 0 ≤ (readQ l).2.1 ∧ (readQ l).2.1 ≤ l.length := by
  match l with
  | [] => exact ⟨fun x hx => by simp [readQ] at hx, by simp [readQ], by simp [readQ], by simp [readQ]⟩
  | c :: l =>
    have hq : readQ (c :: l) = if c ≠ 34 then ([], 0, false) else readL (l.length + 1) [] 1 l := rfl
    rw [hq]
    by_cases c1 : c ≠ 34
    · rw [if_pos c1]
      exact ⟨fun x hx => by simp at hx, by simp, by simp, by simp only [List.length_cons]; omega⟩
    · rw [if_neg c1]
      obtain ⟨h1, h2, h3, h4⟩ := readL_bd (l.length + 1) [] 1 l (fun x hx => hb x (by simp [hx])) (fun x hx => by simp at hx) (by omega)
      rw [List.length_nil] at h2
      rw [List.length_cons]
      exact ⟨h1, by omega, h3, by omega⟩
theorem pre32 (s : ByteArray) : ∃ t b, strings_CutPrefix.f s (⟨#[32]⟩ : ByteArray) = some (t, b) ∧ t.size ≤ s.size ∧ ∀ m, bytesOf s = 32 :: m → bytesOf t = m := by
  obtain ⟨t, b, h1, h2, h3, h4⟩ := CutPrefix_f s (⟨#[32]⟩ : ByteArray)
  refine ⟨t, b, h1, h4, fun m hm => ?_⟩
  rw [h3, hm]
  rfl
theorem dfields_total {k : Nat} (hk : 400000 ≤ k) (kind : Int) : ∀ (l : List UInt8) (conn : Int) (text : ByteArray) (n : Int) (s : ByteArray), I64 conn → I64 n → text.size ≤ 1000 → s.size ≤ 1000 → ∃ kd cn tx nn b, desk_fields.go k kind l conn text n s = some (kd, cn, tx, nn, b) ∧ I64 cn ∧ I64 nn ∧ tx.size ≤ 1000
  | [], conn, text, n, s, hc, hn, ht, hs => ⟨_, _, _, _, _, rfl, hc, hn, ht⟩
  | c :: r, conn, text, n, s, hc, hn, ht, hs => by
    obtain ⟨t, b, h1, h2, _⟩ := pre32 s
    have fail : ∃ kd cn tx nn b, (some ((0 : Int), (0 : Int), (⟨#[]⟩ : ByteArray), (0 : Int), false) : Option (Int × Int × ByteArray × Int × Bool)) = some (kd, cn, tx, nn, b) ∧ I64 cn ∧ I64 nn ∧ tx.size ≤ 1000 := ⟨_, _, _, _, _, rfl, ⟨by decide, by decide⟩, ⟨by decide, by decide⟩, by decide⟩
    rw [desk_fields.go, h1]
    simp only [Option.bind_some]
    have hz := bts_size t
    by_cases c1 : c = 116
    · obtain ⟨q1, q2, q3, q4⟩ := readQ_bd (bytesOf t) (bts_byt t)
      rw [if_pos c1, dRead_f t (by omega) (by omega)]
      simp only [Option.bind_some]
      rw [if_pos ⟨q3, by omega⟩]
      have hso := bts_size (strOfNums (readQ (bytesOf t)).1)
      rw [bts_son q1] at hso
      by_cases c2 : (readQ (bytesOf t)).2.2 = true
      · rw [if_pos c2]
        exact dfields_total hk kind r conn _ n _ hc hn (by omega) (by rw [bts_size, bts_extract_to, List.length_drop]; omega)
      · rw [if_neg c2]; exact fail
    · obtain ⟨u, e1, e2⟩ := dnum t (by omega) (k := k) (by omega)
      have hb := parseN_bd (upTo (bytesOf t))
      have hu : u.size ≤ 1000 := by
        have := behind_len (bytesOf t)
        rw [bts_size, e2]; omega
      rw [if_neg c1, e1]
      simp only [Option.bind_some]
      by_cases c2 : numOk (upTo (bytesOf t)) = true
      · rw [if_pos c2]
        by_cases c3 : c = 99
        · rw [if_pos c3]; exact dfields_total hk kind r _ text n _ hb hn ht hu
        · rw [if_neg c3]
          by_cases c4 : c = 110
          · rw [if_pos c4]; exact dfields_total hk kind r conn text _ _ hc hb ht hu
          · rw [if_neg c4]; exact dfields_total hk kind r conn text n _ hc hn ht hu
      · rw [if_neg c2]; exact fail
theorem digs_no32 (v : Nat) : ∀ x ∈ digs 10 v, x ≠ 32 := fun x hx => by
  have := List.all_eq_true.1 (digs10_all v).1 x hx
  have := isD_iff.1 this
  omega
theorem print_no32 (n : Int) : ∀ x ∈ printN n, x ≠ 32 := by
  intro x hx
  unfold printN at hx
  split at hx
  · rcases List.mem_cons.1 hx with h | h
    · omega
    · exact digs_no32 _ x h
  · exact digs_no32 _ x hx
def Ends (m : List Int) : Prop := m = [] ∨ ∃ r, m = 32 :: r
theorem upTo_app : ∀ {a : List Int} {m : List Int}, (∀ x ∈ a, x ≠ 32) → Ends m → upTo (a ++ m) = a ∧ behind (a ++ m) = m
  | [], m, _, hm => by
    rcases hm with rfl | ⟨r, rfl⟩
    · exact ⟨rfl, rfl⟩
    · exact ⟨by simp [upTo], by simp [behind]⟩
  | x :: a, m, ha, hm => by
    have hx := ha x (by simp)
    obtain ⟨h1, h2⟩ := upTo_app (a := a) (fun y hy => ha y (by simp [hy])) hm
    unfold upTo behind at *
    rw [List.cons_append, List.takeWhile_cons, List.dropWhile_cons, if_pos (by simpa using hx), if_pos (by simpa using hx), h1, h2]
    exact ⟨rfl, rfl⟩
theorem step_num {k : Nat} (hk : 400000 ≤ k) (kind : Int) (r : List UInt8) (c : UInt8) (hc : c = 99 ∨ c = 110) (conn : Int) (text : ByteArray) (n v : Int) (hv : I64 v) (s : ByteArray) (hs : s.size ≤ 20000) (m : List Int) (hm : Ends m) (e : bytesOf s = 32 :: (printN v ++ m)) :
    ∃ s', bytesOf s' = m ∧ s'.size ≤ s.size ∧ desk_fields.go k kind (c :: r) conn text n s = if c = 99 then desk_fields.go k kind r v text n s' else desk_fields.go k kind r conn text v s' := by
  obtain ⟨t, b, h1, h2, h3⟩ := pre32 s
  obtain ⟨u, e1, e2⟩ := dnum t (by omega) (k := k) (by omega)
  have ht := h3 _ e
  obtain ⟨g1, g2⟩ := upTo_app (print_no32 v) hm
  rw [ht, g1, (numOk_print hv).1, (numOk_print hv).2] at e1
  rw [ht, g2] at e2
  refine ⟨u, e2, ?_, ?_⟩
  · rw [bts_size, bts_size s, e2, e]; simp only [List.length_cons, List.length_append]; omega
  rw [desk_fields.go, h1]
  simp only [Option.bind_some]
  rw [if_neg (by rcases hc with rfl | rfl <;> decide), e1]
  simp only [Option.bind_some, if_true]
  rcases hc with rfl | rfl
  · rw [if_pos rfl, if_pos rfl]
  · rw [if_neg (by decide), if_pos rfl, if_neg (by decide)]
theorem step_txt {k : Nat} (hk : 400000 ≤ k) (kind : Int) (r : List UInt8) (conn : Int) (text : ByteArray) (n : Int) (x : List Int) (hx : Byt x) (s : ByteArray) (hs : s.size ≤ 20000) (m : List Int) (e : bytesOf s = 32 :: (quoteL x ++ m)) :
    ∃ s', bytesOf s' = m ∧ desk_fields.go k kind (116 :: r) conn text n s = desk_fields.go k kind r conn (strOfNums x) n s' := by
  obtain ⟨t, b, h1, h2, h3⟩ := pre32 s
  have ht := h3 _ e
  have hz := bts_size t
  rw [ht, List.length_append] at hz
  rw [desk_fields.go, h1]
  simp only [Option.bind_some, if_true]
  rw [dRead_f t (by omega) (by omega), ht, readQ_quoted x m hx]
  simp only [Option.bind_some, if_true]
  rw [if_pos ⟨by omega, by omega⟩]
  refine ⟨_, ?_, rfl⟩
  rw [bts_extract_to, ht, show ((quoteL x).length : Int).toNat = (quoteL x).length by omega, List.drop_left]
theorem dpre {s : ByteArray} {p : ByteArray} {m : List Int} (h : bytesOf s = bytesOf p ++ m) : ∃ t, strings_CutPrefix.f s p = some (t, true) ∧ bytesOf t = m ∧ t.size ≤ s.size := by
  obtain ⟨t, b, h1, h2, h3, h4⟩ := CutPrefix_f s p
  have hp : (bytesOf p).isPrefixOf (bytesOf s) = true := by rw [h, List.isPrefixOf_iff_prefix]; exact ⟨m, rfl⟩
  rw [hp] at h2
  rw [if_pos hp, h, List.drop_left] at h3
  exact ⟨t, by rw [h1, h2], h3, h4⟩
theorem dnopre {s : ByteArray} {p : ByteArray} (h : (bytesOf p).isPrefixOf (bytesOf s) = false) : ∃ t, strings_CutPrefix.f s p = some (t, false) := by
  obtain ⟨t, b, h1, h2, h3, h4⟩ := CutPrefix_f s p
  exact ⟨t, by rw [h1, h2, h]⟩
theorem skip {k : Nat} {s : ByteArray} {x : Int} (hx : 1 ≤ x ∧ x ≤ 6) (h : (bytesOf (wrd x)).isPrefixOf (bytesOf s) = false) : desk_Parse.l0 (k + 1) s x = desk_Parse.l0 k s (x + 1) := by
  obtain ⟨t, ht⟩ := dnopre h
  simp only [desk_Parse.l0]
  rw [if_pos hx.2, form_eq hx]
  simp only [Option.bind_some]
  rw [ht]
  simp only [Option.bind_some]
  rw [if_neg (by simp), w64 (by omega)]
theorem sgn_asc {kind : Int} (h : 1 ≤ kind ∧ kind ≤ 6) : ((sgn kind).data.toList.all (fun c => decide (c.toNat < 128))) = true := by
  rcases six h with rfl | rfl | rfl | rfl | rfl | rfl <;> decide
theorem tail_c {kind : Int} (h : kind = 4 ∨ kind = 6) : (sgn kind).data.toList = [99] ∧ bytesOf (sgn kind) = [99] := by
  rcases h with rfl | rfl <;> exact ⟨rfl, rfl⟩
/-- What was said is read. -/
theorem dfields_line {k : Nat} (hk : 400000 ≤ k) {kind conn n : Int} {text : ByteArray} (hc : I64 conn) (hn : I64 n) (ht : text.size ≤ 1000) (hmay : mayL kind conn (bytesOf text) n = true) (s : ByteArray) (hs : s.size ≤ 20000) (e : bytesOf s = tailL (bytesOf (sgn kind)) conn (bytesOf text) n) :
    ∃ tx, desk_fields.f k kind 0 (⟨#[]⟩ : ByteArray) 0 (sgn kind) s = some (kind, conn, tx, n, true) ∧ bytesOf tx = bytesOf text := by
  unfold mayL at hmay
  have hr : 1 ≤ kind ∧ kind ≤ 6 := by
    by_cases h : 1 ≤ kind ∧ kind ≤ 6
    · exact h
    · rw [decide_eq_false h] at hmay; simp at hmay
  rw [decide_eq_true hr, Bool.true_and] at hmay
  unfold desk_fields.f
  rw [if_pos (sgn_asc hr)]
  have ends : ∀ s' : ByteArray, bytesOf s' = [] → (s'.toList == ([] : List UInt8)) = true := fun s' h => beq_iff_eq.2 ((tl_nil s').2 h)
  have zn : ∀ x : Int, decide (x = 0) = true → x = 0 := fun x h => of_decide_eq_true h
  rcases six hr with rfl | rfl | rfl | rfl | rfl | rfl
  · have hm2 : (decide (conn = 0) && decide (n = 0) && decide (bytesOf text = [])) = true := hmay
    simp only [Bool.and_eq_true, decide_eq_true_eq] at hm2
    obtain ⟨⟨rfl, rfl⟩, h3⟩ := hm2
    rw [show (sgn 1).data.toList = [] from rfl, desk_fields.go, ends s e]
    exact ⟨_, rfl, h3.symm ▸ rfl⟩
  · have hm2 : (decide (n = 0)) = true := by simpa [show (bytesOf (sgn 2)) = [99, 116] from rfl] using hmay
    obtain rfl := zn n hm2
    rw [show (sgn 2).data.toList = [99, 116] from rfl]
    have e' : bytesOf s = 32 :: (printN conn ++ (32 :: (quoteL (bytesOf text) ++ []))) := by rw [e, show bytesOf (sgn 2) = [99, 116] from rfl]; rfl
    obtain ⟨s1, g1, g2, g3⟩ := step_num hk 2 [116] 99 (Or.inl rfl) 0 ⟨#[]⟩ 0 conn hc s hs _ (Or.inr ⟨_, rfl⟩) e'
    obtain ⟨s2, k1, k2⟩ := step_txt hk 2 [] conn ⟨#[]⟩ 0 (bytesOf text) (bts_byt text) s1 (by omega) _ g1
    rw [g3, if_pos rfl, k2, desk_fields.go, ends s2 k1]
    exact ⟨_, rfl, bts_son (bts_byt text)⟩
  · have hm2 : decide (bytesOf text = []) = true := by simpa [show (bytesOf (sgn 3)) = [99, 110] from rfl] using hmay
    have h3 : bytesOf text = [] := of_decide_eq_true hm2
    rw [show (sgn 3).data.toList = [99, 110] from rfl]
    have e' : bytesOf s = 32 :: (printN conn ++ (32 :: (printN n ++ []))) := by rw [e, show bytesOf (sgn 3) = [99, 110] from rfl]; rfl
    obtain ⟨s1, g1, g2, g3⟩ := step_num hk 3 [110] 99 (Or.inl rfl) 0 ⟨#[]⟩ 0 conn hc s hs _ (Or.inr ⟨_, rfl⟩) e'
    obtain ⟨s2, k1, _, k2⟩ := step_num hk 3 [] 110 (Or.inr rfl) conn ⟨#[]⟩ 0 n hn s1 (by omega) _ (Or.inl rfl) g1
    rw [g3, if_pos rfl, k2, if_neg (by decide), desk_fields.go, ends s2 k1]
    exact ⟨_, rfl, h3.symm ▸ rfl⟩
  · have hm2 : (decide (n = 0) && decide (bytesOf text = [])) = true := by simpa [show (bytesOf (sgn 4)) = [99] from rfl] using hmay
    simp only [Bool.and_eq_true, decide_eq_true_eq] at hm2
    obtain ⟨rfl, h3⟩ := hm2
    rw [show (sgn 4).data.toList = [99] from rfl]
    have e' : bytesOf s = 32 :: (printN conn ++ []) := by rw [e, show bytesOf (sgn 4) = [99] from rfl]; rfl
    obtain ⟨s1, g1, g2, g3⟩ := step_num hk 4 [] 99 (Or.inl rfl) 0 ⟨#[]⟩ 0 conn hc s hs _ (Or.inl rfl) e'
    rw [g3, if_pos rfl, desk_fields.go, ends s1 g1]
    exact ⟨_, rfl, h3.symm ▸ rfl⟩
  · have hm2 : (decide (conn = 0) && decide (bytesOf text = [])) = true := by simpa [show (bytesOf (sgn 5)) = [110] from rfl] using hmay
    simp only [Bool.and_eq_true, decide_eq_true_eq] at hm2
    obtain ⟨rfl, h3⟩ := hm2
    rw [show (sgn 5).data.toList = [110] from rfl]
    have e' : bytesOf s = 32 :: (printN n ++ []) := by rw [e, show bytesOf (sgn 5) = [110] from rfl]; rfl
    obtain ⟨s1, g1, g2, g3⟩ := step_num hk 5 [] 110 (Or.inr rfl) 0 ⟨#[]⟩ 0 n hn s hs _ (Or.inl rfl) e'
    rw [g3, if_neg (by decide), desk_fields.go, ends s1 g1]
    exact ⟨_, rfl, h3.symm ▸ rfl⟩
  · have hm2 : (decide (n = 0) && decide (bytesOf text = [])) = true := by simpa [show (bytesOf (sgn 6)) = [99] from rfl] using hmay
    simp only [Bool.and_eq_true, decide_eq_true_eq] at hm2
    obtain ⟨rfl, h3⟩ := hm2
    rw [show (sgn 6).data.toList = [99] from rfl]
    have e' : bytesOf s = 32 :: (printN conn ++ []) := by rw [e, show bytesOf (sgn 6) = [99] from rfl]; rfl
    obtain ⟨s1, g1, g2, g3⟩ := step_num hk 6 [] 99 (Or.inl rfl) 0 ⟨#[]⟩ 0 conn hc s hs _ (Or.inl rfl) e'
    rw [g3, if_pos rfl, desk_fields.go, ends s1 g1]
    exact ⟨_, rfl, h3.symm ▸ rfl⟩
theorem dhit {k : Nat} (hk : 400000 ≤ k) {kind conn n : Int} {text : ByteArray} (hc : I64 conn) (hn : I64 n) (ht : text.size ≤ 1000) (hmay : mayL kind conn (bytesOf text) n = true) (s : ByteArray) (hs : s.size ≤ 20000) (e : bytesOf s = lineL kind conn (bytesOf text) n) :
    ∃ tx, desk_Parse.l0 (k + 1) s kind = some (kind, conn, tx, n, 0) ∧ bytesOf tx = bytesOf text := by
  have hr : 1 ≤ kind ∧ kind ≤ 6 := by
    by_cases h : 1 ≤ kind ∧ kind ≤ 6
    · exact h
    · unfold mayL at hmay; rw [decide_eq_false h] at hmay; simp at hmay
  obtain ⟨t, t1, t2, t3⟩ := dpre e
  obtain ⟨tx, f1, f2⟩ := dfields_line hk hc hn ht hmay t (by omega) t2
  have hz := bts_size tx
  rw [f2, ← bts_size] at hz
  obtain ⟨l, l1, l2, _⟩ := (dLine_eq (k := k) (kind := kind) (text := tx) (by omega) hc hn (by omega)).1 (by rw [f2]; exact hmay)
  refine ⟨tx, ?_, f2⟩
  simp only [desk_Parse.l0]
  rw [if_pos hr.2, form_eq hr]
  simp only [Option.bind_some]
  rw [t1]
  simp only [Option.bind_some, if_true]
  rw [f1]
  simp only [Option.bind_some]
  rw [l1]
  simp only [Option.bind_some, if_true]
  rw [if_pos ((tl_iff l s).2 (by rw [l2, f2, e]))]
theorem dParse_line {k : Nat} (hk : 500000 ≤ k) {kind conn n : Int} {text : ByteArray} (hc : I64 conn) (hn : I64 n) (ht : text.size ≤ 1000) (hmay : mayL kind conn (bytesOf text) n = true) (s : ByteArray) (hs : s.size ≤ 20000) (e : bytesOf s = lineL kind conn (bytesOf text) n) :
    ∃ tx, desk_Parse.f k s = some (kind, conn, tx, n, 0) ∧ bytesOf tx = bytesOf text := by
  obtain ⟨k, rfl⟩ : ∃ m, k = m + 6 := ⟨k - 6, by omega⟩
  have hr : 1 ≤ kind ∧ kind ≤ 6 := by
    by_cases h : 1 ≤ kind ∧ kind ≤ 6
    · exact h
    · unfold mayL at hmay; rw [decide_eq_false h] at hmay; simp at hmay
  unfold desk_Parse.f
  have hit := fun (m : Nat) (hm : 400000 ≤ m) => dhit hm hc hn ht hmay s hs e
  unfold lineL at e
  rcases six hr with rfl | rfl | rfl | rfl | rfl | rfl
  · exact hit _ (by omega)
  · rw [skip (by omega) (by rw [e]; rfl)]
    exact hit _ (by omega)
  · rw [skip (by omega) (by rw [e]; rfl), skip (by omega) (by rw [e]; rfl)]
    exact hit _ (by omega)
  · rw [skip (by omega) (by rw [e]; rfl), skip (by omega) (by rw [e]; rfl), skip (by omega) (by rw [e]; rfl)]
    exact hit _ (by omega)
  · rw [skip (by omega) (by rw [e]; rfl), skip (by omega) (by rw [e]; rfl), skip (by omega) (by rw [e]; rfl), skip (by omega) (by rw [e]; rfl)]
    exact hit _ (by omega)
  · rw [skip (by omega) (by rw [e]; rfl), skip (by omega) (by rw [e]; rfl), skip (by omega) (by rw [e]; rfl), skip (by omega) (by rw [e]; rfl), skip (by omega) (by rw [e]; rfl)]
    exact hit _ (by omega)
theorem dParse_l0 {s : ByteArray} (hs : s.size ≤ 1000) : ∀ (d k : Nat) (x : Int), 1 ≤ x → x + d = 7 → 400000 + d ≤ k → ∃ kd cn tx nn er, desk_Parse.l0 k s x = some (kd, cn, tx, nn, er) ∧ ((kd, cn, tx, nn, er) = (0, 0, (⟨#[]⟩ : ByteArray), 0, 3) ∨ (er = 0 ∧ I64 cn ∧ I64 nn ∧ tx.size ≤ 1000 ∧ mayL kd cn (bytesOf tx) nn = true ∧ bytesOf s = lineL kd cn (bytesOf tx) nn))
  | 0, k, x, h1, h2, h3 => by
    obtain ⟨k, rfl⟩ : ∃ m, k = m + 1 := ⟨k - 1, by omega⟩
    simp only [desk_Parse.l0]
    rw [if_neg (by omega)]
    exact ⟨_, _, _, _, _, rfl, Or.inl rfl⟩
  | d + 1, k, x, h1, h2, h3 => by
    obtain ⟨k, rfl⟩ : ∃ m, k = m + 1 := ⟨k - 1, by omega⟩
    have hr : 1 ≤ x ∧ x ≤ 6 := by omega
    have next := dParse_l0 hs d k (x + 1) (by omega) (by omega) (by omega)
    simp only [desk_Parse.l0]
    rw [if_pos hr.2, form_eq hr, w64 (x := x + 1) (by omega)]
    simp only [Option.bind_some]
    obtain ⟨t, b, p1, _, _, p4⟩ := CutPrefix_f s (wrd x)
    rw [p1]
    simp only [Option.bind_some]
    cases b with
    | false => rw [if_neg (by simp)]; exact next
    | true =>
      rw [if_pos rfl]
      obtain ⟨kd, cn, tx, nn, b, f1, f2, f3, f4⟩ := dfields_total (k := k) (by omega) x (sgn x).data.toList 0 ⟨#[]⟩ 0 t ⟨by decide, by decide⟩ ⟨by decide, by decide⟩ (by decide) (by omega)
      have f0 : desk_fields.f k x 0 (⟨#[]⟩ : ByteArray) 0 (sgn x) t = some (kd, cn, tx, nn, b) := by unfold desk_fields.f; rw [if_pos (sgn_asc hr), f1]
      rw [f0]
      simp only [Option.bind_some]
      cases hm : mayL kd cn (bytesOf tx) nn with
      | true =>
        obtain ⟨l, l1, l2, _⟩ := (dLine_eq (k := k) (kind := kd) (text := tx) (by omega) f2 f3 f4).1 hm
        rw [l1]
        simp only [Option.bind_some]
        cases b with
        | false => rw [if_neg (by simp)]; exact next
        | true =>
          rw [if_pos rfl, if_pos trivial]
          by_cases he : l.toList = s.toList
          · rw [if_pos he]
            exact ⟨_, _, _, _, _, rfl, Or.inr ⟨rfl, f2, f3, f4, hm, by rw [← l2, (tl_iff l s).1 he]⟩⟩
          · rw [if_neg he]; exact next
      | false =>
        rw [(dLine_eq (k := k) (kind := kd) (text := tx) (by omega) f2 f3 f4).2 hm]
        simp only [Option.bind_some]
        cases b with
        | false => rw [if_neg (by simp)]; exact next
        | true => rw [if_pos rfl, if_neg (by decide)]; exact next
-- the reference's reading of lines
theorem unit_canon {c : Int} {l : List Int} (h34 : c ≠ 34) (h : (unitD c l).2 ≠ 0) : c :: l = q1 (unitD c l).1 ++ l.drop ((unitD c l).2 - 1).toNat ∧ (unitD c l).2 = ((q1 (unitD c l).1).length : Int) := by
  unfold unitD at h ⊢
  by_cases c1 : c < 32 ∨ c > 126 ∨ c = 34
  · rw [if_pos c1] at h; exact absurd rfl h
  rw [if_neg c1] at h ⊢
  by_cases c2 : c ≠ 92
  · rw [if_pos c2]
    have e : q1 c = [c] := by unfold q1; rw [if_neg (by omega), if_neg (by omega)]
    dsimp only
    rw [e]
    exact ⟨by simp, by simp⟩
  rw [if_neg c2] at h ⊢
  have c2' : c = 92 := by omega
  subst c2'
  by_cases c3 : (escD l).2 = 0
  · rw [if_pos c3] at h; exact absurd rfl h
  rw [if_neg c3]
  dsimp only
  match l with
  | [] => exact absurd rfl c3
  | d :: r =>
    rw [escD_cons] at c3 ⊢
    by_cases c4 : d = 34 ∨ d = 92
    · rw [if_pos c4]
      have e : q1 d = [92, d] := by unfold q1; rw [if_neg (by omega), if_pos c4]
      dsimp only
      rw [e]
      exact ⟨by simp, by simp⟩
    rw [if_neg c4] at c3 ⊢
    match r with
    | [] => exact absurd rfl c3
    | [a] => exact absurd rfl c3
    | a :: b :: r =>
      rw [escT_cons] at c3 ⊢
      by_cases c5 : d ≠ 120 ∨ hx a < 0 ∨ hx b < 0
      · rw [if_pos c5] at c3; exact absurd rfl c3
      rw [if_neg c5] at c3 ⊢
      have ra := hx_range (c := a) (by omega)
      have rb := hx_range (c := b) (by omega)
      by_cases c6 : 32 ≤ 16 * hx a + hx b ∧ 16 * hx a + hx b ≤ 126
      · rw [if_pos c6] at c3; exact absurd rfl c3
      rw [if_neg c6]
      have e : q1 (16 * hx a + hx b) = [92, 120, a, b] := by
        unfold q1
        rw [if_pos (by omega), show (16 * hx a + hx b) / 16 = hx a by omega, show (16 * hx a + hx b) % 16 = hx b by omega, ra.2, rb.2]
      dsimp only
      rw [e]
      have : d = 120 := by omega
      subst this
      exact ⟨by simp, by simp⟩
theorem readL_canon : ∀ (f : Nat) (out : List Int) (i : Int) (l : List Int), Byt l → (readL f out i l).2.2 = true → ∃ xs more, (readL f out i l).1 = out ++ xs ∧ l = xs.flatMap q1 ++ 34 :: more ∧ (readL f out i l).2.1 = i + ((xs.flatMap q1).length : Int) + 1 ∧ Byt xs
  | 0, out, i, l, _, h => by simp [readL] at h
  | f + 1, out, i, [], _, h => by simp [readL] at h
  | f + 1, out, i, c :: l, hb, h => by
    rw [readL] at h ⊢
    by_cases c1 : c = 34
    · rw [if_pos c1]
      exact ⟨[], l, by simp, by simp [c1], by simp, fun x hx => by simp at hx⟩
    rw [if_neg c1] at h ⊢
    by_cases c2 : (unitD c l).2 = 0
    · rw [if_pos c2] at h; simp at h
    rw [if_neg c2] at h ⊢
    have hbl : Byt l := fun x hx => hb x (by simp [hx])
    have hu := unitD_byt (c := c) hbl
    obtain ⟨u1, u2⟩ := unit_canon c1 c2
    obtain ⟨xs, more, e1, e2, e3, e4⟩ := readL_canon f _ _ _ (hbl.drop _) h
    refine ⟨(unitD c l).1 :: xs, more, by rw [e1]; simp, ?_, ?_, ?_⟩
    · rw [List.flatMap_cons, List.append_assoc, ← e2]; exact u1
    · rw [e3, List.flatMap_cons, List.length_append]; omega
    · intro x hx
      rcases List.mem_cons.1 hx with rfl | hx
      · exact ⟨hu.1, hu.2.1⟩
      · exact e4 x hx
theorem readQ_canon {l : List Int} (hb : Byt l) (h : (readQ l).2.2 = true) : ∃ more, l = quoteL (readQ l).1 ++ more ∧ (readQ l).2.1 = ((quoteL (readQ l).1).length : Int) := by
  match l, hb, h with
  | [], _, h => simp [readQ] at h
  | c :: l, hb, h =>
    have hq : readQ (c :: l) = if c ≠ 34 then ([], 0, false) else readL (l.length + 1) [] 1 l := rfl
    rw [hq] at h ⊢
    by_cases c1 : c ≠ 34
    · rw [if_pos c1] at h; simp at h
    rw [if_neg c1] at h ⊢
    obtain ⟨xs, more, e1, e2, e3, e4⟩ := readL_canon _ _ _ _ (fun x hx => hb x (by simp [hx])) h
    rw [List.nil_append] at e1
    have c1' : c = 34 := by omega
    refine ⟨more, ?_, ?_⟩
    · rw [e1, c1']; simp only [quoteL, List.cons_append, List.append_assoc, List.nil_append]; rw [← e2]
    · rw [e3, e1]; simp only [quoteL, List.length_cons, List.length_append, List.length_nil]; omega
theorem rnumber_f (w : ByteArray) (hw : w.size ≤ 1000) {k : Nat} (hk : 2000 ≤ k) : larumref33_number.f k w = some ((parseN (bytesOf w)).1, numOk (bytesOf w)) := by
  unfold larumref33_number.f
  rw [RParse_eq w (by omega) (by omega)]
  simp only [Option.bind_some]
  obtain ⟨p, p1, p2⟩ := RPrint_eq (parseN_bd (bytesOf w)) (k := k) (by omega)
  unfold numOk
  by_cases h0 : (parseN (bytesOf w)).2 = 0
  · rw [if_pos h0, p1]
    simp only [Option.bind_some]
    have : (p.toList == w.toList) = decide ((parseN (bytesOf w)).2 = 0 ∧ printN (parseN (bytesOf w)).1 = bytesOf w) := by
      rw [Bool.eq_iff_iff, beq_iff_eq, tl_iff, p2, decide_eq_true_eq]
      exact ⟨fun h => ⟨h0, h⟩, fun h => h.2⟩
    rw [this]
  · rw [if_neg h0, decide_eq_false (fun h => h0 h.1)]
def joinL : List (List Int) → List Int
  | [] => []
  | [a] => a
  | a :: b :: r => a ++ 32 :: joinL (b :: r)
theorem cutG_ne (c : Int) : ∀ (l w : List Int), cutG c w l ≠ []
  | [], w => by simp [cutG]
  | x :: l, w => by
    unfold cutG
    split
    · simp
    · exact cutG_ne c l _
theorem cutG_join : ∀ (l w : List Int), joinL (cutG 32 w l) = w ++ l
  | [], w => by simp [cutG, joinL]
  | x :: l, w => by
    unfold cutG
    by_cases h : x = 32
    · rw [if_pos h]
      have hj := cutG_join l []
      cases e : cutG 32 [] l with
      | nil => exact absurd e (cutG_ne _ _ _)
      | cons b r =>
        rw [e] at hj
        rw [joinL, hj, h]
        simp
    · rw [if_neg h, cutG_join l (w ++ [x])]; simp
theorem cutG_no : ∀ {a : List Int} (w : List Int), (∀ x ∈ a, x ≠ 32) → cutG 32 w a = [w ++ a]
  | [], w, _ => by simp [cutG]
  | x :: a, w, h => by
    unfold cutG
    rw [if_neg (h x (by simp)), cutG_no (w ++ [x]) (fun y hy => h y (by simp [hy]))]
    simp
theorem cutG_at : ∀ {a : List Int} (w m : List Int), (∀ x ∈ a, x ≠ 32) → cutG 32 w (a ++ 32 :: m) = (w ++ a) :: cutG 32 [] m
  | [], w, m, _ => by simp [cutG]
  | x :: a, w, m, h => by
    have e : cutG 32 w (x :: (a ++ 32 :: m)) = if x = 32 then w :: cutG 32 [] (a ++ 32 :: m) else cutG 32 (w ++ [x]) (a ++ 32 :: m) := rfl
    rw [List.cons_append, e]
    rw [if_neg (h x (by simp)), cutG_at (w ++ [x]) m (fun y hy => h y (by simp [hy]))]
    simp
def kOf (p : List Int) : Int := if bytesOf (wrd 6) = p then 6 else if bytesOf (wrd 5) = p then 5 else if bytesOf (wrd 4) = p then 4 else if bytesOf (wrd 3) = p then 3 else if bytesOf (wrd 2) = p then 2 else if bytesOf (wrd 1) = p then 1 else 0
theorem kOf_wrd {kind : Int} (h : 1 ≤ kind ∧ kind ≤ 6) : kOf (bytesOf (wrd kind)) = kind := by
  rcases six h with rfl | rfl | rfl | rfl | rfl | rfl <;> decide
theorem kOf_of {p : List Int} (h : kOf p ≠ 0) : (1 ≤ kOf p ∧ kOf p ≤ 6) ∧ p = bytesOf (wrd (kOf p)) := by
  unfold kOf at h ⊢
  by_cases c6 : bytesOf (wrd 6) = p
  · rw [if_pos c6]; exact ⟨by decide, c6.symm⟩
  rw [if_neg c6] at h ⊢
  by_cases c5 : bytesOf (wrd 5) = p
  · rw [if_pos c5]; exact ⟨by decide, c5.symm⟩
  rw [if_neg c5] at h ⊢
  by_cases c4 : bytesOf (wrd 4) = p
  · rw [if_pos c4]; exact ⟨by decide, c4.symm⟩
  rw [if_neg c4] at h ⊢
  by_cases c3 : bytesOf (wrd 3) = p
  · rw [if_pos c3]; exact ⟨by decide, c3.symm⟩
  rw [if_neg c3] at h ⊢
  by_cases c2 : bytesOf (wrd 2) = p
  · rw [if_pos c2]; exact ⟨by decide, c2.symm⟩
  rw [if_neg c2] at h ⊢
  by_cases c1 : bytesOf (wrd 1) = p
  · rw [if_pos c1]; exact ⟨by decide, c1.symm⟩
  rw [if_neg c1] at h
  exact absurd rfl h
theorem rl0_step (s : ByteArray) (R : List ByteArray) (hR : 0 < R.length) (kd : Int) (i : Nat) (h : 1 ≤ i ∧ i ≤ 6) (k : Nat) : larumref33_Parse.l0 (k + 1) s R wrds 7 (i : Int) kd 0 (⟨#[]⟩ : ByteArray) 0 = larumref33_Parse.l0 k s R wrds 7 ((i + 1 : Nat) : Int) (if bytesOf (wrd (i : Int)) = bytesOf (rdOf ByteArray.empty R 0) then (i : Int) else kd) 0 (⟨#[]⟩ : ByteArray) 0 := by
  simp only [larumref33_Parse.l0]
  rw [if_pos (by omega), if_pos (by omega), if_pos (show (i : Int) < (wrds.length : Int) by show (i : Int) < 7; omega), if_pos (by omega), if_pos (by omega), w64 (by omega), show (i : Int) + 1 = ((i + 1 : Nat) : Int) by omega]
  rw [show rdOf ByteArray.empty wrds (i : Int) = wrd (i : Int) from rfl]
  by_cases c : bytesOf (wrd (i : Int)) = bytesOf (rdOf ByteArray.empty R 0)
  · rw [if_pos c, if_pos ((tl_iff _ _).2 c)]
  · rw [if_neg c, if_neg (fun e => c ((tl_iff _ _).1 e))]
theorem rl0_all (s : ByteArray) (R : List ByteArray) (hR : 0 < R.length) (k : Nat) : larumref33_Parse.l0 (k + 8) s R wrds 7 0 0 0 (⟨#[]⟩ : ByteArray) 0 = if kOf (bytesOf (rdOf ByteArray.empty R 0)) = 0 then some (0, 0, (⟨#[]⟩ : ByteArray), 0, false) else larumref33_Parse.l1 k s R ((rdOf ByteArray.empty R 0).size : Int) (sgn (kOf (bytesOf (rdOf ByteArray.empty R 0)))) 0 (kOf (bytesOf (rdOf ByteArray.empty R 0))) 0 (⟨#[]⟩ : ByteArray) 0 := by
  have e0 : larumref33_Parse.l0 (k + 8) s R wrds 7 0 0 0 (⟨#[]⟩ : ByteArray) 0 = larumref33_Parse.l0 (k + 7) s R wrds 7 ((1 : Nat) : Int) 0 0 (⟨#[]⟩ : ByteArray) 0 := by
    rw [show k + 8 = (k + 7) + 1 from rfl, larumref33_Parse.l0, if_pos (by decide), if_pos (by decide), if_pos (by decide), if_neg (by decide), w64 (x := 0 + 1) (by omega)]
    rfl
  rw [e0, rl0_step s R hR _ 1 (by omega), rl0_step s R hR _ 2 (by omega), rl0_step s R hR _ 3 (by omega), rl0_step s R hR _ 4 (by omega), rl0_step s R hR _ 5 (by omega), rl0_step s R hR _ 6 (by omega)]
  have ek : (if bytesOf (wrd ((6 : Nat) : Int)) = bytesOf (rdOf ByteArray.empty R 0) then ((6 : Nat) : Int) else if bytesOf (wrd ((5 : Nat) : Int)) = bytesOf (rdOf ByteArray.empty R 0) then ((5 : Nat) : Int) else if bytesOf (wrd ((4 : Nat) : Int)) = bytesOf (rdOf ByteArray.empty R 0) then ((4 : Nat) : Int) else if bytesOf (wrd ((3 : Nat) : Int)) = bytesOf (rdOf ByteArray.empty R 0) then ((3 : Nat) : Int) else if bytesOf (wrd ((2 : Nat) : Int)) = bytesOf (rdOf ByteArray.empty R 0) then ((2 : Nat) : Int) else if bytesOf (wrd ((1 : Nat) : Int)) = bytesOf (rdOf ByteArray.empty R 0) then ((1 : Nat) : Int) else 0) = kOf (bytesOf (rdOf ByteArray.empty R 0)) := rfl
  rw [ek]
  have hk := @kOf_of (bytesOf (rdOf ByteArray.empty R 0))
  generalize kOf (bytesOf (rdOf ByteArray.empty R 0)) = q at hk ⊢
  simp only [larumref33_Parse.l0]
  rw [if_neg (by omega)]
  by_cases c : q = 0
  · rw [if_pos c, if_pos c]
  · obtain ⟨h1, h2⟩ := hk c
    rw [if_neg c, if_neg c, if_pos (by omega), show larumref33_signs.f = some sgns from rfl]
    simp only [Option.bind_some]
    rw [if_pos (by omega), if_pos (show q < (sgns.length : Int) by show q < 7; omega)]
    rfl
theorem rl1_end (k : Nat) (s : ByteArray) (R : List ByteArray) (at_ : Int) (sg : ByteArray) (i : Nat) (hi : i = sg.size) (kd cn : Int) (tx : ByteArray) (n : Int) : larumref33_Parse.l1 (k + 1) s R at_ sg (i : Int) kd cn tx n = if at_ = (s.size : Int) then some (kd, cn, tx, n, true) else some (0, 0, (⟨#[]⟩ : ByteArray), 0, false) := by
  simp only [larumref33_Parse.l1]
  rw [if_neg (by omega)]
theorem rl1_num (k : Nat) (hk : 2000 ≤ k) (s : ByteArray) (hs : s.size ≤ 1000) (R : List ByteArray) (hR : ∀ w ∈ R, w.size ≤ 1000) (at_ : Int) (ha : 0 ≤ at_ ∧ at_ ≤ 10000) (sg : ByteArray) (i : Nat) (hi : i < sg.size) (hsg : sg.size ≤ 10) (c : Int) (hc : bt sg (i : Int) = c) (hc2 : c = 99 ∨ c = 110) (kd cn : Int) (tx : ByteArray) (n : Int) :
    larumref33_Parse.l1 (k + 1) s R at_ sg (i : Int) kd cn tx n = if at_ ≥ (s.size : Int) then some (0, 0, (⟨#[]⟩ : ByteArray), 0, false) else if i + 1 ≥ R.length then some (0, 0, (⟨#[]⟩ : ByteArray), 0, false) else if numOk (bytesOf (R.getD (i + 1) ByteArray.empty)) = true then (larumref33_Parse.l1 k s R (at_ + 1 + ((R.getD (i + 1) ByteArray.empty).size : Int)) sg ((i + 1 : Nat) : Int) kd (if c = 99 then (parseN (bytesOf (R.getD (i + 1) ByteArray.empty))).1 else cn) tx (if c = 99 then n else (parseN (bytesOf (R.getD (i + 1) ByteArray.empty))).1)) else some (0, 0, (⟨#[]⟩ : ByteArray), 0, false) := by
  simp only [larumref33_Parse.l1]
  rw [if_pos (show (i : Int) < (sg.size : Int) by omega), hc]
  by_cases c1 : at_ ≥ (s.size : Int)
  · rw [if_pos c1, if_pos c1]
  rw [if_neg c1, if_neg c1, if_pos (show 0 ≤ (i : Int) by omega), if_neg (show ¬ c = 116 by omega), w64 (x := (i : Int) + 1) (by omega)]
  by_cases c2 : i + 1 ≥ R.length
  · rw [if_pos (show (i : Int) + 1 ≥ (R.length : Int) by omega), if_pos c2]
  have ew : rdOf ByteArray.empty R ((i : Int) + 1) = R.getD (i + 1) ByteArray.empty := by
    unfold rdOf
    rw [show ((i : Int) + 1).toNat = i + 1 by omega]
  have hw : (R.getD (i + 1) ByteArray.empty).size ≤ 1000 := by
    rw [List.getD_eq_getElem?_getD, List.getElem?_eq_getElem (by omega)]
    exact hR _ (List.getElem_mem _)
  rw [if_neg (show ¬ (i : Int) + 1 ≥ (R.length : Int) by omega), if_neg c2, if_pos (show 0 ≤ (i : Int) + 1 by omega), if_pos (show (i : Int) + 1 < (R.length : Int) by omega), ew, rnumber_f _ hw hk]
  simp only [Option.bind_some]
  rw [w64 (x := at_ + 1) (by omega), w64 (x := at_ + 1 + ((R.getD (i + 1) ByteArray.empty).size : Int)) (by omega), show (i : Int) + 1 = ((i + 1 : Nat) : Int) by omega]
  by_cases c3 : numOk (bytesOf (R.getD (i + 1) ByteArray.empty)) = true
  · rw [if_pos c3, if_pos c3]
    by_cases c4 : c = 99
    · rw [if_pos c4, if_pos c4, if_pos c4]
    · rw [if_neg c4, if_neg c4, if_neg c4]
  · rw [if_neg c3, if_neg c3]
theorem rl1_txt (k : Nat) (hk : 2000 ≤ k) (s : ByteArray) (hs : s.size ≤ 1000) (R : List ByteArray) (at_ : Nat) (ha : at_ ≤ 10000) (sg : ByteArray) (i : Nat) (hi : i < sg.size) (hsg : sg.size ≤ 10) (hc : bt sg (i : Int) = 116) (kd cn : Int) (tx : ByteArray) (n : Int) :
    larumref33_Parse.l1 (k + 1) s R (at_ : Int) sg (i : Int) kd cn tx n = if (at_ : Int) ≥ (s.size : Int) then some (0, 0, (⟨#[]⟩ : ByteArray), 0, false) else if (readQ ((bytesOf s).drop (at_ + 1))).2.2 = true then larumref33_Parse.l1 k s R ((at_ : Int) + 1 + (readQ ((bytesOf s).drop (at_ + 1))).2.1) sg ((i + 1 : Nat) : Int) kd cn (strOfNums (readQ ((bytesOf s).drop (at_ + 1))).1) n else some (0, 0, (⟨#[]⟩ : ByteArray), 0, false) := by
  simp only [larumref33_Parse.l1]
  rw [if_pos (show (i : Int) < (sg.size : Int) by omega), hc]
  by_cases c1 : (at_ : Int) ≥ (s.size : Int)
  · rw [if_pos c1, if_pos c1]
  have hb := readQ_bd _ ((bts_byt s).drop (at_ + 1))
  have hl : ((bytesOf s).drop (at_ + 1)).length = s.size - (at_ + 1) := by rw [List.length_drop, ← bts_size]
  have hx : (s.extract (at_ + 1) s.size).size ≤ 1000 := by rw [bts_size, bts_extract_to, hl]; omega
  rw [if_neg c1, if_neg c1, if_pos (show 0 ≤ (i : Int) by omega), if_pos rfl, w64 (x := (at_ : Int) + 1) (by omega), if_pos (show 0 ≤ (at_ : Int) + 1 by omega), if_pos (show (at_ : Int) + 1 ≤ (s.size : Int) by omega), show ((at_ : Int) + 1).toNat = at_ + 1 by omega, rRead_f _ (by omega) (by omega), bts_extract_to]
  simp only [Option.bind_some]
  rw [w64 (x := (at_ : Int) + 1 + (readQ ((bytesOf s).drop (at_ + 1))).2.1) (by omega), w64 (x := (i : Int) + 1) (by omega), show (i : Int) + 1 = ((i + 1 : Nat) : Int) by omega]
theorem getD_bts (R : List ByteArray) (i : Nat) : bytesOf (R.getD i ByteArray.empty) = (R.map bytesOf).getD i [] := by
  rw [List.getD_eq_getElem?_getD, List.getD_eq_getElem?_getD, List.getElem?_map]
  cases R[i]? <;> rfl
theorem getD_size (R : List ByteArray) (i : Nat) : (R.getD i ByteArray.empty).size = ((R.map bytesOf).getD i []).length := by
  rw [bts_size, getD_bts]
def ROut (l : List Int) (o : Option (Int × Int × ByteArray × Int × Bool)) : Prop := ∃ kd cn tx nn b, o = some (kd, cn, tx, nn, b) ∧ (b = true → I64 cn ∧ I64 nn ∧ tx.size ≤ 1000 ∧ mayL kd cn (bytesOf tx) nn = true ∧ l = lineL kd cn (bytesOf tx) nn) ∧ (b = false → kd = 0 ∧ cn = 0 ∧ tx = (⟨#[]⟩ : ByteArray) ∧ nn = 0)
theorem ROut.fail (l : List Int) : ROut l (some (0, 0, (⟨#[]⟩ : ByteArray), 0, false)) := ⟨_, _, _, _, _, rfl, fun h => Bool.noConfusion h, fun _ => ⟨rfl, rfl, rfl, rfl⟩⟩
theorem ROut.ok {l : List Int} {kd cn : Int} {tx : ByteArray} {nn : Int} (h1 : I64 cn) (h2 : I64 nn) (h3 : tx.size ≤ 1000) (h4 : mayL kd cn (bytesOf tx) nn = true) (h5 : l = lineL kd cn (bytesOf tx) nn) : ROut l (some (kd, cn, tx, nn, true)) := ⟨_, _, _, _, _, rfl, fun _ => ⟨h1, h2, h3, h4, h5⟩, fun h => Bool.noConfusion h⟩
theorem z64 : I64 0 := ⟨by decide, by decide⟩
theorem e0 : bytesOf (⟨#[]⟩ : ByteArray) = [] := rfl
theorem join_cons (a : List Int) {r : List (List Int)} (h : r ≠ []) : joinL (a :: r) = a ++ 32 :: joinL r := by
  cases r with
  | nil => exact absurd rfl h
  | cons b r => rfl
theorem tail1 (c conn : Int) (text : List Int) (n : Int) : tailL [c] conn text n = 32 :: pieceL c conn text n := by simp [tailL]
theorem tail2 (c d conn : Int) (text : List Int) (n : Int) : tailL [c, d] conn text n = 32 :: pieceL c conn text n ++ 32 :: pieceL d conn text n := by simp [tailL]
theorem rParse_any (s : ByteArray) (hs : s.size ≤ 1000) {k : Nat} (hk : 4000 ≤ k) : ROut (bytesOf s) (larumref33_Parse.f k s) := by
  obtain ⟨k, rfl⟩ : ∃ m, k = m + 11 := ⟨k - 11, by omega⟩
  obtain ⟨R, r1, r2⟩ := RCut_f s (by omega) 32 (k := k + 11) (by omega)
  unfold larumref33_Parse.f
  rw [r1]
  simp only [Option.bind_some]
  rw [show larumref33_words.f = some wrds from rfl]
  simp only [Option.bind_some]
  rw [show ((wrds.length : Nat) : Int) = 7 from rfl]
  have hne : R.map bytesOf ≠ [] := by rw [r2]; exact cutG_ne _ _ _
  have hj : joinL (R.map bytesOf) = bytesOf s := by rw [r2, cutG_join]; rfl
  have hz := bts_size s
  have hw : ∀ w ∈ R, w.size ≤ 1000 := fun w hw => by
    have := cutG_size 32 (bytesOf s) [] (bytesOf w) (by rw [← r2]; exact List.mem_map_of_mem hw)
    rw [bts_size]
    rw [List.length_nil] at this
    omega
  have hlen : R.length = (R.map bytesOf).length := by rw [List.length_map]
  have hpos : 0 < R.length := by rw [hlen]; exact List.length_pos_iff.2 hne
  rw [show k + 11 = (k + 3) + 8 by omega, rl0_all s R hpos]
  rw [show rdOf ByteArray.empty R 0 = R.getD 0 ByteArray.empty from rfl, getD_bts, getD_size]
  have hg : ∀ i, (R.getD i ByteArray.empty).size = ((R.map bytesOf).getD i []).length := getD_size R
  have hgb : ∀ i, bytesOf (R.getD i ByteArray.empty) = (R.map bytesOf).getD i [] := getD_bts R
  generalize hP : R.map bytesOf = P at hne hj hlen hg hgb ⊢
  cases P with
  | nil => exact absurd rfl hne
  | cons p0 rest =>
    rw [show (p0 :: rest).getD 0 [] = p0 from rfl]
    by_cases c0 : kOf p0 = 0
    · rw [if_pos c0]; exact ROut.fail _
    rw [if_neg c0]
    obtain ⟨hr, hp0⟩ := kOf_of c0
    generalize kOf p0 = kd at hr hp0 ⊢
    have hl0 : p0.length ≤ (bytesOf s).length := by
      rw [← hj]
      cases rest with
      | nil => exact Nat.le_refl _
      | cons b r => rw [join_cons _ (by simp), List.length_append]; omega
    rw [List.length_cons] at hlen
    -- one number
    have one : ∀ (c : Int) (hc2 : c = 99 ∨ c = 110) (sg : ByteArray) (hsg : bytesOf sg = [c]) (he : sgn kd = sg), (∀ v, I64 v → mayL kd (if c = 99 then v else 0) [] (if c = 99 then 0 else v) = true) → ROut (bytesOf s) (larumref33_Parse.l1 (k + 3) s R (p0.length : Int) sg 0 kd 0 (⟨#[]⟩ : ByteArray) 0) := by
      intro c hc2 sg hsg he hmay
      have hs1 : sg.size = 1 := by rw [bts_size, hsg]; rfl
      have hb : bt sg ((0 : Nat) : Int) = c := by rw [bt_rd, hsg]; rfl
      have key := rl1_num (k + 2) (by omega) s hs R hw (p0.length : Int) ⟨by omega, by omega⟩ sg 0 (by omega) (by omega) c hb hc2 kd 0 ⟨#[]⟩ 0
      rw [show (((0 : Nat)) : Int) = 0 from rfl] at key
      rw [key]
      by_cases c1 : (p0.length : Int) ≥ (s.size : Int)
      · rw [if_pos c1]; exact ROut.fail _
      rw [if_neg c1]
      by_cases c2 : 0 + 1 ≥ R.length
      · rw [if_pos c2]; exact ROut.fail _
      rw [if_neg c2, hgb, hg]
      cases rest with
      | nil => exact absurd (by simp only [List.length_nil] at hlen; omega) c2
      | cons p1 r =>
        rw [show (p0 :: p1 :: r).getD (0 + 1) [] = p1 from rfl]
        by_cases c3 : numOk p1 = true
        · rw [if_pos c3, rl1_end (k + 1) s R _ sg (0 + 1) (by omega)]
          by_cases c4 : (p0.length : Int) + 1 + (p1.length : Int) = (s.size : Int)
          · rw [if_pos c4]
            obtain ⟨n1, n2⟩ := numOk_of c3
            rw [join_cons _ (by simp)] at hj
            have hr0 : r = [] := by
              cases r with
              | nil => rfl
              | cons p2 r =>
                rw [join_cons _ (by simp)] at hj
                have := congrArg List.length hj
                simp only [List.length_append, List.length_cons] at this
                omega
            subst hr0
            rw [show joinL [p1] = p1 from rfl] at hj
            have hpi : pieceL c (if c = 99 then (parseN p1).1 else 0) [] (if c = 99 then 0 else (parseN p1).1) = p1 := by
              unfold pieceL
              by_cases h : c = 99
              · rw [if_pos h, if_pos h, n2]
              · rw [if_neg h, if_pos (by omega), if_neg h, n2]
            have hsz : (⟨#[]⟩ : ByteArray).size ≤ 1000 := by decide
            refine ROut.ok ?_ ?_ hsz (hmay _ n1) ?_
            · split
              · exact n1
              · exact z64
            · split
              · exact z64
              · exact n1
            · rw [← hj]
              unfold lineL
              rw [he, hsg, tail1, e0, hpi, hp0]
          · rw [if_neg c4]; exact ROut.fail _
        · rw [if_neg c3]; exact ROut.fail _
    have mz : ∀ v : Int, decide (v = v) = true := fun v => decide_eq_true rfl
    rcases six hr with rfl | rfl | rfl | rfl | rfl | rfl
    · rw [show (0 : Int) = ((0 : Nat) : Int) from rfl, rl1_end (k + 2) s R _ (sgn 1) 0 (by rfl)]
      by_cases c1 : (p0.length : Int) = (s.size : Int)
      · rw [if_pos c1]
        refine ROut.ok z64 z64 (by decide) (by decide) ?_
        have hr0 : rest = [] := by
          cases rest with
          | nil => rfl
          | cons b r =>
            rw [join_cons _ (by simp)] at hj
            have := congrArg List.length hj
            simp only [List.length_append, List.length_cons] at this
            omega
        subst hr0
        rw [← hj, show joinL [p0] = p0 from rfl, hp0]
        rfl
      · rw [if_neg c1]; exact ROut.fail _
    · -- a connection and a text
      have key := rl1_num (k + 2) (by omega) s hs R hw (p0.length : Int) ⟨by omega, by omega⟩ (sgn 2) 0 (by decide) (by decide) 99 rfl (Or.inl rfl) 2 0 ⟨#[]⟩ 0
      rw [show (((0 : Nat)) : Int) = 0 from rfl] at key
      rw [key]
      by_cases c1 : (p0.length : Int) ≥ (s.size : Int)
      · rw [if_pos c1]; exact ROut.fail _
      rw [if_neg c1]
      by_cases c2 : 0 + 1 ≥ R.length
      · rw [if_pos c2]; exact ROut.fail _
      rw [if_neg c2, hgb, hg]
      cases rest with
      | nil => exact absurd (by simp only [List.length_nil] at hlen; omega) c2
      | cons p1 r =>
        rw [show (p0 :: p1 :: r).getD (0 + 1) [] = p1 from rfl]
        by_cases c3 : numOk p1 = true
        · rw [if_pos c3, if_pos rfl, if_pos rfl]
          obtain ⟨n1, n2⟩ := numOk_of c3
          rw [join_cons _ (by simp)] at hj
          have hl1 : p0.length + 1 + p1.length ≤ 1000 := by
            have := congrArg List.length hj
            cases r with
            | nil => simp only [joinL, List.length_append, List.length_cons] at this; omega
            | cons p2 r => rw [join_cons _ (by simp)] at this; simp only [List.length_append, List.length_cons] at this; omega
          rw [show (p0.length : Int) + 1 + (p1.length : Int) = ((p0.length + 1 + p1.length : Nat) : Int) by omega, rl1_txt (k + 1) (by omega) s hs R (p0.length + 1 + p1.length) (by omega) (sgn 2) (0 + 1) (by decide) (by decide) rfl]
          by_cases c4 : ((p0.length + 1 + p1.length : Nat) : Int) ≥ (s.size : Int)
          · rw [if_pos c4]; exact ROut.fail _
          rw [if_neg c4]
          have hrn : r ≠ [] := by
            rintro rfl
            have := congrArg List.length hj
            simp only [joinL, List.length_append, List.length_cons] at this
            omega
          rw [join_cons _ hrn] at hj
          have hM : (bytesOf s).drop (p0.length + 1 + p1.length + 1) = joinL r := by
            rw [← hj, show p0 ++ 32 :: (p1 ++ 32 :: joinL r) = (p0 ++ 32 :: p1 ++ [32]) ++ joinL r by simp, List.drop_left' (by simp; omega)]
          rw [hM]
          have hbM : Byt (joinL r) := by rw [← hM]; exact (bts_byt s).drop _
          by_cases c5 : (readQ (joinL r)).2.2 = true
          · rw [if_pos c5, rl1_end k s R _ (sgn 2) (0 + 1 + 1) (by rfl)]
            by_cases c6 : ((p0.length + 1 + p1.length : Nat) : Int) + 1 + (readQ (joinL r)).2.1 = (s.size : Int)
            · rw [if_pos c6]
              obtain ⟨more, q1_, q2_⟩ := readQ_canon hbM c5
              have hm : more = [] := by
                have h1 := congrArg List.length hj
                have h2 := congrArg List.length q1_
                simp only [List.length_append, List.length_cons] at h1 h2
                apply List.length_eq_zero_iff.1
                omega
              subst hm
              have hbq := readQ_bd _ hbM
              have hson := bts_son hbq.1
              have hjl := congrArg List.length hj
              simp only [List.length_append, List.length_cons] at hjl
              refine ROut.ok n1 z64 (by rw [bts_size, hson]; omega) ?_ ?_
              · unfold mayL
                rw [show bytesOf (sgn 2) = [99, 116] from rfl]
                simp
              · rw [← hj, hson]
                unfold lineL
                rw [show bytesOf (sgn 2) = [99, 116] from rfl, tail2, hp0]
                unfold pieceL
                rw [if_pos rfl, if_neg (by decide), if_neg (by decide), n2]
                rw [List.append_nil] at q1_
                rw [← q1_]
                simp
            · rw [if_neg c6]; exact ROut.fail _
          · rw [if_neg c5]; exact ROut.fail _
        · rw [if_neg c3]; exact ROut.fail _
    · -- a connection and a number
      have key := rl1_num (k + 2) (by omega) s hs R hw (p0.length : Int) ⟨by omega, by omega⟩ (sgn 3) 0 (by decide) (by decide) 99 rfl (Or.inl rfl) 3 0 ⟨#[]⟩ 0
      rw [show (((0 : Nat)) : Int) = 0 from rfl] at key
      rw [key]
      by_cases c1 : (p0.length : Int) ≥ (s.size : Int)
      · rw [if_pos c1]; exact ROut.fail _
      rw [if_neg c1]
      by_cases c2 : 0 + 1 ≥ R.length
      · rw [if_pos c2]; exact ROut.fail _
      rw [if_neg c2, hgb, hg]
      cases rest with
      | nil => exact absurd (by simp only [List.length_nil] at hlen; omega) c2
      | cons p1 r =>
        rw [show (p0 :: p1 :: r).getD (0 + 1) [] = p1 from rfl]
        by_cases c3 : numOk p1 = true
        · rw [if_pos c3, if_pos rfl, if_pos rfl]
          obtain ⟨n1, n2⟩ := numOk_of c3
          rw [join_cons _ (by simp)] at hj
          have hl1 : p0.length + 1 + p1.length ≤ 1000 := by
            have := congrArg List.length hj
            cases r with
            | nil => simp only [joinL, List.length_append, List.length_cons] at this; omega
            | cons p2 r => rw [join_cons _ (by simp)] at this; simp only [List.length_append, List.length_cons] at this; omega
          rw [rl1_num (k + 1) (by omega) s hs R hw ((p0.length : Int) + 1 + (p1.length : Int)) ⟨by omega, by omega⟩ (sgn 3) (0 + 1) (by decide) (by decide) 110 rfl (Or.inr rfl)]
          by_cases c4 : (p0.length : Int) + 1 + (p1.length : Int) ≥ (s.size : Int)
          · rw [if_pos c4]; exact ROut.fail _
          rw [if_neg c4]
          by_cases c5 : 0 + 1 + 1 ≥ R.length
          · rw [if_pos c5]; exact ROut.fail _
          rw [if_neg c5, hgb, hg]
          cases r with
          | nil => exact absurd (by simp at hlen; omega) c5
          | cons p2 r =>
            rw [show (p0 :: p1 :: p2 :: r).getD (0 + 1 + 1) [] = p2 from rfl]
            by_cases c6 : numOk p2 = true
            · rw [if_pos c6, if_neg (by decide), if_neg (by decide), rl1_end k s R _ (sgn 3) (0 + 1 + 1) (by rfl)]
              by_cases c7 : (p0.length : Int) + 1 + (p1.length : Int) + 1 + (p2.length : Int) = (s.size : Int)
              · rw [if_pos c7]
                obtain ⟨m1, m2⟩ := numOk_of c6
                rw [join_cons _ (by simp)] at hj
                have hr0 : r = [] := by
                  cases r with
                  | nil => rfl
                  | cons p3 r =>
                    rw [join_cons _ (by simp)] at hj
                    have := congrArg List.length hj
                    simp only [List.length_append, List.length_cons] at this
                    omega
                subst hr0
                rw [show joinL [p2] = p2 from rfl] at hj
                refine ROut.ok n1 m1 (by decide) ?_ ?_
                · unfold mayL
                  rw [show bytesOf (sgn 3) = [99, 110] from rfl, e0]
                  simp
                · rw [← hj]
                  unfold lineL
                  rw [show bytesOf (sgn 3) = [99, 110] from rfl, tail2, hp0]
                  unfold pieceL
                  rw [if_pos rfl, if_neg (by decide), if_pos rfl, n2, m2]
                  simp
              · rw [if_neg c7]; exact ROut.fail _
            · rw [if_neg c6]; exact ROut.fail _
        · rw [if_neg c3]; exact ROut.fail _
    · exact one 99 (Or.inl rfl) _ rfl rfl (fun v _ => by
        unfold mayL
        rw [show bytesOf (sgn 4) = [99] from rfl]
        simp)
    · exact one 110 (Or.inr rfl) _ rfl rfl (fun v _ => by
        unfold mayL
        rw [show bytesOf (sgn 5) = [110] from rfl]
        simp)
    · exact one 99 (Or.inl rfl) _ rfl rfl (fun v _ => by
        unfold mayL
        rw [show bytesOf (sgn 6) = [99] from rfl]
        simp)
theorem rParse_line (s : ByteArray) (hs : s.size ≤ 1000) {k : Nat} (hk : 4000 ≤ k) {kind conn n : Int} {text : List Int} (hbt : Byt text) (hc : I64 conn) (hn : I64 n) (hmay : mayL kind conn text n = true) (e : bytesOf s = lineL kind conn text n) : ∃ tx, larumref33_Parse.f k s = some (kind, conn, tx, n, true) ∧ bytesOf tx = text := by
  obtain ⟨k, rfl⟩ : ∃ m, k = m + 11 := ⟨k - 11, by omega⟩
  obtain ⟨R, r1, r2⟩ := RCut_f s (by omega) 32 (k := k + 11) (by omega)
  have hr : 1 ≤ kind ∧ kind ≤ 6 := by
    by_cases h : 1 ≤ kind ∧ kind ≤ 6
    · exact h
    · unfold mayL at hmay; rw [decide_eq_false h] at hmay; simp at hmay
  unfold mayL at hmay
  rw [decide_eq_true hr, Bool.true_and] at hmay
  unfold larumref33_Parse.f
  rw [r1]
  simp only [Option.bind_some]
  rw [show larumref33_words.f = some wrds from rfl]
  simp only [Option.bind_some]
  rw [show ((wrds.length : Nat) : Int) = 7 from rfl]
  have hne : R.map bytesOf ≠ [] := by rw [r2]; exact cutG_ne _ _ _
  have hz := bts_size s
  have hw : ∀ w ∈ R, w.size ≤ 1000 := fun w hw => by
    have := cutG_size 32 (bytesOf s) [] (bytesOf w) (by rw [← r2]; exact List.mem_map_of_mem hw)
    rw [bts_size]
    rw [List.length_nil] at this
    omega
  have hlen : R.length = (R.map bytesOf).length := by rw [List.length_map]
  have hpos : 0 < R.length := by rw [hlen]; exact List.length_pos_iff.2 hne
  rw [show k + 11 = (k + 3) + 8 by omega, rl0_all s R hpos]
  rw [show rdOf ByteArray.empty R 0 = R.getD 0 ByteArray.empty from rfl, getD_bts, getD_size]
  have hg : ∀ i, (R.getD i ByteArray.empty).size = ((R.map bytesOf).getD i []).length := getD_size R
  have hgb : ∀ i, bytesOf (R.getD i ByteArray.empty) = (R.map bytesOf).getD i [] := getD_bts R
  rw [r2] at hg hgb hlen ⊢
  have hkw := kOf_wrd hr
  have one : ∀ (c v : Int) (hc2 : c = 99 ∨ c = 110) (hv : I64 v) (sg : ByteArray) (hsg : bytesOf sg = [c]) (he : sgn kind = sg) (hn32 : ∀ x ∈ bytesOf (wrd kind), x ≠ 32) (hpc : pieceL c conn text n = printN v),
      (if kOf ((cutG 32 [] (bytesOf s)).getD 0 []) = 0 then some (0, 0, (⟨#[]⟩ : ByteArray), 0, false) else larumref33_Parse.l1 (k + 3) s R (((cutG 32 [] (bytesOf s)).getD 0 []).length : Int) (sgn (kOf ((cutG 32 [] (bytesOf s)).getD 0 []))) 0 (kOf ((cutG 32 [] (bytesOf s)).getD 0 [])) 0 (⟨#[]⟩ : ByteArray) 0) = some (kind, if c = 99 then v else 0, (⟨#[]⟩ : ByteArray), if c = 99 then 0 else v, true) := by
    intro c v hc2 hv sg hsg he hn32 hpc
    have el : bytesOf s = bytesOf (wrd kind) ++ 32 :: printN v := by rw [e]; unfold lineL; rw [he, hsg]; simp only [tailL, List.flatMap_cons, List.flatMap_nil, List.append_nil, hpc]
    have ec : cutG 32 [] (bytesOf s) = [bytesOf (wrd kind), printN v] := by rw [el, cutG_at _ _ hn32, cutG_no _ (print_no32 v)]; rfl
    rw [ec] at hg hgb hlen ⊢
    rw [show [bytesOf (wrd kind), printN v].getD 0 [] = bytesOf (wrd kind) from rfl, hkw, if_neg (by omega), he]
    have hL := congrArg List.length el
    simp only [List.length_append, List.length_cons] at hL
    simp only [List.length_cons, List.length_nil] at hlen
    have hs1 : sg.size = 1 := by rw [bts_size, hsg]; rfl
    have hb : bt sg ((0 : Nat) : Int) = c := by rw [bt_rd, hsg]; rfl
    have key := rl1_num (k + 2) (by omega) s hs R hw ((bytesOf (wrd kind)).length : Int) ⟨by omega, by omega⟩ sg 0 (by omega) (by omega) c hb hc2 kind 0 ⟨#[]⟩ 0
    rw [show (((0 : Nat)) : Int) = 0 from rfl] at key
    rw [key, if_neg (by omega), if_neg (by omega), hgb, hg, show [bytesOf (wrd kind), printN v].getD (0 + 1) [] = printN v from rfl, if_pos (numOk_print hv).1, (numOk_print hv).2, rl1_end (k + 1) s R _ sg (0 + 1) (by omega), if_pos (by omega)]
  have zn : ∀ x : Int, decide (x = 0) = true → x = 0 := fun x h => of_decide_eq_true h
  rcases six hr with rfl | rfl | rfl | rfl | rfl | rfl
  · have hm2 : (decide (conn = 0) && decide (n = 0) && decide (text = [])) = true := hmay
    simp only [Bool.and_eq_true, decide_eq_true_eq] at hm2
    obtain ⟨⟨rfl, rfl⟩, rfl⟩ := hm2
    have el : bytesOf s = bytesOf (wrd 1) := by rw [e]; rfl
    have ec : cutG 32 [] (bytesOf s) = [bytesOf (wrd 1)] := by rw [el]; decide
    rw [ec, show [bytesOf (wrd 1)].getD 0 [] = bytesOf (wrd 1) from rfl, hkw, if_neg (by decide)]
    have key := rl1_end (k + 2) s R ((bytesOf (wrd 1)).length : Int) (sgn 1) 0 rfl 1 0 ⟨#[]⟩ 0
    rw [show (((0 : Nat)) : Int) = 0 from rfl] at key
    rw [key, if_pos (by rw [hz, el])]
    exact ⟨_, rfl, rfl⟩
  · have hm2 : (decide (n = 0)) = true := by simpa [show (bytesOf (sgn 2)) = [99, 116] from rfl] using hmay
    obtain rfl := zn n hm2
    have el : bytesOf s = bytesOf (wrd 2) ++ 32 :: (printN conn ++ 32 :: quoteL text) := by rw [e]; unfold lineL; rw [show bytesOf (sgn 2) = [99, 116] from rfl, tail2]; rfl
    have ec : cutG 32 [] (bytesOf s) = bytesOf (wrd 2) :: printN conn :: cutG 32 [] (quoteL text) := by rw [el, cutG_at _ _ (by decide), cutG_at _ _ (print_no32 conn)]; rfl
    rw [ec] at hg hgb hlen ⊢
    rw [show (bytesOf (wrd 2) :: printN conn :: cutG 32 [] (quoteL text)).getD 0 [] = bytesOf (wrd 2) from rfl, hkw, if_neg (by decide)]
    have hL := congrArg List.length el
    simp only [List.length_append, List.length_cons] at hL
    simp only [List.length_cons] at hlen
    have hq := quoteL_len text
    have key := rl1_num (k + 2) (by omega) s hs R hw ((bytesOf (wrd 2)).length : Int) ⟨by omega, by omega⟩ (sgn 2) 0 (by decide) (by decide) 99 rfl (Or.inl rfl) 2 0 ⟨#[]⟩ 0
    rw [show (((0 : Nat)) : Int) = 0 from rfl] at key
    rw [key, if_neg (by omega), if_neg (by omega), hgb, hg, show (bytesOf (wrd 2) :: printN conn :: cutG 32 [] (quoteL text)).getD (0 + 1) [] = printN conn from rfl, if_pos (numOk_print hc).1, (numOk_print hc).2, if_pos rfl, if_pos rfl, show ((bytesOf (wrd 2)).length : Int) + 1 + ((printN conn).length : Int) = (((bytesOf (wrd 2)).length + 1 + (printN conn).length : Nat) : Int) by omega, rl1_txt (k + 1) (by omega) s hs R _ (by omega) (sgn 2) (0 + 1) (by decide) (by decide) rfl, if_neg (by omega)]
    have hM : (bytesOf s).drop ((bytesOf (wrd 2)).length + 1 + (printN conn).length + 1) = quoteL text ++ [] := by
      rw [el, show bytesOf (wrd 2) ++ 32 :: (printN conn ++ 32 :: quoteL text) = (bytesOf (wrd 2) ++ 32 :: printN conn ++ [32]) ++ quoteL text by simp, List.drop_left' (by simp; omega), List.append_nil]
    rw [hM, readQ_quoted _ _ hbt, if_pos rfl, rl1_end k s R _ (sgn 2) (0 + 1 + 1) rfl, if_pos (by dsimp only; omega)]
    exact ⟨_, rfl, bts_son hbt⟩
  · have hm2 : decide (text = []) = true := by simpa [show (bytesOf (sgn 3)) = [99, 110] from rfl] using hmay
    have h3 : text = [] := of_decide_eq_true hm2
    subst h3
    have el : bytesOf s = bytesOf (wrd 3) ++ 32 :: (printN conn ++ 32 :: printN n) := by rw [e]; unfold lineL; rw [show bytesOf (sgn 3) = [99, 110] from rfl, tail2]; rfl
    have ec : cutG 32 [] (bytesOf s) = [bytesOf (wrd 3), printN conn, printN n] := by rw [el, cutG_at _ _ (by decide), cutG_at _ _ (print_no32 conn), cutG_no _ (print_no32 n)]; rfl
    rw [ec] at hg hgb hlen ⊢
    rw [show [bytesOf (wrd 3), printN conn, printN n].getD 0 [] = bytesOf (wrd 3) from rfl, hkw, if_neg (by decide)]
    have hL := congrArg List.length el
    simp only [List.length_append, List.length_cons] at hL
    simp only [List.length_cons, List.length_nil] at hlen
    have key := rl1_num (k + 2) (by omega) s hs R hw ((bytesOf (wrd 3)).length : Int) ⟨by omega, by omega⟩ (sgn 3) 0 (by decide) (by decide) 99 rfl (Or.inl rfl) 3 0 ⟨#[]⟩ 0
    rw [show (((0 : Nat)) : Int) = 0 from rfl] at key
    rw [key, if_neg (by omega), if_neg (by omega), hgb, hg, show [bytesOf (wrd 3), printN conn, printN n].getD (0 + 1) [] = printN conn from rfl, if_pos (numOk_print hc).1, (numOk_print hc).2, if_pos rfl, if_pos rfl, rl1_num (k + 1) (by omega) s hs R hw _ ⟨by omega, by omega⟩ (sgn 3) (0 + 1) (by decide) (by decide) 110 rfl (Or.inr rfl), if_neg (by omega), if_neg (by omega), hgb, hg, show [bytesOf (wrd 3), printN conn, printN n].getD (0 + 1 + 1) [] = printN n from rfl, if_pos (numOk_print hn).1, (numOk_print hn).2, if_neg (by decide), if_neg (by decide), rl1_end k s R _ (sgn 3) (0 + 1 + 1) rfl, if_pos (by omega)]
    exact ⟨_, rfl, rfl⟩
  · have hm2 : (decide (n = 0) && decide (text = [])) = true := by simpa [show (bytesOf (sgn 4)) = [99] from rfl] using hmay
    simp only [Bool.and_eq_true, decide_eq_true_eq] at hm2
    obtain ⟨rfl, rfl⟩ := hm2
    rw [one 99 conn (Or.inl rfl) hc _ rfl rfl (by decide) rfl]
    exact ⟨_, rfl, rfl⟩
  · have hm2 : (decide (conn = 0) && decide (text = [])) = true := by simpa [show (bytesOf (sgn 5)) = [110] from rfl] using hmay
    simp only [Bool.and_eq_true, decide_eq_true_eq] at hm2
    obtain ⟨rfl, rfl⟩ := hm2
    rw [one 110 n (Or.inr rfl) hn _ rfl rfl (by decide) rfl]
    exact ⟨_, rfl, rfl⟩
  · have hm2 : (decide (n = 0) && decide (text = [])) = true := by simpa [show (bytesOf (sgn 6)) = [99] from rfl] using hmay
    simp only [Bool.and_eq_true, decide_eq_true_eq] at hm2
    obtain ⟨rfl, rfl⟩ := hm2
    rw [one 99 conn (Or.inl rfl) hc _ rfl rfl (by decide) rfl]
    exact ⟨_, rfl, rfl⟩
theorem awake300 : larumlaw33_awake.f 300 = some true := by decide +kernel
theorem short_eq (s : ByteArray) (n : Nat) : ∃ t, larumlaw33_short.f s (n : Int) = some t ∧ t.size ≤ n := by
  unfold larumlaw33_short.f
  by_cases h : (s.size : Int) > n
  · exact ⟨_, by rw [if_pos h, if_pos (by omega), if_pos (by omega)], by simp; omega⟩
  · exact ⟨s, by rw [if_neg h], by omega⟩
theorem DeskParse : larumlaw33_DeskParse.Pure := by
  intro a _
  obtain ⟨s, hs, hl⟩ := short_eq a 100
  refine ⟨600000, ?_⟩
  have aw : larumlaw33_awake.f 600000 = some true := at_rounds (g := fun k => larumlaw33_awake.f k) (fun k => larumlaw33_awake.mono k) (show 300 ≤ 600000 by decide) awake300
  obtain ⟨kd, cn, tx, nn, b, r1, r2, r3⟩ := rParse_any s (by omega) (k := 600000) (by omega)
  obtain ⟨kd2, cn2, tx2, nn2, er, p1, p2⟩ := dParse_l0 (s := s) (by omega) 6 600000 1 (by omega) (by omega) (by omega)
  unfold larumlaw33_DeskParse.f
  rw [show larumlaw33_short.f a 100 = some s from hs]
  simp only [Option.bind_some]
  cases b with
  | true =>
    obtain ⟨h1, h2, h3, h4, h5⟩ := r2 rfl
    obtain ⟨ty, t1, t2⟩ := dParse_line (k := 600000) (by omega) h1 h2 h3 h4 s (by omega) h5
    rw [t1, r1, aw]
    simp only [Option.bind_some, if_true]
    simp [(tl_iff ty tx).2 t2]
  | false =>
    obtain ⟨rfl, rfl, rfl, rfl⟩ := r3 rfl
    have hp : desk_Parse.f 600000 s = some (0, 0, (⟨#[]⟩ : ByteArray), 0, 3) := by
      unfold desk_Parse.f
      rw [p1]
      rcases p2 with h | ⟨h1, h2, h3, h4, h5, h6⟩
      · rw [h]
      · obtain ⟨ty, t1, _⟩ := rParse_line s (by omega) (k := 600000) (by omega) (bts_byt tx2) h2 h3 h5 h6
        rw [r1] at t1
        simp at t1
    rw [hp, r1, aw]
    simp
end Go.Proofs.Ytmdfgndndfggeaa.Pure
