/- A cursor as text, and which one a text is, or that it is none, is as the chapter says; it is read as it was: for any numbers, any text. No condition. -/
import Derived.Test.YtipdkajfcicfkaaPPageCursorx5
namespace Go.Proofs.Ytipdkajfcicfkaa.Pure
open Go Go.RowKit Go.Proofs.Ytipdkajfcicfkaa.PPageCursor Go.Proofs.Ytipdkajfcicfkaa.Gp Go.Proofs.YtipdkajfcicfkaaW Go.Proofs.YtipdkajfcicfkaaW.PrintWords Go.Proofs.YtipdkajfcicfkaaW.PrintLast Go.Proofs.YtipdkajfcicfkaaW.PrintMore
set_option linter.unusedVariables false
set_option linter.unusedSimpArgs false
-- strings as lists of numbers
def Byt (l : List Int) : Prop := ∀ x ∈ l, 0 ≤ x ∧ x ≤ 255
theorem Byt.rd {l : List Int} (h : Byt l) (i : Int) : 0 ≤ PrintWords.rd l i ∧ PrintWords.rd l i ≤ 255 := by
  unfold PrintWords.rd
  rw [List.getD_eq_getElem?_getD]
  by_cases hi : i.toNat < l.length
  · rw [List.getElem?_eq_getElem hi]; exact h _ (List.getElem_mem hi)
  · rw [List.getElem?_eq_none (by omega)]; decide
theorem Byt.take {l : List Int} (h : Byt l) (n : Nat) : Byt (l.take n) := fun x hx => h x (List.mem_of_mem_take hx)
theorem Byt.drop {l : List Int} (h : Byt l) (n : Nat) : Byt (l.drop n) := fun x hx => h x (List.mem_of_mem_drop hx)
theorem w64 {x : Int} (h : -9223372036854775808 ≤ x ∧ x ≤ 9223372036854775807) : wrap64 x = x := by unfold wrap64; omega
theorem u64w (x : Int) : IntKind.u64.wrap x = x % 18446744073709551616 := by simp [IntKind.wrap, IntKind.bits, IntKind.signed]
theorem wu64 {x : Int} (h : 0 ≤ x ∧ x ≤ 18446744073709551615) : IntKind.u64.wrap x = x := by rw [u64w]; omega
theorem bts_byt (s : ByteArray) : Byt (bytesOf s) := by
  intro x hx
  simp only [bytesOf, List.mem_map] at hx
  obtain ⟨b, _, rfl⟩ := hx
  have := b.toNat_lt
  omega
theorem bts_len (s : ByteArray) : ((bytesOf s).length : Int) = (s.size : Int) := by rw [bytesOf_length]
theorem bt_rd (s : ByteArray) (i : Int) : bt s i = rd (bytesOf s) i := (rd_bytesOf s i).symm
theorem tl (s : ByteArray) : s.toList = s.data.toList := ByteArray.toList_eq s
theorem u8_map_inj : ∀ {a b : List UInt8}, a.map (fun x => (x.toNat : Int)) = b.map (fun x => (x.toNat : Int)) → a = b
  | [], [], _ => rfl
  | [], _ :: _, h => by simp at h
  | _ :: _, [], h => by simp at h
  | x :: a, y :: b, h => by
    simp only [List.map_cons, List.cons.injEq] at h
    rw [u8_map_inj h.2, UInt8.toNat_inj.1 (by omega : x.toNat = y.toNat)]
theorem tl_iff (s t : ByteArray) : s.toList = t.toList ↔ bytesOf s = bytesOf t := by
  rw [tl, tl]
  exact ⟨fun h => by unfold bytesOf; rw [h], fun h => u8_map_inj h⟩
theorem tl_nil (s : ByteArray) : s.toList = ([] : List UInt8) ↔ bytesOf s = [] := by
  rw [tl]
  unfold bytesOf
  rw [List.map_eq_nil_iff]
theorem bts_extract (s : ByteArray) (a b : Nat) : bytesOf (s.extract a b) = ((bytesOf s).take b).drop a := by
  unfold bytesOf
  rw [List.drop_take, ← List.map_drop, ← List.map_take]
  congr 1
  simp [List.drop_take]
theorem bts_extract_to (s : ByteArray) (a : Nat) : bytesOf (s.extract a s.size) = (bytesOf s).drop a := by
  rw [bts_extract, List.take_of_length_le (by rw [bytesOf_length]; omega)]
theorem bts_append (s t : ByteArray) : bytesOf (s ++ t) = bytesOf s ++ bytesOf t := by
  unfold bytesOf
  rw [← List.map_append]
  congr 1
theorem bts_size (s : ByteArray) : s.size = (bytesOf s).length := (bytesOf_length s).symm
theorem drop_rd {l : List Int} {i : Nat} (h : i < l.length) : l.drop i = rd l (i : Int) :: l.drop (i + 1) := by
  rw [List.drop_eq_getElem_cons h]
  unfold rd
  simp [List.getD_eq_getElem?_getD, List.getElem?_eq_getElem h]
theorem rd_cons_zero (a : Int) (l : List Int) : rd (a :: l) 0 = a := rfl
-- a string made of numbers
theorem bts_son {xs : List Int} (h : Byt xs) : bytesOf (strOfNums xs) = xs := by
  unfold bytesOf
  rw [strOfNums_data, List.map_map]
  conv => rhs; rw [← List.map_id xs]
  apply List.map_congr_left
  intro x hx
  have := h x hx
  simp only [Function.comp, id]
  have e : (UInt8.ofNat x.toNat).toNat = x.toNat := by
    rw [UInt8.toNat_ofNat']
    omega
  rw [e]; omega
theorem bts_tl_iff {s t : ByteArray} : s.toList = t.toList ↔ bytesOf s = bytesOf t := tl_iff s t
theorem ext_bts {s t : ByteArray} (h : bytesOf s = bytesOf t) : s = t := by
  have := (tl_iff s t).2 h
  rw [tl, tl] at this
  cases s with | mk a => cases t with | mk b => simp at this; rw [this]
-- prefixes, cuts at a byte
def nats (l : List UInt8) : List Int := l.map fun x => (x.toNat : Int)
theorem nats_bts (s : ByteArray) : nats s.data.toList = bytesOf s := rfl
theorem pre_nats : ∀ (p l : List UInt8), p.isPrefixOf l = (nats p).isPrefixOf (nats l)
  | [], _ => by simp [nats]
  | _ :: _, [] => by simp [nats]
  | a :: p, b :: l => by
    have e : (a == b) = ((a.toNat : Int) == (b.toNat : Int)) := by
      rw [Bool.eq_iff_iff, beq_iff_eq, beq_iff_eq, ← UInt8.toNat_inj]; omega
    show (a == b && p.isPrefixOf l) = (((a.toNat : Int) == (b.toNat : Int)) && (nats p).isPrefixOf (nats l))
    rw [e, pre_nats p l]
theorem CutPrefix_f (s p : ByteArray) : ∃ t b, strings_CutPrefix.f s p = some (t, b) ∧ b = (bytesOf p).isPrefixOf (bytesOf s) ∧ bytesOf t = (if (bytesOf p).isPrefixOf (bytesOf s) = true then (bytesOf s).drop (bytesOf p).length else bytesOf s) ∧ t.size ≤ s.size := by
  have e : Lib.hasPrefix s.data.toList p.data.toList = (bytesOf p).isPrefixOf (bytesOf s) := pre_nats _ _
  have eb : bytesOf (⟨(Lib.trimPrefix s.data.toList p.data.toList).toArray⟩ : ByteArray) = (if (bytesOf p).isPrefixOf (bytesOf s) = true then (bytesOf s).drop (bytesOf p).length else bytesOf s) := by
    unfold Lib.trimPrefix
    rw [e]
    have h0 : ∀ l : List UInt8, bytesOf (⟨l.toArray⟩ : ByteArray) = nats l := fun l => rfl
    rw [h0]
    by_cases h : (bytesOf p).isPrefixOf (bytesOf s) = true
    · rw [if_pos h, if_pos h]
      unfold nats
      rw [List.map_drop]
      simp [bytesOf]
    · rw [if_neg h, if_neg h]; rfl
  refine ⟨_, _, rfl, e, eb, ?_⟩
  rw [bts_size, eb, bts_size]
  split
  · rw [List.length_drop]; omega
  · exact Nat.le_refl _
theorem idx_while (c : UInt8) : ∀ (l : List UInt8),
    (Lib.indexByte l c = -1 ∧ (nats l).takeWhile (fun x => x != (c.toNat : Int)) = nats l ∧ (nats l).dropWhile (fun x => x != (c.toNat : Int)) = [] ∧ (nats l).contains (c.toNat : Int) = false) ∨
    ∃ j : Nat, Lib.indexByte l c = (j : Int) ∧ j < l.length ∧ (nats l).takeWhile (fun x => x != (c.toNat : Int)) = (nats l).take j ∧ (nats l).dropWhile (fun x => x != (c.toNat : Int)) = (nats l).drop j ∧ (nats l).contains (c.toNat : Int) = true
  | [] => Or.inl ⟨rfl, rfl, rfl, rfl⟩
  | x :: l => by
    have hn : nats (x :: l) = (x.toNat : Int) :: nats l := rfl
    by_cases h : x = c
    · subst h
      refine Or.inr ⟨0, by simp [Lib.indexByte], by simp, ?_, ?_, ?_⟩ <;> rw [hn] <;> simp
    · have hb : (x == c) = false := by simpa using h
      have hi : ¬ ((x.toNat : Int) = (c.toNat : Int)) := fun e => h (UInt8.toNat_inj.1 (by omega))
      have hi2 : ((x.toNat : Int) != (c.toNat : Int)) = true := by simpa using hi
      have hi3 : ((c.toNat : Int) == (x.toNat : Int)) = false := by simpa using fun e => hi e.symm
      rcases idx_while c l with ⟨h1, h2, h3, h4⟩ | ⟨j, h1, h2, h3, h4, h5⟩
      · refine Or.inl ⟨by simp [Lib.indexByte, hb, h1], ?_, ?_, ?_⟩
        · rw [hn, List.takeWhile_cons, hi2, if_pos rfl, h2]
        · rw [hn, List.dropWhile_cons, hi2, if_pos rfl, h3]
        · rw [hn, List.contains_cons, hi3, h4]; rfl
      · refine Or.inr ⟨j + 1, ?_, by simpa using h2, ?_, ?_, ?_⟩
        · have : ¬ ((j : Int) = -1) := by omega
          simp [Lib.indexByte, hb, h1, this]
        · rw [hn, List.takeWhile_cons, hi2, if_pos rfl, h3]; rfl
        · rw [hn, List.dropWhile_cons, hi2, if_pos rfl, h4]; rfl
        · rw [hn, List.contains_cons, h5, Bool.or_true]
theorem Cut_f (s : ByteArray) (hs : s.size < 4294967281) (c : UInt8) : ∃ t u b, strings_Cut.f s ⟨#[c]⟩ = some (t, u, b) ∧ bytesOf t = (bytesOf s).takeWhile (fun x => x != (c.toNat : Int)) ∧ bytesOf u = ((bytesOf s).dropWhile (fun x => x != (c.toNat : Int))).drop 1 ∧ b = (bytesOf s).contains (c.toNat : Int) := by
  unfold strings_Cut.f
  have ea : strings_Cut.at s ⟨#[c]⟩ = Lib.indexByte s.data.toList c := rfl
  rw [if_pos ⟨rfl, hs⟩, ea]
  rcases idx_while c s.data.toList with ⟨h1, h2, h3, h4⟩ | ⟨j, h1, h2, h3, h4, h5⟩
  · rw [nats_bts] at h2 h3 h4
    rw [h1, if_pos (by decide)]
    exact ⟨_, _, _, rfl, h2.symm, by rw [h3]; rfl, h4.symm⟩
  · rw [nats_bts] at h3 h4 h5
    rw [h1, if_neg (by omega), show ((j : Int)).toNat = j by omega]
    refine ⟨_, _, _, rfl, ?_, ?_, h5.symm⟩
    · rw [bts_extract, List.drop_zero, h3]
    · rw [bts_extract_to, h4, List.drop_drop]
-- digits
def isD (c : Int) : Bool := decide (48 ≤ c ∧ c ≤ 57)
def allD (l : List Int) : Bool := l.all isD
def dv (v : Int) : List Int → Int
  | [] => v
  | c :: l => dv (10 * v + (c - 48)) l
theorem isD_iff {c : Int} : isD c = true ↔ 48 ≤ c ∧ c ≤ 57 := by simp [isD]
theorem dv_ge : ∀ (l : List Int) (v : Int), allD l = true → 0 ≤ v → v ≤ dv v l
  | [], v, _, _ => Int.le_refl v
  | c :: l, v, h, hv => by
    simp only [allD, List.all_cons, Bool.and_eq_true] at h
    have hc := isD_iff.1 h.1
    have := dv_ge l (10 * v + (c - 48)) h.2 (by omega)
    show v ≤ dv (10 * v + (c - 48)) l
    omega
theorem Digit_eq (c : Int) : chars_Digit.f c = some (isD c) := by
  unfold chars_Digit.f isD
  by_cases h : c ≥ 48
  · rw [if_pos h]; congr 1; exact decide_eq_decide.2 (by omega)
  · rw [if_neg h]; congr 1; symm; exact decide_eq_false (by omega)
theorem All_Digit_eq (s : ByteArray) (hs : s.size ≤ 140737488351232) (d : Nat) : ∀ (i k : Nat), i + d = s.size → d < k → chars_All_chars_Digit.l0 k s (i : Int) = some (allD ((bytesOf s).drop i)) := by
  induction d with
  | zero =>
    intro i k hi hk
    obtain ⟨k, rfl⟩ : ∃ m, k = m + 1 := ⟨k - 1, by omega⟩
    simp only [chars_All_chars_Digit.l0]
    rw [if_neg (by omega), List.drop_of_length_le (by rw [bytesOf_length]; omega)]
    rfl
  | succ d ih =>
    intro i k hi hk
    obtain ⟨k, rfl⟩ : ∃ m, k = m + 1 := ⟨k - 1, by omega⟩
    simp only [chars_All_chars_Digit.l0]
    rw [if_pos (by omega), if_pos (by omega), Digit_eq, bt_rd, drop_rd (by rw [bytesOf_length]; omega), w64 (by omega)]
    simp only [Option.bind_some]
    show _ = some (allD (_ :: _))
    cases hd : isD (rd (bytesOf s) (i : Int)) with
    | true =>
      rw [if_pos rfl, show ((i : Int) + 1) = ((i + 1 : Nat) : Int) by omega, ih (i + 1) k (by omega) (by omega)]
      simp only [allD, List.all_cons, hd, Bool.true_and]
    | false =>
      rw [if_neg (by simp)]
      simp only [allD, List.all_cons, hd, Bool.false_and]
theorem All_Digit (s : ByteArray) (hs : s.size ≤ 140737488351232) {k : Nat} (hk : s.size < k) : chars_All_chars_Digit.f k s = some (allD (bytesOf s)) := by
  unfold chars_All_chars_Digit.f
  exact All_Digit_eq s hs s.size 0 k (by omega) hk
theorem digits_eq (s : ByteArray) (hs : s.size ≤ 140737488351232) (M : Int) (hM : 9 ≤ M ∧ M ≤ 9223372036854775808) (d : Nat) : ∀ (i k : Nat) (v : Int), i + d = s.size → d < k → allD ((bytesOf s).drop i) = true → 0 ≤ v → v ≤ M →
    num_digits.l0 k s M v (s.size : Int) (i : Int) = some (if dv v ((bytesOf s).drop i) > M then (0, 5) else (dv v ((bytesOf s).drop i), 0)) := by
  induction d with
  | zero =>
    intro i k v hi hk ha h0 h1
    obtain ⟨k, rfl⟩ : ∃ m, k = m + 1 := ⟨k - 1, by omega⟩
    simp only [num_digits.l0]
    rw [if_neg (by omega), List.drop_of_length_le (by rw [bytesOf_length]; omega)]
    show _ = some (if v > M then _ else (v, 0))
    rw [if_neg (by omega)]
  | succ d ih =>
    intro i k v hi hk ha h0 h1
    obtain ⟨k, rfl⟩ : ∃ m, k = m + 1 := ⟨k - 1, by omega⟩
    rw [drop_rd (by rw [bytesOf_length]; omega)] at ha ⊢
    simp only [allD, List.all_cons, Bool.and_eq_true] at ha
    have hc := isD_iff.1 ha.1
    simp only [num_digits.l0]
    rw [if_pos (by omega), if_pos (by omega), if_pos (by omega), bt_rd]
    have e1 : (rd (bytesOf s) (i : Int) - 48) % 256 = rd (bytesOf s) (i : Int) - 48 := by omega
    rw [e1, wu64 (x := M - (rd (bytesOf s) (i : Int) - 48)) (by omega), Int.tdiv_eq_ediv_of_nonneg (by omega), wu64 (x := (M - (rd (bytesOf s) (i : Int) - 48)) / 10) (by omega)]
    show _ = some (if dv (10 * v + (rd (bytesOf s) (i : Int) - 48)) ((bytesOf s).drop (i + 1)) > M then (0, 5) else (dv (10 * v + (rd (bytesOf s) (i : Int) - 48)) ((bytesOf s).drop (i + 1)), 0))
    by_cases c : v > (M - (rd (bytesOf s) (i : Int) - 48)) / 10
    · rw [if_pos c, if_pos]
      have := dv_ge ((bytesOf s).drop (i + 1)) (10 * v + (rd (bytesOf s) (i : Int) - 48)) ha.2 (by omega)
      omega
    · rw [if_neg c, wu64 (x := v * 10) (by omega), wu64 (x := v * 10 + (rd (bytesOf s) (i : Int) - 48)) (by omega), w64 (by omega), show ((i : Int) + 1) = ((i + 1 : Nat) : Int) by omega, show v * 10 + (rd (bytesOf s) (i : Int) - 48) = 10 * v + (rd (bytesOf s) (i : Int) - 48) by omega]
      exact ih (i + 1) k _ (by omega) (by omega) ha.2 (by omega) (by omega)
theorem digits_f (s : ByteArray) (hs : s.size ≤ 140737488351232) {M : Int} (hM : 9 ≤ M ∧ M ≤ 9223372036854775808) {k : Nat} (hk : s.size < k) (ha : allD (bytesOf s) = true) :
    num_digits.f k s M = some (if dv 0 (bytesOf s) > M then (0, 5) else (dv 0 (bytesOf s), 0)) := by
  unfold num_digits.f
  exact digits_eq s hs M hM s.size 0 k 0 (by omega) hk ha (by omega) (by omega)
/-- Is a text of digits wrong? -/
def badD (l : List Int) : Bool := l.isEmpty || !allD l || (decide (1 < l.length) && rd l 0 == 48)
def maxP : Bool → Int
  | true => 9223372036854775808
  | false => 9223372036854775807
/-- What digits, behind a minus or without, are. -/
def parseD (m : Bool) (l : List Int) : Int × Int := if badD l = true then (0, 3) else if dv 0 l > maxP m then (0, 5) else (if m = true then -dv 0 l else dv 0 l, 0)
/-- Which number a text is. -/
def parseN (l : List Int) : Int × Int := if l ≠ [] ∧ rd l 0 = 45 then parseD true (l.drop 1) else parseD false l
-- the reference's numbers
theorem RDigit_eq {c : Int} (h : 0 ≤ c ∧ c ≤ 255) : larumref01_Digit.f c = some (isD c) := by
  unfold larumref01_Digit.f larumref01_is.f isD
  rw [w64 (by omega)]
  by_cases h : c ≥ 48
  · rw [if_pos h]; simp only [Option.bind_some]; congr 1; exact decide_eq_decide.2 (by omega)
  · rw [if_neg h]; simp only [Option.bind_some]; congr 1; symm; exact decide_eq_false (by omega)
theorem Rall_eq (s : ByteArray) (hs : s.size ≤ 140737488351232) (d : Nat) : ∀ (i k : Nat), i + d = s.size → d < k → larumref03_all.l0 k s (i : Int) = some (allD ((bytesOf s).drop i) && !(bytesOf s).isEmpty) := by
  have he : (s.toList != ([] : List UInt8)) = !(bytesOf s).isEmpty := by
    rw [tl]; unfold bytesOf; cases s.data.toList <;> rfl
  induction d with
  | zero =>
    intro i k hi hk
    obtain ⟨k, rfl⟩ : ∃ m, k = m + 1 := ⟨k - 1, by omega⟩
    simp only [larumref03_all.l0]
    rw [if_neg (by omega), List.drop_of_length_le (by rw [bytesOf_length]; omega), he]
    rfl
  | succ d ih =>
    intro i k hi hk
    obtain ⟨k, rfl⟩ : ∃ m, k = m + 1 := ⟨k - 1, by omega⟩
    simp only [larumref03_all.l0]
    rw [if_pos (by omega), if_pos (by omega), bt_rd, RDigit_eq ((bts_byt s).rd _), drop_rd (by rw [bytesOf_length]; omega), w64 (by omega)]
    simp only [Option.bind_some]
    cases hd : isD (rd (bytesOf s) (i : Int)) with
    | true =>
      rw [if_pos rfl, show ((i : Int) + 1) = ((i + 1 : Nat) : Int) by omega, ih (i + 1) k (by omega) (by omega)]
      simp only [allD, List.all_cons, hd, Bool.true_and]
    | false =>
      rw [if_neg (by simp)]
      simp only [allD, List.all_cons, hd, Bool.false_and]
theorem Rall (s : ByteArray) (hs : s.size ≤ 140737488351232) {k : Nat} (hk : s.size < k) : larumref03_all.f k s = some (allD (bytesOf s) && !(bytesOf s).isEmpty) := by
  unfold larumref03_all.f
  exact Rall_eq s hs s.size 0 k (by omega) hk
def stripL : List Int → List Int
  | [] => []
  | [c] => [c]
  | c :: d :: l => if c = 48 then stripL (d :: l) else c :: d :: l
theorem strip_eq (d : Nat) : ∀ (s : ByteArray) (k : Nat), s.size ≤ 140737488351232 → s.size = d → d < k → ∃ t, larumref03_strip.l0 k s = some t ∧ bytesOf t = stripL (bytesOf s) ∧ t.size ≤ s.size := by
  induction d with
  | zero =>
    intro s k hs hd hk
    obtain ⟨k, rfl⟩ : ∃ m, k = m + 1 := ⟨k - 1, by omega⟩
    have hn : bytesOf s = [] := List.eq_nil_of_length_eq_zero (by rw [bytesOf_length]; exact hd)
    refine ⟨s, ?_, by rw [hn]; rfl, Nat.le_refl _⟩
    simp only [larumref03_strip.l0]
    rw [if_neg (by omega)]
  | succ d ih =>
    intro s k hs hd hk
    obtain ⟨k, rfl⟩ : ∃ m, k = m + 1 := ⟨k - 1, by omega⟩
    have hl := bytesOf_length s
    simp only [larumref03_strip.l0]
    rcases hb : bytesOf s with _ | ⟨c, _ | ⟨e, l⟩⟩
    · rw [hb] at hl; simp at hl; omega
    · rw [hb] at hl
      simp at hl
      exact ⟨s, by rw [if_neg (by omega)], hb, Nat.le_refl _⟩
    · rw [hb] at hl
      simp at hl
      rw [if_pos (by omega), if_pos (by omega), bt_rd, hb, rd_cons_zero]
      by_cases hc : c = 48
      · rw [if_pos hc, if_pos (by omega)]
        obtain ⟨t, h1, h2, h3⟩ := ih (s.extract 1 s.size) k (by simp; omega) (by simp; omega) (by omega)
        refine ⟨t, h1, ?_, by simp at h3; omega⟩
        rw [h2, bts_extract_to, hb]
        simp only [List.drop_succ_cons, List.drop_zero]
        conv => rhs; unfold stripL
        rw [if_pos hc]
      · rw [if_neg hc]
        refine ⟨s, rfl, ?_, Nat.le_refl _⟩
        rw [hb]; unfold stripL; rw [if_neg hc]
theorem allD_stripL : ∀ l, allD l = true → allD (stripL l) = true
  | [], h => h
  | [_], h => h
  | c :: d :: l, h => by
    unfold stripL
    split
    · exact allD_stripL (d :: l) (by simp only [allD, List.all_cons, Bool.and_eq_true] at h ⊢; exact h.2)
    · exact h
theorem dv_stripL : ∀ l, dv 0 (stripL l) = dv 0 l
  | [] => rfl
  | [_] => rfl
  | c :: d :: l => by
    unfold stripL
    split
    · rename_i h
      rw [dv_stripL (d :: l), h]; rfl
    · rfl
theorem stripL_ne : ∀ l, l ≠ [] → stripL l ≠ []
  | [], h => absurd rfl h
  | [_], h => h
  | c :: d :: l, h => by
    unfold stripL
    split
    · exact stripL_ne (d :: l) (by simp)
    · simp
theorem stripL_head : ∀ l, 1 < (stripL l).length → rd (stripL l) 0 ≠ 48
  | [], h => by simp [stripL] at h
  | [_], h => by simp [stripL] at h
  | c :: d :: l, h => by
    unfold stripL at h ⊢
    split
    · rename_i hc
      rw [if_pos hc] at h
      exact stripL_head (d :: l) h
    · rename_i hc; exact hc
theorem stripL_self {l : List Int} (h : (decide (1 < l.length) && rd l 0 == 48) = false) : stripL l = l := by
  rcases l with _ | ⟨c, _ | ⟨d, l⟩⟩
  · rfl
  · rfl
  · unfold stripL
    rw [if_neg]
    intro hc
    rw [rd_cons_zero, hc] at h
    simp at h
def lexL : List Int → List Int → Bool
  | [], [] => false
  | [], _ :: _ => true
  | _ :: _, [] => false
  | x :: a, y :: b => decide (x < y) || (x == y && lexL a b)
theorem lex_map : ∀ a b : List UInt8, Op.bytesLess a b = lexL (a.map fun x => (x.toNat : Int)) (b.map fun x => (x.toNat : Int))
  | [], [] => by simp [Op.bytesLess, lexL]
  | [], _ :: _ => by simp [Op.bytesLess, lexL]
  | _ :: _, [] => by simp [Op.bytesLess, lexL]
  | x :: a, y :: b => by
    simp only [Op.bytesLess, lexL, List.map_cons]
    rw [lex_map a b]
    congr 1
    · exact decide_eq_decide.2 (by rw [UInt8.lt_iff_toNat_lt]; omega)
    · congr 1
      rw [Bool.eq_iff_iff]
      simp only [beq_iff_eq]
      exact ⟨fun h => by rw [h], fun h => UInt8.toNat_inj.1 (by omega)⟩
theorem lex_bts (s t : ByteArray) : Op.bytesLess s.toList t.toList = lexL (bytesOf s) (bytesOf t) := by
  rw [tl, tl, lex_map]; rfl
theorem dv_split : ∀ (l : List Int) (v : Int), dv v l = v * 10 ^ l.length + dv 0 l
  | [], v => by simp [dv]
  | c :: l, v => by
    show dv (10 * v + (c - 48)) l = v * 10 ^ (l.length + 1) + dv (10 * 0 + (c - 48)) l
    rw [dv_split l (10 * v + (c - 48)), dv_split l (10 * 0 + (c - 48)), Int.pow_succ]
    have e1 : (10 * v + (c - 48)) * 10 ^ l.length = v * (10 ^ l.length * 10) + (c - 48) * 10 ^ l.length := by
      rw [Int.add_mul]; congr 1
      rw [Int.mul_comm 10 v, Int.mul_assoc, Int.mul_comm 10 (10 ^ l.length)]
    have e2 : (10 * 0 + (c - 48)) * 10 ^ l.length = (c - 48) * 10 ^ l.length := by simp
    omega
theorem pow_pos10 (n : Nat) : (0 : Int) < 10 ^ n := Int.pow_pos (by decide)
theorem dv_lt : ∀ l : List Int, allD l = true → dv 0 l < 10 ^ l.length
  | [], _ => by simp [dv]
  | c :: l, h => by
    simp only [allD, List.all_cons, Bool.and_eq_true] at h
    have hc := isD_iff.1 h.1
    have ih := dv_lt l h.2
    have hp := pow_pos10 l.length
    show dv (10 * 0 + (c - 48)) l < 10 ^ (l.length + 1)
    rw [dv_split, Int.pow_succ]
    have := Int.mul_le_mul_of_nonneg_right (show c - 48 ≤ 9 by omega) (Int.le_of_lt hp)
    have e2 : (10 * 0 + (c - 48)) * 10 ^ l.length = (c - 48) * 10 ^ l.length := by simp
    omega
theorem dv_cons (c : Int) (l : List Int) : dv 0 (c :: l) = (c - 48) * 10 ^ l.length + dv 0 l := by
  show dv (10 * 0 + (c - 48)) l = _
  rw [dv_split]; simp
theorem lex_dv : ∀ a b : List Int, a.length = b.length → allD a = true → allD b = true → lexL a b = decide (dv 0 a < dv 0 b)
  | [], [], _, _, _ => by simp [lexL, dv]
  | [], _ :: _, h, _, _ => by simp at h
  | _ :: _, [], h, _, _ => by simp at h
  | x :: a, y :: b, h, ha, hb => by
    simp only [allD, List.all_cons, Bool.and_eq_true] at ha hb
    have hl : a.length = b.length := by simpa using h
    have ia := dv_lt a ha.2
    have ib := dv_lt b hb.2
    have ja := dv_ge a 0 ha.2 (by omega)
    have jb := dv_ge b 0 hb.2 (by omega)
    rw [hl] at ia
    have hp := pow_pos10 b.length
    simp only [lexL, lex_dv a b hl ha.2 hb.2, dv_cons, hl]
    rw [Bool.eq_iff_iff]
    simp only [Bool.or_eq_true, decide_eq_true_eq, Bool.and_eq_true, beq_iff_eq]
    constructor
    · rintro (h1 | ⟨rfl, h1⟩)
      · have e : (y - 48) * 10 ^ b.length = (x - 48) * 10 ^ b.length + (y - x) * 10 ^ b.length := by rw [← Int.add_mul]; congr 1; omega
        have := Int.mul_le_mul_of_nonneg_right (show 1 ≤ y - x by omega) (Int.le_of_lt hp)
        omega
      · omega
    · intro h1
      rcases Int.lt_trichotomy x y with h2 | h2 | h2
      · exact Or.inl h2
      · subst h2; exact Or.inr ⟨rfl, by omega⟩
      · exfalso
        have e : (x - 48) * 10 ^ b.length = (y - 48) * 10 ^ b.length + (x - y) * 10 ^ b.length := by rw [← Int.add_mul]; congr 1; omega
        have := Int.mul_le_mul_of_nonneg_right (show 1 ≤ x - y by omega) (Int.le_of_lt hp)
        omega
/-- A number with more digits is greater. -/
theorem longer {a b : List Int} (ha : allD a = true) (hb : allD b = true) (h1 : rd a 0 ≠ 48) (h : b.length < a.length) : dv 0 b < dv 0 a := by
  rcases a with _ | ⟨c, a⟩
  · simp at h
  · simp only [allD, List.all_cons, Bool.and_eq_true] at ha
    have hc := isD_iff.1 ha.1
    rw [rd_cons_zero] at h1
    have ib := dv_lt b hb
    have ja := dv_ge a 0 ha.2 (by omega)
    rw [dv_cons]
    have hp := pow_pos10 a.length
    have hle : (10 : Int) ^ b.length ≤ 10 ^ a.length := by have := Nat.pow_le_pow_right (show 0 < 10 by decide) (show b.length ≤ a.length by simp at h; omega); exact_mod_cast this
    have := Int.mul_le_mul_of_nonneg_right (show 1 ≤ c - 48 by omega) (Int.le_of_lt hp)
    omega
theorem above_eq (a b : ByteArray) (ha : a.size ≤ 140737488351232) (hb : b.size ≤ 140737488351232) (da : allD (bytesOf a) = true) (db : allD (bytesOf b) = true) (na : bytesOf a ≠ []) (nb : bytesOf b ≠ []) {k : Nat} (hk : a.size < k) (hk' : b.size < k) :
    larumref03_above.f k a b = some (decide (dv 0 (bytesOf a) > dv 0 (bytesOf b))) := by
  obtain ⟨x, x1, x2, _⟩ := strip_eq a.size a k ha rfl hk
  obtain ⟨y, y1, y2, _⟩ := strip_eq b.size b k hb rfl hk'
  unfold larumref03_above.f larumref03_strip.f
  rw [x1, y1]
  simp only [Option.bind_some]
  have dx := allD_stripL _ da
  have dy := allD_stripL _ db
  have nx := stripL_ne _ na
  have ny := stripL_ne _ nb
  have ex := dv_stripL (bytesOf a)
  have ey := dv_stripL (bytesOf b)
  have hx := stripL_head (bytesOf a)
  have hy := stripL_head (bytesOf b)
  rw [← x2] at dx nx ex hx
  rw [← y2] at dy ny ey hy
  rw [← ex, ← ey]
  have lx := bytesOf_length x
  have ly := bytesOf_length y
  have px : 0 < (bytesOf x).length := by cases h : bytesOf x with | nil => exact absurd h nx | cons => simp
  have py : 0 < (bytesOf y).length := by cases h : bytesOf y with | nil => exact absurd h ny | cons => simp
  by_cases h : (x.size : Int) = (y.size : Int)
  · rw [if_pos h, lex_bts, lex_dv _ _ (by omega) dy dx]
  · rw [if_neg h]
    congr 1
    apply decide_eq_decide.2
    constructor
    · intro h1; exact longer dx dy (hx (by omega)) (by omega)
    · intro h1
      apply Int.lt_of_not_ge
      intro h2
      have := longer dy dx (hy (by omega)) (by omega)
      omega
def sg : Bool → Int → Int
  | true, v => -v
  | false, v => v
theorem RParse_l0 (s : ByteArray) (hs : s.size ≤ 140737488351232) (m : Bool) (d : Nat) : ∀ (i k : Nat) (v : Int), i + d = s.size → d < k → allD ((bytesOf s).drop i) = true → 0 ≤ v → dv v ((bytesOf s).drop i) ≤ maxP m →
    larumref03_Parse.l0 k m s (sg m v) (i : Int) = some (sg m (dv v ((bytesOf s).drop i)), 0) := by
  induction d with
  | zero =>
    intro i k v hi hk ha h0 h1
    obtain ⟨k, rfl⟩ : ∃ q, k = q + 1 := ⟨k - 1, by omega⟩
    simp only [larumref03_Parse.l0]
    rw [if_neg (by omega), List.drop_of_length_le (by rw [bytesOf_length]; omega)]
    rfl
  | succ d ih =>
    intro i k v hi hk ha h0 h1
    obtain ⟨k, rfl⟩ : ∃ q, k = q + 1 := ⟨k - 1, by omega⟩
    rw [drop_rd (by rw [bytesOf_length]; omega)] at ha h1 ⊢
    simp only [allD, List.all_cons, Bool.and_eq_true] at ha
    have hc := isD_iff.1 ha.1
    have hge := dv_ge ((bytesOf s).drop (i + 1)) (10 * v + (rd (bytesOf s) (i : Int) - 48)) ha.2 (by omega)
    have h1' : dv (10 * v + (rd (bytesOf s) (i : Int) - 48)) ((bytesOf s).drop (i + 1)) ≤ maxP m := h1
    have := ih (i + 1) k _ (by omega) (by omega) ha.2 (by omega) h1'
    simp only [larumref03_Parse.l0]
    rw [if_pos (by omega), bt_rd, show (rd (bytesOf s) (i : Int) - 48) % 256 = rd (bytesOf s) (i : Int) - 48 by omega, w64 (x := (i : Int) + 1) (by omega)]
    cases m with
    | true =>
      simp only [maxP] at h1'
      rw [if_pos rfl, if_pos (by omega)]
      simp only [sg] at this ⊢
      rw [w64 (x := 10 * -v) (by omega), w64 (by omega), show 10 * -v - (rd (bytesOf s) (i : Int) - 48) = -(10 * v + (rd (bytesOf s) (i : Int) - 48)) by omega]
      exact this
    | false =>
      simp only [maxP] at h1'
      rw [if_neg (by simp), if_pos (by omega)]
      simp only [sg] at this ⊢
      rw [w64 (x := 10 * v) (by omega), w64 (by omega)]
      exact this
theorem RParse_j1 (s : ByteArray) (hs : s.size ≤ 140737488351232) (m : Bool) {k : Nat} (hk : s.size + 30 < k) : larumref03_Parse.j1 k m s = some (parseD m (bytesOf s)) := by
  obtain ⟨k, rfl⟩ : ∃ q, k = q + 3 := ⟨k - 3, by omega⟩
  have j2t : larumref03_Parse.j2 (k + 2) m s true = some (0, 3) := by simp only [larumref03_Parse.j2]; rw [if_pos trivial]
  have j2f : allD (bytesOf s) = true → bytesOf s ≠ [] → larumref03_Parse.j2 (k + 2) m s false = some (if dv 0 (bytesOf s) > maxP m then (0, 5) else (if m = true then -dv 0 (bytesOf s) else dv 0 (bytesOf s), 0)) := by
    intro ha hn
    have j3 : larumref03_Parse.j3 (k + 1) m s (decide (dv 0 (bytesOf s) > maxP m)) = some (if dv 0 (bytesOf s) > maxP m then (0, 5) else (if m = true then -dv 0 (bytesOf s) else dv 0 (bytesOf s), 0)) := by
      simp only [larumref03_Parse.j3]
      by_cases c : dv 0 (bytesOf s) > maxP m
      · rw [if_pos (decide_eq_true c), if_pos c]
      · rw [if_neg (by rw [decide_eq_false c]; simp), if_neg c]
        have := RParse_l0 s hs m s.size 0 k 0 (by omega) (by omega) ha (by omega) (by exact Int.not_lt.1 c)
        rw [show sg m 0 = 0 by cases m <;> rfl] at this
        rw [show ((0 : Nat) : Int) = 0 from rfl] at this
        rw [this, List.drop_zero]
        cases m <;> rfl
    simp only [larumref03_Parse.j2]
    rw [if_neg (by simp)]
    cases m with
    | true =>
      rw [if_pos rfl, above_eq s _ hs (by decide) ha (by decide +kernel) hn (by decide +kernel) (by omega) (by rw [show ByteArray.size _ = 19 from rfl]; omega)]
      simp only [Option.bind_some]
      rw [show dv 0 (bytesOf (⟨#[57, 50, 50, 51, 51, 55, 50, 48, 51, 54, 56, 53, 52, 55, 55, 53, 56, 48, 56]⟩ : ByteArray)) = maxP true by decide +kernel]
      exact j3
    | false =>
      rw [if_neg (by simp), above_eq s _ hs (by decide) ha (by decide +kernel) hn (by decide +kernel) (by omega) (by rw [show ByteArray.size _ = 19 from rfl]; omega)]
      simp only [Option.bind_some]
      rw [show dv 0 (bytesOf (⟨#[57, 50, 50, 51, 51, 55, 50, 48, 51, 54, 56, 53, 52, 55, 55, 53, 56, 48, 55]⟩ : ByteArray)) = maxP false by decide +kernel, ← j3]
      cases hd : decide (dv 0 (bytesOf s) > maxP false) <;> simp
  unfold parseD badD
  simp only [larumref03_Parse.j1]
  rw [Rall s hs (by omega)]
  simp only [Option.bind_some]
  cases he : (bytesOf s).isEmpty with
  | true =>
    rw [if_neg (by simp), j2t]; simp
  | false =>
    have hne : bytesOf s ≠ [] := fun h => by rw [h] at he; simp at he
    cases ha : allD (bytesOf s) with
    | false => rw [if_neg (by simp), j2t]; simp
    | true =>
      rw [if_pos (by simp)]
      simp only [Bool.not_true, Bool.false_or]
      by_cases c1 : (s.size : Int) > 1
      · rw [if_pos c1, if_pos (by omega), bt_rd]
        have e : decide (1 < (bytesOf s).length) = true := decide_eq_true (by rw [bytesOf_length]; omega)
        rw [e, Bool.true_and]
        cases hz : rd (bytesOf s) 0 == 48 with
        | true => rw [j2t]; rfl
        | false => rw [j2f ha hne]; simp
      · rw [if_neg c1]
        have e : decide (1 < (bytesOf s).length) = false := decide_eq_false (by rw [bytesOf_length]; omega)
        rw [e, Bool.false_and, j2f ha hne]; simp
theorem RParse_eq (s : ByteArray) (hs : s.size ≤ 140737488351232) {k : Nat} (hk : s.size + 31 < k) : larumref03_Parse.f k s = some (parseN (bytesOf s)) := by
  obtain ⟨k, rfl⟩ : ∃ q, k = q + 1 := ⟨k - 1, by omega⟩
  unfold larumref03_Parse.f parseN
  by_cases c0 : s.toList = ([] : List UInt8)
  · have hn := (tl_nil s).1 c0
    rw [if_pos c0]
    simp only [larumref03_Parse.j0]
    rw [if_neg (by simp), RParse_j1 s hs false (by omega), hn]
    simp
  · have hne : bytesOf s ≠ [] := fun h => c0 ((tl_nil s).2 h)
    have hp : 0 < (bytesOf s).length := by cases h : bytesOf s with | nil => exact absurd h hne | cons => simp
    have hl := bytesOf_length s
    rw [if_neg c0, if_pos (by omega), bt_rd]
    simp only [larumref03_Parse.j0]
    by_cases c1 : rd (bytesOf s) 0 = 45
    · have e : (rd (bytesOf s) 0 == 45) = true := by simp [c1]
      rw [if_pos e, if_pos (by omega), if_pos ⟨hne, c1⟩, e, RParse_j1 _ (by simp; omega) true (by simp; omega), bts_extract_to]
    · have e : (rd (bytesOf s) 0 == 45) = false := by simp [c1]
      rw [e, if_neg (by simp), if_neg (fun h => c1 h.2), RParse_j1 s hs false (by omega)]
-- a number's digits by a base
def dig (d : Int) : Int := if d < 10 then 48 + d else 87 + d
def digs (b v : Nat) : List Int := if h : v < b ∨ b < 2 then [dig v] else digs b (v / b) ++ [dig ((v % b : Nat) : Int)]
termination_by v
decreasing_by exact Nat.div_lt_self (by omega) (by omega)
theorem digs_lt {b v : Nat} (h : v < b) : digs b v = [dig v] := by rw [digs, dif_pos (Or.inl h)]
theorem digs_ge {b v : Nat} (h : b ≤ v) (hb : 2 ≤ b) : digs b v = digs b (v / b) ++ [dig ((v % b : Nat) : Int)] := by rw [digs, dif_neg (by omega)]
theorem digs_ne (b v : Nat) : digs b v ≠ [] := by
  rw [digs]
  split <;> simp
theorem hex_one : ∀ d : Fin 16, bytesOf ((⟨#[48, 49, 50, 51, 52, 53, 54, 55, 56, 57, 97, 98, 99, 100, 101, 102]⟩ : ByteArray).extract d.val (d.val + 1)) = [dig (d.val : Int)] := by decide +kernel
theorem hex_one' {d : Nat} (h : d < 16) : bytesOf ((⟨#[48, 49, 50, 51, 52, 53, 54, 55, 56, 57, 97, 98, 99, 100, 101, 102]⟩ : ByteArray).extract d (d + 1)) = [dig (d : Int)] := hex_one ⟨d, h⟩
theorem hex_size {d : Nat} (h : d < 16) : ((⟨#[48, 49, 50, 51, 52, 53, 54, 55, 56, 57, 97, 98, 99, 100, 101, 102]⟩ : ByteArray).extract d (d + 1)).size = 1 := by
  rw [bts_size, hex_one' h]; rfl
theorem based_eq {b : Nat} (hb : b = 10 ∨ b = 16) (f : Nat) : ∀ (v k : Nat) (acc : ByteArray), v < 2 ^ f → v < 18446744073709551616 → f + 3 ≤ k → acc.size + f ≤ 1000 →
    ∃ t, num_based.l0 k (v : Int) (b : Int) acc true = some t ∧ bytesOf t = digs b v ++ bytesOf acc ∧ t.size ≤ acc.size + f + 1 := by
  have hb2 : 2 ≤ b ∧ b ≤ 16 := by omega
  induction f with
  | zero =>
    intro v k acc hv hv' hk ha
    obtain ⟨k, rfl⟩ : ∃ m, k = m + 2 := ⟨k - 2, by omega⟩
    obtain rfl : v = 0 := by simp at hv; exact hv
    have hm : Int.tmod ((0 : Nat) : Int) (b : Int) = 0 := by simp
    have hd : Int.tdiv ((0 : Nat) : Int) (b : Int) = 0 := by simp
    have hz : IntKind.u64.wrap 0 = 0 := wu64 (by omega)
    have ho : IntKind.u64.wrap (0 + 1) = 1 := wu64 (by omega)
    have hs := hex_size (d := 0) (by omega)
    simp only [num_based.l0]
    rw [if_pos trivial, if_neg (by omega), hm, hd, hz, ho, if_pos (by omega), if_pos (by omega), if_pos (by omega), if_pos (by rw [show ((0 : Int)).toNat = 0 from rfl, show ((1 : Int)).toNat = 0 + 1 from rfl, hs]; omega)]
    refine ⟨_, by rw [if_neg (by simp)], ?_, ?_⟩
    · rw [bts_append, show ((0 : Int)).toNat = 0 from rfl, show ((1 : Int)).toNat = 0 + 1 from rfl, hex_one' (by omega), digs_lt (by omega)]
    · rw [bts_size, bts_append, show ((0 : Int)).toNat = 0 from rfl, show ((1 : Int)).toNat = 0 + 1 from rfl, hex_one' (by omega), List.length_append, bytesOf_length]; simp; omega
  | succ f ih =>
    intro v k acc hv hv' hk ha
    obtain ⟨k, rfl⟩ : ∃ m, k = m + 1 := ⟨k - 1, by omega⟩
    have hm : Int.tmod (v : Int) (b : Int) = ((v % b : Nat) : Int) := by rw [Int.tmod_eq_emod_of_nonneg (by omega)]; simp
    have hd : Int.tdiv (v : Int) (b : Int) = ((v / b : Nat) : Int) := by rw [Int.tdiv_eq_ediv_of_nonneg (by omega)]; simp
    have hlt : v % b < 16 := by have := Nat.mod_lt v (show 0 < b by omega); omega
    have hle : v / b ≤ v := Nat.div_le_self v b
    have hs := hex_size hlt
    have e1 : IntKind.u64.wrap (((v % b : Nat) : Int) + 1) = ((v % b : Nat) : Int) + 1 := wu64 (by omega)
    have e2 : IntKind.u64.wrap ((v / b : Nat) : Int) = ((v / b : Nat) : Int) := wu64 ⟨Int.natCast_nonneg _, by have h_ := Nat.le_trans hle (show v ≤ 18446744073709551615 by omega); exact Int.ofNat_le.2 h_⟩
    have t1 : (((v % b : Nat) : Int)).toNat = v % b := by omega
    have t2 : (((v % b : Nat) : Int) + 1).toNat = v % b + 1 := by omega
    simp only [num_based.l0]
    rw [if_pos trivial, if_neg (by omega), hm, hd, e1, e2, t1, t2, if_pos (by omega), if_pos (by omega), if_pos (by omega), if_pos (by omega)]
    by_cases c : v < b
    · have hz : v / b = 0 := Nat.div_eq_of_lt c
      obtain ⟨k, rfl⟩ : ∃ m, k = m + 1 := ⟨k - 1, by omega⟩
      rw [hz]
      simp only [num_based.l0]
      refine ⟨_, by rw [if_neg (by simp)], ?_, ?_⟩
      · rw [bts_append, hex_one' hlt, digs_lt c, Nat.mod_eq_of_lt c]
      · rw [bts_size, bts_append, hex_one' hlt, List.length_append, bytesOf_length]; simp; omega
    · have hpos : 0 < v / b := Nat.div_pos (by omega) (by omega)
      have hhalf : v / b < 2 ^ f := by
        rw [Nat.pow_succ] at hv
        have : v / b ≤ v / 2 := Nat.div_le_div_left hb2.1 (by omega)
        omega
      have hdec : decide (((v / b : Nat) : Int) > 0) = true := decide_eq_true (by omega)
      rw [hdec]
      have hsz : ((⟨#[48, 49, 50, 51, 52, 53, 54, 55, 56, 57, 97, 98, 99, 100, 101, 102]⟩ : ByteArray).extract (v % b) (v % b + 1) ++ acc).size = 1 + acc.size := by
        rw [bts_size, bts_append, hex_one' hlt, List.length_append, bytesOf_length]; simp
      obtain ⟨t, h1, h2, h3⟩ := ih (v / b) k ((⟨#[48, 49, 50, 51, 52, 53, 54, 55, 56, 57, 97, 98, 99, 100, 101, 102]⟩ : ByteArray).extract (v % b) (v % b + 1) ++ acc) hhalf (by omega) (by omega) (by omega)
      refine ⟨t, h1, ?_, by rw [hsz] at h3; clear hd e2 hpos hhalf hdec h1 h2 hle; omega⟩
      rw [h2, bts_append, hex_one' hlt, digs_ge (v := v) (by omega) hb2.1, List.append_assoc]
theorem based_f {b : Nat} (hb : b = 10 ∨ b = 16) (v : Nat) (hv : v < 18446744073709551616) {k : Nat} (hk : 67 ≤ k) : ∃ t, num_based.f k (v : Int) (b : Int) = some t ∧ bytesOf t = digs b v ∧ t.size ≤ 65 := by
  obtain ⟨t, h1, h2, h3⟩ := based_eq hb 64 v k ⟨#[]⟩ (by omega) hv hk (by decide)
  exact ⟨t, h1, by rw [h2]; simp [bytesOf], by rw [show ByteArray.size (⟨#[]⟩ : ByteArray) = 0 from rfl] at h3; omega⟩
theorem dv_snoc : ∀ (l : List Int) (v c : Int), dv v (l ++ [c]) = 10 * dv v l + (c - 48)
  | [], v, c => rfl
  | x :: l, v, c => dv_snoc l (10 * v + (x - 48)) c
theorem allD_append (a b : List Int) : allD (a ++ b) = (allD a && allD b) := by simp [allD]
theorem digs10_all (v : Nat) : allD (digs 10 v) = true ∧ dv 0 (digs 10 v) = v := by
  induction v using Nat.strongRecOn with
  | _ v ih =>
    by_cases c : v < 10
    · rw [digs_lt c]
      have e : dig (v : Int) = 48 + v := by unfold dig; rw [if_pos (by omega)]
      refine ⟨by simp [allD, isD, e]; omega, by rw [e]; show 10 * 0 + (48 + (v : Int) - 48) = v; omega⟩
    · rw [digs_ge (v := v) (by omega) (by omega)]
      obtain ⟨h1, h2⟩ := ih (v / 10) (Nat.div_lt_self (by omega) (by omega))
      have e : dig ((v % 10 : Nat) : Int) = 48 + ((v % 10 : Nat) : Int) := by unfold dig; rw [if_pos (by omega)]
      refine ⟨by rw [allD_append, h1, Bool.true_and]; show (isD _ && true) = true; rw [e, Bool.and_true]; exact isD_iff.2 (by omega), ?_⟩
      rw [dv_snoc, h2, e]; omega
theorem rd_append_zero {a : List Int} (h : a ≠ []) (b : List Int) : rd (a ++ b) 0 = rd a 0 := by
  cases a with
  | nil => exact absurd rfl h
  | cons x a => rfl
theorem digs_head {b : Nat} (hb : b = 10 ∨ b = 16) (v : Nat) (hv : 0 < v) : rd (digs b v) 0 ≠ 48 ∧ rd (digs b v) 0 ≠ 45 := by
  induction v using Nat.strongRecOn with
  | _ v ih =>
    by_cases c : v < b
    · rw [digs_lt c, rd_cons_zero]
      unfold dig
      split <;> omega
    · rw [digs_ge (v := v) (by omega) (by omega), rd_append_zero (digs_ne _ _)]
      exact ih (v / b) (Nat.div_lt_self (by omega) (by omega)) (Nat.div_pos (by omega) (by omega))
theorem digs_head0 {b : Nat} (hb : b = 10 ∨ b = 16) (v : Nat) : rd (digs b v) 0 ≠ 45 := by
  by_cases h : 0 < v
  · exact (digs_head hb v h).2
  · obtain rfl : v = 0 := by omega
    rw [digs_lt (by omega)]
    show dig ((0 : Nat) : Int) ≠ 45
    decide
theorem bad_digs (v : Nat) : badD (digs 10 v) = false := by
  unfold badD
  have hne : (digs 10 v).isEmpty = false := by cases h : digs 10 v with | nil => exact absurd h (digs_ne 10 v) | cons => rfl
  rw [hne, (digs10_all v).1]
  simp only [Bool.not_true, Bool.false_or, Bool.and_eq_false_iff, decide_eq_false_iff_not, beq_eq_false_iff_ne]
  by_cases c : v < 10
  · left; rw [digs_lt c]; simp
  · right; exact (digs_head (Or.inl rfl) v (by omega)).1
/-- A number as text. -/
def printN (n : Int) : List Int := if n < 0 then 45 :: digs 10 (-n).toNat else digs 10 n.toNat
theorem Print_eq {n : Int} (h : -9223372036854775808 ≤ n ∧ n ≤ 9223372036854775807) {k : Nat} (hk : 67 ≤ k) : ∃ t, num_Print.f k n = some t ∧ bytesOf t = printN n ∧ t.size ≤ 66 := by
  unfold num_Print.f printN
  by_cases c : n < 0
  · rw [if_pos c, if_pos c]
    have e : IntKind.u64.wrap (-(IntKind.u64.wrap n)) = ((-n).toNat : Int) := by rw [u64w, u64w]; omega
    obtain ⟨t, h1, h2, h3⟩ := based_f (b := 10) (Or.inl rfl) (-n).toNat (by omega) hk
    rw [e, show (10 : Int) = ((10 : Nat) : Int) from rfl, h1]
    simp only [Option.bind_some]
    rw [if_pos (by omega)]
    exact ⟨_, rfl, by rw [bts_append, h2]; rfl, by rw [bts_size, bts_append, List.length_append, bytesOf_length t]; simp [bytesOf]; omega⟩
  · rw [if_neg c, if_neg c]
    have e : IntKind.u64.wrap n = (n.toNat : Int) := by rw [u64w]; omega
    obtain ⟨t, h1, h2, h3⟩ := based_f (b := 10) (Or.inl rfl) n.toNat (by omega) hk
    rw [e, show (10 : Int) = ((10 : Nat) : Int) from rfl, h1]
    exact ⟨t, rfl, h2, by omega⟩
theorem parse_print {n : Int} (h : -9223372036854775808 ≤ n ∧ n ≤ 9223372036854775807) : parseN (printN n) = (n, 0) := by
  unfold parseN printN
  by_cases c : n < 0
  · rw [if_pos c, if_pos ⟨by simp, rfl⟩]
    simp only [List.drop_succ_cons, List.drop_zero]
    unfold parseD
    rw [bad_digs, if_neg (by simp), (digs10_all _).2, if_neg (by simp only [maxP]; omega), if_pos rfl]
    congr 1; omega
  · rw [if_neg c, if_neg (fun h => digs_head0 (Or.inl rfl) _ h.2)]
    unfold parseD
    rw [bad_digs, if_neg (by simp), (digs10_all _).2, if_neg (by simp only [maxP]; omega), if_neg (by simp)]
    congr 1; omega
theorem one_dig : ∀ d : Fin 10, bytesOf (strOfNums [(wrap64 (48 + (d.val : Int))) % 256]) = [dig (d.val : Int)] := by decide +kernel
/-- The reference's text of what is not below nought. -/
theorem RPrint_pos (f : Nat) : ∀ (v k : Nat), v < 2 ^ f → f ≤ 100 → v < 9223372036854775808 → 2 * f + 4 ≤ k → ∃ t, larumref03_Print.f k (v : Int) = some t ∧ bytesOf t = digs 10 v ∧ t.size ≤ f + 1 := by
  have base : ∀ (v k : Nat), v < 10 → 2 ≤ k → ∃ t, larumref03_Print.f k (v : Int) = some t ∧ bytesOf t = digs 10 v ∧ t.size ≤ 1 := by
    intro v k hv hk
    obtain ⟨k, rfl⟩ : ∃ m, k = m + 2 := ⟨k - 2, by omega⟩
    have e := one_dig ⟨v, hv⟩
    simp only [larumref03_Print.f, larumref03_Print.j0]
    rw [if_pos (by omega), if_pos (decide_eq_true (by omega))]
    exact ⟨_, rfl, by rw [e, digs_lt hv], by rw [bts_size, e]; simp⟩
  induction f with
  | zero =>
    intro v k hv _ _ hk
    obtain ⟨t, h1, h2, h3⟩ := base v k (by simp at hv; omega) (by omega)
    exact ⟨t, h1, h2, by omega⟩
  | succ f ih =>
    intro v k hv hf hv' hk
    by_cases c : v < 10
    · obtain ⟨t, h1, h2, h3⟩ := base v k c (by omega)
      exact ⟨t, h1, h2, by omega⟩
    obtain ⟨k, rfl⟩ : ∃ m, k = m + 2 := ⟨k - 2, by omega⟩
    rw [Nat.pow_succ] at hv
    have hd : Int.tdiv (v : Int) 10 = ((v / 10 : Nat) : Int) := by rw [Int.tdiv_eq_ediv_of_nonneg (by omega)]; omega
    have hm : Int.tmod (v : Int) 10 = ((v % 10 : Nat) : Int) := by rw [Int.tmod_eq_emod_of_nonneg (by omega)]; omega
    obtain ⟨t, h1, h2, h3⟩ := ih (v / 10) k (by omega) (by omega) (by omega) (by omega)
    obtain ⟨u, g1, g2, g3⟩ := base (v % 10) k (Nat.mod_lt _ (by omega)) (by omega)
    have hl := bytesOf_length t
    have hl' := bytesOf_length u
    simp only [larumref03_Print.f, larumref03_Print.j0]
    rw [if_pos (by omega), if_neg (by rw [decide_eq_false (by omega)]; simp), if_pos (by omega), hd, hm, w64 (by omega), h1, g1]
    simp only [Option.bind_some]
    rw [if_pos (by omega)]
    exact ⟨_, rfl, by rw [bts_append, h2, g2, digs_ge (v := v) (by omega) (by omega), digs_lt (v := v % 10) (by omega)], by rw [bts_size, bts_append, List.length_append]; omega⟩
theorem RPrint_eq {n : Int} (h : -9223372036854775808 ≤ n ∧ n ≤ 9223372036854775807) {k : Nat} (hk : 200 ≤ k) : ∃ t, larumref03_Print.f k n = some t ∧ bytesOf t = printN n := by
  obtain ⟨k, rfl⟩ : ∃ m, k = m + 2 := ⟨k - 2, by omega⟩
  unfold printN
  by_cases c : n < 0
  · rw [if_pos c]
    have key : ∀ (f v k : Nat), v < 2 ^ f → f ≤ 90 → v ≤ 9223372036854775808 → 0 < v → 2 * f + 20 ≤ k → ∃ t, larumref03_Print.f k (-(v : Int)) = some t ∧ bytesOf t = 45 :: digs 10 v ∧ t.size ≤ f + 2 := by
      have base : ∀ (v k : Nat), v < 10 → 0 < v → 4 ≤ k → ∃ t, larumref03_Print.f k (-(v : Int)) = some t ∧ bytesOf t = 45 :: digs 10 v ∧ t.size ≤ 2 := by
        intro v k hv hv0 hk
        obtain ⟨k, rfl⟩ : ∃ m, k = m + 2 := ⟨k - 2, by omega⟩
        obtain ⟨t, h1, h2, h3⟩ := RPrint_pos 4 v (k + 20) (by omega) (by omega) (by omega) (by omega)
        obtain ⟨t, h1, h2⟩ : ∃ t, larumref03_Print.f k (v : Int) = some t ∧ bytesOf t = digs 10 v := by
          obtain ⟨k, rfl⟩ : ∃ m, k = m + 2 := ⟨k - 2, by omega⟩
          have e := one_dig ⟨v, hv⟩
          simp only [larumref03_Print.f, larumref03_Print.j0]
          rw [if_pos (by omega), if_pos (decide_eq_true (by omega))]
          exact ⟨_, rfl, by rw [e, digs_lt hv]⟩
        have hl := bytesOf_length t
        rw [h2, digs_lt hv] at hl
        simp only [List.length_cons, List.length_nil] at hl
        simp only [larumref03_Print.f, larumref03_Print.j0]
        rw [if_neg (by omega), if_neg (by simp), if_neg (by omega), if_pos (by omega), show -(-(v : Int)) = v by omega, w64 (by omega), h1]
        simp only [Option.bind_some]
        rw [if_pos (by omega)]
        exact ⟨_, rfl, by rw [bts_append, h2]; rfl, by rw [bts_size, bts_append, List.length_append, h2, digs_lt hv]; simp [bytesOf]⟩
      intro f
      induction f with
      | zero => intro v k hv _ _ h0 _; simp at hv; omega
      | succ f ih =>
        intro v k hv hf hv' h0 hk
        by_cases c : v < 10
        · obtain ⟨t, h1, h2, h3⟩ := base v k c h0 (by omega)
          exact ⟨t, h1, h2, by omega⟩
        obtain ⟨k, rfl⟩ : ∃ m, k = m + 2 := ⟨k - 2, by omega⟩
        rw [Nat.pow_succ] at hv
        have hd : Int.tdiv (-(v : Int)) 10 = -((v / 10 : Nat) : Int) := by rw [Int.neg_tdiv, Int.tdiv_eq_ediv_of_nonneg (by omega)]; omega
        have hm : -(Int.tmod (-(v : Int)) 10) = ((v % 10 : Nat) : Int) := by rw [Int.neg_tmod, Int.tmod_eq_emod_of_nonneg (by omega)]; omega
        obtain ⟨t, h1, h2, h3⟩ := ih (v / 10) k (by omega) (by omega) (by omega) (by omega) (by omega)
        obtain ⟨u, g1, g2, g3⟩ := RPrint_pos 4 (v % 10) k (by omega) (by omega) (by omega) (by omega)
        simp only [larumref03_Print.f, larumref03_Print.j0]
        rw [if_neg (by omega), if_neg (by simp), if_neg (by omega), if_neg (by omega), hd, hm, w64 (x := -((v / 10 : Nat) : Int)) (by omega), w64 (x := ((v % 10 : Nat) : Int)) (by omega), h1, g1]
        simp only [Option.bind_some]
        rw [if_pos (by omega)]
        have hu : (bytesOf u).length = 1 := by rw [g2, digs_lt (by omega)]; rfl
        have ht := bytesOf_length t
        refine ⟨_, rfl, ?_, ?_⟩
        · rw [bts_append, h2, g2, digs_ge (v := v) (by omega) (by omega), digs_lt (v := v % 10) (by omega)]; rfl
        · rw [bts_size, bts_append, List.length_append]; omega
    obtain ⟨t, h1, h2, _⟩ := key 64 (-n).toNat (k + 2) (by omega) (by omega) (by omega) (by omega) (by omega)
    rw [show -(((-n).toNat : Nat) : Int) = n by omega] at h1
    exact ⟨t, h1, h2⟩
  · rw [if_neg c]
    obtain ⟨t, h1, h2, _⟩ := RPrint_pos 63 n.toNat (k + 2) (by omega) (by omega) (by omega) (by omega)
    rw [show ((n.toNat : Nat) : Int) = n by omega] at h1
    exact ⟨t, h1, h2⟩
-- sizes
def sizeN (l : List Int) : Int × Int := if l = [] ∨ allD l = false then (0, 3) else if dv 0 l > 2147483647 then (0, 5) else (dv 0 l, 0)
theorem Size_eq (s : ByteArray) (hs : s.size ≤ 140737488351232) {k : Nat} (hk : s.size < k) : num_Size.f k s = some (sizeN (bytesOf s)) := by
  unfold num_Size.f
  by_cases c : s.toList = ([] : List UInt8)
  · rw [if_pos c, (tl_nil s).1 c]; rfl
  have hn : bytesOf s ≠ [] := fun h => c ((tl_nil s).2 h)
  rw [if_neg c, All_Digit s hs hk]
  simp only [Option.bind_some]
  cases ha : allD (bytesOf s) with
  | false => unfold sizeN; rw [ha]; simp
  | true =>
    have h0 := dv_ge (bytesOf s) 0 ha (by omega)
    rw [if_pos rfl, digits_f s hs (by omega) hk ha]
    simp only [Option.bind_some]
    unfold sizeN
    rw [ha]
    by_cases c1 : dv 0 (bytesOf s) > 2147483647
    · simp only [if_pos c1]
      rw [if_neg (by simp [hn]), w64 (by omega)]
    · simp only [if_neg c1]
      rw [if_neg (by simp [hn]), w64 (by omega)]
theorem parse_strip {l : List Int} (hn : l ≠ []) (ha : allD l = true) (hle : dv 0 l ≤ 2147483647) : parseN (stripL l) = (dv 0 l, 0) := by
  have d := allD_stripL l ha
  have n := stripL_ne l hn
  have h := stripL_head l
  have e := dv_stripL l
  have hb : badD (stripL l) = false := by
    unfold badD
    rw [d]
    have : (stripL l).isEmpty = false := by cases hh : stripL l with | nil => exact absurd hh n | cons => rfl
    rw [this]
    simp only [Bool.not_true, Bool.false_or, Bool.and_eq_false_iff, decide_eq_false_iff_not, beq_eq_false_iff_ne]
    by_cases c : 1 < (stripL l).length
    · exact Or.inr (h c)
    · exact Or.inl c
  have hm : ¬ (stripL l ≠ [] ∧ rd (stripL l) 0 = 45) := by
    rintro ⟨_, h45⟩
    cases hh : stripL l with
    | nil => exact n hh
    | cons x t =>
      rw [hh, rd_cons_zero] at h45
      rw [hh] at d
      simp only [allD, List.all_cons, Bool.and_eq_true] at d
      have := isD_iff.1 d.1
      omega
  unfold parseN
  rw [if_neg hm]
  unfold parseD
  rw [hb, if_neg (by simp), e, if_neg (by simp only [maxP]; omega), if_neg (by simp)]
theorem RSize_eq (s : ByteArray) (hs : s.size ≤ 140737488351232) {k : Nat} (hk : s.size + 50 < k) : larumref03_Size.f k s = some (sizeN (bytesOf s)) := by
  unfold larumref03_Size.f
  rw [Rall s hs (by omega)]
  simp only [Option.bind_some]
  unfold sizeN
  cases he : (bytesOf s).isEmpty with
  | true =>
    rw [if_neg (by simp), if_pos (Or.inl (List.isEmpty_iff.1 he))]
  | false =>
    have hn : bytesOf s ≠ [] := fun h => by rw [h] at he; simp at he
    cases ha : allD (bytesOf s) with
    | false => rw [if_neg (by simp), if_pos (by simp)]
    | true =>
      rw [if_pos (by simp), above_eq s _ hs (by decide) ha (by decide +kernel) hn (by decide +kernel) (by omega) (by rw [show ByteArray.size _ = 10 from rfl]; omega)]
      simp only [Option.bind_some]
      rw [show dv 0 (bytesOf (⟨#[50, 49, 52, 55, 52, 56, 51, 54, 52, 55]⟩ : ByteArray)) = 2147483647 by decide +kernel, if_neg (show ¬ (bytesOf s = [] ∨ true = false) by simp [hn])]
      by_cases c : dv 0 (bytesOf s) > 2147483647
      · rw [if_pos (decide_eq_true c), if_pos c]
      · rw [if_neg (by rw [decide_eq_false c]; simp), if_neg c]
        obtain ⟨t, t1, t2, t3⟩ := strip_eq s.size s k hs rfl (by omega)
        unfold larumref03_strip.f
        rw [t1]
        simp only [Option.bind_some]
        rw [RParse_eq t (by omega) (by omega), t2, parse_strip hn ha (by omega)]
        rfl
-- by sixteen
-- parts at a byte
def cutG (c : Int) : List Int → List Int → List (List Int)
  | w, [] => [w]
  | w, x :: t => if x = c then w :: cutG c [] t else cutG c (w ++ [x]) t
theorem RCut_l0 (s : ByteArray) (hs : s.size ≤ 1000000) (c : Int) : ∀ (f i : Nat) (L : List ByteArray) (w : ByteArray) (k : Nat), i + f = s.size → f + 1 ≤ k → L.length ≤ i → w.size ≤ i →
    ∃ R, larumref01_Cut.l0 k s c L w (i : Int) = some R ∧ R.map bytesOf = L.map bytesOf ++ cutG c (bytesOf w) ((bytesOf s).drop i) := by
  intro f
  induction f with
  | zero =>
    intro i L w k hi hk hL hw
    obtain ⟨k, rfl⟩ : ∃ j, k = j + 1 := ⟨k - 1, by omega⟩
    simp only [larumref01_Cut.l0]
    rw [if_neg (by omega), if_pos (by omega), List.drop_of_length_le (by rw [bytesOf_length]; omega)]
    exact ⟨_, rfl, by simp [cutG]⟩
  | succ f ih =>
    intro i L w k hi hk hL hw
    obtain ⟨k, rfl⟩ : ∃ j, k = j + 1 := ⟨k - 1, by omega⟩
    rw [drop_rd (by rw [bytesOf_length]; omega)]
    simp only [larumref01_Cut.l0]
    rw [if_pos (by omega), if_pos (by omega), bt_rd, w64 (by omega), show (i : Int) + 1 = ((i + 1 : Nat) : Int) by omega]
    by_cases h : rd (bytesOf s) (i : Int) = c
    · rw [if_pos h, if_pos (by omega)]
      obtain ⟨R, r1, r2⟩ := ih (i + 1) (L ++ [w]) ⟨#[]⟩ k (by omega) (by omega) (by simp; omega) (Nat.zero_le _)
      refine ⟨R, r1, ?_⟩
      rw [r2]
      have e0 : bytesOf (⟨#[]⟩ : ByteArray) = [] := rfl
      simp [cutG, h, e0]
    · have ex : bytesOf (s.extract (i : Int).toNat ((i + 1 : Nat) : Int).toNat) = [rd (bytesOf s) (i : Int)] := by
        have hl : i < (bytesOf s).length := by rw [bytesOf_length]; omega
        rw [show (i : Int).toNat = i by omega, show (((i + 1 : Nat) : Int)).toNat = i + 1 by omega, bts_extract, List.drop_take, drop_rd hl]
        simp
      have hz : (s.extract (i : Int).toNat ((i + 1 : Nat) : Int).toNat).size = 1 := by rw [bts_size, ex]; rfl
      rw [if_neg h, if_pos (by omega), if_pos (by omega), hz, if_pos (by omega)]
      obtain ⟨R, r1, r2⟩ := ih (i + 1) L (w ++ s.extract (i : Int).toNat ((i + 1 : Nat) : Int).toNat) k (by omega) (by omega) (by omega) (by rw [bts_size, bts_append, ex, List.length_append, bytesOf_length]; simp; omega)
      refine ⟨R, r1, ?_⟩
      rw [r2, bts_append, ex]
      simp [cutG, h]
theorem RCut_f (s : ByteArray) (hs : s.size ≤ 1000000) (c : Int) {k : Nat} (hk : s.size + 1 ≤ k) : ∃ R, larumref01_Cut.f k s c = some R ∧ R.map bytesOf = cutG c [] (bytesOf s) := by
  obtain ⟨R, r1, r2⟩ := RCut_l0 s hs c s.size 0 [] ⟨#[]⟩ k (by omega) hk (Nat.zero_le _) (Nat.le_refl _)
  exact ⟨R, r1, by rw [r2]; rfl⟩
theorem cutG_len (c : Int) : ∀ (l w : List Int), (cutG c w l).length ≤ l.length + 1
  | [], w => Nat.le_refl _
  | x :: l, w => by
    unfold cutG
    split
    · simpa using cutG_len c l []
    · have := cutG_len c l (w ++ [x]); simp at this ⊢; omega
theorem cutG_size (c : Int) : ∀ (l w : List Int) (p : List Int), p ∈ cutG c w l → p.length ≤ w.length + l.length
  | [], w, p, h => by simp [cutG] at h; subst h; exact Nat.le_refl _
  | x :: l, w, p, h => by
    unfold cutG at h
    split at h
    · rcases List.mem_cons.1 h with rfl | h
      · simp
      · have := cutG_size c l [] p h; simp at this ⊢; omega
    · have := cutG_size c l (w ++ [x]) p h; simp at this ⊢; omega
-- how many parts
-- cursors
def printC (p a : Int) : List Int := if p < 1 ∨ a < 0 then [] else 112 :: (printN p ++ 46 :: printN a)
def i64 (n : Int) : Prop := -9223372036854775808 ≤ n ∧ n ≤ 9223372036854775807
theorem CPrint_f {p a : Int} (hp : i64 p) (ha : i64 a) {k : Nat} (hk : 500 ≤ k) : ∃ t, page_Print.f k p a = some t ∧ bytesOf t = printC p a ∧ t.size ≤ 200 := by
  obtain ⟨k, rfl⟩ : ∃ m, k = m + 1 := ⟨k - 1, by omega⟩
  have jt : page_Print.j0 (k + 1) true p a = some ⟨#[]⟩ := by simp only [page_Print.j0, if_true]
  unfold page_Print.f printC
  by_cases h1 : p < 1
  · rw [if_pos h1, if_pos (.inl h1), jt]
    exact ⟨_, rfl, rfl, by decide⟩
  · rw [if_neg h1]
    by_cases h2 : a < 0
    · rw [decide_eq_true h2, if_pos (.inr h2), jt]
      exact ⟨_, rfl, rfl, by decide⟩
    · rw [decide_eq_false h2, if_neg (fun h => by rcases h with h | h <;> omega)]
      obtain ⟨x, x1, x2, x3⟩ := Print_eq hp (k := k) (by omega)
      obtain ⟨y, y1, y2, y3⟩ := Print_eq ha (k := k) (by omega)
      have q1 : bytesOf (⟨#[112]⟩ : ByteArray) = [112] := rfl
      have q2 : bytesOf (⟨#[46]⟩ : ByteArray) = [46] := rfl
      have z1 : ((⟨#[112]⟩ : ByteArray) ++ x).size = 1 + x.size := by rw [ByteArray.size_append]; rfl
      have z2 : (((⟨#[112]⟩ : ByteArray) ++ x) ++ (⟨#[46]⟩ : ByteArray)).size = 1 + x.size + 1 := by rw [ByteArray.size_append, z1]; rfl
      refine ⟨(((⟨#[112]⟩ : ByteArray) ++ x) ++ (⟨#[46]⟩ : ByteArray)) ++ y, ?_, ?_, ?_⟩
      · simp only [page_Print.j0]
        rw [if_neg (by simp), x1]
        simp only [Option.bind_some]
        rw [if_pos (by omega), if_pos (by omega), y1]
        simp only [Option.bind_some]
        rw [if_pos (by omega)]
      · rw [bts_append, bts_append, bts_append, q1, q2, x2, y2]; simp
      · rw [ByteArray.size_append, z2]; omega
theorem RCPrint_f {p a : Int} (hp : i64 p) (ha : i64 a) {k : Nat} (hk : 500 ≤ k) : ∃ t, larumref27_Print.f k p a = some t ∧ bytesOf t = printC p a := by
  obtain ⟨k, rfl⟩ : ∃ m, k = m + 1 := ⟨k - 1, by omega⟩
  have jt : larumref27_Print.j0 (k + 1) p a true = some ⟨#[]⟩ := by simp only [larumref27_Print.j0, if_true]
  unfold larumref27_Print.f printC
  by_cases h1 : p < 1
  · rw [if_pos h1, if_pos (.inl h1), jt]
    exact ⟨_, rfl, rfl⟩
  · rw [if_neg h1]
    by_cases h2 : a < 0
    · rw [decide_eq_true h2, if_pos (.inr h2), jt]
      exact ⟨_, rfl, rfl⟩
    · rw [decide_eq_false h2, if_neg (fun h => by rcases h with h | h <;> omega)]
      obtain ⟨x', x1', x2', x3⟩ := Print_eq hp (k := 500) (by omega)
      obtain ⟨y', y1', y2', y3⟩ := Print_eq ha (k := 500) (by omega)
      obtain ⟨x, x1, x2⟩ := RPrint_eq hp (k := k) (by omega)
      obtain ⟨y, y1, y2⟩ := RPrint_eq ha (k := k) (by omega)
      have ex : x = x' := ext_bts (x2.trans x2'.symm)
      have ey : y = y' := ext_bts (y2.trans y2'.symm)
      subst ex ey
      have q1 : bytesOf (⟨#[112]⟩ : ByteArray) = [112] := rfl
      have q2 : bytesOf (⟨#[46]⟩ : ByteArray) = [46] := rfl
      have z1 : ((⟨#[112]⟩ : ByteArray) ++ x).size = 1 + x.size := by rw [ByteArray.size_append]; rfl
      have z2 : (((⟨#[112]⟩ : ByteArray) ++ x) ++ (⟨#[46]⟩ : ByteArray)).size = 1 + x.size + 1 := by rw [ByteArray.size_append, z1]; rfl
      refine ⟨(((⟨#[112]⟩ : ByteArray) ++ x) ++ (⟨#[46]⟩ : ByteArray)) ++ y, ?_, ?_⟩
      · simp only [larumref27_Print.j0]
        rw [if_neg (by simp), x1]
        simp only [Option.bind_some]
        rw [if_pos (by omega), if_pos (by omega), y1]
        simp only [Option.bind_some]
        rw [if_pos (by omega)]
      · rw [bts_append, bts_append, bts_append, q1, q2, x2, y2]; simp
theorem sizeN_bd (l : List Int) : 0 ≤ (sizeN l).1 ∧ (sizeN l).1 ≤ 2147483647 := by
  unfold sizeN
  split
  · decide
  · rename_i h
    split
    · decide
    · have ha : allD l = true := by
        cases hh : allD l with
        | true => rfl
        | false => exact absurd (Or.inr hh) h
      have := dv_ge l 0 ha (by omega)
      exact ⟨by simp only; omega, by simp only; omega⟩
theorem sizeN_digs (v : Int) (h : 0 ≤ v ∧ v ≤ 2147483647) : sizeN (printN v) = (v, 0) := by
  have e : printN v = digs 10 v.toNat := by unfold printN; rw [if_neg (by omega)]
  obtain ⟨h1, h2⟩ := digs10_all v.toNat
  unfold sizeN
  rw [e, if_neg (fun h => by rcases h with h | h; exact digs_ne 10 v.toNat h; rw [h1] at h; cases h), h2, if_neg (by omega)]
  congr 1; omega
theorem allD_nb46 {l : List Int} (h : allD l = true) : l.all (fun x => x != 46) = true := by
  unfold allD at h
  rw [List.all_eq_true] at h ⊢
  intro x hx
  have := isD_iff.1 (h x hx)
  simp; omega
theorem printN_nb (v : Int) (h : 0 ≤ v) : (printN v).all (fun x => x != 46) = true := by
  have e : printN v = digs 10 v.toNat := by unfold printN; rw [if_neg (by omega)]
  rw [e]
  exact allD_nb46 (digs10_all v.toNat).1
theorem while_stop46 {l r : List Int} (h : l.all (fun x => x != 46) = true) : (l ++ 46 :: r).takeWhile (fun x => x != 46) = l ∧ (l ++ 46 :: r).dropWhile (fun x => x != 46) = 46 :: r := by
  induction l with
  | nil => simp
  | cons x l ih =>
    simp only [List.all_cons, Bool.and_eq_true] at h
    obtain ⟨i1, i2⟩ := ih h.2
    rw [List.cons_append, List.takeWhile_cons, List.dropWhile_cons, h.1, if_pos rfl, if_pos rfl, i1, i2]
    exact ⟨rfl, rfl⟩
theorem cut_plain46 : ∀ (x w r : List Int), x.all (fun x => x != 46) = true → cutG 46 w (x ++ r) = cutG 46 (w ++ x) r
  | [], w, r, _ => by simp
  | y :: x, w, r, h => by
    simp only [List.all_cons, Bool.and_eq_true] at h
    have hy : y ≠ 46 := by simpa using h.1
    rw [List.cons_append]
    simp only [cutG, if_neg hy]
    rw [cut_plain46 x _ r h.2]
    simp
theorem cut_two {x y : List Int} (hx : x.all (fun x => x != 46) = true) (hy : y.all (fun x => x != 46) = true) : cutG 46 [] (x ++ 46 :: y) = [x, y] := by
  rw [cut_plain46 x [] _ hx]
  simp only [cutG, if_true, List.nil_append]
  have := cut_plain46 y [] [] hy
  rw [List.append_nil] at this
  rw [this]; rfl
def okC (p a : Int) : Prop := 1 ≤ p ∧ p ≤ 2147483647 ∧ 0 ≤ a ∧ a ≤ 2147483647
theorem printC_ok {p a : Int} (h : okC p a) : printC p a = 112 :: (printN p ++ 46 :: printN a) := by
  unfold okC at h
  unfold printC
  rw [if_neg (fun h => by rcases h with h | h <;> omega)]
theorem CRead_ok (s : ByteArray) {p a : Int} (h : okC p a) (hs : bytesOf s = printC p a) (hz : s.size ≤ 1000) {k : Nat} (hk : 2000 ≤ k) : page_Read.f k s = some (p, a, 0) := by
  have hc := printC_ok h
  unfold okC at h
  obtain ⟨t, b, e1, f1, g1, z1⟩ := CutPrefix_f s ⟨#[112]⟩
  have p1 : bytesOf (⟨#[112]⟩ : ByteArray) = [112] := rfl
  rw [p1, hs, hc] at f1 g1
  have hb : b = true := f1
  subst hb
  have ht : bytesOf t = printN p ++ 46 :: printN a := g1
  obtain ⟨u, v, c, e2, g2, g3, f2⟩ := Cut_f t (by omega) 46
  have c46 : ((46 : UInt8).toNat : Int) = 46 := rfl
  rw [c46, ht] at g2 g3 f2
  obtain ⟨w1, w2⟩ := while_stop46 (r := printN a) (printN_nb p (by omega))
  rw [w1] at g2
  rw [w2] at g3
  have hc2 : c = true := by rw [f2]; simp
  subst hc2
  have g3' : bytesOf v = printN a := g3
  have zu : u.size ≤ 1000 := by
    have h1 := congrArg List.length ht
    rw [List.length_append, bytesOf_length] at h1
    rw [bts_size, g2]; omega
  have zv : v.size ≤ 1000 := by
    have h1 := congrArg List.length ht
    rw [List.length_append, List.length_cons, bytesOf_length] at h1
    rw [bts_size, g3']; omega
  obtain ⟨x, x1, x2, _⟩ := CPrint_f (p := p) (a := a) (by unfold i64; omega) (by unfold i64; omega) (k := k) (by omega)
  unfold page_Read.f
  rw [e1]
  simp only [Option.bind_some]
  rw [e2]
  simp only [Option.bind_some]
  rw [Size_eq u (by omega) (by omega), Size_eq v (by omega) (by omega), g2, g3', sizeN_digs p (by omega), sizeN_digs a (by omega)]
  simp only [Option.bind_some, if_true]
  rw [x1]
  simp only [Option.bind_some]
  rw [if_pos ((tl_iff _ _).2 (by rw [x2, hs]))]
theorem CRead_inv (s : ByteArray) (hz : s.size ≤ 1000) {k : Nat} (hk : 2000 ≤ k) : (∃ p a, okC p a ∧ bytesOf s = printC p a ∧ page_Read.f k s = some (p, a, 0)) ∨ ((∀ p a, okC p a → bytesOf s ≠ printC p a) ∧ page_Read.f k s = some (0, 0, 3)) := by
  by_cases h : ∃ p a, okC p a ∧ bytesOf s = printC p a
  · obtain ⟨p, a, h1, h2⟩ := h
    exact .inl ⟨p, a, h1, h2, CRead_ok s h1 h2 hz hk⟩
  · refine .inr ⟨fun p a h1 h2 => h ⟨p, a, h1, h2⟩, ?_⟩
    obtain ⟨t, b, e1, f1, g1, z1⟩ := CutPrefix_f s ⟨#[112]⟩
    obtain ⟨u, v, c, e2, g2, g3, f2⟩ := Cut_f t (by omega) 46
    have zu : u.size ≤ 1000 := by
      rw [bts_size, g2]
      have := (List.takeWhile_sublist (fun x => x != ((46 : UInt8).toNat : Int)) (l := bytesOf t)).length_le
      rw [bytesOf_length] at this
      omega
    have zv : v.size ≤ 1000 := by
      rw [bts_size, g3, List.length_drop]
      have := (List.dropWhile_sublist (fun x => x != ((46 : UInt8).toNat : Int)) (l := bytesOf t)).length_le
      rw [bytesOf_length] at this
      omega
    unfold page_Read.f
    rw [e1]
    simp only [Option.bind_some]
    rw [e2]
    simp only [Option.bind_some]
    rw [Size_eq u (by omega) (by omega), Size_eq v (by omega) (by omega)]
    simp only [Option.bind_some]
    have b1 := sizeN_bd (bytesOf u)
    have b2 := sizeN_bd (bytesOf v)
    cases b with
    | false => rfl
    | true =>
      cases c with
      | false => rfl
      | true =>
        rw [if_pos rfl, if_pos rfl]
        by_cases e3 : (sizeN (bytesOf u)).2 = 0
        · by_cases e4 : (sizeN (bytesOf v)).2 = 0
          · rw [if_pos e3, if_pos e4]
            obtain ⟨x, x1, x2, _⟩ := CPrint_f (p := (sizeN (bytesOf u)).1) (a := (sizeN (bytesOf v)).1) (by unfold i64; omega) (by unfold i64; omega) (k := k) (by omega)
            rw [x1]
            simp only [Option.bind_some]
            rw [if_neg]
            intro hx
            have hx := (tl_iff _ _).1 hx
            rw [x2] at hx
            have hne : bytesOf s ≠ [] := by
              intro h0
              have p1 : bytesOf (⟨#[112]⟩ : ByteArray) = [112] := rfl
              rw [p1, h0] at f1
              cases f1
            have hp : 1 ≤ (sizeN (bytesOf u)).1 := by
              apply Classical.byContradiction
              intro hp
              apply hne
              rw [← hx]
              unfold printC
              rw [if_pos (.inl (by omega))]
            exact h ⟨_, _, ⟨hp, by omega, by omega, by omega⟩, hx.symm⟩
          · rw [if_pos e3, if_neg e4]
        · rw [if_neg e3]
theorem rdOf_at (xs : List ByteArray) (i : Nat) (h : i < xs.length) : rdOf ByteArray.empty xs (i : Int) = xs[i] := by
  unfold rdOf
  rw [show ((i : Int)).toNat = i by omega, List.getD_eq_getElem?_getD, List.getElem?_eq_getElem h]
  rfl
theorem RCRead_two (s u v : ByteArray) (hz : s.size ≤ 1000) (zu : u.size ≤ 1000) (zv : v.size ≤ 1000) {k : Nat} (hk : 3000 ≤ k) (hne : bytesOf u ≠ []) (h0 : rd (bytesOf u) 0 = 112) :
    larumref27_Read.j0 (k + 1) s [u, v] false = (if (sizeN ((bytesOf u).drop 1)).2 = 0 ∧ (sizeN (bytesOf v)).2 = 0 ∧ printC (sizeN ((bytesOf u).drop 1)).1 (sizeN (bytesOf v)).1 = bytesOf s then some ((sizeN ((bytesOf u).drop 1)).1, (sizeN (bytesOf v)).1, true) else some (0, 0, false)) := by
  have r0 : rdOf ByteArray.empty [u, v] 0 = u := rfl
  have r1 : rdOf ByteArray.empty [u, v] 1 = v := rfl
  have hu1 : 1 ≤ u.size := by
    rw [bts_size]
    cases h : bytesOf u with
    | nil => exact absurd h hne
    | cons x l => simp
  have hd : bytesOf (u.extract 1 u.size) = (bytesOf u).drop 1 := bts_extract_to u 1
  have zd : (u.extract 1 u.size).size ≤ 1000 := by simp only [ByteArray.size_extract]; omega
  simp only [larumref27_Read.j0, r0, r1]
  rw [if_neg (by simp), if_pos (by simp), if_pos (by omega), RSize_eq _ (by omega) (by omega), hd]
  simp only [Option.bind_some]
  rw [if_pos (by simp), RSize_eq v (by omega) (by omega)]
  simp only [Option.bind_some]
  have b1 := sizeN_bd ((bytesOf u).drop 1)
  have b2 := sizeN_bd (bytesOf v)
  by_cases e3 : (sizeN ((bytesOf u).drop 1)).2 = 0
  · by_cases e4 : (sizeN (bytesOf v)).2 = 0
    · obtain ⟨x, x1, x2⟩ := RCPrint_f (p := (sizeN ((bytesOf u).drop 1)).1) (a := (sizeN (bytesOf v)).1) (by unfold i64; omega) (by unfold i64; omega) (k := k) (by omega)
      rw [if_pos e3, if_pos e4, x1]
      simp only [Option.bind_some]
      by_cases e5 : printC (sizeN ((bytesOf u).drop 1)).1 (sizeN (bytesOf v)).1 = bytesOf s
      · rw [if_pos ((tl_iff _ _).2 (by rw [x2, e5])), if_pos ⟨e3, e4, e5⟩]
      · rw [if_neg (fun h => e5 (by rw [← x2]; exact (tl_iff _ _).1 h)), if_neg (fun h => e5 h.2.2)]
    · rw [if_pos e3, if_neg e4, if_neg (fun h => e4 h.2.1)]
  · rw [if_neg e3, if_neg (fun h => e3 h.1)]
theorem RCRead_inv (s : ByteArray) (hz : s.size ≤ 900) {k : Nat} (hk : 4000 ≤ k) : (∃ p a, okC p a ∧ bytesOf s = printC p a ∧ larumref27_Read.f k s = some (p, a, true)) ∨ ((∀ p a, okC p a → bytesOf s ≠ printC p a) ∧ larumref27_Read.f k s = some (0, 0, false)) := by
  obtain ⟨k, rfl⟩ : ∃ m, k = m + 1 := ⟨k - 1, by omega⟩
  obtain ⟨R, h1, h2⟩ := RCut_f s (by omega) 46 (k := k + 1) (by omega)
  have jt : larumref27_Read.j0 (k + 1) s R true = some (0, 0, false) := by simp only [larumref27_Read.j0, if_true]
  have good : ∀ p a, okC p a → bytesOf s = printC p a → R.map bytesOf = [112 :: printN p, printN a] := by
    intro p a ho hs
    have hc := printC_ok ho
    unfold okC at ho
    have n1 : (112 :: printN p).all (fun x => x != 46) = true := by rw [List.all_cons, printN_nb p (by omega)]; rfl
    rw [h2, hs, hc]
    exact cut_two n1 (printN_nb a (by omega))
  by_cases h2l : R.length = 2
  · obtain ⟨u, v, rfl⟩ : ∃ u v, R = [u, v] := by
      rcases R with _ | ⟨u, _ | ⟨v, _ | ⟨w, R⟩⟩⟩
      · simp at h2l
      · simp at h2l
      · exact ⟨u, v, rfl⟩
      · simp at h2l
    have zs : ∀ x ∈ [u, v], x.size ≤ 1000 := by
      intro x hx
      have h3 := cutG_size 46 (bytesOf s) [] (bytesOf x) (by rw [← h2]; exact List.mem_map_of_mem hx)
      simp only [bytesOf_length, List.length_nil] at h3
      omega
    have zu := zs u (by simp)
    have zv := zs v (by simp)
    have r0 : rdOf ByteArray.empty [u, v] 0 = u := rfl
    by_cases hne : bytesOf u = []
    · refine .inr ⟨fun p a ho hs => ?_, ?_⟩
      · have := good p a ho hs
        simp [hne] at this
      · unfold larumref27_Read.f
        rw [h1]
        simp only [Option.bind_some, r0]
        rw [if_pos (by simp), if_pos (by simp), if_pos ((tl_nil u).2 hne), jt]
    · have hu1 : 0 < (u.size : Int) := by
        rw [bts_size]
        cases h : bytesOf u with
        | nil => exact absurd h hne
        | cons x l => simp only [List.length_cons]; omega
      by_cases h0 : rd (bytesOf u) 0 = 112
      · have step : larumref27_Read.f (k + 1) s = larumref27_Read.j0 (k + 1) s [u, v] false := by
          unfold larumref27_Read.f
          rw [h1]
          simp only [Option.bind_some, r0]
          rw [if_pos (by simp), if_pos (by simp), if_neg (fun h => hne ((tl_nil u).1 h)), if_pos hu1, bt_rd, h0]
          rfl
        rw [step, RCRead_two s u v (by omega) zu zv (by omega) hne h0]
        have b1 := sizeN_bd ((bytesOf u).drop 1)
        have b2 := sizeN_bd (bytesOf v)
        by_cases hc : (sizeN ((bytesOf u).drop 1)).2 = 0 ∧ (sizeN (bytesOf v)).2 = 0 ∧ printC (sizeN ((bytesOf u).drop 1)).1 (sizeN (bytesOf v)).1 = bytesOf s
        · rw [if_pos hc]
          have hsn : bytesOf s ≠ [] := by
            intro h9
            rw [h9] at h2
            have h2' : [bytesOf u, bytesOf v] = [[]] := h2
            have h3' := congrArg List.length h2'
            simp at h3'
          have hp : 1 ≤ (sizeN ((bytesOf u).drop 1)).1 := by
            apply Classical.byContradiction
            intro hp
            apply hsn
            rw [← hc.2.2]
            unfold printC
            rw [if_pos (.inl (by omega))]
          exact .inl ⟨_, _, ⟨hp, by omega, by omega, by omega⟩, hc.2.2.symm, rfl⟩
        · rw [if_neg hc]
          refine .inr ⟨fun p a ho hs => ?_, rfl⟩
          have hg := good p a ho hs
          simp only [List.map_cons, List.map_nil, List.cons.injEq, and_true] at hg
          unfold okC at ho
          apply hc
          rw [hg.1, hg.2]
          show (sizeN (printN p)).2 = 0 ∧ (sizeN (printN a)).2 = 0 ∧ printC (sizeN (printN p)).1 (sizeN (printN a)).1 = bytesOf s
          rw [sizeN_digs p (by omega), sizeN_digs a (by omega)]
          exact ⟨rfl, rfl, hs.symm⟩
      · refine .inr ⟨fun p a ho hs => ?_, ?_⟩
        · have hg := good p a ho hs
          simp only [List.map_cons, List.map_nil, List.cons.injEq, and_true] at hg
          apply h0
          rw [hg.1]; rfl
        · unfold larumref27_Read.f
          rw [h1]
          simp only [Option.bind_some, r0]
          rw [if_pos (by simp), if_pos (by simp), if_neg (fun h => hne ((tl_nil u).1 h)), if_pos hu1, bt_rd, show (rd (bytesOf u) 0 != 112) = true by simpa using h0, jt]
  · refine .inr ⟨fun p a ho hs => ?_, ?_⟩
    · have := congrArg List.length (good p a ho hs)
      simp at this
      exact h2l this
    · unfold larumref27_Read.f
      rw [h1]
      simp only [Option.bind_some]
      rw [if_neg (by omega), jt]
theorem awake60 : larumlaw27_awake.f 200 = some true := by decide +kernel
theorem awake_at {k : Nat} (h : 200 ≤ k) : larumlaw27_awake.f k = some true := at_rounds (g := fun k => larumlaw27_awake.f k) (fun k => larumlaw27_awake.mono k) h awake60
theorem short_eq (s : ByteArray) : ∃ t, larumlaw27_short.f s = some t ∧ t.size ≤ 80 := by
  unfold larumlaw27_short.f
  by_cases h : (s.size : Int) > 80
  · exact ⟨_, by rw [if_pos h, if_pos (by decide), if_pos (by omega)], by simp; omega⟩
  · exact ⟨s, by rw [if_neg h], by omega⟩
theorem i64_bd0 {a : Int} (h : (Lit.int .i64 a).wf = true) : -9223372036854775808 ≤ a ∧ a ≤ 9223372036854775807 := by
  simpa [Lit.wf, IntKind.min, IntKind.max, IntKind.bits, IntKind.signed] using h
theorem i64_bd {a : Int} (h : (Lit.int .i64 a).wf = true) : i64 a := i64_bd0 h
theorem page_j0 (s : ByteArray) (hs : s.size ≤ 80) {k : Nat} (hk : 5000 ≤ k) : larumlaw27_PageCursor.j0 (k + 1) s false = some true := by
  simp only [larumlaw27_PageCursor.j0]
  rw [if_neg (by simp)]
  rcases CRead_inv s (by omega) (k := k) (by omega) with ⟨p, a, h1, h2, h3⟩ | ⟨h1, h2⟩
  · rcases RCRead_inv s (by omega) (k := k) (by omega) with ⟨p', a', g1, g2, g3⟩ | ⟨g1, g2⟩
    · have := CRead_ok s g1 g2 (by omega) (k := k) (by omega)
      rw [h3] at this
      have e := Option.some.inj this
      simp only [Prod.mk.injEq, and_true] at e
      obtain ⟨rfl, rfl⟩ := e
      rw [h3, g3]
      simp only [Option.bind_some]
      rw [if_pos (by decide), if_pos trivial, if_pos (by simp), awake_at (by omega)]
      rfl
    · exact absurd h2 (g1 p a h1)
  · rcases RCRead_inv s (by omega) (k := k) (by omega) with ⟨p', a', g1, g2, g3⟩ | ⟨g1, g2⟩
    · exact absurd g2 (h1 p' a' g1)
    · rw [h2, g2]
      simp only [Option.bind_some]
      rw [if_pos (by decide), if_neg (by simp), if_pos trivial, if_pos (by decide), awake_at (by omega)]
      rfl
theorem PageCursor : larumlaw27_PageCursor.Pure := by
  intro p a s0 hp ha _
  have hp := i64_bd hp
  have ha := i64_bd ha
  obtain ⟨s, hs, hz⟩ := short_eq s0
  obtain ⟨k, hk⟩ : ∃ k : Nat, k = 9000 := ⟨_, rfl⟩
  refine ⟨k + 1, ?_⟩
  obtain ⟨t, t1, t2, t3⟩ := CPrint_f hp ha (k := k + 1) (by omega)
  obtain ⟨u, u1, u2⟩ := RCPrint_f hp ha (k := k + 1) (by omega)
  have e : t = u := ext_bts (t2.trans u2.symm)
  subst e
  have main := page_j0 s hz (k := k) (by omega)
  unfold larumlaw27_PageCursor.f
  rw [hs]
  simp only [Option.bind_some]
  rw [t1]
  simp only [Option.bind_some]
  rw [u1]
  by_cases hc : okC p a
  · rw [CRead_ok t hc t2 (by omega) (by omega)]
    simp only [Option.bind_some]
    have hne : ¬ t.toList = ([] : List UInt8) := fun h => by
      have := (tl_nil t).1 h
      rw [t2, printC_ok hc] at this
      cases this
    unfold okC at hc
    rw [if_pos trivial, if_neg hne, if_pos (by omega), if_pos (by omega), if_pos trivial, show (!(p == p) || (!(a == a))) = false by simp]
    exact main
  · have hx : ∃ x, page_Read.f (k + 1) t = some x := by
      rcases CRead_inv t (by omega) (k := k + 1) (by omega) with ⟨_, _, _, _, h⟩ | ⟨_, h⟩
      · exact ⟨_, h⟩
      · exact ⟨_, h⟩
    obtain ⟨x, hx⟩ := hx
    rw [hx]
    simp only [Option.bind_some]
    rw [if_pos trivial]
    by_cases h0 : t.toList = ([] : List UInt8)
    · rw [if_pos h0]; exact main
    · rw [if_neg h0]
      have hpa : ¬ (p < 1 ∨ a < 0) := fun h => h0 ((tl_nil t).2 (by rw [t2]; unfold printC; rw [if_pos h]))
      by_cases h1 : p < 2147483648
      · rw [if_pos h1]
        by_cases h2 : a < 2147483648
        · exfalso
          apply hc
          unfold okC
          omega
        · rw [if_neg h2]; exact main
      · rw [if_neg h1]; exact main
end Go.Proofs.Ytipdkajfcicfkaa.Pure
