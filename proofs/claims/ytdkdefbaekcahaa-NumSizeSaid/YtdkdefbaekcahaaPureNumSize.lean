/- Which number digits are, by ten and by sixteen, or why none, is as the chapter says: for any text. No condition. -/
import Derived.Test.YtdkdefbaekcahaaPNumSizex4
namespace Go.Proofs.Ytdkdefbaekcahaa.Pure
open Go Go.RowKit Go.Proofs.Ytdkdefbaekcahaa.PNumSize Go.Proofs.Ytdkdefbaekcahaa.Gp Go.Proofs.YtdkdefbaekcahaaW Go.Proofs.YtdkdefbaekcahaaW.PrintWords Go.Proofs.YtdkdefbaekcahaaW.PrintLast Go.Proofs.YtdkdefbaekcahaaW.PrintMore
set_option linter.unusedVariables false
set_option linter.unusedSimpArgs false
-- strings as lists of numbers
def Byt (l : List Int) : Prop := ∀ x ∈ l, 0 ≤ x ∧ x ≤ 255
theorem Byt.rd {l : List Int} (h : Byt l) (i : Int) : 0 ≤ PrintWords.rd l i ∧ PrintWords.rd l i ≤ 255 := by
  unfold PrintWords.rd
  rw [List.getD_eq_getElem?_getD]
  by_cases hi : i.toNat < l.length
  · rw [List.getElem?_eq_getElem hi]; exact h _ (List.getElem_mem hi)
  · rw [List.getElem?_eq_none (by omega)]; decide
theorem Byt.take {l : List Int} (h : Byt l) (n : Nat) : Byt (l.take n) := fun x hx => h x (List.mem_of_mem_take hx)
theorem Byt.drop {l : List Int} (h : Byt l) (n : Nat) : Byt (l.drop n) := fun x hx => h x (List.mem_of_mem_drop hx)
theorem w64 {x : Int} (h : -9223372036854775808 ≤ x ∧ x ≤ 9223372036854775807) : wrap64 x = x := by unfold wrap64; omega
theorem u64w (x : Int) : IntKind.u64.wrap x = x % 18446744073709551616 := by simp [IntKind.wrap, IntKind.bits, IntKind.signed]
theorem wu64 {x : Int} (h : 0 ≤ x ∧ x ≤ 18446744073709551615) : IntKind.u64.wrap x = x := by rw [u64w]; omega
theorem bts_byt (s : ByteArray) : Byt (bytesOf s) := by
  intro x hx
  simp only [bytesOf, List.mem_map] at hx
  obtain ⟨b, _, rfl⟩ := hx
  have := b.toNat_lt
  omega
theorem bts_len (s : ByteArray) : ((bytesOf s).length : Int) = (s.size : Int) := by rw [bytesOf_length]
theorem bt_rd (s : ByteArray) (i : Int) : bt s i = rd (bytesOf s) i := (rd_bytesOf s i).symm
theorem tl (s : ByteArray) : s.toList = s.data.toList := ByteArray.toList_eq s
theorem u8_map_inj : ∀ {a b : List UInt8}, a.map (fun x => (x.toNat : Int)) = b.map (fun x => (x.toNat : Int)) → a = b
  | [], [], _ => rfl
  | [], _ :: _, h => by simp at h
  | _ :: _, [], h => by simp at h
  | x :: a, y :: b, h => by
    simp only [List.map_cons, List.cons.injEq] at h
    rw [u8_map_inj h.2, UInt8.toNat_inj.1 (by omega : x.toNat = y.toNat)]
theorem tl_iff (s t : ByteArray) : s.toList = t.toList ↔ bytesOf s = bytesOf t := by
  rw [tl, tl]
  exact ⟨fun h => by unfold bytesOf; rw [h], fun h => u8_map_inj h⟩
theorem tl_nil (s : ByteArray) : s.toList = ([] : List UInt8) ↔ bytesOf s = [] := by
  rw [tl]
  unfold bytesOf
  rw [List.map_eq_nil_iff]
theorem bts_extract (s : ByteArray) (a b : Nat) : bytesOf (s.extract a b) = ((bytesOf s).take b).drop a := by
  unfold bytesOf
  rw [List.drop_take, ← List.map_drop, ← List.map_take]
  congr 1
  simp [List.drop_take]
theorem bts_extract_to (s : ByteArray) (a : Nat) : bytesOf (s.extract a s.size) = (bytesOf s).drop a := by
  rw [bts_extract, List.take_of_length_le (by rw [bytesOf_length]; omega)]
theorem bts_append (s t : ByteArray) : bytesOf (s ++ t) = bytesOf s ++ bytesOf t := by
  unfold bytesOf
  rw [← List.map_append]
  congr 1
theorem bts_size (s : ByteArray) : s.size = (bytesOf s).length := (bytesOf_length s).symm
theorem drop_rd {l : List Int} {i : Nat} (h : i < l.length) : l.drop i = rd l (i : Int) :: l.drop (i + 1) := by
  rw [List.drop_eq_getElem_cons h]
  unfold rd
  simp [List.getD_eq_getElem?_getD, List.getElem?_eq_getElem h]
theorem rd_cons_zero (a : Int) (l : List Int) : rd (a :: l) 0 = a := rfl
-- digits
def isD (c : Int) : Bool := decide (48 ≤ c ∧ c ≤ 57)
def allD (l : List Int) : Bool := l.all isD
def dv (v : Int) : List Int → Int
  | [] => v
  | c :: l => dv (10 * v + (c - 48)) l
theorem isD_iff {c : Int} : isD c = true ↔ 48 ≤ c ∧ c ≤ 57 := by simp [isD]
theorem dv_ge : ∀ (l : List Int) (v : Int), allD l = true → 0 ≤ v → v ≤ dv v l
  | [], v, _, _ => Int.le_refl v
  | c :: l, v, h, hv => by
    simp only [allD, List.all_cons, Bool.and_eq_true] at h
    have hc := isD_iff.1 h.1
    have := dv_ge l (10 * v + (c - 48)) h.2 (by omega)
    show v ≤ dv (10 * v + (c - 48)) l
    omega
theorem Digit_eq (c : Int) : chars_Digit.f c = some (isD c) := by
  unfold chars_Digit.f isD
  by_cases h : c ≥ 48
  · rw [if_pos h]; congr 1; exact decide_eq_decide.2 (by omega)
  · rw [if_neg h]; congr 1; symm; exact decide_eq_false (by omega)
theorem All_Digit_eq (s : ByteArray) (hs : s.size ≤ 140737488351232) (d : Nat) : ∀ (i k : Nat), i + d = s.size → d < k → chars_All_chars_Digit.l0 k s (i : Int) = some (allD ((bytesOf s).drop i)) := by
  induction d with
  | zero =>
    intro i k hi hk
    obtain ⟨k, rfl⟩ : ∃ m, k = m + 1 := ⟨k - 1, by omega⟩
    simp only [chars_All_chars_Digit.l0]
    rw [if_neg (by omega), List.drop_of_length_le (by rw [bytesOf_length]; omega)]
    rfl
  | succ d ih =>
    intro i k hi hk
    obtain ⟨k, rfl⟩ : ∃ m, k = m + 1 := ⟨k - 1, by omega⟩
    simp only [chars_All_chars_Digit.l0]
    rw [if_pos (by omega), if_pos (by omega), Digit_eq, bt_rd, drop_rd (by rw [bytesOf_length]; omega), w64 (by omega)]
    simp only [Option.bind_some]
    show _ = some (allD (_ :: _))
    cases hd : isD (rd (bytesOf s) (i : Int)) with
    | true =>
      rw [if_pos rfl, show ((i : Int) + 1) = ((i + 1 : Nat) : Int) by omega, ih (i + 1) k (by omega) (by omega)]
      simp only [allD, List.all_cons, hd, Bool.true_and]
    | false =>
      rw [if_neg (by simp)]
      simp only [allD, List.all_cons, hd, Bool.false_and]
theorem All_Digit (s : ByteArray) (hs : s.size ≤ 140737488351232) {k : Nat} (hk : s.size < k) : chars_All_chars_Digit.f k s = some (allD (bytesOf s)) := by
  unfold chars_All_chars_Digit.f
  exact All_Digit_eq s hs s.size 0 k (by omega) hk
theorem digits_eq (s : ByteArray) (hs : s.size ≤ 140737488351232) (M : Int) (hM : 9 ≤ M ∧ M ≤ 9223372036854775808) (d : Nat) : ∀ (i k : Nat) (v : Int), i + d = s.size → d < k → allD ((bytesOf s).drop i) = true → 0 ≤ v → v ≤ M →
    num_digits.l0 k s M v (s.size : Int) (i : Int) = some (if dv v ((bytesOf s).drop i) > M then (0, 5) else (dv v ((bytesOf s).drop i), 0)) := by
  induction d with
  | zero =>
    intro i k v hi hk ha h0 h1
    obtain ⟨k, rfl⟩ : ∃ m, k = m + 1 := ⟨k - 1, by omega⟩
    simp only [num_digits.l0]
    rw [if_neg (by omega), List.drop_of_length_le (by rw [bytesOf_length]; omega)]
    show _ = some (if v > M then _ else (v, 0))
    rw [if_neg (by omega)]
  | succ d ih =>
    intro i k v hi hk ha h0 h1
    obtain ⟨k, rfl⟩ : ∃ m, k = m + 1 := ⟨k - 1, by omega⟩
    rw [drop_rd (by rw [bytesOf_length]; omega)] at ha ⊢
    simp only [allD, List.all_cons, Bool.and_eq_true] at ha
    have hc := isD_iff.1 ha.1
    simp only [num_digits.l0]
    rw [if_pos (by omega), if_pos (by omega), if_pos (by omega), bt_rd]
    have e1 : (rd (bytesOf s) (i : Int) - 48) % 256 = rd (bytesOf s) (i : Int) - 48 := by omega
    rw [e1, wu64 (x := M - (rd (bytesOf s) (i : Int) - 48)) (by omega), Int.tdiv_eq_ediv_of_nonneg (by omega), wu64 (x := (M - (rd (bytesOf s) (i : Int) - 48)) / 10) (by omega)]
    show _ = some (if dv (10 * v + (rd (bytesOf s) (i : Int) - 48)) ((bytesOf s).drop (i + 1)) > M then (0, 5) else (dv (10 * v + (rd (bytesOf s) (i : Int) - 48)) ((bytesOf s).drop (i + 1)), 0))
    by_cases c : v > (M - (rd (bytesOf s) (i : Int) - 48)) / 10
    · rw [if_pos c, if_pos]
      have := dv_ge ((bytesOf s).drop (i + 1)) (10 * v + (rd (bytesOf s) (i : Int) - 48)) ha.2 (by omega)
      omega
    · rw [if_neg c, wu64 (x := v * 10) (by omega), wu64 (x := v * 10 + (rd (bytesOf s) (i : Int) - 48)) (by omega), w64 (by omega), show ((i : Int) + 1) = ((i + 1 : Nat) : Int) by omega, show v * 10 + (rd (bytesOf s) (i : Int) - 48) = 10 * v + (rd (bytesOf s) (i : Int) - 48) by omega]
      exact ih (i + 1) k _ (by omega) (by omega) ha.2 (by omega) (by omega)
theorem digits_f (s : ByteArray) (hs : s.size ≤ 140737488351232) {M : Int} (hM : 9 ≤ M ∧ M ≤ 9223372036854775808) {k : Nat} (hk : s.size < k) (ha : allD (bytesOf s) = true) :
    num_digits.f k s M = some (if dv 0 (bytesOf s) > M then (0, 5) else (dv 0 (bytesOf s), 0)) := by
  unfold num_digits.f
  exact digits_eq s hs M hM s.size 0 k 0 (by omega) hk ha (by omega) (by omega)
/-- Is a text of digits wrong? -/
def badD (l : List Int) : Bool := l.isEmpty || !allD l || (decide (1 < l.length) && rd l 0 == 48)
def maxP : Bool → Int
  | true => 9223372036854775808
  | false => 9223372036854775807
/-- What digits, behind a minus or without, are. -/
def parseD (m : Bool) (l : List Int) : Int × Int := if badD l = true then (0, 3) else if dv 0 l > maxP m then (0, 5) else (if m = true then -dv 0 l else dv 0 l, 0)
/-- Which number a text is. -/
def parseN (l : List Int) : Int × Int := if l ≠ [] ∧ rd l 0 = 45 then parseD true (l.drop 1) else parseD false l
theorem Parse_j1 (s : ByteArray) (hs : s.size ≤ 140737488351232) (m : Bool) {k : Nat} (hk : s.size + 2 < k) : num_Parse.j1 k s m (maxP m) = some (parseD m (bytesOf s)) := by
  obtain ⟨k, rfl⟩ : ∃ q, k = q + 2 := ⟨k - 2, by omega⟩
  have j2t : num_Parse.j2 (k + 1) s m (maxP m) true = some (0, 3) := by simp only [num_Parse.j2]; rw [if_pos trivial]
  have j2f : allD (bytesOf s) = true → num_Parse.j2 (k + 1) s m (maxP m) false = some (if dv 0 (bytesOf s) > maxP m then (0, 5) else (if m = true then -dv 0 (bytesOf s) else dv 0 (bytesOf s), 0)) := by
    intro ha
    have hge := dv_ge (bytesOf s) 0 ha (by omega)
    simp only [num_Parse.j2]
    rw [if_neg (by simp), digits_f s hs (M := maxP m) (by cases m <;> simp [maxP]) (by omega) ha]
    simp only [Option.bind_some]
    by_cases c : dv 0 (bytesOf s) > maxP m
    · rw [if_pos c, if_pos c]; rfl
    · rw [if_neg c, if_neg c]
      cases m with
      | true =>
        simp only [maxP] at c
        simp only [if_true, Option.some.injEq, Prod.mk.injEq, and_true]
        rw [u64w]; unfold wrap64; omega
      | false =>
        simp only [maxP] at c
        simp only [if_true, Option.some.injEq, Prod.mk.injEq, and_true]
        rw [if_neg (by simp), if_neg (by simp), w64 (by omega)]
  unfold parseD badD
  simp only [num_Parse.j1]
  by_cases c0 : s.toList = ([] : List UInt8)
  · rw [if_pos c0, j2t]
    rw [(tl_nil s).1 c0]; rfl
  rw [if_neg c0, All_Digit s hs (by omega)]
  have hne : (bytesOf s).isEmpty = false := by
    cases h : bytesOf s with
    | nil => exact absurd ((tl_nil s).2 h) c0
    | cons => rfl
  simp only [Option.bind_some, hne, Bool.false_or]
  cases ha : allD (bytesOf s) with
  | false =>
    rw [if_neg (by simp), j2t]; rfl
  | true =>
    rw [if_pos rfl]
    simp only [Bool.not_true, Bool.false_or]
    by_cases c1 : (s.size : Int) > 1
    · rw [if_pos c1, if_pos (by omega), bt_rd]
      have e : decide (1 < (bytesOf s).length) = true := decide_eq_true (by rw [bytesOf_length]; omega)
      rw [e, Bool.true_and]
      cases hz : rd (bytesOf s) 0 == 48 with
      | true => rw [j2t]; rfl
      | false => rw [j2f ha]; simp
    · rw [if_neg c1]
      have e : decide (1 < (bytesOf s).length) = false := decide_eq_false (by rw [bytesOf_length]; omega)
      rw [e, Bool.false_and, j2f ha]; simp
theorem Parse_eq (s : ByteArray) (hs : s.size ≤ 140737488351232) {k : Nat} (hk : s.size + 3 < k) : num_Parse.f k s = some (parseN (bytesOf s)) := by
  obtain ⟨k, rfl⟩ : ∃ q, k = q + 1 := ⟨k - 1, by omega⟩
  unfold num_Parse.f parseN
  by_cases c0 : (s.size : Int) > 0
  · have hne : bytesOf s ≠ [] := fun h => by have := bytesOf_length s; rw [h] at this; simp at this; omega
    rw [if_pos c0, if_pos c0, bt_rd]
    simp only [num_Parse.j0]
    by_cases c1 : rd (bytesOf s) 0 = 45
    · rw [if_pos (by simp [c1]), if_pos (by omega), if_pos ⟨hne, c1⟩]
      have e : (rd (bytesOf s) 0 == 45) = true := by simp [c1]
      rw [e, show (9223372036854775807 + 1 : Int) = maxP true from rfl, Parse_j1 _ (by simp; omega) true (by simp; omega), bts_extract_to]
    · have e : (rd (bytesOf s) 0 == 45) = false := by simp [c1]
      rw [e, if_neg (by simp), if_neg (fun h => c1 h.2), show (9223372036854775807 : Int) = maxP false from rfl, Parse_j1 s hs false (by omega)]
  · have hn : bytesOf s = [] := by have := bytesOf_length s; exact List.eq_nil_of_length_eq_zero (by omega)
    rw [if_neg c0]
    simp only [num_Parse.j0]
    rw [if_neg (by simp), show (9223372036854775807 : Int) = maxP false from rfl, Parse_j1 s hs false (by omega), hn]
    simp
-- the reference's numbers
theorem RDigit_eq {c : Int} (h : 0 ≤ c ∧ c ≤ 255) : larumref01_Digit.f c = some (isD c) := by
  unfold larumref01_Digit.f larumref01_is.f isD
  rw [w64 (by omega)]
  by_cases h : c ≥ 48
  · rw [if_pos h]; simp only [Option.bind_some]; congr 1; exact decide_eq_decide.2 (by omega)
  · rw [if_neg h]; simp only [Option.bind_some]; congr 1; symm; exact decide_eq_false (by omega)
theorem Rall_eq (s : ByteArray) (hs : s.size ≤ 140737488351232) (d : Nat) : ∀ (i k : Nat), i + d = s.size → d < k → larumref03_all.l0 k s (i : Int) = some (allD ((bytesOf s).drop i) && !(bytesOf s).isEmpty) := by
  have he : (s.toList != ([] : List UInt8)) = !(bytesOf s).isEmpty := by
    rw [tl]; unfold bytesOf; cases s.data.toList <;> rfl
  induction d with
  | zero =>
    intro i k hi hk
    obtain ⟨k, rfl⟩ : ∃ m, k = m + 1 := ⟨k - 1, by omega⟩
    simp only [larumref03_all.l0]
    rw [if_neg (by omega), List.drop_of_length_le (by rw [bytesOf_length]; omega), he]
    rfl
  | succ d ih =>
    intro i k hi hk
    obtain ⟨k, rfl⟩ : ∃ m, k = m + 1 := ⟨k - 1, by omega⟩
    simp only [larumref03_all.l0]
    rw [if_pos (by omega), if_pos (by omega), bt_rd, RDigit_eq ((bts_byt s).rd _), drop_rd (by rw [bytesOf_length]; omega), w64 (by omega)]
    simp only [Option.bind_some]
    cases hd : isD (rd (bytesOf s) (i : Int)) with
    | true =>
      rw [if_pos rfl, show ((i : Int) + 1) = ((i + 1 : Nat) : Int) by omega, ih (i + 1) k (by omega) (by omega)]
      simp only [allD, List.all_cons, hd, Bool.true_and]
    | false =>
      rw [if_neg (by simp)]
      simp only [allD, List.all_cons, hd, Bool.false_and]
theorem Rall (s : ByteArray) (hs : s.size ≤ 140737488351232) {k : Nat} (hk : s.size < k) : larumref03_all.f k s = some (allD (bytesOf s) && !(bytesOf s).isEmpty) := by
  unfold larumref03_all.f
  exact Rall_eq s hs s.size 0 k (by omega) hk
def stripL : List Int → List Int
  | [] => []
  | [c] => [c]
  | c :: d :: l => if c = 48 then stripL (d :: l) else c :: d :: l
theorem strip_eq (d : Nat) : ∀ (s : ByteArray) (k : Nat), s.size ≤ 140737488351232 → s.size = d → d < k → ∃ t, larumref03_strip.l0 k s = some t ∧ bytesOf t = stripL (bytesOf s) ∧ t.size ≤ s.size := by
  induction d with
  | zero =>
    intro s k hs hd hk
    obtain ⟨k, rfl⟩ : ∃ m, k = m + 1 := ⟨k - 1, by omega⟩
    have hn : bytesOf s = [] := List.eq_nil_of_length_eq_zero (by rw [bytesOf_length]; exact hd)
    refine ⟨s, ?_, by rw [hn]; rfl, Nat.le_refl _⟩
    simp only [larumref03_strip.l0]
    rw [if_neg (by omega)]
  | succ d ih =>
    intro s k hs hd hk
    obtain ⟨k, rfl⟩ : ∃ m, k = m + 1 := ⟨k - 1, by omega⟩
    have hl := bytesOf_length s
    simp only [larumref03_strip.l0]
    rcases hb : bytesOf s with _ | ⟨c, _ | ⟨e, l⟩⟩
    · rw [hb] at hl; simp at hl; omega
    · rw [hb] at hl
      simp at hl
      exact ⟨s, by rw [if_neg (by omega)], hb, Nat.le_refl _⟩
    · rw [hb] at hl
      simp at hl
      rw [if_pos (by omega), if_pos (by omega), bt_rd, hb, rd_cons_zero]
      by_cases hc : c = 48
      · rw [if_pos hc, if_pos (by omega)]
        obtain ⟨t, h1, h2, h3⟩ := ih (s.extract 1 s.size) k (by simp; omega) (by simp; omega) (by omega)
        refine ⟨t, h1, ?_, by simp at h3; omega⟩
        rw [h2, bts_extract_to, hb]
        simp only [List.drop_succ_cons, List.drop_zero]
        conv => rhs; unfold stripL
        rw [if_pos hc]
      · rw [if_neg hc]
        refine ⟨s, rfl, ?_, Nat.le_refl _⟩
        rw [hb]; unfold stripL; rw [if_neg hc]
theorem allD_stripL : ∀ l, allD l = true → allD (stripL l) = true
  | [], h => h
  | [_], h => h
  | c :: d :: l, h => by
    unfold stripL
    split
    · exact allD_stripL (d :: l) (by simp only [allD, List.all_cons, Bool.and_eq_true] at h ⊢; exact h.2)
    · exact h
theorem dv_stripL : ∀ l, dv 0 (stripL l) = dv 0 l
  | [] => rfl
  | [_] => rfl
  | c :: d :: l => by
    unfold stripL
    split
    · rename_i h
      rw [dv_stripL (d :: l), h]; rfl
    · rfl
theorem stripL_ne : ∀ l, l ≠ [] → stripL l ≠ []
  | [], h => absurd rfl h
  | [_], h => h
  | c :: d :: l, h => by
    unfold stripL
    split
    · exact stripL_ne (d :: l) (by simp)
    · simp
theorem stripL_head : ∀ l, 1 < (stripL l).length → rd (stripL l) 0 ≠ 48
  | [], h => by simp [stripL] at h
  | [_], h => by simp [stripL] at h
  | c :: d :: l, h => by
    unfold stripL at h ⊢
    split
    · rename_i hc
      rw [if_pos hc] at h
      exact stripL_head (d :: l) h
    · rename_i hc; exact hc
theorem stripL_self {l : List Int} (h : (decide (1 < l.length) && rd l 0 == 48) = false) : stripL l = l := by
  rcases l with _ | ⟨c, _ | ⟨d, l⟩⟩
  · rfl
  · rfl
  · unfold stripL
    rw [if_neg]
    intro hc
    rw [rd_cons_zero, hc] at h
    simp at h
def lexL : List Int → List Int → Bool
  | [], [] => false
  | [], _ :: _ => true
  | _ :: _, [] => false
  | x :: a, y :: b => decide (x < y) || (x == y && lexL a b)
theorem lex_map : ∀ a b : List UInt8, Op.bytesLess a b = lexL (a.map fun x => (x.toNat : Int)) (b.map fun x => (x.toNat : Int))
  | [], [] => by simp [Op.bytesLess, lexL]
  | [], _ :: _ => by simp [Op.bytesLess, lexL]
  | _ :: _, [] => by simp [Op.bytesLess, lexL]
  | x :: a, y :: b => by
    simp only [Op.bytesLess, lexL, List.map_cons]
    rw [lex_map a b]
    congr 1
    · exact decide_eq_decide.2 (by rw [UInt8.lt_iff_toNat_lt]; omega)
    · congr 1
      rw [Bool.eq_iff_iff]
      simp only [beq_iff_eq]
      exact ⟨fun h => by rw [h], fun h => UInt8.toNat_inj.1 (by omega)⟩
theorem lex_bts (s t : ByteArray) : Op.bytesLess s.toList t.toList = lexL (bytesOf s) (bytesOf t) := by
  rw [tl, tl, lex_map]; rfl
theorem dv_split : ∀ (l : List Int) (v : Int), dv v l = v * 10 ^ l.length + dv 0 l
  | [], v => by simp [dv]
  | c :: l, v => by
    show dv (10 * v + (c - 48)) l = v * 10 ^ (l.length + 1) + dv (10 * 0 + (c - 48)) l
    rw [dv_split l (10 * v + (c - 48)), dv_split l (10 * 0 + (c - 48)), Int.pow_succ]
    have e1 : (10 * v + (c - 48)) * 10 ^ l.length = v * (10 ^ l.length * 10) + (c - 48) * 10 ^ l.length := by
      rw [Int.add_mul]; congr 1
      rw [Int.mul_comm 10 v, Int.mul_assoc, Int.mul_comm 10 (10 ^ l.length)]
    have e2 : (10 * 0 + (c - 48)) * 10 ^ l.length = (c - 48) * 10 ^ l.length := by simp
    omega
theorem pow_pos10 (n : Nat) : (0 : Int) < 10 ^ n := Int.pow_pos (by decide)
theorem dv_lt : ∀ l : List Int, allD l = true → dv 0 l < 10 ^ l.length
  | [], _ => by simp [dv]
  | c :: l, h => by
    simp only [allD, List.all_cons, Bool.and_eq_true] at h
    have hc := isD_iff.1 h.1
    have ih := dv_lt l h.2
    have hp := pow_pos10 l.length
    show dv (10 * 0 + (c - 48)) l < 10 ^ (l.length + 1)
    rw [dv_split, Int.pow_succ]
    have := Int.mul_le_mul_of_nonneg_right (show c - 48 ≤ 9 by omega) (Int.le_of_lt hp)
    have e2 : (10 * 0 + (c - 48)) * 10 ^ l.length = (c - 48) * 10 ^ l.length := by simp
    omega
theorem dv_cons (c : Int) (l : List Int) : dv 0 (c :: l) = (c - 48) * 10 ^ l.length + dv 0 l := by
  show dv (10 * 0 + (c - 48)) l = _
  rw [dv_split]; simp
theorem lex_dv : ∀ a b : List Int, a.length = b.length → allD a = true → allD b = true → lexL a b = decide (dv 0 a < dv 0 b)
  | [], [], _, _, _ => by simp [lexL, dv]
  | [], _ :: _, h, _, _ => by simp at h
  | _ :: _, [], h, _, _ => by simp at h
  | x :: a, y :: b, h, ha, hb => by
    simp only [allD, List.all_cons, Bool.and_eq_true] at ha hb
    have hl : a.length = b.length := by simpa using h
    have ia := dv_lt a ha.2
    have ib := dv_lt b hb.2
    have ja := dv_ge a 0 ha.2 (by omega)
    have jb := dv_ge b 0 hb.2 (by omega)
    rw [hl] at ia
    have hp := pow_pos10 b.length
    simp only [lexL, lex_dv a b hl ha.2 hb.2, dv_cons, hl]
    rw [Bool.eq_iff_iff]
    simp only [Bool.or_eq_true, decide_eq_true_eq, Bool.and_eq_true, beq_iff_eq]
    constructor
    · rintro (h1 | ⟨rfl, h1⟩)
      · have e : (y - 48) * 10 ^ b.length = (x - 48) * 10 ^ b.length + (y - x) * 10 ^ b.length := by rw [← Int.add_mul]; congr 1; omega
        have := Int.mul_le_mul_of_nonneg_right (show 1 ≤ y - x by omega) (Int.le_of_lt hp)
        omega
      · omega
    · intro h1
      rcases Int.lt_trichotomy x y with h2 | h2 | h2
      · exact Or.inl h2
      · subst h2; exact Or.inr ⟨rfl, by omega⟩
      · exfalso
        have e : (x - 48) * 10 ^ b.length = (y - 48) * 10 ^ b.length + (x - y) * 10 ^ b.length := by rw [← Int.add_mul]; congr 1; omega
        have := Int.mul_le_mul_of_nonneg_right (show 1 ≤ x - y by omega) (Int.le_of_lt hp)
        omega
/-- A number with more digits is greater. -/
theorem longer {a b : List Int} (ha : allD a = true) (hb : allD b = true) (h1 : rd a 0 ≠ 48) (h : b.length < a.length) : dv 0 b < dv 0 a := by
  rcases a with _ | ⟨c, a⟩
  · simp at h
  · simp only [allD, List.all_cons, Bool.and_eq_true] at ha
    have hc := isD_iff.1 ha.1
    rw [rd_cons_zero] at h1
    have ib := dv_lt b hb
    have ja := dv_ge a 0 ha.2 (by omega)
    rw [dv_cons]
    have hp := pow_pos10 a.length
    have hle : (10 : Int) ^ b.length ≤ 10 ^ a.length := by have := Nat.pow_le_pow_right (show 0 < 10 by decide) (show b.length ≤ a.length by simp at h; omega); exact_mod_cast this
    have := Int.mul_le_mul_of_nonneg_right (show 1 ≤ c - 48 by omega) (Int.le_of_lt hp)
    omega
theorem above_eq (a b : ByteArray) (ha : a.size ≤ 140737488351232) (hb : b.size ≤ 140737488351232) (da : allD (bytesOf a) = true) (db : allD (bytesOf b) = true) (na : bytesOf a ≠ []) (nb : bytesOf b ≠ []) {k : Nat} (hk : a.size < k) (hk' : b.size < k) :
    larumref03_above.f k a b = some (decide (dv 0 (bytesOf a) > dv 0 (bytesOf b))) := by
  obtain ⟨x, x1, x2, _⟩ := strip_eq a.size a k ha rfl hk
  obtain ⟨y, y1, y2, _⟩ := strip_eq b.size b k hb rfl hk'
  unfold larumref03_above.f larumref03_strip.f
  rw [x1, y1]
  simp only [Option.bind_some]
  have dx := allD_stripL _ da
  have dy := allD_stripL _ db
  have nx := stripL_ne _ na
  have ny := stripL_ne _ nb
  have ex := dv_stripL (bytesOf a)
  have ey := dv_stripL (bytesOf b)
  have hx := stripL_head (bytesOf a)
  have hy := stripL_head (bytesOf b)
  rw [← x2] at dx nx ex hx
  rw [← y2] at dy ny ey hy
  rw [← ex, ← ey]
  have lx := bytesOf_length x
  have ly := bytesOf_length y
  have px : 0 < (bytesOf x).length := by cases h : bytesOf x with | nil => exact absurd h nx | cons => simp
  have py : 0 < (bytesOf y).length := by cases h : bytesOf y with | nil => exact absurd h ny | cons => simp
  by_cases h : (x.size : Int) = (y.size : Int)
  · rw [if_pos h, lex_bts, lex_dv _ _ (by omega) dy dx]
  · rw [if_neg h]
    congr 1
    apply decide_eq_decide.2
    constructor
    · intro h1; exact longer dx dy (hx (by omega)) (by omega)
    · intro h1
      apply Int.lt_of_not_ge
      intro h2
      have := longer dy dx (hy (by omega)) (by omega)
      omega
def sg : Bool → Int → Int
  | true, v => -v
  | false, v => v
theorem RParse_l0 (s : ByteArray) (hs : s.size ≤ 140737488351232) (m : Bool) (d : Nat) : ∀ (i k : Nat) (v : Int), i + d = s.size → d < k → allD ((bytesOf s).drop i) = true → 0 ≤ v → dv v ((bytesOf s).drop i) ≤ maxP m →
    larumref03_Parse.l0 k m s (sg m v) (i : Int) = some (sg m (dv v ((bytesOf s).drop i)), 0) := by
  induction d with
  | zero =>
    intro i k v hi hk ha h0 h1
    obtain ⟨k, rfl⟩ : ∃ q, k = q + 1 := ⟨k - 1, by omega⟩
    simp only [larumref03_Parse.l0]
    rw [if_neg (by omega), List.drop_of_length_le (by rw [bytesOf_length]; omega)]
    rfl
  | succ d ih =>
    intro i k v hi hk ha h0 h1
    obtain ⟨k, rfl⟩ : ∃ q, k = q + 1 := ⟨k - 1, by omega⟩
    rw [drop_rd (by rw [bytesOf_length]; omega)] at ha h1 ⊢
    simp only [allD, List.all_cons, Bool.and_eq_true] at ha
    have hc := isD_iff.1 ha.1
    have hge := dv_ge ((bytesOf s).drop (i + 1)) (10 * v + (rd (bytesOf s) (i : Int) - 48)) ha.2 (by omega)
    have h1' : dv (10 * v + (rd (bytesOf s) (i : Int) - 48)) ((bytesOf s).drop (i + 1)) ≤ maxP m := h1
    have := ih (i + 1) k _ (by omega) (by omega) ha.2 (by omega) h1'
    simp only [larumref03_Parse.l0]
    rw [if_pos (by omega), bt_rd, show (rd (bytesOf s) (i : Int) - 48) % 256 = rd (bytesOf s) (i : Int) - 48 by omega, w64 (x := (i : Int) + 1) (by omega)]
    cases m with
    | true =>
      simp only [maxP] at h1'
      rw [if_pos rfl, if_pos (by omega)]
      simp only [sg] at this ⊢
      rw [w64 (x := 10 * -v) (by omega), w64 (by omega), show 10 * -v - (rd (bytesOf s) (i : Int) - 48) = -(10 * v + (rd (bytesOf s) (i : Int) - 48)) by omega]
      exact this
    | false =>
      simp only [maxP] at h1'
      rw [if_neg (by simp), if_pos (by omega)]
      simp only [sg] at this ⊢
      rw [w64 (x := 10 * v) (by omega), w64 (by omega)]
      exact this
theorem RParse_j1 (s : ByteArray) (hs : s.size ≤ 140737488351232) (m : Bool) {k : Nat} (hk : s.size + 30 < k) : larumref03_Parse.j1 k m s = some (parseD m (bytesOf s)) := by
  obtain ⟨k, rfl⟩ : ∃ q, k = q + 3 := ⟨k - 3, by omega⟩
  have j2t : larumref03_Parse.j2 (k + 2) m s true = some (0, 3) := by simp only [larumref03_Parse.j2]; rw [if_pos trivial]
  have j2f : allD (bytesOf s) = true → bytesOf s ≠ [] → larumref03_Parse.j2 (k + 2) m s false = some (if dv 0 (bytesOf s) > maxP m then (0, 5) else (if m = true then -dv 0 (bytesOf s) else dv 0 (bytesOf s), 0)) := by
    intro ha hn
    have j3 : larumref03_Parse.j3 (k + 1) m s (decide (dv 0 (bytesOf s) > maxP m)) = some (if dv 0 (bytesOf s) > maxP m then (0, 5) else (if m = true then -dv 0 (bytesOf s) else dv 0 (bytesOf s), 0)) := by
      simp only [larumref03_Parse.j3]
      by_cases c : dv 0 (bytesOf s) > maxP m
      · rw [if_pos (decide_eq_true c), if_pos c]
      · rw [if_neg (by rw [decide_eq_false c]; simp), if_neg c]
        have := RParse_l0 s hs m s.size 0 k 0 (by omega) (by omega) ha (by omega) (by exact Int.not_lt.1 c)
        rw [show sg m 0 = 0 by cases m <;> rfl] at this
        rw [show ((0 : Nat) : Int) = 0 from rfl] at this
        rw [this, List.drop_zero]
        cases m <;> rfl
    simp only [larumref03_Parse.j2]
    rw [if_neg (by simp)]
    cases m with
    | true =>
      rw [if_pos rfl, above_eq s _ hs (by decide) ha (by decide +kernel) hn (by decide +kernel) (by omega) (by rw [show ByteArray.size _ = 19 from rfl]; omega)]
      simp only [Option.bind_some]
      rw [show dv 0 (bytesOf (⟨#[57, 50, 50, 51, 51, 55, 50, 48, 51, 54, 56, 53, 52, 55, 55, 53, 56, 48, 56]⟩ : ByteArray)) = maxP true by decide +kernel]
      exact j3
    | false =>
      rw [if_neg (by simp), above_eq s _ hs (by decide) ha (by decide +kernel) hn (by decide +kernel) (by omega) (by rw [show ByteArray.size _ = 19 from rfl]; omega)]
      simp only [Option.bind_some]
      rw [show dv 0 (bytesOf (⟨#[57, 50, 50, 51, 51, 55, 50, 48, 51, 54, 56, 53, 52, 55, 55, 53, 56, 48, 55]⟩ : ByteArray)) = maxP false by decide +kernel, ← j3]
      cases hd : decide (dv 0 (bytesOf s) > maxP false) <;> simp
  unfold parseD badD
  simp only [larumref03_Parse.j1]
  rw [Rall s hs (by omega)]
  simp only [Option.bind_some]
  cases he : (bytesOf s).isEmpty with
  | true =>
    rw [if_neg (by simp), j2t]; simp
  | false =>
    have hne : bytesOf s ≠ [] := fun h => by rw [h] at he; simp at he
    cases ha : allD (bytesOf s) with
    | false => rw [if_neg (by simp), j2t]; simp
    | true =>
      rw [if_pos (by simp)]
      simp only [Bool.not_true, Bool.false_or]
      by_cases c1 : (s.size : Int) > 1
      · rw [if_pos c1, if_pos (by omega), bt_rd]
        have e : decide (1 < (bytesOf s).length) = true := decide_eq_true (by rw [bytesOf_length]; omega)
        rw [e, Bool.true_and]
        cases hz : rd (bytesOf s) 0 == 48 with
        | true => rw [j2t]; rfl
        | false => rw [j2f ha hne]; simp
      · rw [if_neg c1]
        have e : decide (1 < (bytesOf s).length) = false := decide_eq_false (by rw [bytesOf_length]; omega)
        rw [e, Bool.false_and, j2f ha hne]; simp
theorem RParse_eq (s : ByteArray) (hs : s.size ≤ 140737488351232) {k : Nat} (hk : s.size + 31 < k) : larumref03_Parse.f k s = some (parseN (bytesOf s)) := by
  obtain ⟨k, rfl⟩ : ∃ q, k = q + 1 := ⟨k - 1, by omega⟩
  unfold larumref03_Parse.f parseN
  by_cases c0 : s.toList = ([] : List UInt8)
  · have hn := (tl_nil s).1 c0
    rw [if_pos c0]
    simp only [larumref03_Parse.j0]
    rw [if_neg (by simp), RParse_j1 s hs false (by omega), hn]
    simp
  · have hne : bytesOf s ≠ [] := fun h => c0 ((tl_nil s).2 h)
    have hp : 0 < (bytesOf s).length := by cases h : bytesOf s with | nil => exact absurd h hne | cons => simp
    have hl := bytesOf_length s
    rw [if_neg c0, if_pos (by omega), bt_rd]
    simp only [larumref03_Parse.j0]
    by_cases c1 : rd (bytesOf s) 0 = 45
    · have e : (rd (bytesOf s) 0 == 45) = true := by simp [c1]
      rw [if_pos e, if_pos (by omega), if_pos ⟨hne, c1⟩, e, RParse_j1 _ (by simp; omega) true (by simp; omega), bts_extract_to]
    · have e : (rd (bytesOf s) 0 == 45) = false := by simp [c1]
      rw [e, if_neg (by simp), if_neg (fun h => c1 h.2), RParse_j1 s hs false (by omega)]
-- digits by sixteen
def hexV (c : Int) : Int := if 48 ≤ c ∧ c ≤ 57 then c - 48 else if 97 ≤ c ∧ c ≤ 102 then c - 87 else if 65 ≤ c ∧ c ≤ 70 then c - 55 else -1
theorem hex_all : ∀ c : Fin 256, num_hex.f 3 (c.val : Int) = some (hexV (c.val : Int)) := by decide +kernel
theorem hex_eq {c : Int} (h : 0 ≤ c ∧ c ≤ 255) {k : Nat} (hk : 3 ≤ k) : num_hex.f k c = some (hexV c) := by
  have := hex_all ⟨c.toNat, by omega⟩
  simp only [Int.toNat_of_nonneg h.1] at this
  exact at_rounds (g := fun k => num_hex.f k c) (fun k => num_hex.mono c k) hk this
def allH (l : List Int) : Bool := l.all fun c => decide (0 ≤ hexV c)
def hx (v : Int) : List Int → Int
  | [] => v
  | c :: l => hx (16 * v + hexV c) l
theorem hexV_bd (c : Int) : -1 ≤ hexV c ∧ hexV c ≤ 15 := by unfold hexV; repeat' split <;> omega
theorem hx_ge : ∀ (l : List Int) (v : Int), allH l = true → 0 ≤ v → v ≤ hx v l
  | [], v, _, _ => Int.le_refl v
  | c :: l, v, h, hv => by
    simp only [allH, List.all_cons, Bool.and_eq_true, decide_eq_true_eq] at h
    have := hx_ge l (16 * v + hexV c) h.2 (by omega)
    show v ≤ hx (16 * v + hexV c) l
    omega
def hexR (e lg : Bool) (v : Int) (l : List Int) : Int × Int := if allH l = false then (0, 3) else if e = true then (0, 3) else if lg = true ∨ hx v l > 2147483647 then (0, 5) else (hx v l, 0)
theorem Hex_l0 (s : ByteArray) (hs : s.size ≤ 140737488351232) (d : Nat) : ∀ (i k : Nat) (v : Int) (lg : Bool), i + d = s.size → d + 3 < k → 0 ≤ v → v ≤ 2147483647 →
    num_Hex.l0 k s v lg (s.size : Int) (i : Int) = some (hexR (bytesOf s).isEmpty lg v ((bytesOf s).drop i)) := by
  have he : s.toList = ([] : List UInt8) ↔ (bytesOf s).isEmpty = true := by rw [tl_nil, List.isEmpty_iff]
  induction d with
  | zero =>
    intro i k v lg hi hk h0 h1
    obtain ⟨k, rfl⟩ : ∃ m, k = m + 1 := ⟨k - 1, by omega⟩
    simp only [num_Hex.l0]
    rw [if_neg (by omega), List.drop_of_length_le (by rw [bytesOf_length]; omega)]
    by_cases c : s.toList = ([] : List UInt8)
    · rw [if_pos c]
      unfold hexR
      rw [he.1 c]
      simp [allH]
    · have c' : (bytesOf s).isEmpty = false := by cases h : (bytesOf s).isEmpty with | true => exact absurd (he.2 h) c | false => rfl
      rw [if_neg c]
      unfold hexR
      rw [c']
      cases lg with
      | true => simp [allH]
      | false => simp [hx, allH]; omega
  | succ d ih =>
    intro i k v lg hi hk h0 h1
    obtain ⟨k, rfl⟩ : ∃ m, k = m + 1 := ⟨k - 1, by omega⟩
    have hv := hexV_bd (rd (bytesOf s) (i : Int))
    simp only [num_Hex.l0]
    rw [if_pos (by omega), if_pos (by omega), if_pos (by omega), bt_rd, hex_eq ((bts_byt s).rd _) (by omega), drop_rd (by rw [bytesOf_length]; omega), w64 (x := (i : Int) + 1) (by omega), show ((i : Int) + 1) = ((i + 1 : Nat) : Int) by omega]
    simp only [Option.bind_some]
    by_cases c : hexV (rd (bytesOf s) (i : Int)) < 0
    · rw [if_pos c]
      unfold hexR
      rw [if_pos (by simp only [allH, List.all_cons, Bool.and_eq_false_iff, decide_eq_false_iff_not]; left; omega)]
    rw [if_neg c]
    have key : ∀ (lg' : Bool) (v' : Int), (allH ((bytesOf s).drop (i + 1)) = true → (lg' = true ∨ hx v' ((bytesOf s).drop (i + 1)) > 2147483647) = (lg = true ∨ hx (16 * v + hexV (rd (bytesOf s) (i : Int))) ((bytesOf s).drop (i + 1)) > 2147483647)) →
        (allH ((bytesOf s).drop (i + 1)) = true → ¬ (lg' = true ∨ hx v' ((bytesOf s).drop (i + 1)) > 2147483647) → hx v' ((bytesOf s).drop (i + 1)) = hx (16 * v + hexV (rd (bytesOf s) (i : Int))) ((bytesOf s).drop (i + 1))) →
        hexR (bytesOf s).isEmpty lg' v' ((bytesOf s).drop (i + 1)) = hexR (bytesOf s).isEmpty lg v (rd (bytesOf s) (i : Int) :: (bytesOf s).drop (i + 1)) := by
      intro lg' v' e1 e2
      unfold hexR
      have ea : allH (rd (bytesOf s) (i : Int) :: (bytesOf s).drop (i + 1)) = allH ((bytesOf s).drop (i + 1)) := by
        simp only [allH, List.all_cons]; rw [decide_eq_true (by omega), Bool.true_and]
      rw [ea]
      cases ha : allH ((bytesOf s).drop (i + 1)) with
      | false => rfl
      | true =>
        simp only [Bool.true_eq_false, if_false]
        cases (bytesOf s).isEmpty with
        | true => rfl
        | false =>
          simp only [Bool.false_eq_true, if_false]
          show (if (lg' = true ∨ hx v' ((bytesOf s).drop (i + 1)) > 2147483647) then _ else _) = (if (lg = true ∨ hx (16 * v + hexV (rd (bytesOf s) (i : Int))) ((bytesOf s).drop (i + 1)) > 2147483647) then _ else (hx (16 * v + hexV (rd (bytesOf s) (i : Int))) ((bytesOf s).drop (i + 1)), 0))
          by_cases c1 : (lg' = true ∨ hx v' ((bytesOf s).drop (i + 1)) > 2147483647)
          · rw [if_pos c1, if_pos (by rw [← e1 ha]; exact c1)]
          · rw [if_neg c1, if_neg (by rw [← e1 ha]; exact c1), e2 ha c1]
    cases lg with
    | true =>
      rw [if_pos rfl, ih (i + 1) k v true (by omega) (by omega) h0 h1]
      congr 1
      exact key true v (fun _ => by simp) (fun _ h => absurd (Or.inl rfl) h)
    | false =>
      rw [if_neg (by simp), w64 (x := 2147483647 - hexV (rd (bytesOf s) (i : Int))) (by omega), Int.tdiv_eq_ediv_of_nonneg (by omega), w64 (x := (2147483647 - hexV (rd (bytesOf s) (i : Int))) / 16) (by omega)]
      by_cases c1 : v > (2147483647 - hexV (rd (bytesOf s) (i : Int))) / 16
      · rw [if_pos c1, decide_eq_true c1, ih (i + 1) k v true (by omega) (by omega) h0 h1]
        congr 1
        exact key true v (fun ha => by
          have := hx_ge ((bytesOf s).drop (i + 1)) (16 * v + hexV (rd (bytesOf s) (i : Int))) ha (by omega)
          simp; omega) (fun _ h => absurd (Or.inl rfl) h)
      · rw [if_neg c1, decide_eq_false c1, w64 (x := v * 16) (by omega), w64 (by omega), ih (i + 1) k _ false (by omega) (by omega) (by omega) (by omega)]
        congr 1
        rw [show v * 16 + hexV (rd (bytesOf s) (i : Int)) = 16 * v + hexV (rd (bytesOf s) (i : Int)) by omega]
        exact key false _ (fun _ => rfl) (fun _ _ => rfl)
/-- Which number digits by sixteen are. -/
def parseH (l : List Int) : Int × Int := if allH l = false ∨ l = [] then (0, 3) else if hx 0 l > 2147483647 then (0, 5) else (hx 0 l, 0)
theorem Hex_eq (s : ByteArray) (hs : s.size ≤ 140737488351232) {k : Nat} (hk : s.size + 3 < k) : num_Hex.f k s = some (parseH (bytesOf s)) := by
  unfold num_Hex.f
  have := Hex_l0 s hs s.size 0 k 0 false (by omega) hk (by omega) (by omega)
  rw [show ((0 : Nat) : Int) = 0 from rfl] at this
  rw [this, List.drop_zero]
  congr 1
  unfold hexR parseH
  cases h : bytesOf s with
  | nil => simp
  | cons a l =>
    cases ha : allH (a :: l) with
    | false => simp
    | true => simp
theorem awake60 : larumlaw03_awake.f 60 = some true := by decide +kernel
theorem short_eq (s : ByteArray) : ∃ t, larumlaw03_short.f s = some t ∧ t.size ≤ 40 := by
  unfold larumlaw03_short.f
  by_cases h : (s.size : Int) > 40
  · exact ⟨_, by rw [if_pos h, if_pos (by decide), if_pos (by omega)], by simp; omega⟩
  · exact ⟨s, by rw [if_neg h], by omega⟩
def sizeN (l : List Int) : Int × Int := if l = [] ∨ allD l = false then (0, 3) else if dv 0 l > 2147483647 then (0, 5) else (dv 0 l, 0)
theorem Size_eq (s : ByteArray) (hs : s.size ≤ 140737488351232) {k : Nat} (hk : s.size < k) : num_Size.f k s = some (sizeN (bytesOf s)) := by
  unfold num_Size.f
  by_cases c : s.toList = ([] : List UInt8)
  · rw [if_pos c, (tl_nil s).1 c]; rfl
  have hn : bytesOf s ≠ [] := fun h => c ((tl_nil s).2 h)
  rw [if_neg c, All_Digit s hs hk]
  simp only [Option.bind_some]
  cases ha : allD (bytesOf s) with
  | false => unfold sizeN; rw [ha]; simp
  | true =>
    have h0 := dv_ge (bytesOf s) 0 ha (by omega)
    rw [if_pos rfl, digits_f s hs (by omega) hk ha]
    simp only [Option.bind_some]
    unfold sizeN
    rw [ha]
    by_cases c1 : dv 0 (bytesOf s) > 2147483647
    · simp only [if_pos c1]
      rw [if_neg (by simp [hn]), w64 (by omega)]
    · simp only [if_neg c1]
      rw [if_neg (by simp [hn]), w64 (by omega)]
theorem parse_strip {l : List Int} (hn : l ≠ []) (ha : allD l = true) (hle : dv 0 l ≤ 2147483647) : parseN (stripL l) = (dv 0 l, 0) := by
  have d := allD_stripL l ha
  have n := stripL_ne l hn
  have h := stripL_head l
  have e := dv_stripL l
  have hb : badD (stripL l) = false := by
    unfold badD
    rw [d]
    have : (stripL l).isEmpty = false := by cases hh : stripL l with | nil => exact absurd hh n | cons => rfl
    rw [this]
    simp only [Bool.not_true, Bool.false_or, Bool.and_eq_false_iff, decide_eq_false_iff_not, beq_eq_false_iff_ne]
    by_cases c : 1 < (stripL l).length
    · exact Or.inr (h c)
    · exact Or.inl c
  have hm : ¬ (stripL l ≠ [] ∧ rd (stripL l) 0 = 45) := by
    rintro ⟨_, h45⟩
    cases hh : stripL l with
    | nil => exact n hh
    | cons x t =>
      rw [hh, rd_cons_zero] at h45
      rw [hh] at d
      simp only [allD, List.all_cons, Bool.and_eq_true] at d
      have := isD_iff.1 d.1
      omega
  unfold parseN
  rw [if_neg hm]
  unfold parseD
  rw [hb, if_neg (by simp), e, if_neg (by simp only [maxP]; omega), if_neg (by simp)]
theorem RSize_eq (s : ByteArray) (hs : s.size ≤ 140737488351232) {k : Nat} (hk : s.size + 50 < k) : larumref03_Size.f k s = some (sizeN (bytesOf s)) := by
  unfold larumref03_Size.f
  rw [Rall s hs (by omega)]
  simp only [Option.bind_some]
  unfold sizeN
  cases he : (bytesOf s).isEmpty with
  | true =>
    rw [if_neg (by simp), if_pos (Or.inl (List.isEmpty_iff.1 he))]
  | false =>
    have hn : bytesOf s ≠ [] := fun h => by rw [h] at he; simp at he
    cases ha : allD (bytesOf s) with
    | false => rw [if_neg (by simp), if_pos (by simp)]
    | true =>
      rw [if_pos (by simp), above_eq s _ hs (by decide) ha (by decide +kernel) hn (by decide +kernel) (by omega) (by rw [show ByteArray.size _ = 10 from rfl]; omega)]
      simp only [Option.bind_some]
      rw [show dv 0 (bytesOf (⟨#[50, 49, 52, 55, 52, 56, 51, 54, 52, 55]⟩ : ByteArray)) = 2147483647 by decide +kernel, if_neg (show ¬ (bytesOf s = [] ∨ true = false) by simp [hn])]
      by_cases c : dv 0 (bytesOf s) > 2147483647
      · rw [if_pos (decide_eq_true c), if_pos c]
      · rw [if_neg (by rw [decide_eq_false c]; simp), if_neg c]
        obtain ⟨t, t1, t2, t3⟩ := strip_eq s.size s k hs rfl (by omega)
        unfold larumref03_strip.f
        rw [t1]
        simp only [Option.bind_some]
        rw [RParse_eq t (by omega) (by omega), t2, parse_strip hn ha (by omega)]
        rfl
-- by sixteen
theorem hx_split : ∀ (l : List Int) (v : Int), hx v l = v * 16 ^ l.length + hx 0 l
  | [], v => by simp [hx]
  | c :: l, v => by
    show hx (16 * v + hexV c) l = v * 16 ^ (l.length + 1) + hx (16 * 0 + hexV c) l
    rw [hx_split l (16 * v + hexV c), hx_split l (16 * 0 + hexV c), Int.pow_succ]
    have e1 : (16 * v + hexV c) * 16 ^ l.length = v * (16 ^ l.length * 16) + hexV c * 16 ^ l.length := by
      rw [Int.add_mul]; congr 1
      rw [Int.mul_comm 16 v, Int.mul_assoc, Int.mul_comm 16 (16 ^ l.length)]
    have e2 : (16 * 0 + hexV c) * 16 ^ l.length = hexV c * 16 ^ l.length := by simp
    omega
theorem pow_pos16 (n : Nat) : (0 : Int) < 16 ^ n := Int.pow_pos (by decide)
theorem hx_cons (c : Int) (l : List Int) : hx 0 (c :: l) = hexV c * 16 ^ l.length + hx 0 l := by
  show hx (16 * 0 + hexV c) l = _
  rw [hx_split]; simp
theorem hx_lt : ∀ l : List Int, allH l = true → hx 0 l < 16 ^ l.length
  | [], _ => by simp [hx]
  | c :: l, h => by
    simp only [allH, List.all_cons, Bool.and_eq_true, decide_eq_true_eq] at h
    have ih := hx_lt l h.2
    have hp := pow_pos16 l.length
    have hb := hexV_bd c
    rw [hx_cons, List.length_cons, Int.pow_succ]
    have := Int.mul_le_mul_of_nonneg_right (show hexV c ≤ 15 by omega) (Int.le_of_lt hp)
    omega
theorem allH_stripL : ∀ l, allH l = true → allH (stripL l) = true
  | [], h => h
  | [_], h => h
  | c :: d :: l, h => by
    unfold stripL
    split
    · exact allH_stripL (d :: l) (by simp only [allH, List.all_cons, Bool.and_eq_true] at h ⊢; exact h.2)
    · exact h
theorem hx_stripL : ∀ l, hx 0 (stripL l) = hx 0 l
  | [] => rfl
  | [_] => rfl
  | c :: d :: l => by
    unfold stripL
    split
    · rename_i h
      rw [hx_stripL (d :: l), h]; rfl
    · rfl
theorem pow_le16 {a b : Nat} (h : a ≤ b) : (16 : Int) ^ a ≤ 16 ^ b := by
  have := Nat.pow_le_pow_right (show 0 < 16 by decide) h
  exact_mod_cast this
/-- Too great: by the number of digits, and the first one. -/
theorem hx_big {l : List Int} (hn : l ≠ []) (ha : allH l = true) (h0 : 1 < l.length → rd l 0 ≠ 48) : hx 0 l > 2147483647 ↔ (8 < l.length ∨ l.length = 8 ∧ hexV (rd l 0) > 7) := by
  rcases l with _ | ⟨c, l⟩
  · exact absurd rfl hn
  · simp only [allH, List.all_cons, Bool.and_eq_true, decide_eq_true_eq] at ha
    have hb := hexV_bd c
    have hl := hx_lt l ha.2
    have hg := hx_ge l 0 ha.2 (by omega)
    have hp := pow_pos16 l.length
    rw [rd_cons_zero, hx_cons, List.length_cons]
    rw [rd_cons_zero, List.length_cons] at h0
    have hc : 0 < l.length → 1 ≤ hexV c := by
      intro h
      have := h0 (by omega)
      have h1 := ha.1
      unfold hexV at h1 ⊢
      repeat' split at h1
      all_goals (repeat' split)
      all_goals omega
    have e7 : (16 : Int) ^ 7 = 268435456 := by decide
    have e8 : (16 : Int) ^ 8 = 4294967296 := by decide
    rcases Nat.lt_trichotomy l.length 7 with h | h | h
    · have h6 := pow_le16 (show l.length + 1 ≤ 7 by omega)
      rw [Int.pow_succ] at h6
      have := Int.mul_le_mul_of_nonneg_right (show hexV c ≤ 15 by omega) (Int.le_of_lt hp)
      constructor
      · intro h1; exfalso; omega
      · intro h1; exfalso; omega
    · rw [h, e7] at hl ⊢
      constructor
      · intro h1; right; exact ⟨rfl, by omega⟩
      · intro h1; rcases h1 with h1 | ⟨_, h1⟩ <;> omega
    · have h8 := pow_le16 (show 8 ≤ l.length by omega)
      have := Int.mul_le_mul_of_nonneg_right (show 1 ≤ hexV c from hc (by omega)) (Int.le_of_lt hp)
      constructor
      · intro _; left; omega
      · intro _; omega
theorem rdigit_eq (c : Int) : larumref03_digit.f c = some (hexV c) := rfl
theorem RHex_l1 (s : ByteArray) (hs : s.size ≤ 140737488351232) (d : Nat) : ∀ (i k : Nat) (v : Int), i + d = s.size → d < k → allH ((bytesOf s).drop i) = true → 0 ≤ v → hx v ((bytesOf s).drop i) ≤ 2147483647 →
    larumref03_Hex.l1 k s v (i : Int) = some (hx v ((bytesOf s).drop i), 0) := by
  induction d with
  | zero =>
    intro i k v hi hk _ _ _
    obtain ⟨k, rfl⟩ : ∃ m, k = m + 1 := ⟨k - 1, by omega⟩
    simp only [larumref03_Hex.l1]
    rw [if_neg (by omega), List.drop_of_length_le (by rw [bytesOf_length]; omega)]
    rfl
  | succ d ih =>
    intro i k v hi hk ha h0 h1
    obtain ⟨k, rfl⟩ : ∃ m, k = m + 1 := ⟨k - 1, by omega⟩
    have hv := hexV_bd (rd (bytesOf s) (i : Int))
    rw [drop_rd (by rw [bytesOf_length]; omega)] at ha h1 ⊢
    simp only [allH, List.all_cons, Bool.and_eq_true, decide_eq_true_eq] at ha
    have hge := hx_ge ((bytesOf s).drop (i + 1)) (16 * v + hexV (rd (bytesOf s) (i : Int))) ha.2 (by omega)
    have h1' : hx (16 * v + hexV (rd (bytesOf s) (i : Int))) ((bytesOf s).drop (i + 1)) ≤ 2147483647 := h1
    simp only [larumref03_Hex.l1]
    rw [if_pos (by omega), if_pos (by omega), rdigit_eq, bt_rd]
    simp only [Option.bind_some]
    rw [w64 (x := 16 * v) (by omega), w64 (x := 16 * v + hexV (rd (bytesOf s) (i : Int))) (by omega), w64 (x := (i : Int) + 1) (by omega)]
    exact ih (i + 1) k _ (by omega) (by omega) ha.2 (by omega) h1'
theorem RHex_l0 (s : ByteArray) (hs : s.size ≤ 140737488351232) (d : Nat) : ∀ (i k : Nat), i + d = s.size → s.size + d + 10 < k → (allH ((bytesOf s).take i) = true) → larumref03_Hex.l0 k s (i : Int) = some (parseH (bytesOf s)) := by
  have hl := bytesOf_length s
  induction d with
  | zero =>
    intro i k hi hk ha
    obtain ⟨k, rfl⟩ : ∃ m, k = m + 2 := ⟨k - 2, by omega⟩
    rw [List.take_of_length_le (by omega)] at ha
    simp only [larumref03_Hex.l0]
    rw [if_neg (by omega)]
    by_cases c : s.toList = ([] : List UInt8)
    · rw [if_pos c, (tl_nil s).1 c]; rfl
    have hn : bytesOf s ≠ [] := fun h => c ((tl_nil s).2 h)
    obtain ⟨t, t1, t2, t3⟩ := strip_eq s.size s (k + 1) hs rfl (by omega)
    have ht := bytesOf_length t
    have at_ := allH_stripL _ ha
    have nt := stripL_ne _ hn
    have et := hx_stripL (bytesOf s)
    have h0 := stripL_head (bytesOf s)
    rw [← t2] at at_ nt et h0
    have big := hx_big nt at_ h0
    rw [if_neg c]
    unfold larumref03_strip.f
    rw [t1]
    simp only [Option.bind_some]
    have j1t : larumref03_Hex.j1 (k + 1) t true = some (0, 5) := by simp only [larumref03_Hex.j1]; rw [if_pos trivial]
    have j1f : hx 0 (bytesOf t) ≤ 2147483647 → larumref03_Hex.j1 (k + 1) t false = some (hx 0 (bytesOf t), 0) := by
      intro h
      simp only [larumref03_Hex.j1]
      rw [if_neg (by simp)]
      exact RHex_l1 t (by omega) t.size 0 k 0 (by omega) (by omega) at_ (by omega) h
    have hp : parseH (bytesOf s) = if hx 0 (bytesOf t) > 2147483647 then (0, 5) else (hx 0 (bytesOf t), 0) := by
      unfold parseH
      rw [if_neg (by simp [ha, hn]), et]
    rw [hp]
    by_cases c8 : (t.size : Int) > 8
    · rw [if_pos c8, j1t, if_pos (big.2 (Or.inl (by omega)))]
    rw [if_neg c8]
    by_cases c9 : (t.size : Int) = 8
    · rw [if_pos c9, if_pos (by omega), rdigit_eq, bt_rd]
      simp only [Option.bind_some]
      by_cases c7 : hexV (rd (bytesOf t) 0) > 7
      · rw [decide_eq_true c7, j1t, if_pos (big.2 (Or.inr ⟨by omega, c7⟩))]
      · have hno : ¬ hx 0 (bytesOf t) > 2147483647 := fun h => by rcases big.1 h with h | ⟨_, h⟩ <;> omega
        rw [decide_eq_false c7, j1f (by omega), if_neg hno]
    · have hno : ¬ hx 0 (bytesOf t) > 2147483647 := fun h => by rcases big.1 h with h | ⟨h, _⟩ <;> omega
      rw [if_neg c9, j1f (by omega), if_neg hno]
  | succ d ih =>
    intro i k hi hk ha
    obtain ⟨k, rfl⟩ : ∃ m, k = m + 1 := ⟨k - 1, by omega⟩
    have hlt : i < (bytesOf s).length := by omega
    have hrd : (bytesOf s)[i] = rd (bytesOf s) (i : Int) := by unfold rd; simp [List.getD_eq_getElem?_getD, List.getElem?_eq_getElem hlt]
    simp only [larumref03_Hex.l0]
    rw [if_pos (by omega), if_pos (by omega), rdigit_eq, bt_rd]
    simp only [Option.bind_some]
    by_cases c : hexV (rd (bytesOf s) (i : Int)) < 0
    · rw [if_pos c]
      unfold parseH
      rw [if_pos]
      left
      cases h : allH (bytesOf s) with
      | false => rfl
      | true =>
        exfalso
        have := (List.all_eq_true.1 h) _ (List.getElem_mem hlt)
        rw [hrd] at this
        simp at this
        omega
    · rw [if_neg c, w64 (by omega)]
      exact ih (i + 1) k (by omega) (by omega) (by
        rw [List.take_succ_eq_append_getElem hlt]
        unfold allH at ha ⊢
        rw [List.all_append, ha, hrd]
        simp; omega)
theorem RHex_eq (s : ByteArray) (hs : s.size ≤ 140737488351232) {k : Nat} (hk : 2 * s.size + 10 < k) : larumref03_Hex.f k s = some (parseH (bytesOf s)) := by
  unfold larumref03_Hex.f
  exact RHex_l0 s hs s.size 0 k (by omega) (by omega) rfl
theorem NumSize : larumlaw03_NumSize.Pure := by
  intro s _
  obtain ⟨t, ht, hl⟩ := short_eq s
  refine ⟨300, ?_⟩
  unfold larumlaw03_NumSize.f
  rw [ht]
  simp only [Option.bind_some]
  rw [Size_eq t (by omega) (by omega), RSize_eq t (by omega) (by omega), Hex_eq t (by omega) (by omega), RHex_eq t (by omega) (by omega), at_rounds (g := fun k => larumlaw03_awake.f k) (fun k => larumlaw03_awake.mono k) (show 60 ≤ 300 by decide) awake60]
  simp
end Go.Proofs.Ytdkdefbaekcahaa.Pure
