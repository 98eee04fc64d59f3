/- Replies' bytes, one behind the other, are read as those replies, in order: for any replies that together are of at most 1048576 values and letters. -/
import Derived.Test.YtojbejcilhohaaaDoorPReplyManyx8
import Derived.Lib.SplitLaws
namespace Go.Proofs.YtojbejcilhohaaaDoor.Pure
open Go Go.RowKit Go.Proofs.YtojbejcilhohaaaDoor.PReplyMany Go.Proofs.YtojbejcilhohaaaDoor.Gp Go.Proofs.YtojbejcilhohaaaDoorW Go.Proofs.YtojbejcilhohaaaDoorW.PrintWords Go.Proofs.YtojbejcilhohaaaDoorW.PrintLast Go.Proofs.YtojbejcilhohaaaDoorW.PrintMore
set_option linter.unusedVariables false
set_option linter.unusedSimpArgs false
-- strings as lists of numbers
def Byt (l : List Int) : Prop := ∀ x ∈ l, 0 ≤ x ∧ x ≤ 255
theorem Byt.rd {l : List Int} (h : Byt l) (i : Int) : 0 ≤ PrintWords.rd l i ∧ PrintWords.rd l i ≤ 255 := by
  unfold PrintWords.rd
  rw [List.getD_eq_getElem?_getD]
  by_cases hi : i.toNat < l.length
  · rw [List.getElem?_eq_getElem hi]; exact h _ (List.getElem_mem hi)
  · rw [List.getElem?_eq_none (by omega)]; decide
theorem Byt.take {l : List Int} (h : Byt l) (n : Nat) : Byt (l.take n) := fun x hx => h x (List.mem_of_mem_take hx)
theorem Byt.drop {l : List Int} (h : Byt l) (n : Nat) : Byt (l.drop n) := fun x hx => h x (List.mem_of_mem_drop hx)
theorem w64 {x : Int} (h : -9223372036854775808 ≤ x ∧ x ≤ 9223372036854775807) : wrap64 x = x := by unfold wrap64; omega
theorem u64w (x : Int) : IntKind.u64.wrap x = x % 18446744073709551616 := by simp [IntKind.wrap, IntKind.bits, IntKind.signed]
theorem wu64 {x : Int} (h : 0 ≤ x ∧ x ≤ 18446744073709551615) : IntKind.u64.wrap x = x := by rw [u64w]; omega
theorem bts_byt (s : ByteArray) : Byt (bytesOf s) := by
  intro x hx
  simp only [bytesOf, List.mem_map] at hx
  obtain ⟨b, _, rfl⟩ := hx
  have := b.toNat_lt
  omega
theorem bts_len (s : ByteArray) : ((bytesOf s).length : Int) = (s.size : Int) := by rw [bytesOf_length]
theorem bt_rd (s : ByteArray) (i : Int) : bt s i = rd (bytesOf s) i := (rd_bytesOf s i).symm
theorem tl (s : ByteArray) : s.toList = s.data.toList := ByteArray.toList_eq s
theorem u8_map_inj : ∀ {a b : List UInt8}, a.map (fun x => (x.toNat : Int)) = b.map (fun x => (x.toNat : Int)) → a = b
  | [], [], _ => rfl
  | [], _ :: _, h => by simp at h
  | _ :: _, [], h => by simp at h
  | x :: a, y :: b, h => by
    simp only [List.map_cons, List.cons.injEq] at h
    rw [u8_map_inj h.2, UInt8.toNat_inj.1 (by omega : x.toNat = y.toNat)]
theorem tl_iff (s t : ByteArray) : s.toList = t.toList ↔ bytesOf s = bytesOf t := by
  rw [tl, tl]
  exact ⟨fun h => by unfold bytesOf; rw [h], fun h => u8_map_inj h⟩
theorem tl_nil (s : ByteArray) : s.toList = ([] : List UInt8) ↔ bytesOf s = [] := by
  rw [tl]
  unfold bytesOf
  rw [List.map_eq_nil_iff]
theorem bts_extract (s : ByteArray) (a b : Nat) : bytesOf (s.extract a b) = ((bytesOf s).take b).drop a := by
  unfold bytesOf
  rw [List.drop_take, ← List.map_drop, ← List.map_take]
  congr 1
  simp [List.drop_take]
theorem bts_extract_to (s : ByteArray) (a : Nat) : bytesOf (s.extract a s.size) = (bytesOf s).drop a := by
  rw [bts_extract, List.take_of_length_le (by rw [bytesOf_length]; omega)]
theorem bts_append (s t : ByteArray) : bytesOf (s ++ t) = bytesOf s ++ bytesOf t := by
  unfold bytesOf
  rw [← List.map_append]
  congr 1
theorem bts_size (s : ByteArray) : s.size = (bytesOf s).length := (bytesOf_length s).symm
theorem drop_rd {l : List Int} {i : Nat} (h : i < l.length) : l.drop i = rd l (i : Int) :: l.drop (i + 1) := by
  rw [List.drop_eq_getElem_cons h]
  unfold rd
  simp [List.getD_eq_getElem?_getD, List.getElem?_eq_getElem h]
theorem rd_cons_zero (a : Int) (l : List Int) : rd (a :: l) 0 = a := rfl
-- a string made of numbers
theorem bts_son {xs : List Int} (h : Byt xs) : bytesOf (strOfNums xs) = xs := by
  unfold bytesOf
  rw [strOfNums_data, List.map_map]
  conv => rhs; rw [← List.map_id xs]
  apply List.map_congr_left
  intro x hx
  have := h x hx
  simp only [Function.comp, id]
  have e : (UInt8.ofNat x.toNat).toNat = x.toNat := by
    rw [UInt8.toNat_ofNat']
    omega
  rw [e]; omega
theorem bts_tl_iff {s t : ByteArray} : s.toList = t.toList ↔ bytesOf s = bytesOf t := tl_iff s t
theorem ext_bts {s t : ByteArray} (h : bytesOf s = bytesOf t) : s = t := by
  have := (tl_iff s t).2 h
  rw [tl, tl] at this
  cases s with | mk a => cases t with | mk b => simp at this; rw [this]
-- prefixes, cuts at a byte
def nats (l : List UInt8) : List Int := l.map fun x => (x.toNat : Int)
theorem nats_bts (s : ByteArray) : nats s.data.toList = bytesOf s := rfl
theorem pre_nats : ∀ (p l : List UInt8), p.isPrefixOf l = (nats p).isPrefixOf (nats l)
  | [], _ => by simp [nats]
  | _ :: _, [] => by simp [nats]
  | a :: p, b :: l => by
    have e : (a == b) = ((a.toNat : Int) == (b.toNat : Int)) := by
      rw [Bool.eq_iff_iff, beq_iff_eq, beq_iff_eq, ← UInt8.toNat_inj]; omega
    show (a == b && p.isPrefixOf l) = (((a.toNat : Int) == (b.toNat : Int)) && (nats p).isPrefixOf (nats l))
    rw [e, pre_nats p l]
theorem CutPrefix_f (s p : ByteArray) : ∃ t b, strings_CutPrefix.f s p = some (t, b) ∧ b = (bytesOf p).isPrefixOf (bytesOf s) ∧ bytesOf t = (if (bytesOf p).isPrefixOf (bytesOf s) = true then (bytesOf s).drop (bytesOf p).length else bytesOf s) ∧ t.size ≤ s.size := by
  have e : Lib.hasPrefix s.data.toList p.data.toList = (bytesOf p).isPrefixOf (bytesOf s) := pre_nats _ _
  have eb : bytesOf (⟨(Lib.trimPrefix s.data.toList p.data.toList).toArray⟩ : ByteArray) = (if (bytesOf p).isPrefixOf (bytesOf s) = true then (bytesOf s).drop (bytesOf p).length else bytesOf s) := by
    unfold Lib.trimPrefix
    rw [e]
    have h0 : ∀ l : List UInt8, bytesOf (⟨l.toArray⟩ : ByteArray) = nats l := fun l => rfl
    rw [h0]
    by_cases h : (bytesOf p).isPrefixOf (bytesOf s) = true
    · rw [if_pos h, if_pos h]
      unfold nats
      rw [List.map_drop]
      simp [bytesOf]
    · rw [if_neg h, if_neg h]; rfl
  refine ⟨_, _, rfl, e, eb, ?_⟩
  rw [bts_size, eb, bts_size]
  split
  · rw [List.length_drop]; omega
  · exact Nat.le_refl _
theorem idx_while (c : UInt8) : ∀ (l : List UInt8),
    (Lib.indexByte l c = -1 ∧ (nats l).takeWhile (fun x => x != (c.toNat : Int)) = nats l ∧ (nats l).dropWhile (fun x => x != (c.toNat : Int)) = [] ∧ (nats l).contains (c.toNat : Int) = false) ∨
    ∃ j : Nat, Lib.indexByte l c = (j : Int) ∧ j < l.length ∧ (nats l).takeWhile (fun x => x != (c.toNat : Int)) = (nats l).take j ∧ (nats l).dropWhile (fun x => x != (c.toNat : Int)) = (nats l).drop j ∧ (nats l).contains (c.toNat : Int) = true
  | [] => Or.inl ⟨rfl, rfl, rfl, rfl⟩
  | x :: l => by
    have hn : nats (x :: l) = (x.toNat : Int) :: nats l := rfl
    by_cases h : x = c
    · subst h
      refine Or.inr ⟨0, by simp [Lib.indexByte], by simp, ?_, ?_, ?_⟩ <;> rw [hn] <;> simp
    · have hb : (x == c) = false := by simpa using h
      have hi : ¬ ((x.toNat : Int) = (c.toNat : Int)) := fun e => h (UInt8.toNat_inj.1 (by omega))
      have hi2 : ((x.toNat : Int) != (c.toNat : Int)) = true := by simpa using hi
      have hi3 : ((c.toNat : Int) == (x.toNat : Int)) = false := by simpa using fun e => hi e.symm
      rcases idx_while c l with ⟨h1, h2, h3, h4⟩ | ⟨j, h1, h2, h3, h4, h5⟩
      · refine Or.inl ⟨by simp [Lib.indexByte, hb, h1], ?_, ?_, ?_⟩
        · rw [hn, List.takeWhile_cons, hi2, if_pos rfl, h2]
        · rw [hn, List.dropWhile_cons, hi2, if_pos rfl, h3]
        · rw [hn, List.contains_cons, hi3, h4]; rfl
      · refine Or.inr ⟨j + 1, ?_, by simpa using h2, ?_, ?_, ?_⟩
        · have : ¬ ((j : Int) = -1) := by omega
          simp [Lib.indexByte, hb, h1, this]
        · rw [hn, List.takeWhile_cons, hi2, if_pos rfl, h3]; rfl
        · rw [hn, List.dropWhile_cons, hi2, if_pos rfl, h4]; rfl
        · rw [hn, List.contains_cons, h5, Bool.or_true]
theorem Cut_f (s : ByteArray) (hs : s.size < 4294967281) (c : UInt8) : ∃ t u b, strings_Cut.f s ⟨#[c]⟩ = some (t, u, b) ∧ bytesOf t = (bytesOf s).takeWhile (fun x => x != (c.toNat : Int)) ∧ bytesOf u = ((bytesOf s).dropWhile (fun x => x != (c.toNat : Int))).drop 1 ∧ b = (bytesOf s).contains (c.toNat : Int) := by
  unfold strings_Cut.f; rw [if_pos (show (⟨#[c]⟩ : ByteArray).size = 1 from rfl)]; unfold strings_Cut.one_
  have ea : strings_Cut.at s ⟨#[c]⟩ = Lib.indexByte s.data.toList c := rfl
  rw [if_pos ⟨rfl, hs⟩, ea]
  rcases idx_while c s.data.toList with ⟨h1, h2, h3, h4⟩ | ⟨j, h1, h2, h3, h4, h5⟩
  · rw [nats_bts] at h2 h3 h4
    rw [h1, if_pos (by decide)]
    exact ⟨_, _, _, rfl, h2.symm, by rw [h3]; rfl, h4.symm⟩
  · rw [nats_bts] at h3 h4 h5
    rw [h1, if_neg (by omega), show ((j : Int)).toNat = j by omega]
    refine ⟨_, _, _, rfl, ?_, ?_, h5.symm⟩
    · rw [bts_extract, List.drop_zero, h3]
    · rw [bts_extract_to, h4, List.drop_drop]
-- digits
def isD (c : Int) : Bool := decide (48 ≤ c ∧ c ≤ 57)
def allD (l : List Int) : Bool := l.all isD
def dv (v : Int) : List Int → Int
  | [] => v
  | c :: l => dv (10 * v + (c - 48)) l
theorem isD_iff {c : Int} : isD c = true ↔ 48 ≤ c ∧ c ≤ 57 := by simp [isD]
theorem dv_ge : ∀ (l : List Int) (v : Int), allD l = true → 0 ≤ v → v ≤ dv v l
  | [], v, _, _ => Int.le_refl v
  | c :: l, v, h, hv => by
    simp only [allD, List.all_cons, Bool.and_eq_true] at h
    have hc := isD_iff.1 h.1
    have := dv_ge l (10 * v + (c - 48)) h.2 (by omega)
    show v ≤ dv (10 * v + (c - 48)) l
    omega
theorem Digit_eq (c : Int) : chars_Digit.f c = some (isD c) := by
  unfold chars_Digit.f isD
  by_cases h : c ≥ 48
  · rw [if_pos h]; congr 1; exact decide_eq_decide.2 (by omega)
  · rw [if_neg h]; congr 1; symm; exact decide_eq_false (by omega)
theorem All_Digit_eq (s : ByteArray) (hs : s.size ≤ 140737488351232) (d : Nat) : ∀ (i k : Nat), i + d = s.size → d < k → chars_All_chars_Digit_120.l0 k s (i : Int) = some (allD ((bytesOf s).drop i)) := by
  induction d with
  | zero =>
    intro i k hi hk
    obtain ⟨k, rfl⟩ : ∃ m, k = m + 1 := ⟨k - 1, by omega⟩
    simp only [chars_All_chars_Digit_120.l0]
    rw [if_neg (by omega), List.drop_of_length_le (by rw [bytesOf_length]; omega)]
    rfl
  | succ d ih =>
    intro i k hi hk
    obtain ⟨k, rfl⟩ : ∃ m, k = m + 1 := ⟨k - 1, by omega⟩
    simp only [chars_All_chars_Digit_120.l0]
    rw [if_pos (by omega), if_pos (by omega), Digit_eq, bt_rd, drop_rd (by rw [bytesOf_length]; omega), w64 (by omega)]
    simp only [Option.bind_some]
    show _ = some (allD (_ :: _))
    cases hd : isD (rd (bytesOf s) (i : Int)) with
    | true =>
      rw [if_pos rfl, show ((i : Int) + 1) = ((i + 1 : Nat) : Int) by omega, ih (i + 1) k (by omega) (by omega)]
      simp only [allD, List.all_cons, hd, Bool.true_and]
    | false =>
      rw [if_neg (by simp)]
      simp only [allD, List.all_cons, hd, Bool.false_and]
theorem All_Digit (s : ByteArray) (hs : s.size ≤ 140737488351232) {k : Nat} (hk : s.size < k) : chars_All_chars_Digit_120.f k s = some (allD (bytesOf s)) := by
  unfold chars_All_chars_Digit_120.f
  exact All_Digit_eq s hs s.size 0 k (by omega) hk
theorem digits_eq (s : ByteArray) (hs : s.size ≤ 140737488351232) (M : Int) (hM : 9 ≤ M ∧ M ≤ 9223372036854775808) (d : Nat) : ∀ (i k : Nat) (v : Int), i + d = s.size → d < k → allD ((bytesOf s).drop i) = true → 0 ≤ v → v ≤ M →
    num_digits.l0 k s M v (s.size : Int) (i : Int) = some (if dv v ((bytesOf s).drop i) > M then (0, 5) else (dv v ((bytesOf s).drop i), 0)) := by
  induction d with
  | zero =>
    intro i k v hi hk ha h0 h1
    obtain ⟨k, rfl⟩ : ∃ m, k = m + 1 := ⟨k - 1, by omega⟩
    simp only [num_digits.l0]
    rw [if_neg (by omega), List.drop_of_length_le (by rw [bytesOf_length]; omega)]
    show _ = some (if v > M then _ else (v, 0))
    rw [if_neg (by omega)]
  | succ d ih =>
    intro i k v hi hk ha h0 h1
    obtain ⟨k, rfl⟩ : ∃ m, k = m + 1 := ⟨k - 1, by omega⟩
    rw [drop_rd (by rw [bytesOf_length]; omega)] at ha ⊢
    simp only [allD, List.all_cons, Bool.and_eq_true] at ha
    have hc := isD_iff.1 ha.1
    simp only [num_digits.l0]
    rw [if_pos (by omega), if_pos (by omega), if_pos (by omega), bt_rd]
    have e1 : (rd (bytesOf s) (i : Int) - 48) % 256 = rd (bytesOf s) (i : Int) - 48 := by omega
    rw [e1, wu64 (x := M - (rd (bytesOf s) (i : Int) - 48)) (by omega), Int.tdiv_eq_ediv_of_nonneg (by omega), wu64 (x := (M - (rd (bytesOf s) (i : Int) - 48)) / 10) (by omega)]
    show _ = some (if dv (10 * v + (rd (bytesOf s) (i : Int) - 48)) ((bytesOf s).drop (i + 1)) > M then (0, 5) else (dv (10 * v + (rd (bytesOf s) (i : Int) - 48)) ((bytesOf s).drop (i + 1)), 0))
    by_cases c : v > (M - (rd (bytesOf s) (i : Int) - 48)) / 10
    · rw [if_pos c, if_pos]
      have := dv_ge ((bytesOf s).drop (i + 1)) (10 * v + (rd (bytesOf s) (i : Int) - 48)) ha.2 (by omega)
      omega
    · rw [if_neg c, wu64 (x := v * 10) (by omega), wu64 (x := v * 10 + (rd (bytesOf s) (i : Int) - 48)) (by omega), w64 (by omega), show ((i : Int) + 1) = ((i + 1 : Nat) : Int) by omega, show v * 10 + (rd (bytesOf s) (i : Int) - 48) = 10 * v + (rd (bytesOf s) (i : Int) - 48) by omega]
      exact ih (i + 1) k _ (by omega) (by omega) ha.2 (by omega) (by omega)
theorem digits_f (s : ByteArray) (hs : s.size ≤ 140737488351232) {M : Int} (hM : 9 ≤ M ∧ M ≤ 9223372036854775808) {k : Nat} (hk : s.size < k) (ha : allD (bytesOf s) = true) :
    num_digits.f k s M = some (if dv 0 (bytesOf s) > M then (0, 5) else (dv 0 (bytesOf s), 0)) := by
  unfold num_digits.f
  exact digits_eq s hs M hM s.size 0 k 0 (by omega) hk ha (by omega) (by omega)
/-- Is a text of digits wrong? -/
def badD (l : List Int) : Bool := l.isEmpty || !allD l || (decide (1 < l.length) && rd l 0 == 48)
def maxP : Bool → Int
  | true => 9223372036854775808
  | false => 9223372036854775807
/-- What digits, behind a minus or without, are. -/
def parseD (m : Bool) (l : List Int) : Int × Int := if badD l = true then (0, 3) else if dv 0 l > maxP m then (0, 5) else (if m = true then -dv 0 l else dv 0 l, 0)
/-- Which number a text is. -/
def parseN (l : List Int) : Int × Int := if l ≠ [] ∧ rd l 0 = 45 then parseD true (l.drop 1) else parseD false l
-- sizes
def sizeN (l : List Int) : Int × Int := if l = [] ∨ allD l = false then (0, 3) else if dv 0 l > 2147483647 then (0, 5) else (dv 0 l, 0)
theorem Size_eq (s : ByteArray) (hs : s.size ≤ 140737488351232) {k : Nat} (hk : s.size < k) : num_Size.f k s = some (sizeN (bytesOf s)) := by
  unfold num_Size.f
  by_cases c : s.toList = ([] : List UInt8)
  · rw [if_pos c, (tl_nil s).1 c]; rfl
  have hn : bytesOf s ≠ [] := fun h => c ((tl_nil s).2 h)
  rw [if_neg c, All_Digit s hs hk]
  simp only [Option.bind_some]
  cases ha : allD (bytesOf s) with
  | false => unfold sizeN; rw [ha]; simp
  | true =>
    have h0 := dv_ge (bytesOf s) 0 ha (by omega)
    rw [if_pos rfl, digits_f s hs (by omega) hk ha]
    simp only [Option.bind_some]
    unfold sizeN
    rw [ha]
    by_cases c1 : dv 0 (bytesOf s) > 2147483647
    · simp only [if_pos c1]
      rw [if_neg (by simp [hn]), w64 (by omega)]
    · simp only [if_neg c1]
      rw [if_neg (by simp [hn]), w64 (by omega)]
-- a number's digits by a base
def dig (d : Int) : Int := if d < 10 then 48 + d else 87 + d
def digs (b v : Nat) : List Int := if h : v < b ∨ b < 2 then [dig v] else digs b (v / b) ++ [dig ((v % b : Nat) : Int)]
termination_by v
decreasing_by exact Nat.div_lt_self (by omega) (by omega)
theorem digs_lt {b v : Nat} (h : v < b) : digs b v = [dig v] := by rw [digs, dif_pos (Or.inl h)]
theorem digs_ge {b v : Nat} (h : b ≤ v) (hb : 2 ≤ b) : digs b v = digs b (v / b) ++ [dig ((v % b : Nat) : Int)] := by rw [digs, dif_neg (by omega)]
theorem digs_ne (b v : Nat) : digs b v ≠ [] := by
  rw [digs]
  split <;> simp
theorem hex_one : ∀ d : Fin 16, bytesOf ((⟨#[48, 49, 50, 51, 52, 53, 54, 55, 56, 57, 97, 98, 99, 100, 101, 102]⟩ : ByteArray).extract d.val (d.val + 1)) = [dig (d.val : Int)] := by decide +kernel
theorem hex_one' {d : Nat} (h : d < 16) : bytesOf ((⟨#[48, 49, 50, 51, 52, 53, 54, 55, 56, 57, 97, 98, 99, 100, 101, 102]⟩ : ByteArray).extract d (d + 1)) = [dig (d : Int)] := hex_one ⟨d, h⟩
theorem hex_size {d : Nat} (h : d < 16) : ((⟨#[48, 49, 50, 51, 52, 53, 54, 55, 56, 57, 97, 98, 99, 100, 101, 102]⟩ : ByteArray).extract d (d + 1)).size = 1 := by
  rw [bts_size, hex_one' h]; rfl
theorem based_eq {b : Nat} (hb : b = 10 ∨ b = 16) (f : Nat) : ∀ (v k : Nat) (acc : ByteArray), v < 2 ^ f → v < 18446744073709551616 → f + 3 ≤ k → acc.size + f ≤ 1000 →
    ∃ t, num_based.l0 k (v : Int) (b : Int) acc true = some t ∧ bytesOf t = digs b v ++ bytesOf acc ∧ t.size ≤ acc.size + f + 1 := by
  have hb2 : 2 ≤ b ∧ b ≤ 16 := by omega
  induction f with
  | zero =>
    intro v k acc hv hv' hk ha
    obtain ⟨k, rfl⟩ : ∃ m, k = m + 2 := ⟨k - 2, by omega⟩
    obtain rfl : v = 0 := by simp at hv; exact hv
    have hm : Int.tmod ((0 : Nat) : Int) (b : Int) = 0 := by simp
    have hd : Int.tdiv ((0 : Nat) : Int) (b : Int) = 0 := by simp
    have hz : IntKind.u64.wrap 0 = 0 := wu64 (by omega)
    have ho : IntKind.u64.wrap (0 + 1) = 1 := wu64 (by omega)
    have hs := hex_size (d := 0) (by omega)
    simp only [num_based.l0]
    rw [if_pos trivial, if_neg (by omega), hm, hd, hz, ho, if_pos (by omega), if_pos (by omega), if_pos (by omega), if_pos (by rw [show ((0 : Int)).toNat = 0 from rfl, show ((1 : Int)).toNat = 0 + 1 from rfl, hs]; omega)]
    refine ⟨_, by rw [if_neg (by simp)], ?_, ?_⟩
    · rw [bts_append, show ((0 : Int)).toNat = 0 from rfl, show ((1 : Int)).toNat = 0 + 1 from rfl, hex_one' (by omega), digs_lt (by omega)]
    · rw [bts_size, bts_append, show ((0 : Int)).toNat = 0 from rfl, show ((1 : Int)).toNat = 0 + 1 from rfl, hex_one' (by omega), List.length_append, bytesOf_length]; simp; omega
  | succ f ih =>
    intro v k acc hv hv' hk ha
    obtain ⟨k, rfl⟩ : ∃ m, k = m + 1 := ⟨k - 1, by omega⟩
    have hm : Int.tmod (v : Int) (b : Int) = ((v % b : Nat) : Int) := by rw [Int.tmod_eq_emod_of_nonneg (by omega)]; simp
    have hd : Int.tdiv (v : Int) (b : Int) = ((v / b : Nat) : Int) := by rw [Int.tdiv_eq_ediv_of_nonneg (by omega)]; simp
    have hlt : v % b < 16 := by have := Nat.mod_lt v (show 0 < b by omega); omega
    have hle : v / b ≤ v := Nat.div_le_self v b
    have hs := hex_size hlt
    have e1 : IntKind.u64.wrap (((v % b : Nat) : Int) + 1) = ((v % b : Nat) : Int) + 1 := wu64 (by omega)
    have e2 : IntKind.u64.wrap ((v / b : Nat) : Int) = ((v / b : Nat) : Int) := wu64 ⟨Int.natCast_nonneg _, by have h_ := Nat.le_trans hle (show v ≤ 18446744073709551615 by omega); exact Int.ofNat_le.2 h_⟩
    have t1 : (((v % b : Nat) : Int)).toNat = v % b := by omega
    have t2 : (((v % b : Nat) : Int) + 1).toNat = v % b + 1 := by omega
    simp only [num_based.l0]
    rw [if_pos trivial, if_neg (by omega), hm, hd, e1, e2, t1, t2, if_pos (by omega), if_pos (by omega), if_pos (by omega), if_pos (by omega)]
    by_cases c : v < b
    · have hz : v / b = 0 := Nat.div_eq_of_lt c
      obtain ⟨k, rfl⟩ : ∃ m, k = m + 1 := ⟨k - 1, by omega⟩
      rw [hz]
      simp only [num_based.l0]
      refine ⟨_, by rw [if_neg (by simp)], ?_, ?_⟩
      · rw [bts_append, hex_one' hlt, digs_lt c, Nat.mod_eq_of_lt c]
      · rw [bts_size, bts_append, hex_one' hlt, List.length_append, bytesOf_length]; simp; omega
    · have hpos : 0 < v / b := Nat.div_pos (by omega) (by omega)
      have hhalf : v / b < 2 ^ f := by
        rw [Nat.pow_succ] at hv
        have : v / b ≤ v / 2 := Nat.div_le_div_left hb2.1 (by omega)
        omega
      have hdec : decide (((v / b : Nat) : Int) > 0) = true := decide_eq_true (by omega)
      rw [hdec]
      have hsz : ((⟨#[48, 49, 50, 51, 52, 53, 54, 55, 56, 57, 97, 98, 99, 100, 101, 102]⟩ : ByteArray).extract (v % b) (v % b + 1) ++ acc).size = 1 + acc.size := by
        rw [bts_size, bts_append, hex_one' hlt, List.length_append, bytesOf_length]; simp
      obtain ⟨t, h1, h2, h3⟩ := ih (v / b) k ((⟨#[48, 49, 50, 51, 52, 53, 54, 55, 56, 57, 97, 98, 99, 100, 101, 102]⟩ : ByteArray).extract (v % b) (v % b + 1) ++ acc) hhalf (by omega) (by omega) (by omega)
      refine ⟨t, h1, ?_, by rw [hsz] at h3; clear hd e2 hpos hhalf hdec h1 h2 hle; omega⟩
      rw [h2, bts_append, hex_one' hlt, digs_ge (v := v) (by omega) hb2.1, List.append_assoc]
theorem based_f {b : Nat} (hb : b = 10 ∨ b = 16) (v : Nat) (hv : v < 18446744073709551616) {k : Nat} (hk : 67 ≤ k) : ∃ t, num_based.f k (v : Int) (b : Int) = some t ∧ bytesOf t = digs b v ∧ t.size ≤ 65 := by
  obtain ⟨t, h1, h2, h3⟩ := based_eq hb 64 v k ⟨#[]⟩ (by omega) hv hk (by decide)
  exact ⟨t, h1, by rw [h2]; simp [bytesOf], by rw [show ByteArray.size (⟨#[]⟩ : ByteArray) = 0 from rfl] at h3; omega⟩
theorem dv_snoc : ∀ (l : List Int) (v c : Int), dv v (l ++ [c]) = 10 * dv v l + (c - 48)
  | [], v, c => rfl
  | x :: l, v, c => dv_snoc l (10 * v + (x - 48)) c
theorem allD_append (a b : List Int) : allD (a ++ b) = (allD a && allD b) := by simp [allD]
theorem digs10_all (v : Nat) : allD (digs 10 v) = true ∧ dv 0 (digs 10 v) = v := by
  induction v using Nat.strongRecOn with
  | _ v ih =>
    by_cases c : v < 10
    · rw [digs_lt c]
      have e : dig (v : Int) = 48 + v := by unfold dig; rw [if_pos (by omega)]
      refine ⟨by simp [allD, isD, e]; omega, by rw [e]; show 10 * 0 + (48 + (v : Int) - 48) = v; omega⟩
    · rw [digs_ge (v := v) (by omega) (by omega)]
      obtain ⟨h1, h2⟩ := ih (v / 10) (Nat.div_lt_self (by omega) (by omega))
      have e : dig ((v % 10 : Nat) : Int) = 48 + ((v % 10 : Nat) : Int) := by unfold dig; rw [if_pos (by omega)]
      refine ⟨by rw [allD_append, h1, Bool.true_and]; show (isD _ && true) = true; rw [e, Bool.and_true]; exact isD_iff.2 (by omega), ?_⟩
      rw [dv_snoc, h2, e]; omega
theorem rd_append_zero {a : List Int} (h : a ≠ []) (b : List Int) : rd (a ++ b) 0 = rd a 0 := by
  cases a with
  | nil => exact absurd rfl h
  | cons x a => rfl
theorem digs_head {b : Nat} (hb : b = 10 ∨ b = 16) (v : Nat) (hv : 0 < v) : rd (digs b v) 0 ≠ 48 ∧ rd (digs b v) 0 ≠ 45 := by
  induction v using Nat.strongRecOn with
  | _ v ih =>
    by_cases c : v < b
    · rw [digs_lt c, rd_cons_zero]
      unfold dig
      split <;> omega
    · rw [digs_ge (v := v) (by omega) (by omega), rd_append_zero (digs_ne _ _)]
      exact ih (v / b) (Nat.div_lt_self (by omega) (by omega)) (Nat.div_pos (by omega) (by omega))
theorem digs_head0 {b : Nat} (hb : b = 10 ∨ b = 16) (v : Nat) : rd (digs b v) 0 ≠ 45 := by
  by_cases h : 0 < v
  · exact (digs_head hb v h).2
  · obtain rfl : v = 0 := by omega
    rw [digs_lt (by omega)]
    show dig ((0 : Nat) : Int) ≠ 45
    decide
theorem bad_digs (v : Nat) : badD (digs 10 v) = false := by
  unfold badD
  have hne : (digs 10 v).isEmpty = false := by cases h : digs 10 v with | nil => exact absurd h (digs_ne 10 v) | cons => rfl
  rw [hne, (digs10_all v).1]
  simp only [Bool.not_true, Bool.false_or, Bool.and_eq_false_iff, decide_eq_false_iff_not, beq_eq_false_iff_ne]
  by_cases c : v < 10
  · left; rw [digs_lt c]; simp
  · right; exact (digs_head (Or.inl rfl) v (by omega)).1
/-- A number as text. -/
def printN (n : Int) : List Int := if n < 0 then 45 :: digs 10 (-n).toNat else digs 10 n.toNat
theorem Print_eq {n : Int} (h : -9223372036854775808 ≤ n ∧ n ≤ 9223372036854775807) {k : Nat} (hk : 67 ≤ k) : ∃ t, num_Print.f k n = some t ∧ bytesOf t = printN n ∧ t.size ≤ 66 := by
  unfold num_Print.f printN
  by_cases c : n < 0
  · rw [if_pos c, if_pos c]
    have e : IntKind.u64.wrap (-(IntKind.u64.wrap n)) = ((-n).toNat : Int) := by rw [u64w, u64w]; omega
    obtain ⟨t, h1, h2, h3⟩ := based_f (b := 10) (Or.inl rfl) (-n).toNat (by omega) hk
    rw [e, show (10 : Int) = ((10 : Nat) : Int) from rfl, h1]
    simp only [Option.bind_some]
    rw [if_pos (by omega)]
    exact ⟨_, rfl, by rw [bts_append, h2]; rfl, by rw [bts_size, bts_append, List.length_append, bytesOf_length t]; simp [bytesOf]; omega⟩
  · rw [if_neg c, if_neg c]
    have e : IntKind.u64.wrap n = (n.toNat : Int) := by rw [u64w]; omega
    obtain ⟨t, h1, h2, h3⟩ := based_f (b := 10) (Or.inl rfl) n.toNat (by omega) hk
    rw [e, show (10 : Int) = ((10 : Nat) : Int) from rfl, h1]
    exact ⟨t, rfl, h2, by omega⟩
theorem parse_print {n : Int} (h : -9223372036854775808 ≤ n ∧ n ≤ 9223372036854775807) : parseN (printN n) = (n, 0) := by
  unfold parseN printN
  by_cases c : n < 0
  · rw [if_pos c, if_pos ⟨by simp, rfl⟩]
    simp only [List.drop_succ_cons, List.drop_zero]
    unfold parseD
    rw [bad_digs, if_neg (by simp), (digs10_all _).2, if_neg (by simp only [maxP]; omega), if_pos rfl]
    congr 1; omega
  · rw [if_neg c, if_neg (fun h => digs_head0 (Or.inl rfl) _ h.2)]
    unfold parseD
    rw [bad_digs, if_neg (by simp), (digs10_all _).2, if_neg (by simp only [maxP]; omega), if_neg (by simp)]
    congr 1; omega
-- blanks around
def blI (x : Int) : Bool := x == 32 || x == 9
def ltrim (l : List Int) : List Int := l.dropWhile blI
def rtrim (l : List Int) : List Int := (l.reverse.dropWhile blI).reverse
def trimN (l : List Int) : List Int := rtrim (ltrim l)
theorem rtrim_nil : rtrim [] = [] := rfl
theorem rtrim_snoc (l : List Int) (x : Int) : rtrim (l ++ [x]) = if blI x = true then rtrim l else l ++ [x] := by
  unfold rtrim
  rw [List.reverse_append]
  simp only [List.reverse_cons, List.reverse_nil, List.nil_append, List.cons_append, List.dropWhile_cons]
  split
  · rfl
  · simp
theorem rtrim_cons (x : Int) (l : List Int) : rtrim (x :: l) = if rtrim l = [] then (if blI x = true then [] else [x]) else x :: rtrim l := by
  unfold rtrim
  rw [List.reverse_cons, List.dropWhile_append]
  cases h : l.reverse.dropWhile blI with
  | nil =>
    simp only [List.isEmpty_nil, if_true, List.reverse_nil, List.dropWhile_cons, List.dropWhile_nil]
    split <;> simp
  | cons a t => simp
theorem ltrim_cons (x : Int) (l : List Int) : ltrim (x :: l) = if blI x = true then ltrim l else x :: l := by
  unfold ltrim
  rw [List.dropWhile_cons]
theorem trim_comm : ∀ l, ltrim (rtrim l) = trimN l
  | [] => rfl
  | x :: l => by
    have ih := trim_comm l
    unfold trimN at ih ⊢
    rw [ltrim_cons, rtrim_cons]
    by_cases hx : blI x = true
    · simp only [if_pos hx]
      by_cases hr : rtrim l = []
      · rw [if_pos hr]
        rw [hr] at ih
        exact ih
      · rw [if_neg hr, ltrim_cons, if_pos hx, ih]
    · simp only [if_neg hx]
      rw [rtrim_cons]
      by_cases hr : rtrim l = []
      · rw [if_pos hr, if_neg hx, ltrim_cons, if_neg hx, if_pos hr]
      · rw [if_neg hr, ltrim_cons, if_neg hx, if_neg hr]
theorem bl_eq (x : UInt8) : strings_Trim.bl x = blI (x.toNat : Int) := by
  unfold strings_Trim.bl blI
  rw [Bool.eq_iff_iff]
  simp only [List.contains_eq_mem, List.mem_cons, List.not_mem_nil, or_false, decide_eq_true_eq, Bool.or_eq_true, beq_iff_eq]
  constructor
  · rintro (rfl | rfl) <;> decide
  · rintro (h | h)
    · left; exact UInt8.toNat_inj.1 (show x.toNat = 32 by omega)
    · right; exact UInt8.toNat_inj.1 (show x.toNat = 9 by omega)
theorem bl_at (s : ByteArray) (i : Nat) (h : i < s.size) : strings_Trim.bl (s.data.toList.getD i 0) = blI (rd (bytesOf s) (i : Int)) := by
  rw [bl_eq]
  congr 1
  rw [← bt_rd]
  have hl : i < s.data.toList.length := by have := h; simpa using this
  rw [List.getD_eq_getElem?_getD, List.getElem?_eq_getElem hl]
  rw [bt_rd]
  unfold rd bytesOf
  simp [List.getD_eq_getElem?_getD, List.getElem?_eq_getElem hl]
theorem bts_trimR (s : ByteArray) : ∀ n, n ≤ s.size → bytesOf (s.extract 0 (strings_Trim.rcut s n)) = rtrim ((bytesOf s).take n)
  | 0, _ => by
    show bytesOf (s.extract 0 0) = _
    rw [bts_extract]; rfl
  | n + 1, h => by
    have hl : n < (bytesOf s).length := by rw [bytesOf_length]; omega
    unfold strings_Trim.rcut
    rw [bl_at s n (by omega), List.take_succ_eq_append_getElem hl, rtrim_snoc]
    have e : (bytesOf s)[n] = rd (bytesOf s) (n : Int) := by unfold rd; simp [List.getD_eq_getElem?_getD, List.getElem?_eq_getElem hl]
    rw [e]
    split
    · exact bts_trimR s n (by omega)
    · rw [bts_extract, List.drop_zero, List.take_succ_eq_append_getElem hl, e]
theorem bts_trimL (s : ByteArray) : ∀ f i, i + f = s.size → bytesOf (s.extract (strings_Trim.lcut s f i) s.size) = ltrim ((bytesOf s).drop i)
  | 0, i, h => by
    unfold strings_Trim.lcut
    rw [bts_extract_to, List.drop_of_length_le (by rw [bytesOf_length]; omega)]; rfl
  | f + 1, i, h => by
    unfold strings_Trim.lcut
    rw [bl_at s i (by omega), drop_rd (by rw [bytesOf_length]; omega), ltrim_cons]
    split
    · exact bts_trimL s f (i + 1) (by omega)
    · rw [bts_extract_to, drop_rd (by rw [bytesOf_length]; omega)]
theorem Trim_f (s : ByteArray) (hs : s.size ≤ 9223372036854775807) : ∃ t, chars_Trim.f s = some t ∧ bytesOf t = trimN (bytesOf s) ∧ t.size ≤ s.size := by
  unfold chars_Trim.f strings_Trim.f
  rw [if_pos ⟨rfl, hs⟩]
  have e : bytesOf (strings_Trim.trimL (strings_Trim.trimR s)) = trimN (bytesOf s) := by
    have e2 : bytesOf (strings_Trim.trimR s) = rtrim (bytesOf s) := by
      have := bts_trimR s s.size (Nat.le_refl _)
      rw [List.take_of_length_le (by rw [bytesOf_length]; exact Nat.le_refl _)] at this
      exact this
    have := bts_trimL (strings_Trim.trimR s) (strings_Trim.trimR s).size 0 (by omega)
    rw [List.drop_zero, e2, trim_comm] at this
    exact this
  refine ⟨_, rfl, e, ?_⟩
  unfold strings_Trim.trimL strings_Trim.trimR
  simp only [ByteArray.size_extract]
  omega
-- without great letters
theorem low_byt {l : List Int} (h : Byt l) : Byt (l.map chars_Lower.low) := by
  intro x hx
  obtain ⟨y, hy, rfl⟩ := List.mem_map.1 hx
  have := h y hy
  unfold chars_Lower.low
  split <;> omega
theorem low_low (l : List Int) : (l.map chars_Lower.low).map chars_Lower.low = l.map chars_Lower.low := by
  rw [List.map_map]
  apply List.map_congr_left
  intro x _
  show chars_Lower.low (chars_Lower.low x) = chars_Lower.low x
  by_cases h : 65 ≤ x ∧ x ≤ 90
  · have e : chars_Lower.low x = x + 32 := by unfold chars_Lower.low; rw [if_pos h]
    rw [e]
    unfold chars_Lower.low
    rw [if_neg (by omega)]
  · have e : chars_Lower.low x = x := by unfold chars_Lower.low; rw [if_neg h]
    rw [e, e]
theorem Lower_f (s : ByteArray) (hs : s.size ≤ 140737488351232) : ∃ t, chars_Lower.f s = some t ∧ bytesOf t = (bytesOf s).map chars_Lower.low ∧ t.size = s.size := by
  refine ⟨strOfNums ((bytesOf s).map chars_Lower.low), by unfold chars_Lower.f; rw [if_pos hs], bts_son (low_byt (bts_byt s)), ?_⟩
  rw [bts_size, bts_son (low_byt (bts_byt s)), List.length_map, bytesOf_length]
-- a field's line, as lists of numbers
def tokI (c : Int) : Bool := chars_Token.f c == some true
def valI (c : Int) : Bool := decide (c = 9 ∨ 32 ≤ c ∧ c ≠ 127)
def nameL (l : List Int) : List Int := l.takeWhile (fun x => x != 58)
def valueL (l : List Int) : List Int := (l.dropWhile (fun x => x != 58)).drop 1
def fieldOk (l : List Int) : Bool := l.contains 58 && (!(nameL l).isEmpty && (nameL l).all tokI) && (valueL l).all valI
def fieldR (l : List Int) : List Int × List Int × Bool := if fieldOk l = true then (nameL l, trimN (valueL l), true) else ([], [], false)
theorem tok_fin : ∀ c : Fin 256, chars_Token.f (c.val : Int) = some (tokI (c.val : Int)) := by decide +kernel
theorem tok_f {c : Int} (h : 0 ≤ c ∧ c ≤ 255) : chars_Token.f c = some (tokI c) := by
  have := tok_fin ⟨c.toNat, by omega⟩
  rwa [show ((⟨c.toNat, by omega⟩ : Fin 256).val : Int) = c from by show ((c.toNat : Nat) : Int) = c; omega] at this
theorem AllTok_l0 (s : ByteArray) (hs : s.size ≤ 10000000) : ∀ (d k i : Nat), i + d = s.size → d < k → chars_All_chars_Token_116.l0 k s (i : Int) = some (((bytesOf s).drop i).all tokI)
  | 0, k + 1, i, h1, h2 => by
    simp only [chars_All_chars_Token_116.l0]
    rw [if_neg (by omega), List.drop_of_length_le (by rw [← bts_size]; omega)]
    rfl
  | d + 1, k + 1, i, h1, h2 => by
    simp only [chars_All_chars_Token_116.l0]
    rw [if_pos (by omega), if_pos (by omega), bt_rd, tok_f ((bts_byt s).rd _), drop_rd (l := bytesOf s) (i := i) (by rw [← bts_size]; omega), List.all_cons]
    simp only [Option.bind_some]
    cases tokI (rd (bytesOf s) (i : Int)) with
    | true => rw [if_pos rfl, w64 (by omega), show (i : Int) + 1 = ((i + 1 : Nat) : Int) by omega, AllTok_l0 s hs d k (i + 1) (by omega) (by omega)]; rfl
    | false => rw [if_neg (by simp)]; rfl
theorem AllTok_f (s : ByteArray) (hs : s.size ≤ 10000000) {k : Nat} (hk : s.size < k) : chars_All_chars_Token_116.f k s = some ((bytesOf s).all tokI) := by
  unfold chars_All_chars_Token_116.f
  exact AllTok_l0 s hs s.size k 0 (by omega) hk
theorem val_f (c : Int) : head_inValue.f c = some (valI c) := by
  unfold head_inValue.f valI
  by_cases c1 : c = 9
  · rw [if_pos c1, decide_eq_true (Or.inl c1)]
  rw [if_neg c1]
  by_cases c2 : c ≥ 32
  · rw [if_pos c2]
    have : (c != 127) = decide (c = 9 ∨ 32 ≤ c ∧ c ≠ 127) := by rw [Bool.eq_iff_iff, bne_iff_ne, decide_eq_true_eq]; omega
    rw [this]
  · rw [if_neg c2, decide_eq_false (by omega)]
theorem AllVal_l0 (s : ByteArray) (hs : s.size ≤ 10000000) : ∀ (d k i : Nat), i + d = s.size → d < k → chars_All_head_inValue_117.l0 k s (i : Int) = some (((bytesOf s).drop i).all valI)
  | 0, k + 1, i, h1, h2 => by
    simp only [chars_All_head_inValue_117.l0]
    rw [if_neg (by omega), List.drop_of_length_le (by rw [← bts_size]; omega)]
    rfl
  | d + 1, k + 1, i, h1, h2 => by
    simp only [chars_All_head_inValue_117.l0]
    rw [if_pos (by omega), if_pos (by omega), bt_rd, val_f, drop_rd (l := bytesOf s) (i := i) (by rw [← bts_size]; omega), List.all_cons]
    simp only [Option.bind_some]
    cases valI (rd (bytesOf s) (i : Int)) with
    | true => rw [if_pos rfl, w64 (by omega), show (i : Int) + 1 = ((i + 1 : Nat) : Int) by omega, AllVal_l0 s hs d k (i + 1) (by omega) (by omega)]; rfl
    | false => rw [if_neg (by simp)]; rfl
theorem AllVal_f (s : ByteArray) (hs : s.size ≤ 10000000) {k : Nat} (hk : s.size < k) : chars_All_head_inValue_117.f k s = some ((bytesOf s).all valI) := by
  unfold chars_All_head_inValue_117.f
  exact AllVal_l0 s hs s.size k 0 (by omega) hk
theorem while_len (p : Int → Bool) (l : List Int) : (l.takeWhile p).length ≤ l.length ∧ (l.dropWhile p).length ≤ l.length := by
  induction l with
  | nil => simp
  | cons x l ih =>
    rw [List.takeWhile_cons, List.dropWhile_cons]
    split
    · simp only [List.length_cons]; omega
    · simp
theorem OfField_f (s : ByteArray) (hs : s.size ≤ 5000000) {k : Nat} (hk : 5000001 ≤ k) : ∃ a b, head_OfField.f k s = some (a, b, (fieldR (bytesOf s)).2.2) ∧ bytesOf a = (fieldR (bytesOf s)).1 ∧ bytesOf b = (fieldR (bytesOf s)).2.1 ∧ a.size ≤ s.size ∧ b.size ≤ s.size := by
  obtain ⟨t, u, b, e1, e2, e3, e4⟩ := Cut_f s (by omega) 58
  have e2' : bytesOf t = nameL (bytesOf s) := e2
  have e3' : bytesOf u = valueL (bytesOf s) := e3
  have e4' : b = (bytesOf s).contains 58 := e4
  have hz := bts_size s
  have hw := while_len (fun x => x != 58) (bytesOf s)
  have ht : t.size ≤ s.size := by rw [bts_size, e2', hz]; exact hw.1
  have hu : u.size ≤ s.size := by
    rw [bts_size, e3', hz]
    unfold valueL
    rw [List.length_drop]
    omega
  have fail : fieldOk (bytesOf s) = false → ∃ a b, (some ((⟨#[]⟩ : ByteArray), (⟨#[]⟩ : ByteArray), false) : Option (ByteArray × ByteArray × Bool)) = some (a, b, (fieldR (bytesOf s)).2.2) ∧ bytesOf a = (fieldR (bytesOf s)).1 ∧ bytesOf b = (fieldR (bytesOf s)).2.1 ∧ a.size ≤ s.size ∧ b.size ≤ s.size := by
    intro h
    unfold fieldR
    rw [if_neg (by rw [h]; simp)]
    exact ⟨_, _, rfl, rfl, rfl, Nat.zero_le _, Nat.zero_le _⟩
  unfold head_OfField.f
  rw [show (⟨#[58]⟩ : ByteArray) = ⟨#[(58 : UInt8)]⟩ from rfl, e1]
  simp only [Option.bind_some]
  cases b with
  | false => rw [if_neg (by simp)]; exact fail (by unfold fieldOk; rw [← e4']; rfl)
  | true =>
    rw [if_pos rfl]
    by_cases c1 : t.toList = ([] : List UInt8)
    · rw [if_pos c1]
      have : nameL (bytesOf s) = [] := by rw [← e2']; exact (tl_nil t).1 c1
      exact fail (by unfold fieldOk; rw [this]; simp)
    have c1' : (nameL (bytesOf s)).isEmpty = false := by
      cases h : nameL (bytesOf s) with
      | nil => exact absurd ((tl_nil t).2 (by rw [e2', h])) c1
      | cons x l => rfl
    rw [if_neg c1, AllTok_f t (by omega) (by omega), e2']
    simp only [Option.bind_some]
    cases c2 : (nameL (bytesOf s)).all tokI with
    | false => rw [if_neg (by simp)]; exact fail (by unfold fieldOk; rw [c2]; simp)
    | true =>
      rw [if_pos rfl, AllVal_f u (by omega) (by omega), e3']
      simp only [Option.bind_some]
      cases c3 : (valueL (bytesOf s)).all valI with
      | false => rw [if_neg (by simp)]; exact fail (by unfold fieldOk; rw [c3]; simp)
      | true =>
        obtain ⟨v, v1, v2, v3⟩ := Trim_f u (by omega)
        rw [if_pos rfl, v1]
        have hok : fieldOk (bytesOf s) = true := by unfold fieldOk; rw [← e4', c1', c2, c3]; rfl
        unfold fieldR
        rw [if_pos hok]
        exact ⟨t, v, rfl, e2', by rw [v2, e3'], ht, by omega⟩
def codes : List Int := [200, 201, 204, 304, 400, 404, 405, 408, 410, 412, 413, 414, 428, 431, 501, 503, 505, 507]
theorem hit0 : ∀ a ∈ codes, (reply_Reason.f a).isSome = true := by decide +kernel
theorem Reason_some (a : Int) : ∃ t, reply_Reason.f a = some t := by
  by_cases hm : a ∈ codes
  · exact Option.isSome_iff_exists.1 (hit0 a hm)
  · refine ⟨(⟨#[85, 110, 107, 110, 111, 119, 110]⟩ : ByteArray), ?_⟩
    unfold codes at hm
    simp only [List.mem_cons, List.not_mem_nil, or_false, not_or] at hm
    unfold reply_Reason.f
    simp only [hm, if_false]
def natsU (l : List UInt8) : List Int := l.map fun x => (x.toNat : Int)
theorem bts_mk (l : List UInt8) : bytesOf ⟨l.toArray⟩ = natsU l := by simp [bytesOf, natsU]
-- replies, as lists of numbers
def fl61 (x : S61) : List Int × List Int := (bytesOf x.f0, bytesOf x.f1)
def fl64 (x : S64) : List Int × List Int := (bytesOf x.f0, bytesOf x.f1)
def of64 (x : S64) : S61 := ⟨x.f0, x.f1⟩
theorem drop61 {l : List S61} {i : Nat} (h : i < l.length) : l.drop i = rd_T61 l (i : Int) :: l.drop (i + 1) := by
  rw [List.drop_eq_getElem_cons h]
  unfold rd_T61
  simp [List.getD_eq_getElem?_getD, List.getElem?_eq_getElem h]
theorem drop64 {l : List S64} {i : Nat} (h : i < l.length) : l.drop i = rd_T64 l (i : Int) :: l.drop (i + 1) := by
  rw [List.drop_eq_getElem_cons h]
  unfold rd_T64
  simp [List.getD_eq_getElem?_getD, List.getElem?_eq_getElem h]
theorem mem61 {l : List S61} {i : Nat} (h : i < l.length) : rd_T61 l (i : Int) ∈ l := by
  have := drop61 h
  exact List.mem_of_mem_drop (i := i) (by rw [this]; simp)
theorem mem64 {l : List S64} {i : Nat} (h : i < l.length) : rd_T64 l (i : Int) ∈ l := by
  have := drop64 h
  exact List.mem_of_mem_drop (i := i) (by rw [this]; simp)
def lowL (l : List Int) : List Int := l.map chars_Lower.low
def clen : List Int := [99, 111, 110, 116, 101, 110, 116, 45, 108, 101, 110, 103, 116, 104]
def rightF (n v : List Int) : Bool := decide (fieldR (n ++ 58 :: v) = (n, v, true)) && !decide (lowL n = clen)
def Small61 (l : List S61) : Prop := l.length ≤ 1000 ∧ ∀ x ∈ l, x.f0.size ≤ 1048576 ∧ x.f1.size ≤ 1048576
def Small64 (l : List S64) : Prop := l.length ≤ 1000 ∧ ∀ x ∈ l, x.f0.size ≤ 1048576 ∧ x.f1.size ≤ 1048576
theorem ba_app (a b : ByteArray) : (a ++ b).size = a.size + b.size := ByteArray.size_append
theorem fieldR_cases (a b : ByteArray) (n v : ByteArray) (l : List Int) (h1 : bytesOf a = (fieldR l).1) (h2 : bytesOf b = (fieldR l).2.1) : ((fieldR l).2.2 = true ∧ (!(n.toList == a.toList) || (!(v.toList == b.toList))) = false) ↔ fieldR l = (bytesOf n, bytesOf v, true) := by
  rw [Bool.or_eq_false_iff, Bool.not_eq_false', Bool.not_eq_false', beq_iff_eq, beq_iff_eq, tl_iff, tl_iff, h1, h2]
  constructor
  · rintro ⟨e1, e2, e3⟩
    rw [e2, e3, ← e1]
  · intro e
    rw [e]
    exact ⟨rfl, rfl, rfl⟩
theorem right1_f (n v : ByteArray) (hn : n.size ≤ 1048576) (hv : v.size ≤ 1048576) {k : Nat} (hk : 5000001 ≤ k) : reply_right_1.f k n v = some (!(rightF (bytesOf n) (bytesOf v))) := by
  have hc : ((n ++ (⟨#[58]⟩ : ByteArray)) ++ v).size = n.size + 1 + v.size := by rw [ba_app, ba_app]; rfl
  have hc1 : (n ++ (⟨#[58]⟩ : ByteArray)).size = n.size + 1 := by rw [ba_app]; rfl
  have hl : bytesOf ((n ++ (⟨#[58]⟩ : ByteArray)) ++ v) = bytesOf n ++ 58 :: bytesOf v := by rw [bts_append, bts_append, List.append_assoc]; rfl
  obtain ⟨a, b, e1, e2, e3, _, _⟩ := OfField_f ((n ++ (⟨#[58]⟩ : ByteArray)) ++ v) (by omega) hk
  obtain ⟨x, x1, x2, _⟩ := Lower_f n (by omega)
  obtain ⟨y, y1, y2, _⟩ := Lower_f (⟨#[67, 111, 110, 116, 101, 110, 116, 45, 76, 101, 110, 103, 116, 104]⟩ : ByteArray) (by decide)
  have y3 : bytesOf y = clen := by rw [y2]; decide
  have hsame : chars_Same.f n (⟨#[67, 111, 110, 116, 101, 110, 116, 45, 76, 101, 110, 103, 116, 104]⟩ : ByteArray) = some (decide (lowL (bytesOf n) = clen)) := by
    unfold chars_Same.f
    rw [x1, y1]
    simp only [Option.bind_some]
    have : (x.toList == y.toList) = decide (lowL (bytesOf n) = clen) := by rw [Bool.eq_iff_iff, beq_iff_eq, tl_iff, x2, y3, decide_eq_true_eq]; rfl
    rw [this]
  unfold reply_right_1.f
  rw [if_pos (by omega), if_pos (by omega), e1]
  simp only [Option.bind_some]
  rw [hl] at e2 e3 ⊢
  have key := fieldR_cases a b n v _ e2 e3
  unfold rightF
  by_cases c : fieldR (bytesOf n ++ 58 :: bytesOf v) = (bytesOf n, bytesOf v, true)
  · obtain ⟨k1, k2⟩ := key.2 c
    rw [if_pos k1, k2, if_neg (by simp), hsame, decide_eq_true c]
    simp
  · rw [decide_eq_false c]
    by_cases c2 : (fieldR (bytesOf n ++ 58 :: bytesOf v)).2.2 = true
    · rw [if_pos c2]
      have : (!(n.toList == a.toList) || (!(v.toList == b.toList))) = true := by
        cases h : (!(n.toList == a.toList) || (!(v.toList == b.toList))) with
        | true => rfl
        | false => exact absurd (key.1 ⟨c2, h⟩) c
      rw [this, if_pos rfl]; rfl
    · rw [if_neg c2]; rfl
theorem cfi_l0 (l : List S61) (hl : Small61 l) (K : Nat) (hK : 5000001 ≤ K) : ∀ (d k i : Nat), i + d = l.length → d + K < k → ∃ r, head_Field_reply_right_1_119.l0 k l (l.length : Int) (i : Int) = some r ∧ decide (r ≥ 0) = !((l.drop i).all fun x => rightF (fl61 x).1 (fl61 x).2)
  | 0, k + 1, i, h1, h2 => by
    simp only [head_Field_reply_right_1_119.l0]
    rw [if_neg (by omega), List.drop_of_length_le (by omega)]
    exact ⟨_, rfl, rfl⟩
  | d + 1, k + 1, i, h1, h2 => by
    have hm := hl.2 _ (mem61 (l := l) (i := i) (by omega))
    simp only [head_Field_reply_right_1_119.l0]
    rw [if_pos (by omega), if_pos (by omega), if_pos (by omega), right1_f _ _ hm.1 hm.2 (by omega), drop61 (l := l) (i := i) (by omega), List.all_cons]
    simp only [Option.bind_some]
    have e : rightF (fl61 (rd_T61 l (i : Int))).1 (fl61 (rd_T61 l (i : Int))).2 = rightF (bytesOf (rd_T61 l (i : Int)).f0) (bytesOf (rd_T61 l (i : Int)).f1) := rfl
    rw [e]
    have hlen := hl.1
    cases rightF (bytesOf (rd_T61 l (i : Int)).f0) (bytesOf (rd_T61 l (i : Int)).f1) with
    | false => rw [if_pos (show (!false) = true from rfl)]; exact ⟨_, rfl, by rw [decide_eq_true (by omega)]; rfl⟩
    | true =>
      rw [if_neg (by simp), w64 (by omega), show (i : Int) + 1 = ((i + 1 : Nat) : Int) by omega]
      obtain ⟨r, r1, r2⟩ := cfi_l0 l hl K hK d k (i + 1) (by omega) (by omega)
      exact ⟨r, r1, by rw [r2, Bool.true_and]⟩
theorem cfc_f (l : List S61) (hl : Small61 l) {k : Nat} (hk : 6000000 ≤ k) : head_Field_reply_right_1_118.f k l = some (!((l.map fl61).all fun f => rightF f.1 f.2)) := by
  have hlen := hl.1
  obtain ⟨r, r1, r2⟩ := cfi_l0 l hl 5000001 (Nat.le_refl _) l.length k 0 (by omega) (by omega)
  unfold head_Field_reply_right_1_118.f head_Field_reply_right_1_119.f
  rw [show ((0 : Nat) : Int) = 0 from rfl] at r1
  rw [r1]
  simp only [Option.bind_some]
  rw [r2, List.drop_zero, List.all_map]
  rfl
def bareI (st : Int) : Bool := decide (st = 204 ∨ st = 304)
theorem Bare_f (st : Int) : reply_Bare.f st = some (bareI st) := by
  unfold reply_Bare.f bareI
  by_cases h : st = 204
  · rw [if_pos h, decide_eq_true (Or.inl h)]
  · rw [if_neg h]
    have : (st == 304) = decide (st = 204 ∨ st = 304) := by rw [Bool.eq_iff_iff, beq_iff_eq, decide_eq_true_eq]; omega
    rw [this]
def rightL (st : Int) (fs : List (List Int × List Int)) (body : List Int) : Bool := decide (200 ≤ st ∧ st ≤ 599) && (!(bareI st) || decide (body = [])) && fs.all fun f => rightF f.1 f.2
theorem right_f (st : Int) (l : List S61) (hl : Small61 l) (b : ByteArray) {k : Nat} (hk : 6000000 ≤ k) : reply_right.f k st l b = some (rightL st (l.map fl61) (bytesOf b)) := by
  unfold reply_right.f rightL
  by_cases c1 : st < 200
  · rw [if_pos c1, decide_eq_false (by omega)]; rfl
  rw [if_neg c1]
  by_cases c2 : st > 599
  · rw [if_pos c2, decide_eq_false (by omega)]; rfl
  rw [if_neg c2, decide_eq_true (by omega), Bare_f, cfc_f l hl hk]
  simp only [Option.bind_some]
  cases bareI st with
  | false => rw [if_neg (by simp)]; simp
  | true =>
    rw [if_pos rfl]
    by_cases c3 : b.toList = ([] : List UInt8)
    · rw [if_pos c3, decide_eq_true ((tl_nil b).1 c3)]; simp
    · rw [if_neg c3, decide_eq_false (fun h => c3 ((tl_nil b).2 h))]; simp
def reasonL (st : Int) : List Int := match reply_Reason.f st with | some t => bytesOf t | none => []
def lineF (f : List Int × List Int) : List Int := f.1 ++ [58, 32] ++ f.2 ++ [13, 10]
def sizeL (n : Int) : List Int := [67, 111, 110, 116, 101, 110, 116, 45, 76, 101, 110, 103, 116, 104, 58, 32] ++ printN n ++ [13, 10]
def headL (st : Int) : List Int := [72, 84, 84, 80, 47, 49, 46, 49, 32] ++ printN st ++ [32] ++ reasonL st ++ [13, 10]
def encL (st : Int) (fs : List (List Int × List Int)) (body : List Int) : List Int := headL st ++ fs.flatMap lineF ++ (if bareI st = true then [] else sizeL (body.length : Int)) ++ [13, 10] ++ body
theorem reason_small : ∀ a ∈ codes, (reasonL a).length ≤ 40 ∧ ((reasonL a).all fun c => decide (32 ≤ c ∧ c ≤ 126)) = true := by decide +kernel
theorem reason_any (a : Int) : (reasonL a).length ≤ 40 ∧ ((reasonL a).all fun c => decide (32 ≤ c ∧ c ≤ 126)) = true := by
  by_cases hm : a ∈ codes
  · exact reason_small a hm
  · have e : reply_Reason.f a = some (⟨#[85, 110, 107, 110, 111, 119, 110]⟩ : ByteArray) := by
      unfold codes at hm
      simp only [List.mem_cons, List.not_mem_nil, or_false, not_or] at hm
      unfold reply_Reason.f
      simp only [hm, if_false]
    unfold reasonL
    rw [e]
    exact ⟨by decide, by decide⟩
theorem natsU_app (a b : List UInt8) : natsU (a ++ b) = natsU a ++ natsU b := by simp [natsU]
theorem lines_eq (l : List S61) : natsU (reply_Encode.lines l) = (l.map fl61).flatMap lineF := by
  induction l with
  | nil => rfl
  | cons x l ih =>
    have e : reply_Encode.lines (x :: l) = (reply_Encode.line x).data.toList ++ reply_Encode.lines l := by unfold reply_Encode.lines; rw [List.flatMap_cons]
    rw [e, natsU_app, ih, List.map_cons, List.flatMap_cons]
    congr 1
    show bytesOf (reply_Encode.line x) = _
    unfold reply_Encode.line
    rw [bts_append, bts_append, bts_append]
    rfl
theorem Encode_f (st : Int) (l : List S61) (hl : Small61 l) (b : ByteArray) (hb : b.size ≤ 1048576) {k : Nat} (hk : 6000000 ≤ k) :
    (rightL st (l.map fl61) (bytesOf b) = true → ∃ t, reply_Encode.f k st l b = some (t, 0) ∧ bytesOf t = encL st (l.map fl61) (bytesOf b)) ∧ (rightL st (l.map fl61) (bytesOf b) = false → reply_Encode.f k st l b = some ((⟨#[]⟩ : ByteArray), 3)) := by
  have hfit : reply_Encode.fits l = true := by
    unfold reply_Encode.fits
    rw [decide_eq_true hl.1, Bool.true_and, List.all_eq_true]
    intro x hx
    have := hl.2 x hx
    exact decide_eq_true ⟨by omega, by omega⟩
  unfold reply_Encode.f
  rw [if_pos ⟨hfit, by omega⟩, right_f st l hl b hk]
  simp only [Option.bind_some]
  refine ⟨fun h => ?_, fun h => by rw [h, if_neg (by simp)]⟩
  rw [h, if_pos rfl]
  have hst : 200 ≤ st ∧ st ≤ 599 := by
    unfold rightL at h
    rw [Bool.and_eq_true, Bool.and_eq_true] at h
    exact of_decide_eq_true h.1.1
  obtain ⟨p, p1, p2, p3⟩ := Print_eq (n := st) (k := k) ⟨by omega, by omega⟩ (by omega)
  obtain ⟨rs, q1⟩ := Reason_some st
  have q2 : bytesOf rs = reasonL st := by unfold reasonL; rw [q1]
  have q3 := (reason_any st).1
  rw [← q2, ← bts_size] at q3
  obtain ⟨z, z1, z2, z3⟩ := Print_eq (n := (b.size : Int)) (k := k) ⟨by omega, by omega⟩ (by omega)
  have hsz : reply_size.f k st l b = some (((⟨#[67, 111, 110, 116, 101, 110, 116, 45, 76, 101, 110, 103, 116, 104, 58, 32]⟩ : ByteArray) ++ z) ++ (⟨#[13, 10]⟩ : ByteArray)) := by
    have h0 : (⟨#[67, 111, 110, 116, 101, 110, 116, 45, 76, 101, 110, 103, 116, 104, 58, 32]⟩ : ByteArray).size = 16 := rfl
    unfold reply_size.f
    rw [z1]
    simp only [Option.bind_some]
    rw [if_pos (by omega), if_pos (by rw [ba_app, h0]; omega)]
  have hszz : (((⟨#[67, 111, 110, 116, 101, 110, 116, 45, 76, 101, 110, 103, 116, 104, 58, 32]⟩ : ByteArray) ++ z) ++ (⟨#[13, 10]⟩ : ByteArray)).size ≤ 1000 := by
    have h0 : (⟨#[67, 111, 110, 116, 101, 110, 116, 45, 76, 101, 110, 103, 116, 104, 58, 32]⟩ : ByteArray).size = 16 := rfl
    have h1 : (⟨#[13, 10]⟩ : ByteArray).size = 2 := rfl
    rw [ba_app, ba_app, h0, h1]
    omega
  rw [p1, q1, Bare_f, hsz]
  simp only [Option.bind_some]
  rw [if_pos ⟨by omega, by omega, hszz⟩]
  have hone : natsU (reply_Encode.one p rs).data.toList = headL st := by
    show bytesOf (reply_Encode.one p rs) = _
    unfold reply_Encode.one headL
    rw [bts_append, bts_append, bts_append, bts_append, p2, q2]
    rfl
  have hend : natsU ((⟨#[13, 10]⟩ : ByteArray) ++ b).data.toList = [13, 10] ++ bytesOf b := by
    show bytesOf ((⟨#[13, 10]⟩ : ByteArray) ++ b) = _
    rw [bts_append]; rfl
  have hzz : natsU (((⟨#[67, 111, 110, 116, 101, 110, 116, 45, 76, 101, 110, 103, 116, 104, 58, 32]⟩ : ByteArray) ++ z) ++ (⟨#[13, 10]⟩ : ByteArray)).data.toList = sizeL ((bytesOf b).length : Int) := by
    show bytesOf (((⟨#[67, 111, 110, 116, 101, 110, 116, 45, 76, 101, 110, 103, 116, 104, 58, 32]⟩ : ByteArray) ++ z) ++ (⟨#[13, 10]⟩ : ByteArray)) = _
    rw [bts_append, bts_append, z2, ← bts_size]
    rfl
  refine ⟨_, rfl, ?_⟩
  unfold encL
  cases bareI st with
  | true =>
    rw [if_pos rfl, if_pos rfl, bts_mk, natsU_app, natsU_app, hone, lines_eq, hend]
    simp only [List.append_assoc, List.nil_append]
  | false =>
    rw [if_neg (by simp), if_neg (by simp), bts_mk, natsU_app, natsU_app, natsU_app, hone, lines_eq, hend, hzz]
    simp only [List.append_assoc]
theorem Ours_l0 (l : List S64) (hl : l.length ≤ 1000) (st : Int) (b : ByteArray) : ∀ (d k i : Nat) (o : List S61), i + d = l.length → d < k → o.length ≤ i → larumlaw13_Ours.l0 k l (l.length : Int) (i : Int) st o b = some (st, o ++ (l.drop i).map of64, b)
  | 0, k + 1, i, o, h1, h2, h3 => by
    simp only [larumlaw13_Ours.l0]
    rw [if_neg (by omega), List.drop_of_length_le (by omega)]
    simp
  | d + 1, k + 1, i, o, h1, h2, h3 => by
    simp only [larumlaw13_Ours.l0]
    rw [if_pos (by omega), if_pos (by omega), if_pos (by omega), if_pos (by omega), w64 (by omega), show (i : Int) + 1 = ((i + 1 : Nat) : Int) by omega, Ours_l0 l hl st b d k (i + 1) _ (by omega) (by omega) (by simp; omega), drop64 (l := l) (i := i) (by omega), List.map_cons]
    simp [of64]
theorem Ours_f (l : List S64) (hl : l.length ≤ 1000) (st : Int) (b : ByteArray) {k : Nat} (hk : 2000 ≤ k) : larumlaw13_Ours.f k st l b = some (st, l.map of64, b) := by
  unfold larumlaw13_Ours.f
  have := Ours_l0 l hl st b l.length k 0 [] (by omega) (by omega) (by simp)
  rw [show ((0 : Nat) : Int) = 0 from rfl] at this
  rw [this]
  simp
theorem cut_f (st : Int) (l : List S64) (hl : l.length ≤ 1048576) (hx : ∀ x ∈ l, x.f0.size ≤ 1048576 ∧ x.f1.size ≤ 1048576) (b : ByteArray) (hb : b.size ≤ 1048576) : ∃ l' b', larumlaw13_cut.f st l b = some (st, l', b') ∧ Small64 l' ∧ l'.length ≤ 6 ∧ b'.size ≤ 200 := by
  unfold larumlaw13_cut.f
  have hb' : ∃ b', (∀ l', (if (b.size : Int) > 200 then (if (0 : Int) ≤ 200 then (if 200 ≤ (b.size : Int) then (some (st, l', b.extract 0 200)) else (none)) else (none)) else (some (st, l', b)) : Option (Int × List S64 × ByteArray)) = some (st, l', b')) ∧ b'.size ≤ 200 := by
    by_cases c : (b.size : Int) > 200
    · exact ⟨_, fun l' => by rw [if_pos c, if_pos (by omega), if_pos (by omega)], by simp; omega⟩
    · exact ⟨b, fun l' => by rw [if_neg c], by omega⟩
  obtain ⟨b', e1, e2⟩ := hb'
  by_cases c : (l.length : Int) > 6
  · rw [if_pos c, if_pos (by omega)]
    simp only [Option.bind_some]
    refine ⟨l.take 6, b', e1 _, ⟨by rw [List.length_take]; omega, fun x hx' => hx x (List.mem_of_mem_take hx')⟩, by rw [List.length_take]; omega, e2⟩
  · rw [if_neg c]
    exact ⟨l, b', e1 _, ⟨by omega, hx⟩, by omega, e2⟩
-- the first place of a text in a text, as lists of numbers
def idxL (p : List Int) : List Int → Int
  | [] => if p.isEmpty then 0 else -1
  | b :: l => if p.isPrefixOf (b :: l) then 0 else if idxL p l = -1 then -1 else idxL p l + 1
theorem idx_nats (p : List UInt8) : ∀ l : List UInt8, Lib.index l p = idxL (nats p) (nats l)
  | [] => by
    unfold Lib.index
    show _ = (if (nats p).isEmpty then (0 : Int) else -1)
    have : (nats p).isEmpty = p.isEmpty := by cases p <;> rfl
    rw [this]
  | b :: l => by
    have e : nats (b :: l) = (b.toNat : Int) :: nats l := rfl
    unfold Lib.index
    rw [e, pre_nats, idx_nats p l, e]
    show _ = (if (nats p).isPrefixOf ((b.toNat : Int) :: nats l) then (0 : Int) else if idxL (nats p) (nats l) = -1 then -1 else idxL (nats p) (nats l) + 1)
    simp only [beq_iff_eq]
theorem idxL_spec (p : List Int) : ∀ l : List Int, (idxL p l = -1 ∧ ∀ j, j ≤ l.length → ¬ p <+: l.drop j) ∨ ∃ i : Nat, idxL p l = i ∧ i ≤ l.length ∧ p <+: l.drop i ∧ ∀ j, j < i → ¬ p <+: l.drop j
  | [] => by
    cases p with
    | nil => exact Or.inr ⟨0, rfl, Nat.le_refl _, List.prefix_rfl, fun j hj => by omega⟩
    | cons a t => exact Or.inl ⟨rfl, fun j _ h => by simp at h⟩
  | b :: l => by
    by_cases h0 : p.isPrefixOf (b :: l) = true
    · exact Or.inr ⟨0, by unfold idxL; rw [if_pos h0]; rfl, Nat.zero_le _, List.isPrefixOf_iff_prefix.1 h0, fun j hj => by omega⟩
    · have h0' : ¬ p <+: (b :: l) := fun h => h0 (List.isPrefixOf_iff_prefix.2 h)
      rcases idxL_spec p l with ⟨h1, h2⟩ | ⟨i, h1, h2, h3, h4⟩
      · refine Or.inl ⟨by unfold idxL; rw [if_neg h0, if_pos h1], fun j hj => ?_⟩
        cases j with
        | zero => exact h0'
        | succ j => exact h2 j (by simp at hj; omega)
      · refine Or.inr ⟨i + 1, ?_, by simp; omega, by simpa using h3, fun j hj => ?_⟩
        · unfold idxL
          rw [if_neg h0, h1, if_neg (by omega)]
          omega
        · cases j with
          | zero => exact h0'
          | succ j => exact h4 j (by omega)
theorem idxL_at {p l : List Int} {i : Nat} (hi : i ≤ l.length) (h : p <+: l.drop i) (hn : ∀ j, j < i → ¬ p <+: l.drop j) : idxL p l = i := by
  rcases idxL_spec p l with ⟨_, h2⟩ | ⟨k, h1, h2, h3, h4⟩
  · exact absurd h (h2 i hi)
  · have : k = i := by
      rcases Nat.lt_trichotomy k i with h' | h' | h'
      · exact absurd h3 (hn k h')
      · exact h'
      · exact absurd h (h4 i h')
    rw [h1, this]
theorem idxL_none {p l : List Int} (h : ∀ j, j ≤ l.length → ¬ p <+: l.drop j) : idxL p l = -1 := by
  rcases idxL_spec p l with ⟨h1, _⟩ | ⟨k, _, h2, h3, _⟩
  · exact h1
  · exact absurd h3 (h k h2)
theorem idxL_ge (p l : List Int) : idxL p l = -1 ∨ 0 ≤ idxL p l := by
  rcases idxL_spec p l with ⟨h1, _⟩ | ⟨k, h1, _⟩
  · exact Or.inl h1
  · exact Or.inr (by omega)
theorem idxL_room {p l : List Int} {i : Nat} (h : idxL p l = i) : i + p.length ≤ l.length := by
  rcases idxL_spec p l with ⟨h1, _⟩ | ⟨k, h1, h2, h3, h4⟩
  · omega
  · have : k = i := by omega
    subst this
    have := h3.length_le
    rw [List.length_drop] at this
    omega
theorem idxL_cons (p : List Int) (b : Int) (l : List Int) : idxL p (b :: l) = if p.isPrefixOf (b :: l) then 0 else if idxL p l = -1 then -1 else idxL p l + 1 := rfl
/-- Behind what does not begin such a text. -/
theorem idxL_skip {a : Int} {p : List Int} (m : List Int) : ∀ {x : List Int}, (∀ y ∈ x, y ≠ a) → idxL (a :: p) (x ++ m) = if idxL (a :: p) m = -1 then -1 else idxL (a :: p) m + (x.length : Int)
  | [], _ => by
    rw [List.nil_append]
    split
    · assumption
    · simp
  | y :: x, h => by
    have hy := h y (by simp)
    have ih := idxL_skip (p := p) m (x := x) (fun z hz => h z (by simp [hz]))
    have hp : ¬ (a :: p).isPrefixOf (y :: (x ++ m)) = true := by
      rw [List.isPrefixOf_iff_prefix, List.cons_prefix_cons]
      exact fun e => hy e.1.symm
    rw [List.cons_append, idxL_cons, if_neg hp, ih]
    rcases idxL_ge (a :: p) m with h1 | h1
    · rw [h1]; rfl
    · rw [if_neg (show ¬ idxL (a :: p) m = -1 by omega), if_neg (by omega), if_neg (show ¬ idxL (a :: p) m = -1 by omega), List.length_cons]
      omega
theorem idxL_here (a : Int) (p m : List Int) : idxL (a :: p) (a :: p ++ m) = 0 := by
  have : (a :: p).isPrefixOf (a :: (p ++ m)) = true := by
    rw [List.isPrefixOf_iff_prefix]
    exact ⟨m, rfl⟩
  rw [List.cons_append, idxL_cons, if_pos this]
theorem idxL_no {a : Int} {p : List Int} {x : List Int} (h : ∀ y ∈ x, y ≠ a) : idxL (a :: p) x = -1 := by
  have := idxL_skip (p := p) [] h
  rw [List.append_nil] at this
  rw [this, if_pos (show idxL (a :: p) [] = -1 from rfl)]
theorem idxL_first {a : Int} {p m : List Int} {x : List Int} (h : ∀ y ∈ x, y ≠ a) : idxL (a :: p) (x ++ (a :: p ++ m)) = (x.length : Int) := by
  rw [idxL_skip _ h, idxL_here, if_neg (by decide)]
  omega
/-- A beginning of a text. -/
theorem idxL_take {p l : List Int} (hp : p ≠ []) {i : Nat} (h : idxL p l = i) (n : Nat) : idxL p (l.take n) = if i + p.length ≤ n then (i : Int) else -1 := by
  have key : ∀ j, p <+: (l.take n).drop j ↔ p <+: l.drop j ∧ p.length ≤ n - j := by
    intro j
    rw [List.drop_take, List.prefix_take_iff]
  have hl := idxL_room h
  have hpl : 0 < p.length := List.length_pos_iff.2 hp
  rcases idxL_spec p l with ⟨h1, _⟩ | ⟨k, h1, h2, h3, h4⟩
  · omega
  · have : k = i := by omega
    subst this
    by_cases c : k + p.length ≤ n
    · rw [if_pos c]
      refine idxL_at (by rw [List.length_take]; omega) ((key k).2 ⟨h3, by omega⟩) (fun j hj hh => h4 j hj ((key j).1 hh).1)
    · rw [if_neg c]
      refine idxL_none (fun j _ hh => ?_)
      obtain ⟨q1, q2⟩ := (key j).1 hh
      by_cases hj : j < k
      · exact h4 j hj q1
      · omega
theorem Index_f (s p : ByteArray) (hs : s.size < 4294967281) : strings_Index.f s p = some (idxL (bytesOf p) (bytesOf s)) := by
  unfold strings_Index.f
  rw [if_pos hs, idx_nats]
  rfl
-- lines, and what they say
def cut2 (l : List Int) : List Int × List Int × Bool := if idxL [58, 32] l = -1 then (l, [], false) else (l.take (idxL [58, 32] l).toNat, l.drop ((idxL [58, 32] l).toNat + 2), true)
theorem Cut2_f (s : ByteArray) (hs : s.size < 4294967281) : ∃ a b, strings_Cut.f s (⟨#[58, 32]⟩ : ByteArray) = some (a, b, (cut2 (bytesOf s)).2.2) ∧ bytesOf a = (cut2 (bytesOf s)).1 ∧ bytesOf b = (cut2 (bytesOf s)).2.1 ∧ a.size ≤ s.size ∧ b.size ≤ s.size := by
  have eu : strings_Cut.f s (⟨#[58, 32]⟩ : ByteArray) = some (⟨(Lib.cut s.data.toList (⟨#[58, 32]⟩ : ByteArray).data.toList).1.toArray⟩, ⟨(Lib.cut s.data.toList (⟨#[58, 32]⟩ : ByteArray).data.toList).2.1.toArray⟩, (Lib.cut s.data.toList (⟨#[58, 32]⟩ : ByteArray).data.toList).2.2) := by
    show (if (⟨#[58, 32]⟩ : ByteArray).size = 1 then _ else _) = _
    rw [if_neg (by decide), if_pos hs]
  rw [eu]
  have ei : Lib.index s.data.toList (⟨#[58, 32]⟩ : ByteArray).data.toList = idxL [58, 32] (bytesOf s) := idx_nats _ _
  have hz := bts_size s
  unfold Lib.cut cut2
  rw [ei]
  rcases idxL_ge [58, 32] (bytesOf s) with h | h
  · rw [h, if_neg (by decide), if_pos rfl]
    exact ⟨_, _, rfl, rfl, rfl, Nat.le_refl _, Nat.zero_le _⟩
  · have hne : ¬ idxL [58, 32] (bytesOf s) = -1 := by omega
    rw [if_pos h, if_neg hne]
    refine ⟨_, _, rfl, ?_, ?_, ?_, ?_⟩
    · rw [bts_mk]; unfold natsU; rw [List.map_take]; rfl
    · rw [bts_mk]; unfold natsU; rw [List.map_drop]; rfl
    · show (s.data.toList.take _).toArray.size ≤ _
      rw [List.size_toArray, List.length_take, Array.length_toList]
      exact Nat.min_le_right _ _
    · show (s.data.toList.drop _).toArray.size ≤ _
      rw [List.size_toArray, List.length_drop, Array.length_toList]
      exact Nat.sub_le _ _
def mapCut : List (List Int) → Option (List (List Int × List Int))
  | [] => some []
  | l :: r => if (cut2 l).2.2 = true then (mapCut r).map (((cut2 l).1, (cut2 l).2.1) :: ·) else none
def clN : List Int := [67, 111, 110, 116, 101, 110, 116, 45, 76, 101, 110, 103, 116, 104]
def lastCL (F : List (List Int × List Int)) : Bool := decide (F ≠ [] ∧ (F.getLast?.getD ([], [])).1 = clN)
def SmB (B : Nat) (l : List S61) : Prop := l.length ≤ 1000 ∧ ∀ x ∈ l, x.f0.size ≤ B ∧ x.f1.size ≤ B
def TopEnd (B : Nat) (st : Int) (F : List (List Int × List Int)) (o : Int × List S61 × ByteArray × Int × Bool) : Prop :=
  o.1 = st ∧ o.2.2.1 = (⟨#[]⟩ : ByteArray) ∧ SmB B o.2.1 ∧ 0 ≤ o.2.2.2.1 ∧ o.2.2.2.1 ≤ 2147483647 ∧ (lastCL F = false → o.2.1.map fl61 = F ∧ o.2.2.2.1 = 0 ∧ o.2.2.2.2 = true) ∧
  (lastCL F = true → o.2.1.map fl61 = F.dropLast ∧ o.2.2.2.1 = (sizeN (F.getLast?.getD ([], [])).2).1 ∧ o.2.2.2.2 = ((sizeN (F.getLast?.getD ([], [])).2).2 == 0))
theorem sizeN_bd (l : List Int) : 0 ≤ (sizeN l).1 ∧ (sizeN l).1 ≤ 2147483647 := by
  unfold sizeN
  by_cases c : l = [] ∨ allD l = false
  · rw [if_pos c]; exact ⟨by decide, by decide⟩
  rw [if_neg c]
  have ha : allD l = true := by
    cases h : allD l with
    | true => rfl
    | false => exact absurd (Or.inr h) c
  by_cases c2 : dv 0 l > 2147483647
  · rw [if_pos c2]; exact ⟨by decide, by decide⟩
  · rw [if_neg c2]
    have := dv_ge l 0 ha (by omega)
    exact ⟨this, by dsimp only; omega⟩
theorem rdOf_drop {α : Type} {d : α} {l : List α} {i : Nat} (h : i < l.length) : l.drop i = rdOf d l (i : Int) :: l.drop (i + 1) := by
  rw [List.drop_eq_getElem_cons h]
  unfold rdOf
  simp [List.getD_eq_getElem?_getD, List.getElem?_eq_getElem h]
theorem last61 (F : List S61) (h : 0 < F.length) : rd_T61 F ((F.length - 1 : Nat) : Int) = F.getLast (List.length_pos_iff.1 h) ∧ (F.map fl61).getLast?.getD ([], []) = fl61 (rd_T61 F ((F.length - 1 : Nat) : Int)) := by
  have e : rd_T61 F ((F.length - 1 : Nat) : Int) = F.getLast (List.length_pos_iff.1 h) := by
    unfold rd_T61
    rw [List.getLast_eq_getElem, show (((F.length - 1 : Nat) : Int)).toNat = F.length - 1 by omega, List.getD_eq_getElem?_getD, List.getElem?_eq_getElem (by omega)]
    rfl
  refine ⟨e, ?_⟩
  rw [e, List.getLast?_map, List.getLast?_eq_some_getLast (List.length_pos_iff.1 h)]
  rfl
theorem top_l0 (B : Nat) (hB : B ≤ 3000000) (K : Nat) (hK : 3000100 ≤ K) (X : List ByteArray) (hX : X.length ≤ 900) (hz : ∀ w ∈ X, w.size ≤ B) (st : Int) : ∀ (d k i : Nat) (acc : List S61), i + d = X.length → d + K < k → acc.length ≤ i → (∀ x ∈ acc, x.f0.size ≤ B ∧ x.f1.size ≤ B) →
    ∃ o, reply_top.l0 k X (X.length : Int) (i : Int) st acc (⟨#[]⟩ : ByteArray) = some o ∧ (mapCut ((X.drop i).map bytesOf) = none → o = (0, [], (⟨#[]⟩ : ByteArray), 0, false)) ∧ (∀ F, mapCut ((X.drop i).map bytesOf) = some F → TopEnd B st (acc.map fl61 ++ F) o)
  | 0, k + 1, i, acc, h1, h2, h3, h4 => by
    have hsm : SmB B acc := ⟨by omega, h4⟩
    simp only [reply_top.l0]
    rw [if_neg (by omega), List.drop_of_length_le (by omega)]
    by_cases c : acc.length = 0
    · have : acc = [] := List.length_eq_zero_iff.1 c
      subst this
      rw [if_pos (by rw [w64 (by simp)]; simp)]
      refine ⟨_, rfl, fun h => by simp [mapCut] at h, fun F hF => ?_⟩
      simp only [List.map_nil, mapCut, Option.some.injEq] at hF
      subst hF
      exact ⟨rfl, rfl, hsm, by dsimp only; omega, by dsimp only; omega, fun _ => ⟨rfl, rfl, rfl⟩, fun h => by simp [lastCL] at h⟩
    · have hpos : 0 < acc.length := by omega
      have hw : wrap64 ((acc.length : Int) - 1) = ((acc.length - 1 : Nat) : Int) := by rw [w64 (by omega)]; omega
      obtain ⟨_, hlast⟩ := last61 acc hpos
      have hmem := h4 _ (mem61 (l := acc) (i := acc.length - 1) (by omega))
      rw [hw, if_neg (by omega), if_pos (by omega), if_pos (by omega)]
      generalize rd_T61 acc ((acc.length - 1 : Nat) : Int) = x at hlast hmem ⊢
      have hcl : x.f0.toList = ([67, 111, 110, 116, 101, 110, 116, 45, 76, 101, 110, 103, 116, 104] : List UInt8) ↔ bytesOf x.f0 = clN := by
        have hz := tl_iff x.f0 (⟨#[67, 111, 110, 116, 101, 110, 116, 45, 76, 101, 110, 103, 116, 104]⟩ : ByteArray)
        rw [show (⟨#[67, 111, 110, 116, 101, 110, 116, 45, 76, 101, 110, 103, 116, 104]⟩ : ByteArray).toList = ([67, 111, 110, 116, 101, 110, 116, 45, 76, 101, 110, 103, 116, 104] : List UInt8) from by rw [tl]] at hz
        exact hz
      have hne : acc.map fl61 ≠ [] := by
        intro e
        have := congrArg List.length e
        rw [List.length_map] at this
        rw [List.length_nil] at this
        omega
      by_cases c2 : x.f0.toList = ([67, 111, 110, 116, 101, 110, 116, 45, 76, 101, 110, 103, 116, 104] : List UInt8)
      · rw [if_pos c2, Size_eq x.f1 (by omega) (by omega)]
        simp only [Option.bind_some]
        rw [if_pos (by omega)]
        refine ⟨_, rfl, fun h => by simp [mapCut] at h, fun F hF => ?_⟩
        simp only [List.map_nil, mapCut, Option.some.injEq] at hF
        subst hF
        rw [List.append_nil]
        have hb := sizeN_bd (bytesOf x.f1)
        have htrue : lastCL (acc.map fl61) = true := by
          unfold lastCL
          rw [hlast]
          exact decide_eq_true ⟨hne, hcl.1 c2⟩
        refine ⟨rfl, rfl, ⟨by rw [List.length_take]; omega, fun y hy => h4 y (List.mem_of_mem_take hy)⟩, hb.1, hb.2, fun h => by rw [htrue] at h; exact Bool.noConfusion h, fun _ => ⟨?_, by rw [hlast]; rfl, by rw [hlast]; rfl⟩⟩
        show (acc.take _).map fl61 = _
        rw [List.map_take, List.dropLast_eq_take, List.length_map, show (((acc.length - 1 : Nat) : Int)).toNat = acc.length - 1 by omega]
      · rw [if_neg c2]
        refine ⟨_, rfl, fun h => by simp [mapCut] at h, fun F hF => ?_⟩
        simp only [List.map_nil, mapCut, Option.some.injEq] at hF
        subst hF
        rw [List.append_nil]
        have hfalse : lastCL (acc.map fl61) = false := by
          unfold lastCL
          rw [hlast]
          exact decide_eq_false (fun h => c2 (hcl.2 h.2))
        exact ⟨rfl, rfl, hsm, by dsimp only; omega, by dsimp only; omega, fun _ => ⟨rfl, rfl, rfl⟩, fun h => by rw [hfalse] at h; exact Bool.noConfusion h⟩
  | d + 1, k + 1, i, acc, h1, h2, h3, h4 => by
    have hd := rdOf_drop (d := ByteArray.empty) (l := X) (i := i) (by omega)
    have hm : rdOf ByteArray.empty X (i : Int) ∈ X := List.mem_of_mem_drop (i := i) (by rw [hd]; simp)
    have hs := hz _ hm
    obtain ⟨a, b, e1, e2, e3, e4, e5⟩ := Cut2_f (rdOf ByteArray.empty X (i : Int)) (by omega)
    simp only [reply_top.l0]
    rw [if_pos (by omega), if_pos (by omega), if_pos (by omega), e1, hd, List.map_cons, mapCut]
    simp only [Option.bind_some]
    cases hc : (cut2 (bytesOf (rdOf ByteArray.empty X (i : Int)))).2.2 with
    | false =>
      rw [if_neg (by simp), if_neg (by simp)]
      exact ⟨_, rfl, fun _ => rfl, fun F hF => by simp at hF⟩
    | true =>
      obtain ⟨o, o1, o2, o3⟩ := top_l0 B hB K hK X hX hz st d k (i + 1) (acc ++ [⟨a, b⟩]) (by omega) (by omega) (by simp; omega) (fun x hx => by
        rcases List.mem_append.1 hx with h | h
        · exact h4 x h
        · simp at h; subst h; exact ⟨by dsimp only; omega, by dsimp only; omega⟩)
      rw [if_pos rfl, if_pos (by omega), if_pos rfl, w64 (by omega), show (i : Int) + 1 = ((i + 1 : Nat) : Int) by omega]
      refine ⟨o, o1, fun h => o2 ?_, fun F hF => ?_⟩
      · cases hmc : mapCut ((X.drop (i + 1)).map bytesOf) with
        | none => rfl
        | some G => rw [hmc] at h; simp at h
      · cases hmc : mapCut ((X.drop (i + 1)).map bytesOf) with
        | none => rw [hmc] at hF; simp at hF
        | some G =>
          rw [hmc] at hF
          simp only [Option.map_some, Option.some.injEq] at hF
          have := o3 G hmc
          rw [List.map_append, List.append_assoc] at this
          rw [← hF, ← e2, ← e3]
          exact this
def prot : List Int := [72, 84, 84, 80, 47, 49, 46, 49, 32]
/-- What the first line says. -/
def codeL (l : List Int) : List Int := (if prot.isPrefixOf l = true then l.drop 9 else l).take 3
def topOk (l : List Int) : Bool := prot.isPrefixOf l && ((sizeN (codeL l)).2 == 0)
theorem top_f (B : Nat) (hB : B ≤ 3000000) (x : ByteArray) (X : List ByteArray) (hX : X.length ≤ 900) (hx : x.size ≤ B) (hz : ∀ w ∈ X, w.size ≤ B) {k : Nat} (hk : 3100000 ≤ k) :
    ∃ o, reply_top.f k (x :: X) = some o ∧ ((topOk (bytesOf x) = false ∨ mapCut (X.map bytesOf) = none) → o = (0, [], (⟨#[]⟩ : ByteArray), 0, false)) ∧ (topOk (bytesOf x) = true → ∀ F, mapCut (X.map bytesOf) = some F → TopEnd B (sizeN (codeL (bytesOf x))).1 F o) := by
  obtain ⟨k, rfl⟩ : ∃ m, k = m + 1 := ⟨k - 1, by omega⟩
  obtain ⟨t, b, e1, e2, e3, e4⟩ := CutPrefix_f x (⟨#[72, 84, 84, 80, 47, 49, 46, 49, 32]⟩ : ByteArray)
  have hz0 := bts_size t
  have hcode : bytesOf (t.extract 0 (mn 3 (t.size : Int)).toNat) = codeL (bytesOf x) := by
    rw [bts_extract, List.drop_zero]
    unfold codeL
    have e3' : bytesOf t = if prot.isPrefixOf (bytesOf x) = true then (bytesOf x).drop 9 else bytesOf x := e3
    rw [← e3']
    unfold mn
    by_cases c : (t.size : Int) < 3
    · rw [if_pos c, show ((t.size : Int)).toNat = t.size by omega, List.take_of_length_le (by omega), List.take_of_length_le (by omega)]
    · rw [if_neg c]; rfl
  unfold reply_top.f
  rw [if_pos (by simp only [List.length_cons]; omega), show rdOf ByteArray.empty (x :: X) 0 = x from rfl, e1]
  simp only [Option.bind_some]
  have hm0 : 0 ≤ mn 3 (t.size : Int) := by unfold mn; split <;> omega
  have hm1 : mn 3 (t.size : Int) ≤ (t.size : Int) := by unfold mn; split <;> omega
  rw [if_pos hm0, if_pos hm1, Size_eq _ (by rw [bts_size, hcode]; unfold codeL; rw [List.length_take]; omega) (by rw [bts_size (t.extract _ _), hcode]; unfold codeL; rw [List.length_take]; omega), hcode]
  simp only [Option.bind_some]
  have etop : topOk (bytesOf x) = (b && ((sizeN (codeL (bytesOf x))).2 == 0)) := by rw [e2]; rfl
  have hfail : ∃ o, (some ((0 : Int), ([] : List S61), (⟨#[]⟩ : ByteArray), (0 : Int), false) : Option (Int × List S61 × ByteArray × Int × Bool)) = some o ∧ o = (0, [], (⟨#[]⟩ : ByteArray), 0, false) := ⟨_, rfl, rfl⟩
  cases b with
  | false =>
    rw [if_neg (by simp)]
    simp only [reply_top.j0, if_true]
    rw [Bool.false_and] at etop
    exact ⟨_, rfl, fun _ => rfl, fun h => by rw [etop] at h; exact Bool.noConfusion h⟩
  | true =>
    rw [if_pos rfl]
    rw [Bool.true_and] at etop
    simp only [reply_top.j0]
    by_cases c : (sizeN (codeL (bytesOf x))).2 = 0
    · have et : topOk (bytesOf x) = true := by rw [etop]; simpa using c
      rw [if_neg (by simpa using c), if_pos (by simp only [List.length_cons]; omega)]
      rw [show (x :: X).drop 1 = X from rfl]
      obtain ⟨o, o1, o2, o3⟩ := top_l0 B hB 3000100 (Nat.le_refl _) X hX hz (sizeN (codeL (bytesOf x))).1 X.length k 0 [] (by omega) (by omega) (by simp) (fun y hy => by simp at hy)
      rw [show ((0 : Nat) : Int) = 0 from rfl] at o1
      refine ⟨o, o1, fun h => o2 ?_, fun _ F hF => ?_⟩
      · rcases h with h | h
        · rw [et] at h; exact Bool.noConfusion h
        · rw [List.drop_zero]; exact h
      · have := o3 F (by rw [List.drop_zero]; exact hF)
        exact this
    · have et : topOk (bytesOf x) = false := by rw [etop]; simpa using c
      rw [if_pos (by simpa using c)]
      exact ⟨_, rfl, fun _ => rfl, fun h => by rw [et] at h; exact Bool.noConfusion h⟩
-- reading of replies
-- import Derived.Lib.SplitLaws
def crlf : ByteArray := ⟨#[13, 10]⟩
theorem split_small (sep : ByteArray) : ∀ (n : Nat) (s : ByteArray), (Lib.splitB sep 0 n s) ≠ [] ∧ ∀ w ∈ Lib.splitB sep 0 n s, w.size ≤ s.size
  | 0, s => ⟨by simp [Lib.splitB], fun w hw => by simp [Lib.splitB] at hw; rw [hw]; exact Nat.le_refl _⟩
  | n + 1, s => by
    unfold Lib.splitB
    split
    · exact ⟨by simp, fun w hw => by simp at hw; rw [hw]; exact Nat.le_refl _⟩
    · refine ⟨by simp, fun w hw => ?_⟩
      rcases List.mem_cons.1 hw with rfl | hw
      · rw [ByteArray.size_extract]; omega
      · have := (split_small sep n _).2 w hw
        rw [ByteArray.size_extract] at this
        omega
theorem Split_f (s : ByteArray) (hs : s.size < 4294967281) : ∃ L, strings_Split.f s (⟨#[13, 10]⟩ : ByteArray) = some L ∧ L = Lib.splitB crlf 0 (Lib.countB s crlf) s ∧ L ≠ [] ∧ L.length ≤ s.size + 1 ∧ ∀ w ∈ L, w.size ≤ s.size := by
  have e : strings_Split.f s (⟨#[13, 10]⟩ : ByteArray) = some (Lib.splitB crlf 0 (Lib.countB s crlf) s) := by
    show (if (⟨#[13, 10]⟩ : ByteArray).size = 1 then _ else _) = _
    rw [if_neg (by decide), if_pos ⟨by decide, hs⟩]
    rfl
  have hle := Lib.countB_le crlf (by decide) s.size s (Nat.le_refl _)
  have hlen := Lib.splitB_length_le crlf 0 (Lib.countB s crlf) s
  obtain ⟨h1, h2⟩ := split_small crlf (Lib.countB s crlf) s
  exact ⟨_, e, rfl, h1, by omega, h2⟩
def p4 : List Int := [13, 10, 13, 10]
def More (o : Int × List S61 × ByteArray × Int × Int) : Prop := o = (0, [], (⟨#[]⟩ : ByteArray), 0, 11)
def Fails (o : Int × List S61 × ByteArray × Int × Int) : Prop := o = (0, [], (⟨#[]⟩ : ByteArray), 0, 3)
theorem parse_any (s : ByteArray) (hs : s.size ≤ 800) {k : Nat} (hk : 7000000 ≤ k) : ∃ o, reply_Parse.f k s = some o ∧ (idxL p4 (bytesOf s) = -1 → More o) ∧
    (More o ∨ Fails o ∨ (o.2.2.2.2 = 0 ∧ Small61 o.2.1 ∧ o.2.2.1.size ≤ 800 ∧ rightL o.1 (o.2.1.map fl61) (bytesOf o.2.2.1) = true ∧ 0 ≤ o.2.2.2.1 ∧ o.2.2.2.1 ≤ s.size ∧ encL o.1 (o.2.1.map fl61) (bytesOf o.2.2.1) = (bytesOf s).take o.2.2.2.1.toNat)) := by
  have hz := bts_size s
  unfold reply_Parse.f
  rw [Index_f s _ (by omega), show bytesOf (⟨#[13, 10, 13, 10]⟩ : ByteArray) = p4 from rfl]
  simp only [Option.bind_some]
  rcases idxL_ge p4 (bytesOf s) with h | h
  · rw [h, if_pos (by decide)]
    exact ⟨_, rfl, fun _ => rfl, Or.inl rfl⟩
  obtain ⟨i, hi⟩ : ∃ i : Nat, idxL p4 (bytesOf s) = i := ⟨(idxL p4 (bytesOf s)).toNat, by omega⟩
  have hroom := idxL_room hi
  rw [show p4.length = 4 from rfl] at hroom
  rw [hi, if_neg (by omega), if_pos (by omega), if_pos (by omega), show ((i : Int)).toNat = i by omega]
  have hxz : (s.extract 0 i).size ≤ 800 := by rw [ByteArray.size_extract]; omega
  obtain ⟨L, l1, _, l2, l3, l4⟩ := Split_f (s.extract 0 i) (by omega)
  rw [l1]
  simp only [Option.bind_some]
  cases L with
  | nil => exact absurd rfl l2
  | cons x X =>
    rw [List.length_cons] at l3
    obtain ⟨o, o1, o2, o3⟩ := top_f 1048576 (by omega) x X (by omega) (by have := l4 x (by simp); omega) (fun w hw => by have := l4 w (by simp [hw]); omega) (k := k) (by omega)
    rw [o1]
    simp only [Option.bind_some]
    have hcase : o = (0, [], (⟨#[]⟩ : ByteArray), 0, false) ∨ (Small61 o.2.1 ∧ 0 ≤ o.2.2.2.1 ∧ o.2.2.2.1 ≤ 2147483647) := by
      cases ht : topOk (bytesOf x) with
      | false => exact Or.inl (o2 (Or.inl ht))
      | true =>
        cases hc : mapCut (X.map bytesOf) with
        | none => exact Or.inl (o2 (Or.inr hc))
        | some F =>
          obtain ⟨_, _, q1, q2, q3, _⟩ := o3 ht F hc
          exact Or.inr ⟨q1, q2, q3⟩
    have hneg : ¬ ((i : Int) = -1) := by omega
    cases hok : o.2.2.2.2 with
    | false =>
      rw [if_neg (by simp)]
      exact ⟨_, rfl, fun h => absurd h hneg, Or.inr (Or.inl rfl)⟩
    | true =>
      rw [if_pos rfl]
      rcases hcase with rfl | ⟨q1, q2, q3⟩
      · exact Bool.noConfusion hok
      obtain ⟨st, l, b0, n, ok⟩ := o
      dsimp only at q1 q2 q3 ⊢
      rw [w64 (x := (i : Int) + 4) (by omega), w64 (x := (s.size : Int) - ((i : Int) + 4)) (by omega), w64 (x := (i : Int) + 4 + n) (by omega)]
      by_cases c : (s.size : Int) - ((i : Int) + 4) < n
      · rw [if_pos c]
        exact ⟨_, rfl, fun h => absurd h hneg, Or.inl rfl⟩
      obtain ⟨m, rfl⟩ : ∃ m : Nat, n = m := ⟨n.toNat, by omega⟩
      have hbs : (s.extract ((i : Int) + 4).toNat ((i : Int) + 4 + (m : Int)).toNat).size ≤ 800 := by rw [ByteArray.size_extract]; omega
      rw [if_neg c, if_pos (by omega), if_pos (by omega), if_pos (by omega)]
      have he := Encode_f st l q1 (s.extract ((i : Int) + 4).toNat ((i : Int) + 4 + (m : Int)).toNat) (by omega) (k := k) (by omega)
      cases hr : rightL st (l.map fl61) (bytesOf (s.extract ((i : Int) + 4).toNat ((i : Int) + 4 + (m : Int)).toNat)) with
      | false =>
        rw [he.2 hr]
        simp only [Option.bind_some]
        rw [if_neg (by decide)]
        exact ⟨_, rfl, fun h => absurd h hneg, Or.inr (Or.inl rfl)⟩
      | true =>
        obtain ⟨t, t1, t2⟩ := he.1 hr
        rw [t1]
        simp only [Option.bind_some]
        rw [if_pos trivial, if_pos (by omega)]
        by_cases c2 : t.toList = (s.extract 0 ((i : Int) + 4 + (m : Int)).toNat).toList
        · rw [if_pos c2]
          have et : bytesOf t = (bytesOf s).take (i + 4 + m) := by
            rw [(tl_iff _ _).1 c2, bts_extract, List.drop_zero, show ((i : Int) + 4 + (m : Int)).toNat = i + 4 + m by omega]
          have ez : t.size = i + 4 + m := by rw [bts_size, et, List.length_take]; omega
          refine ⟨_, rfl, fun h => absurd h hneg, Or.inr (Or.inr ⟨rfl, q1, hbs, hr, by dsimp only; omega, by dsimp only; omega, ?_⟩)⟩
          dsimp only
          rw [← t2, et, ez, show ((i + 4 + m : Nat) : Int).toNat = i + 4 + m by omega]
        · rw [if_neg c2]
          exact ⟨_, rfl, fun h => absurd h hneg, Or.inr (Or.inl rfl)⟩
def of61 (x : S61) : S64 := ⟨x.f0, x.f1⟩
theorem Plain_l0 (l : List S61) (hl : l.length ≤ 1000) (st : Int) (b : ByteArray) : ∀ (d k i : Nat) (o : List S64), i + d = l.length → d < k → o.length ≤ i → larumlaw13_Plain.l0 k l (l.length : Int) (i : Int) st o b = some (st, o ++ (l.drop i).map of61, b)
  | 0, k + 1, i, o, h1, h2, h3 => by
    simp only [larumlaw13_Plain.l0]
    rw [if_neg (by omega), List.drop_of_length_le (by omega)]
    simp
  | d + 1, k + 1, i, o, h1, h2, h3 => by
    simp only [larumlaw13_Plain.l0]
    rw [if_pos (by omega), if_pos (by omega), if_pos (by omega), if_pos (by omega), w64 (by omega), show (i : Int) + 1 = ((i + 1 : Nat) : Int) by omega, Plain_l0 l hl st b d k (i + 1) _ (by omega) (by omega) (by simp; omega), drop61 (l := l) (i := i) (by omega), List.map_cons]
    simp [of61]
theorem Plain_f (l : List S61) (hl : l.length ≤ 1000) (st : Int) (b : ByteArray) {k : Nat} (hk : 2000 ≤ k) : larumlaw13_Plain.f k st l b = some (st, l.map of61, b) := by
  unfold larumlaw13_Plain.f
  have := Plain_l0 l hl st b l.length k 0 [] (by omega) (by omega) (by simp)
  rw [show ((0 : Nat) : Int) = 0 from rfl] at this
  rw [this]
  simp
theorem map61 (l : List S61) : (l.map of61).map fl64 = l.map fl61 := by rw [List.map_map]; rfl
theorem small_of61 {l : List S61} (h : Small61 l) : Small64 (l.map of61) := by
  refine ⟨by rw [List.length_map]; exact h.1, fun x hx => ?_⟩
  obtain ⟨y, hy, rfl⟩ := List.mem_map.1 hx
  exact h.2 y hy
-- a reply's bytes, read
def noCR (x : List Int) : Prop := ∀ y ∈ x, y ≠ 13
def joinC : List (List Int) → List Int
  | [] => []
  | [a] => a
  | a :: b :: r => a ++ 13 :: 10 :: joinC (b :: r)
theorem flat_join : ∀ (ls : List (List Int)), ls ≠ [] → ls.flatMap (fun x => x ++ [13, 10]) = joinC ls ++ [13, 10]
  | [], h => absurd rfl h
  | [a], _ => by simp [joinC]
  | a :: b :: r, _ => by
    have ih := flat_join (b :: r) (by simp)
    rw [List.flatMap_cons, ih, joinC]
    simp
theorem p4_join (rest : List Int) : ∀ (ls : List (List Int)), ls ≠ [] → (∀ x ∈ ls, noCR x ∧ x ≠ []) → idxL p4 (joinC ls ++ (p4 ++ rest)) = ((joinC ls).length : Int)
  | [], h, _ => absurd rfl h
  | [a], _, h => by
    rw [joinC]
    exact idxL_first (a := 13) (p := [10, 13, 10]) (h a (by simp)).1
  | a :: b :: r, _, h => by
    have ih := p4_join rest (b :: r) (by simp) (fun x hx => h x (by simp [hx]))
    obtain ⟨hb1, hb2⟩ := h b (by simp)
    obtain ⟨y, yr, hy⟩ : ∃ y yr, joinC (b :: r) ++ (p4 ++ rest) = y :: yr ∧ y ≠ 13 := by
      cases b with
      | nil => exact absurd rfl hb2
      | cons y b =>
        cases r with
        | nil => exact ⟨y, _, rfl, hb1 y (by simp)⟩
        | cons c r => exact ⟨y, _, rfl, hb1 y (by simp)⟩
    have e1 : joinC (a :: b :: r) ++ (p4 ++ rest) = a ++ (13 :: 10 :: (joinC (b :: r) ++ (p4 ++ rest))) := by rw [joinC]; simp
    have e2 : idxL p4 (10 :: (joinC (b :: r) ++ (p4 ++ rest))) = ((joinC (b :: r)).length : Int) + 1 := by
      rw [idxL_cons, if_neg (by simp [p4, List.isPrefixOf]), ih, if_neg (by omega)]
    have e3 : idxL p4 (13 :: 10 :: (joinC (b :: r) ++ (p4 ++ rest))) = ((joinC (b :: r)).length : Int) + 2 := by
      rw [idxL_cons, e2, if_neg (by rw [hy.1]; simp [p4, List.isPrefixOf]; exact fun e => absurd e.symm hy.2), if_neg (by omega)]
      omega
    rw [e1]
    have := idxL_skip (a := 13) (p := [10, 13, 10]) (13 :: 10 :: (joinC (b :: r) ++ (p4 ++ rest))) (h a (by simp)).1
    rw [show ([13, 10, 13, 10] : List Int) = p4 from rfl, e3, if_neg (by omega)] at this
    rw [this, joinC, List.length_append, List.length_cons, List.length_cons]
    omega
theorem split_lines : ∀ (ls : List (List Int)), ls ≠ [] → (∀ x ∈ ls, noCR x) → ∀ s : ByteArray, bytesOf s = joinC ls → Lib.countB s crlf = ls.length - 1 ∧ (Lib.splitB crlf 0 (ls.length - 1) s).map bytesOf = ls
  | [], h, _, _, _ => absurd rfl h
  | [a], _, h, s, hs => by
    rw [joinC] at hs
    have hi : Lib.indexB s crlf = -1 := by
      show Lib.index s.data.toList crlf.data.toList = -1
      rw [idx_nats]
      have : idxL [13, 10] (bytesOf s) = -1 := by rw [hs]; exact idxL_no (h a (by simp))
      exact this
    exact ⟨Lib.countB_miss s crlf hi, by show [bytesOf s] = [a]; rw [hs]⟩
  | a :: b :: r, _, h, s, hs => by
    rw [joinC] at hs
    have hi : Lib.indexB s crlf = ((a.length : Nat) : Int) := by
      show Lib.index s.data.toList crlf.data.toList = _
      rw [idx_nats]
      have : idxL [13, 10] (bytesOf s) = (a.length : Int) := by
        rw [hs]
        exact idxL_first (a := 13) (p := [10]) (m := joinC (b :: r)) (h a (by simp))
      exact this
    have hx : bytesOf (s.extract (a.length + crlf.size) s.size) = joinC (b :: r) := by
      rw [bts_extract_to, hs, show crlf.size = 2 from rfl, show a ++ 13 :: 10 :: joinC (b :: r) = (a ++ [13, 10]) ++ joinC (b :: r) by simp, List.drop_left' (by simp)]
    obtain ⟨c1, c2⟩ := split_lines (b :: r) (by simp) (fun x hx => h x (by simp [hx])) _ hx
    refine ⟨?_, ?_⟩
    · rw [Lib.countB_hit s crlf a.length (by decide) hi, c1]
      simp only [List.length_cons]
      omega
    · rw [show (a :: b :: r).length - 1 = (b :: r).length - 1 + 1 by simp, Lib.splitB_hit crlf 0 _ s a.length hi, List.map_cons, c2, Nat.add_zero, bts_extract, List.drop_zero, hs, List.take_left]
def line0 (st : Int) : List Int := prot ++ (printN st ++ ([32] ++ reasonL st))
def fline (f : List Int × List Int) : List Int := f.1 ++ (58 :: 32 :: f.2)
def more1 (st : Int) (n : Int) : List (List Int × List Int) := if bareI st = true then [] else [(clN, printN n)]
def linesL (st : Int) (fs : List (List Int × List Int)) (n : Int) : List (List Int) := line0 st :: (fs ++ more1 st n).map fline
theorem encL_join (st : Int) (fs : List (List Int × List Int)) (body : List Int) : encL st fs body = joinC (linesL st fs (body.length : Int)) ++ (p4 ++ body) := by
  have hfl : ∀ g : List (List Int × List Int), (g.map fline).flatMap (fun x => x ++ [13, 10]) = g.flatMap lineF := by
    intro g
    induction g with
    | nil => rfl
    | cons x g ih => rw [List.map_cons, List.flatMap_cons, List.flatMap_cons, ih]; simp [fline, lineF]
  have h1 : headL st ++ (fs ++ more1 st (body.length : Int)).flatMap lineF = joinC (linesL st fs (body.length : Int)) ++ [13, 10] := by
    rw [← flat_join _ (by simp [linesL])]
    unfold linesL
    rw [List.flatMap_cons, hfl]
    congr 1
    simp [headL, line0, prot]
  have h2 : (more1 st (body.length : Int)).flatMap lineF = if bareI st = true then [] else sizeL (body.length : Int) := by
    unfold more1
    split
    · rfl
    · simp [lineF, sizeL, clN]
  have h3 : encL st fs body = (headL st ++ (fs ++ more1 st (body.length : Int)).flatMap lineF) ++ ([13, 10] ++ body) := by
    unfold encL
    rw [List.flatMap_append, h2]
    simp only [List.append_assoc]
  rw [h3, h1]
  simp [p4]
theorem dig_no (v : Nat) : ∀ x ∈ digs 10 v, x ≠ 13 := fun x hx => by
  have := List.all_eq_true.1 (digs10_all v).1 x hx
  have := isD_iff.1 this
  omega
theorem print_no13 {n : Int} (h : 0 ≤ n) : noCR (printN n) ∧ printN n ≠ [] := by
  unfold printN
  rw [if_neg (by omega)]
  exact ⟨dig_no _, digs_ne _ _⟩
theorem tok13 : tokI 13 = false ∧ tokI 58 = false := by decide +kernel
theorem val13 : valI 13 = false := by decide
/-- What a right field is. -/
theorem rightF_of {n v : List Int} (h : rightF n v = true) : n ≠ [] ∧ noCR n ∧ (∀ y ∈ n, y ≠ 58) ∧ noCR v ∧ n ≠ clN := by
  unfold rightF at h
  rw [Bool.and_eq_true] at h
  have h1 := of_decide_eq_true h.1
  have h2 : ¬ lowL n = clen := by simpa using h.2
  unfold fieldR at h1
  by_cases hok : fieldOk (n ++ 58 :: v) = true
  · rw [if_pos hok] at h1
    simp only [Prod.mk.injEq, and_true] at h1
    obtain ⟨e1, _⟩ := h1
    unfold fieldOk at hok
    simp only [Bool.and_eq_true, Bool.not_eq_true'] at hok
    obtain ⟨⟨_, o1, o2⟩, o3⟩ := hok
    rw [e1] at o1 o2
    have htok := List.all_eq_true.1 o2
    have n58 : ∀ y ∈ n, y ≠ 58 := fun y hy e => by have := htok y hy; rw [e, tok13.2] at this; exact Bool.noConfusion this
    have ev : valueL (n ++ 58 :: v) = v := by
      have : ∀ (m : List Int), (∀ y ∈ m, y ≠ 58) → (m ++ 58 :: v).dropWhile (fun x => x != 58) = 58 :: v := by
        intro m
        induction m with
        | nil => intro _; simp
        | cons y m ih =>
          intro hm
          rw [List.cons_append, List.dropWhile_cons, if_pos (by simpa using hm y (by simp))]
          exact ih (fun z hz => hm z (by simp [hz]))
      unfold valueL
      rw [this n n58]
      rfl
    rw [ev] at o3
    have hval := List.all_eq_true.1 o3
    refine ⟨fun e => by rw [e] at o1; exact Bool.noConfusion o1, fun y hy e => by have := htok y hy; rw [e, tok13.1] at this; exact Bool.noConfusion this, n58, fun y hy e => by have := hval y hy; rw [e, val13] at this; exact Bool.noConfusion this, fun e => h2 (by rw [e]; decide)⟩
  · rw [if_neg hok] at h1
    simp at h1
theorem reason_no13 (st : Int) : noCR (reasonL st) := fun y hy e => by
  have := List.all_eq_true.1 (reason_any st).2 y hy
  have := of_decide_eq_true this
  omega
theorem lines_ok {st : Int} {fs : List (List Int × List Int)} {body : List Int} (h : rightL st fs body = true) (n : Nat) : ∀ x ∈ linesL st fs (n : Int), noCR x ∧ x ≠ [] := by
  unfold rightL at h
  simp only [Bool.and_eq_true] at h
  have hst := of_decide_eq_true h.1.1
  have hf := List.all_eq_true.1 h.2
  have hfl : ∀ f : List Int × List Int, noCR f.1 → noCR f.2 → noCR (fline f) ∧ fline f ≠ [] := by
    intro f h1 h2
    refine ⟨fun y hy => ?_, fun e => by
      have := congrArg List.length e
      simp [fline] at this⟩
    unfold fline at hy
    rcases List.mem_append.1 hy with hy | hy
    · exact h1 y hy
    · simp only [List.mem_cons] at hy
      rcases hy with rfl | rfl | hy
      · decide
      · decide
      · exact h2 y hy
  intro x hx
  unfold linesL at hx
  rcases List.mem_cons.1 hx with rfl | hx
  · refine ⟨fun y hy => ?_, by simp [line0, prot]⟩
    unfold line0 at hy
    rcases List.mem_append.1 hy with hy | hy
    · have : ∀ y ∈ prot, y ≠ 13 := by decide
      exact this y hy
    · rcases List.mem_append.1 hy with hy | hy
      · exact (print_no13 (by omega)).1 y hy
      · rcases List.mem_append.1 hy with hy | hy
        · simp at hy; omega
        · exact reason_no13 st y hy
  · obtain ⟨f, hf', rfl⟩ := List.mem_map.1 hx
    rcases List.mem_append.1 hf' with hf' | hf'
    · have := rightF_of (hf f hf')
      exact hfl f this.2.1 this.2.2.2.1
    · unfold more1 at hf'
      split at hf'
      · simp at hf'
      · simp at hf'
        subst hf'
        exact hfl (clN, printN (n : Int)) (show ∀ y ∈ clN, y ≠ 13 by decide) (print_no13 (n := (n : Int)) (by omega)).1
theorem cut2_line {n v : List Int} (h : ∀ y ∈ n, y ≠ 58) : cut2 (n ++ (58 :: 32 :: v)) = (n, v, true) := by
  have hi : idxL [58, 32] (n ++ (58 :: 32 :: v)) = (n.length : Int) := idxL_first (a := 58) (p := [32]) (m := v) h
  unfold cut2
  rw [hi, if_neg (by omega), show ((n.length : Int)).toNat = n.length by omega, List.take_left]
  rw [show n ++ 58 :: 32 :: v = (n ++ [58, 32]) ++ v by simp, List.drop_left' (by simp)]
theorem mapCut_lines : ∀ (F : List (List Int × List Int)), (∀ f ∈ F, ∀ y ∈ f.1, y ≠ 58) → mapCut (F.map fline) = some F
  | [], _ => rfl
  | f :: F, h => by
    have e : cut2 (fline f) = (f.1, f.2, true) := cut2_line (h f (by simp))
    rw [List.map_cons, mapCut, e, if_pos rfl, mapCut_lines F (fun g hg => h g (by simp [hg]))]
    rfl
theorem print3 {st : Int} (h : 200 ≤ st ∧ st ≤ 599) : (printN st).length = 3 := by
  unfold printN
  rw [if_neg (by omega), digs_ge (by omega) (by omega), digs_ge (by omega) (by omega), digs_lt (by omega)]
  rfl
theorem size_print {n : Nat} (h : n ≤ 2147483647) : sizeN (printN (n : Int)) = ((n : Int), 0) := by
  have e : printN (n : Int) = digs 10 n := by unfold printN; rw [if_neg (by omega)]; rfl
  obtain ⟨h1, h2⟩ := digs10_all n
  unfold sizeN
  rw [e, h1, h2, if_neg (by simp [digs_ne]), if_neg (by omega)]
theorem top_line0 {st : Int} (h : 200 ≤ st ∧ st ≤ 599) : topOk (line0 st) = true ∧ (sizeN (codeL (line0 st))).1 = st := by
  have hp : prot.isPrefixOf (line0 st) = true := by
    rw [List.isPrefixOf_iff_prefix]
    exact ⟨_, rfl⟩
  have hc : codeL (line0 st) = printN st := by
    unfold codeL
    rw [if_pos hp]
    unfold line0
    rw [show (9 : Nat) = prot.length from rfl, List.drop_left, ← print3 h, List.take_left]
  have hz : sizeN (printN st) = (st, 0) := by
    have := size_print (n := st.toNat) (by omega)
    rw [show ((st.toNat : Nat) : Int) = st by omega] at this
    exact this
  unfold topOk
  rw [hc, hz, hp]
  exact ⟨rfl, rfl⟩
theorem lastCL_fs {st : Int} {fs : List (List Int × List Int)} {body : List Int} (h : rightL st fs body = true) : lastCL fs = false := by
  unfold rightL at h
  simp only [Bool.and_eq_true] at h
  have hf := List.all_eq_true.1 h.2
  unfold lastCL
  refine decide_eq_false (fun hh => ?_)
  obtain ⟨h1, h2⟩ := hh
  rw [List.getLast?_eq_some_getLast h1] at h2
  exact (rightF_of (hf _ (List.getLast_mem h1))).2.2.2.2 h2
theorem lastCL_app (fs : List (List Int × List Int)) (v : List Int) : lastCL (fs ++ [(clN, v)]) = true ∧ (fs ++ [(clN, v)]).getLast?.getD ([], []) = (clN, v) ∧ (fs ++ [(clN, v)]).dropLast = fs := by
  refine ⟨?_, by simp, by simp⟩
  unfold lastCL
  simp
theorem join_mem : ∀ (ls : List (List Int)) (x : List Int), x ∈ ls → x.length ≤ (joinC ls).length
  | [a], x, h => by simp at h; rw [h, joinC]; exact Nat.le_refl _
  | a :: b :: r, x, h => by
    rw [joinC, List.length_append, List.length_cons, List.length_cons]
    rcases List.mem_cons.1 h with rfl | h
    · omega
    · have := join_mem (b :: r) x h
      omega
def Fit (fs : List (List Int × List Int)) (body : List Int) : Prop := fs.length ≤ 800 ∧ (∀ f ∈ fs, f.1.length ≤ 1048576 ∧ f.2.length ≤ 1048576) ∧ body.length ≤ 1048576
/-- The bytes of a reply, up to a place, with whatever behind them. -/
theorem parse_enc {st : Int} {fs : List (List Int × List Int)} {body : List Int} (h : rightL st fs body = true) (hfit : Fit fs body) (rest : List Int) (n : Nat) (s : ByteArray) (hs : bytesOf s = (encL st fs body ++ rest).take n) (hz : s.size < 4294967281) {k : Nat} (hk : 7000000 ≤ k) :
    (n < (encL st fs body).length → reply_Parse.f k s = some (0, [], (⟨#[]⟩ : ByteArray), 0, 11)) ∧ ((encL st fs body).length ≤ n → ∃ l b, reply_Parse.f k s = some (st, l, b, ((encL st fs body).length : Int), 0) ∧ l.map fl61 = fs ∧ bytesOf b = body) := by
  have hst : 200 ≤ st ∧ st ≤ 599 := by
    unfold rightL at h
    rw [Bool.and_eq_true, Bool.and_eq_true] at h
    exact of_decide_eq_true h.1.1
  have hbare : bareI st = true → body = [] := by
    intro hb
    unfold rightL at h
    rw [hb] at h
    simp only [Bool.and_eq_true, Bool.not_true, Bool.false_or, decide_eq_true_eq] at h
    exact h.1.2
  obtain ⟨f1, f2, f3⟩ := hfit
  have hlok := lines_ok h body.length
  have hne : linesL st fs (body.length : Int) ≠ [] := by simp [linesL]
  have hfull : idxL p4 (encL st fs body ++ rest) = ((joinC (linesL st fs (body.length : Int))).length : Int) := by
    rw [encL_join, List.append_assoc, List.append_assoc]
    exact p4_join (body ++ rest) _ hne hlok
  have hidx := idxL_take (p := p4) (by decide) hfull n
  rw [← hs, show p4.length = 4 from rfl] at hidx
  have hzl := bts_size s
  have helen : (encL st fs body).length = (joinC (linesL st fs (body.length : Int))).length + 4 + body.length := by
    rw [encL_join, List.length_append, List.length_append, show p4.length = 4 from rfl]
    omega
  have hJ : (encL st fs body ++ rest).take (joinC (linesL st fs (body.length : Int))).length = joinC (linesL st fs (body.length : Int)) := by
    rw [encL_join, List.append_assoc, List.take_left]
  have hbody : ((encL st fs body ++ rest).take ((joinC (linesL st fs (body.length : Int))).length + 4 + body.length)).drop ((joinC (linesL st fs (body.length : Int))).length + 4) = body := by
    rw [← helen, List.take_left, encL_join, ← List.append_assoc, List.drop_left' (by rw [List.length_append]; rfl)]
  generalize hJdef : joinC (linesL st fs (body.length : Int)) = J at hidx helen hJ hbody
  unfold reply_Parse.f
  rw [Index_f s _ hz, show bytesOf (⟨#[13, 10, 13, 10]⟩ : ByteArray) = p4 from rfl, hidx]
  simp only [Option.bind_some]
  by_cases c : J.length + 4 ≤ n
  · have hsl : s.size = min n (encL st fs body ++ rest).length := by rw [hzl, hs, List.length_take]
    rw [List.length_append] at hsl
    have hsJ : J.length + 4 ≤ s.size := by omega
    have hx : bytesOf (s.extract 0 J.length) = J := by
      rw [bts_extract, List.drop_zero, hs, List.take_take, Nat.min_eq_left (by omega), hJ]
    rw [if_pos c, if_neg (by omega), if_pos (by omega), if_pos (by omega), show ((J.length : Int)).toNat = J.length by omega]
    obtain ⟨L, l1, l1b, _, _, _⟩ := Split_f (s.extract 0 J.length) (by rw [ByteArray.size_extract]; omega)
    obtain ⟨cn, sp⟩ := split_lines _ hne (fun x hx => (hlok x hx).1) (s.extract 0 J.length) (by rw [hx, hJdef])
    rw [cn] at l1b
    rw [← l1b] at sp
    rw [l1]
    simp only [Option.bind_some]
    cases L with
    | nil => simp [linesL] at sp
    | cons x X =>
      have sp' : bytesOf x :: X.map bytesOf = line0 st :: (fs ++ more1 st (body.length : Int)).map fline := sp
      simp only [List.cons.injEq] at sp'
      obtain ⟨sx, sX⟩ := sp'
      have hlen : X.length ≤ 900 := by
        have := congrArg List.length sX
        rw [List.length_map, List.length_map, List.length_append] at this
        have h1 : (more1 st (body.length : Int)).length ≤ 1 := by unfold more1; split <;> simp
        omega
      have p19 : (printN (body.length : Int)).length ≤ 66 := by
        obtain ⟨t, _, t2, t3⟩ := Print_eq (n := (body.length : Int)) (k := 67) ⟨by omega, by omega⟩ (by omega)
        rw [← t2, ← bts_size]; exact t3
      have hxs : x.size ≤ 3000000 := by
        have := (reason_any st).1
        have h3 := print3 hst
        rw [bts_size, sx]
        unfold line0
        simp only [List.length_append, h3, show prot.length = 9 from rfl, List.length_cons, List.length_nil]
        omega
      have hXs : ∀ w ∈ X, w.size ≤ 3000000 := by
        intro w hw
        have : bytesOf w ∈ (fs ++ more1 st (body.length : Int)).map fline := by rw [← sX]; exact List.mem_map_of_mem hw
        obtain ⟨f, hf, e⟩ := List.mem_map.1 this
        rw [bts_size, ← e]
        unfold fline
        rw [List.length_append, List.length_cons, List.length_cons]
        rcases List.mem_append.1 hf with hf | hf
        · have := f2 f hf; omega
        · unfold more1 at hf
          split at hf
          · simp at hf
          · simp at hf
            subst hf
            rw [show clN.length = 14 from rfl]
            dsimp only
            omega
      obtain ⟨o, o1, o2, o3⟩ := top_f 3000000 (Nat.le_refl _) x X hlen hxs hXs (k := k) (by omega)
      obtain ⟨t0, t1⟩ := top_line0 hst
      rw [sx, t1] at o3
      have hF : ∀ f ∈ fs ++ more1 st (body.length : Int), ∀ y ∈ f.1, y ≠ 58 := by
        intro f hf
        rcases List.mem_append.1 hf with hf | hf
        · unfold rightL at h
          simp only [Bool.and_eq_true] at h
          exact (rightF_of (List.all_eq_true.1 h.2 f hf)).2.2.1
        · unfold more1 at hf
          split at hf
          · simp at hf
          · simp at hf
            subst hf
            exact (show ∀ y ∈ clN, y ≠ 58 by decide)
      have te := o3 t0 _ (by rw [sX]; exact mapCut_lines _ hF)
      obtain ⟨e1, e2, e3, e4, e5, e6, e7⟩ := te
      have hres : o.2.1.map fl61 = fs ∧ o.2.2.2.1 = (body.length : Int) ∧ o.2.2.2.2 = true := by
        cases hb : bareI st with
        | true =>
          have em : more1 st (body.length : Int) = [] := by unfold more1; rw [if_pos hb]
          rw [em, List.append_nil] at e6
          obtain ⟨g1, g2, g3⟩ := e6 (lastCL_fs h)
          exact ⟨g1, by rw [g2, hbare hb]; rfl, g3⟩
        | false =>
          have em : more1 st (body.length : Int) = [(clN, printN (body.length : Int))] := by unfold more1; rw [hb, if_neg (by simp)]
          rw [em] at e7
          obtain ⟨q1, q2, q3⟩ := lastCL_app fs (printN (body.length : Int))
          obtain ⟨g1, g2, g3⟩ := e7 q1
          rw [q2, size_print (by omega)] at g2 g3
          rw [q3] at g1
          exact ⟨g1, g2, g3⟩
      obtain ⟨g1, g2, g3⟩ := hres
      rw [o1]
      simp only [Option.bind_some]
      obtain ⟨st', l, b0, m, ok⟩ := o
      dsimp only at e1 e2 e3 g1 g2 g3 ⊢
      subst e1 g2 g3
      rw [if_pos rfl, w64 (x := (J.length : Int) + 4) (by omega), w64 (x := (s.size : Int) - ((J.length : Int) + 4)) (by omega), w64 (x := (J.length : Int) + 4 + (body.length : Int)) (by omega)]
      refine ⟨fun hn => by rw [if_pos (by omega)], fun hn => ?_⟩
      rw [if_neg (by omega), if_pos (by omega), if_pos (by omega), if_pos (by omega), show ((J.length : Int) + 4).toNat = J.length + 4 by omega, show ((J.length : Int) + 4 + (body.length : Int)).toNat = J.length + 4 + body.length by omega]
      have hbb : bytesOf (s.extract (J.length + 4) (J.length + 4 + body.length)) = body := by
        rw [bts_extract, hs, List.take_take, Nat.min_eq_left (by omega), hbody]
      have hbz : (s.extract (J.length + 4) (J.length + 4 + body.length)).size ≤ 1048576 := by rw [bts_size, hbb]; exact f3
      have hsm : Small61 l := by
        refine ⟨e3.1, fun y hy => ?_⟩
        have := f2 (fl61 y) (by rw [← g1]; exact List.mem_map_of_mem hy)
        rw [bts_size, bts_size]
        exact this
      have he := Encode_f st' l hsm _ hbz (k := k) (by omega)
      rw [g1, hbb] at he
      obtain ⟨t, t1, t2⟩ := he.1 h
      rw [t1]
      simp only [Option.bind_some]
      have htake : (encL st' fs body ++ rest).take (J.length + 4 + body.length) = encL st' fs body := by rw [← helen, List.take_left]
      rw [if_pos trivial, if_pos (by omega), if_pos ((tl_iff _ _).2 (by rw [t2, bts_extract, List.drop_zero, hs, List.take_take, Nat.min_eq_left (by omega), htake]))]
      exact ⟨l, _, by rw [bts_size t, t2], g1, hbb⟩
  · rw [if_neg c, if_pos (by decide)]
    exact ⟨fun _ => rfl, fun hn => by omega⟩
theorem Same_l0 (l m : List S64) (hl : l.length ≤ 1000) (h : l.map fl64 = m.map fl64) (st : Int) (b : ByteArray) : ∀ (d k i : Nat), i + d = m.length → d < k → larumlaw13_Same.l0 k m (m.length : Int) (i : Int) st l b = some true
  | 0, k + 1, i, h1, h2 => by
    simp only [larumlaw13_Same.l0]
    rw [if_neg (by omega)]
  | d + 1, k + 1, i, h1, h2 => by
    have hlen : l.length = m.length := by have := congrArg List.length h; rwa [List.length_map, List.length_map] at this
    have e : fl64 (rd_T64 l (i : Int)) = fl64 (rd_T64 m (i : Int)) := by
      have := congrArg (List.drop i) h
      rw [← List.map_drop, ← List.map_drop, drop64 (l := l) (i := i) (by omega), drop64 (l := m) (i := i) (by omega), List.map_cons, List.map_cons] at this
      exact (List.cons.inj this).1
    have e1 : bytesOf (rd_T64 l (i : Int)).f0 = bytesOf (rd_T64 m (i : Int)).f0 := congrArg Prod.fst e
    have e2 : bytesOf (rd_T64 l (i : Int)).f1 = bytesOf (rd_T64 m (i : Int)).f1 := congrArg Prod.snd e
    simp only [larumlaw13_Same.l0]
    rw [if_pos (by omega), if_pos (by omega), if_pos (by omega), if_pos (by omega), (tl_iff _ _).2 e1, (tl_iff _ _).2 e2, if_neg (by simp), w64 (by omega), show (i : Int) + 1 = ((i + 1 : Nat) : Int) by omega]
    exact Same_l0 l m hl h st b d k (i + 1) (by omega) (by omega)
theorem Same_f (l m : List S64) (hl : l.length ≤ 1000) (h : l.map fl64 = m.map fl64) (st : Int) (b c : ByteArray) (hb : bytesOf b = bytesOf c) {k : Nat} (hk : 2000 ≤ k) : larumlaw13_Same.f k st l b st m c = some true := by
  obtain ⟨k, rfl⟩ : ∃ j, k = j + 1 := ⟨k - 1, by omega⟩
  have hlen : l.length = m.length := by have := congrArg List.length h; rwa [List.length_map, List.length_map] at this
  have := Same_l0 l m hl h st b m.length k 0 (by omega) (by omega)
  rw [show ((0 : Nat) : Int) = 0 from rfl] at this
  unfold larumlaw13_Same.f
  rw [if_pos rfl, if_pos ((tl_iff b c).2 hb)]
  simp only [larumlaw13_Same.j0]
  rw [if_neg (by simp [hlen]), this]
theorem small64_of {l : List S64} (h : Small64 l) : Small61 (l.map of64) := by
  refine ⟨by rw [List.length_map]; exact h.1, fun x hx => ?_⟩
  obtain ⟨y, hy, rfl⟩ := List.mem_map.1 hx
  exact h.2 y hy
theorem map64 (l : List S64) : (l.map of64).map fl61 = l.map fl64 := by rw [List.map_map]; rfl
theorem fit_of {l : List S64} (h : Small64 l) (h6 : l.length ≤ 6) {b : ByteArray} (hb : b.size ≤ 200) : Fit (l.map fl64) (bytesOf b) := by
  refine ⟨by rw [List.length_map]; omega, fun f hf => ?_, by rw [← bts_size]; omega⟩
  obtain ⟨x, hx, rfl⟩ := List.mem_map.1 hf
  have := h.2 x hx
  show (bytesOf x.f0).length ≤ _ ∧ (bytesOf x.f1).length ≤ _
  rw [← bts_size, ← bts_size]
  exact this
theorem lines_len : ∀ (fs : List (List Int × List Int)), (∀ f ∈ fs, f.1.length ≤ 1048576 ∧ f.2.length ≤ 1048576) → (fs.flatMap lineF).length ≤ 2097200 * fs.length
  | [], _ => Nat.le_refl _
  | f :: fs, h => by
    have := lines_len fs (fun g hg => h g (by simp [hg]))
    have hf := h f (by simp)
    rw [List.flatMap_cons, List.length_append, List.length_cons]
    have : (lineF f).length = f.1.length + 2 + f.2.length + 2 := by unfold lineF; simp; omega
    omega
theorem enc_len {st : Int} {fs : List (List Int × List Int)} {body : List Int} (h : rightL st fs body = true) (h6 : fs.length ≤ 6) (hfit : Fit fs body) : 0 < (encL st fs body).length ∧ (encL st fs body).length ≤ 14000000 := by
  have hst : 200 ≤ st ∧ st ≤ 599 := by
    unfold rightL at h
    rw [Bool.and_eq_true, Bool.and_eq_true] at h
    exact of_decide_eq_true h.1.1
  have hl := lines_len fs hfit.2.1
  have h3 := hfit.2.2
  have hr := (reason_any st).1
  have hp := print3 hst
  have p19 : (printN (body.length : Int)).length ≤ 66 := by
    obtain ⟨t, _, t2, t3⟩ := Print_eq (n := (body.length : Int)) (k := 67) ⟨by omega, by omega⟩ (by omega)
    rw [← t2, ← bts_size]; exact t3
  have hs : (if bareI st = true then [] else sizeL (body.length : Int)).length ≤ 100 := by
    split
    · simp
    · unfold sizeL; simp only [List.length_append, List.length_cons, List.length_nil]; omega
  have hb : 2097200 * fs.length ≤ 2097200 * 6 := Nat.mul_le_mul_left _ h6
  unfold encL headL
  simp only [List.length_append, List.length_cons, List.length_nil, hp]
  omega
theorem awake300 : larumlaw13_awake.f 300 = some true := by decide +kernel
theorem drop24 {l : List S24} {i : Nat} (h : i < l.length) : l.drop i = rd_T24 l (i : Int) :: l.drop (i + 1) := by
  rw [List.drop_eq_getElem_cons h]
  unfold rd_T24
  simp [List.getD_eq_getElem?_getD, List.getElem?_eq_getElem h]
theorem mem24 {l : List S24} {i : Nat} (h : i < l.length) : rd_T24 l (i : Int) ∈ l := by
  have := drop24 h
  exact List.mem_of_mem_drop (i := i) (by rw [this]; simp)
def encR (r : S24) : List Int := encL r.f0 (r.f1.map fl64) (bytesOf r.f2)
def Good (r : S24) : Prop := rightL r.f0 (r.f1.map fl64) (bytesOf r.f2) = true ∧ (r.f1.map fl64).length ≤ 6 ∧ Fit (r.f1.map fl64) (bytesOf r.f2)
theorem many_len : ∀ (w : List S24), (∀ r ∈ w, Good r) → (w.flatMap encR).length ≤ 14000000 * w.length
  | [], _ => Nat.le_refl _
  | r :: w, h => by
    have := many_len w (fun x hx => h x (by simp [hx]))
    obtain ⟨g1, g2, g3⟩ := h r (by simp)
    have hl := (enc_len g1 g2 g3).2
    rw [List.flatMap_cons, List.length_append, List.length_cons]
    have : (encR r).length ≤ 14000000 := hl
    omega
theorem law_l1 (w : List S24) (hw : ∀ r ∈ w, Good r) (h5 : w.length ≤ 5) (K : Nat) (hK : 22000000 ≤ K) : ∀ (d k i : Nat) (s : ByteArray), i + d = w.length → d + K < k → bytesOf s = (w.drop i).flatMap encR → larumlaw13_ReplyMany.l1 k s w (w.length : Int) (i : Int) = some true
  | 0, k + 1, i, s, h1, h2, h3 => by
    have aw : larumlaw13_awake.f k = some true := at_rounds (g := fun k => larumlaw13_awake.f k) (fun k => larumlaw13_awake.mono k) (show 300 ≤ k by omega) awake300
    rw [List.drop_of_length_le (by omega), List.flatMap_nil] at h3
    simp only [larumlaw13_ReplyMany.l1]
    rw [if_neg (by omega), if_pos ((tl_nil s).2 h3), aw]
    rfl
  | d + 1, k + 1, i, s, h1, h2, h3 => by
    have hd := drop24 (l := w) (i := i) (by omega)
    obtain ⟨g1, g2, g3⟩ := hw _ (mem24 (l := w) (i := i) (by omega))
    have hall := many_len (w.drop i) (fun r hr => hw r (List.mem_of_mem_drop hr))
    have hdl : (w.drop i).length ≤ 5 := by rw [List.length_drop]; omega
    have hz := bts_size s
    rw [h3] at hz
    rw [hd, List.flatMap_cons] at h3
    have hl := enc_len g1 g2 g3
    have ht := many_len (w.drop (i + 1)) (fun r hr => hw r (List.mem_of_mem_drop hr))
    obtain ⟨l2, b2, p1, p2, p3⟩ := (parse_enc g1 g3 ((w.drop (i + 1)).flatMap encR) (encR (rd_T24 w (i : Int)) ++ (w.drop (i + 1)).flatMap encR).length s (by rw [h3]; exact (List.take_length).symm) (by omega) (k := k) (by omega)).2 (by rw [List.length_append]; unfold encR; omega)
    have hl2 : l2.length ≤ 6 := by have := congrArg List.length p2; rw [List.length_map] at this; omega
    have hsz : s.size = (encL (rd_T24 w (i : Int)).f0 ((rd_T24 w (i : Int)).f1.map fl64) (bytesOf (rd_T24 w (i : Int)).f2)).length + ((w.drop (i + 1)).flatMap encR).length := by
      rw [bts_size, h3, List.length_append]; rfl
    have hnext : bytesOf (s.extract (encL (rd_T24 w (i : Int)).f0 ((rd_T24 w (i : Int)).f1.map fl64) (bytesOf (rd_T24 w (i : Int)).f2)).length s.size) = (w.drop (i + 1)).flatMap encR := by
      rw [bts_extract_to, h3]
      exact List.drop_left
    simp only [larumlaw13_ReplyMany.l1]
    rw [if_pos (by omega), if_pos (by omega), if_pos (by omega), p1]
    simp only [Option.bind_some]
    rw [if_pos trivial, Plain_f l2 (by omega) _ b2 (by omega)]
    simp only [Option.bind_some]
    rw [Same_f (l2.map of61) _ (by rw [List.length_map]; omega) (by rw [map61, p2]) _ b2 _ p3 (by omega)]
    simp only [Option.bind_some, if_true]
    generalize (encL (rd_T24 w (i : Int)).f0 ((rd_T24 w (i : Int)).f1.map fl64) (bytesOf (rd_T24 w (i : Int)).f2)).length = n at hl hsz hnext ⊢
    rw [if_neg (by omega), if_neg (by omega), if_pos (by omega), if_pos (by omega), w64 (by omega), show (i : Int) + 1 = ((i + 1 : Nat) : Int) by omega, show ((n : Int)).toNat = n by omega]
    exact law_l1 w hw h5 K hK d k (i + 1) _ (by omega) (by omega) hnext
theorem law_l0 (L : List S24) (hL : L.length ≤ 1048576) (hx : ∀ x ∈ L, (x.f1.length ≤ 1048576 ∧ ∀ y ∈ x.f1, y.f0.size ≤ 1048576 ∧ y.f1.size ≤ 1048576) ∧ x.f2.size ≤ 1048576) (K : Nat) (hK : 22000010 ≤ K) : ∀ (d k i : Nat) (s : ByteArray) (w : List S24), i + d = L.length → d + K < k → (∀ r ∈ w, Good r) → w.length ≤ 5 → w.length ≤ i → bytesOf s = w.flatMap encR → larumlaw13_ReplyMany.l0 k s w L (L.length : Int) (i : Int) = some true
  | 0, k + 1, i, s, w, h1, h2, h3, h4, h5, h6 => by
    simp only [larumlaw13_ReplyMany.l0]
    rw [if_neg (by omega)]
    have := law_l1 w h3 h4 22000000 (Nat.le_refl _) w.length k 0 s (by omega) (by omega) (by rw [List.drop_zero]; exact h6)
    rw [show ((0 : Nat) : Int) = 0 from rfl] at this
    exact this
  | d + 1, k + 1, i, s, w, h1, h2, h3, h4, h5, h6 => by
    obtain ⟨⟨q1, q2⟩, q3⟩ := hx _ (mem24 (l := L) (i := i) (by omega))
    obtain ⟨l', b', c1, c2, c3, c4⟩ := cut_f (rd_T24 L (i : Int)).f0 _ q1 q2 _ q3
    have he := Encode_f (rd_T24 L (i : Int)).f0 (l'.map of64) (small64_of c2) b' (by omega) (k := k) (by omega)
    rw [map64] at he
    have hlen := many_len w h3
    have hz := bts_size s
    rw [h6] at hz
    have next : ∀ (s' : ByteArray) (w' : List S24), (∀ r ∈ w', Good r) → w'.length ≤ 5 → w'.length ≤ i + 1 → bytesOf s' = w'.flatMap encR → larumlaw13_ReplyMany.l0 k s' w' L (L.length : Int) (wrap64 ((i : Int) + 1)) = some true := by
      intro s' w' a1 a2 a3 a4
      rw [w64 (by omega), show (i : Int) + 1 = ((i + 1 : Nat) : Int) by omega]
      exact law_l0 L hL hx K hK d k (i + 1) s' w' (by omega) (by omega) a1 a2 a3 a4
    simp only [larumlaw13_ReplyMany.l0]
    rw [if_pos (by omega), if_pos (by omega), if_pos (by omega), c1]
    simp only [Option.bind_some]
    rw [Ours_f l' (by omega) _ b' (by omega)]
    simp only [Option.bind_some]
    cases hr : rightL (rd_T24 L (i : Int)).f0 (l'.map fl64) (bytesOf b') with
    | true =>
      obtain ⟨t, t1, t2⟩ := he.1 hr
      have hfit := fit_of c2 c3 c4
      have h6' : (l'.map fl64).length ≤ 6 := by rw [List.length_map]; exact c3
      have hl := enc_len hr h6' hfit
      have htz := bts_size t
      rw [t2] at htz
      rw [t1]
      simp only [Option.bind_some]
      by_cases c : (i : Int) < 5
      · rw [if_pos c, if_pos trivial, if_pos (by omega), if_pos (by omega)]
        refine next _ _ (fun r hr' => ?_) (by simp; omega) (by simp; omega) ?_
        · rcases List.mem_append.1 hr' with hr' | hr'
          · exact h3 r hr'
          · simp at hr'
            subst hr'
            exact ⟨hr, h6', hfit⟩
        · rw [bts_append, h6, t2, List.flatMap_append]
          simp [encR]
      · rw [if_neg c]
        exact next s w h3 h4 (by omega) h6
    | false =>
      rw [he.2 hr]
      simp only [Option.bind_some]
      by_cases c : (i : Int) < 5
      · rw [if_pos c, if_neg (by decide)]
        exact next s w h3 h4 (by omega) h6
      · rw [if_neg c]
        exact next s w h3 h4 (by omega) h6
theorem ReplyMany : larumlaw13_ReplyMany.Pure := by
  intro L hL hx
  obtain ⟨k, hk⟩ : ∃ k : Nat, k = 30000000 := ⟨_, rfl⟩
  refine ⟨k, ?_⟩
  unfold larumlaw13_ReplyMany.f
  have := law_l0 L hL (fun x hx' => (hx x hx').2) 22000010 (Nat.le_refl _) L.length k 0 ⟨#[]⟩ [] (by omega) (by omega) (fun r hr => by simp at hr) (by simp) (by simp) rfl
  rw [show ((0 : Nat) : Int) = 0 from rfl] at this
  exact this
end Go.Proofs.YtojbejcilhohaaaDoor.Pure
