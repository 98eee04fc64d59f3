/- An event's line, or that it can't be said, is as the chapter says, and it is read as it was: for any event. No condition. -/
import Derived.Test.YtmdfgndndfggeaaPDeskLinesx9
namespace Go.Proofs.Ytmdfgndndfggeaa.Pure
open Go Go.RowKit Go.Proofs.Ytmdfgndndfggeaa.PDeskLines Go.Proofs.Ytmdfgndndfggeaa.Gp Go.Proofs.YtmdfgndndfggeaaW Go.Proofs.YtmdfgndndfggeaaW.PrintWords Go.Proofs.YtmdfgndndfggeaaW.PrintLast Go.Proofs.YtmdfgndndfggeaaW.PrintMore
set_option linter.unusedVariables false
set_option linter.unusedSimpArgs false
-- strings as lists of numbers
def Byt (l : List Int) : Prop := ∀ x ∈ l, 0 ≤ x ∧ x ≤ 255
theorem Byt.rd {l : List Int} (h : Byt l) (i : Int) : 0 ≤ PrintWords.rd l i ∧ PrintWords.rd l i ≤ 255 := by
  unfold PrintWords.rd
  rw [List.getD_eq_getElem?_getD]
  by_cases hi : i.toNat < l.length
  · rw [List.getElem?_eq_getElem hi]; exact h _ (List.getElem_mem hi)
  · rw [List.getElem?_eq_none (by omega)]; decide
theorem Byt.take {l : List Int} (h : Byt l) (n : Nat) : Byt (l.take n) := fun x hx => h x (List.mem_of_mem_take hx)
theorem Byt.drop {l : List Int} (h : Byt l) (n : Nat) : Byt (l.drop n) := fun x hx => h x (List.mem_of_mem_drop hx)
theorem w64 {x : Int} (h : -9223372036854775808 ≤ x ∧ x ≤ 9223372036854775807) : wrap64 x = x := by unfold wrap64; omega
theorem u64w (x : Int) : IntKind.u64.wrap x = x % 18446744073709551616 := by simp [IntKind.wrap, IntKind.bits, IntKind.signed]
theorem wu64 {x : Int} (h : 0 ≤ x ∧ x ≤ 18446744073709551615) : IntKind.u64.wrap x = x := by rw [u64w]; omega
theorem bts_byt (s : ByteArray) : Byt (bytesOf s) := by
  intro x hx
  simp only [bytesOf, List.mem_map] at hx
  obtain ⟨b, _, rfl⟩ := hx
  have := b.toNat_lt
  omega
theorem bts_len (s : ByteArray) : ((bytesOf s).length : Int) = (s.size : Int) := by rw [bytesOf_length]
theorem bt_rd (s : ByteArray) (i : Int) : bt s i = rd (bytesOf s) i := (rd_bytesOf s i).symm
theorem tl (s : ByteArray) : s.toList = s.data.toList := ByteArray.toList_eq s
theorem u8_map_inj : ∀ {a b : List UInt8}, a.map (fun x => (x.toNat : Int)) = b.map (fun x => (x.toNat : Int)) → a = b
  | [], [], _ => rfl
  | [], _ :: _, h => by simp at h
  | _ :: _, [], h => by simp at h
  | x :: a, y :: b, h => by
    simp only [List.map_cons, List.cons.injEq] at h
    rw [u8_map_inj h.2, UInt8.toNat_inj.1 (by omega : x.toNat = y.toNat)]
theorem tl_iff (s t : ByteArray) : s.toList = t.toList ↔ bytesOf s = bytesOf t := by
  rw [tl, tl]
  exact ⟨fun h => by unfold bytesOf; rw [h], fun h => u8_map_inj h⟩
theorem tl_nil (s : ByteArray) : s.toList = ([] : List UInt8) ↔ bytesOf s = [] := by
  rw [tl]
  unfold bytesOf
  rw [List.map_eq_nil_iff]
theorem bts_extract (s : ByteArray) (a b : Nat) : bytesOf (s.extract a b) = ((bytesOf s).take b).drop a := by
  unfold bytesOf
  rw [List.drop_take, ← List.map_drop, ← List.map_take]
  congr 1
  simp [List.drop_take]
theorem bts_extract_to (s : ByteArray) (a : Nat) : bytesOf (s.extract a s.size) = (bytesOf s).drop a := by
  rw [bts_extract, List.take_of_length_le (by rw [bytesOf_length]; omega)]
theorem bts_append (s t : ByteArray) : bytesOf (s ++ t) = bytesOf s ++ bytesOf t := by
  unfold bytesOf
  rw [← List.map_append]
  congr 1
theorem bts_size (s : ByteArray) : s.size = (bytesOf s).length := (bytesOf_length s).symm
theorem drop_rd {l : List Int} {i : Nat} (h : i < l.length) : l.drop i = rd l (i : Int) :: l.drop (i + 1) := by
  rw [List.drop_eq_getElem_cons h]
  unfold rd
  simp [List.getD_eq_getElem?_getD, List.getElem?_eq_getElem h]
theorem rd_cons_zero (a : Int) (l : List Int) : rd (a :: l) 0 = a := rfl
-- a string made of numbers
theorem bts_son {xs : List Int} (h : Byt xs) : bytesOf (strOfNums xs) = xs := by
  unfold bytesOf
  rw [strOfNums_data, List.map_map]
  conv => rhs; rw [← List.map_id xs]
  apply List.map_congr_left
  intro x hx
  have := h x hx
  simp only [Function.comp, id]
  have e : (UInt8.ofNat x.toNat).toNat = x.toNat := by
    rw [UInt8.toNat_ofNat']
    omega
  rw [e]; omega
theorem bts_tl_iff {s t : ByteArray} : s.toList = t.toList ↔ bytesOf s = bytesOf t := tl_iff s t
theorem ext_bts {s t : ByteArray} (h : bytesOf s = bytesOf t) : s = t := by
  have := (tl_iff s t).2 h
  rw [tl, tl] at this
  cases s with | mk a => cases t with | mk b => simp at this; rw [this]
-- digits
def isD (c : Int) : Bool := decide (48 ≤ c ∧ c ≤ 57)
def allD (l : List Int) : Bool := l.all isD
def dv (v : Int) : List Int → Int
  | [] => v
  | c :: l => dv (10 * v + (c - 48)) l
theorem isD_iff {c : Int} : isD c = true ↔ 48 ≤ c ∧ c ≤ 57 := by simp [isD]
theorem dv_ge : ∀ (l : List Int) (v : Int), allD l = true → 0 ≤ v → v ≤ dv v l
  | [], v, _, _ => Int.le_refl v
  | c :: l, v, h, hv => by
    simp only [allD, List.all_cons, Bool.and_eq_true] at h
    have hc := isD_iff.1 h.1
    have := dv_ge l (10 * v + (c - 48)) h.2 (by omega)
    show v ≤ dv (10 * v + (c - 48)) l
    omega
theorem Digit_eq (c : Int) : chars_Digit.f c = some (isD c) := by
  unfold chars_Digit.f isD
  by_cases h : c ≥ 48
  · rw [if_pos h]; congr 1; exact decide_eq_decide.2 (by omega)
  · rw [if_neg h]; congr 1; symm; exact decide_eq_false (by omega)
theorem All_Digit_eq (s : ByteArray) (hs : s.size ≤ 140737488351232) (d : Nat) : ∀ (i k : Nat), i + d = s.size → d < k → chars_All_chars_Digit_82.l0 k s (i : Int) = some (allD ((bytesOf s).drop i)) := by
  induction d with
  | zero =>
    intro i k hi hk
    obtain ⟨k, rfl⟩ : ∃ m, k = m + 1 := ⟨k - 1, by omega⟩
    simp only [chars_All_chars_Digit_82.l0]
    rw [if_neg (by omega), List.drop_of_length_le (by rw [bytesOf_length]; omega)]
    rfl
  | succ d ih =>
    intro i k hi hk
    obtain ⟨k, rfl⟩ : ∃ m, k = m + 1 := ⟨k - 1, by omega⟩
    simp only [chars_All_chars_Digit_82.l0]
    rw [if_pos (by omega), if_pos (by omega), Digit_eq, bt_rd, drop_rd (by rw [bytesOf_length]; omega), w64 (by omega)]
    simp only [Option.bind_some]
    show _ = some (allD (_ :: _))
    cases hd : isD (rd (bytesOf s) (i : Int)) with
    | true =>
      rw [if_pos rfl, show ((i : Int) + 1) = ((i + 1 : Nat) : Int) by omega, ih (i + 1) k (by omega) (by omega)]
      simp only [allD, List.all_cons, hd, Bool.true_and]
    | false =>
      rw [if_neg (by simp)]
      simp only [allD, List.all_cons, hd, Bool.false_and]
theorem All_Digit (s : ByteArray) (hs : s.size ≤ 140737488351232) {k : Nat} (hk : s.size < k) : chars_All_chars_Digit_82.f k s = some (allD (bytesOf s)) := by
  unfold chars_All_chars_Digit_82.f
  exact All_Digit_eq s hs s.size 0 k (by omega) hk
theorem digits_eq (s : ByteArray) (hs : s.size ≤ 140737488351232) (M : Int) (hM : 9 ≤ M ∧ M ≤ 9223372036854775808) (d : Nat) : ∀ (i k : Nat) (v : Int), i + d = s.size → d < k → allD ((bytesOf s).drop i) = true → 0 ≤ v → v ≤ M →
    num_digits.l0 k s M v (s.size : Int) (i : Int) = some (if dv v ((bytesOf s).drop i) > M then (0, 5) else (dv v ((bytesOf s).drop i), 0)) := by
  induction d with
  | zero =>
    intro i k v hi hk ha h0 h1
    obtain ⟨k, rfl⟩ : ∃ m, k = m + 1 := ⟨k - 1, by omega⟩
    simp only [num_digits.l0]
    rw [if_neg (by omega), List.drop_of_length_le (by rw [bytesOf_length]; omega)]
    show _ = some (if v > M then _ else (v, 0))
    rw [if_neg (by omega)]
  | succ d ih =>
    intro i k v hi hk ha h0 h1
    obtain ⟨k, rfl⟩ : ∃ m, k = m + 1 := ⟨k - 1, by omega⟩
    rw [drop_rd (by rw [bytesOf_length]; omega)] at ha ⊢
    simp only [allD, List.all_cons, Bool.and_eq_true] at ha
    have hc := isD_iff.1 ha.1
    simp only [num_digits.l0]
    rw [if_pos (by omega), if_pos (by omega), if_pos (by omega), bt_rd]
    have e1 : (rd (bytesOf s) (i : Int) - 48) % 256 = rd (bytesOf s) (i : Int) - 48 := by omega
    rw [e1, wu64 (x := M - (rd (bytesOf s) (i : Int) - 48)) (by omega), Int.tdiv_eq_ediv_of_nonneg (by omega), wu64 (x := (M - (rd (bytesOf s) (i : Int) - 48)) / 10) (by omega)]
    show _ = some (if dv (10 * v + (rd (bytesOf s) (i : Int) - 48)) ((bytesOf s).drop (i + 1)) > M then (0, 5) else (dv (10 * v + (rd (bytesOf s) (i : Int) - 48)) ((bytesOf s).drop (i + 1)), 0))
    by_cases c : v > (M - (rd (bytesOf s) (i : Int) - 48)) / 10
    · rw [if_pos c, if_pos]
      have := dv_ge ((bytesOf s).drop (i + 1)) (10 * v + (rd (bytesOf s) (i : Int) - 48)) ha.2 (by omega)
      omega
    · rw [if_neg c, wu64 (x := v * 10) (by omega), wu64 (x := v * 10 + (rd (bytesOf s) (i : Int) - 48)) (by omega), w64 (by omega), show ((i : Int) + 1) = ((i + 1 : Nat) : Int) by omega, show v * 10 + (rd (bytesOf s) (i : Int) - 48) = 10 * v + (rd (bytesOf s) (i : Int) - 48) by omega]
      exact ih (i + 1) k _ (by omega) (by omega) ha.2 (by omega) (by omega)
theorem digits_f (s : ByteArray) (hs : s.size ≤ 140737488351232) {M : Int} (hM : 9 ≤ M ∧ M ≤ 9223372036854775808) {k : Nat} (hk : s.size < k) (ha : allD (bytesOf s) = true) :
    num_digits.f k s M = some (if dv 0 (bytesOf s) > M then (0, 5) else (dv 0 (bytesOf s), 0)) := by
  unfold num_digits.f
  exact digits_eq s hs M hM s.size 0 k 0 (by omega) hk ha (by omega) (by omega)
/-- Is a text of digits wrong? -/
def badD (l : List Int) : Bool := l.isEmpty || !allD l || (decide (1 < l.length) && rd l 0 == 48)
def maxP : Bool → Int
  | true => 9223372036854775808
  | false => 9223372036854775807
/-- What digits, behind a minus or without, are. -/
def parseD (m : Bool) (l : List Int) : Int × Int := if badD l = true then (0, 3) else if dv 0 l > maxP m then (0, 5) else (if m = true then -dv 0 l else dv 0 l, 0)
/-- Which number a text is. -/
def parseN (l : List Int) : Int × Int := if l ≠ [] ∧ rd l 0 = 45 then parseD true (l.drop 1) else parseD false l
theorem Parse_j1 (s : ByteArray) (hs : s.size ≤ 140737488351232) (m : Bool) {k : Nat} (hk : s.size + 2 < k) : num_Parse.j1 k s m (maxP m) = some (parseD m (bytesOf s)) := by
  obtain ⟨k, rfl⟩ : ∃ q, k = q + 2 := ⟨k - 2, by omega⟩
  have j2t : num_Parse.j2 (k + 1) s m (maxP m) true = some (0, 3) := by simp only [num_Parse.j2]; rw [if_pos trivial]
  have j2f : allD (bytesOf s) = true → num_Parse.j2 (k + 1) s m (maxP m) false = some (if dv 0 (bytesOf s) > maxP m then (0, 5) else (if m = true then -dv 0 (bytesOf s) else dv 0 (bytesOf s), 0)) := by
    intro ha
    have hge := dv_ge (bytesOf s) 0 ha (by omega)
    simp only [num_Parse.j2]
    rw [if_neg (by simp), digits_f s hs (M := maxP m) (by cases m <;> simp [maxP]) (by omega) ha]
    simp only [Option.bind_some]
    by_cases c : dv 0 (bytesOf s) > maxP m
    · rw [if_pos c, if_pos c]; rfl
    · rw [if_neg c, if_neg c]
      cases m with
      | true =>
        simp only [maxP] at c
        simp only [if_true, Option.some.injEq, Prod.mk.injEq, and_true]
        rw [u64w]; unfold wrap64; omega
      | false =>
        simp only [maxP] at c
        simp only [if_true, Option.some.injEq, Prod.mk.injEq, and_true]
        rw [if_neg (by simp), if_neg (by simp), w64 (by omega)]
  unfold parseD badD
  simp only [num_Parse.j1]
  by_cases c0 : s.toList = ([] : List UInt8)
  · rw [if_pos c0, j2t]
    rw [(tl_nil s).1 c0]; rfl
  rw [if_neg c0, All_Digit s hs (by omega)]
  have hne : (bytesOf s).isEmpty = false := by
    cases h : bytesOf s with
    | nil => exact absurd ((tl_nil s).2 h) c0
    | cons => rfl
  simp only [Option.bind_some, hne, Bool.false_or]
  cases ha : allD (bytesOf s) with
  | false =>
    rw [if_neg (by simp), j2t]; rfl
  | true =>
    rw [if_pos rfl]
    simp only [Bool.not_true, Bool.false_or]
    by_cases c1 : (s.size : Int) > 1
    · rw [if_pos c1, if_pos (by omega), bt_rd]
      have e : decide (1 < (bytesOf s).length) = true := decide_eq_true (by rw [bytesOf_length]; omega)
      rw [e, Bool.true_and]
      cases hz : rd (bytesOf s) 0 == 48 with
      | true => rw [j2t]; rfl
      | false => rw [j2f ha]; simp
    · rw [if_neg c1]
      have e : decide (1 < (bytesOf s).length) = false := decide_eq_false (by rw [bytesOf_length]; omega)
      rw [e, Bool.false_and, j2f ha]; simp
theorem Parse_eq (s : ByteArray) (hs : s.size ≤ 140737488351232) {k : Nat} (hk : s.size + 3 < k) : num_Parse.f k s = some (parseN (bytesOf s)) := by
  obtain ⟨k, rfl⟩ : ∃ q, k = q + 1 := ⟨k - 1, by omega⟩
  unfold num_Parse.f parseN
  by_cases c0 : (s.size : Int) > 0
  · have hne : bytesOf s ≠ [] := fun h => by have := bytesOf_length s; rw [h] at this; simp at this; omega
    rw [if_pos c0, if_pos c0, bt_rd]
    simp only [num_Parse.j0]
    by_cases c1 : rd (bytesOf s) 0 = 45
    · rw [if_pos (by simp [c1]), if_pos (by omega), if_pos ⟨hne, c1⟩]
      have e : (rd (bytesOf s) 0 == 45) = true := by simp [c1]
      rw [e, show (9223372036854775807 + 1 : Int) = maxP true from rfl, Parse_j1 _ (by simp; omega) true (by simp; omega), bts_extract_to]
    · have e : (rd (bytesOf s) 0 == 45) = false := by simp [c1]
      rw [e, if_neg (by simp), if_neg (fun h => c1 h.2), show (9223372036854775807 : Int) = maxP false from rfl, Parse_j1 s hs false (by omega)]
  · have hn : bytesOf s = [] := by have := bytesOf_length s; exact List.eq_nil_of_length_eq_zero (by omega)
    rw [if_neg c0]
    simp only [num_Parse.j0]
    rw [if_neg (by simp), show (9223372036854775807 : Int) = maxP false from rfl, Parse_j1 s hs false (by omega), hn]
    simp
-- a number's digits by a base
def dig (d : Int) : Int := if d < 10 then 48 + d else 87 + d
def digs (b v : Nat) : List Int := if h : v < b ∨ b < 2 then [dig v] else digs b (v / b) ++ [dig ((v % b : Nat) : Int)]
termination_by v
decreasing_by exact Nat.div_lt_self (by omega) (by omega)
theorem digs_lt {b v : Nat} (h : v < b) : digs b v = [dig v] := by rw [digs, dif_pos (Or.inl h)]
theorem digs_ge {b v : Nat} (h : b ≤ v) (hb : 2 ≤ b) : digs b v = digs b (v / b) ++ [dig ((v % b : Nat) : Int)] := by rw [digs, dif_neg (by omega)]
theorem digs_ne (b v : Nat) : digs b v ≠ [] := by
  rw [digs]
  split <;> simp
theorem hex_one : ∀ d : Fin 16, bytesOf ((⟨#[48, 49, 50, 51, 52, 53, 54, 55, 56, 57, 97, 98, 99, 100, 101, 102]⟩ : ByteArray).extract d.val (d.val + 1)) = [dig (d.val : Int)] := by decide +kernel
theorem hex_one' {d : Nat} (h : d < 16) : bytesOf ((⟨#[48, 49, 50, 51, 52, 53, 54, 55, 56, 57, 97, 98, 99, 100, 101, 102]⟩ : ByteArray).extract d (d + 1)) = [dig (d : Int)] := hex_one ⟨d, h⟩
theorem hex_size {d : Nat} (h : d < 16) : ((⟨#[48, 49, 50, 51, 52, 53, 54, 55, 56, 57, 97, 98, 99, 100, 101, 102]⟩ : ByteArray).extract d (d + 1)).size = 1 := by
  rw [bts_size, hex_one' h]; rfl
theorem based_eq {b : Nat} (hb : b = 10 ∨ b = 16) (f : Nat) : ∀ (v k : Nat) (acc : ByteArray), v < 2 ^ f → v < 18446744073709551616 → f + 3 ≤ k → acc.size + f ≤ 1000 →
    ∃ t, num_based.l0 k (v : Int) (b : Int) acc true = some t ∧ bytesOf t = digs b v ++ bytesOf acc ∧ t.size ≤ acc.size + f + 1 := by
  have hb2 : 2 ≤ b ∧ b ≤ 16 := by omega
  induction f with
  | zero =>
    intro v k acc hv hv' hk ha
    obtain ⟨k, rfl⟩ : ∃ m, k = m + 2 := ⟨k - 2, by omega⟩
    obtain rfl : v = 0 := by simp at hv; exact hv
    have hm : Int.tmod ((0 : Nat) : Int) (b : Int) = 0 := by simp
    have hd : Int.tdiv ((0 : Nat) : Int) (b : Int) = 0 := by simp
    have hz : IntKind.u64.wrap 0 = 0 := wu64 (by omega)
    have ho : IntKind.u64.wrap (0 + 1) = 1 := wu64 (by omega)
    have hs := hex_size (d := 0) (by omega)
    simp only [num_based.l0]
    rw [if_pos trivial, if_neg (by omega), hm, hd, hz, ho, if_pos (by omega), if_pos (by omega), if_pos (by omega), if_pos (by rw [show ((0 : Int)).toNat = 0 from rfl, show ((1 : Int)).toNat = 0 + 1 from rfl, hs]; omega)]
    refine ⟨_, by rw [if_neg (by simp)], ?_, ?_⟩
    · rw [bts_append, show ((0 : Int)).toNat = 0 from rfl, show ((1 : Int)).toNat = 0 + 1 from rfl, hex_one' (by omega), digs_lt (by omega)]
    · rw [bts_size, bts_append, show ((0 : Int)).toNat = 0 from rfl, show ((1 : Int)).toNat = 0 + 1 from rfl, hex_one' (by omega), List.length_append, bytesOf_length]; simp; omega
  | succ f ih =>
    intro v k acc hv hv' hk ha
    obtain ⟨k, rfl⟩ : ∃ m, k = m + 1 := ⟨k - 1, by omega⟩
    have hm : Int.tmod (v : Int) (b : Int) = ((v % b : Nat) : Int) := by rw [Int.tmod_eq_emod_of_nonneg (by omega)]; simp
    have hd : Int.tdiv (v : Int) (b : Int) = ((v / b : Nat) : Int) := by rw [Int.tdiv_eq_ediv_of_nonneg (by omega)]; simp
    have hlt : v % b < 16 := by have := Nat.mod_lt v (show 0 < b by omega); omega
    have hle : v / b ≤ v := Nat.div_le_self v b
    have hs := hex_size hlt
    have e1 : IntKind.u64.wrap (((v % b : Nat) : Int) + 1) = ((v % b : Nat) : Int) + 1 := wu64 (by omega)
    have e2 : IntKind.u64.wrap ((v / b : Nat) : Int) = ((v / b : Nat) : Int) := wu64 ⟨Int.natCast_nonneg _, by have h_ := Nat.le_trans hle (show v ≤ 18446744073709551615 by omega); exact Int.ofNat_le.2 h_⟩
    have t1 : (((v % b : Nat) : Int)).toNat = v % b := by omega
    have t2 : (((v % b : Nat) : Int) + 1).toNat = v % b + 1 := by omega
    simp only [num_based.l0]
    rw [if_pos trivial, if_neg (by omega), hm, hd, e1, e2, t1, t2, if_pos (by omega), if_pos (by omega), if_pos (by omega), if_pos (by omega)]
    by_cases c : v < b
    · have hz : v / b = 0 := Nat.div_eq_of_lt c
      obtain ⟨k, rfl⟩ : ∃ m, k = m + 1 := ⟨k - 1, by omega⟩
      rw [hz]
      simp only [num_based.l0]
      refine ⟨_, by rw [if_neg (by simp)], ?_, ?_⟩
      · rw [bts_append, hex_one' hlt, digs_lt c, Nat.mod_eq_of_lt c]
      · rw [bts_size, bts_append, hex_one' hlt, List.length_append, bytesOf_length]; simp; omega
    · have hpos : 0 < v / b := Nat.div_pos (by omega) (by omega)
      have hhalf : v / b < 2 ^ f := by
        rw [Nat.pow_succ] at hv
        have : v / b ≤ v / 2 := Nat.div_le_div_left hb2.1 (by omega)
        omega
      have hdec : decide (((v / b : Nat) : Int) > 0) = true := decide_eq_true (by omega)
      rw [hdec]
      have hsz : ((⟨#[48, 49, 50, 51, 52, 53, 54, 55, 56, 57, 97, 98, 99, 100, 101, 102]⟩ : ByteArray).extract (v % b) (v % b + 1) ++ acc).size = 1 + acc.size := by
        rw [bts_size, bts_append, hex_one' hlt, List.length_append, bytesOf_length]; simp
      obtain ⟨t, h1, h2, h3⟩ := ih (v / b) k ((⟨#[48, 49, 50, 51, 52, 53, 54, 55, 56, 57, 97, 98, 99, 100, 101, 102]⟩ : ByteArray).extract (v % b) (v % b + 1) ++ acc) hhalf (by omega) (by omega) (by omega)
      refine ⟨t, h1, ?_, by rw [hsz] at h3; clear hd e2 hpos hhalf hdec h1 h2 hle; omega⟩
      rw [h2, bts_append, hex_one' hlt, digs_ge (v := v) (by omega) hb2.1, List.append_assoc]
theorem based_f {b : Nat} (hb : b = 10 ∨ b = 16) (v : Nat) (hv : v < 18446744073709551616) {k : Nat} (hk : 67 ≤ k) : ∃ t, num_based.f k (v : Int) (b : Int) = some t ∧ bytesOf t = digs b v ∧ t.size ≤ 65 := by
  obtain ⟨t, h1, h2, h3⟩ := based_eq hb 64 v k ⟨#[]⟩ (by omega) hv hk (by decide)
  exact ⟨t, h1, by rw [h2]; simp [bytesOf], by rw [show ByteArray.size (⟨#[]⟩ : ByteArray) = 0 from rfl] at h3; omega⟩
theorem dv_snoc : ∀ (l : List Int) (v c : Int), dv v (l ++ [c]) = 10 * dv v l + (c - 48)
  | [], v, c => rfl
  | x :: l, v, c => dv_snoc l (10 * v + (x - 48)) c
theorem allD_append (a b : List Int) : allD (a ++ b) = (allD a && allD b) := by simp [allD]
theorem digs10_all (v : Nat) : allD (digs 10 v) = true ∧ dv 0 (digs 10 v) = v := by
  induction v using Nat.strongRecOn with
  | _ v ih =>
    by_cases c : v < 10
    · rw [digs_lt c]
      have e : dig (v : Int) = 48 + v := by unfold dig; rw [if_pos (by omega)]
      refine ⟨by simp [allD, isD, e]; omega, by rw [e]; show 10 * 0 + (48 + (v : Int) - 48) = v; omega⟩
    · rw [digs_ge (v := v) (by omega) (by omega)]
      obtain ⟨h1, h2⟩ := ih (v / 10) (Nat.div_lt_self (by omega) (by omega))
      have e : dig ((v % 10 : Nat) : Int) = 48 + ((v % 10 : Nat) : Int) := by unfold dig; rw [if_pos (by omega)]
      refine ⟨by rw [allD_append, h1, Bool.true_and]; show (isD _ && true) = true; rw [e, Bool.and_true]; exact isD_iff.2 (by omega), ?_⟩
      rw [dv_snoc, h2, e]; omega
theorem rd_append_zero {a : List Int} (h : a ≠ []) (b : List Int) : rd (a ++ b) 0 = rd a 0 := by
  cases a with
  | nil => exact absurd rfl h
  | cons x a => rfl
theorem digs_head {b : Nat} (hb : b = 10 ∨ b = 16) (v : Nat) (hv : 0 < v) : rd (digs b v) 0 ≠ 48 ∧ rd (digs b v) 0 ≠ 45 := by
  induction v using Nat.strongRecOn with
  | _ v ih =>
    by_cases c : v < b
    · rw [digs_lt c, rd_cons_zero]
      unfold dig
      split <;> omega
    · rw [digs_ge (v := v) (by omega) (by omega), rd_append_zero (digs_ne _ _)]
      exact ih (v / b) (Nat.div_lt_self (by omega) (by omega)) (Nat.div_pos (by omega) (by omega))
theorem digs_head0 {b : Nat} (hb : b = 10 ∨ b = 16) (v : Nat) : rd (digs b v) 0 ≠ 45 := by
  by_cases h : 0 < v
  · exact (digs_head hb v h).2
  · obtain rfl : v = 0 := by omega
    rw [digs_lt (by omega)]
    show dig ((0 : Nat) : Int) ≠ 45
    decide
theorem bad_digs (v : Nat) : badD (digs 10 v) = false := by
  unfold badD
  have hne : (digs 10 v).isEmpty = false := by cases h : digs 10 v with | nil => exact absurd h (digs_ne 10 v) | cons => rfl
  rw [hne, (digs10_all v).1]
  simp only [Bool.not_true, Bool.false_or, Bool.and_eq_false_iff, decide_eq_false_iff_not, beq_eq_false_iff_ne]
  by_cases c : v < 10
  · left; rw [digs_lt c]; simp
  · right; exact (digs_head (Or.inl rfl) v (by omega)).1
/-- A number as text. -/
def printN (n : Int) : List Int := if n < 0 then 45 :: digs 10 (-n).toNat else digs 10 n.toNat
theorem Print_eq {n : Int} (h : -9223372036854775808 ≤ n ∧ n ≤ 9223372036854775807) {k : Nat} (hk : 67 ≤ k) : ∃ t, num_Print.f k n = some t ∧ bytesOf t = printN n ∧ t.size ≤ 66 := by
  unfold num_Print.f printN
  by_cases c : n < 0
  · rw [if_pos c, if_pos c]
    have e : IntKind.u64.wrap (-(IntKind.u64.wrap n)) = ((-n).toNat : Int) := by rw [u64w, u64w]; omega
    obtain ⟨t, h1, h2, h3⟩ := based_f (b := 10) (Or.inl rfl) (-n).toNat (by omega) hk
    rw [e, show (10 : Int) = ((10 : Nat) : Int) from rfl, h1]
    simp only [Option.bind_some]
    rw [if_pos (by omega)]
    exact ⟨_, rfl, by rw [bts_append, h2]; rfl, by rw [bts_size, bts_append, List.length_append, bytesOf_length t]; simp [bytesOf]; omega⟩
  · rw [if_neg c, if_neg c]
    have e : IntKind.u64.wrap n = (n.toNat : Int) := by rw [u64w]; omega
    obtain ⟨t, h1, h2, h3⟩ := based_f (b := 10) (Or.inl rfl) n.toNat (by omega) hk
    rw [e, show (10 : Int) = ((10 : Nat) : Int) from rfl, h1]
    exact ⟨t, rfl, h2, by omega⟩
theorem parse_print {n : Int} (h : -9223372036854775808 ≤ n ∧ n ≤ 9223372036854775807) : parseN (printN n) = (n, 0) := by
  unfold parseN printN
  by_cases c : n < 0
  · rw [if_pos c, if_pos ⟨by simp, rfl⟩]
    simp only [List.drop_succ_cons, List.drop_zero]
    unfold parseD
    rw [bad_digs, if_neg (by simp), (digs10_all _).2, if_neg (by simp only [maxP]; omega), if_pos rfl]
    congr 1; omega
  · rw [if_neg c, if_neg (fun h => digs_head0 (Or.inl rfl) _ h.2)]
    unfold parseD
    rw [bad_digs, if_neg (by simp), (digs10_all _).2, if_neg (by simp only [maxP]; omega), if_neg (by simp)]
    congr 1; omega
theorem one_dig : ∀ d : Fin 10, bytesOf (strOfNums [(wrap64 (48 + (d.val : Int))) % 256]) = [dig (d.val : Int)] := by decide +kernel
/-- The reference's text of what is not below nought. -/
theorem RPrint_pos (f : Nat) : ∀ (v k : Nat), v < 2 ^ f → f ≤ 100 → v < 9223372036854775808 → 2 * f + 4 ≤ k → ∃ t, larumref03_Print.f k (v : Int) = some t ∧ bytesOf t = digs 10 v ∧ t.size ≤ f + 1 := by
  have base : ∀ (v k : Nat), v < 10 → 2 ≤ k → ∃ t, larumref03_Print.f k (v : Int) = some t ∧ bytesOf t = digs 10 v ∧ t.size ≤ 1 := by
    intro v k hv hk
    obtain ⟨k, rfl⟩ : ∃ m, k = m + 2 := ⟨k - 2, by omega⟩
    have e := one_dig ⟨v, hv⟩
    simp only [larumref03_Print.f, larumref03_Print.j0]
    rw [if_pos (by omega), if_pos (decide_eq_true (by omega))]
    exact ⟨_, rfl, by rw [e, digs_lt hv], by rw [bts_size, e]; simp⟩
  induction f with
  | zero =>
    intro v k hv _ _ hk
    obtain ⟨t, h1, h2, h3⟩ := base v k (by simp at hv; omega) (by omega)
    exact ⟨t, h1, h2, by omega⟩
  | succ f ih =>
    intro v k hv hf hv' hk
    by_cases c : v < 10
    · obtain ⟨t, h1, h2, h3⟩ := base v k c (by omega)
      exact ⟨t, h1, h2, by omega⟩
    obtain ⟨k, rfl⟩ : ∃ m, k = m + 2 := ⟨k - 2, by omega⟩
    rw [Nat.pow_succ] at hv
    have hd : Int.tdiv (v : Int) 10 = ((v / 10 : Nat) : Int) := by rw [Int.tdiv_eq_ediv_of_nonneg (by omega)]; omega
    have hm : Int.tmod (v : Int) 10 = ((v % 10 : Nat) : Int) := by rw [Int.tmod_eq_emod_of_nonneg (by omega)]; omega
    obtain ⟨t, h1, h2, h3⟩ := ih (v / 10) k (by omega) (by omega) (by omega) (by omega)
    obtain ⟨u, g1, g2, g3⟩ := base (v % 10) k (Nat.mod_lt _ (by omega)) (by omega)
    have hl := bytesOf_length t
    have hl' := bytesOf_length u
    simp only [larumref03_Print.f, larumref03_Print.j0]
    rw [if_pos (by omega), if_neg (by rw [decide_eq_false (by omega)]; simp), if_pos (by omega), hd, hm, w64 (by omega), h1, g1]
    simp only [Option.bind_some]
    rw [if_pos (by omega)]
    exact ⟨_, rfl, by rw [bts_append, h2, g2, digs_ge (v := v) (by omega) (by omega), digs_lt (v := v % 10) (by omega)], by rw [bts_size, bts_append, List.length_append]; omega⟩
theorem RPrint_eq {n : Int} (h : -9223372036854775808 ≤ n ∧ n ≤ 9223372036854775807) {k : Nat} (hk : 200 ≤ k) : ∃ t, larumref03_Print.f k n = some t ∧ bytesOf t = printN n := by
  obtain ⟨k, rfl⟩ : ∃ m, k = m + 2 := ⟨k - 2, by omega⟩
  unfold printN
  by_cases c : n < 0
  · rw [if_pos c]
    have key : ∀ (f v k : Nat), v < 2 ^ f → f ≤ 90 → v ≤ 9223372036854775808 → 0 < v → 2 * f + 20 ≤ k → ∃ t, larumref03_Print.f k (-(v : Int)) = some t ∧ bytesOf t = 45 :: digs 10 v ∧ t.size ≤ f + 2 := by
      have base : ∀ (v k : Nat), v < 10 → 0 < v → 4 ≤ k → ∃ t, larumref03_Print.f k (-(v : Int)) = some t ∧ bytesOf t = 45 :: digs 10 v ∧ t.size ≤ 2 := by
        intro v k hv hv0 hk
        obtain ⟨k, rfl⟩ : ∃ m, k = m + 2 := ⟨k - 2, by omega⟩
        obtain ⟨t, h1, h2, h3⟩ := RPrint_pos 4 v (k + 20) (by omega) (by omega) (by omega) (by omega)
        obtain ⟨t, h1, h2⟩ : ∃ t, larumref03_Print.f k (v : Int) = some t ∧ bytesOf t = digs 10 v := by
          obtain ⟨k, rfl⟩ : ∃ m, k = m + 2 := ⟨k - 2, by omega⟩
          have e := one_dig ⟨v, hv⟩
          simp only [larumref03_Print.f, larumref03_Print.j0]
          rw [if_pos (by omega), if_pos (decide_eq_true (by omega))]
          exact ⟨_, rfl, by rw [e, digs_lt hv]⟩
        have hl := bytesOf_length t
        rw [h2, digs_lt hv] at hl
        simp only [List.length_cons, List.length_nil] at hl
        simp only [larumref03_Print.f, larumref03_Print.j0]
        rw [if_neg (by omega), if_neg (by simp), if_neg (by omega), if_pos (by omega), show -(-(v : Int)) = v by omega, w64 (by omega), h1]
        simp only [Option.bind_some]
        rw [if_pos (by omega)]
        exact ⟨_, rfl, by rw [bts_append, h2]; rfl, by rw [bts_size, bts_append, List.length_append, h2, digs_lt hv]; simp [bytesOf]⟩
      intro f
      induction f with
      | zero => intro v k hv _ _ h0 _; simp at hv; omega
      | succ f ih =>
        intro v k hv hf hv' h0 hk
        by_cases c : v < 10
        · obtain ⟨t, h1, h2, h3⟩ := base v k c h0 (by omega)
          exact ⟨t, h1, h2, by omega⟩
        obtain ⟨k, rfl⟩ : ∃ m, k = m + 2 := ⟨k - 2, by omega⟩
        rw [Nat.pow_succ] at hv
        have hd : Int.tdiv (-(v : Int)) 10 = -((v / 10 : Nat) : Int) := by rw [Int.neg_tdiv, Int.tdiv_eq_ediv_of_nonneg (by omega)]; omega
        have hm : -(Int.tmod (-(v : Int)) 10) = ((v % 10 : Nat) : Int) := by rw [Int.neg_tmod, Int.tmod_eq_emod_of_nonneg (by omega)]; omega
        obtain ⟨t, h1, h2, h3⟩ := ih (v / 10) k (by omega) (by omega) (by omega) (by omega) (by omega)
        obtain ⟨u, g1, g2, g3⟩ := RPrint_pos 4 (v % 10) k (by omega) (by omega) (by omega) (by omega)
        simp only [larumref03_Print.f, larumref03_Print.j0]
        rw [if_neg (by omega), if_neg (by simp), if_neg (by omega), if_neg (by omega), hd, hm, w64 (x := -((v / 10 : Nat) : Int)) (by omega), w64 (x := ((v % 10 : Nat) : Int)) (by omega), h1, g1]
        simp only [Option.bind_some]
        rw [if_pos (by omega)]
        have hu : (bytesOf u).length = 1 := by rw [g2, digs_lt (by omega)]; rfl
        have ht := bytesOf_length t
        refine ⟨_, rfl, ?_, ?_⟩
        · rw [bts_append, h2, g2, digs_ge (v := v) (by omega) (by omega), digs_lt (v := v % 10) (by omega)]; rfl
        · rw [bts_size, bts_append, List.length_append]; omega
    obtain ⟨t, h1, h2, _⟩ := key 64 (-n).toNat (k + 2) (by omega) (by omega) (by omega) (by omega) (by omega)
    rw [show -(((-n).toNat : Nat) : Int) = n by omega] at h1
    exact ⟨t, h1, h2⟩
  · rw [if_neg c]
    obtain ⟨t, h1, h2, _⟩ := RPrint_pos 63 n.toNat (k + 2) (by omega) (by omega) (by omega) (by omega)
    rw [show ((n.toNat : Nat) : Int) = n by omega] at h1
    exact ⟨t, h1, h2⟩
-- prefixes, cuts at a byte
def nats (l : List UInt8) : List Int := l.map fun x => (x.toNat : Int)
theorem nats_bts (s : ByteArray) : nats s.data.toList = bytesOf s := rfl
theorem pre_nats : ∀ (p l : List UInt8), p.isPrefixOf l = (nats p).isPrefixOf (nats l)
  | [], _ => by simp [nats]
  | _ :: _, [] => by simp [nats]
  | a :: p, b :: l => by
    have e : (a == b) = ((a.toNat : Int) == (b.toNat : Int)) := by
      rw [Bool.eq_iff_iff, beq_iff_eq, beq_iff_eq, ← UInt8.toNat_inj]; omega
    show (a == b && p.isPrefixOf l) = (((a.toNat : Int) == (b.toNat : Int)) && (nats p).isPrefixOf (nats l))
    rw [e, pre_nats p l]
theorem CutPrefix_f (s p : ByteArray) : ∃ t b, strings_CutPrefix.f s p = some (t, b) ∧ b = (bytesOf p).isPrefixOf (bytesOf s) ∧ bytesOf t = (if (bytesOf p).isPrefixOf (bytesOf s) = true then (bytesOf s).drop (bytesOf p).length else bytesOf s) ∧ t.size ≤ s.size := by
  have e : Lib.hasPrefix s.data.toList p.data.toList = (bytesOf p).isPrefixOf (bytesOf s) := pre_nats _ _
  have eb : bytesOf (⟨(Lib.trimPrefix s.data.toList p.data.toList).toArray⟩ : ByteArray) = (if (bytesOf p).isPrefixOf (bytesOf s) = true then (bytesOf s).drop (bytesOf p).length else bytesOf s) := by
    unfold Lib.trimPrefix
    rw [e]
    have h0 : ∀ l : List UInt8, bytesOf (⟨l.toArray⟩ : ByteArray) = nats l := fun l => rfl
    rw [h0]
    by_cases h : (bytesOf p).isPrefixOf (bytesOf s) = true
    · rw [if_pos h, if_pos h]
      unfold nats
      rw [List.map_drop]
      simp [bytesOf]
    · rw [if_neg h, if_neg h]; rfl
  refine ⟨_, _, rfl, e, eb, ?_⟩
  rw [bts_size, eb, bts_size]
  split
  · rw [List.length_drop]; omega
  · exact Nat.le_refl _
theorem idx_while (c : UInt8) : ∀ (l : List UInt8),
    (Lib.indexByte l c = -1 ∧ (nats l).takeWhile (fun x => x != (c.toNat : Int)) = nats l ∧ (nats l).dropWhile (fun x => x != (c.toNat : Int)) = [] ∧ (nats l).contains (c.toNat : Int) = false) ∨
    ∃ j : Nat, Lib.indexByte l c = (j : Int) ∧ j < l.length ∧ (nats l).takeWhile (fun x => x != (c.toNat : Int)) = (nats l).take j ∧ (nats l).dropWhile (fun x => x != (c.toNat : Int)) = (nats l).drop j ∧ (nats l).contains (c.toNat : Int) = true
  | [] => Or.inl ⟨rfl, rfl, rfl, rfl⟩
  | x :: l => by
    have hn : nats (x :: l) = (x.toNat : Int) :: nats l := rfl
    by_cases h : x = c
    · subst h
      refine Or.inr ⟨0, by simp [Lib.indexByte], by simp, ?_, ?_, ?_⟩ <;> rw [hn] <;> simp
    · have hb : (x == c) = false := by simpa using h
      have hi : ¬ ((x.toNat : Int) = (c.toNat : Int)) := fun e => h (UInt8.toNat_inj.1 (by omega))
      have hi2 : ((x.toNat : Int) != (c.toNat : Int)) = true := by simpa using hi
      have hi3 : ((c.toNat : Int) == (x.toNat : Int)) = false := by simpa using fun e => hi e.symm
      rcases idx_while c l with ⟨h1, h2, h3, h4⟩ | ⟨j, h1, h2, h3, h4, h5⟩
      · refine Or.inl ⟨by simp [Lib.indexByte, hb, h1], ?_, ?_, ?_⟩
        · rw [hn, List.takeWhile_cons, hi2, if_pos rfl, h2]
        · rw [hn, List.dropWhile_cons, hi2, if_pos rfl, h3]
        · rw [hn, List.contains_cons, hi3, h4]; rfl
      · refine Or.inr ⟨j + 1, ?_, by simpa using h2, ?_, ?_, ?_⟩
        · have : ¬ ((j : Int) = -1) := by omega
          simp [Lib.indexByte, hb, h1, this]
        · rw [hn, List.takeWhile_cons, hi2, if_pos rfl, h3]; rfl
        · rw [hn, List.dropWhile_cons, hi2, if_pos rfl, h4]; rfl
        · rw [hn, List.contains_cons, h5, Bool.or_true]
theorem Cut_f (s : ByteArray) (hs : s.size < 4294967281) (c : UInt8) : ∃ t u b, strings_Cut.f s ⟨#[c]⟩ = some (t, u, b) ∧ bytesOf t = (bytesOf s).takeWhile (fun x => x != (c.toNat : Int)) ∧ bytesOf u = ((bytesOf s).dropWhile (fun x => x != (c.toNat : Int))).drop 1 ∧ b = (bytesOf s).contains (c.toNat : Int) := by
  unfold strings_Cut.f
  have ea : strings_Cut.at s ⟨#[c]⟩ = Lib.indexByte s.data.toList c := rfl
  rw [if_pos ⟨rfl, hs⟩, ea]
  rcases idx_while c s.data.toList with ⟨h1, h2, h3, h4⟩ | ⟨j, h1, h2, h3, h4, h5⟩
  · rw [nats_bts] at h2 h3 h4
    rw [h1, if_pos (by decide)]
    exact ⟨_, _, _, rfl, h2.symm, by rw [h3]; rfl, h4.symm⟩
  · rw [nats_bts] at h3 h4 h5
    rw [h1, if_neg (by omega), show ((j : Int)).toNat = j by omega]
    refine ⟨_, _, _, rfl, ?_, ?_, h5.symm⟩
    · rw [bts_extract, List.drop_zero, h3]
    · rw [bts_extract_to, h4, List.drop_drop]
-- quoting and reading of quotes, as lists of numbers
def hx (c : Int) : Int := if 48 ≤ c ∧ c ≤ 57 then c - 48 else if 97 ≤ c ∧ c ≤ 102 then c - 87 else -1
def hxs (d : Int) : Int := if d < 10 then 48 + d else 87 + d
def q1 (c : Int) : List Int := if c < 32 ∨ c > 126 then [92, 120, hxs (c / 16), hxs (c % 16)] else if c = 34 ∨ c = 92 then [92, c] else [c]
def escT (d : Int) : List Int → Int × Int
  | a :: b :: _ => if d ≠ 120 ∨ hx a < 0 ∨ hx b < 0 then (0, 0) else if 32 ≤ 16 * hx a + hx b ∧ 16 * hx a + hx b ≤ 126 then (0, 0) else (16 * hx a + hx b, 3)
  | _ => (0, 0)
def escD : List Int → Int × Int
  | [] => (0, 0)
  | d :: l => if d = 34 ∨ d = 92 then (d, 1) else escT d l
theorem escD_cons (d : Int) (l : List Int) : escD (d :: l) = if d = 34 ∨ d = 92 then (d, 1) else escT d l := rfl
theorem escT_cons (d a b : Int) (l : List Int) : escT d (a :: b :: l) = if d ≠ 120 ∨ hx a < 0 ∨ hx b < 0 then (0, 0) else if 32 ≤ 16 * hx a + hx b ∧ 16 * hx a + hx b ≤ 126 then (0, 0) else (16 * hx a + hx b, 3) := rfl
def unitD (c : Int) (l : List Int) : Int × Int := if c < 32 ∨ c > 126 ∨ c = 34 then (0, 0) else if c ≠ 92 then (c, 1) else if (escD l).2 = 0 then (0, 0) else ((escD l).1, (escD l).2 + 1)
def readL : Nat → List Int → Int → List Int → List Int × Int × Bool
  | 0, _, _, _ => ([], 0, false)
  | _ + 1, _, _, [] => ([], 0, false)
  | f + 1, out, i, c :: l => if c = 34 then (out, i + 1, true) else if (unitD c l).2 = 0 then ([], 0, false) else readL f (out ++ [(unitD c l).1]) (i + (unitD c l).2) (l.drop ((unitD c l).2 - 1).toNat)
def readQ : List Int → List Int × Int × Bool
  | [] => ([], 0, false)
  | c :: l => if c ≠ 34 then ([], 0, false) else readL (l.length + 1) [] 1 l
theorem hx_range {c : Int} (h : 0 ≤ hx c) : hx c ≤ 15 ∧ hxs (hx c) = c := by
  unfold hx hxs at *
  by_cases c1 : 48 ≤ c ∧ c ≤ 57
  · rw [if_pos c1] at *; rw [if_pos (by omega)]; omega
  rw [if_neg c1] at *
  by_cases c2 : 97 ≤ c ∧ c ≤ 102
  · rw [if_pos c2] at *; rw [if_neg (by omega)]; omega
  rw [if_neg c2] at h
  omega
theorem hx_low (c : Int) : -1 ≤ hx c := by
  unfold hx
  split
  · omega
  split <;> omega
theorem hx_hxs {d : Int} (h : 0 ≤ d ∧ d ≤ 15) : hx (hxs d) = d := by
  unfold hx hxs
  by_cases c1 : d < 10
  · rw [if_pos c1, if_pos (by omega)]; omega
  · rw [if_neg c1, if_neg (by omega), if_pos (by omega)]; omega
theorem escT_byt (d : Int) (l : List Int) : 0 ≤ (escT d l).1 ∧ (escT d l).1 ≤ 255 ∧ ((escT d l).2 = 0 ∨ (escT d l).2 = 3 ∧ 2 ≤ l.length) := by
  match l with
  | [] => exact ⟨by show (0 : Int) ≤ 0; decide, by show (0 : Int) ≤ 255; decide, .inl rfl⟩
  | [a] => exact ⟨by show (0 : Int) ≤ 0; decide, by show (0 : Int) ≤ 255; decide, .inl rfl⟩
  | a :: b :: r =>
    rw [escT_cons]
    by_cases c2 : d ≠ 120 ∨ hx a < 0 ∨ hx b < 0
    · rw [if_pos c2]; simp
    rw [if_neg c2]
    have ha := hx_range (c := a) (by omega)
    have hb := hx_range (c := b) (by omega)
    by_cases c3 : 32 ≤ 16 * hx a + hx b ∧ 16 * hx a + hx b ≤ 126
    · rw [if_pos c3]; simp
    rw [if_neg c3]
    refine ⟨?_, ?_, .inr ⟨rfl, by simp⟩⟩ <;> dsimp only <;> omega
theorem escD_byt {l : List Int} (h : Byt l) : 0 ≤ (escD l).1 ∧ (escD l).1 ≤ 255 ∧ ((escD l).2 = 0 ∨ (escD l).2 = 1 ∧ 1 ≤ l.length ∨ (escD l).2 = 3 ∧ 3 ≤ l.length) := by
  match l with
  | [] => exact ⟨by decide, by decide, .inl rfl⟩
  | d :: r =>
    have hd := h d (by simp)
    rw [escD_cons]
    by_cases c : d = 34 ∨ d = 92
    · rw [if_pos c]
      exact ⟨hd.1, hd.2, .inr (.inl ⟨rfl, by simp⟩)⟩
    · rw [if_neg c]
      have := escT_byt d r
      simp only [List.length_cons]
      omega
theorem unitD_byt {c : Int} {l : List Int} (h : Byt l) : 0 ≤ (unitD c l).1 ∧ (unitD c l).1 ≤ 255 ∧ 0 ≤ (unitD c l).2 ∧ (unitD c l).2 ≤ l.length + 1 := by
  unfold unitD
  by_cases c1 : c < 32 ∨ c > 126 ∨ c = 34
  · rw [if_pos c1]; dsimp only; omega
  rw [if_neg c1]
  by_cases c2 : c ≠ 92
  · rw [if_pos c2]; dsimp only; omega
  rw [if_neg c2]
  have := escD_byt h
  by_cases c3 : (escD l).2 = 0
  · rw [if_pos c3]; dsimp only; omega
  rw [if_neg c3]
  dsimp only
  omega
theorem q1_unit {x : Int} (h : 0 ≤ x ∧ x ≤ 255) (rest : List Int) : ∃ c l, q1 x ++ rest = c :: l ∧ c ≠ 34 ∧ (unitD c l).1 = x ∧ (unitD c l).2 = (q1 x).length ∧ l.drop ((unitD c l).2 - 1).toNat = rest := by
  unfold q1
  by_cases c1 : x < 32 ∨ x > 126
  · rw [if_pos c1]
    have e1 := hx_hxs (d := x / 16) (by omega)
    have e2 := hx_hxs (d := x % 16) (by omega)
    have ee : escD (120 :: hxs (x / 16) :: hxs (x % 16) :: rest) = (x, 3) := by
      rw [escD_cons, if_neg (by decide), escT_cons, e1, e2, if_neg (by omega), if_neg (by omega), show 16 * (x / 16) + x % 16 = x by omega]
    have eu : unitD 92 (120 :: hxs (x / 16) :: hxs (x % 16) :: rest) = (x, 4) := by
      unfold unitD
      rw [if_neg (by decide), if_neg (by decide), ee, if_neg (show ¬ (3 : Int) = 0 by decide)]
      rfl
    exact ⟨92, 120 :: hxs (x / 16) :: hxs (x % 16) :: rest, rfl, by decide, by rw [eu], by rw [eu]; rfl, by rw [eu]; rfl⟩
  rw [if_neg c1]
  by_cases c2 : x = 34 ∨ x = 92
  · rw [if_pos c2]
    have eu : unitD 92 (x :: rest) = (x, 2) := by
      unfold unitD
      rw [if_neg (by decide), if_neg (by decide), escD_cons, if_pos c2, if_neg (by simp)]
      rfl
    exact ⟨92, x :: rest, rfl, by decide, by rw [eu], by rw [eu]; rfl, by rw [eu]; rfl⟩
  · rw [if_neg c2]
    have eu : unitD x rest = (x, 1) := by
      unfold unitD
      rw [if_neg (by omega), if_pos (by omega)]
    exact ⟨x, rest, rfl, by omega, by rw [eu], by rw [eu]; rfl, by rw [eu]; rfl⟩
theorem readL_quoted : ∀ (xs : List Int) (f : Nat) (out : List Int) (i : Int) (more : List Int), Byt xs → xs.length < f → readL f out i (xs.flatMap q1 ++ 34 :: more) = (out ++ xs, i + ((xs.flatMap q1).length : Int) + 1, true)
  | [], f + 1, out, i, more, _, _ => by
    simp [readL]
  | x :: xs, f + 1, out, i, more, hb, hf => by
    obtain ⟨c, l, e, h1, h2, h3, h4⟩ := q1_unit (hb x (by simp)) (xs.flatMap q1 ++ 34 :: more)
    have hl : (q1 x).length ≠ 0 := by unfold q1; split; simp; split <;> simp
    rw [List.flatMap_cons, List.append_assoc, e, readL, if_neg h1, if_neg (by omega), h4, h2, readL_quoted xs f _ _ _ (fun y hy => hb y (by simp [hy])) (by simp at hf; omega)]
    simp only [List.append_assoc, List.length_append, List.cons_append, List.nil_append, h3, Prod.mk.injEq, and_true, true_and]
    omega
def quoteL (xs : List Int) : List Int := 34 :: (xs.flatMap q1 ++ [34])
theorem flat_len (xs : List Int) : xs.length ≤ (xs.flatMap q1).length ∧ (xs.flatMap q1).length ≤ 4 * xs.length := by
  induction xs with
  | nil => simp
  | cons x xs ih =>
    have hl : 1 ≤ (q1 x).length ∧ (q1 x).length ≤ 4 := by unfold q1; split; simp; split <;> simp
    rw [List.flatMap_cons, List.length_append, List.length_cons]
    omega
theorem readQ_quoted (xs more : List Int) (hb : Byt xs) : readQ (quoteL xs ++ more) = (xs, ((quoteL xs).length : Int), true) := by
  have := flat_len xs
  have e : quoteL xs ++ more = 34 :: (xs.flatMap q1 ++ 34 :: more) := by simp [quoteL]
  rw [e, readQ, if_neg (by decide), readL_quoted xs _ _ _ _ hb (by simp only [List.length_append, List.length_cons]; omega)]
  simp only [quoteL, List.length_cons, List.length_append, List.nil_append, List.length_nil, Prod.mk.injEq, and_true, true_and]
  omega
def natsU (l : List UInt8) : List Int := l.map fun x => (x.toNat : Int)
theorem bts_mk (l : List UInt8) : bytesOf ⟨l.toArray⟩ = natsU l := by simp [bytesOf, natsU]
theorem one_fin : ∀ c : Fin 256, natsU (desk_Quoted.one (c.val : Int)) = q1 (c.val : Int) := by decide +kernel
theorem one_q1 {c : Int} (h : 0 ≤ c ∧ c ≤ 255) : natsU (desk_Quoted.one c) = q1 c := by
  have := one_fin ⟨c.toNat, by omega⟩
  rwa [show ((⟨c.toNat, by omega⟩ : Fin 256).val : Int) = c from by show ((c.toNat : Nat) : Int) = c; omega] at this
theorem natsU_app (a b : List UInt8) : natsU (a ++ b) = natsU a ++ natsU b := by simp [natsU]
theorem dq_l0 (s : ByteArray) : ∀ (n k i : Nat) (out : List UInt8), i + n = s.size → n < k → ∃ t, desk_Quoted.l0 k s (i : Int) out = some t ∧ bytesOf t = natsU out ++ ((bytesOf s).drop i).flatMap q1 ++ [34]
  | 0, k + 1, i, out, h, _ => by
    unfold desk_Quoted.l0
    rw [if_neg (by omega), List.drop_of_length_le (by rw [← bts_size]; omega)]
    exact ⟨_, rfl, by rw [bts_mk, natsU_app]; simp [natsU]⟩
  | n + 1, k + 1, i, out, h, hk => by
    unfold desk_Quoted.l0
    rw [if_pos (by omega), show ((i : Int) + 1) = ((i + 1 : Nat) : Int) by omega]
    obtain ⟨t, h1, h2⟩ := dq_l0 s n k (i + 1) (out ++ desk_Quoted.one (bt s (i : Int))) (by omega) (by omega)
    refine ⟨t, h1, ?_⟩
    rw [h2, natsU_app, drop_rd (l := bytesOf s) (i := i) (by rw [← bts_size]; omega), List.flatMap_cons, bt_rd, one_q1 ((bts_byt s).rd _)]
    simp only [List.append_assoc]
theorem dq_f (s : ByteArray) (hs : s.size ≤ 1000000) {k : Nat} (hk : s.size < k) : ∃ t, desk_Quoted.f k s = some t ∧ bytesOf t = quoteL (bytesOf s) := by
  unfold desk_Quoted.f
  rw [if_pos hs]
  obtain ⟨t, h1, h2⟩ := dq_l0 s s.size k 0 [34] (by omega) hk
  exact ⟨t, h1, by rw [h2]; rfl⟩
theorem idx_fin : ∀ c : Fin 256, Lib.indexByte (⟨#[48, 49, 50, 51, 52, 53, 54, 55, 56, 57, 97, 98, 99, 100, 101, 102]⟩ : ByteArray).data.toList (c.val : Int).toNat.toUInt8 = hx (c.val : Int) := by decide +kernel
theorem idx_hx {c : Int} (h : 0 ≤ c ∧ c ≤ 255) : strings_IndexByte.f (⟨#[48, 49, 50, 51, 52, 53, 54, 55, 56, 57, 97, 98, 99, 100, 101, 102]⟩ : ByteArray) c = some (hx c) := by
  have := idx_fin ⟨c.toNat, by omega⟩
  rw [show ((⟨c.toNat, by omega⟩ : Fin 256).val : Int) = c from by show ((c.toNat : Nat) : Int) = c; omega] at this
  unfold strings_IndexByte.f
  rw [this]
theorem or_fin : ∀ a b : Fin 16, (Go.bits .or .i64 (wrap64 ((a.val : Int) * 16)) (b.val : Int)) % 256 = 16 * (a.val : Int) + (b.val : Int) := by decide +kernel
theorem or_eq {a b : Int} (ha : 0 ≤ a ∧ a ≤ 15) (hb : 0 ≤ b ∧ b ≤ 15) : (Go.bits .or .i64 (wrap64 (a * 16)) b) % 256 = 16 * a + b := by
  have := or_fin ⟨a.toNat, by omega⟩ ⟨b.toNat, by omega⟩
  rwa [show ((⟨a.toNat, by omega⟩ : Fin 16).val : Int) = a from by show ((a.toNat : Nat) : Int) = a; omega, show ((⟨b.toNat, by omega⟩ : Fin 16).val : Int) = b from by show ((b.toNat : Nat) : Int) = b; omega] at this
theorem desc_f (t : ByteArray) {k : Nat} (hk : 1 ≤ k) : desk_escaped.f k t = some (escD (bytesOf t)) := by
  obtain ⟨k, rfl⟩ : ∃ m, k = m + 1 := ⟨k - 1, by omega⟩
  have hz := bts_size t
  have hy := bts_byt t
  unfold desk_escaped.f
  rw [bt_rd]
  match h : bytesOf t with
  | [] => rw [if_pos ((tl_nil t).2 h)]; rfl
  | d :: l =>
    rw [h, List.length_cons] at hz
    rw [if_neg (by rw [tl_nil, h]; simp), if_pos (by omega), rd_cons_zero]
    rw [escD_cons]
    by_cases c1 : d = 34
    · rw [if_pos c1, if_pos (Or.inl c1)]
      simp only [desk_escaped.j0, if_true]
      rw [if_pos (by omega), bt_rd, h, rd_cons_zero]
    rw [if_neg c1]
    by_cases c2 : d = 92
    · rw [if_pos (Or.inr c2)]
      simp only [desk_escaped.j0]
      rw [if_pos (beq_iff_eq.2 c2), if_pos (by omega), bt_rd, h, rd_cons_zero]
    rw [if_neg (by omega)]
    simp only [desk_escaped.j0]
    rw [if_neg (by simpa using c2), if_pos (by omega), bt_rd, h, rd_cons_zero]
    by_cases c3 : d = 120
    · rw [if_pos c3]
      match l, hz, h with
      | [], hz, h => rw [if_pos (by simp at hz; omega)]; rfl
      | [a], hz, h => rw [if_pos (by simp at hz; omega)]; rfl
      | a :: b :: r, hz, h =>
        simp only [List.length_cons] at hz
        have ea : bt t 1 = a := by rw [bt_rd, h]; rfl
        have eb : bt t 2 = b := by rw [bt_rd, h]; rfl
        rw [escT_cons]
        have ha := hy a (by rw [h]; simp)
        have hb := hy b (by rw [h]; simp)
        rw [if_neg (by omega), if_pos (by omega), ea, eb, idx_hx ha]
        simp only [Option.bind_some]
        rw [if_pos (by omega), idx_hx hb]
        simp only [Option.bind_some]
        have la := hx_low a
        have lb := hx_low b
        by_cases c4 : hx a < 0
        · rw [if_pos c4, if_pos (by omega)]
        rw [if_neg c4]
        by_cases c5 : hx b < 0
        · rw [if_pos c5, if_pos (by omega)]
        have ra := hx_range (c := a) (by omega)
        have rb := hx_range (c := b) (by omega)
        rw [if_neg c5, or_eq (by omega) (by omega), if_neg (show ¬ (d ≠ 120 ∨ hx a < 0 ∨ hx b < 0) by omega)]
        by_cases c6 : 16 * hx a + hx b ≥ 32
        · rw [if_pos c6]
          by_cases c7 : 16 * hx a + hx b ≤ 126
          · rw [if_pos c7, if_pos (by omega)]
          · rw [if_neg c7, if_neg (by omega)]
        · rw [if_neg c6, if_neg (by omega)]
    · rw [if_neg c3]
      match l with
      | [] => rfl
      | [a] => rfl
      | a :: b :: r => rw [escT_cons, if_pos (Or.inl c3)]
theorem dRead_l0 (s : ByteArray) (hs : s.size ≤ 1000000) : ∀ (f i k : Nat) (out : List Int), i ≤ s.size → s.size < i + f → 3 * f + 3 ≤ k → out.length ≤ i →
    desk_Read.l0 k s out (i : Int) = some (strOfNums (readL f out (i : Int) ((bytesOf s).drop i)).1, (readL f out (i : Int) ((bytesOf s).drop i)).2.1, (readL f out (i : Int) ((bytesOf s).drop i)).2.2)
  | 0, i, k, out, h1, h2, _, _ => by omega
  | f + 1, i, k, out, h1, h2, h3, h4 => by
    obtain ⟨k, rfl⟩ : ∃ m, k = m + 3 := ⟨k - 3, by omega⟩
    by_cases hi : i < s.size
    · have hd := drop_rd (l := bytesOf s) (i := i) (by rw [← bts_size]; exact hi)
      have hb := (bts_byt s).rd (i : Int)
      rw [hd]
      simp only [desk_Read.l0, readL]
      rw [if_pos (by omega), if_pos (by omega), bt_rd]
      generalize rd (bytesOf s) (i : Int) = c at hb ⊢
      by_cases c1 : c = 34
      · rw [if_pos c1, if_pos c1, w64 (by omega)]
      rw [if_neg c1, if_neg c1]
      by_cases c2 : c < 32 ∨ c > 126
      · have hu : ∀ l, unitD c l = (0, 0) := fun l => by unfold unitD; rw [if_pos (by omega)]
        rw [hu, if_pos rfl]
        have e : ∀ k, desk_Read.j2 (k + 1) s out (i : Int) c true = some ((⟨#[]⟩ : ByteArray), 0, false) := fun k => by simp only [desk_Read.j2, if_true]
        by_cases c3 : c < 32
        · rw [if_pos c3, e]; rfl
        · rw [if_neg c3, decide_eq_true (by omega), e]; rfl
      rw [if_neg (by omega), decide_eq_false (by omega)]
      simp only [desk_Read.j2]
      rw [if_neg (by simp)]
      by_cases c3 : c = 92
      · have hy := (bts_byt s).drop (i + 1)
        have he := escD_byt hy
        have hl : ((bytesOf s).drop (i + 1)).length = s.size - (i + 1) := by rw [List.length_drop, ← bts_size]
        rw [if_pos c3, w64 (by omega), if_pos (by omega), if_pos (by omega), show ((i : Int) + 1).toNat = i + 1 by omega, desc_f _ (by omega), bts_extract_to]
        simp only [Option.bind_some]
        have hu : unitD c ((bytesOf s).drop (i + 1)) = if (escD ((bytesOf s).drop (i + 1))).2 = 0 then (0, 0) else ((escD ((bytesOf s).drop (i + 1))).1, (escD ((bytesOf s).drop (i + 1))).2 + 1) := by
          unfold unitD
          rw [if_neg (by omega), if_neg (by omega)]
        rw [hu]
        by_cases c4 : (escD ((bytesOf s).drop (i + 1))).2 = 0
        · rw [if_pos c4, if_pos c4, if_pos rfl]; rfl
        rw [if_neg c4, if_neg c4]
        dsimp only
        rw [if_pos (show out.length < 140737488355328 by omega), if_neg (by omega), w64 (x := (i : Int) + (escD ((bytesOf s).drop (i + 1))).2) (by omega), w64 (x := (i : Int) + (escD ((bytesOf s).drop (i + 1))).2 + 1) (by omega)]
        obtain ⟨n, hn⟩ : ∃ n : Nat, (escD ((bytesOf s).drop (i + 1))).2 = n := ⟨(escD ((bytesOf s).drop (i + 1))).2.toNat, by omega⟩
        have key := dRead_l0 s hs f (i + n + 1) (k + 1) (out ++ [(escD ((bytesOf s).drop (i + 1))).1]) (by omega) (by omega) (by omega) (by simp; omega)
        simp only [hn]
        rw [show (i : Int) + (n : Int) + 1 = ((i + n + 1 : Nat) : Int) by omega, key, show (i : Int) + ((n : Int) + 1) = ((i + n + 1 : Nat) : Int) by omega, List.drop_drop, show ((n : Int) + 1 - 1).toNat = n by omega, show i + 1 + n = i + n + 1 by omega]
      · have hu : ∀ l, unitD c l = (c, 1) := fun l => by unfold unitD; rw [if_neg (by omega), if_pos c3]
        rw [if_neg c3, hu, if_pos (show out.length < 140737488355328 by omega), if_neg (show ¬ (1 : Int) = 0 by decide), w64 (by omega)]
        have key := dRead_l0 s hs f (i + 1) (k + 1) (out ++ [c]) (by omega) (by omega) (by omega) (by simp; omega)
        dsimp only
        rw [show (i : Int) + 1 = ((i + 1 : Nat) : Int) by omega, key, show ((1 : Int) - 1).toNat = 0 by omega, List.drop_zero]
    · rw [List.drop_of_length_le (by rw [← bts_size]; omega)]
      simp only [desk_Read.l0, readL]
      rw [if_neg (by omega)]
      rfl
theorem dRead_f (s : ByteArray) (hs : s.size ≤ 1000000) {k : Nat} (hk : 3 * s.size + 10 ≤ k) : desk_Read.f k s = some (strOfNums (readQ (bytesOf s)).1, (readQ (bytesOf s)).2.1, (readQ (bytesOf s)).2.2) := by
  obtain ⟨k, rfl⟩ : ∃ m, k = m + 1 := ⟨k - 1, by omega⟩
  have hz := bts_size s
  unfold desk_Read.f
  rw [bt_rd]
  match h : bytesOf s with
  | [] => rw [if_pos ((tl_nil s).2 h)]; simp only [desk_Read.j0, if_true]; rfl
  | d :: l =>
    rw [h, List.length_cons] at hz
    rw [if_neg (by rw [tl_nil, h]; simp), if_pos (by omega), rd_cons_zero]
    have hq : readQ (d :: l) = if d ≠ 34 then ([], 0, false) else readL (l.length + 1) [] 1 l := rfl
    rw [hq]
    by_cases c1 : d = 34
    · rw [if_neg (by simpa using c1)]
      simp only [desk_Read.j0]
      rw [if_neg (by simp [c1])]
      have key := dRead_l0 s hs (l.length + 1) 1 k [] (by omega) (by omega) (by omega) (by simp)
      rw [show ((1 : Nat) : Int) = 1 by rfl] at key
      rw [key, h]
      rfl
    · rw [if_pos c1]
      simp only [desk_Read.j0]
      rw [if_pos (by simpa using c1)]
      rfl
theorem rhex_one : ∀ d : Fin 16, bytesOf ((⟨#[48, 49, 50, 51, 52, 53, 54, 55, 56, 57, 97, 98, 99, 100, 101, 102]⟩ : ByteArray).extract d.val (d.val + 1)) = [hxs (d.val : Int)] := by decide +kernel
theorem rhex_cut {q : Int} (h : 0 ≤ q ∧ q ≤ 15) : bytesOf ((⟨#[48, 49, 50, 51, 52, 53, 54, 55, 56, 57, 97, 98, 99, 100, 101, 102]⟩ : ByteArray).extract (q : Int).toNat ((q + 1 : Int)).toNat) = [hxs q] := by
  have := rhex_one ⟨q.toNat, by omega⟩
  rw [show ((⟨q.toNat, by omega⟩ : Fin 16).val : Int) = q from by show ((q.toNat : Nat) : Int) = q; omega] at this
  rw [show ((q + 1 : Int)).toNat = q.toNat + 1 by omega]
  exact this
theorem rhex_size {q : Int} (h : 0 ≤ q ∧ q ≤ 15) : ((⟨#[48, 49, 50, 51, 52, 53, 54, 55, 56, 57, 97, 98, 99, 100, 101, 102]⟩ : ByteArray).extract (q : Int).toNat ((q + 1 : Int)).toNat).size = 1 := by
  rw [bts_size, rhex_cut h]; rfl
theorem rone_cut (s : ByteArray) (i : Nat) (hi : i < s.size) : bytesOf (s.extract ((i : Int)).toNat ((i : Int) + 1).toNat) = [rd (bytesOf s) (i : Int)] := by
  rw [bts_extract, show ((i : Int) + 1).toNat = i + 1 by omega, show ((i : Int)).toNat = i by omega, List.drop_take, drop_rd (l := bytesOf s) (i := i) (by rw [← bts_size]; exact hi)]
  rw [show i + 1 - i = 1 by omega]
  rfl
theorem rone_size (s : ByteArray) (i : Nat) (hi : i < s.size) : (s.extract ((i : Int)).toNat ((i : Int) + 1).toNat).size = 1 := by
  rw [bts_size, rone_cut s i hi]; rfl
theorem ba_app (a b : ByteArray) : (a ++ b).size = a.size + b.size := ByteArray.size_append
theorem rq_l0 (s : ByteArray) (hs : s.size ≤ 1000000) : ∀ (n k i : Nat) (o : ByteArray), i + n = s.size → 2 * n < k → o.size ≤ 4 * i + 1 → ∃ t, larumref33_Quoted.l0 k s o (i : Int) = some t ∧ bytesOf t = bytesOf o ++ ((bytesOf s).drop i).flatMap q1 ++ [34]
  | 0, k + 1, i, o, h, _, ho => by
    simp only [larumref33_Quoted.l0]
    rw [if_neg (by omega), List.drop_of_length_le (by rw [← bts_size]; omega), if_pos (by omega)]
    exact ⟨_, rfl, by rw [bts_append]; simp; rfl⟩
  | n + 1, k + 2, i, o, h, hk, ho => by
    have hi : i < s.size := by omega
    have hb := (bts_byt s).rd (i : Int)
    have hw : wrap64 ((i : Int) + 1) = (i : Int) + 1 := w64 (by omega)
    have go : ∀ (o' : ByteArray) (x : List Int), bytesOf o' = bytesOf o ++ x → x = q1 (rd (bytesOf s) (i : Int)) → x.length ≤ 4 → ∃ t, larumref33_Quoted.l0 k s o' (wrap64 ((i : Int) + 1)) = some t ∧ bytesOf t = bytesOf o ++ ((bytesOf s).drop i).flatMap q1 ++ [34] := by
      intro o' x h1 h2 h3
      have := bts_size o
      obtain ⟨t, t1, t2⟩ := rq_l0 s hs n k (i + 1) o' (by omega) (by omega) (by rw [bts_size, h1, List.length_append]; omega)
      rw [hw, show ((i : Int) + 1) = ((i + 1 : Nat) : Int) by omega]
      refine ⟨t, t1, ?_⟩
      rw [t2, h1, h2, drop_rd (l := bytesOf s) (i := i) (by rw [← bts_size]; omega), List.flatMap_cons]
      simp only [List.append_assoc]
    have hc1 := rone_cut s i hi
    have hz1 := rone_size s i hi
    simp only [larumref33_Quoted.l0]
    rw [if_pos (by omega), if_pos (by omega), bt_rd]
    generalize rd (bytesOf s) (i : Int) = c at hb go hc1 ⊢
    rw [w64 (x := c) (by omega)]
    have key : ∀ b : Bool, b = decide (c < 32 ∨ c > 126) → ∃ t, larumref33_Quoted.j1 (k + 1) s o (i : Int) c b = some t ∧ bytesOf t = bytesOf o ++ ((bytesOf s).drop i).flatMap q1 ++ [34] := by
      intro b hbb
      simp only [larumref33_Quoted.j1]
      by_cases c1 : c < 32 ∨ c > 126
      · rw [decide_eq_true c1] at hbb
        have e1 : Int.tdiv c 16 = c / 16 := by rw [Int.tdiv_eq_ediv_of_nonneg (by omega)]
        have e2 : Int.tmod c 16 = c % 16 := by rw [Int.tmod_eq_emod_of_nonneg (by omega)]
        have g1 := rhex_cut (q := c / 16) (by omega)
        have g2 := rhex_cut (q := c % 16) (by omega)
        have z1 := rhex_size (q := c / 16) (by omega)
        have z2 := rhex_size (q := c % 16) (by omega)
        have z0 : (⟨#[92, 120]⟩ : ByteArray).size = 2 := rfl
        rw [if_pos hbb, if_pos (by omega), e1, e2, w64 (x := c / 16) (by omega), w64 (x := c / 16 + 1) (by omega), w64 (x := c % 16 + 1) (by omega), if_pos (by omega), if_pos (by omega), if_pos (by omega), if_pos (by rw [ba_app, z0, z1]; omega), if_pos (by omega), if_pos (by omega), if_pos (by omega), if_pos (by rw [ba_app, ba_app, z0, z1, z2]; omega)]
        refine go _ [92, 120, hxs (c / 16), hxs (c % 16)] ?_ (by unfold q1; rw [if_pos c1]) (by simp)
        rw [bts_append, bts_append, bts_append, g1, g2]
        simp only [List.append_assoc]
        rfl
      rw [decide_eq_false c1] at hbb
      rw [if_neg (by rw [hbb]; simp), hw]
      rw [hw] at go
      by_cases c2 : c = 34 ∨ c = 92
      · have z0 : (⟨#[92]⟩ : ByteArray).size = 1 := rfl
        have fin := go ((o ++ (⟨#[92]⟩ : ByteArray)) ++ s.extract ((i : Int)).toNat ((i : Int) + 1).toNat) [92, c] (by rw [bts_append, bts_append, hc1]; simp only [List.append_assoc]; rfl) (by unfold q1; rw [if_neg c1, if_pos c2]) (by simp)
        by_cases c3 : c = 34
        · rw [if_pos c3, if_pos (by omega), if_pos (by omega), if_pos (by omega), if_pos (by omega), if_pos (by rw [ba_app, z0, hz1]; omega)]
          exact fin
        · rw [if_neg c3, if_pos (by omega), if_pos (by omega), if_pos (by omega), if_pos (by omega), if_pos (by omega), if_pos (by rw [ba_app, z0, hz1]; omega)]
          exact fin
      · rw [if_neg (by omega), if_neg (by omega), if_pos (by omega), if_pos (by omega), if_pos (by omega), if_pos (by rw [hz1]; omega)]
        exact go _ [c] (by rw [bts_append, hc1]) (by unfold q1; rw [if_neg c1, if_neg c2]) (by simp)
    by_cases c0 : c < 32
    · rw [if_pos c0]
      exact key true (by rw [decide_eq_true (Or.inl c0)])
    · rw [if_neg c0]
      exact key _ (by rw [decide_eq_decide]; omega)
theorem rq_f (s : ByteArray) (hs : s.size ≤ 1000000) {k : Nat} (hk : 2 * s.size < k) : ∃ t, larumref33_Quoted.f k s = some t ∧ bytesOf t = quoteL (bytesOf s) := by
  unfold larumref33_Quoted.f
  obtain ⟨t, h1, h2⟩ := rq_l0 s hs s.size k 0 ⟨#[34]⟩ (by omega) hk (by decide)
  exact ⟨t, h1, by rw [h2]; rfl⟩
-- events' lines: what is said, and the program's side
theorem parseN_bd (l : List Int) : -9223372036854775808 ≤ (parseN l).1 ∧ (parseN l).1 ≤ 9223372036854775807 := by
  have hD : ∀ m l, -9223372036854775808 ≤ (parseD m l).1 ∧ (parseD m l).1 ≤ 9223372036854775807 := by
    intro m l
    unfold parseD
    split
    · exact ⟨by decide, by decide⟩
    · split
      · exact ⟨by decide, by decide⟩
      · rename_i h1 h2
        have ha : allD l = true := by
          cases hh : allD l with
          | true => rfl
          | false => exact absurd (by simp [badD, hh]) h1
        have := dv_ge l 0 ha (by omega)
        cases m <;> simp only [maxP, Bool.false_eq_true, if_false, if_true] at h2 ⊢ <;> omega
  unfold parseN
  split <;> exact hD _ _
def I64 (n : Int) : Prop := -9223372036854775808 ≤ n ∧ n ≤ 9223372036854775807
def wrds : List ByteArray := [(⟨#[]⟩ : ByteArray), (⟨#[97, 99, 99, 101, 112, 116]⟩ : ByteArray), (⟨#[98, 121, 116, 101, 115]⟩ : ByteArray), (⟨#[98, 117, 100, 103, 101, 116]⟩ : ByteArray), (⟨#[99, 108, 111, 115, 101]⟩ : ByteArray), (⟨#[116, 105, 99, 107]⟩ : ByteArray), (⟨#[112, 105, 99, 107]⟩ : ByteArray)]
def sgns : List ByteArray := [(⟨#[]⟩ : ByteArray), (⟨#[]⟩ : ByteArray), (⟨#[99, 116]⟩ : ByteArray), (⟨#[99, 110]⟩ : ByteArray), (⟨#[99]⟩ : ByteArray), (⟨#[110]⟩ : ByteArray), (⟨#[99]⟩ : ByteArray)]
def wrd (kind : Int) : ByteArray := rdOf ByteArray.empty wrds kind
def sgn (kind : Int) : ByteArray := rdOf ByteArray.empty sgns kind
def pieceL (c conn : Int) (text : List Int) (n : Int) : List Int := if c = 99 then printN conn else if c = 110 then printN n else quoteL text
def tailL (l : List Int) (conn : Int) (text : List Int) (n : Int) : List Int := l.flatMap (fun c => 32 :: pieceL c conn text n)
def lineL (kind conn : Int) (text : List Int) (n : Int) : List Int := bytesOf (wrd kind) ++ tailL (bytesOf (sgn kind)) conn text n
def mayL (kind conn : Int) (text : List Int) (n : Int) : Bool := decide (1 ≤ kind ∧ kind ≤ 6) && (((bytesOf (sgn kind)).contains 99 || decide (conn = 0)) && ((bytesOf (sgn kind)).contains 110 || decide (n = 0)) && ((bytesOf (sgn kind)).contains 116 || decide (text = [])))
theorem six {kind : Int} (h : 1 ≤ kind ∧ kind ≤ 6) : kind = 1 ∨ kind = 2 ∨ kind = 3 ∨ kind = 4 ∨ kind = 5 ∨ kind = 6 := by omega
theorem form_eq {kind : Int} (h : 1 ≤ kind ∧ kind ≤ 6) : desk_form.f kind = some (wrd kind, sgn kind) := by
  rcases six h with rfl | rfl | rfl | rfl | rfl | rfl <;> rfl
theorem form_none {kind : Int} (h : ¬ (1 ≤ kind ∧ kind ≤ 6)) : desk_form.f kind = some ((⟨#[]⟩ : ByteArray), (⟨#[]⟩ : ByteArray)) := by
  unfold desk_form.f
  rw [if_neg (by omega), if_neg (by omega), if_neg (by omega), if_neg (by omega), if_neg (by omega), if_neg (by omega)]
theorem wrd_small {kind : Int} (h : 1 ≤ kind ∧ kind ≤ 6) : (wrd kind).size ≤ 6 ∧ bytesOf (wrd kind) ≠ [] ∧ (sgn kind).size ≤ 2 := by
  rcases six h with rfl | rfl | rfl | rfl | rfl | rfl <;> exact ⟨by decide, by decide, by decide⟩
theorem sgn_idx {kind : Int} (h : 1 ≤ kind ∧ kind ≤ 6) : decide (0 ≤ Lib.indexByte (sgn kind).data.toList 99) = (bytesOf (sgn kind)).contains 99 ∧ decide (0 ≤ Lib.indexByte (sgn kind).data.toList 110) = (bytesOf (sgn kind)).contains 110 ∧ decide (0 ≤ Lib.indexByte (sgn kind).data.toList 116) = (bytesOf (sgn kind)).contains 116 := by
  rcases six h with rfl | rfl | rfl | rfl | rfl | rfl <;> decide
theorem ok_eq {kind : Int} (h : 1 ≤ kind ∧ kind ≤ 6) (conn : Int) (text : ByteArray) (n : Int) : desk_Line.ok (sgn kind) conn text n = (((bytesOf (sgn kind)).contains 99 || decide (conn = 0)) && ((bytesOf (sgn kind)).contains 110 || decide (n = 0)) && ((bytesOf (sgn kind)).contains 116 || decide (bytesOf text = []))) := by
  obtain ⟨h1, h2, h3⟩ := sgn_idx h
  unfold desk_Line.ok
  rw [h1, h2, h3, show decide (text.toList = []) = decide (bytesOf text = []) from decide_eq_decide.2 (tl_nil text)]
theorem quoteL_len (l : List Int) : (quoteL l).length ≤ 4 * l.length + 2 := by
  have := flat_len l
  simp only [quoteL, List.length_cons, List.length_append, List.length_nil]
  omega
theorem dpiece {k : Nat} {conn n : Int} {text : ByteArray} (hk : 2000 ≤ k) (hc : I64 conn) (hn : I64 n) (ht : text.size ≤ 1000) (c : UInt8) : ∃ p, desk_Line.piece k conn text n c = some p ∧ bytesOf p = pieceL (c.toNat : Int) conn (bytesOf text) n ∧ p.size ≤ 5000 := by
  unfold desk_Line.piece pieceL
  by_cases c1 : c = 99
  · subst c1
    obtain ⟨p, h1, h2, h3⟩ := Print_eq hc (k := k) (by omega)
    exact ⟨p, by rw [if_pos rfl, h1], by rw [if_pos (show ((UInt8.toNat 99 : Nat) : Int) = 99 from rfl), h2], by omega⟩
  have c1' : ¬ ((c.toNat : Int) = 99) := fun e => c1 (UInt8.toNat_inj.1 (show c.toNat = 99 by omega))
  rw [if_neg c1, if_neg c1']
  by_cases c2 : c = 110
  · subst c2
    obtain ⟨p, h1, h2, h3⟩ := Print_eq hn (k := k) (by omega)
    exact ⟨p, by rw [if_pos rfl, h1], by rw [if_pos (show ((UInt8.toNat 110 : Nat) : Int) = 110 from rfl), h2], by omega⟩
  have c2' : ¬ ((c.toNat : Int) = 110) := fun e => c2 (UInt8.toNat_inj.1 (show c.toNat = 110 by omega))
  rw [if_neg c2, if_neg c2']
  obtain ⟨p, h1, h2⟩ := dq_f text (by omega) (k := k) (by omega)
  have := quoteL_len (bytesOf text)
  have := bts_size text
  exact ⟨p, h1, h2, by rw [bts_size, h2]; omega⟩
theorem dgo {k : Nat} {conn n : Int} {text : ByteArray} (hk : 2000 ≤ k) (hc : I64 conn) (hn : I64 n) (ht : text.size ≤ 1000) : ∀ (l : List UInt8) (acc : ByteArray), acc.size + l.length * 6000 ≤ 100000000 → ∃ t, desk_Line.go k conn text n l acc = some t ∧ bytesOf t = bytesOf acc ++ tailL (natsU l) conn (bytesOf text) n ∧ t.size ≤ acc.size + l.length * 6000
  | [], acc, h => ⟨acc, rfl, by simp [natsU, tailL], by simp⟩
  | c :: r, acc, h => by
    obtain ⟨p, p1, p2, p3⟩ := dpiece hk hc hn ht c
    rw [List.length_cons] at h
    have hz : ((acc ++ (⟨#[32]⟩ : ByteArray)) ++ p).size = acc.size + 1 + p.size := by rw [ba_app, ba_app]; rfl
    obtain ⟨t, t1, t2, t3⟩ := dgo hk hc hn ht r ((acc ++ (⟨#[32]⟩ : ByteArray)) ++ p) (by omega)
    refine ⟨t, ?_, ?_, by rw [List.length_cons]; omega⟩
    · rw [desk_Line.go, p1]
      simp only [Option.bind_some]
      rw [if_pos (by omega), t1]
    · rw [t2, bts_append, bts_append, p2]
      simp only [tailL, natsU, List.map_cons, List.flatMap_cons, List.append_assoc]
      rfl
theorem dLine_eq {k : Nat} {kind conn n : Int} {text : ByteArray} (hk : 2000 ≤ k) (hc : I64 conn) (hn : I64 n) (ht : text.size ≤ 1000) :
    (mayL kind conn (bytesOf text) n = true → ∃ t, desk_Line.f k kind conn text n = some (t, 0) ∧ bytesOf t = lineL kind conn (bytesOf text) n ∧ t.size ≤ 20000) ∧ (mayL kind conn (bytesOf text) n = false → desk_Line.f k kind conn text n = some ((⟨#[]⟩ : ByteArray), 1)) := by
  unfold mayL
  by_cases hr : 1 ≤ kind ∧ kind ≤ 6
  · have hw := wrd_small hr
    rw [decide_eq_true hr, Bool.true_and, ← ok_eq hr]
    unfold desk_Line.f
    rw [form_eq hr]
    simp only [Option.bind_some]
    have hne : (wrd kind).toList ≠ [] := fun e => hw.2.1 ((tl_nil _).1 e)
    refine ⟨fun h => ?_, fun h => ?_⟩
    · rw [if_pos ⟨hne, h, by omega⟩]
      have hl : (sgn kind).data.toList.length ≤ 2 := hw.2.2
      obtain ⟨t, t1, t2, t3⟩ := dgo hk hc hn ht (sgn kind).data.toList (wrd kind) (by omega)
      exact ⟨t, by rw [t1]; rfl, t2, by omega⟩
    · rw [if_neg (fun e => by rw [h] at e; exact Bool.noConfusion e.2.1), if_pos (Or.inr h)]
  · rw [decide_eq_false hr, Bool.false_and]
    refine ⟨fun h => Bool.noConfusion h, fun _ => ?_⟩
    unfold desk_Line.f
    rw [form_none hr]
    simp only [Option.bind_some]
    rw [if_neg (fun e => e.1 ((tl_nil _).2 rfl)), if_pos (Or.inl ((tl_nil _).2 rfl))]
def numOk (l : List Int) : Bool := decide ((parseN l).2 = 0 ∧ printN (parseN l).1 = l)
theorem numOk_print {n : Int} (h : I64 n) : numOk (printN n) = true ∧ (parseN (printN n)).1 = n := by
  unfold numOk
  rw [parse_print h]
  simp
theorem numOk_of {l : List Int} (h : numOk l = true) : I64 (parseN l).1 ∧ printN (parseN l).1 = l := by
  unfold numOk at h
  exact ⟨parseN_bd l, (of_decide_eq_true h).2⟩
def upTo (l : List Int) : List Int := l.takeWhile (fun x => x != 32)
def behind (l : List Int) : List Int := l.dropWhile (fun x => x != 32)
theorem behind_cons : ∀ (l : List Int), (l.contains 32 = true ∧ 32 :: (behind l).drop 1 = behind l) ∨ (l.contains 32 = false ∧ behind l = [])
  | [] => Or.inr ⟨rfl, rfl⟩
  | x :: l => by
    unfold behind
    by_cases h : x = 32
    · subst h
      exact Or.inl ⟨by simp, by simp⟩
    · rw [List.dropWhile_cons, if_pos (by simpa using h)]
      rcases behind_cons l with ⟨h1, h2⟩ | ⟨h1, h2⟩
      · exact Or.inl ⟨by rw [List.contains_cons, h1, Bool.or_true], h2⟩
      · exact Or.inr ⟨by rw [List.contains_cons, h1, Bool.or_false]; simpa using fun e => h e.symm, h2⟩
theorem behind_len (l : List Int) : (behind l).length ≤ l.length := by
  unfold behind
  induction l with
  | nil => simp
  | cons x l ih =>
    rw [List.dropWhile_cons]
    split
    · simp only [List.length_cons]; omega
    · exact Nat.le_refl _
theorem upTo_len (l : List Int) : (upTo l).length ≤ l.length := by
  unfold upTo
  induction l with
  | nil => simp
  | cons x l ih =>
    rw [List.takeWhile_cons]
    split
    · simp only [List.length_cons]; omega
    · simp
theorem dnum (s : ByteArray) (hs : s.size ≤ 100000) {k : Nat} (hk : 200000 ≤ k) : ∃ t, desk_number.f k s = some ((parseN (upTo (bytesOf s))).1, t, numOk (upTo (bytesOf s))) ∧ bytesOf t = behind (bytesOf s) := by
  obtain ⟨w, u, b, e1, e2, e3, e4⟩ := Cut_f s (by omega) 32
  have hz := bts_size s
  have e2' : bytesOf w = upTo (bytesOf s) := e2
  have e3' : bytesOf u = (behind (bytesOf s)).drop 1 := e3
  have hw : w.size ≤ s.size := by rw [bts_size, e2', hz]; exact upTo_len _
  have hu : u.size ≤ s.size := by
    rw [bts_size, e3', hz, List.length_drop]
    have := behind_len (bytesOf s)
    omega
  have hb : bytesOf ((⟨#[32]⟩ : ByteArray) ++ u) = 32 :: (behind (bytesOf s)).drop 1 := by rw [bts_append, e3']; rfl
  obtain ⟨p, p1, p2, _⟩ := Print_eq (parseN_bd (bytesOf w)) (k := k) (by omega)
  have hok : (parseN (upTo (bytesOf s))).2 = 0 → (p.toList == w.toList) = numOk (upTo (bytesOf s)) := fun h0 => by
    rw [Bool.eq_iff_iff, beq_iff_eq, tl_iff, p2, e2']
    unfold numOk
    rw [decide_eq_true_eq]
    exact ⟨fun h => ⟨h0, h⟩, fun h => h.2⟩
  have hno : (parseN (upTo (bytesOf s))).2 ≠ 0 → numOk (upTo (bytesOf s)) = false := fun h0 => by
    unfold numOk
    rw [decide_eq_false (fun h => h0 h.1)]
  unfold desk_number.f
  rw [show (⟨#[32]⟩ : ByteArray) = ⟨#[(32 : UInt8)]⟩ from rfl, e1]
  simp only [Option.bind_some]
  rw [Parse_eq w (by omega) (by omega)]
  simp only [Option.bind_some]
  rw [p1, e2']
  simp only [Option.bind_some]
  rw [show ((32 : UInt8).toNat : Int) = 32 from rfl] at e4
  rcases behind_cons (bytesOf s) with ⟨h1, h2⟩ | ⟨h1, h2⟩
  · rw [h1] at e4
    rw [if_pos e4, if_pos (by omega)]
    by_cases h0 : (parseN (upTo (bytesOf s))).2 = 0
    · rw [if_pos h0, hok h0]; exact ⟨_, rfl, by rw [hb, h2]⟩
    · rw [if_neg h0, hno h0]; exact ⟨_, rfl, by rw [hb, h2]⟩
  · rw [h1] at e4
    rw [if_neg (by rw [e4]; simp)]
    by_cases h0 : (parseN (upTo (bytesOf s))).2 = 0
    · rw [if_pos h0, hok h0]; exact ⟨u, rfl, by rw [e3', h2]; rfl⟩
    · rw [if_neg h0, hno h0]; exact ⟨u, rfl, by rw [e3', h2]; rfl⟩
theorem readL_bd : ∀ (f : Nat) (out : List Int) (i : Int) (l : List Int), Byt l → Byt out → 0 ≤ i → Byt (readL f out i l).1 ∧ (readL f out i l).1.length ≤ out.length + l.length ∧ 0 ≤ (readL f out i l).2.1 ∧ (readL f out i l).2.1 ≤ i + l.length
  | 0, out, i, l, _, _, _ => ⟨by intro x hx; simp [readL] at hx, by simp [readL], by simp [readL], by simp [readL]; omega⟩
  | f + 1, out, i, [], _, _, _ => ⟨by intro x hx; simp [readL] at hx, by simp [readL], by simp [readL], by simp [readL]; omega⟩
  | f + 1, out, i, c :: l, hb, ho, hi => by
    rw [readL, List.length_cons]
    by_cases c1 : c = 34
    · rw [if_pos c1]
      exact ⟨ho, by dsimp only; omega, by dsimp only; omega, by dsimp only; omega⟩
    rw [if_neg c1]
    have hbl : Byt l := fun x hx => hb x (by simp [hx])
    have hu := unitD_byt (c := c) hbl
    by_cases c2 : (unitD c l).2 = 0
    · rw [if_pos c2]
      exact ⟨fun x hx => by simp at hx, by simp, by simp, by dsimp only; omega⟩
    rw [if_neg c2]
    obtain ⟨h1, h2, h3, h4⟩ := readL_bd f (out ++ [(unitD c l).1]) (i + (unitD c l).2) (l.drop ((unitD c l).2 - 1).toNat) (hbl.drop _) (fun x hx => by
      rcases List.mem_append.1 hx with h | h
      · exact ho x h
      · simp at h; subst h; exact ⟨hu.1, hu.2.1⟩) (by omega)
    rw [List.length_append, List.length_drop, List.length_singleton] at h2
    rw [List.length_drop] at h4
    exact ⟨h1, by omega, h3, by omega⟩
theorem readQ_bd (l : List Int) (hb : Byt l) : Byt (readQ l).1 ∧ (readQ l).1.length ≤ l.length ∧ 0 ≤ (readQ l).2.1 ∧ (readQ l).2.1 ≤ l.length := by
  match l with
  | [] => exact ⟨fun x hx => by simp [readQ] at hx, by simp [readQ], by simp [readQ], by simp [readQ]⟩
  | c :: l =>
    have hq : readQ (c :: l) = if c ≠ 34 then ([], 0, false) else readL (l.length + 1) [] 1 l := rfl
    rw [hq]
    by_cases c1 : c ≠ 34
    · rw [if_pos c1]
      exact ⟨fun x hx => by simp at hx, by simp, by simp, by simp only [List.length_cons]; omega⟩
    · rw [if_neg c1]
      obtain ⟨h1, h2, h3, h4⟩ := readL_bd (l.length + 1) [] 1 l (fun x hx => hb x (by simp [hx])) (fun x hx => by simp at hx) (by omega)
      rw [List.length_nil] at h2
      rw [List.length_cons]
      exact ⟨h1, by omega, h3, by omega⟩
theorem pre32 (s : ByteArray) : ∃ t b, strings_CutPrefix.f s (⟨#[32]⟩ : ByteArray) = some (t, b) ∧ t.size ≤ s.size ∧ ∀ m, bytesOf s = 32 :: m → bytesOf t = m := by
  obtain ⟨t, b, h1, h2, h3, h4⟩ := CutPrefix_f s (⟨#[32]⟩ : ByteArray)
  refine ⟨t, b, h1, h4, fun m hm => ?_⟩
  rw [h3, hm]
  rfl
theorem dfields_total {k : Nat} (hk : 400000 ≤ k) (kind : Int) : ∀ (l : List UInt8) (conn : Int) (text : ByteArray) (n : Int) (s : ByteArray), I64 conn → I64 n → text.size ≤ 1000 → s.size ≤ 1000 → ∃ kd cn tx nn b, desk_fields.go k kind l conn text n s = some (kd, cn, tx, nn, b) ∧ I64 cn ∧ I64 nn ∧ tx.size ≤ 1000
  | [], conn, text, n, s, hc, hn, ht, hs => ⟨_, _, _, _, _, rfl, hc, hn, ht⟩
  | c :: r, conn, text, n, s, hc, hn, ht, hs => by
    obtain ⟨t, b, h1, h2, _⟩ := pre32 s
    have fail : ∃ kd cn tx nn b, (some ((0 : Int), (0 : Int), (⟨#[]⟩ : ByteArray), (0 : Int), false) : Option (Int × Int × ByteArray × Int × Bool)) = some (kd, cn, tx, nn, b) ∧ I64 cn ∧ I64 nn ∧ tx.size ≤ 1000 := ⟨_, _, _, _, _, rfl, ⟨by decide, by decide⟩, ⟨by decide, by decide⟩, by decide⟩
    rw [desk_fields.go, h1]
    simp only [Option.bind_some]
    have hz := bts_size t
    by_cases c1 : c = 116
    · obtain ⟨q1, q2, q3, q4⟩ := readQ_bd (bytesOf t) (bts_byt t)
      rw [if_pos c1, dRead_f t (by omega) (by omega)]
      simp only [Option.bind_some]
      rw [if_pos ⟨q3, by omega⟩]
      have hso := bts_size (strOfNums (readQ (bytesOf t)).1)
      rw [bts_son q1] at hso
      by_cases c2 : (readQ (bytesOf t)).2.2 = true
      · rw [if_pos c2]
        exact dfields_total hk kind r conn _ n _ hc hn (by omega) (by rw [bts_size, bts_extract_to, List.length_drop]; omega)
      · rw [if_neg c2]; exact fail
    · obtain ⟨u, e1, e2⟩ := dnum t (by omega) (k := k) (by omega)
      have hb := parseN_bd (upTo (bytesOf t))
      have hu : u.size ≤ 1000 := by
        have := behind_len (bytesOf t)
        rw [bts_size, e2]; omega
      rw [if_neg c1, e1]
      simp only [Option.bind_some]
      by_cases c2 : numOk (upTo (bytesOf t)) = true
      · rw [if_pos c2]
        by_cases c3 : c = 99
        · rw [if_pos c3]; exact dfields_total hk kind r _ text n _ hb hn ht hu
        · rw [if_neg c3]
          by_cases c4 : c = 110
          · rw [if_pos c4]; exact dfields_total hk kind r conn text _ _ hc hb ht hu
          · rw [if_neg c4]; exact dfields_total hk kind r conn text n _ hc hn ht hu
      · rw [if_neg c2]; exact fail
theorem digs_no32 (v : Nat) : ∀ x ∈ digs 10 v, x ≠ 32 := fun x hx => by
  have := List.all_eq_true.1 (digs10_all v).1 x hx
  have := isD_iff.1 this
  omega
theorem print_no32 (n : Int) : ∀ x ∈ printN n, x ≠ 32 := by
  intro x hx
  unfold printN at hx
  split at hx
  · rcases List.mem_cons.1 hx with h | h
    · omega
    · exact digs_no32 _ x h
  · exact digs_no32 _ x hx
def Ends (m : List Int) : Prop := m = [] ∨ ∃ r, m = 32 :: r
theorem upTo_app : ∀ {a : List Int} {m : List Int}, (∀ x ∈ a, x ≠ 32) → Ends m → upTo (a ++ m) = a ∧ behind (a ++ m) = m
  | [], m, _, hm => by
    rcases hm with rfl | ⟨r, rfl⟩
    · exact ⟨rfl, rfl⟩
    · exact ⟨by simp [upTo], by simp [behind]⟩
  | x :: a, m, ha, hm => by
    have hx := ha x (by simp)
    obtain ⟨h1, h2⟩ := upTo_app (a := a) (fun y hy => ha y (by simp [hy])) hm
    unfold upTo behind at *
    rw [List.cons_append, List.takeWhile_cons, List.dropWhile_cons, if_pos (by simpa using hx), if_pos (by simpa using hx), h1, h2]
    exact ⟨rfl, rfl⟩
theorem step_num {k : Nat} (hk : 400000 ≤ k) (kind : Int) (r : List UInt8) (c : UInt8) (hc : c = 99 ∨ c = 110) (conn : Int) (text : ByteArray) (n v : Int) (hv : I64 v) (s : ByteArray) (hs : s.size ≤ 20000) (m : List Int) (hm : Ends m) (e : bytesOf s = 32 :: (printN v ++ m)) :
    ∃ s', bytesOf s' = m ∧ s'.size ≤ s.size ∧ desk_fields.go k kind (c :: r) conn text n s = if c = 99 then desk_fields.go k kind r v text n s' else desk_fields.go k kind r conn text v s' := by
  obtain ⟨t, b, h1, h2, h3⟩ := pre32 s
  obtain ⟨u, e1, e2⟩ := dnum t (by omega) (k := k) (by omega)
  have ht := h3 _ e
  obtain ⟨g1, g2⟩ := upTo_app (print_no32 v) hm
  rw [ht, g1, (numOk_print hv).1, (numOk_print hv).2] at e1
  rw [ht, g2] at e2
  refine ⟨u, e2, ?_, ?_⟩
  · rw [bts_size, bts_size s, e2, e]; simp only [List.length_cons, List.length_append]; omega
  rw [desk_fields.go, h1]
  simp only [Option.bind_some]
  rw [if_neg (by rcases hc with rfl | rfl <;> decide), e1]
  simp only [Option.bind_some, if_true]
  rcases hc with rfl | rfl
  · rw [if_pos rfl, if_pos rfl]
  · rw [if_neg (by decide), if_pos rfl, if_neg (by decide)]
theorem step_txt {k : Nat} (hk : 400000 ≤ k) (kind : Int) (r : List UInt8) (conn : Int) (text : ByteArray) (n : Int) (x : List Int) (hx : Byt x) (s : ByteArray) (hs : s.size ≤ 20000) (m : List Int) (e : bytesOf s = 32 :: (quoteL x ++ m)) :
    ∃ s', bytesOf s' = m ∧ desk_fields.go k kind (116 :: r) conn text n s = desk_fields.go k kind r conn (strOfNums x) n s' := by
  obtain ⟨t, b, h1, h2, h3⟩ := pre32 s
  have ht := h3 _ e
  have hz := bts_size t
  rw [ht, List.length_append] at hz
  rw [desk_fields.go, h1]
  simp only [Option.bind_some, if_true]
  rw [dRead_f t (by omega) (by omega), ht, readQ_quoted x m hx]
  simp only [Option.bind_some, if_true]
  rw [if_pos ⟨by omega, by omega⟩]
  refine ⟨_, ?_, rfl⟩
  rw [bts_extract_to, ht, show ((quoteL x).length : Int).toNat = (quoteL x).length by omega, List.drop_left]
theorem dpre {s : ByteArray} {p : ByteArray} {m : List Int} (h : bytesOf s = bytesOf p ++ m) : ∃ t, strings_CutPrefix.f s p = some (t, true) ∧ bytesOf t = m ∧ t.size ≤ s.size := by
  obtain ⟨t, b, h1, h2, h3, h4⟩ := CutPrefix_f s p
  have hp : (bytesOf p).isPrefixOf (bytesOf s) = true := by rw [h, List.isPrefixOf_iff_prefix]; exact ⟨m, rfl⟩
  rw [hp] at h2
  rw [if_pos hp, h, List.drop_left] at h3
  exact ⟨t, by rw [h1, h2], h3, h4⟩
theorem dnopre {s : ByteArray} {p : ByteArray} (h : (bytesOf p).isPrefixOf (bytesOf s) = false) : ∃ t, strings_CutPrefix.f s p = some (t, false) := by
  obtain ⟨t, b, h1, h2, h3, h4⟩ := CutPrefix_f s p
  exact ⟨t, by rw [h1, h2, h]⟩
theorem skip {k : Nat} {s : ByteArray} {x : Int} (hx : 1 ≤ x ∧ x ≤ 6) (h : (bytesOf (wrd x)).isPrefixOf (bytesOf s) = false) : desk_Parse.l0 (k + 1) s x = desk_Parse.l0 k s (x + 1) := by
  obtain ⟨t, ht⟩ := dnopre h
  simp only [desk_Parse.l0]
  rw [if_pos hx.2, form_eq hx]
  simp only [Option.bind_some]
  rw [ht]
  simp only [Option.bind_some]
  rw [if_neg (by simp), w64 (by omega)]
theorem sgn_asc {kind : Int} (h : 1 ≤ kind ∧ kind ≤ 6) : ((sgn kind).data.toList.all (fun c => decide (c.toNat < 128))) = true := by
  rcases six h with rfl | rfl | rfl | rfl | rfl | rfl <;> decide
theorem tail_c {kind : Int} (h : kind = 4 ∨ kind = 6) : (sgn kind).data.toList = [99] ∧ bytesOf (sgn kind) = [99] := by
  rcases h with rfl | rfl <;> exact ⟨rfl, rfl⟩
/-- What was said is read. -/
theorem dfields_line {k : Nat} (hk : 400000 ≤ k) {kind conn n : Int} {text : ByteArray} (hc : I64 conn) (hn : I64 n) (ht : text.size ≤ 1000) (hmay : mayL kind conn (bytesOf text) n = true) (s : ByteArray) (hs : s.size ≤ 20000) (e : bytesOf s = tailL (bytesOf (sgn kind)) conn (bytesOf text) n) :
    ∃ tx, desk_fields.f k kind 0 (⟨#[]⟩ : ByteArray) 0 (sgn kind) s = some (kind, conn, tx, n, true) ∧ bytesOf tx = bytesOf text := by
  unfold mayL at hmay
  have hr : 1 ≤ kind ∧ kind ≤ 6 := by
    by_cases h : 1 ≤ kind ∧ kind ≤ 6
    · exact h
    · rw [decide_eq_false h] at hmay; simp at hmay
  rw [decide_eq_true hr, Bool.true_and] at hmay
  unfold desk_fields.f
  rw [if_pos (sgn_asc hr)]
  have ends : ∀ s' : ByteArray, bytesOf s' = [] → (s'.toList == ([] : List UInt8)) = true := fun s' h => beq_iff_eq.2 ((tl_nil s').2 h)
  have zn : ∀ x : Int, decide (x = 0) = true → x = 0 := fun x h => of_decide_eq_true h
  rcases six hr with rfl | rfl | rfl | rfl | rfl | rfl
  · have hm2 : (decide (conn = 0) && decide (n = 0) && decide (bytesOf text = [])) = true := hmay
    simp only [Bool.and_eq_true, decide_eq_true_eq] at hm2
    obtain ⟨⟨rfl, rfl⟩, h3⟩ := hm2
    rw [show (sgn 1).data.toList = [] from rfl, desk_fields.go, ends s e]
    exact ⟨_, rfl, h3.symm ▸ rfl⟩
  · have hm2 : (decide (n = 0)) = true := by simpa [show (bytesOf (sgn 2)) = [99, 116] from rfl] using hmay
    obtain rfl := zn n hm2
    rw [show (sgn 2).data.toList = [99, 116] from rfl]
    have e' : bytesOf s = 32 :: (printN conn ++ (32 :: (quoteL (bytesOf text) ++ []))) := by rw [e, show bytesOf (sgn 2) = [99, 116] from rfl]; rfl
    obtain ⟨s1, g1, g2, g3⟩ := step_num hk 2 [116] 99 (Or.inl rfl) 0 ⟨#[]⟩ 0 conn hc s hs _ (Or.inr ⟨_, rfl⟩) e'
    obtain ⟨s2, k1, k2⟩ := step_txt hk 2 [] conn ⟨#[]⟩ 0 (bytesOf text) (bts_byt text) s1 (by omega) _ g1
    rw [g3, if_pos rfl, k2, desk_fields.go, ends s2 k1]
    exact ⟨_, rfl, bts_son (bts_byt text)⟩
  · have hm2 : decide (bytesOf text = []) = true := by simpa [show (bytesOf (sgn 3)) = [99, 110] from rfl] using hmay
    have h3 : bytesOf text = [] := of_decide_eq_true hm2
    rw [show (sgn 3).data.toList = [99, 110] from rfl]
    have e' : bytesOf s = 32 :: (printN conn ++ (32 :: (printN n ++ []))) := by rw [e, show bytesOf (sgn 3) = [99, 110] from rfl]; rfl
    obtain ⟨s1, g1, g2, g3⟩ := step_num hk 3 [110] 99 (Or.inl rfl) 0 ⟨#[]⟩ 0 conn hc s hs _ (Or.inr ⟨_, rfl⟩) e'
    obtain ⟨s2, k1, _, k2⟩ := step_num hk 3 [] 110 (Or.inr rfl) conn ⟨#[]⟩ 0 n hn s1 (by omega) _ (Or.inl rfl) g1
    rw [g3, if_pos rfl, k2, if_neg (by decide), desk_fields.go, ends s2 k1]
    exact ⟨_, rfl, h3.symm ▸ rfl⟩
  · have hm2 : (decide (n = 0) && decide (bytesOf text = [])) = true := by simpa [show (bytesOf (sgn 4)) = [99] from rfl] using hmay
    simp only [Bool.and_eq_true, decide_eq_true_eq] at hm2
    obtain ⟨rfl, h3⟩ := hm2
    rw [show (sgn 4).data.toList = [99] from rfl]
    have e' : bytesOf s = 32 :: (printN conn ++ []) := by rw [e, show bytesOf (sgn 4) = [99] from rfl]; rfl
    obtain ⟨s1, g1, g2, g3⟩ := step_num hk 4 [] 99 (Or.inl rfl) 0 ⟨#[]⟩ 0 conn hc s hs _ (Or.inl rfl) e'
    rw [g3, if_pos rfl, desk_fields.go, ends s1 g1]
    exact ⟨_, rfl, h3.symm ▸ rfl⟩
  · have hm2 : (decide (conn = 0) && decide (bytesOf text = [])) = true := by simpa [show (bytesOf (sgn 5)) = [110] from rfl] using hmay
    simp only [Bool.and_eq_true, decide_eq_true_eq] at hm2
    obtain ⟨rfl, h3⟩ := hm2
    rw [show (sgn 5).data.toList = [110] from rfl]
    have e' : bytesOf s = 32 :: (printN n ++ []) := by rw [e, show bytesOf (sgn 5) = [110] from rfl]; rfl
    obtain ⟨s1, g1, g2, g3⟩ := step_num hk 5 [] 110 (Or.inr rfl) 0 ⟨#[]⟩ 0 n hn s hs _ (Or.inl rfl) e'
    rw [g3, if_neg (by decide), desk_fields.go, ends s1 g1]
    exact ⟨_, rfl, h3.symm ▸ rfl⟩
  · have hm2 : (decide (n = 0) && decide (bytesOf text = [])) = true := by simpa [show (bytesOf (sgn 6)) = [99] from rfl] using hmay
    simp only [Bool.and_eq_true, decide_eq_true_eq] at hm2
    obtain ⟨rfl, h3⟩ := hm2
    rw [show (sgn 6).data.toList = [99] from rfl]
    have e' : bytesOf s = 32 :: (printN conn ++ []) := by rw [e, show bytesOf (sgn 6) = [99] from rfl]; rfl
    obtain ⟨s1, g1, g2, g3⟩ := step_num hk 6 [] 99 (Or.inl rfl) 0 ⟨#[]⟩ 0 conn hc s hs _ (Or.inl rfl) e'
    rw [g3, if_pos rfl, desk_fields.go, ends s1 g1]
    exact ⟨_, rfl, h3.symm ▸ rfl⟩
theorem dhit {k : Nat} (hk : 400000 ≤ k) {kind conn n : Int} {text : ByteArray} (hc : I64 conn) (hn : I64 n) (ht : text.size ≤ 1000) (hmay : mayL kind conn (bytesOf text) n = true) (s : ByteArray) (hs : s.size ≤ 20000) (e : bytesOf s = lineL kind conn (bytesOf text) n) :
    ∃ tx, desk_Parse.l0 (k + 1) s kind = some (kind, conn, tx, n, 0) ∧ bytesOf tx = bytesOf text := by
  have hr : 1 ≤ kind ∧ kind ≤ 6 := by
    by_cases h : 1 ≤ kind ∧ kind ≤ 6
    · exact h
    · unfold mayL at hmay; rw [decide_eq_false h] at hmay; simp at hmay
  obtain ⟨t, t1, t2, t3⟩ := dpre e
  obtain ⟨tx, f1, f2⟩ := dfields_line hk hc hn ht hmay t (by omega) t2
  have hz := bts_size tx
  rw [f2, ← bts_size] at hz
  obtain ⟨l, l1, l2, _⟩ := (dLine_eq (k := k) (kind := kind) (text := tx) (by omega) hc hn (by omega)).1 (by rw [f2]; exact hmay)
  refine ⟨tx, ?_, f2⟩
  simp only [desk_Parse.l0]
  rw [if_pos hr.2, form_eq hr]
  simp only [Option.bind_some]
  rw [t1]
  simp only [Option.bind_some, if_true]
  rw [f1]
  simp only [Option.bind_some]
  rw [l1]
  simp only [Option.bind_some, if_true]
  rw [if_pos ((tl_iff l s).2 (by rw [l2, f2, e]))]
theorem dParse_line {k : Nat} (hk : 500000 ≤ k) {kind conn n : Int} {text : ByteArray} (hc : I64 conn) (hn : I64 n) (ht : text.size ≤ 1000) (hmay : mayL kind conn (bytesOf text) n = true) (s : ByteArray) (hs : s.size ≤ 20000) (e : bytesOf s = lineL kind conn (bytesOf text) n) :
    ∃ tx, desk_Parse.f k s = some (kind, conn, tx, n, 0) ∧ bytesOf tx = bytesOf text := by
  obtain ⟨k, rfl⟩ : ∃ m, k = m + 6 := ⟨k - 6, by omega⟩
  have hr : 1 ≤ kind ∧ kind ≤ 6 := by
    by_cases h : 1 ≤ kind ∧ kind ≤ 6
    · exact h
    · unfold mayL at hmay; rw [decide_eq_false h] at hmay; simp at hmay
  unfold desk_Parse.f
  have hit := fun (m : Nat) (hm : 400000 ≤ m) => dhit hm hc hn ht hmay s hs e
  unfold lineL at e
  rcases six hr with rfl | rfl | rfl | rfl | rfl | rfl
  · exact hit _ (by omega)
  · rw [skip (by omega) (by rw [e]; rfl)]
    exact hit _ (by omega)
  · rw [skip (by omega) (by rw [e]; rfl), skip (by omega) (by rw [e]; rfl)]
    exact hit _ (by omega)
  · rw [skip (by omega) (by rw [e]; rfl), skip (by omega) (by rw [e]; rfl), skip (by omega) (by rw [e]; rfl)]
    exact hit _ (by omega)
  · rw [skip (by omega) (by rw [e]; rfl), skip (by omega) (by rw [e]; rfl), skip (by omega) (by rw [e]; rfl), skip (by omega) (by rw [e]; rfl)]
    exact hit _ (by omega)
  · rw [skip (by omega) (by rw [e]; rfl), skip (by omega) (by rw [e]; rfl), skip (by omega) (by rw [e]; rfl), skip (by omega) (by rw [e]; rfl), skip (by omega) (by rw [e]; rfl)]
    exact hit _ (by omega)
theorem dParse_l0 {s : ByteArray} (hs : s.size ≤ 1000) : ∀ (d k : Nat) (x : Int), 1 ≤ x → x + d = 7 → 400000 + d ≤ k → ∃ kd cn tx nn er, desk_Parse.l0 k s x = some (kd, cn, tx, nn, er) ∧ ((kd, cn, tx, nn, er) = (0, 0, (⟨#[]⟩ : ByteArray), 0, 3) ∨ (er = 0 ∧ I64 cn ∧ I64 nn ∧ tx.size ≤ 1000 ∧ mayL kd cn (bytesOf tx) nn = true ∧ bytesOf s = lineL kd cn (bytesOf tx) nn))
  | 0, k, x, h1, h2, h3 => by
    obtain ⟨k, rfl⟩ : ∃ m, k = m + 1 := ⟨k - 1, by omega⟩
    simp only [desk_Parse.l0]
    rw [if_neg (by omega)]
    exact ⟨_, _, _, _, _, rfl, Or.inl rfl⟩
  | d + 1, k, x, h1, h2, h3 => by
    obtain ⟨k, rfl⟩ : ∃ m, k = m + 1 := ⟨k - 1, by omega⟩
    have hr : 1 ≤ x ∧ x ≤ 6 := by omega
    have next := dParse_l0 hs d k (x + 1) (by omega) (by omega) (by omega)
    simp only [desk_Parse.l0]
    rw [if_pos hr.2, form_eq hr, w64 (x := x + 1) (by omega)]
    simp only [Option.bind_some]
    obtain ⟨t, b, p1, _, _, p4⟩ := CutPrefix_f s (wrd x)
    rw [p1]
    simp only [Option.bind_some]
    cases b with
    | false => rw [if_neg (by simp)]; exact next
    | true =>
      rw [if_pos rfl]
      obtain ⟨kd, cn, tx, nn, b, f1, f2, f3, f4⟩ := dfields_total (k := k) (by omega) x (sgn x).data.toList 0 ⟨#[]⟩ 0 t ⟨by decide, by decide⟩ ⟨by decide, by decide⟩ (by decide) (by omega)
      have f0 : desk_fields.f k x 0 (⟨#[]⟩ : ByteArray) 0 (sgn x) t = some (kd, cn, tx, nn, b) := by unfold desk_fields.f; rw [if_pos (sgn_asc hr), f1]
      rw [f0]
      simp only [Option.bind_some]
      cases hm : mayL kd cn (bytesOf tx) nn with
      | true =>
        obtain ⟨l, l1, l2, _⟩ := (dLine_eq (k := k) (kind := kd) (text := tx) (by omega) f2 f3 f4).1 hm
        rw [l1]
        simp only [Option.bind_some]
        cases b with
        | false => rw [if_neg (by simp)]; exact next
        | true =>
          rw [if_pos rfl, if_pos trivial]
          by_cases he : l.toList = s.toList
          · rw [if_pos he]
            exact ⟨_, _, _, _, _, rfl, Or.inr ⟨rfl, f2, f3, f4, hm, by rw [← l2, (tl_iff l s).1 he]⟩⟩
          · rw [if_neg he]; exact next
      | false =>
        rw [(dLine_eq (k := k) (kind := kd) (text := tx) (by omega) f2 f3 f4).2 hm]
        simp only [Option.bind_some]
        cases b with
        | false => rw [if_neg (by simp)]; exact next
        | true => rw [if_pos rfl, if_neg (by decide)]; exact next
-- events' lines: the reference's side
theorem rpiece {k : Nat} {conn n : Int} {text : ByteArray} (hk : 3000 ≤ k) (hc : I64 conn) (hn : I64 n) (ht : text.size ≤ 1000) (c : Int) : ∃ p, (if c = 99 then larumref03_Print.f k conn else if c = 110 then larumref03_Print.f k n else larumref33_Quoted.f k text) = some p ∧ bytesOf p = pieceL c conn (bytesOf text) n ∧ p.size ≤ 5000 := by
  have sz : ∀ v, I64 v → (printN v).length ≤ 66 := fun v hv => by
    obtain ⟨t, _, h2, h3⟩ := Print_eq hv (k := 67) (by omega)
    rw [← h2, ← bts_size]; exact h3
  unfold pieceL
  by_cases c1 : c = 99
  · obtain ⟨p, h1, h2⟩ := RPrint_eq hc (k := k) (by omega)
    exact ⟨p, by rw [if_pos c1, h1], by rw [if_pos c1, h2], by rw [bts_size, h2]; have := sz conn hc; omega⟩
  rw [if_neg c1, if_neg c1]
  by_cases c2 : c = 110
  · obtain ⟨p, h1, h2⟩ := RPrint_eq hn (k := k) (by omega)
    exact ⟨p, by rw [if_pos c2, h1], by rw [if_pos c2, h2], by rw [bts_size, h2]; have := sz n hn; omega⟩
  rw [if_neg c2, if_neg c2]
  obtain ⟨p, h1, h2⟩ := rq_f text (by omega) (k := k) (by omega)
  have := quoteL_len (bytesOf text)
  have := bts_size text
  exact ⟨p, h1, h2, by rw [bts_size, h2]; omega⟩
theorem rLine_l0 {kind conn n : Int} {text : ByteArray} (hc : I64 conn) (hn : I64 n) (ht : text.size ≤ 1000) (sg : ByteArray) (hsg : sg.size ≤ 100) : ∀ (d k i : Nat) (o : ByteArray), i + d = sg.size → 3000 + d < k → o.size + d * 6000 ≤ 100000000 →
    ∃ t, larumref33_Line.l0 k o sg (i : Int) kind conn text n = some t ∧ bytesOf t = bytesOf o ++ tailL ((bytesOf sg).drop i) conn (bytesOf text) n
  | 0, k + 1, i, o, h1, h2, h3 => by
    simp only [larumref33_Line.l0]
    rw [if_neg (by omega), List.drop_of_length_le (by rw [← bts_size]; omega)]
    exact ⟨_, rfl, by simp [tailL]⟩
  | d + 1, k + 1, i, o, h1, h2, h3 => by
    obtain ⟨p, p1, p2, p3⟩ := rpiece (k := k) (by omega) hc hn ht (rd (bytesOf sg) (i : Int))
    have hz : ((o ++ (⟨#[32]⟩ : ByteArray)) ++ p).size = o.size + 1 + p.size := by rw [ba_app, ba_app]; rfl
    have hz1 : (o ++ (⟨#[32]⟩ : ByteArray)).size = o.size + 1 := by rw [ba_app]; rfl
    obtain ⟨t, t1, t2⟩ := rLine_l0 (kind := kind) hc hn ht sg hsg d k (i + 1) ((o ++ (⟨#[32]⟩ : ByteArray)) ++ p) (by omega) (by omega) (by omega)
    have t1' : larumref33_Line.l0 k ((o ++ (⟨#[32]⟩ : ByteArray)) ++ p) sg (wrap64 ((i : Int) + 1)) kind conn text n = some t := by
      rw [w64 (by omega), show (i : Int) + 1 = ((i + 1 : Nat) : Int) by omega]; exact t1
    refine ⟨t, ?_, ?_⟩
    · simp only [larumref33_Line.l0]
      rw [if_pos (by omega), if_pos (by omega), bt_rd]
      by_cases c1 : rd (bytesOf sg) (i : Int) = 99
      · rw [if_pos c1] at p1
        rw [if_pos c1, if_pos (by omega), p1]
        simp only [Option.bind_some]
        rw [if_pos (by omega), t1']
      rw [if_neg c1] at p1
      rw [if_neg c1]
      by_cases c2 : rd (bytesOf sg) (i : Int) = 110
      · rw [if_pos c2] at p1
        rw [if_pos c2, if_pos (by omega), p1]
        simp only [Option.bind_some]
        rw [if_pos (by omega), t1']
      rw [if_neg c2] at p1
      rw [if_neg c2, if_pos (by omega), p1]
      simp only [Option.bind_some]
      rw [if_pos (by omega), t1']
    · rw [t2, bts_append, bts_append, p2, drop_rd (l := bytesOf sg) (i := i) (by rw [← bts_size]; omega)]
      simp only [tailL, List.flatMap_cons, List.append_assoc]
      rfl
theorem rLine_f {k : Nat} {kind conn n : Int} {text : ByteArray} (hk : 4000 ≤ k) (hr : 1 ≤ kind ∧ kind ≤ 6) (hc : I64 conn) (hn : I64 n) (ht : text.size ≤ 1000) : ∃ t, larumref33_Line.f k kind conn text n = some t ∧ bytesOf t = lineL kind conn (bytesOf text) n := by
  unfold larumref33_Line.f
  rw [show larumref33_words.f = some wrds from rfl, show larumref33_signs.f = some sgns from rfl]
  simp only [Option.bind_some]
  rw [if_pos (by omega), if_pos (show kind < (wrds.length : Int) by show kind < 7; omega), if_pos (show kind < (sgns.length : Int) by show kind < 7; omega)]
  have hw := wrd_small hr
  obtain ⟨t, t1, t2⟩ := rLine_l0 (kind := kind) hc hn ht (sgn kind) (by omega) (sgn kind).size k 0 (wrd kind) (by omega) (by omega) (by omega)
  exact ⟨t, t1, t2⟩
theorem rhas_l0 (s : ByteArray) (hs : s.size ≤ 1000) (c : Int) : ∀ (d k i : Nat), i + d = s.size → d < k → larumref33_has.l0 k s c (i : Int) = some (((bytesOf s).drop i).contains c)
  | 0, k + 1, i, h1, h2 => by
    simp only [larumref33_has.l0]
    rw [if_neg (by omega), List.drop_of_length_le (by rw [← bts_size]; omega)]
    rfl
  | d + 1, k + 1, i, h1, h2 => by
    simp only [larumref33_has.l0]
    rw [if_pos (by omega), if_pos (by omega), bt_rd, drop_rd (l := bytesOf s) (i := i) (by rw [← bts_size]; omega), List.contains_cons]
    by_cases h : rd (bytesOf s) (i : Int) = c
    · rw [if_pos h, h]; simp
    · rw [if_neg h, w64 (by omega), show (i : Int) + 1 = ((i + 1 : Nat) : Int) by omega, rhas_l0 s hs c d k (i + 1) (by omega) (by omega)]
      have : (c == rd (bytesOf s) (i : Int)) = false := by simpa using fun e => h e.symm
      rw [this, Bool.false_or]
theorem rhas_f (s : ByteArray) (hs : s.size ≤ 1000) (c : Int) {k : Nat} (hk : s.size < k) : larumref33_has.f k s c = some ((bytesOf s).contains c) := by
  unfold larumref33_has.f
  exact rhas_l0 s hs c s.size k 0 (by omega) hk
theorem rMay_f {k : Nat} (hk : 2000 ≤ k) (kind conn : Int) (text : ByteArray) (n : Int) : larumref33_May.f k kind conn text n = some (mayL kind conn (bytesOf text) n) := by
  obtain ⟨k, rfl⟩ : ∃ m, k = m + 1 := ⟨k - 1, by omega⟩
  unfold larumref33_May.f mayL
  simp only [larumref33_May.j0]
  by_cases hr : 1 ≤ kind ∧ kind ≤ 6
  · rw [if_neg (by omega), decide_eq_false (show ¬ kind > 6 by omega), if_neg (by simp), decide_eq_true hr, Bool.true_and, show larumref33_signs.f = some sgns from rfl]
    simp only [Option.bind_some]
    have hw := wrd_small hr
    have e : rdOf ByteArray.empty sgns kind = sgn kind := rfl
    have et : (text.toList == ([] : List UInt8)) = decide (bytesOf text = []) := by rw [Bool.eq_iff_iff, beq_iff_eq, tl_nil, decide_eq_true_eq]
    rw [if_pos (by omega), if_pos (show kind < (sgns.length : Int) by show kind < 7; omega), e, rhas_f _ (by omega) 99 (by omega), rhas_f _ (by omega) 110 (by omega), rhas_f _ (by omega) 116 (by omega), et]
    simp only [Option.bind_some]
    by_cases h1 : conn = 0 <;> by_cases h2 : n = 0 <;> cases (bytesOf (sgn kind)).contains 99 <;> cases (bytesOf (sgn kind)).contains 110 <;> cases (bytesOf (sgn kind)).contains 116 <;> simp [h1, h2]
  · rw [decide_eq_false hr, Bool.false_and]
    by_cases c : kind < 1
    · rw [if_pos c, if_pos trivial]
    · rw [if_neg c, decide_eq_true (by omega), if_pos rfl]
theorem awake300 : larumlaw33_awake.f 300 = some true := by decide +kernel
theorem i64_bd {a : Int} (h : (Lit.int .i64 a).wf = true) : I64 a := by
  simpa [I64, Lit.wf, IntKind.min, IntKind.max, IntKind.bits, IntKind.signed] using h
theorem short_eq (s : ByteArray) : ∃ t, larumlaw10_Short.f s = some t ∧ t.size ≤ 500 := by
  unfold larumlaw10_Short.f
  by_cases h : (s.size : Int) > 500
  · exact ⟨_, by rw [if_pos h, if_pos (by omega), if_pos (by omega)], by simp; omega⟩
  · exact ⟨s, by rw [if_neg h], by omega⟩
theorem DeskLines : larumlaw33_DeskLines.Pure := by
  intro kind conn a n wk wc _ wn
  have hc := i64_bd wc
  have hn := i64_bd wn
  obtain ⟨s, hs, hl⟩ := short_eq a
  refine ⟨600000, ?_⟩
  unfold larumlaw33_DeskLines.f larumlaw32_OfEvent.f
  rw [hs]
  simp only [Option.bind_some]
  have aw : larumlaw33_awake.f 600000 = some true := at_rounds (g := fun k => larumlaw33_awake.f k) (fun k => larumlaw33_awake.mono k) (show 300 ≤ 600000 by decide) awake300
  have hd := dLine_eq (k := 600000) (kind := kind) (text := s) (by omega) hc hn (by omega)
  rw [rMay_f (by omega)]
  cases hm : mayL kind conn (bytesOf s) n with
  | true =>
    obtain ⟨l, l1, l2, l3⟩ := hd.1 hm
    have hr : 1 ≤ kind ∧ kind ≤ 6 := by
      by_cases h : 1 ≤ kind ∧ kind ≤ 6
      · exact h
      · unfold mayL at hm; rw [decide_eq_false h] at hm; simp at hm
    obtain ⟨t, t1, t2⟩ := rLine_f (k := 600000) (by omega) hr hc hn (show s.size ≤ 1000 by omega)
    obtain ⟨tx, p1, p2⟩ := dParse_line (k := 600000) (by omega) hc hn (show s.size ≤ 1000 by omega) hm l (by omega) l2
    rw [l1]
    simp only [Option.bind_some, if_true]
    rw [p1, t1, aw]
    simp only [Option.bind_some, if_true]
    rw [if_pos ((tl_iff l t).2 (by rw [l2, t2]))]
    simp [(tl_iff tx s).2 p2]
  | false =>
    rw [hd.2 hm]
    simp only [Option.bind_some]
    rw [if_neg (by simp), if_pos trivial, if_pos ((tl_nil _).2 rfl), aw]
    rfl
end Go.Proofs.Ytmdfgndndfggeaa.Pure
