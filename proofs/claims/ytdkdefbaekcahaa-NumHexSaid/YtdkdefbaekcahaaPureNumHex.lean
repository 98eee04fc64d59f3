/- A number's digits by sixteen are as the chapter says, and read as it was: for any number. No condition. -/
import Derived.Test.YtdkdefbaekcahaaPNumHexx2
namespace Go.Proofs.Ytdkdefbaekcahaa.Pure
open Go Go.RowKit Go.Proofs.Ytdkdefbaekcahaa.PNumHex Go.Proofs.Ytdkdefbaekcahaa.Gp Go.Proofs.YtdkdefbaekcahaaW Go.Proofs.YtdkdefbaekcahaaW.PrintWords Go.Proofs.YtdkdefbaekcahaaW.PrintLast Go.Proofs.YtdkdefbaekcahaaW.PrintMore
set_option linter.unusedVariables false
set_option linter.unusedSimpArgs false
-- strings as lists of numbers
def Byt (l : List Int) : Prop := ∀ x ∈ l, 0 ≤ x ∧ x ≤ 255
theorem Byt.rd {l : List Int} (h : Byt l) (i : Int) : 0 ≤ PrintWords.rd l i ∧ PrintWords.rd l i ≤ 255 := by
  unfold PrintWords.rd
  rw [List.getD_eq_getElem?_getD]
  by_cases hi : i.toNat < l.length
  · rw [List.getElem?_eq_getElem hi]; exact h _ (List.getElem_mem hi)
  · rw [List.getElem?_eq_none (by omega)]; decide
theorem Byt.take {l : List Int} (h : Byt l) (n : Nat) : Byt (l.take n) := fun x hx => h x (List.mem_of_mem_take hx)
theorem Byt.drop {l : List Int} (h : Byt l) (n : Nat) : Byt (l.drop n) := fun x hx => h x (List.mem_of_mem_drop hx)
theorem w64 {x : Int} (h : -9223372036854775808 ≤ x ∧ x ≤ 9223372036854775807) : wrap64 x = x := by unfold wrap64; omega
theorem u64w (x : Int) : IntKind.u64.wrap x = x % 18446744073709551616 := by simp [IntKind.wrap, IntKind.bits, IntKind.signed]
theorem wu64 {x : Int} (h : 0 ≤ x ∧ x ≤ 18446744073709551615) : IntKind.u64.wrap x = x := by rw [u64w]; omega
theorem bts_byt (s : ByteArray) : Byt (bytesOf s) := by
  intro x hx
  simp only [bytesOf, List.mem_map] at hx
  obtain ⟨b, _, rfl⟩ := hx
  have := b.toNat_lt
  omega
theorem bts_len (s : ByteArray) : ((bytesOf s).length : Int) = (s.size : Int) := by rw [bytesOf_length]
theorem bt_rd (s : ByteArray) (i : Int) : bt s i = rd (bytesOf s) i := (rd_bytesOf s i).symm
theorem tl (s : ByteArray) : s.toList = s.data.toList := ByteArray.toList_eq s
theorem u8_map_inj : ∀ {a b : List UInt8}, a.map (fun x => (x.toNat : Int)) = b.map (fun x => (x.toNat : Int)) → a = b
  | [], [], _ => rfl
  | [], _ :: _, h => by simp at h
  | _ :: _, [], h => by simp at h
  | x :: a, y :: b, h => by
    simp only [List.map_cons, List.cons.injEq] at h
    rw [u8_map_inj h.2, UInt8.toNat_inj.1 (by omega : x.toNat = y.toNat)]
theorem tl_iff (s t : ByteArray) : s.toList = t.toList ↔ bytesOf s = bytesOf t := by
  rw [tl, tl]
  exact ⟨fun h => by unfold bytesOf; rw [h], fun h => u8_map_inj h⟩
theorem tl_nil (s : ByteArray) : s.toList = ([] : List UInt8) ↔ bytesOf s = [] := by
  rw [tl]
  unfold bytesOf
  rw [List.map_eq_nil_iff]
theorem bts_extract (s : ByteArray) (a b : Nat) : bytesOf (s.extract a b) = ((bytesOf s).take b).drop a := by
  unfold bytesOf
  rw [List.drop_take, ← List.map_drop, ← List.map_take]
  congr 1
  simp [List.drop_take]
theorem bts_extract_to (s : ByteArray) (a : Nat) : bytesOf (s.extract a s.size) = (bytesOf s).drop a := by
  rw [bts_extract, List.take_of_length_le (by rw [bytesOf_length]; omega)]
theorem bts_append (s t : ByteArray) : bytesOf (s ++ t) = bytesOf s ++ bytesOf t := by
  unfold bytesOf
  rw [← List.map_append]
  congr 1
theorem bts_size (s : ByteArray) : s.size = (bytesOf s).length := (bytesOf_length s).symm
theorem drop_rd {l : List Int} {i : Nat} (h : i < l.length) : l.drop i = rd l (i : Int) :: l.drop (i + 1) := by
  rw [List.drop_eq_getElem_cons h]
  unfold rd
  simp [List.getD_eq_getElem?_getD, List.getElem?_eq_getElem h]
theorem rd_cons_zero (a : Int) (l : List Int) : rd (a :: l) 0 = a := rfl
-- digits
def isD (c : Int) : Bool := decide (48 ≤ c ∧ c ≤ 57)
def allD (l : List Int) : Bool := l.all isD
def dv (v : Int) : List Int → Int
  | [] => v
  | c :: l => dv (10 * v + (c - 48)) l
theorem isD_iff {c : Int} : isD c = true ↔ 48 ≤ c ∧ c ≤ 57 := by simp [isD]
theorem dv_ge : ∀ (l : List Int) (v : Int), allD l = true → 0 ≤ v → v ≤ dv v l
  | [], v, _, _ => Int.le_refl v
  | c :: l, v, h, hv => by
    simp only [allD, List.all_cons, Bool.and_eq_true] at h
    have hc := isD_iff.1 h.1
    have := dv_ge l (10 * v + (c - 48)) h.2 (by omega)
    show v ≤ dv (10 * v + (c - 48)) l
    omega
theorem Digit_eq (c : Int) : chars_Digit.f c = some (isD c) := by
  unfold chars_Digit.f isD
  by_cases h : c ≥ 48
  · rw [if_pos h]; congr 1; exact decide_eq_decide.2 (by omega)
  · rw [if_neg h]; congr 1; symm; exact decide_eq_false (by omega)
theorem All_Digit_eq (s : ByteArray) (hs : s.size ≤ 140737488351232) (d : Nat) : ∀ (i k : Nat), i + d = s.size → d < k → chars_All_chars_Digit.l0 k s (i : Int) = some (allD ((bytesOf s).drop i)) := by
  induction d with
  | zero =>
    intro i k hi hk
    obtain ⟨k, rfl⟩ : ∃ m, k = m + 1 := ⟨k - 1, by omega⟩
    simp only [chars_All_chars_Digit.l0]
    rw [if_neg (by omega), List.drop_of_length_le (by rw [bytesOf_length]; omega)]
    rfl
  | succ d ih =>
    intro i k hi hk
    obtain ⟨k, rfl⟩ : ∃ m, k = m + 1 := ⟨k - 1, by omega⟩
    simp only [chars_All_chars_Digit.l0]
    rw [if_pos (by omega), if_pos (by omega), Digit_eq, bt_rd, drop_rd (by rw [bytesOf_length]; omega), w64 (by omega)]
    simp only [Option.bind_some]
    show _ = some (allD (_ :: _))
    cases hd : isD (rd (bytesOf s) (i : Int)) with
    | true =>
      rw [if_pos rfl, show ((i : Int) + 1) = ((i + 1 : Nat) : Int) by omega, ih (i + 1) k (by omega) (by omega)]
      simp only [allD, List.all_cons, hd, Bool.true_and]
    | false =>
      rw [if_neg (by simp)]
      simp only [allD, List.all_cons, hd, Bool.false_and]
theorem All_Digit (s : ByteArray) (hs : s.size ≤ 140737488351232) {k : Nat} (hk : s.size < k) : chars_All_chars_Digit.f k s = some (allD (bytesOf s)) := by
  unfold chars_All_chars_Digit.f
  exact All_Digit_eq s hs s.size 0 k (by omega) hk
theorem digits_eq (s : ByteArray) (hs : s.size ≤ 140737488351232) (M : Int) (hM : 9 ≤ M ∧ M ≤ 9223372036854775808) (d : Nat) : ∀ (i k : Nat) (v : Int), i + d = s.size → d < k → allD ((bytesOf s).drop i) = true → 0 ≤ v → v ≤ M →
    num_digits.l0 k s M v (s.size : Int) (i : Int) = some (if dv v ((bytesOf s).drop i) > M then (0, 5) else (dv v ((bytesOf s).drop i), 0)) := by
  induction d with
  | zero =>
    intro i k v hi hk ha h0 h1
    obtain ⟨k, rfl⟩ : ∃ m, k = m + 1 := ⟨k - 1, by omega⟩
    simp only [num_digits.l0]
    rw [if_neg (by omega), List.drop_of_length_le (by rw [bytesOf_length]; omega)]
    show _ = some (if v > M then _ else (v, 0))
    rw [if_neg (by omega)]
  | succ d ih =>
    intro i k v hi hk ha h0 h1
    obtain ⟨k, rfl⟩ : ∃ m, k = m + 1 := ⟨k - 1, by omega⟩
    rw [drop_rd (by rw [bytesOf_length]; omega)] at ha ⊢
    simp only [allD, List.all_cons, Bool.and_eq_true] at ha
    have hc := isD_iff.1 ha.1
    simp only [num_digits.l0]
    rw [if_pos (by omega), if_pos (by omega), if_pos (by omega), bt_rd]
    have e1 : (rd (bytesOf s) (i : Int) - 48) % 256 = rd (bytesOf s) (i : Int) - 48 := by omega
    rw [e1, wu64 (x := M - (rd (bytesOf s) (i : Int) - 48)) (by omega), Int.tdiv_eq_ediv_of_nonneg (by omega), wu64 (x := (M - (rd (bytesOf s) (i : Int) - 48)) / 10) (by omega)]
    show _ = some (if dv (10 * v + (rd (bytesOf s) (i : Int) - 48)) ((bytesOf s).drop (i + 1)) > M then (0, 5) else (dv (10 * v + (rd (bytesOf s) (i : Int) - 48)) ((bytesOf s).drop (i + 1)), 0))
    by_cases c : v > (M - (rd (bytesOf s) (i : Int) - 48)) / 10
    · rw [if_pos c, if_pos]
      have := dv_ge ((bytesOf s).drop (i + 1)) (10 * v + (rd (bytesOf s) (i : Int) - 48)) ha.2 (by omega)
      omega
    · rw [if_neg c, wu64 (x := v * 10) (by omega), wu64 (x := v * 10 + (rd (bytesOf s) (i : Int) - 48)) (by omega), w64 (by omega), show ((i : Int) + 1) = ((i + 1 : Nat) : Int) by omega, show v * 10 + (rd (bytesOf s) (i : Int) - 48) = 10 * v + (rd (bytesOf s) (i : Int) - 48) by omega]
      exact ih (i + 1) k _ (by omega) (by omega) ha.2 (by omega) (by omega)
theorem digits_f (s : ByteArray) (hs : s.size ≤ 140737488351232) {M : Int} (hM : 9 ≤ M ∧ M ≤ 9223372036854775808) {k : Nat} (hk : s.size < k) (ha : allD (bytesOf s) = true) :
    num_digits.f k s M = some (if dv 0 (bytesOf s) > M then (0, 5) else (dv 0 (bytesOf s), 0)) := by
  unfold num_digits.f
  exact digits_eq s hs M hM s.size 0 k 0 (by omega) hk ha (by omega) (by omega)
/-- Is a text of digits wrong? -/
def badD (l : List Int) : Bool := l.isEmpty || !allD l || (decide (1 < l.length) && rd l 0 == 48)
def maxP : Bool → Int
  | true => 9223372036854775808
  | false => 9223372036854775807
/-- What digits, behind a minus or without, are. -/
def parseD (m : Bool) (l : List Int) : Int × Int := if badD l = true then (0, 3) else if dv 0 l > maxP m then (0, 5) else (if m = true then -dv 0 l else dv 0 l, 0)
/-- Which number a text is. -/
def parseN (l : List Int) : Int × Int := if l ≠ [] ∧ rd l 0 = 45 then parseD true (l.drop 1) else parseD false l
theorem Parse_j1 (s : ByteArray) (hs : s.size ≤ 140737488351232) (m : Bool) {k : Nat} (hk : s.size + 2 < k) : num_Parse.j1 k s m (maxP m) = some (parseD m (bytesOf s)) := by
  obtain ⟨k, rfl⟩ : ∃ q, k = q + 2 := ⟨k - 2, by omega⟩
  have j2t : num_Parse.j2 (k + 1) s m (maxP m) true = some (0, 3) := by simp only [num_Parse.j2]; rw [if_pos trivial]
  have j2f : allD (bytesOf s) = true → num_Parse.j2 (k + 1) s m (maxP m) false = some (if dv 0 (bytesOf s) > maxP m then (0, 5) else (if m = true then -dv 0 (bytesOf s) else dv 0 (bytesOf s), 0)) := by
    intro ha
    have hge := dv_ge (bytesOf s) 0 ha (by omega)
    simp only [num_Parse.j2]
    rw [if_neg (by simp), digits_f s hs (M := maxP m) (by cases m <;> simp [maxP]) (by omega) ha]
    simp only [Option.bind_some]
    by_cases c : dv 0 (bytesOf s) > maxP m
    · rw [if_pos c, if_pos c]; rfl
    · rw [if_neg c, if_neg c]
      cases m with
      | true =>
        simp only [maxP] at c
        simp only [if_true, Option.some.injEq, Prod.mk.injEq, and_true]
        rw [u64w]; unfold wrap64; omega
      | false =>
        simp only [maxP] at c
        simp only [if_true, Option.some.injEq, Prod.mk.injEq, and_true]
        rw [if_neg (by simp), if_neg (by simp), w64 (by omega)]
  unfold parseD badD
  simp only [num_Parse.j1]
  by_cases c0 : s.toList = ([] : List UInt8)
  · rw [if_pos c0, j2t]
    rw [(tl_nil s).1 c0]; rfl
  rw [if_neg c0, All_Digit s hs (by omega)]
  have hne : (bytesOf s).isEmpty = false := by
    cases h : bytesOf s with
    | nil => exact absurd ((tl_nil s).2 h) c0
    | cons => rfl
  simp only [Option.bind_some, hne, Bool.false_or]
  cases ha : allD (bytesOf s) with
  | false =>
    rw [if_neg (by simp), j2t]; rfl
  | true =>
    rw [if_pos rfl]
    simp only [Bool.not_true, Bool.false_or]
    by_cases c1 : (s.size : Int) > 1
    · rw [if_pos c1, if_pos (by omega), bt_rd]
      have e : decide (1 < (bytesOf s).length) = true := decide_eq_true (by rw [bytesOf_length]; omega)
      rw [e, Bool.true_and]
      cases hz : rd (bytesOf s) 0 == 48 with
      | true => rw [j2t]; rfl
      | false => rw [j2f ha]; simp
    · rw [if_neg c1]
      have e : decide (1 < (bytesOf s).length) = false := decide_eq_false (by rw [bytesOf_length]; omega)
      rw [e, Bool.false_and, j2f ha]; simp
theorem Parse_eq (s : ByteArray) (hs : s.size ≤ 140737488351232) {k : Nat} (hk : s.size + 3 < k) : num_Parse.f k s = some (parseN (bytesOf s)) := by
  obtain ⟨k, rfl⟩ : ∃ q, k = q + 1 := ⟨k - 1, by omega⟩
  unfold num_Parse.f parseN
  by_cases c0 : (s.size : Int) > 0
  · have hne : bytesOf s ≠ [] := fun h => by have := bytesOf_length s; rw [h] at this; simp at this; omega
    rw [if_pos c0, if_pos c0, bt_rd]
    simp only [num_Parse.j0]
    by_cases c1 : rd (bytesOf s) 0 = 45
    · rw [if_pos (by simp [c1]), if_pos (by omega), if_pos ⟨hne, c1⟩]
      have e : (rd (bytesOf s) 0 == 45) = true := by simp [c1]
      rw [e, show (9223372036854775807 + 1 : Int) = maxP true from rfl, Parse_j1 _ (by simp; omega) true (by simp; omega), bts_extract_to]
    · have e : (rd (bytesOf s) 0 == 45) = false := by simp [c1]
      rw [e, if_neg (by simp), if_neg (fun h => c1 h.2), show (9223372036854775807 : Int) = maxP false from rfl, Parse_j1 s hs false (by omega)]
  · have hn : bytesOf s = [] := by have := bytesOf_length s; exact List.eq_nil_of_length_eq_zero (by omega)
    rw [if_neg c0]
    simp only [num_Parse.j0]
    rw [if_neg (by simp), show (9223372036854775807 : Int) = maxP false from rfl, Parse_j1 s hs false (by omega), hn]
    simp
-- a number's digits by a base
def dig (d : Int) : Int := if d < 10 then 48 + d else 87 + d
def digs (b v : Nat) : List Int := if h : v < b ∨ b < 2 then [dig v] else digs b (v / b) ++ [dig ((v % b : Nat) : Int)]
termination_by v
decreasing_by exact Nat.div_lt_self (by omega) (by omega)
theorem digs_lt {b v : Nat} (h : v < b) : digs b v = [dig v] := by rw [digs, dif_pos (Or.inl h)]
theorem digs_ge {b v : Nat} (h : b ≤ v) (hb : 2 ≤ b) : digs b v = digs b (v / b) ++ [dig ((v % b : Nat) : Int)] := by rw [digs, dif_neg (by omega)]
theorem digs_ne (b v : Nat) : digs b v ≠ [] := by
  rw [digs]
  split <;> simp
theorem hex_one : ∀ d : Fin 16, bytesOf ((⟨#[48, 49, 50, 51, 52, 53, 54, 55, 56, 57, 97, 98, 99, 100, 101, 102]⟩ : ByteArray).extract d.val (d.val + 1)) = [dig (d.val : Int)] := by decide +kernel
theorem hex_one' {d : Nat} (h : d < 16) : bytesOf ((⟨#[48, 49, 50, 51, 52, 53, 54, 55, 56, 57, 97, 98, 99, 100, 101, 102]⟩ : ByteArray).extract d (d + 1)) = [dig (d : Int)] := hex_one ⟨d, h⟩
theorem hex_size {d : Nat} (h : d < 16) : ((⟨#[48, 49, 50, 51, 52, 53, 54, 55, 56, 57, 97, 98, 99, 100, 101, 102]⟩ : ByteArray).extract d (d + 1)).size = 1 := by
  rw [bts_size, hex_one' h]; rfl
theorem based_eq {b : Nat} (hb : b = 10 ∨ b = 16) (f : Nat) : ∀ (v k : Nat) (acc : ByteArray), v < 2 ^ f → v < 18446744073709551616 → f + 3 ≤ k → acc.size + f ≤ 1000 →
    ∃ t, num_based.l0 k (v : Int) (b : Int) acc true = some t ∧ bytesOf t = digs b v ++ bytesOf acc ∧ t.size ≤ acc.size + f + 1 := by
  have hb2 : 2 ≤ b ∧ b ≤ 16 := by omega
  induction f with
  | zero =>
    intro v k acc hv hv' hk ha
    obtain ⟨k, rfl⟩ : ∃ m, k = m + 2 := ⟨k - 2, by omega⟩
    obtain rfl : v = 0 := by simp at hv; exact hv
    have hm : Int.tmod ((0 : Nat) : Int) (b : Int) = 0 := by simp
    have hd : Int.tdiv ((0 : Nat) : Int) (b : Int) = 0 := by simp
    have hz : IntKind.u64.wrap 0 = 0 := wu64 (by omega)
    have ho : IntKind.u64.wrap (0 + 1) = 1 := wu64 (by omega)
    have hs := hex_size (d := 0) (by omega)
    simp only [num_based.l0]
    rw [if_pos trivial, if_neg (by omega), hm, hd, hz, ho, if_pos (by omega), if_pos (by omega), if_pos (by omega), if_pos (by rw [show ((0 : Int)).toNat = 0 from rfl, show ((1 : Int)).toNat = 0 + 1 from rfl, hs]; omega)]
    refine ⟨_, by rw [if_neg (by simp)], ?_, ?_⟩
    · rw [bts_append, show ((0 : Int)).toNat = 0 from rfl, show ((1 : Int)).toNat = 0 + 1 from rfl, hex_one' (by omega), digs_lt (by omega)]
    · rw [bts_size, bts_append, show ((0 : Int)).toNat = 0 from rfl, show ((1 : Int)).toNat = 0 + 1 from rfl, hex_one' (by omega), List.length_append, bytesOf_length]; simp; omega
  | succ f ih =>
    intro v k acc hv hv' hk ha
    obtain ⟨k, rfl⟩ : ∃ m, k = m + 1 := ⟨k - 1, by omega⟩
    have hm : Int.tmod (v : Int) (b : Int) = ((v % b : Nat) : Int) := by rw [Int.tmod_eq_emod_of_nonneg (by omega)]; simp
    have hd : Int.tdiv (v : Int) (b : Int) = ((v / b : Nat) : Int) := by rw [Int.tdiv_eq_ediv_of_nonneg (by omega)]; simp
    have hlt : v % b < 16 := by have := Nat.mod_lt v (show 0 < b by omega); omega
    have hle : v / b ≤ v := Nat.div_le_self v b
    have hs := hex_size hlt
    have e1 : IntKind.u64.wrap (((v % b : Nat) : Int) + 1) = ((v % b : Nat) : Int) + 1 := wu64 (by omega)
    have e2 : IntKind.u64.wrap ((v / b : Nat) : Int) = ((v / b : Nat) : Int) := wu64 ⟨Int.natCast_nonneg _, by have h_ := Nat.le_trans hle (show v ≤ 18446744073709551615 by omega); exact Int.ofNat_le.2 h_⟩
    have t1 : (((v % b : Nat) : Int)).toNat = v % b := by omega
    have t2 : (((v % b : Nat) : Int) + 1).toNat = v % b + 1 := by omega
    simp only [num_based.l0]
    rw [if_pos trivial, if_neg (by omega), hm, hd, e1, e2, t1, t2, if_pos (by omega), if_pos (by omega), if_pos (by omega), if_pos (by omega)]
    by_cases c : v < b
    · have hz : v / b = 0 := Nat.div_eq_of_lt c
      obtain ⟨k, rfl⟩ : ∃ m, k = m + 1 := ⟨k - 1, by omega⟩
      rw [hz]
      simp only [num_based.l0]
      refine ⟨_, by rw [if_neg (by simp)], ?_, ?_⟩
      · rw [bts_append, hex_one' hlt, digs_lt c, Nat.mod_eq_of_lt c]
      · rw [bts_size, bts_append, hex_one' hlt, List.length_append, bytesOf_length]; simp; omega
    · have hpos : 0 < v / b := Nat.div_pos (by omega) (by omega)
      have hhalf : v / b < 2 ^ f := by
        rw [Nat.pow_succ] at hv
        have : v / b ≤ v / 2 := Nat.div_le_div_left hb2.1 (by omega)
        omega
      have hdec : decide (((v / b : Nat) : Int) > 0) = true := decide_eq_true (by omega)
      rw [hdec]
      have hsz : ((⟨#[48, 49, 50, 51, 52, 53, 54, 55, 56, 57, 97, 98, 99, 100, 101, 102]⟩ : ByteArray).extract (v % b) (v % b + 1) ++ acc).size = 1 + acc.size := by
        rw [bts_size, bts_append, hex_one' hlt, List.length_append, bytesOf_length]; simp
      obtain ⟨t, h1, h2, h3⟩ := ih (v / b) k ((⟨#[48, 49, 50, 51, 52, 53, 54, 55, 56, 57, 97, 98, 99, 100, 101, 102]⟩ : ByteArray).extract (v % b) (v % b + 1) ++ acc) hhalf (by omega) (by omega) (by omega)
      refine ⟨t, h1, ?_, by rw [hsz] at h3; clear hd e2 hpos hhalf hdec h1 h2 hle; omega⟩
      rw [h2, bts_append, hex_one' hlt, digs_ge (v := v) (by omega) hb2.1, List.append_assoc]
theorem based_f {b : Nat} (hb : b = 10 ∨ b = 16) (v : Nat) (hv : v < 18446744073709551616) {k : Nat} (hk : 67 ≤ k) : ∃ t, num_based.f k (v : Int) (b : Int) = some t ∧ bytesOf t = digs b v ∧ t.size ≤ 65 := by
  obtain ⟨t, h1, h2, h3⟩ := based_eq hb 64 v k ⟨#[]⟩ (by omega) hv hk (by decide)
  exact ⟨t, h1, by rw [h2]; simp [bytesOf], by rw [show ByteArray.size (⟨#[]⟩ : ByteArray) = 0 from rfl] at h3; omega⟩
theorem dv_snoc : ∀ (l : List Int) (v c : Int), dv v (l ++ [c]) = 10 * dv v l + (c - 48)
  | [], v, c => rfl
  | x :: l, v, c => dv_snoc l (10 * v + (x - 48)) c
theorem allD_append (a b : List Int) : allD (a ++ b) = (allD a && allD b) := by simp [allD]
theorem digs10_all (v : Nat) : allD (digs 10 v) = true ∧ dv 0 (digs 10 v) = v := by
  induction v using Nat.strongRecOn with
  | _ v ih =>
    by_cases c : v < 10
    · rw [digs_lt c]
      have e : dig (v : Int) = 48 + v := by unfold dig; rw [if_pos (by omega)]
      refine ⟨by simp [allD, isD, e]; omega, by rw [e]; show 10 * 0 + (48 + (v : Int) - 48) = v; omega⟩
    · rw [digs_ge (v := v) (by omega) (by omega)]
      obtain ⟨h1, h2⟩ := ih (v / 10) (Nat.div_lt_self (by omega) (by omega))
      have e : dig ((v % 10 : Nat) : Int) = 48 + ((v % 10 : Nat) : Int) := by unfold dig; rw [if_pos (by omega)]
      refine ⟨by rw [allD_append, h1, Bool.true_and]; show (isD _ && true) = true; rw [e, Bool.and_true]; exact isD_iff.2 (by omega), ?_⟩
      rw [dv_snoc, h2, e]; omega
theorem rd_append_zero {a : List Int} (h : a ≠ []) (b : List Int) : rd (a ++ b) 0 = rd a 0 := by
  cases a with
  | nil => exact absurd rfl h
  | cons x a => rfl
theorem digs_head {b : Nat} (hb : b = 10 ∨ b = 16) (v : Nat) (hv : 0 < v) : rd (digs b v) 0 ≠ 48 ∧ rd (digs b v) 0 ≠ 45 := by
  induction v using Nat.strongRecOn with
  | _ v ih =>
    by_cases c : v < b
    · rw [digs_lt c, rd_cons_zero]
      unfold dig
      split <;> omega
    · rw [digs_ge (v := v) (by omega) (by omega), rd_append_zero (digs_ne _ _)]
      exact ih (v / b) (Nat.div_lt_self (by omega) (by omega)) (Nat.div_pos (by omega) (by omega))
theorem digs_head0 {b : Nat} (hb : b = 10 ∨ b = 16) (v : Nat) : rd (digs b v) 0 ≠ 45 := by
  by_cases h : 0 < v
  · exact (digs_head hb v h).2
  · obtain rfl : v = 0 := by omega
    rw [digs_lt (by omega)]
    show dig ((0 : Nat) : Int) ≠ 45
    decide
theorem bad_digs (v : Nat) : badD (digs 10 v) = false := by
  unfold badD
  have hne : (digs 10 v).isEmpty = false := by cases h : digs 10 v with | nil => exact absurd h (digs_ne 10 v) | cons => rfl
  rw [hne, (digs10_all v).1]
  simp only [Bool.not_true, Bool.false_or, Bool.and_eq_false_iff, decide_eq_false_iff_not, beq_eq_false_iff_ne]
  by_cases c : v < 10
  · left; rw [digs_lt c]; simp
  · right; exact (digs_head (Or.inl rfl) v (by omega)).1
/-- A number as text. -/
def printN (n : Int) : List Int := if n < 0 then 45 :: digs 10 (-n).toNat else digs 10 n.toNat
theorem Print_eq {n : Int} (h : -9223372036854775808 ≤ n ∧ n ≤ 9223372036854775807) {k : Nat} (hk : 67 ≤ k) : ∃ t, num_Print.f k n = some t ∧ bytesOf t = printN n ∧ t.size ≤ 66 := by
  unfold num_Print.f printN
  by_cases c : n < 0
  · rw [if_pos c, if_pos c]
    have e : IntKind.u64.wrap (-(IntKind.u64.wrap n)) = ((-n).toNat : Int) := by rw [u64w, u64w]; omega
    obtain ⟨t, h1, h2, h3⟩ := based_f (b := 10) (Or.inl rfl) (-n).toNat (by omega) hk
    rw [e, show (10 : Int) = ((10 : Nat) : Int) from rfl, h1]
    simp only [Option.bind_some]
    rw [if_pos (by omega)]
    exact ⟨_, rfl, by rw [bts_append, h2]; rfl, by rw [bts_size, bts_append, List.length_append, bytesOf_length t]; simp [bytesOf]; omega⟩
  · rw [if_neg c, if_neg c]
    have e : IntKind.u64.wrap n = (n.toNat : Int) := by rw [u64w]; omega
    obtain ⟨t, h1, h2, h3⟩ := based_f (b := 10) (Or.inl rfl) n.toNat (by omega) hk
    rw [e, show (10 : Int) = ((10 : Nat) : Int) from rfl, h1]
    exact ⟨t, rfl, h2, by omega⟩
theorem parse_print {n : Int} (h : -9223372036854775808 ≤ n ∧ n ≤ 9223372036854775807) : parseN (printN n) = (n, 0) := by
  unfold parseN printN
  by_cases c : n < 0
  · rw [if_pos c, if_pos ⟨by simp, rfl⟩]
    simp only [List.drop_succ_cons, List.drop_zero]
    unfold parseD
    rw [bad_digs, if_neg (by simp), (digs10_all _).2, if_neg (by simp only [maxP]; omega), if_pos rfl]
    congr 1; omega
  · rw [if_neg c, if_neg (fun h => digs_head0 (Or.inl rfl) _ h.2)]
    unfold parseD
    rw [bad_digs, if_neg (by simp), (digs10_all _).2, if_neg (by simp only [maxP]; omega), if_neg (by simp)]
    congr 1; omega
-- digits by sixteen
def hexV (c : Int) : Int := if 48 ≤ c ∧ c ≤ 57 then c - 48 else if 97 ≤ c ∧ c ≤ 102 then c - 87 else if 65 ≤ c ∧ c ≤ 70 then c - 55 else -1
theorem hex_all : ∀ c : Fin 256, num_hex.f 3 (c.val : Int) = some (hexV (c.val : Int)) := by decide +kernel
theorem hex_eq {c : Int} (h : 0 ≤ c ∧ c ≤ 255) {k : Nat} (hk : 3 ≤ k) : num_hex.f k c = some (hexV c) := by
  have := hex_all ⟨c.toNat, by omega⟩
  simp only [Int.toNat_of_nonneg h.1] at this
  exact at_rounds (g := fun k => num_hex.f k c) (fun k => num_hex.mono c k) hk this
def allH (l : List Int) : Bool := l.all fun c => decide (0 ≤ hexV c)
def hx (v : Int) : List Int → Int
  | [] => v
  | c :: l => hx (16 * v + hexV c) l
theorem hexV_bd (c : Int) : -1 ≤ hexV c ∧ hexV c ≤ 15 := by unfold hexV; repeat' split <;> omega
theorem hx_ge : ∀ (l : List Int) (v : Int), allH l = true → 0 ≤ v → v ≤ hx v l
  | [], v, _, _ => Int.le_refl v
  | c :: l, v, h, hv => by
    simp only [allH, List.all_cons, Bool.and_eq_true, decide_eq_true_eq] at h
    have := hx_ge l (16 * v + hexV c) h.2 (by omega)
    show v ≤ hx (16 * v + hexV c) l
    omega
def hexR (e lg : Bool) (v : Int) (l : List Int) : Int × Int := if allH l = false then (0, 3) else if e = true then (0, 3) else if lg = true ∨ hx v l > 2147483647 then (0, 5) else (hx v l, 0)
theorem Hex_l0 (s : ByteArray) (hs : s.size ≤ 140737488351232) (d : Nat) : ∀ (i k : Nat) (v : Int) (lg : Bool), i + d = s.size → d + 3 < k → 0 ≤ v → v ≤ 2147483647 →
    num_Hex.l0 k s v lg (s.size : Int) (i : Int) = some (hexR (bytesOf s).isEmpty lg v ((bytesOf s).drop i)) := by
  have he : s.toList = ([] : List UInt8) ↔ (bytesOf s).isEmpty = true := by rw [tl_nil, List.isEmpty_iff]
  induction d with
  | zero =>
    intro i k v lg hi hk h0 h1
    obtain ⟨k, rfl⟩ : ∃ m, k = m + 1 := ⟨k - 1, by omega⟩
    simp only [num_Hex.l0]
    rw [if_neg (by omega), List.drop_of_length_le (by rw [bytesOf_length]; omega)]
    by_cases c : s.toList = ([] : List UInt8)
    · rw [if_pos c]
      unfold hexR
      rw [he.1 c]
      simp [allH]
    · have c' : (bytesOf s).isEmpty = false := by cases h : (bytesOf s).isEmpty with | true => exact absurd (he.2 h) c | false => rfl
      rw [if_neg c]
      unfold hexR
      rw [c']
      cases lg with
      | true => simp [allH]
      | false => simp [hx, allH]; omega
  | succ d ih =>
    intro i k v lg hi hk h0 h1
    obtain ⟨k, rfl⟩ : ∃ m, k = m + 1 := ⟨k - 1, by omega⟩
    have hv := hexV_bd (rd (bytesOf s) (i : Int))
    simp only [num_Hex.l0]
    rw [if_pos (by omega), if_pos (by omega), if_pos (by omega), bt_rd, hex_eq ((bts_byt s).rd _) (by omega), drop_rd (by rw [bytesOf_length]; omega), w64 (x := (i : Int) + 1) (by omega), show ((i : Int) + 1) = ((i + 1 : Nat) : Int) by omega]
    simp only [Option.bind_some]
    by_cases c : hexV (rd (bytesOf s) (i : Int)) < 0
    · rw [if_pos c]
      unfold hexR
      rw [if_pos (by simp only [allH, List.all_cons, Bool.and_eq_false_iff, decide_eq_false_iff_not]; left; omega)]
    rw [if_neg c]
    have key : ∀ (lg' : Bool) (v' : Int), (allH ((bytesOf s).drop (i + 1)) = true → (lg' = true ∨ hx v' ((bytesOf s).drop (i + 1)) > 2147483647) = (lg = true ∨ hx (16 * v + hexV (rd (bytesOf s) (i : Int))) ((bytesOf s).drop (i + 1)) > 2147483647)) →
        (allH ((bytesOf s).drop (i + 1)) = true → ¬ (lg' = true ∨ hx v' ((bytesOf s).drop (i + 1)) > 2147483647) → hx v' ((bytesOf s).drop (i + 1)) = hx (16 * v + hexV (rd (bytesOf s) (i : Int))) ((bytesOf s).drop (i + 1))) →
        hexR (bytesOf s).isEmpty lg' v' ((bytesOf s).drop (i + 1)) = hexR (bytesOf s).isEmpty lg v (rd (bytesOf s) (i : Int) :: (bytesOf s).drop (i + 1)) := by
      intro lg' v' e1 e2
      unfold hexR
      have ea : allH (rd (bytesOf s) (i : Int) :: (bytesOf s).drop (i + 1)) = allH ((bytesOf s).drop (i + 1)) := by
        simp only [allH, List.all_cons]; rw [decide_eq_true (by omega), Bool.true_and]
      rw [ea]
      cases ha : allH ((bytesOf s).drop (i + 1)) with
      | false => rfl
      | true =>
        simp only [Bool.true_eq_false, if_false]
        cases (bytesOf s).isEmpty with
        | true => rfl
        | false =>
          simp only [Bool.false_eq_true, if_false]
          show (if (lg' = true ∨ hx v' ((bytesOf s).drop (i + 1)) > 2147483647) then _ else _) = (if (lg = true ∨ hx (16 * v + hexV (rd (bytesOf s) (i : Int))) ((bytesOf s).drop (i + 1)) > 2147483647) then _ else (hx (16 * v + hexV (rd (bytesOf s) (i : Int))) ((bytesOf s).drop (i + 1)), 0))
          by_cases c1 : (lg' = true ∨ hx v' ((bytesOf s).drop (i + 1)) > 2147483647)
          · rw [if_pos c1, if_pos (by rw [← e1 ha]; exact c1)]
          · rw [if_neg c1, if_neg (by rw [← e1 ha]; exact c1), e2 ha c1]
    cases lg with
    | true =>
      rw [if_pos rfl, ih (i + 1) k v true (by omega) (by omega) h0 h1]
      congr 1
      exact key true v (fun _ => by simp) (fun _ h => absurd (Or.inl rfl) h)
    | false =>
      rw [if_neg (by simp), w64 (x := 2147483647 - hexV (rd (bytesOf s) (i : Int))) (by omega), Int.tdiv_eq_ediv_of_nonneg (by omega), w64 (x := (2147483647 - hexV (rd (bytesOf s) (i : Int))) / 16) (by omega)]
      by_cases c1 : v > (2147483647 - hexV (rd (bytesOf s) (i : Int))) / 16
      · rw [if_pos c1, decide_eq_true c1, ih (i + 1) k v true (by omega) (by omega) h0 h1]
        congr 1
        exact key true v (fun ha => by
          have := hx_ge ((bytesOf s).drop (i + 1)) (16 * v + hexV (rd (bytesOf s) (i : Int))) ha (by omega)
          simp; omega) (fun _ h => absurd (Or.inl rfl) h)
      · rw [if_neg c1, decide_eq_false c1, w64 (x := v * 16) (by omega), w64 (by omega), ih (i + 1) k _ false (by omega) (by omega) (by omega) (by omega)]
        congr 1
        rw [show v * 16 + hexV (rd (bytesOf s) (i : Int)) = 16 * v + hexV (rd (bytesOf s) (i : Int)) by omega]
        exact key false _ (fun _ => rfl) (fun _ _ => rfl)
/-- Which number digits by sixteen are. -/
def parseH (l : List Int) : Int × Int := if allH l = false ∨ l = [] then (0, 3) else if hx 0 l > 2147483647 then (0, 5) else (hx 0 l, 0)
theorem Hex_eq (s : ByteArray) (hs : s.size ≤ 140737488351232) {k : Nat} (hk : s.size + 3 < k) : num_Hex.f k s = some (parseH (bytesOf s)) := by
  unfold num_Hex.f
  have := Hex_l0 s hs s.size 0 k 0 false (by omega) hk (by omega) (by omega)
  rw [show ((0 : Nat) : Int) = 0 from rfl] at this
  rw [this, List.drop_zero]
  congr 1
  unfold hexR parseH
  cases h : bytesOf s with
  | nil => simp
  | cons a l =>
    cases ha : allH (a :: l) with
    | false => simp
    | true => simp
theorem awake60 : larumlaw03_awake.f 60 = some true := by decide +kernel
theorem i64_bd {a : Int} (h : (Lit.int .i64 a).wf = true) : -9223372036854775808 ≤ a ∧ a ≤ 9223372036854775807 := by
  simpa [Lit.wf, IntKind.min, IntKind.max, IntKind.bits, IntKind.signed] using h
theorem hx_snoc : ∀ (l : List Int) (v c : Int), hx v (l ++ [c]) = 16 * hx v l + hexV c
  | [], v, c => rfl
  | x :: l, v, c => hx_snoc l (16 * v + hexV x) c
theorem hexV_dig : ∀ d : Fin 16, hexV (dig (d.val : Int)) = d.val := by decide +kernel
theorem hexV_dig' {d : Nat} (h : d < 16) : hexV (dig (d : Int)) = d := hexV_dig ⟨d, h⟩
theorem digs16_all (v : Nat) : allH (digs 16 v) = true ∧ hx 0 (digs 16 v) = v := by
  induction v using Nat.strongRecOn with
  | _ v ih =>
    by_cases c : v < 16
    · rw [digs_lt c]
      have e := hexV_dig' c
      refine ⟨?_, ?_⟩
      · show (decide (0 ≤ hexV (dig (v : Int))) && true) = true
        rw [e]; simp
      · show 16 * 0 + hexV (dig (v : Int)) = v
        rw [e]; omega
    · rw [digs_ge (v := v) (by omega) (by omega)]
      obtain ⟨h1, h2⟩ := ih (v / 16) (Nat.div_lt_self (by omega) (by omega))
      have e := hexV_dig' (d := v % 16) (Nat.mod_lt _ (by omega))
      refine ⟨?_, ?_⟩
      · unfold allH at h1 ⊢
        rw [List.all_append, h1]
        show (true && (decide (0 ≤ hexV (dig ((v % 16 : Nat) : Int))) && true)) = true
        rw [e]; simp; omega
      · rw [hx_snoc, h2, e]; omega
theorem RPutHex_pos (f : Nat) : ∀ (v k : Nat), v < 2 ^ f → f ≤ 100 → v < 9223372036854775808 → f + 2 ≤ k → ∃ t, larumref03_PutHex.f k (v : Int) = some t ∧ bytesOf t = digs 16 v ∧ t.size ≤ f + 1 := by
  have base : ∀ (v k : Nat), v < 16 → 1 ≤ k → ∃ t, larumref03_PutHex.f k (v : Int) = some t ∧ bytesOf t = digs 16 v ∧ t.size ≤ 1 := by
    intro v k hv hk
    obtain ⟨k, rfl⟩ : ∃ m, k = m + 1 := ⟨k - 1, by omega⟩
    have hm : Int.tmod (v : Int) 16 = ((v : Nat) : Int) := by rw [Int.tmod_eq_emod_of_nonneg (by omega)]; omega
    simp only [larumref03_PutHex.f]
    rw [if_neg (by omega), hm, w64 (by omega), if_pos (by omega), if_pos (by omega), if_pos (by omega), if_pos (by omega), show ((v : Int) + 1).toNat = v + 1 by omega, Int.toNat_natCast]
    exact ⟨_, rfl, by rw [hex_one' hv, digs_lt hv], by rw [hex_size hv]; omega⟩
  induction f with
  | zero =>
    intro v k hv _ _ hk
    obtain ⟨t, h1, h2, h3⟩ := base v k (by simp at hv; omega) (by omega)
    exact ⟨t, h1, h2, by omega⟩
  | succ f ih =>
    intro v k hv hf hv' hk
    by_cases c : v < 16
    · obtain ⟨t, h1, h2, h3⟩ := base v k c (by omega)
      exact ⟨t, h1, h2, by omega⟩
    obtain ⟨k, rfl⟩ : ∃ m, k = m + 1 := ⟨k - 1, by omega⟩
    rw [Nat.pow_succ] at hv
    have hd : Int.tdiv (v : Int) 16 = ((v / 16 : Nat) : Int) := by rw [Int.tdiv_eq_ediv_of_nonneg (by omega)]; omega
    have hm : Int.tmod (v : Int) 16 = ((v % 16 : Nat) : Int) := by rw [Int.tmod_eq_emod_of_nonneg (by omega)]; omega
    have hlt : v % 16 < 16 := Nat.mod_lt _ (by omega)
    obtain ⟨t, h1, h2, h3⟩ := ih (v / 16) k (by omega) (by omega) (by omega) (by omega)
    simp only [larumref03_PutHex.f]
    rw [if_neg (by omega), hm, w64 (x := ((v % 16 : Nat) : Int) + 1) (by omega), if_pos (by omega), if_pos (by omega), if_pos (by omega), if_neg (by omega), show (((v % 16 : Nat) : Int) + 1).toNat = v % 16 + 1 by omega, Int.toNat_natCast, hd, w64 (by omega), h1]
    simp only [Option.bind_some]
    rw [hex_size hlt, if_pos (by omega)]
    exact ⟨_, rfl, by rw [bts_append, h2, hex_one' hlt, digs_ge (v := v) (by omega) (by omega)], by rw [bts_size, bts_append, List.length_append, hex_one' hlt, bytesOf_length]; simp; omega⟩
theorem NumHex : larumlaw03_NumHex.Pure := by
  intro n w
  have hb := i64_bd w
  have aw := at_rounds (g := fun k => larumlaw03_awake.f k) (fun k => larumlaw03_awake.mono k) (show 60 ≤ 300 by decide) awake60
  refine ⟨300, ?_⟩
  unfold larumlaw03_NumHex.f num_PutHex.f
  by_cases c : n < 0
  · rw [if_pos c]
    simp only [Option.bind_some]
    have hr : ∀ k, larumref03_PutHex.f (k + 1) n = some ⟨#[]⟩ := fun k => by simp only [larumref03_PutHex.f]; rw [if_pos c]
    rw [Hex_eq _ (by decide) (by decide), hr 299, aw]
    simp [c, parseH, bytesOf]
  · rw [if_neg c]
    obtain ⟨t, h1, h2, h3⟩ := based_f (b := 16) (Or.inr rfl) n.toNat (by omega) (k := 300) (by omega)
    obtain ⟨u, g1, g2, _⟩ := RPutHex_pos 63 n.toNat 300 (by omega) (by omega) (by omega) (by omega)
    rw [show ((n.toNat : Nat) : Int) = n by omega] at g1
    have e : IntKind.u64.wrap n = (n.toNat : Int) := by rw [u64w]; omega
    rw [show (16 : Int) = ((16 : Nat) : Int) from rfl, e, h1, g1]
    simp only [Option.bind_some]
    rw [Hex_eq t (by omega) (by omega), aw]
    simp only [Option.bind_some]
    rw [if_pos ((tl_iff t u).2 (by rw [h2, g2])), if_neg c, h2]
    obtain ⟨d1, d2⟩ := digs16_all n.toNat
    by_cases c2 : n > 2147483647
    · have hp : parseH (digs 16 n.toNat) = (0, 5) := by
        unfold parseH
        rw [d1, d2, if_neg (by simp [digs_ne]), if_pos (by omega)]
      rw [hp, if_pos c2, if_pos rfl]
    · have hp : parseH (digs 16 n.toNat) = (n, 0) := by
        unfold parseH
        rw [d1, d2, if_neg (by simp [digs_ne]), if_neg (by omega)]
        congr 1; omega
      rw [hp, if_neg c2, if_pos rfl, if_pos rfl]
end Go.Proofs.Ytdkdefbaekcahaa.Pure
