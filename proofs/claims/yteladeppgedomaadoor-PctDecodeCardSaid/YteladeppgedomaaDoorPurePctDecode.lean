/- Bytes of a text with signs by sixteen, or that one is wrong, are as the chapter says: for any text. No condition. -/
import Derived.Test.YteladeppgedomaaDoorPPctDecodex4
namespace Go.Proofs.YteladeppgedomaaDoor.Pure
open Go Go.RowKit Go.Proofs.YteladeppgedomaaDoor.PPctDecode Go.Proofs.YteladeppgedomaaDoor.Gp Go.Proofs.YteladeppgedomaaDoorW Go.Proofs.YteladeppgedomaaDoorW.PrintWords Go.Proofs.YteladeppgedomaaDoorW.PrintLast Go.Proofs.YteladeppgedomaaDoorW.PrintMore
set_option linter.unusedVariables false
set_option linter.unusedSimpArgs false
-- strings as lists of numbers
def Byt (l : List Int) : Prop := ∀ x ∈ l, 0 ≤ x ∧ x ≤ 255
theorem Byt.rd {l : List Int} (h : Byt l) (i : Int) : 0 ≤ PrintWords.rd l i ∧ PrintWords.rd l i ≤ 255 := by
  unfold PrintWords.rd
  rw [List.getD_eq_getElem?_getD]
  by_cases hi : i.toNat < l.length
  · rw [List.getElem?_eq_getElem hi]; exact h _ (List.getElem_mem hi)
  · rw [List.getElem?_eq_none (by omega)]; decide
theorem Byt.take {l : List Int} (h : Byt l) (n : Nat) : Byt (l.take n) := fun x hx => h x (List.mem_of_mem_take hx)
theorem Byt.drop {l : List Int} (h : Byt l) (n : Nat) : Byt (l.drop n) := fun x hx => h x (List.mem_of_mem_drop hx)
theorem w64 {x : Int} (h : -9223372036854775808 ≤ x ∧ x ≤ 9223372036854775807) : wrap64 x = x := by unfold wrap64; omega
theorem u64w (x : Int) : IntKind.u64.wrap x = x % 18446744073709551616 := by simp [IntKind.wrap, IntKind.bits, IntKind.signed]
theorem wu64 {x : Int} (h : 0 ≤ x ∧ x ≤ 18446744073709551615) : IntKind.u64.wrap x = x := by rw [u64w]; omega
theorem bts_byt (s : ByteArray) : Byt (bytesOf s) := by
  intro x hx
  simp only [bytesOf, List.mem_map] at hx
  obtain ⟨b, _, rfl⟩ := hx
  have := b.toNat_lt
  omega
theorem bts_len (s : ByteArray) : ((bytesOf s).length : Int) = (s.size : Int) := by rw [bytesOf_length]
theorem bt_rd (s : ByteArray) (i : Int) : bt s i = rd (bytesOf s) i := (rd_bytesOf s i).symm
theorem tl (s : ByteArray) : s.toList = s.data.toList := ByteArray.toList_eq s
theorem u8_map_inj : ∀ {a b : List UInt8}, a.map (fun x => (x.toNat : Int)) = b.map (fun x => (x.toNat : Int)) → a = b
  | [], [], _ => rfl
  | [], _ :: _, h => by simp at h
  | _ :: _, [], h => by simp at h
  | x :: a, y :: b, h => by
    simp only [List.map_cons, List.cons.injEq] at h
    rw [u8_map_inj h.2, UInt8.toNat_inj.1 (by omega : x.toNat = y.toNat)]
theorem tl_iff (s t : ByteArray) : s.toList = t.toList ↔ bytesOf s = bytesOf t := by
  rw [tl, tl]
  exact ⟨fun h => by unfold bytesOf; rw [h], fun h => u8_map_inj h⟩
theorem tl_nil (s : ByteArray) : s.toList = ([] : List UInt8) ↔ bytesOf s = [] := by
  rw [tl]
  unfold bytesOf
  rw [List.map_eq_nil_iff]
theorem bts_extract (s : ByteArray) (a b : Nat) : bytesOf (s.extract a b) = ((bytesOf s).take b).drop a := by
  unfold bytesOf
  rw [List.drop_take, ← List.map_drop, ← List.map_take]
  congr 1
  simp [List.drop_take]
theorem bts_extract_to (s : ByteArray) (a : Nat) : bytesOf (s.extract a s.size) = (bytesOf s).drop a := by
  rw [bts_extract, List.take_of_length_le (by rw [bytesOf_length]; omega)]
theorem bts_append (s t : ByteArray) : bytesOf (s ++ t) = bytesOf s ++ bytesOf t := by
  unfold bytesOf
  rw [← List.map_append]
  congr 1
theorem bts_size (s : ByteArray) : s.size = (bytesOf s).length := (bytesOf_length s).symm
theorem drop_rd {l : List Int} {i : Nat} (h : i < l.length) : l.drop i = rd l (i : Int) :: l.drop (i + 1) := by
  rw [List.drop_eq_getElem_cons h]
  unfold rd
  simp [List.getD_eq_getElem?_getD, List.getElem?_eq_getElem h]
theorem rd_cons_zero (a : Int) (l : List Int) : rd (a :: l) 0 = a := rfl
-- a string made of numbers
theorem bts_son {xs : List Int} (h : Byt xs) : bytesOf (strOfNums xs) = xs := by
  unfold bytesOf
  rw [strOfNums_data, List.map_map]
  conv => rhs; rw [← List.map_id xs]
  apply List.map_congr_left
  intro x hx
  have := h x hx
  simp only [Function.comp, id]
  have e : (UInt8.ofNat x.toNat).toNat = x.toNat := by
    rw [UInt8.toNat_ofNat']
    omega
  rw [e]; omega
theorem bts_tl_iff {s t : ByteArray} : s.toList = t.toList ↔ bytesOf s = bytesOf t := tl_iff s t
theorem ext_bts {s t : ByteArray} (h : bytesOf s = bytesOf t) : s = t := by
  have := (tl_iff s t).2 h
  rw [tl, tl] at this
  cases s with | mk a => cases t with | mk b => simp at this; rw [this]
-- digits by sixteen
def hexV (c : Int) : Int := if 48 ≤ c ∧ c ≤ 57 then c - 48 else if 97 ≤ c ∧ c ≤ 102 then c - 87 else if 65 ≤ c ∧ c ≤ 70 then c - 55 else -1
theorem hex_all : ∀ c : Fin 256, num_hex.f 3 (c.val : Int) = some (hexV (c.val : Int)) := by decide +kernel
theorem hex_eq {c : Int} (h : 0 ≤ c ∧ c ≤ 255) {k : Nat} (hk : 3 ≤ k) : num_hex.f k c = some (hexV c) := by
  have := hex_all ⟨c.toNat, by omega⟩
  simp only [Int.toNat_of_nonneg h.1] at this
  exact at_rounds (g := fun k => num_hex.f k c) (fun k => num_hex.mono c k) hk this
def allH (l : List Int) : Bool := l.all fun c => decide (0 ≤ hexV c)
def hx (v : Int) : List Int → Int
  | [] => v
  | c :: l => hx (16 * v + hexV c) l
theorem hexV_bd (c : Int) : -1 ≤ hexV c ∧ hexV c ≤ 15 := by unfold hexV; repeat' split <;> omega
theorem hx_ge : ∀ (l : List Int) (v : Int), allH l = true → 0 ≤ v → v ≤ hx v l
  | [], v, _, _ => Int.le_refl v
  | c :: l, v, h, hv => by
    simp only [allH, List.all_cons, Bool.and_eq_true, decide_eq_true_eq] at h
    have := hx_ge l (16 * v + hexV c) h.2 (by omega)
    show v ≤ hx (16 * v + hexV c) l
    omega
def hexR (e lg : Bool) (v : Int) (l : List Int) : Int × Int := if allH l = false then (0, 3) else if e = true then (0, 3) else if lg = true ∨ hx v l > 2147483647 then (0, 5) else (hx v l, 0)
theorem Hex_l0 (s : ByteArray) (hs : s.size ≤ 140737488351232) (d : Nat) : ∀ (i k : Nat) (v : Int) (lg : Bool), i + d = s.size → d + 3 < k → 0 ≤ v → v ≤ 2147483647 →
    num_Hex.l0 k s v lg (s.size : Int) (i : Int) = some (hexR (bytesOf s).isEmpty lg v ((bytesOf s).drop i)) := by
  have he : s.toList = ([] : List UInt8) ↔ (bytesOf s).isEmpty = true := by rw [tl_nil, List.isEmpty_iff]
  induction d with
  | zero =>
    intro i k v lg hi hk h0 h1
    obtain ⟨k, rfl⟩ : ∃ m, k = m + 1 := ⟨k - 1, by omega⟩
    simp only [num_Hex.l0]
    rw [if_neg (by omega), List.drop_of_length_le (by rw [bytesOf_length]; omega)]
    by_cases c : s.toList = ([] : List UInt8)
    · rw [if_pos c]
      unfold hexR
      rw [he.1 c]
      simp [allH]
    · have c' : (bytesOf s).isEmpty = false := by cases h : (bytesOf s).isEmpty with | true => exact absurd (he.2 h) c | false => rfl
      rw [if_neg c]
      unfold hexR
      rw [c']
      cases lg with
      | true => simp [allH]
      | false => simp [hx, allH]; omega
  | succ d ih =>
    intro i k v lg hi hk h0 h1
    obtain ⟨k, rfl⟩ : ∃ m, k = m + 1 := ⟨k - 1, by omega⟩
    have hv := hexV_bd (rd (bytesOf s) (i : Int))
    simp only [num_Hex.l0]
    rw [if_pos (by omega), if_pos (by omega), if_pos (by omega), bt_rd, hex_eq ((bts_byt s).rd _) (by omega), drop_rd (by rw [bytesOf_length]; omega), w64 (x := (i : Int) + 1) (by omega), show ((i : Int) + 1) = ((i + 1 : Nat) : Int) by omega]
    simp only [Option.bind_some]
    by_cases c : hexV (rd (bytesOf s) (i : Int)) < 0
    · rw [if_pos c]
      unfold hexR
      rw [if_pos (by simp only [allH, List.all_cons, Bool.and_eq_false_iff, decide_eq_false_iff_not]; left; omega)]
    rw [if_neg c]
    have key : ∀ (lg' : Bool) (v' : Int), (allH ((bytesOf s).drop (i + 1)) = true → (lg' = true ∨ hx v' ((bytesOf s).drop (i + 1)) > 2147483647) = (lg = true ∨ hx (16 * v + hexV (rd (bytesOf s) (i : Int))) ((bytesOf s).drop (i + 1)) > 2147483647)) →
        (allH ((bytesOf s).drop (i + 1)) = true → ¬ (lg' = true ∨ hx v' ((bytesOf s).drop (i + 1)) > 2147483647) → hx v' ((bytesOf s).drop (i + 1)) = hx (16 * v + hexV (rd (bytesOf s) (i : Int))) ((bytesOf s).drop (i + 1))) →
        hexR (bytesOf s).isEmpty lg' v' ((bytesOf s).drop (i + 1)) = hexR (bytesOf s).isEmpty lg v (rd (bytesOf s) (i : Int) :: (bytesOf s).drop (i + 1)) := by
      intro lg' v' e1 e2
      unfold hexR
      have ea : allH (rd (bytesOf s) (i : Int) :: (bytesOf s).drop (i + 1)) = allH ((bytesOf s).drop (i + 1)) := by
        simp only [allH, List.all_cons]; rw [decide_eq_true (by omega), Bool.true_and]
      rw [ea]
      cases ha : allH ((bytesOf s).drop (i + 1)) with
      | false => rfl
      | true =>
        simp only [Bool.true_eq_false, if_false]
        cases (bytesOf s).isEmpty with
        | true => rfl
        | false =>
          simp only [Bool.false_eq_true, if_false]
          show (if (lg' = true ∨ hx v' ((bytesOf s).drop (i + 1)) > 2147483647) then _ else _) = (if (lg = true ∨ hx (16 * v + hexV (rd (bytesOf s) (i : Int))) ((bytesOf s).drop (i + 1)) > 2147483647) then _ else (hx (16 * v + hexV (rd (bytesOf s) (i : Int))) ((bytesOf s).drop (i + 1)), 0))
          by_cases c1 : (lg' = true ∨ hx v' ((bytesOf s).drop (i + 1)) > 2147483647)
          · rw [if_pos c1, if_pos (by rw [← e1 ha]; exact c1)]
          · rw [if_neg c1, if_neg (by rw [← e1 ha]; exact c1), e2 ha c1]
    cases lg with
    | true =>
      rw [if_pos rfl, ih (i + 1) k v true (by omega) (by omega) h0 h1]
      congr 1
      exact key true v (fun _ => by simp) (fun _ h => absurd (Or.inl rfl) h)
    | false =>
      rw [if_neg (by simp), w64 (x := 2147483647 - hexV (rd (bytesOf s) (i : Int))) (by omega), Int.tdiv_eq_ediv_of_nonneg (by omega), w64 (x := (2147483647 - hexV (rd (bytesOf s) (i : Int))) / 16) (by omega)]
      by_cases c1 : v > (2147483647 - hexV (rd (bytesOf s) (i : Int))) / 16
      · rw [if_pos c1, decide_eq_true c1, ih (i + 1) k v true (by omega) (by omega) h0 h1]
        congr 1
        exact key true v (fun ha => by
          have := hx_ge ((bytesOf s).drop (i + 1)) (16 * v + hexV (rd (bytesOf s) (i : Int))) ha (by omega)
          simp; omega) (fun _ h => absurd (Or.inl rfl) h)
      · rw [if_neg c1, decide_eq_false c1, w64 (x := v * 16) (by omega), w64 (by omega), ih (i + 1) k _ false (by omega) (by omega) (by omega) (by omega)]
        congr 1
        rw [show v * 16 + hexV (rd (bytesOf s) (i : Int)) = 16 * v + hexV (rd (bytesOf s) (i : Int)) by omega]
        exact key false _ (fun _ => rfl) (fun _ _ => rfl)
/-- Which number digits by sixteen are. -/
def parseH (l : List Int) : Int × Int := if allH l = false ∨ l = [] then (0, 3) else if hx 0 l > 2147483647 then (0, 5) else (hx 0 l, 0)
theorem Hex_eq (s : ByteArray) (hs : s.size ≤ 140737488351232) {k : Nat} (hk : s.size + 3 < k) : num_Hex.f k s = some (parseH (bytesOf s)) := by
  unfold num_Hex.f
  have := Hex_l0 s hs s.size 0 k 0 false (by omega) hk (by omega) (by omega)
  rw [show ((0 : Nat) : Int) = 0 from rfl] at this
  rw [this, List.drop_zero]
  congr 1
  unfold hexR parseH
  cases h : bytesOf s with
  | nil => simp
  | cons a l =>
    cases ha : allH (a :: l) with
    | false => simp
    | true => simp
-- sixteen, the document's
def stripL : List Int → List Int
  | [] => []
  | [c] => [c]
  | c :: d :: l => if c = 48 then stripL (d :: l) else c :: d :: l
theorem strip_eq (d : Nat) : ∀ (s : ByteArray) (k : Nat), s.size ≤ 140737488351232 → s.size = d → d < k → ∃ t, larumref03_strip.l0 k s = some t ∧ bytesOf t = stripL (bytesOf s) ∧ t.size ≤ s.size := by
  induction d with
  | zero =>
    intro s k hs hd hk
    obtain ⟨k, rfl⟩ : ∃ m, k = m + 1 := ⟨k - 1, by omega⟩
    have hn : bytesOf s = [] := List.eq_nil_of_length_eq_zero (by rw [bytesOf_length]; exact hd)
    refine ⟨s, ?_, by rw [hn]; rfl, Nat.le_refl _⟩
    simp only [larumref03_strip.l0]
    rw [if_neg (by omega)]
  | succ d ih =>
    intro s k hs hd hk
    obtain ⟨k, rfl⟩ : ∃ m, k = m + 1 := ⟨k - 1, by omega⟩
    have hl := bytesOf_length s
    simp only [larumref03_strip.l0]
    rcases hb : bytesOf s with _ | ⟨c, _ | ⟨e, l⟩⟩
    · rw [hb] at hl; simp at hl; omega
    · rw [hb] at hl
      simp at hl
      exact ⟨s, by rw [if_neg (by omega)], hb, Nat.le_refl _⟩
    · rw [hb] at hl
      simp at hl
      rw [if_pos (by omega), if_pos (by omega), bt_rd, hb, rd_cons_zero]
      by_cases hc : c = 48
      · rw [if_pos hc, if_pos (by omega)]
        obtain ⟨t, h1, h2, h3⟩ := ih (s.extract 1 s.size) k (by simp; omega) (by simp; omega) (by omega)
        refine ⟨t, h1, ?_, by simp at h3; omega⟩
        rw [h2, bts_extract_to, hb]
        simp only [List.drop_succ_cons, List.drop_zero]
        conv => rhs; unfold stripL
        rw [if_pos hc]
      · rw [if_neg hc]
        refine ⟨s, rfl, ?_, Nat.le_refl _⟩
        rw [hb]; unfold stripL; rw [if_neg hc]
theorem stripL_ne : ∀ l, l ≠ [] → stripL l ≠ []
  | [], h => absurd rfl h
  | [_], h => h
  | c :: d :: l, h => by
    unfold stripL
    split
    · exact stripL_ne (d :: l) (by simp)
    · simp
theorem stripL_head : ∀ l, 1 < (stripL l).length → rd (stripL l) 0 ≠ 48
  | [], h => by simp [stripL] at h
  | [_], h => by simp [stripL] at h
  | c :: d :: l, h => by
    unfold stripL at h ⊢
    split
    · rename_i hc
      rw [if_pos hc] at h
      exact stripL_head (d :: l) h
    · rename_i hc; exact hc
theorem hx_split : ∀ (l : List Int) (v : Int), hx v l = v * 16 ^ l.length + hx 0 l
  | [], v => by simp [hx]
  | c :: l, v => by
    show hx (16 * v + hexV c) l = v * 16 ^ (l.length + 1) + hx (16 * 0 + hexV c) l
    rw [hx_split l (16 * v + hexV c), hx_split l (16 * 0 + hexV c), Int.pow_succ]
    have e1 : (16 * v + hexV c) * 16 ^ l.length = v * (16 ^ l.length * 16) + hexV c * 16 ^ l.length := by
      rw [Int.add_mul]; congr 1
      rw [Int.mul_comm 16 v, Int.mul_assoc, Int.mul_comm 16 (16 ^ l.length)]
    have e2 : (16 * 0 + hexV c) * 16 ^ l.length = hexV c * 16 ^ l.length := by simp
    omega
theorem pow_pos16 (n : Nat) : (0 : Int) < 16 ^ n := Int.pow_pos (by decide)
theorem hx_cons (c : Int) (l : List Int) : hx 0 (c :: l) = hexV c * 16 ^ l.length + hx 0 l := by
  show hx (16 * 0 + hexV c) l = _
  rw [hx_split]; simp
theorem hx_lt : ∀ l : List Int, allH l = true → hx 0 l < 16 ^ l.length
  | [], _ => by simp [hx]
  | c :: l, h => by
    simp only [allH, List.all_cons, Bool.and_eq_true, decide_eq_true_eq] at h
    have ih := hx_lt l h.2
    have hp := pow_pos16 l.length
    have hb := hexV_bd c
    rw [hx_cons, List.length_cons, Int.pow_succ]
    have := Int.mul_le_mul_of_nonneg_right (show hexV c ≤ 15 by omega) (Int.le_of_lt hp)
    omega
theorem allH_stripL : ∀ l, allH l = true → allH (stripL l) = true
  | [], h => h
  | [_], h => h
  | c :: d :: l, h => by
    unfold stripL
    split
    · exact allH_stripL (d :: l) (by simp only [allH, List.all_cons, Bool.and_eq_true] at h ⊢; exact h.2)
    · exact h
theorem hx_stripL : ∀ l, hx 0 (stripL l) = hx 0 l
  | [] => rfl
  | [_] => rfl
  | c :: d :: l => by
    unfold stripL
    split
    · rename_i h
      rw [hx_stripL (d :: l), h]; rfl
    · rfl
theorem pow_le16 {a b : Nat} (h : a ≤ b) : (16 : Int) ^ a ≤ 16 ^ b := by
  have := Nat.pow_le_pow_right (show 0 < 16 by decide) h
  exact_mod_cast this
theorem hx_big {l : List Int} (hn : l ≠ []) (ha : allH l = true) (h0 : 1 < l.length → rd l 0 ≠ 48) : hx 0 l > 2147483647 ↔ (8 < l.length ∨ l.length = 8 ∧ hexV (rd l 0) > 7) := by
  rcases l with _ | ⟨c, l⟩
  · exact absurd rfl hn
  · simp only [allH, List.all_cons, Bool.and_eq_true, decide_eq_true_eq] at ha
    have hb := hexV_bd c
    have hl := hx_lt l ha.2
    have hg := hx_ge l 0 ha.2 (by omega)
    have hp := pow_pos16 l.length
    rw [rd_cons_zero, hx_cons, List.length_cons]
    rw [rd_cons_zero, List.length_cons] at h0
    have hc : 0 < l.length → 1 ≤ hexV c := by
      intro h
      have := h0 (by omega)
      have h1 := ha.1
      unfold hexV at h1 ⊢
      repeat' split at h1
      all_goals (repeat' split)
      all_goals omega
    have e7 : (16 : Int) ^ 7 = 268435456 := by decide
    have e8 : (16 : Int) ^ 8 = 4294967296 := by decide
    rcases Nat.lt_trichotomy l.length 7 with h | h | h
    · have h6 := pow_le16 (show l.length + 1 ≤ 7 by omega)
      rw [Int.pow_succ] at h6
      have := Int.mul_le_mul_of_nonneg_right (show hexV c ≤ 15 by omega) (Int.le_of_lt hp)
      constructor
      · intro h1; exfalso; omega
      · intro h1; exfalso; omega
    · rw [h, e7] at hl ⊢
      constructor
      · intro h1; right; exact ⟨rfl, by omega⟩
      · intro h1; rcases h1 with h1 | ⟨_, h1⟩ <;> omega
    · have h8 := pow_le16 (show 8 ≤ l.length by omega)
      have := Int.mul_le_mul_of_nonneg_right (show 1 ≤ hexV c from hc (by omega)) (Int.le_of_lt hp)
      constructor
      · intro _; left; omega
      · intro _; omega
theorem rdigit_eq (c : Int) : larumref03_digit.f c = some (hexV c) := rfl
theorem RHex_l1 (s : ByteArray) (hs : s.size ≤ 140737488351232) (d : Nat) : ∀ (i k : Nat) (v : Int), i + d = s.size → d < k → allH ((bytesOf s).drop i) = true → 0 ≤ v → hx v ((bytesOf s).drop i) ≤ 2147483647 →
    larumref03_Hex.l1 k s v (i : Int) = some (hx v ((bytesOf s).drop i), 0) := by
  induction d with
  | zero =>
    intro i k v hi hk _ _ _
    obtain ⟨k, rfl⟩ : ∃ m, k = m + 1 := ⟨k - 1, by omega⟩
    simp only [larumref03_Hex.l1]
    rw [if_neg (by omega), List.drop_of_length_le (by rw [bytesOf_length]; omega)]
    rfl
  | succ d ih =>
    intro i k v hi hk ha h0 h1
    obtain ⟨k, rfl⟩ : ∃ m, k = m + 1 := ⟨k - 1, by omega⟩
    have hv := hexV_bd (rd (bytesOf s) (i : Int))
    rw [drop_rd (by rw [bytesOf_length]; omega)] at ha h1 ⊢
    simp only [allH, List.all_cons, Bool.and_eq_true, decide_eq_true_eq] at ha
    have hge := hx_ge ((bytesOf s).drop (i + 1)) (16 * v + hexV (rd (bytesOf s) (i : Int))) ha.2 (by omega)
    have h1' : hx (16 * v + hexV (rd (bytesOf s) (i : Int))) ((bytesOf s).drop (i + 1)) ≤ 2147483647 := h1
    simp only [larumref03_Hex.l1]
    rw [if_pos (by omega), if_pos (by omega), rdigit_eq, bt_rd]
    simp only [Option.bind_some]
    rw [w64 (x := 16 * v) (by omega), w64 (x := 16 * v + hexV (rd (bytesOf s) (i : Int))) (by omega), w64 (x := (i : Int) + 1) (by omega)]
    exact ih (i + 1) k _ (by omega) (by omega) ha.2 (by omega) h1'
theorem RHex_l0 (s : ByteArray) (hs : s.size ≤ 140737488351232) (d : Nat) : ∀ (i k : Nat), i + d = s.size → s.size + d + 10 < k → (allH ((bytesOf s).take i) = true) → larumref03_Hex.l0 k s (i : Int) = some (parseH (bytesOf s)) := by
  have hl := bytesOf_length s
  induction d with
  | zero =>
    intro i k hi hk ha
    obtain ⟨k, rfl⟩ : ∃ m, k = m + 2 := ⟨k - 2, by omega⟩
    rw [List.take_of_length_le (by omega)] at ha
    simp only [larumref03_Hex.l0]
    rw [if_neg (by omega)]
    by_cases c : s.toList = ([] : List UInt8)
    · rw [if_pos c, (tl_nil s).1 c]; rfl
    have hn : bytesOf s ≠ [] := fun h => c ((tl_nil s).2 h)
    obtain ⟨t, t1, t2, t3⟩ := strip_eq s.size s (k + 1) hs rfl (by omega)
    have ht := bytesOf_length t
    have at_ := allH_stripL _ ha
    have nt := stripL_ne _ hn
    have et := hx_stripL (bytesOf s)
    have h0 := stripL_head (bytesOf s)
    rw [← t2] at at_ nt et h0
    have big := hx_big nt at_ h0
    rw [if_neg c]
    unfold larumref03_strip.f
    rw [t1]
    simp only [Option.bind_some]
    have j1t : larumref03_Hex.j1 (k + 1) t true = some (0, 5) := by simp only [larumref03_Hex.j1]; rw [if_pos trivial]
    have j1f : hx 0 (bytesOf t) ≤ 2147483647 → larumref03_Hex.j1 (k + 1) t false = some (hx 0 (bytesOf t), 0) := by
      intro h
      simp only [larumref03_Hex.j1]
      rw [if_neg (by simp)]
      exact RHex_l1 t (by omega) t.size 0 k 0 (by omega) (by omega) at_ (by omega) h
    have hp : parseH (bytesOf s) = if hx 0 (bytesOf t) > 2147483647 then (0, 5) else (hx 0 (bytesOf t), 0) := by
      unfold parseH
      rw [if_neg (by simp [ha, hn]), et]
    rw [hp]
    by_cases c8 : (t.size : Int) > 8
    · rw [if_pos c8, j1t, if_pos (big.2 (Or.inl (by omega)))]
    rw [if_neg c8]
    by_cases c9 : (t.size : Int) = 8
    · rw [if_pos c9, if_pos (by omega), rdigit_eq, bt_rd]
      simp only [Option.bind_some]
      by_cases c7 : hexV (rd (bytesOf t) 0) > 7
      · rw [decide_eq_true c7, j1t, if_pos (big.2 (Or.inr ⟨by omega, c7⟩))]
      · have hno : ¬ hx 0 (bytesOf t) > 2147483647 := fun h => by rcases big.1 h with h | ⟨_, h⟩ <;> omega
        rw [decide_eq_false c7, j1f (by omega), if_neg hno]
    · have hno : ¬ hx 0 (bytesOf t) > 2147483647 := fun h => by rcases big.1 h with h | ⟨h, _⟩ <;> omega
      rw [if_neg c9, j1f (by omega), if_neg hno]
  | succ d ih =>
    intro i k hi hk ha
    obtain ⟨k, rfl⟩ : ∃ m, k = m + 1 := ⟨k - 1, by omega⟩
    have hlt : i < (bytesOf s).length := by omega
    have hrd : (bytesOf s)[i] = rd (bytesOf s) (i : Int) := by unfold rd; simp [List.getD_eq_getElem?_getD, List.getElem?_eq_getElem hlt]
    simp only [larumref03_Hex.l0]
    rw [if_pos (by omega), if_pos (by omega), rdigit_eq, bt_rd]
    simp only [Option.bind_some]
    by_cases c : hexV (rd (bytesOf s) (i : Int)) < 0
    · rw [if_pos c]
      unfold parseH
      rw [if_pos]
      left
      cases h : allH (bytesOf s) with
      | false => rfl
      | true =>
        exfalso
        have := (List.all_eq_true.1 h) _ (List.getElem_mem hlt)
        rw [hrd] at this
        simp at this
        omega
    · rw [if_neg c, w64 (by omega)]
      exact ih (i + 1) k (by omega) (by omega) (by
        rw [List.take_succ_eq_append_getElem hlt]
        unfold allH at ha ⊢
        rw [List.all_append, ha, hrd]
        simp; omega)
theorem RHex_eq (s : ByteArray) (hs : s.size ≤ 140737488351232) {k : Nat} (hk : 2 * s.size + 10 < k) : larumref03_Hex.f k s = some (parseH (bytesOf s)) := by
  unfold larumref03_Hex.f
  exact RHex_l0 s hs s.size 0 k (by omega) (by omega) rfl
-- signs by sixteen, read
theorem awake60 : larumlaw08_awake.f 200 = some true := by decide +kernel
theorem awake_at {k : Nat} (h : 200 ≤ k) : larumlaw08_awake.f k = some true := at_rounds (g := fun k => larumlaw08_awake.f k) (fun k => larumlaw08_awake.mono k) h awake60
theorem short_eq (s : ByteArray) : ∃ t, larumlaw08_short.f s = some t ∧ t.size ≤ 100 := by
  unfold larumlaw08_short.f
  by_cases h : (s.size : Int) > 100
  · exact ⟨_, by rw [if_pos h, if_pos (by decide), if_pos (by omega)], by simp; omega⟩
  · exact ⟨s, by rw [if_neg h], by omega⟩
def decL : Nat → Bool → List Int → Option (List Int)
  | 0, _, _ => none
  | _ + 1, _, [] => some []
  | f + 1, plus, c :: r => if c = 37 then (match r with
      | a :: b :: r' => if 0 ≤ hexV a ∧ 0 ≤ hexV b then (decL f plus r').map ((16 * hexV a + hexV b) :: ·) else none
      | _ => none) else (decL f plus r).map ((if c = 43 ∧ plus = true then 32 else c) :: ·)
theorem dec_plain {f : Nat} {plus : Bool} {c : Int} {r : List Int} (h : c ≠ 37) : decL (f + 1) plus (c :: r) = (decL f plus r).map ((if c = 43 ∧ plus = true then 32 else c) :: ·) := by simp only [decL, if_neg h]
theorem dec_two {f : Nat} {plus : Bool} {a b : Int} {r : List Int} : decL (f + 1) plus (37 :: a :: b :: r) = if 0 ≤ hexV a ∧ 0 ≤ hexV b then (decL f plus r).map ((16 * hexV a + hexV b) :: ·) else none := by simp only [decL, if_true]
theorem dec_few {f : Nat} {plus : Bool} {r : List Int} (h : r.length < 2) : decL (f + 1) plus (37 :: r) = none := by
  rcases r with _ | ⟨a, _ | ⟨b, r⟩⟩
  · simp only [decL, if_true]
  · simp only [decL, if_true]
  · simp at h; omega
theorem dec_byt : ∀ (f : Nat) (plus : Bool) (l : List Int), Byt l → match decL f plus l with | some m => Byt m | none => True
  | 0, plus, l, _ => by simp [decL]
  | f + 1, plus, [], _ => by simp only [decL]; intro x hx; cases hx
  | f + 1, plus, c :: r, h => by
    have hc := h c (by simp)
    by_cases h37 : c = 37
    · subst h37
      rcases r with _ | ⟨a, _ | ⟨b, r⟩⟩
      · rw [dec_few (by simp)]; trivial
      · rw [dec_few (by simp)]; trivial
      · rw [dec_two]
        split
        · rename_i m hm
          split at hm
          · rename_i hab
            have ih := dec_byt f plus r (fun x hx => h x (by simp [hx]))
            cases hd : decL f plus r with
            | none => rw [hd] at hm; cases hm
            | some m' =>
              rw [hd] at hm ih
              cases hm
              intro x hx
              have h1 := hexV_bd a
              have h2 := hexV_bd b
              rcases List.mem_cons.1 hx with rfl | hx
              · omega
              · exact ih x hx
          · cases hm
        · trivial
    · rw [dec_plain h37]
      have ih := dec_byt f plus r (fun x hx => h x (List.mem_cons_of_mem _ hx))
      cases hd : decL f plus r with
      | none => trivial
      | some m' =>
        rw [hd] at ih
        intro x hx
        rcases List.mem_cons.1 hx with rfl | hx
        · split <;> omega
        · exact ih x hx
def natL (l : List UInt8) : List Int := l.map fun x => (x.toNat : Int)
theorem natL_bts (l : List UInt8) : bytesOf (⟨l.toArray⟩ : ByteArray) = natL l := rfl
theorem natL_snoc (l : List UInt8) (x : Int) (h : 0 ≤ x ∧ x ≤ 255) : natL (l ++ [pct_Decode.u8 x]) = natL l ++ [x] := by
  unfold natL
  rw [List.map_append]
  simp only [List.map_cons, List.map_nil, pct_Decode.u8_eq h]
theorem parse_two (a b : Int) : parseH [a, b] = if 0 ≤ hexV a ∧ 0 ≤ hexV b then (16 * hexV a + hexV b, 0) else (0, 3) := by
  have h1 := hexV_bd a
  have h2 := hexV_bd b
  unfold parseH
  by_cases h : 0 ≤ hexV a ∧ 0 ≤ hexV b
  · have ha : allH [a, b] = true := by simp [allH, h]
    have hx : hx 0 [a, b] = 16 * hexV a + hexV b := by simp [hx]
    rw [if_pos h, if_neg (by simp [ha]), hx, if_neg (by omega)]
  · have ha : allH [a, b] = false := by
      cases hh : allH [a, b] with
      | false => rfl
      | true =>
        exfalso; apply h
        simpa [allH] using hh
    rw [if_neg h, if_pos (Or.inl ha)]
theorem two_at (s : ByteArray) (i : Nat) (h : i + 3 ≤ s.size) : (bytesOf s).drop (i + 1) = rd (bytesOf s) ((i + 1 : Nat) : Int) :: rd (bytesOf s) ((i + 2 : Nat) : Int) :: (bytesOf s).drop (i + 3) := by
  have hl := bytesOf_length s
  rw [drop_rd (by omega), drop_rd (by omega)]
theorem ex_two (s : ByteArray) (i : Nat) (h : i + 3 ≤ s.size) : bytesOf (s.extract (i + 1) (i + 3)) = [rd (bytesOf s) ((i + 1 : Nat) : Int), rd (bytesOf s) ((i + 2 : Nat) : Int)] := by
  rw [bts_extract, List.drop_take, two_at s i h, show i + 3 - (i + 1) = 2 by omega]
  rfl
theorem u8wrap {x : Int} (h : 0 ≤ x ∧ x ≤ 255) : IntKind.u8.wrap x = x := by
  have : IntKind.u8.wrap x = x % 256 := by simp [IntKind.wrap, IntKind.bits, IntKind.signed]
  rw [this]; omega
theorem Decode_l0 (s : ByteArray) (plus : Bool) (hs : s.size ≤ 100000) : ∀ (f i k : Nat) (out : List UInt8), s.size < i + f → i ≤ s.size → f + 300000 ≤ k →
    match decL f plus ((bytesOf s).drop i) with | some l => ∃ t, pct_Decode.l0 k s plus (i : Int) out = some (t, 0) ∧ bytesOf t = natL out ++ l | none => pct_Decode.l0 k s plus (i : Int) out = some (⟨#[]⟩, 3) := by
  have hl := bytesOf_length s
  intro f
  induction f with
  | zero => intro i k out h1 h2; omega
  | succ f ih =>
    intro i k out h1 h2 hk
    obtain ⟨k, rfl⟩ : ∃ m, k = m + 1 := ⟨k - 1, by omega⟩
    by_cases hi : i < s.size
    · have hbr := bt_range s (i : Int)
      have step : pct_Decode.l0 (k + 1) s plus (i : Int) out = if bt s (i : Int) = 37 then ((num_Hex.f k (s.extract ((i : Int) + 1).toNat (min ((i : Int) + 3) (s.size : Int)).toNat)).bind fun t => if t.2 = 0 ∧ ¬ ((i : Int) + 3 > (s.size : Int)) then pct_Decode.l0 k s plus ((i : Int) + 3) (out ++ [pct_Decode.u8 (IntKind.u8.wrap t.1)]) else some (⟨#[]⟩, 3)) else if bt s (i : Int) = 43 ∧ plus = true then pct_Decode.l0 k s plus ((i : Int) + 1) (out ++ [32]) else pct_Decode.l0 k s plus ((i : Int) + 1) (out ++ [pct_Decode.u8 (bt s (i : Int))]) := by
        simp only [pct_Decode.l0]
        rw [if_pos (by omega)]
      rw [step, drop_rd (by omega), ← bt_rd]
      generalize hc : bt s (i : Int) = c at hbr
      by_cases h37 : c = 37
      · subst h37
        rw [if_pos rfl]
        by_cases h3 : i + 3 ≤ s.size
        · rw [two_at s i h3, dec_two]
          have e : s.extract ((i : Int) + 1).toNat (min ((i : Int) + 3) (s.size : Int)).toNat = s.extract (i + 1) (i + 3) := by
            congr 1 <;> omega
          have hz : (s.extract (i + 1) (i + 3)).size ≤ 100000 := by simp only [ByteArray.size_extract]; omega
          rw [e, Hex_eq _ (by omega) (by omega), ex_two s i h3, parse_two]
          simp only [Option.bind_some]
          generalize rd (bytesOf s) ((i + 1 : Nat) : Int) = a
          generalize rd (bytesOf s) ((i + 2 : Nat) : Int) = b
          have ha := hexV_bd a
          have hb := hexV_bd b
          by_cases hab : 0 ≤ hexV a ∧ 0 ≤ hexV b
          · simp only [if_pos hab]
            rw [if_pos ⟨trivial, by omega⟩, u8wrap (by omega), show (i : Int) + 3 = ((i + 3 : Nat) : Int) by omega]
            have := ih (i + 3) k (out ++ [pct_Decode.u8 (16 * hexV a + hexV b)]) (by omega) (by omega) (by omega)
            cases hd : decL f plus ((bytesOf s).drop (i + 3)) with
            | none => rw [hd] at this; exact this
            | some l =>
              rw [hd] at this
              obtain ⟨t, t1, t2⟩ := this
              exact ⟨t, t1, by rw [t2, natL_snoc _ _ (by omega)]; simp⟩
          · simp only [if_neg hab]
            rw [if_neg (by simp)]
        · rw [dec_few (by rw [List.length_drop]; omega)]
          cases hx : num_Hex.f k (s.extract ((i : Int) + 1).toNat (min ((i : Int) + 3) (s.size : Int)).toNat) with
          | none =>
            have hz : (s.extract ((i : Int) + 1).toNat (min ((i : Int) + 3) (s.size : Int)).toNat).size ≤ 100000 := by simp only [ByteArray.size_extract]; omega
            rw [Hex_eq _ (by omega) (by omega)] at hx
            cases hx
          | some x =>
            simp only [Option.bind_some]
            rw [if_neg (fun h => h.2 (by omega))]
      · rw [if_neg h37, dec_plain h37]
        rw [show (i : Int) + 1 = ((i + 1 : Nat) : Int) by omega]
        by_cases h43 : c = 43 ∧ plus = true
        · rw [if_pos h43]
          have := ih (i + 1) k (out ++ [32]) (by omega) (by omega) (by omega)
          simp only [if_pos h43]
          cases hd : decL f plus ((bytesOf s).drop (i + 1)) with
          | none => rw [hd] at this; exact this
          | some l =>
            rw [hd] at this
            obtain ⟨t, t1, t2⟩ := this
            exact ⟨t, t1, by rw [t2]; simp [natL]⟩
        · rw [if_neg h43]
          have := ih (i + 1) k (out ++ [pct_Decode.u8 c]) (by omega) (by omega) (by omega)
          simp only [if_neg h43]
          cases hd : decL f plus ((bytesOf s).drop (i + 1)) with
          | none => rw [hd] at this; exact this
          | some l =>
            rw [hd] at this
            obtain ⟨t, t1, t2⟩ := this
            exact ⟨t, t1, by rw [t2, natL_snoc _ _ hbr]; simp⟩
    · have e : (bytesOf s).drop i = [] := List.drop_of_length_le (by omega)
      rw [e]
      have : decL (f + 1) plus [] = some [] := rfl
      rw [this]
      refine ⟨⟨out.toArray⟩, ?_, by rw [natL_bts]; simp⟩
      simp only [pct_Decode.l0]
      rw [if_neg (by omega)]
theorem Decode_f (s : ByteArray) (plus : Bool) (hs : s.size ≤ 1000) {k : Nat} (hk : 400000 ≤ k) :
    match decL (s.size + 1) plus (bytesOf s) with | some l => ∃ t, pct_Decode.f k s plus = some (t, 0) ∧ bytesOf t = l | none => pct_Decode.f k s plus = some (⟨#[]⟩, 3) := by
  have := Decode_l0 s plus (by omega) (s.size + 1) 0 k [] (by omega) (by omega) (by omega)
  rw [List.drop_zero] at this
  unfold pct_Decode.f
  rw [if_pos (by omega)]
  exact this
theorem RDecode_l0 (s : ByteArray) (plus : Bool) (hs : s.size ≤ 100000) : ∀ (f i k : Nat) (x6 : List Int), s.size < i + f → i ≤ s.size → f + 300000 ≤ k → x6.length ≤ i → Byt x6 →
    match decL f plus ((bytesOf s).drop i) with | some l => ∃ t, larumref08_Decode.l0 k s plus x6 (i : Int) = some (t, true) ∧ bytesOf t = x6 ++ l | none => larumref08_Decode.l0 k s plus x6 (i : Int) = some (⟨#[]⟩, false) := by
  have hl := bytesOf_length s
  intro f
  induction f with
  | zero => intro i k out h1 h2; omega
  | succ f ih =>
    intro i k x6 h1 h2 hk h6 hy
    obtain ⟨k, rfl⟩ : ∃ m, k = m + 1 := ⟨k - 1, by omega⟩
    by_cases hi : i < s.size
    · have hbr := bt_range s (i : Int)
      have w1 : wrap64 ((i : Int) + 1) = ((i + 1 : Nat) : Int) := by rw [w64 (by omega)]; omega
      have w2 : wrap64 ((i : Int) + 2) = ((i + 2 : Nat) : Int) := by rw [w64 (by omega)]; omega
      have w3 : wrap64 ((i : Int) + 3) = ((i + 3 : Nat) : Int) := by rw [w64 (by omega)]; omega
      have hd0 : (bytesOf s).drop i = bt s (i : Int) :: (bytesOf s).drop (i + 1) := by rw [drop_rd (by omega), ← bt_rd]
      by_cases h37 : bt s (i : Int) = 37
      · by_cases h3 : i + 3 ≤ s.size
        · have e : s.extract ((i + 1 : Nat) : Int).toNat ((i + 3 : Nat) : Int).toNat = s.extract (i + 1) (i + 3) := by
            congr 1
          have hz : (s.extract (i + 1) (i + 3)).size ≤ 100000 := by simp only [ByteArray.size_extract]; omega
          have e1 : larumref08_Decode.l0 (k + 1) s plus x6 (i : Int) = ((larumref03_Hex.f k (s.extract (i + 1) (i + 3))).bind fun bt105 => (if bt105.2 = 0 then (if x6.length < 140737488355328 then (larumref08_Decode.l0 k s plus (x6 ++ [(bt105.1) % 256]) ((i + 3 : Nat) : Int)) else (none)) else (some ((⟨#[]⟩ : ByteArray), false)))) := by
            simp only [larumref08_Decode.l0]
            rw [if_pos (by omega), if_pos (by omega), if_pos h37, w1, w2, w3, if_neg (by omega), if_pos (by omega), if_pos (by omega), if_pos (by omega), e]
          rw [RHex_eq _ (by omega) (by omega), ex_two s i h3, parse_two] at e1
          simp only [Option.bind_some] at e1
          rw [hd0, h37, two_at s i h3, dec_two, e1]
          clear e1 hd0
          generalize rd (bytesOf s) ((i + 1 : Nat) : Int) = a
          generalize rd (bytesOf s) ((i + 2 : Nat) : Int) = b
          have ha := hexV_bd a
          have hb := hexV_bd b
          by_cases hab : 0 ≤ hexV a ∧ 0 ≤ hexV b
          · have e2 : (16 * hexV a + hexV b) % 256 = 16 * hexV a + hexV b := by omega
            have e3 : x6.length < 140737488355328 := by omega
            simp only [if_pos hab, if_true, if_pos e3, e2]
            have := ih (i + 3) k (x6 ++ [16 * hexV a + hexV b]) (by omega) (by omega) (by omega) (by simp; omega) (by
              intro x hx
              rcases List.mem_append.1 hx with hx | hx
              · exact hy x hx
              · rw [List.mem_singleton.1 hx]; omega)
            cases hd : decL f plus ((bytesOf s).drop (i + 3)) with
            | none => rw [hd] at this; exact this
            | some l =>
              rw [hd] at this
              obtain ⟨t, t1, t2⟩ := this
              exact ⟨t, t1, by rw [t2]; simp⟩
          · simp only [if_neg hab]
            rfl
        · have e1 : larumref08_Decode.l0 (k + 1) s plus x6 (i : Int) = some (⟨#[]⟩, false) := by
            simp only [larumref08_Decode.l0]
            rw [if_pos (by omega), if_pos (by omega), if_pos h37, w2, if_pos (by omega)]
          rw [hd0, h37, dec_few (by rw [List.length_drop]; omega), e1]
      · rw [hd0, dec_plain h37]
        have e3 : x6.length < 140737488355328 := by omega
        generalize hc : bt s (i : Int) = c at hbr h37
        by_cases h43 : c = 43 ∧ plus = true
        · obtain ⟨g1, g2⟩ := h43
          have e1 : larumref08_Decode.l0 (k + 1) s plus x6 (i : Int) = larumref08_Decode.l0 k s plus (x6 ++ [32]) ((i + 1 : Nat) : Int) := by
            simp only [larumref08_Decode.l0, hc]
            rw [if_pos (by omega), if_pos (by omega), if_neg h37, if_pos g2, if_pos g1, if_pos e3, w1]
          rw [e1]
          have := ih (i + 1) k (x6 ++ [32]) (by omega) (by omega) (by omega) (by simp; omega) (by
              intro x hx
              rcases List.mem_append.1 hx with hx | hx
              · exact hy x hx
              · rw [List.mem_singleton.1 hx]; omega)
          simp only [if_pos (show c = 43 ∧ plus = true from ⟨g1, g2⟩)]
          cases hd : decL f plus ((bytesOf s).drop (i + 1)) with
          | none => rw [hd] at this; exact this
          | some l =>
            rw [hd] at this
            obtain ⟨t, t1, t2⟩ := this
            exact ⟨t, t1, by rw [t2]; simp⟩
        · have e1 : larumref08_Decode.l0 (k + 1) s plus x6 (i : Int) = larumref08_Decode.l0 k s plus (x6 ++ [c]) ((i + 1 : Nat) : Int) := by
            simp only [larumref08_Decode.l0, hc]
            rw [if_pos (by omega), if_pos (by omega), if_neg h37, w1]
            cases plus with
            | true => rw [if_pos rfl, if_neg (fun h => h43 ⟨h, rfl⟩), if_pos e3]
            | false => rw [if_neg (by simp), if_pos e3]
          rw [e1]
          have := ih (i + 1) k (x6 ++ [c]) (by omega) (by omega) (by omega) (by simp; omega) (by
              intro x hx
              rcases List.mem_append.1 hx with hx | hx
              · exact hy x hx
              · rw [List.mem_singleton.1 hx]; exact hbr)
          simp only [if_neg h43]
          cases hd : decL f plus ((bytesOf s).drop (i + 1)) with
          | none => rw [hd] at this; exact this
          | some l =>
            rw [hd] at this
            obtain ⟨t, t1, t2⟩ := this
            exact ⟨t, t1, by rw [t2]; simp⟩
    · have e : (bytesOf s).drop i = [] := List.drop_of_length_le (by omega)
      have e1 : larumref08_Decode.l0 (k + 1) s plus x6 (i : Int) = some (strOfNums x6, true) := by
        simp only [larumref08_Decode.l0]
        rw [if_neg (by omega)]
      rw [e, e1]
      exact ⟨strOfNums x6, rfl, by rw [bts_son hy]; simp⟩
theorem RDecode_f (s : ByteArray) (plus : Bool) (hs : s.size ≤ 1000) {k : Nat} (hk : 400000 ≤ k) :
    match decL (s.size + 1) plus (bytesOf s) with | some l => ∃ t, larumref08_Decode.f k s plus = some (t, true) ∧ bytesOf t = l | none => larumref08_Decode.f k s plus = some (⟨#[]⟩, false) := by
  have := RDecode_l0 s plus (by omega) (s.size + 1) 0 k [] (by omega) (by omega) (by omega) (by simp) (fun x hx => by cases hx)
  rw [List.drop_zero] at this
  exact this
theorem PctDecode : larumlaw08_PctDecode.Pure := by
  intro a plus _
  obtain ⟨s, hs, hz⟩ := short_eq a
  obtain ⟨k, hk⟩ : ∃ k : Nat, k = 500000 := ⟨_, rfl⟩
  refine ⟨k, ?_⟩
  unfold larumlaw08_PctDecode.f
  rw [hs]
  simp only [Option.bind_some]
  have h1 := Decode_f s plus (by omega) (k := k) (by omega)
  have h2 := RDecode_f s plus (by omega) (k := k) (by omega)
  have hb := dec_byt (s.size + 1) plus (bytesOf s) (bts_byt s)
  cases hd : decL (s.size + 1) plus (bytesOf s) with
  | none =>
    rw [hd] at h1 h2
    rw [h1, h2]
    simp only [Option.bind_some]
    rw [awake_at (by omega)]
    rfl
  | some l =>
    rw [hd] at h1 h2 hb
    obtain ⟨t, t1, t2⟩ := h1
    obtain ⟨u, u1, u2⟩ := h2
    have e : t = u := ext_bts (t2.trans u2.symm)
    subst e
    rw [t1, u1]
    simp only [Option.bind_some]
    rw [awake_at (by omega)]
    simp
end Go.Proofs.YteladeppgedomaaDoor.Pure
