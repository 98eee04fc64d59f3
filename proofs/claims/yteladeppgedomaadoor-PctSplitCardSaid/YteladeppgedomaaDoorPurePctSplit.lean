/- A target's parts and its query's pairs, or that it is none, are as the chapter says: for any text. No condition. -/
import Derived.Test.YteladeppgedomaaDoorPPctSplitx6
namespace Go.Proofs.YteladeppgedomaaDoor.Pure
open Go Go.RowKit Go.Proofs.YteladeppgedomaaDoor.PPctSplit Go.Proofs.YteladeppgedomaaDoor.Gp Go.Proofs.YteladeppgedomaaDoorW Go.Proofs.YteladeppgedomaaDoorW.PrintWords Go.Proofs.YteladeppgedomaaDoorW.PrintLast Go.Proofs.YteladeppgedomaaDoorW.PrintMore
set_option linter.unusedVariables false
set_option linter.unusedSimpArgs false
-- strings as lists of numbers
def Byt (l : List Int) : Prop := ∀ x ∈ l, 0 ≤ x ∧ x ≤ 255
theorem Byt.rd {l : List Int} (h : Byt l) (i : Int) : 0 ≤ PrintWords.rd l i ∧ PrintWords.rd l i ≤ 255 := by
  unfold PrintWords.rd
  rw [List.getD_eq_getElem?_getD]
  by_cases hi : i.toNat < l.length
  · rw [List.getElem?_eq_getElem hi]; exact h _ (List.getElem_mem hi)
  · rw [List.getElem?_eq_none (by omega)]; decide
theorem Byt.take {l : List Int} (h : Byt l) (n : Nat) : Byt (l.take n) := fun x hx => h x (List.mem_of_mem_take hx)
theorem Byt.drop {l : List Int} (h : Byt l) (n : Nat) : Byt (l.drop n) := fun x hx => h x (List.mem_of_mem_drop hx)
theorem w64 {x : Int} (h : -9223372036854775808 ≤ x ∧ x ≤ 9223372036854775807) : wrap64 x = x := by unfold wrap64; omega
theorem u64w (x : Int) : IntKind.u64.wrap x = x % 18446744073709551616 := by simp [IntKind.wrap, IntKind.bits, IntKind.signed]
theorem wu64 {x : Int} (h : 0 ≤ x ∧ x ≤ 18446744073709551615) : IntKind.u64.wrap x = x := by rw [u64w]; omega
theorem bts_byt (s : ByteArray) : Byt (bytesOf s) := by
  intro x hx
  simp only [bytesOf, List.mem_map] at hx
  obtain ⟨b, _, rfl⟩ := hx
  have := b.toNat_lt
  omega
theorem bts_len (s : ByteArray) : ((bytesOf s).length : Int) = (s.size : Int) := by rw [bytesOf_length]
theorem bt_rd (s : ByteArray) (i : Int) : bt s i = rd (bytesOf s) i := (rd_bytesOf s i).symm
theorem tl (s : ByteArray) : s.toList = s.data.toList := ByteArray.toList_eq s
theorem u8_map_inj : ∀ {a b : List UInt8}, a.map (fun x => (x.toNat : Int)) = b.map (fun x => (x.toNat : Int)) → a = b
  | [], [], _ => rfl
  | [], _ :: _, h => by simp at h
  | _ :: _, [], h => by simp at h
  | x :: a, y :: b, h => by
    simp only [List.map_cons, List.cons.injEq] at h
    rw [u8_map_inj h.2, UInt8.toNat_inj.1 (by omega : x.toNat = y.toNat)]
theorem tl_iff (s t : ByteArray) : s.toList = t.toList ↔ bytesOf s = bytesOf t := by
  rw [tl, tl]
  exact ⟨fun h => by unfold bytesOf; rw [h], fun h => u8_map_inj h⟩
theorem tl_nil (s : ByteArray) : s.toList = ([] : List UInt8) ↔ bytesOf s = [] := by
  rw [tl]
  unfold bytesOf
  rw [List.map_eq_nil_iff]
theorem bts_extract (s : ByteArray) (a b : Nat) : bytesOf (s.extract a b) = ((bytesOf s).take b).drop a := by
  unfold bytesOf
  rw [List.drop_take, ← List.map_drop, ← List.map_take]
  congr 1
  simp [List.drop_take]
theorem bts_extract_to (s : ByteArray) (a : Nat) : bytesOf (s.extract a s.size) = (bytesOf s).drop a := by
  rw [bts_extract, List.take_of_length_le (by rw [bytesOf_length]; omega)]
theorem bts_append (s t : ByteArray) : bytesOf (s ++ t) = bytesOf s ++ bytesOf t := by
  unfold bytesOf
  rw [← List.map_append]
  congr 1
theorem bts_size (s : ByteArray) : s.size = (bytesOf s).length := (bytesOf_length s).symm
theorem drop_rd {l : List Int} {i : Nat} (h : i < l.length) : l.drop i = rd l (i : Int) :: l.drop (i + 1) := by
  rw [List.drop_eq_getElem_cons h]
  unfold rd
  simp [List.getD_eq_getElem?_getD, List.getElem?_eq_getElem h]
theorem rd_cons_zero (a : Int) (l : List Int) : rd (a :: l) 0 = a := rfl
-- a string made of numbers
theorem bts_son {xs : List Int} (h : Byt xs) : bytesOf (strOfNums xs) = xs := by
  unfold bytesOf
  rw [strOfNums_data, List.map_map]
  conv => rhs; rw [← List.map_id xs]
  apply List.map_congr_left
  intro x hx
  have := h x hx
  simp only [Function.comp, id]
  have e : (UInt8.ofNat x.toNat).toNat = x.toNat := by
    rw [UInt8.toNat_ofNat']
    omega
  rw [e]; omega
theorem bts_tl_iff {s t : ByteArray} : s.toList = t.toList ↔ bytesOf s = bytesOf t := tl_iff s t
theorem ext_bts {s t : ByteArray} (h : bytesOf s = bytesOf t) : s = t := by
  have := (tl_iff s t).2 h
  rw [tl, tl] at this
  cases s with | mk a => cases t with | mk b => simp at this; rw [this]
-- digits by sixteen
def hexV (c : Int) : Int := if 48 ≤ c ∧ c ≤ 57 then c - 48 else if 97 ≤ c ∧ c ≤ 102 then c - 87 else if 65 ≤ c ∧ c ≤ 70 then c - 55 else -1
theorem hex_all : ∀ c : Fin 256, num_hex.f 3 (c.val : Int) = some (hexV (c.val : Int)) := by decide +kernel
theorem hex_eq {c : Int} (h : 0 ≤ c ∧ c ≤ 255) {k : Nat} (hk : 3 ≤ k) : num_hex.f k c = some (hexV c) := by
  have := hex_all ⟨c.toNat, by omega⟩
  simp only [Int.toNat_of_nonneg h.1] at this
  exact at_rounds (g := fun k => num_hex.f k c) (fun k => num_hex.mono c k) hk this
def allH (l : List Int) : Bool := l.all fun c => decide (0 ≤ hexV c)
def hx (v : Int) : List Int → Int
  | [] => v
  | c :: l => hx (16 * v + hexV c) l
theorem hexV_bd (c : Int) : -1 ≤ hexV c ∧ hexV c ≤ 15 := by unfold hexV; repeat' split <;> omega
theorem hx_ge : ∀ (l : List Int) (v : Int), allH l = true → 0 ≤ v → v ≤ hx v l
  | [], v, _, _ => Int.le_refl v
  | c :: l, v, h, hv => by
    simp only [allH, List.all_cons, Bool.and_eq_true, decide_eq_true_eq] at h
    have := hx_ge l (16 * v + hexV c) h.2 (by omega)
    show v ≤ hx (16 * v + hexV c) l
    omega
def hexR (e lg : Bool) (v : Int) (l : List Int) : Int × Int := if allH l = false then (0, 3) else if e = true then (0, 3) else if lg = true ∨ hx v l > 2147483647 then (0, 5) else (hx v l, 0)
theorem Hex_l0 (s : ByteArray) (hs : s.size ≤ 140737488351232) (d : Nat) : ∀ (i k : Nat) (v : Int) (lg : Bool), i + d = s.size → d + 3 < k → 0 ≤ v → v ≤ 2147483647 →
    num_Hex.l0 k s v lg (s.size : Int) (i : Int) = some (hexR (bytesOf s).isEmpty lg v ((bytesOf s).drop i)) := by
  have he : s.toList = ([] : List UInt8) ↔ (bytesOf s).isEmpty = true := by rw [tl_nil, List.isEmpty_iff]
  induction d with
  | zero =>
    intro i k v lg hi hk h0 h1
    obtain ⟨k, rfl⟩ : ∃ m, k = m + 1 := ⟨k - 1, by omega⟩
    simp only [num_Hex.l0]
    rw [if_neg (by omega), List.drop_of_length_le (by rw [bytesOf_length]; omega)]
    by_cases c : s.toList = ([] : List UInt8)
    · rw [if_pos c]
      unfold hexR
      rw [he.1 c]
      simp [allH]
    · have c' : (bytesOf s).isEmpty = false := by cases h : (bytesOf s).isEmpty with | true => exact absurd (he.2 h) c | false => rfl
      rw [if_neg c]
      unfold hexR
      rw [c']
      cases lg with
      | true => simp [allH]
      | false => simp [hx, allH]; omega
  | succ d ih =>
    intro i k v lg hi hk h0 h1
    obtain ⟨k, rfl⟩ : ∃ m, k = m + 1 := ⟨k - 1, by omega⟩
    have hv := hexV_bd (rd (bytesOf s) (i : Int))
    simp only [num_Hex.l0]
    rw [if_pos (by omega), if_pos (by omega), if_pos (by omega), bt_rd, hex_eq ((bts_byt s).rd _) (by omega), drop_rd (by rw [bytesOf_length]; omega), w64 (x := (i : Int) + 1) (by omega), show ((i : Int) + 1) = ((i + 1 : Nat) : Int) by omega]
    simp only [Option.bind_some]
    by_cases c : hexV (rd (bytesOf s) (i : Int)) < 0
    · rw [if_pos c]
      unfold hexR
      rw [if_pos (by simp only [allH, List.all_cons, Bool.and_eq_false_iff, decide_eq_false_iff_not]; left; omega)]
    rw [if_neg c]
    have key : ∀ (lg' : Bool) (v' : Int), (allH ((bytesOf s).drop (i + 1)) = true → (lg' = true ∨ hx v' ((bytesOf s).drop (i + 1)) > 2147483647) = (lg = true ∨ hx (16 * v + hexV (rd (bytesOf s) (i : Int))) ((bytesOf s).drop (i + 1)) > 2147483647)) →
        (allH ((bytesOf s).drop (i + 1)) = true → ¬ (lg' = true ∨ hx v' ((bytesOf s).drop (i + 1)) > 2147483647) → hx v' ((bytesOf s).drop (i + 1)) = hx (16 * v + hexV (rd (bytesOf s) (i : Int))) ((bytesOf s).drop (i + 1))) →
        hexR (bytesOf s).isEmpty lg' v' ((bytesOf s).drop (i + 1)) = hexR (bytesOf s).isEmpty lg v (rd (bytesOf s) (i : Int) :: (bytesOf s).drop (i + 1)) := by
      intro lg' v' e1 e2
      unfold hexR
      have ea : allH (rd (bytesOf s) (i : Int) :: (bytesOf s).drop (i + 1)) = allH ((bytesOf s).drop (i + 1)) := by
        simp only [allH, List.all_cons]; rw [decide_eq_true (by omega), Bool.true_and]
      rw [ea]
      cases ha : allH ((bytesOf s).drop (i + 1)) with
      | false => rfl
      | true =>
        simp only [Bool.true_eq_false, if_false]
        cases (bytesOf s).isEmpty with
        | true => rfl
        | false =>
          simp only [Bool.false_eq_true, if_false]
          show (if (lg' = true ∨ hx v' ((bytesOf s).drop (i + 1)) > 2147483647) then _ else _) = (if (lg = true ∨ hx (16 * v + hexV (rd (bytesOf s) (i : Int))) ((bytesOf s).drop (i + 1)) > 2147483647) then _ else (hx (16 * v + hexV (rd (bytesOf s) (i : Int))) ((bytesOf s).drop (i + 1)), 0))
          by_cases c1 : (lg' = true ∨ hx v' ((bytesOf s).drop (i + 1)) > 2147483647)
          · rw [if_pos c1, if_pos (by rw [← e1 ha]; exact c1)]
          · rw [if_neg c1, if_neg (by rw [← e1 ha]; exact c1), e2 ha c1]
    cases lg with
    | true =>
      rw [if_pos rfl, ih (i + 1) k v true (by omega) (by omega) h0 h1]
      congr 1
      exact key true v (fun _ => by simp) (fun _ h => absurd (Or.inl rfl) h)
    | false =>
      rw [if_neg (by simp), w64 (x := 2147483647 - hexV (rd (bytesOf s) (i : Int))) (by omega), Int.tdiv_eq_ediv_of_nonneg (by omega), w64 (x := (2147483647 - hexV (rd (bytesOf s) (i : Int))) / 16) (by omega)]
      by_cases c1 : v > (2147483647 - hexV (rd (bytesOf s) (i : Int))) / 16
      · rw [if_pos c1, decide_eq_true c1, ih (i + 1) k v true (by omega) (by omega) h0 h1]
        congr 1
        exact key true v (fun ha => by
          have := hx_ge ((bytesOf s).drop (i + 1)) (16 * v + hexV (rd (bytesOf s) (i : Int))) ha (by omega)
          simp; omega) (fun _ h => absurd (Or.inl rfl) h)
      · rw [if_neg c1, decide_eq_false c1, w64 (x := v * 16) (by omega), w64 (by omega), ih (i + 1) k _ false (by omega) (by omega) (by omega) (by omega)]
        congr 1
        rw [show v * 16 + hexV (rd (bytesOf s) (i : Int)) = 16 * v + hexV (rd (bytesOf s) (i : Int)) by omega]
        exact key false _ (fun _ => rfl) (fun _ _ => rfl)
/-- Which number digits by sixteen are. -/
def parseH (l : List Int) : Int × Int := if allH l = false ∨ l = [] then (0, 3) else if hx 0 l > 2147483647 then (0, 5) else (hx 0 l, 0)
theorem Hex_eq (s : ByteArray) (hs : s.size ≤ 140737488351232) {k : Nat} (hk : s.size + 3 < k) : num_Hex.f k s = some (parseH (bytesOf s)) := by
  unfold num_Hex.f
  have := Hex_l0 s hs s.size 0 k 0 false (by omega) hk (by omega) (by omega)
  rw [show ((0 : Nat) : Int) = 0 from rfl] at this
  rw [this, List.drop_zero]
  congr 1
  unfold hexR parseH
  cases h : bytesOf s with
  | nil => simp
  | cons a l =>
    cases ha : allH (a :: l) with
    | false => simp
    | true => simp
-- sixteen, the document's
def stripL : List Int → List Int
  | [] => []
  | [c] => [c]
  | c :: d :: l => if c = 48 then stripL (d :: l) else c :: d :: l
theorem strip_eq (d : Nat) : ∀ (s : ByteArray) (k : Nat), s.size ≤ 140737488351232 → s.size = d → d < k → ∃ t, larumref03_strip.l0 k s = some t ∧ bytesOf t = stripL (bytesOf s) ∧ t.size ≤ s.size := by
  induction d with
  | zero =>
    intro s k hs hd hk
    obtain ⟨k, rfl⟩ : ∃ m, k = m + 1 := ⟨k - 1, by omega⟩
    have hn : bytesOf s = [] := List.eq_nil_of_length_eq_zero (by rw [bytesOf_length]; exact hd)
    refine ⟨s, ?_, by rw [hn]; rfl, Nat.le_refl _⟩
    simp only [larumref03_strip.l0]
    rw [if_neg (by omega)]
  | succ d ih =>
    intro s k hs hd hk
    obtain ⟨k, rfl⟩ : ∃ m, k = m + 1 := ⟨k - 1, by omega⟩
    have hl := bytesOf_length s
    simp only [larumref03_strip.l0]
    rcases hb : bytesOf s with _ | ⟨c, _ | ⟨e, l⟩⟩
    · rw [hb] at hl; simp at hl; omega
    · rw [hb] at hl
      simp at hl
      exact ⟨s, by rw [if_neg (by omega)], hb, Nat.le_refl _⟩
    · rw [hb] at hl
      simp at hl
      rw [if_pos (by omega), if_pos (by omega), bt_rd, hb, rd_cons_zero]
      by_cases hc : c = 48
      · rw [if_pos hc, if_pos (by omega)]
        obtain ⟨t, h1, h2, h3⟩ := ih (s.extract 1 s.size) k (by simp; omega) (by simp; omega) (by omega)
        refine ⟨t, h1, ?_, by simp at h3; omega⟩
        rw [h2, bts_extract_to, hb]
        simp only [List.drop_succ_cons, List.drop_zero]
        conv => rhs; unfold stripL
        rw [if_pos hc]
      · rw [if_neg hc]
        refine ⟨s, rfl, ?_, Nat.le_refl _⟩
        rw [hb]; unfold stripL; rw [if_neg hc]
theorem stripL_ne : ∀ l, l ≠ [] → stripL l ≠ []
  | [], h => absurd rfl h
  | [_], h => h
  | c :: d :: l, h => by
    unfold stripL
    split
    · exact stripL_ne (d :: l) (by simp)
    · simp
theorem stripL_head : ∀ l, 1 < (stripL l).length → rd (stripL l) 0 ≠ 48
  | [], h => by simp [stripL] at h
  | [_], h => by simp [stripL] at h
  | c :: d :: l, h => by
    unfold stripL at h ⊢
    split
    · rename_i hc
      rw [if_pos hc] at h
      exact stripL_head (d :: l) h
    · rename_i hc; exact hc
theorem hx_split : ∀ (l : List Int) (v : Int), hx v l = v * 16 ^ l.length + hx 0 l
  | [], v => by simp [hx]
  | c :: l, v => by
    show hx (16 * v + hexV c) l = v * 16 ^ (l.length + 1) + hx (16 * 0 + hexV c) l
    rw [hx_split l (16 * v + hexV c), hx_split l (16 * 0 + hexV c), Int.pow_succ]
    have e1 : (16 * v + hexV c) * 16 ^ l.length = v * (16 ^ l.length * 16) + hexV c * 16 ^ l.length := by
      rw [Int.add_mul]; congr 1
      rw [Int.mul_comm 16 v, Int.mul_assoc, Int.mul_comm 16 (16 ^ l.length)]
    have e2 : (16 * 0 + hexV c) * 16 ^ l.length = hexV c * 16 ^ l.length := by simp
    omega
theorem pow_pos16 (n : Nat) : (0 : Int) < 16 ^ n := Int.pow_pos (by decide)
theorem hx_cons (c : Int) (l : List Int) : hx 0 (c :: l) = hexV c * 16 ^ l.length + hx 0 l := by
  show hx (16 * 0 + hexV c) l = _
  rw [hx_split]; simp
theorem hx_lt : ∀ l : List Int, allH l = true → hx 0 l < 16 ^ l.length
  | [], _ => by simp [hx]
  | c :: l, h => by
    simp only [allH, List.all_cons, Bool.and_eq_true, decide_eq_true_eq] at h
    have ih := hx_lt l h.2
    have hp := pow_pos16 l.length
    have hb := hexV_bd c
    rw [hx_cons, List.length_cons, Int.pow_succ]
    have := Int.mul_le_mul_of_nonneg_right (show hexV c ≤ 15 by omega) (Int.le_of_lt hp)
    omega
theorem allH_stripL : ∀ l, allH l = true → allH (stripL l) = true
  | [], h => h
  | [_], h => h
  | c :: d :: l, h => by
    unfold stripL
    split
    · exact allH_stripL (d :: l) (by simp only [allH, List.all_cons, Bool.and_eq_true] at h ⊢; exact h.2)
    · exact h
theorem hx_stripL : ∀ l, hx 0 (stripL l) = hx 0 l
  | [] => rfl
  | [_] => rfl
  | c :: d :: l => by
    unfold stripL
    split
    · rename_i h
      rw [hx_stripL (d :: l), h]; rfl
    · rfl
theorem pow_le16 {a b : Nat} (h : a ≤ b) : (16 : Int) ^ a ≤ 16 ^ b := by
  have := Nat.pow_le_pow_right (show 0 < 16 by decide) h
  exact_mod_cast this
theorem hx_big {l : List Int} (hn : l ≠ []) (ha : allH l = true) (h0 : 1 < l.length → rd l 0 ≠ 48) : hx 0 l > 2147483647 ↔ (8 < l.length ∨ l.length = 8 ∧ hexV (rd l 0) > 7) := by
  rcases l with _ | ⟨c, l⟩
  · exact absurd rfl hn
  · simp only [allH, List.all_cons, Bool.and_eq_true, decide_eq_true_eq] at ha
    have hb := hexV_bd c
    have hl := hx_lt l ha.2
    have hg := hx_ge l 0 ha.2 (by omega)
    have hp := pow_pos16 l.length
    rw [rd_cons_zero, hx_cons, List.length_cons]
    rw [rd_cons_zero, List.length_cons] at h0
    have hc : 0 < l.length → 1 ≤ hexV c := by
      intro h
      have := h0 (by omega)
      have h1 := ha.1
      unfold hexV at h1 ⊢
      repeat' split at h1
      all_goals (repeat' split)
      all_goals omega
    have e7 : (16 : Int) ^ 7 = 268435456 := by decide
    have e8 : (16 : Int) ^ 8 = 4294967296 := by decide
    rcases Nat.lt_trichotomy l.length 7 with h | h | h
    · have h6 := pow_le16 (show l.length + 1 ≤ 7 by omega)
      rw [Int.pow_succ] at h6
      have := Int.mul_le_mul_of_nonneg_right (show hexV c ≤ 15 by omega) (Int.le_of_lt hp)
      constructor
      · intro h1; exfalso; omega
      · intro h1; exfalso; omega
    · rw [h, e7] at hl ⊢
      constructor
      · intro h1; right; exact ⟨rfl, by omega⟩
      · intro h1; rcases h1 with h1 | ⟨_, h1⟩ <;> omega
    · have h8 := pow_le16 (show 8 ≤ l.length by omega)
      have := Int.mul_le_mul_of_nonneg_right (show 1 ≤ hexV c from hc (by omega)) (Int.le_of_lt hp)
      constructor
      · intro _; left; omega
      · intro _; omega
theorem rdigit_eq (c : Int) : larumref03_digit.f c = some (hexV c) := rfl
theorem RHex_l1 (s : ByteArray) (hs : s.size ≤ 140737488351232) (d : Nat) : ∀ (i k : Nat) (v : Int), i + d = s.size → d < k → allH ((bytesOf s).drop i) = true → 0 ≤ v → hx v ((bytesOf s).drop i) ≤ 2147483647 →
    larumref03_Hex.l1 k s v (i : Int) = some (hx v ((bytesOf s).drop i), 0) := by
  induction d with
  | zero =>
    intro i k v hi hk _ _ _
    obtain ⟨k, rfl⟩ : ∃ m, k = m + 1 := ⟨k - 1, by omega⟩
    simp only [larumref03_Hex.l1]
    rw [if_neg (by omega), List.drop_of_length_le (by rw [bytesOf_length]; omega)]
    rfl
  | succ d ih =>
    intro i k v hi hk ha h0 h1
    obtain ⟨k, rfl⟩ : ∃ m, k = m + 1 := ⟨k - 1, by omega⟩
    have hv := hexV_bd (rd (bytesOf s) (i : Int))
    rw [drop_rd (by rw [bytesOf_length]; omega)] at ha h1 ⊢
    simp only [allH, List.all_cons, Bool.and_eq_true, decide_eq_true_eq] at ha
    have hge := hx_ge ((bytesOf s).drop (i + 1)) (16 * v + hexV (rd (bytesOf s) (i : Int))) ha.2 (by omega)
    have h1' : hx (16 * v + hexV (rd (bytesOf s) (i : Int))) ((bytesOf s).drop (i + 1)) ≤ 2147483647 := h1
    simp only [larumref03_Hex.l1]
    rw [if_pos (by omega), if_pos (by omega), rdigit_eq, bt_rd]
    simp only [Option.bind_some]
    rw [w64 (x := 16 * v) (by omega), w64 (x := 16 * v + hexV (rd (bytesOf s) (i : Int))) (by omega), w64 (x := (i : Int) + 1) (by omega)]
    exact ih (i + 1) k _ (by omega) (by omega) ha.2 (by omega) h1'
theorem RHex_l0 (s : ByteArray) (hs : s.size ≤ 140737488351232) (d : Nat) : ∀ (i k : Nat), i + d = s.size → s.size + d + 10 < k → (allH ((bytesOf s).take i) = true) → larumref03_Hex.l0 k s (i : Int) = some (parseH (bytesOf s)) := by
  have hl := bytesOf_length s
  induction d with
  | zero =>
    intro i k hi hk ha
    obtain ⟨k, rfl⟩ : ∃ m, k = m + 2 := ⟨k - 2, by omega⟩
    rw [List.take_of_length_le (by omega)] at ha
    simp only [larumref03_Hex.l0]
    rw [if_neg (by omega)]
    by_cases c : s.toList = ([] : List UInt8)
    · rw [if_pos c, (tl_nil s).1 c]; rfl
    have hn : bytesOf s ≠ [] := fun h => c ((tl_nil s).2 h)
    obtain ⟨t, t1, t2, t3⟩ := strip_eq s.size s (k + 1) hs rfl (by omega)
    have ht := bytesOf_length t
    have at_ := allH_stripL _ ha
    have nt := stripL_ne _ hn
    have et := hx_stripL (bytesOf s)
    have h0 := stripL_head (bytesOf s)
    rw [← t2] at at_ nt et h0
    have big := hx_big nt at_ h0
    rw [if_neg c]
    unfold larumref03_strip.f
    rw [t1]
    simp only [Option.bind_some]
    have j1t : larumref03_Hex.j1 (k + 1) t true = some (0, 5) := by simp only [larumref03_Hex.j1]; rw [if_pos trivial]
    have j1f : hx 0 (bytesOf t) ≤ 2147483647 → larumref03_Hex.j1 (k + 1) t false = some (hx 0 (bytesOf t), 0) := by
      intro h
      simp only [larumref03_Hex.j1]
      rw [if_neg (by simp)]
      exact RHex_l1 t (by omega) t.size 0 k 0 (by omega) (by omega) at_ (by omega) h
    have hp : parseH (bytesOf s) = if hx 0 (bytesOf t) > 2147483647 then (0, 5) else (hx 0 (bytesOf t), 0) := by
      unfold parseH
      rw [if_neg (by simp [ha, hn]), et]
    rw [hp]
    by_cases c8 : (t.size : Int) > 8
    · rw [if_pos c8, j1t, if_pos (big.2 (Or.inl (by omega)))]
    rw [if_neg c8]
    by_cases c9 : (t.size : Int) = 8
    · rw [if_pos c9, if_pos (by omega), rdigit_eq, bt_rd]
      simp only [Option.bind_some]
      by_cases c7 : hexV (rd (bytesOf t) 0) > 7
      · rw [decide_eq_true c7, j1t, if_pos (big.2 (Or.inr ⟨by omega, c7⟩))]
      · have hno : ¬ hx 0 (bytesOf t) > 2147483647 := fun h => by rcases big.1 h with h | ⟨_, h⟩ <;> omega
        rw [decide_eq_false c7, j1f (by omega), if_neg hno]
    · have hno : ¬ hx 0 (bytesOf t) > 2147483647 := fun h => by rcases big.1 h with h | ⟨h, _⟩ <;> omega
      rw [if_neg c9, j1f (by omega), if_neg hno]
  | succ d ih =>
    intro i k hi hk ha
    obtain ⟨k, rfl⟩ : ∃ m, k = m + 1 := ⟨k - 1, by omega⟩
    have hlt : i < (bytesOf s).length := by omega
    have hrd : (bytesOf s)[i] = rd (bytesOf s) (i : Int) := by unfold rd; simp [List.getD_eq_getElem?_getD, List.getElem?_eq_getElem hlt]
    simp only [larumref03_Hex.l0]
    rw [if_pos (by omega), if_pos (by omega), rdigit_eq, bt_rd]
    simp only [Option.bind_some]
    by_cases c : hexV (rd (bytesOf s) (i : Int)) < 0
    · rw [if_pos c]
      unfold parseH
      rw [if_pos]
      left
      cases h : allH (bytesOf s) with
      | false => rfl
      | true =>
        exfalso
        have := (List.all_eq_true.1 h) _ (List.getElem_mem hlt)
        rw [hrd] at this
        simp at this
        omega
    · rw [if_neg c, w64 (by omega)]
      exact ih (i + 1) k (by omega) (by omega) (by
        rw [List.take_succ_eq_append_getElem hlt]
        unfold allH at ha ⊢
        rw [List.all_append, ha, hrd]
        simp; omega)
theorem RHex_eq (s : ByteArray) (hs : s.size ≤ 140737488351232) {k : Nat} (hk : 2 * s.size + 10 < k) : larumref03_Hex.f k s = some (parseH (bytesOf s)) := by
  unfold larumref03_Hex.f
  exact RHex_l0 s hs s.size 0 k (by omega) (by omega) rfl
-- signs by sixteen, read
theorem awake60 : larumlaw08_awake.f 200 = some true := by decide +kernel
theorem awake_at {k : Nat} (h : 200 ≤ k) : larumlaw08_awake.f k = some true := at_rounds (g := fun k => larumlaw08_awake.f k) (fun k => larumlaw08_awake.mono k) h awake60
theorem short_eq (s : ByteArray) : ∃ t, larumlaw08_short.f s = some t ∧ t.size ≤ 100 := by
  unfold larumlaw08_short.f
  by_cases h : (s.size : Int) > 100
  · exact ⟨_, by rw [if_pos h, if_pos (by decide), if_pos (by omega)], by simp; omega⟩
  · exact ⟨s, by rw [if_neg h], by omega⟩
def decL : Nat → Bool → List Int → Option (List Int)
  | 0, _, _ => none
  | _ + 1, _, [] => some []
  | f + 1, plus, c :: r => if c = 37 then (match r with
      | a :: b :: r' => if 0 ≤ hexV a ∧ 0 ≤ hexV b then (decL f plus r').map ((16 * hexV a + hexV b) :: ·) else none
      | _ => none) else (decL f plus r).map ((if c = 43 ∧ plus = true then 32 else c) :: ·)
theorem dec_plain {f : Nat} {plus : Bool} {c : Int} {r : List Int} (h : c ≠ 37) : decL (f + 1) plus (c :: r) = (decL f plus r).map ((if c = 43 ∧ plus = true then 32 else c) :: ·) := by simp only [decL, if_neg h]
theorem dec_two {f : Nat} {plus : Bool} {a b : Int} {r : List Int} : decL (f + 1) plus (37 :: a :: b :: r) = if 0 ≤ hexV a ∧ 0 ≤ hexV b then (decL f plus r).map ((16 * hexV a + hexV b) :: ·) else none := by simp only [decL, if_true]
theorem dec_few {f : Nat} {plus : Bool} {r : List Int} (h : r.length < 2) : decL (f + 1) plus (37 :: r) = none := by
  rcases r with _ | ⟨a, _ | ⟨b, r⟩⟩
  · simp only [decL, if_true]
  · simp only [decL, if_true]
  · simp at h; omega
theorem dec_byt : ∀ (f : Nat) (plus : Bool) (l : List Int), Byt l → match decL f plus l with | some m => Byt m | none => True
  | 0, plus, l, _ => by simp [decL]
  | f + 1, plus, [], _ => by simp only [decL]; intro x hx; cases hx
  | f + 1, plus, c :: r, h => by
    have hc := h c (by simp)
    by_cases h37 : c = 37
    · subst h37
      rcases r with _ | ⟨a, _ | ⟨b, r⟩⟩
      · rw [dec_few (by simp)]; trivial
      · rw [dec_few (by simp)]; trivial
      · rw [dec_two]
        split
        · rename_i m hm
          split at hm
          · rename_i hab
            have ih := dec_byt f plus r (fun x hx => h x (by simp [hx]))
            cases hd : decL f plus r with
            | none => rw [hd] at hm; cases hm
            | some m' =>
              rw [hd] at hm ih
              cases hm
              intro x hx
              have h1 := hexV_bd a
              have h2 := hexV_bd b
              rcases List.mem_cons.1 hx with rfl | hx
              · omega
              · exact ih x hx
          · cases hm
        · trivial
    · rw [dec_plain h37]
      have ih := dec_byt f plus r (fun x hx => h x (List.mem_cons_of_mem _ hx))
      cases hd : decL f plus r with
      | none => trivial
      | some m' =>
        rw [hd] at ih
        intro x hx
        rcases List.mem_cons.1 hx with rfl | hx
        · split <;> omega
        · exact ih x hx
def natL (l : List UInt8) : List Int := l.map fun x => (x.toNat : Int)
theorem natL_bts (l : List UInt8) : bytesOf (⟨l.toArray⟩ : ByteArray) = natL l := rfl
theorem natL_snoc (l : List UInt8) (x : Int) (h : 0 ≤ x ∧ x ≤ 255) : natL (l ++ [pct_Decode.u8 x]) = natL l ++ [x] := by
  unfold natL
  rw [List.map_append]
  simp only [List.map_cons, List.map_nil, pct_Decode.u8_eq h]
theorem parse_two (a b : Int) : parseH [a, b] = if 0 ≤ hexV a ∧ 0 ≤ hexV b then (16 * hexV a + hexV b, 0) else (0, 3) := by
  have h1 := hexV_bd a
  have h2 := hexV_bd b
  unfold parseH
  by_cases h : 0 ≤ hexV a ∧ 0 ≤ hexV b
  · have ha : allH [a, b] = true := by simp [allH, h]
    have hx : hx 0 [a, b] = 16 * hexV a + hexV b := by simp [hx]
    rw [if_pos h, if_neg (by simp [ha]), hx, if_neg (by omega)]
  · have ha : allH [a, b] = false := by
      cases hh : allH [a, b] with
      | false => rfl
      | true =>
        exfalso; apply h
        simpa [allH] using hh
    rw [if_neg h, if_pos (Or.inl ha)]
theorem two_at (s : ByteArray) (i : Nat) (h : i + 3 ≤ s.size) : (bytesOf s).drop (i + 1) = rd (bytesOf s) ((i + 1 : Nat) : Int) :: rd (bytesOf s) ((i + 2 : Nat) : Int) :: (bytesOf s).drop (i + 3) := by
  have hl := bytesOf_length s
  rw [drop_rd (by omega), drop_rd (by omega)]
theorem ex_two (s : ByteArray) (i : Nat) (h : i + 3 ≤ s.size) : bytesOf (s.extract (i + 1) (i + 3)) = [rd (bytesOf s) ((i + 1 : Nat) : Int), rd (bytesOf s) ((i + 2 : Nat) : Int)] := by
  rw [bts_extract, List.drop_take, two_at s i h, show i + 3 - (i + 1) = 2 by omega]
  rfl
theorem u8wrap {x : Int} (h : 0 ≤ x ∧ x ≤ 255) : IntKind.u8.wrap x = x := by
  have : IntKind.u8.wrap x = x % 256 := by simp [IntKind.wrap, IntKind.bits, IntKind.signed]
  rw [this]; omega
theorem Decode_l0 (s : ByteArray) (plus : Bool) (hs : s.size ≤ 100000) : ∀ (f i k : Nat) (out : List UInt8), s.size < i + f → i ≤ s.size → f + 300000 ≤ k →
    match decL f plus ((bytesOf s).drop i) with | some l => ∃ t, pct_Decode.l0 k s plus (i : Int) out = some (t, 0) ∧ bytesOf t = natL out ++ l | none => pct_Decode.l0 k s plus (i : Int) out = some (⟨#[]⟩, 3) := by
  have hl := bytesOf_length s
  intro f
  induction f with
  | zero => intro i k out h1 h2; omega
  | succ f ih =>
    intro i k out h1 h2 hk
    obtain ⟨k, rfl⟩ : ∃ m, k = m + 1 := ⟨k - 1, by omega⟩
    by_cases hi : i < s.size
    · have hbr := bt_range s (i : Int)
      have step : pct_Decode.l0 (k + 1) s plus (i : Int) out = if bt s (i : Int) = 37 then ((num_Hex.f k (s.extract ((i : Int) + 1).toNat (min ((i : Int) + 3) (s.size : Int)).toNat)).bind fun t => if t.2 = 0 ∧ ¬ ((i : Int) + 3 > (s.size : Int)) then pct_Decode.l0 k s plus ((i : Int) + 3) (out ++ [pct_Decode.u8 (IntKind.u8.wrap t.1)]) else some (⟨#[]⟩, 3)) else if bt s (i : Int) = 43 ∧ plus = true then pct_Decode.l0 k s plus ((i : Int) + 1) (out ++ [32]) else pct_Decode.l0 k s plus ((i : Int) + 1) (out ++ [pct_Decode.u8 (bt s (i : Int))]) := by
        simp only [pct_Decode.l0]
        rw [if_pos (by omega)]
      rw [step, drop_rd (by omega), ← bt_rd]
      generalize hc : bt s (i : Int) = c at hbr
      by_cases h37 : c = 37
      · subst h37
        rw [if_pos rfl]
        by_cases h3 : i + 3 ≤ s.size
        · rw [two_at s i h3, dec_two]
          have e : s.extract ((i : Int) + 1).toNat (min ((i : Int) + 3) (s.size : Int)).toNat = s.extract (i + 1) (i + 3) := by
            congr 1 <;> omega
          have hz : (s.extract (i + 1) (i + 3)).size ≤ 100000 := by simp only [ByteArray.size_extract]; omega
          rw [e, Hex_eq _ (by omega) (by omega), ex_two s i h3, parse_two]
          simp only [Option.bind_some]
          generalize rd (bytesOf s) ((i + 1 : Nat) : Int) = a
          generalize rd (bytesOf s) ((i + 2 : Nat) : Int) = b
          have ha := hexV_bd a
          have hb := hexV_bd b
          by_cases hab : 0 ≤ hexV a ∧ 0 ≤ hexV b
          · simp only [if_pos hab]
            rw [if_pos ⟨trivial, by omega⟩, u8wrap (by omega), show (i : Int) + 3 = ((i + 3 : Nat) : Int) by omega]
            have := ih (i + 3) k (out ++ [pct_Decode.u8 (16 * hexV a + hexV b)]) (by omega) (by omega) (by omega)
            cases hd : decL f plus ((bytesOf s).drop (i + 3)) with
            | none => rw [hd] at this; exact this
            | some l =>
              rw [hd] at this
              obtain ⟨t, t1, t2⟩ := this
              exact ⟨t, t1, by rw [t2, natL_snoc _ _ (by omega)]; simp⟩
          · simp only [if_neg hab]
            rw [if_neg (by simp)]
        · rw [dec_few (by rw [List.length_drop]; omega)]
          cases hx : num_Hex.f k (s.extract ((i : Int) + 1).toNat (min ((i : Int) + 3) (s.size : Int)).toNat) with
          | none =>
            have hz : (s.extract ((i : Int) + 1).toNat (min ((i : Int) + 3) (s.size : Int)).toNat).size ≤ 100000 := by simp only [ByteArray.size_extract]; omega
            rw [Hex_eq _ (by omega) (by omega)] at hx
            cases hx
          | some x =>
            simp only [Option.bind_some]
            rw [if_neg (fun h => h.2 (by omega))]
      · rw [if_neg h37, dec_plain h37]
        rw [show (i : Int) + 1 = ((i + 1 : Nat) : Int) by omega]
        by_cases h43 : c = 43 ∧ plus = true
        · rw [if_pos h43]
          have := ih (i + 1) k (out ++ [32]) (by omega) (by omega) (by omega)
          simp only [if_pos h43]
          cases hd : decL f plus ((bytesOf s).drop (i + 1)) with
          | none => rw [hd] at this; exact this
          | some l =>
            rw [hd] at this
            obtain ⟨t, t1, t2⟩ := this
            exact ⟨t, t1, by rw [t2]; simp [natL]⟩
        · rw [if_neg h43]
          have := ih (i + 1) k (out ++ [pct_Decode.u8 c]) (by omega) (by omega) (by omega)
          simp only [if_neg h43]
          cases hd : decL f plus ((bytesOf s).drop (i + 1)) with
          | none => rw [hd] at this; exact this
          | some l =>
            rw [hd] at this
            obtain ⟨t, t1, t2⟩ := this
            exact ⟨t, t1, by rw [t2, natL_snoc _ _ hbr]; simp⟩
    · have e : (bytesOf s).drop i = [] := List.drop_of_length_le (by omega)
      rw [e]
      have : decL (f + 1) plus [] = some [] := rfl
      rw [this]
      refine ⟨⟨out.toArray⟩, ?_, by rw [natL_bts]; simp⟩
      simp only [pct_Decode.l0]
      rw [if_neg (by omega)]
theorem Decode_f (s : ByteArray) (plus : Bool) (hs : s.size ≤ 1000) {k : Nat} (hk : 400000 ≤ k) :
    match decL (s.size + 1) plus (bytesOf s) with | some l => ∃ t, pct_Decode.f k s plus = some (t, 0) ∧ bytesOf t = l | none => pct_Decode.f k s plus = some (⟨#[]⟩, 3) := by
  have := Decode_l0 s plus (by omega) (s.size + 1) 0 k [] (by omega) (by omega) (by omega)
  rw [List.drop_zero] at this
  unfold pct_Decode.f
  rw [if_pos (by omega)]
  exact this
-- read, the document's
theorem RDecode_l0 (s : ByteArray) (plus : Bool) (hs : s.size ≤ 100000) : ∀ (f i k : Nat) (x6 : List Int), s.size < i + f → i ≤ s.size → f + 300000 ≤ k → x6.length ≤ i → Byt x6 →
    match decL f plus ((bytesOf s).drop i) with | some l => ∃ t, larumref08_Decode.l0 k s plus x6 (i : Int) = some (t, true) ∧ bytesOf t = x6 ++ l | none => larumref08_Decode.l0 k s plus x6 (i : Int) = some (⟨#[]⟩, false) := by
  have hl := bytesOf_length s
  intro f
  induction f with
  | zero => intro i k out h1 h2; omega
  | succ f ih =>
    intro i k x6 h1 h2 hk h6 hy
    obtain ⟨k, rfl⟩ : ∃ m, k = m + 1 := ⟨k - 1, by omega⟩
    by_cases hi : i < s.size
    · have hbr := bt_range s (i : Int)
      have w1 : wrap64 ((i : Int) + 1) = ((i + 1 : Nat) : Int) := by rw [w64 (by omega)]; omega
      have w2 : wrap64 ((i : Int) + 2) = ((i + 2 : Nat) : Int) := by rw [w64 (by omega)]; omega
      have w3 : wrap64 ((i : Int) + 3) = ((i + 3 : Nat) : Int) := by rw [w64 (by omega)]; omega
      have hd0 : (bytesOf s).drop i = bt s (i : Int) :: (bytesOf s).drop (i + 1) := by rw [drop_rd (by omega), ← bt_rd]
      by_cases h37 : bt s (i : Int) = 37
      · by_cases h3 : i + 3 ≤ s.size
        · have e : s.extract ((i + 1 : Nat) : Int).toNat ((i + 3 : Nat) : Int).toNat = s.extract (i + 1) (i + 3) := by
            congr 1
          have hz : (s.extract (i + 1) (i + 3)).size ≤ 100000 := by simp only [ByteArray.size_extract]; omega
          have e1 : larumref08_Decode.l0 (k + 1) s plus x6 (i : Int) = ((larumref03_Hex.f k (s.extract (i + 1) (i + 3))).bind fun bt105 => (if bt105.2 = 0 then (if x6.length < 140737488355328 then (larumref08_Decode.l0 k s plus (x6 ++ [(bt105.1) % 256]) ((i + 3 : Nat) : Int)) else (none)) else (some ((⟨#[]⟩ : ByteArray), false)))) := by
            simp only [larumref08_Decode.l0]
            rw [if_pos (by omega), if_pos (by omega), if_pos h37, w1, w2, w3, if_neg (by omega), if_pos (by omega), if_pos (by omega), if_pos (by omega), e]
          rw [RHex_eq _ (by omega) (by omega), ex_two s i h3, parse_two] at e1
          simp only [Option.bind_some] at e1
          rw [hd0, h37, two_at s i h3, dec_two, e1]
          clear e1 hd0
          generalize rd (bytesOf s) ((i + 1 : Nat) : Int) = a
          generalize rd (bytesOf s) ((i + 2 : Nat) : Int) = b
          have ha := hexV_bd a
          have hb := hexV_bd b
          by_cases hab : 0 ≤ hexV a ∧ 0 ≤ hexV b
          · have e2 : (16 * hexV a + hexV b) % 256 = 16 * hexV a + hexV b := by omega
            have e3 : x6.length < 140737488355328 := by omega
            simp only [if_pos hab, if_true, if_pos e3, e2]
            have := ih (i + 3) k (x6 ++ [16 * hexV a + hexV b]) (by omega) (by omega) (by omega) (by simp; omega) (by
              intro x hx
              rcases List.mem_append.1 hx with hx | hx
              · exact hy x hx
              · rw [List.mem_singleton.1 hx]; omega)
            cases hd : decL f plus ((bytesOf s).drop (i + 3)) with
            | none => rw [hd] at this; exact this
            | some l =>
              rw [hd] at this
              obtain ⟨t, t1, t2⟩ := this
              exact ⟨t, t1, by rw [t2]; simp⟩
          · simp only [if_neg hab]
            rfl
        · have e1 : larumref08_Decode.l0 (k + 1) s plus x6 (i : Int) = some (⟨#[]⟩, false) := by
            simp only [larumref08_Decode.l0]
            rw [if_pos (by omega), if_pos (by omega), if_pos h37, w2, if_pos (by omega)]
          rw [hd0, h37, dec_few (by rw [List.length_drop]; omega), e1]
      · rw [hd0, dec_plain h37]
        have e3 : x6.length < 140737488355328 := by omega
        generalize hc : bt s (i : Int) = c at hbr h37
        by_cases h43 : c = 43 ∧ plus = true
        · obtain ⟨g1, g2⟩ := h43
          have e1 : larumref08_Decode.l0 (k + 1) s plus x6 (i : Int) = larumref08_Decode.l0 k s plus (x6 ++ [32]) ((i + 1 : Nat) : Int) := by
            simp only [larumref08_Decode.l0, hc]
            rw [if_pos (by omega), if_pos (by omega), if_neg h37, if_pos g2, if_pos g1, if_pos e3, w1]
          rw [e1]
          have := ih (i + 1) k (x6 ++ [32]) (by omega) (by omega) (by omega) (by simp; omega) (by
              intro x hx
              rcases List.mem_append.1 hx with hx | hx
              · exact hy x hx
              · rw [List.mem_singleton.1 hx]; omega)
          simp only [if_pos (show c = 43 ∧ plus = true from ⟨g1, g2⟩)]
          cases hd : decL f plus ((bytesOf s).drop (i + 1)) with
          | none => rw [hd] at this; exact this
          | some l =>
            rw [hd] at this
            obtain ⟨t, t1, t2⟩ := this
            exact ⟨t, t1, by rw [t2]; simp⟩
        · have e1 : larumref08_Decode.l0 (k + 1) s plus x6 (i : Int) = larumref08_Decode.l0 k s plus (x6 ++ [c]) ((i + 1 : Nat) : Int) := by
            simp only [larumref08_Decode.l0, hc]
            rw [if_pos (by omega), if_pos (by omega), if_neg h37, w1]
            cases plus with
            | true => rw [if_pos rfl, if_neg (fun h => h43 ⟨h, rfl⟩), if_pos e3]
            | false => rw [if_neg (by simp), if_pos e3]
          rw [e1]
          have := ih (i + 1) k (x6 ++ [c]) (by omega) (by omega) (by omega) (by simp; omega) (by
              intro x hx
              rcases List.mem_append.1 hx with hx | hx
              · exact hy x hx
              · rw [List.mem_singleton.1 hx]; exact hbr)
          simp only [if_neg h43]
          cases hd : decL f plus ((bytesOf s).drop (i + 1)) with
          | none => rw [hd] at this; exact this
          | some l =>
            rw [hd] at this
            obtain ⟨t, t1, t2⟩ := this
            exact ⟨t, t1, by rw [t2]; simp⟩
    · have e : (bytesOf s).drop i = [] := List.drop_of_length_le (by omega)
      have e1 : larumref08_Decode.l0 (k + 1) s plus x6 (i : Int) = some (strOfNums x6, true) := by
        simp only [larumref08_Decode.l0]
        rw [if_neg (by omega)]
      rw [e, e1]
      exact ⟨strOfNums x6, rfl, by rw [bts_son hy]; simp⟩
theorem RDecode_f (s : ByteArray) (plus : Bool) (hs : s.size ≤ 1000) {k : Nat} (hk : 400000 ≤ k) :
    match decL (s.size + 1) plus (bytesOf s) with | some l => ∃ t, larumref08_Decode.f k s plus = some (t, true) ∧ bytesOf t = l | none => larumref08_Decode.f k s plus = some (⟨#[]⟩, false) := by
  have := RDecode_l0 s plus (by omega) (s.size + 1) 0 k [] (by omega) (by omega) (by omega) (by simp) (fun x hx => by cases hx)
  rw [List.drop_zero] at this
  exact this
-- prefixes, cuts at a byte
def nats (l : List UInt8) : List Int := l.map fun x => (x.toNat : Int)
theorem nats_bts (s : ByteArray) : nats s.data.toList = bytesOf s := rfl
theorem pre_nats : ∀ (p l : List UInt8), p.isPrefixOf l = (nats p).isPrefixOf (nats l)
  | [], _ => by simp [nats]
  | _ :: _, [] => by simp [nats]
  | a :: p, b :: l => by
    have e : (a == b) = ((a.toNat : Int) == (b.toNat : Int)) := by
      rw [Bool.eq_iff_iff, beq_iff_eq, beq_iff_eq, ← UInt8.toNat_inj]; omega
    show (a == b && p.isPrefixOf l) = (((a.toNat : Int) == (b.toNat : Int)) && (nats p).isPrefixOf (nats l))
    rw [e, pre_nats p l]
theorem CutPrefix_f (s p : ByteArray) : ∃ t b, strings_CutPrefix.f s p = some (t, b) ∧ b = (bytesOf p).isPrefixOf (bytesOf s) ∧ bytesOf t = (if (bytesOf p).isPrefixOf (bytesOf s) = true then (bytesOf s).drop (bytesOf p).length else bytesOf s) ∧ t.size ≤ s.size := by
  have e : Lib.hasPrefix s.data.toList p.data.toList = (bytesOf p).isPrefixOf (bytesOf s) := pre_nats _ _
  have eb : bytesOf (⟨(Lib.trimPrefix s.data.toList p.data.toList).toArray⟩ : ByteArray) = (if (bytesOf p).isPrefixOf (bytesOf s) = true then (bytesOf s).drop (bytesOf p).length else bytesOf s) := by
    unfold Lib.trimPrefix
    rw [e]
    have h0 : ∀ l : List UInt8, bytesOf (⟨l.toArray⟩ : ByteArray) = nats l := fun l => rfl
    rw [h0]
    by_cases h : (bytesOf p).isPrefixOf (bytesOf s) = true
    · rw [if_pos h, if_pos h]
      unfold nats
      rw [List.map_drop]
      simp [bytesOf]
    · rw [if_neg h, if_neg h]; rfl
  refine ⟨_, _, rfl, e, eb, ?_⟩
  rw [bts_size, eb, bts_size]
  split
  · rw [List.length_drop]; omega
  · exact Nat.le_refl _
theorem idx_while (c : UInt8) : ∀ (l : List UInt8),
    (Lib.indexByte l c = -1 ∧ (nats l).takeWhile (fun x => x != (c.toNat : Int)) = nats l ∧ (nats l).dropWhile (fun x => x != (c.toNat : Int)) = [] ∧ (nats l).contains (c.toNat : Int) = false) ∨
    ∃ j : Nat, Lib.indexByte l c = (j : Int) ∧ j < l.length ∧ (nats l).takeWhile (fun x => x != (c.toNat : Int)) = (nats l).take j ∧ (nats l).dropWhile (fun x => x != (c.toNat : Int)) = (nats l).drop j ∧ (nats l).contains (c.toNat : Int) = true
  | [] => Or.inl ⟨rfl, rfl, rfl, rfl⟩
  | x :: l => by
    have hn : nats (x :: l) = (x.toNat : Int) :: nats l := rfl
    by_cases h : x = c
    · subst h
      refine Or.inr ⟨0, by simp [Lib.indexByte], by simp, ?_, ?_, ?_⟩ <;> rw [hn] <;> simp
    · have hb : (x == c) = false := by simpa using h
      have hi : ¬ ((x.toNat : Int) = (c.toNat : Int)) := fun e => h (UInt8.toNat_inj.1 (by omega))
      have hi2 : ((x.toNat : Int) != (c.toNat : Int)) = true := by simpa using hi
      have hi3 : ((c.toNat : Int) == (x.toNat : Int)) = false := by simpa using fun e => hi e.symm
      rcases idx_while c l with ⟨h1, h2, h3, h4⟩ | ⟨j, h1, h2, h3, h4, h5⟩
      · refine Or.inl ⟨by simp [Lib.indexByte, hb, h1], ?_, ?_, ?_⟩
        · rw [hn, List.takeWhile_cons, hi2, if_pos rfl, h2]
        · rw [hn, List.dropWhile_cons, hi2, if_pos rfl, h3]
        · rw [hn, List.contains_cons, hi3, h4]; rfl
      · refine Or.inr ⟨j + 1, ?_, by simpa using h2, ?_, ?_, ?_⟩
        · have : ¬ ((j : Int) = -1) := by omega
          simp [Lib.indexByte, hb, h1, this]
        · rw [hn, List.takeWhile_cons, hi2, if_pos rfl, h3]; rfl
        · rw [hn, List.dropWhile_cons, hi2, if_pos rfl, h4]; rfl
        · rw [hn, List.contains_cons, h5, Bool.or_true]
theorem Cut_f (s : ByteArray) (hs : s.size < 4294967281) (c : UInt8) : ∃ t u b, strings_Cut.f s ⟨#[c]⟩ = some (t, u, b) ∧ bytesOf t = (bytesOf s).takeWhile (fun x => x != (c.toNat : Int)) ∧ bytesOf u = ((bytesOf s).dropWhile (fun x => x != (c.toNat : Int))).drop 1 ∧ b = (bytesOf s).contains (c.toNat : Int) := by
  unfold strings_Cut.f
  have ea : strings_Cut.at s ⟨#[c]⟩ = Lib.indexByte s.data.toList c := rfl
  rw [if_pos ⟨rfl, hs⟩, ea]
  rcases idx_while c s.data.toList with ⟨h1, h2, h3, h4⟩ | ⟨j, h1, h2, h3, h4, h5⟩
  · rw [nats_bts] at h2 h3 h4
    rw [h1, if_pos (by decide)]
    exact ⟨_, _, _, rfl, h2.symm, by rw [h3]; rfl, h4.symm⟩
  · rw [nats_bts] at h3 h4 h5
    rw [h1, if_neg (by omega), show ((j : Int)).toNat = j by omega]
    refine ⟨_, _, _, rfl, ?_, ?_, h5.symm⟩
    · rw [bts_extract, List.drop_zero, h3]
    · rw [bts_extract_to, h4, List.drop_drop]
-- parts at a byte
def cutG (c : Int) : List Int → List Int → List (List Int)
  | w, [] => [w]
  | w, x :: t => if x = c then w :: cutG c [] t else cutG c (w ++ [x]) t
theorem cut_idx (c : UInt8) : ∀ (l : List UInt8) (w : List Int),
    (Lib.indexByte l c = -1 ∧ l.count c = 0 ∧ cutG (c.toNat : Int) w (l.map fun x => (x.toNat : Int)) = [w ++ l.map fun x => (x.toNat : Int)]) ∨
    ∃ j : Nat, Lib.indexByte l c = (j : Int) ∧ j < l.length ∧ l.count c = (l.drop (j + 1)).count c + 1 ∧
      cutG (c.toNat : Int) w (l.map fun x => (x.toNat : Int)) = (w ++ (l.take j).map fun x => (x.toNat : Int)) :: cutG (c.toNat : Int) [] ((l.drop (j + 1)).map fun x => (x.toNat : Int))
  | [], w => Or.inl ⟨rfl, rfl, by simp [cutG]⟩
  | x :: l, w => by
    by_cases h : x = c
    · subst h
      refine Or.inr ⟨0, by simp [Lib.indexByte], by simp, by simp, by simp [cutG]⟩
    · have hb : (x == c) = false := by simpa using h
      have hi : ¬ ((x.toNat : Int) = (c.toNat : Int)) := fun e => h (UInt8.toNat_inj.1 (by omega))
      rcases cut_idx c l (w ++ [(x.toNat : Int)]) with ⟨h1, h2, h3⟩ | ⟨j, h1, h2, h3, h4⟩
      · refine Or.inl ⟨by simp [Lib.indexByte, hb, h1], by rw [List.count_cons_of_ne (by simpa using h)]; exact h2, ?_⟩
        simp only [List.map_cons, cutG, if_neg hi]
        rw [h3]; simp
      · refine Or.inr ⟨j + 1, ?_, by simpa using h2, ?_, ?_⟩
        · have : ¬ ((j : Int) = -1) := by omega
          simp [Lib.indexByte, hb, h1, this]
        · rw [List.count_cons_of_ne (by simpa using h), h3]; rfl
        · simp only [List.map_cons, cutG, if_neg hi, List.take_succ_cons, List.drop_succ_cons]
          rw [h4]; simp
theorem split_cut (c : UInt8) : ∀ (n : Nat) (s : ByteArray), s.data.toList.count c ≤ n → (Lib.splitB ⟨#[c]⟩ 0 n s).map bytesOf = cutG (c.toNat : Int) [] (bytesOf s)
  | 0, s, h => by
    rcases cut_idx c s.data.toList [] with ⟨_, _, h3⟩ | ⟨j, _, _, h3, _⟩
    · rw [Lib.splitB_zero]
      show [bytesOf s] = cutG _ [] (s.data.toList.map _)
      rw [h3]; rfl
    · omega
  | n + 1, s, h => by
    have ei : Lib.indexB s ⟨#[c]⟩ = Lib.indexByte s.data.toList c := by
      show Lib.index s.data.toList [c] = _
      rw [Lib.index_one]
    rcases cut_idx c s.data.toList [] with ⟨h1, _, h3⟩ | ⟨j, h1, h2, h3, h4⟩
    · rw [Lib.splitB_miss _ _ _ _ (by rw [ei, h1])]
      show [bytesOf s] = cutG _ [] (s.data.toList.map _)
      rw [h3]; rfl
    · unfold Lib.splitB
      have hne : ((j : Int) == -1) = false := by first | (simp; done) | (simp; omega)
      have hsz : (⟨#[c]⟩ : ByteArray).size = 1 := rfl
      rw [ei, h1, hne, if_neg (by simp), List.map_cons, hsz, show ((j : Int)).toNat + 0 = j by omega, show ((j : Int)).toNat + 1 = j + 1 by omega]
      have hd : (s.extract (j + 1) s.size).data.toList = s.data.toList.drop (j + 1) := by
        simp
        exact List.take_of_length_le (by rw [List.length_drop]; exact Nat.le_refl _)
      rw [split_cut c n (s.extract (j + 1) s.size) (by rw [hd]; omega), bts_extract, List.drop_zero, bts_extract_to]
      show _ = cutG _ [] (s.data.toList.map _)
      rw [h4]
      simp only [bytesOf, List.nil_append, List.map_take, List.map_drop]
theorem Split_f (s : ByteArray) (hs : s.size < 4294967281) (c : Int) (hc : 0 ≤ c ∧ c ≤ 255) : ∃ L, strings_Split.f s (strOfNums [c]) = some L ∧ L.map bytesOf = cutG c [] (bytesOf s) := by
  have e : strOfNums [c] = ⟨#[UInt8.ofNat c.toNat]⟩ := rfl
  have ec : ((UInt8.ofNat c.toNat).toNat : Int) = c := by rw [UInt8.toNat_ofNat']; omega
  unfold strings_Split.f
  rw [e, if_pos ⟨rfl, hs⟩]
  refine ⟨_, rfl, ?_⟩
  rw [split_cut _ _ s ?_, ec]
  show _ ≤ Lib.count s.data.toList [UInt8.ofNat c.toNat]
  rw [Lib.count_one]
  exact Nat.le_refl _
theorem RCut_l0 (s : ByteArray) (hs : s.size ≤ 1000000) (c : Int) : ∀ (f i : Nat) (L : List ByteArray) (w : ByteArray) (k : Nat), i + f = s.size → f + 1 ≤ k → L.length ≤ i → w.size ≤ i →
    ∃ R, larumref01_Cut.l0 k s c L w (i : Int) = some R ∧ R.map bytesOf = L.map bytesOf ++ cutG c (bytesOf w) ((bytesOf s).drop i) := by
  intro f
  induction f with
  | zero =>
    intro i L w k hi hk hL hw
    obtain ⟨k, rfl⟩ : ∃ j, k = j + 1 := ⟨k - 1, by omega⟩
    simp only [larumref01_Cut.l0]
    rw [if_neg (by omega), if_pos (by omega), List.drop_of_length_le (by rw [bytesOf_length]; omega)]
    exact ⟨_, rfl, by simp [cutG]⟩
  | succ f ih =>
    intro i L w k hi hk hL hw
    obtain ⟨k, rfl⟩ : ∃ j, k = j + 1 := ⟨k - 1, by omega⟩
    rw [drop_rd (by rw [bytesOf_length]; omega)]
    simp only [larumref01_Cut.l0]
    rw [if_pos (by omega), if_pos (by omega), bt_rd, w64 (by omega), show (i : Int) + 1 = ((i + 1 : Nat) : Int) by omega]
    by_cases h : rd (bytesOf s) (i : Int) = c
    · rw [if_pos h, if_pos (by omega)]
      obtain ⟨R, r1, r2⟩ := ih (i + 1) (L ++ [w]) ⟨#[]⟩ k (by omega) (by omega) (by simp; omega) (Nat.zero_le _)
      refine ⟨R, r1, ?_⟩
      rw [r2]
      have e0 : bytesOf (⟨#[]⟩ : ByteArray) = [] := rfl
      simp [cutG, h, e0]
    · have ex : bytesOf (s.extract (i : Int).toNat ((i + 1 : Nat) : Int).toNat) = [rd (bytesOf s) (i : Int)] := by
        have hl : i < (bytesOf s).length := by rw [bytesOf_length]; omega
        rw [show (i : Int).toNat = i by omega, show (((i + 1 : Nat) : Int)).toNat = i + 1 by omega, bts_extract, List.drop_take, drop_rd hl]
        simp
      have hz : (s.extract (i : Int).toNat ((i + 1 : Nat) : Int).toNat).size = 1 := by rw [bts_size, ex]; rfl
      rw [if_neg h, if_pos (by omega), if_pos (by omega), hz, if_pos (by omega)]
      obtain ⟨R, r1, r2⟩ := ih (i + 1) L (w ++ s.extract (i : Int).toNat ((i + 1 : Nat) : Int).toNat) k (by omega) (by omega) (by omega) (by rw [bts_size, bts_append, ex, List.length_append, bytesOf_length]; simp; omega)
      refine ⟨R, r1, ?_⟩
      rw [r2, bts_append, ex]
      simp [cutG, h]
theorem RCut_f (s : ByteArray) (hs : s.size ≤ 1000000) (c : Int) {k : Nat} (hk : s.size + 1 ≤ k) : ∃ R, larumref01_Cut.f k s c = some R ∧ R.map bytesOf = cutG c [] (bytesOf s) := by
  obtain ⟨R, r1, r2⟩ := RCut_l0 s hs c s.size 0 [] ⟨#[]⟩ k (by omega) hk (Nat.zero_le _) (Nat.le_refl _)
  exact ⟨R, r1, by rw [r2]; rfl⟩
theorem cutG_len (c : Int) : ∀ (l w : List Int), (cutG c w l).length ≤ l.length + 1
  | [], w => Nat.le_refl _
  | x :: l, w => by
    unfold cutG
    split
    · simpa using cutG_len c l []
    · have := cutG_len c l (w ++ [x]); simp at this ⊢; omega
theorem cutG_size (c : Int) : ∀ (l w : List Int) (p : List Int), p ∈ cutG c w l → p.length ≤ w.length + l.length
  | [], w, p, h => by simp [cutG] at h; subst h; exact Nat.le_refl _
  | x :: l, w, p, h => by
    unfold cutG at h
    split at h
    · rcases List.mem_cons.1 h with rfl | h
      · simp
      · have := cutG_size c l [] p h; simp at this ⊢; omega
    · have := cutG_size c l (w ++ [x]) p h; simp at this ⊢; omega
-- pairs and targets
def dec (plus : Bool) (l : List Int) : Option (List Int) := decL (l.length + 1) plus l
def nb (c : Int) (x : Int) : Bool := x != c
theorem Dec_f (s : ByteArray) (plus : Bool) (hs : s.size ≤ 1000) {k : Nat} (hk : 400000 ≤ k) :
    match dec plus (bytesOf s) with | some l => ∃ t, pct_Decode.f k s plus = some (t, 0) ∧ bytesOf t = l | none => pct_Decode.f k s plus = some (⟨#[]⟩, 3) := by
  have := Decode_f s plus hs hk
  unfold dec
  rw [bytesOf_length]
  exact this
theorem cut_f1 (s : ByteArray) (hs : s.size ≤ 1000) (c : UInt8) : ∃ t u b, strings_Cut.f s ⟨#[c]⟩ = some (t, u, b) ∧ bytesOf t = (bytesOf s).takeWhile (nb (c.toNat : Int)) ∧ bytesOf u = ((bytesOf s).dropWhile (nb (c.toNat : Int))).drop 1 ∧ t.size ≤ s.size ∧ u.size ≤ s.size := by
  obtain ⟨t, u, b, h1, h2, h3, _⟩ := Cut_f s (by omega) c
  refine ⟨t, u, b, h1, h2, h3, ?_, ?_⟩
  · rw [bts_size, h2, bts_size s]
    exact (List.takeWhile_sublist _).length_le
  · rw [bts_size, h3, bts_size s, List.length_drop]
    have := (List.dropWhile_sublist (fun x => x != (c.toNat : Int)) (l := bytesOf s)).length_le
    omega
def queryL : List (List Int) → Option (List (List Int × List Int))
  | [] => some []
  | p :: ps => if p = [] then queryL ps else match dec true (p.takeWhile (nb 61)), dec true ((p.dropWhile (nb 61)).drop 1) with
    | some n, some v => (queryL ps).map ((n, v) :: ·)
    | _, _ => none
theorem query_skip {ps : List (List Int)} : queryL ([] :: ps) = queryL ps := by simp only [queryL, if_true]
theorem query_fail {p : List Int} {ps : List (List Int)} (h : p ≠ []) (h2 : dec true (p.takeWhile (nb 61)) = none ∨ dec true ((p.dropWhile (nb 61)).drop 1) = none) : queryL (p :: ps) = none := by
  simp only [queryL, if_neg h]
  rcases h2 with h2 | h2 <;> rw [h2]
  cases dec true (p.takeWhile (nb 61)) <;> rfl
theorem query_one {p : List Int} {ps : List (List Int)} {n v : List Int} (h : p ≠ []) (h1 : dec true (p.takeWhile (nb 61)) = some n) (h2 : dec true ((p.dropWhile (nb 61)).drop 1) = some v) : queryL (p :: ps) = (queryL ps).map ((n, v) :: ·) := by
  simp only [queryL, if_neg h]
  rw [h1, h2]
def pg (x : S45) : List Int × List Int := (bytesOf x.f0, bytesOf x.f1)
theorem rdOf_at (xs : List ByteArray) (i : Nat) (h : i < xs.length) : rdOf ByteArray.empty xs (i : Int) = xs[i] := by
  unfold rdOf
  rw [show ((i : Int)).toNat = i by omega, List.getD_eq_getElem?_getD, List.getElem?_eq_getElem h]
  rfl
theorem Query_l0 (xs : List ByteArray) (hx : xs.length ≤ 10000) (hz : ∀ x ∈ xs, x.size ≤ 1000) : ∀ (f i k : Nat) (acc : List S45), i + f = xs.length → f + 450000 ≤ k → acc.length ≤ i →
    match queryL ((xs.drop i).map bytesOf) with
    | some L => ∃ out, pct_Query.l0 k acc xs (xs.length : Int) (i : Int) = some (out, 0) ∧ out.map pg = acc.map pg ++ L
    | none => pct_Query.l0 k acc xs (xs.length : Int) (i : Int) = some ([], 3) := by
  intro f
  induction f with
  | zero =>
    intro i k acc hi hk ha
    obtain ⟨k, rfl⟩ : ∃ m, k = m + 1 := ⟨k - 1, by omega⟩
    have e1 : pct_Query.l0 (k + 1) acc xs (xs.length : Int) (i : Int) = some (acc, 0) := by
      simp only [pct_Query.l0]
      rw [if_neg (by omega)]
    rw [List.drop_of_length_le (by omega)]
    exact ⟨acc, e1, by simp⟩
  | succ f ih =>
    intro i k acc hi hk ha
    obtain ⟨k, rfl⟩ : ∃ m, k = m + 1 := ⟨k - 1, by omega⟩
    have ew : wrap64 ((i : Int) + 1) = ((i + 1 : Nat) : Int) := by rw [w64 (by omega)]; omega
    have hpz := hz (xs[i]'(by omega)) (List.getElem_mem _)
    have step : pct_Query.l0 (k + 1) acc xs (xs.length : Int) (i : Int) = (if (xs[i]'(by omega)).toList = ([] : List UInt8) then (pct_Query.l0 k acc xs (xs.length : Int) ((i + 1 : Nat) : Int)) else ((strings_Cut.f (xs[i]'(by omega)) (⟨#[61]⟩ : ByteArray)).bind fun bt123 => ((pct_Decode.f k bt123.1 true).bind fun bt126 => ((pct_Decode.f k bt123.2.1 true).bind fun bt128 => (if bt126.2 = 0 then (if bt128.2 = 0 then (if acc.length < 4398046511104 then (pct_Query.l0 k (acc ++ [(⟨bt126.1, bt128.1⟩ : S45)]) xs (xs.length : Int) ((i + 1 : Nat) : Int)) else (none)) else (some (([] : List (S45)), 3))) else (some (([] : List (S45)), 3))))))) := by
      simp only [pct_Query.l0]
      rw [if_pos (by omega), if_pos (by omega), if_pos (by omega), rdOf_at xs i (by omega), ew]
    rw [step, List.drop_eq_getElem_cons (by omega : i < xs.length), List.map_cons]
    clear step
    generalize xs[i]'(by omega) = p at hpz
    by_cases hp : bytesOf p = []
    · rw [if_pos ((tl_nil p).2 hp), hp, query_skip]
      exact ih (i + 1) k acc (by omega) (by omega) (by omega)
    · rw [if_neg (fun h => hp ((tl_nil p).1 h))]
      obtain ⟨t, u, b, h1, h2, h3, z1, z2⟩ := cut_f1 p hpz 61
      have c61 : ((61 : UInt8).toNat : Int) = 61 := rfl
      rw [c61] at h2 h3
      rw [h1]
      simp only [Option.bind_some]
      have d1 := Dec_f t true (by omega) (k := k) (by omega)
      have d2 := Dec_f u true (by omega) (k := k) (by omega)
      rw [h2] at d1
      rw [h3] at d2
      cases e1 : dec true ((bytesOf p).takeWhile (nb 61)) with
      | none =>
        rw [e1] at d1
        rw [query_fail hp (.inl e1), d1]
        simp only [Option.bind_some]
        cases e2 : dec true (((bytesOf p).dropWhile (nb 61)).drop 1) with
        | none =>
          rw [e2] at d2
          rw [d2]; rfl
        | some v =>
          rw [e2] at d2
          obtain ⟨y, y1, y2⟩ := d2
          rw [y1]; rfl
      | some n =>
        rw [e1] at d1
        obtain ⟨x, x1, x2⟩ := d1
        rw [x1]
        simp only [Option.bind_some]
        cases e2 : dec true (((bytesOf p).dropWhile (nb 61)).drop 1) with
        | none =>
          rw [e2] at d2
          rw [query_fail hp (.inr e2), d2]; rfl
        | some v =>
          rw [e2] at d2
          obtain ⟨y, y1, y2⟩ := d2
          rw [query_one hp e1 e2, y1]
          simp only [Option.bind_some, if_true]
          have e3 : acc.length < 4398046511104 := by omega
          simp only [if_pos e3]
          have := ih (i + 1) k (acc ++ [(⟨x, y⟩ : S45)]) (by omega) (by omega) (by simp; omega)
          cases hq : queryL ((xs.drop (i + 1)).map bytesOf) with
          | none => rw [hq] at this; exact this
          | some L =>
            rw [hq] at this
            obtain ⟨out, o1, o2⟩ := this
            exact ⟨out, o1, by rw [o2]; simp [pg, x2, y2]⟩
theorem parts_ok {s : ByteArray} {c : Int} {L : List ByteArray} (h : L.map bytesOf = cutG c [] (bytesOf s)) (hs : s.size ≤ 1000) : L.length ≤ 1001 ∧ ∀ x ∈ L, x.size ≤ 1000 := by
  have hl := bytesOf_length s
  constructor
  · have h1 := cutG_len c (bytesOf s) []
    rw [← h, List.length_map] at h1
    omega
  · intro x hx
    have h1 := cutG_size c (bytesOf s) [] (bytesOf x) (by rw [← h]; exact List.mem_map_of_mem hx)
    rw [bytesOf_length] at h1
    simp at h1
    omega
theorem son1 (c : UInt8) : strOfNums [(c.toNat : Int)] = ⟨#[c]⟩ := ext_bts (by
  rw [bts_son (fun x hx => by rw [List.mem_singleton.1 hx]; have := c.toNat_lt; omega)]; rfl)
theorem Split1 (s : ByteArray) (hs : s.size ≤ 1000) (c : UInt8) : ∃ L, strings_Split.f s ⟨#[c]⟩ = some L ∧ L.map bytesOf = cutG (c.toNat : Int) [] (bytesOf s) ∧ L.length ≤ 1001 ∧ ∀ x ∈ L, x.size ≤ 1000 := by
  obtain ⟨L, h1, h2⟩ := Split_f s (by omega) (c.toNat : Int) (by have := c.toNat_lt; omega)
  rw [son1] at h1
  obtain ⟨h3, h4⟩ := parts_ok h2 hs
  exact ⟨L, h1, h2, h3, h4⟩
theorem Query_f (s : ByteArray) (hs : s.size ≤ 1000) {k : Nat} (hk : 500000 ≤ k) :
    match queryL (cutG 38 [] (bytesOf s)) with | some L => ∃ out, pct_Query.f k s = some (out, 0) ∧ out.map pg = L | none => pct_Query.f k s = some ([], 3) := by
  obtain ⟨L, h1, h2, h3, h4⟩ := Split1 s hs 38
  have := Query_l0 L (by omega) h4 L.length 0 k [] (by omega) (by omega) (by simp)
  rw [List.drop_zero, h2] at this
  unfold pct_Query.f
  rw [h1]
  exact this
def mapDec : List (List Int) → Option (List (List Int))
  | [] => some []
  | p :: ps => match dec false p with
    | some d => (mapDec ps).map (d :: ·)
    | none => none
theorem mapDec_some {p : List Int} {ps : List (List Int)} {d : List Int} (h : dec false p = some d) : mapDec (p :: ps) = (mapDec ps).map (d :: ·) := by simp only [mapDec, h]
theorem mapDec_none {p : List Int} {ps : List (List Int)} (h : dec false p = none) : mapDec (p :: ps) = none := by simp only [mapDec, h]
def both (a : Option (List (List Int))) (b : Option (List (List Int × List Int))) : Option (List (List Int) × List (List Int × List Int)) := match a, b with | some x, some y => some (x, y) | _, _ => none
def splitL (l : List Int) : Option (List (List Int) × List (List Int × List Int)) := match l with
  | [] => none
  | c :: r => if c = 47 then both (mapDec (cutG 47 [] (r.takeWhile (nb 63)))) (queryL (cutG 38 [] ((r.dropWhile (nb 63)).drop 1))) else none
theorem Split_l0 (q : ByteArray) (hq : q.size ≤ 1000) (xs : List ByteArray) (hx : xs.length ≤ 10000) (hz : ∀ x ∈ xs, x.size ≤ 1000) : ∀ (f i k : Nat) (acc : List ByteArray), i + f = xs.length → f + 550000 ≤ k → acc.length ≤ i →
    match both (mapDec ((xs.drop i).map bytesOf)) (queryL (cutG 38 [] (bytesOf q))) with
    | some P => ∃ a b, pct_Split.l0 k acc q xs (xs.length : Int) (i : Int) = some (a, b, 0) ∧ a.map bytesOf = acc.map bytesOf ++ P.1 ∧ b.map pg = P.2
    | none => pct_Split.l0 k acc q xs (xs.length : Int) (i : Int) = some ([], [], 3) := by
  intro f
  induction f with
  | zero =>
    intro i k acc hi hk ha
    obtain ⟨k, rfl⟩ : ∃ m, k = m + 1 := ⟨k - 1, by omega⟩
    have e1 : pct_Split.l0 (k + 1) acc q xs (xs.length : Int) (i : Int) = ((pct_Query.f k q).bind fun bt147 => (if bt147.2 = 0 then (some (acc, bt147.1, 0)) else (some (([] : List ByteArray), ([] : List (S45)), bt147.2)))) := by
      simp only [pct_Split.l0]
      rw [if_neg (by omega)]
    rw [List.drop_of_length_le (by omega), e1]
    have := Query_f q hq (k := k) (by omega)
    cases hq : queryL (cutG 38 [] (bytesOf q)) with
    | none =>
      rw [hq] at this
      rw [this]; rfl
    | some L =>
      rw [hq] at this
      obtain ⟨out, o1, o2⟩ := this
      rw [o1]
      exact ⟨acc, out, rfl, by simp, o2⟩
  | succ f ih =>
    intro i k acc hi hk ha
    obtain ⟨k, rfl⟩ : ∃ m, k = m + 1 := ⟨k - 1, by omega⟩
    have ew : wrap64 ((i : Int) + 1) = ((i + 1 : Nat) : Int) := by rw [w64 (by omega)]; omega
    have hpz := hz (xs[i]'(by omega)) (List.getElem_mem _)
    have step : pct_Split.l0 (k + 1) acc q xs (xs.length : Int) (i : Int) = ((pct_Decode.f k (xs[i]'(by omega)) false).bind fun bt142 => (if bt142.2 = 0 then (if acc.length < 8796093022208 then (pct_Split.l0 k (acc ++ [bt142.1]) q xs (xs.length : Int) ((i + 1 : Nat) : Int)) else (none)) else (some (([] : List ByteArray), ([] : List (S45)), bt142.2)))) := by
      simp only [pct_Split.l0]
      rw [if_pos (by omega), if_pos (by omega), if_pos (by omega), rdOf_at xs i (by omega), ew]
    rw [step, List.drop_eq_getElem_cons (by omega : i < xs.length), List.map_cons]
    clear step
    generalize xs[i]'(by omega) = p at hpz
    have d1 := Dec_f p false hpz (k := k) (by omega)
    cases e1 : dec false (bytesOf p) with
    | none =>
      rw [e1] at d1
      rw [mapDec_none e1, d1]; rfl
    | some d =>
      rw [e1] at d1
      obtain ⟨x, x1, x2⟩ := d1
      rw [mapDec_some e1, x1]
      have e3 : acc.length < 8796093022208 := by omega
      simp only [Option.bind_some, if_true, if_pos e3]
      have := ih (i + 1) k (acc ++ [x]) (by omega) (by omega) (by simp; omega)
      cases hm : mapDec ((xs.drop (i + 1)).map bytesOf) with
      | none => rw [hm] at this; exact this
      | some ps =>
        rw [hm] at this
        cases hq : queryL (cutG 38 [] (bytesOf q)) with
        | none => rw [hq] at this; exact this
        | some L =>
          rw [hq] at this
          obtain ⟨a, b, o1, o2, o3⟩ := this
          exact ⟨a, b, o1, by rw [o2]; simp [x2], o3⟩
theorem PSplit_f (s : ByteArray) (hs : s.size ≤ 1000) {k : Nat} (hk : 600000 ≤ k) :
    match splitL (bytesOf s) with | some P => ∃ a b, pct_Split.f k s = some (a, b, 0) ∧ a.map bytesOf = P.1 ∧ b.map pg = P.2 | none => pct_Split.f k s = some ([], [], 3) := by
  obtain ⟨t, b, h1, h2, h3, z⟩ := CutPrefix_f s ⟨#[47]⟩
  have p1 : bytesOf (⟨#[47]⟩ : ByteArray) = [47] := rfl
  rw [p1] at h2 h3
  unfold pct_Split.f
  rw [h1]
  simp only [Option.bind_some]
  cases hb : bytesOf s with
  | nil =>
    rw [hb] at h2
    have : b = false := h2
    subst this
    rfl
  | cons c r =>
    rw [hb] at h2 h3
    by_cases hc : c = 47
    · subst hc
      have hb2 : b = true := by rw [h2]; rfl
      subst hb2
      have ht : bytesOf t = r := by rw [h3]; rfl
      obtain ⟨u, v, b3, g1, g2, g3, z1, z2⟩ := cut_f1 t (by omega) 63
      have c63 : ((63 : UInt8).toNat : Int) = 63 := rfl
      rw [c63, ht] at g2 g3
      obtain ⟨L, l1, l2, l3, l4⟩ := Split1 u (by omega) 47
      rw [if_pos rfl, g1]
      simp only [Option.bind_some]
      rw [l1]
      simp only [Option.bind_some]
      have := Split_l0 v (by omega) L (by omega) l4 L.length 0 k [] (by omega) (by omega) (by simp)
      rw [List.drop_zero, l2, g2, g3] at this
      have e : splitL (47 :: r) = both (mapDec (cutG 47 [] (r.takeWhile (nb 63)))) (queryL (cutG 38 [] ((r.dropWhile (nb 63)).drop 1))) := by simp only [splitL, if_true]
      rw [e]
      exact this
    · have hb2 : b = false := by
        rw [h2]
        simp [List.isPrefixOf]
        omega
      subst hb2
      have e : splitL (c :: r) = none := by simp only [splitL, if_neg hc]
      rw [e]; rfl
-- the document's pairs and targets
theorem RDec_f (s : ByteArray) (plus : Bool) (hs : s.size ≤ 1000) {k : Nat} (hk : 400000 ≤ k) :
    match dec plus (bytesOf s) with | some l => ∃ t, larumref08_Decode.f k s plus = some (t, true) ∧ bytesOf t = l | none => larumref08_Decode.f k s plus = some (⟨#[]⟩, false) := by
  have := RDecode_f s plus hs hk
  unfold dec
  rw [bytesOf_length]
  exact this
def pg44 (x : S44) : List Int × List Int := (bytesOf x.f0, bytesOf x.f1)
theorem rcut_l0 (s : ByteArray) (hs : s.size ≤ 1000) (c : Int) : ∀ (f i k : Nat), i + f = s.size → f < k →
    (bytesOf s).takeWhile (nb c) = (bytesOf s).take i ++ ((bytesOf s).drop i).takeWhile (nb c) → (bytesOf s).dropWhile (nb c) = ((bytesOf s).drop i).dropWhile (nb c) →
    ∃ t u, larumref08_cut.l0 k s c (i : Int) = some (t, u) ∧ bytesOf t = (bytesOf s).takeWhile (nb c) ∧ bytesOf u = ((bytesOf s).dropWhile (nb c)).drop 1 := by
  have hl := bytesOf_length s
  intro f
  induction f with
  | zero =>
    intro i k hi hk h1 h2
    obtain ⟨k, rfl⟩ : ∃ m, k = m + 1 := ⟨k - 1, by omega⟩
    rw [List.drop_of_length_le (by omega)] at h1 h2
    refine ⟨s, ⟨#[]⟩, ?_, ?_, ?_⟩
    · simp only [larumref08_cut.l0]
      rw [if_neg (by omega)]
    · rw [h1, List.take_of_length_le (by omega)]; simp
    · rw [h2]; rfl
  | succ f ih =>
    intro i k hi hk h1 h2
    obtain ⟨k, rfl⟩ : ∃ m, k = m + 1 := ⟨k - 1, by omega⟩
    have hi' : i < (bytesOf s).length := by omega
    have w1 : wrap64 ((i : Int) + 1) = ((i + 1 : Nat) : Int) := by rw [w64 (by omega)]; omega
    have hd := drop_rd hi'
    by_cases hc : rd (bytesOf s) (i : Int) = c
    · have e : nb c (rd (bytesOf s) (i : Int)) = false := by simp [nb, hc]
      refine ⟨s.extract 0 (i : Int).toNat, s.extract ((i + 1 : Nat) : Int).toNat s.size, ?_, ?_, ?_⟩
      · simp only [larumref08_cut.l0]
        rw [if_pos (by omega), if_pos (by omega), bt_rd, if_pos hc, w1, if_pos (by omega), if_pos (by omega), if_pos (by omega)]
      · rw [h1, hd, List.takeWhile_cons, e, show (i : Int).toNat = i by omega, bts_extract, List.drop_zero]
        simp
      · rw [h2, hd, List.dropWhile_cons, e, show ((i + 1 : Nat) : Int).toNat = i + 1 by omega, bts_extract_to]
        rfl
    · have e : nb c (rd (bytesOf s) (i : Int)) = true := by simp [nb, hc]
      have e1 : larumref08_cut.l0 (k + 1) s c (i : Int) = larumref08_cut.l0 k s c ((i + 1 : Nat) : Int) := by
        simp only [larumref08_cut.l0]
        rw [if_pos (by omega), if_pos (by omega), bt_rd, if_neg hc, w1]
      rw [e1]
      refine ih (i + 1) k (by omega) (by omega) ?_ ?_
      · rw [h1, hd, List.takeWhile_cons, e, if_pos rfl, List.take_succ_eq_append_getElem hi']
        have : (bytesOf s)[i] = rd (bytesOf s) (i : Int) := by unfold rd; simp [List.getD_eq_getElem?_getD, List.getElem?_eq_getElem hi']
        rw [this]; simp
      · rw [h2, hd, List.dropWhile_cons, e, if_pos rfl]
theorem rcut_f (s : ByteArray) (hs : s.size ≤ 1000) (c : Int) {k : Nat} (hk : 2000 ≤ k) : ∃ t u, larumref08_cut.f k s c = some (t, u) ∧ bytesOf t = (bytesOf s).takeWhile (nb c) ∧ bytesOf u = ((bytesOf s).dropWhile (nb c)).drop 1 ∧ t.size ≤ s.size ∧ u.size ≤ s.size := by
  obtain ⟨t, u, h1, h2, h3⟩ := rcut_l0 s hs c s.size 0 k (by omega) (by omega) rfl rfl
  refine ⟨t, u, h1, h2, h3, ?_, ?_⟩
  · rw [bts_size, h2, bts_size s]
    exact (List.takeWhile_sublist _).length_le
  · rw [bts_size, h3, bts_size s, List.length_drop]
    have := (List.dropWhile_sublist (nb c) (l := bytesOf s)).length_le
    omega
theorem RQuery_l0 (xs : List ByteArray) (hx : xs.length ≤ 10000) (hz : ∀ x ∈ xs, x.size ≤ 1000) : ∀ (f i k : Nat) (acc : List S44), i + f = xs.length → f + 450000 ≤ k → acc.length ≤ i →
    match queryL ((xs.drop i).map bytesOf) with
    | some L => ∃ out, larumref08_Query.l0 k acc xs (xs.length : Int) (i : Int) = some (out, true) ∧ out.map pg44 = acc.map pg44 ++ L
    | none => larumref08_Query.l0 k acc xs (xs.length : Int) (i : Int) = some ([], false) := by
  intro f
  induction f with
  | zero =>
    intro i k acc hi hk ha
    obtain ⟨k, rfl⟩ : ∃ m, k = m + 1 := ⟨k - 1, by omega⟩
    have e1 : larumref08_Query.l0 (k + 1) acc xs (xs.length : Int) (i : Int) = some (acc, true) := by
      simp only [larumref08_Query.l0]
      rw [if_neg (by omega)]
    rw [List.drop_of_length_le (by omega)]
    exact ⟨acc, e1, by simp⟩
  | succ f ih =>
    intro i k acc hi hk ha
    obtain ⟨k, rfl⟩ : ∃ m, k = m + 1 := ⟨k - 1, by omega⟩
    have ew : wrap64 ((i : Int) + 1) = ((i + 1 : Nat) : Int) := by rw [w64 (by omega)]; omega
    have hpz := hz (xs[i]'(by omega)) (List.getElem_mem _)
    have step : larumref08_Query.l0 (k + 1) acc xs (xs.length : Int) (i : Int) = (if (xs[i]'(by omega)).toList = ([] : List UInt8) then (larumref08_Query.l0 k acc xs (xs.length : Int) ((i + 1 : Nat) : Int)) else ((larumref08_cut.f k (xs[i]'(by omega)) 61).bind fun bt123 => ((larumref08_Decode.f k bt123.1 true).bind fun bt126 => ((larumref08_Decode.f k bt123.2 true).bind fun bt128 => (if bt126.2 = true then (if bt128.2 = true then (if acc.length < 4398046511104 then (larumref08_Query.l0 k (acc ++ [(⟨bt126.1, bt128.1⟩ : S44)]) xs (xs.length : Int) ((i + 1 : Nat) : Int)) else (none)) else (some (([] : List (S44)), false))) else (some (([] : List (S44)), false))))))) := by
      simp only [larumref08_Query.l0]
      rw [if_pos (by omega), if_pos (by omega), if_pos (by omega), rdOf_at xs i (by omega), ew]
    rw [step, List.drop_eq_getElem_cons (by omega : i < xs.length), List.map_cons]
    clear step
    generalize xs[i]'(by omega) = p at hpz
    by_cases hp : bytesOf p = []
    · rw [if_pos ((tl_nil p).2 hp), hp, query_skip]
      exact ih (i + 1) k acc (by omega) (by omega) (by omega)
    · rw [if_neg (fun h => hp ((tl_nil p).1 h))]
      obtain ⟨t, u, h1, h2, h3, z1, z2⟩ := rcut_f p hpz 61 (k := k) (by omega)
      rw [h1]
      simp only [Option.bind_some]
      have d1 := RDec_f t true (by omega) (k := k) (by omega)
      have d2 := RDec_f u true (by omega) (k := k) (by omega)
      rw [h2] at d1
      rw [h3] at d2
      cases e1 : dec true ((bytesOf p).takeWhile (nb 61)) with
      | none =>
        rw [e1] at d1
        rw [query_fail hp (.inl e1), d1]
        simp only [Option.bind_some]
        cases e2 : dec true (((bytesOf p).dropWhile (nb 61)).drop 1) with
        | none =>
          rw [e2] at d2
          rw [d2]; rfl
        | some v =>
          rw [e2] at d2
          obtain ⟨y, y1, y2⟩ := d2
          rw [y1]; rfl
      | some n =>
        rw [e1] at d1
        obtain ⟨x, x1, x2⟩ := d1
        rw [x1]
        simp only [Option.bind_some]
        cases e2 : dec true (((bytesOf p).dropWhile (nb 61)).drop 1) with
        | none =>
          rw [e2] at d2
          rw [query_fail hp (.inr e2), d2]; rfl
        | some v =>
          rw [e2] at d2
          obtain ⟨y, y1, y2⟩ := d2
          rw [query_one hp e1 e2, y1]
          simp only [Option.bind_some, if_true]
          have e3 : acc.length < 4398046511104 := by omega
          simp only [if_pos e3]
          have := ih (i + 1) k (acc ++ [(⟨x, y⟩ : S44)]) (by omega) (by omega) (by simp; omega)
          cases hq : queryL ((xs.drop (i + 1)).map bytesOf) with
          | none => rw [hq] at this; exact this
          | some L =>
            rw [hq] at this
            obtain ⟨out, o1, o2⟩ := this
            exact ⟨out, o1, by rw [o2]; simp [pg44, x2, y2]⟩
theorem RQuery_f (s : ByteArray) (hs : s.size ≤ 1000) {k : Nat} (hk : 500000 ≤ k) :
    match queryL (cutG 38 [] (bytesOf s)) with | some L => ∃ out, larumref08_Query.f k s = some (out, true) ∧ out.map pg44 = L | none => larumref08_Query.f k s = some ([], false) := by
  obtain ⟨L, h1, h2⟩ := RCut_f s (by omega) 38 (k := k) (by omega)
  obtain ⟨h3, h4⟩ := parts_ok h2 hs
  have := RQuery_l0 L (by omega) h4 L.length 0 k [] (by omega) (by omega) (by simp)
  rw [List.drop_zero, h2] at this
  unfold larumref08_Query.f
  rw [h1]
  exact this
theorem RSplit_l0 (q : ByteArray) (hq : q.size ≤ 1000) (xs : List ByteArray) (hx : xs.length ≤ 10000) (hz : ∀ x ∈ xs, x.size ≤ 1000) : ∀ (f i k : Nat) (acc : List ByteArray), i + f = xs.length → f + 550000 ≤ k → acc.length ≤ i →
    match both (mapDec ((xs.drop i).map bytesOf)) (queryL (cutG 38 [] (bytesOf q))) with
    | some P => ∃ a b, larumref08_Split.l0 k q acc xs (xs.length : Int) (i : Int) = some (a, b, true) ∧ a.map bytesOf = acc.map bytesOf ++ P.1 ∧ b.map pg44 = P.2
    | none => larumref08_Split.l0 k q acc xs (xs.length : Int) (i : Int) = some ([], [], false) := by
  intro f
  induction f with
  | zero =>
    intro i k acc hi hk ha
    obtain ⟨k, rfl⟩ : ∃ m, k = m + 1 := ⟨k - 1, by omega⟩
    have e1 : larumref08_Split.l0 (k + 1) q acc xs (xs.length : Int) (i : Int) = ((larumref08_Query.f k q).bind fun bt147 => (if bt147.2 = true then (some (acc, bt147.1, true)) else (some (([] : List ByteArray), ([] : List (S44)), false)))) := by
      simp only [larumref08_Split.l0]
      rw [if_neg (by omega)]
    rw [List.drop_of_length_le (by omega), e1]
    have := RQuery_f q hq (k := k) (by omega)
    cases hq : queryL (cutG 38 [] (bytesOf q)) with
    | none =>
      rw [hq] at this
      rw [this]; rfl
    | some L =>
      rw [hq] at this
      obtain ⟨out, o1, o2⟩ := this
      rw [o1]
      exact ⟨acc, out, rfl, by simp, o2⟩
  | succ f ih =>
    intro i k acc hi hk ha
    obtain ⟨k, rfl⟩ : ∃ m, k = m + 1 := ⟨k - 1, by omega⟩
    have ew : wrap64 ((i : Int) + 1) = ((i + 1 : Nat) : Int) := by rw [w64 (by omega)]; omega
    have hpz := hz (xs[i]'(by omega)) (List.getElem_mem _)
    have step : larumref08_Split.l0 (k + 1) q acc xs (xs.length : Int) (i : Int) = ((larumref08_Decode.f k (xs[i]'(by omega)) false).bind fun bt142 => (if bt142.2 = true then (if acc.length < 8796093022208 then (larumref08_Split.l0 k q (acc ++ [bt142.1]) xs (xs.length : Int) ((i + 1 : Nat) : Int)) else (none)) else (some (([] : List ByteArray), ([] : List (S44)), false)))) := by
      simp only [larumref08_Split.l0]
      rw [if_pos (by omega), if_pos (by omega), if_pos (by omega), rdOf_at xs i (by omega), ew]
    rw [step, List.drop_eq_getElem_cons (by omega : i < xs.length), List.map_cons]
    clear step
    generalize xs[i]'(by omega) = p at hpz
    have d1 := RDec_f p false hpz (k := k) (by omega)
    cases e1 : dec false (bytesOf p) with
    | none =>
      rw [e1] at d1
      rw [mapDec_none e1, d1]; rfl
    | some d =>
      rw [e1] at d1
      obtain ⟨x, x1, x2⟩ := d1
      rw [mapDec_some e1, x1]
      have e3 : acc.length < 8796093022208 := by omega
      simp only [Option.bind_some, if_true, if_pos e3]
      have := ih (i + 1) k (acc ++ [x]) (by omega) (by omega) (by simp; omega)
      cases hm : mapDec ((xs.drop (i + 1)).map bytesOf) with
      | none => rw [hm] at this; exact this
      | some ps =>
        rw [hm] at this
        cases hq : queryL (cutG 38 [] (bytesOf q)) with
        | none => rw [hq] at this; exact this
        | some L =>
          rw [hq] at this
          obtain ⟨a, b, o1, o2, o3⟩ := this
          exact ⟨a, b, o1, by rw [o2]; simp [x2], o3⟩
theorem RPSplit_f (s : ByteArray) (hs : s.size ≤ 1000) {k : Nat} (hk : 600000 ≤ k) :
    match splitL (bytesOf s) with | some P => ∃ a b, larumref08_Split.f k s = some (a, b, true) ∧ a.map bytesOf = P.1 ∧ b.map pg44 = P.2 | none => larumref08_Split.f k s = some ([], [], false) := by
  have hl := bytesOf_length s
  obtain ⟨k, rfl⟩ : ∃ m, k = m + 1 := ⟨k - 1, by omega⟩
  have j0t : larumref08_Split.j0 (k + 1) s true = some ([], [], false) := by simp only [larumref08_Split.j0, if_true]
  cases hb : bytesOf s with
  | nil =>
    have e1 : larumref08_Split.f (k + 1) s = some ([], [], false) := by
      unfold larumref08_Split.f
      rw [if_pos ((tl_nil s).2 hb), j0t]
    exact e1
  | cons c r =>
    have hne : ¬ s.toList = ([] : List UInt8) := fun h => by rw [(tl_nil s).1 h] at hb; cases hb
    have hb0 : bt s 0 = c := by rw [bt_rd, hb]; rfl
    have hz : s.size = r.length + 1 := by rw [← hl, hb]; rfl
    by_cases hc : c = 47
    · subst hc
      have ht : bytesOf (s.extract 1 s.size) = r := by rw [bts_extract_to, hb]; rfl
      have tz : (s.extract 1 s.size).size ≤ 1000 := by simp only [ByteArray.size_extract]; omega
      have e1 : larumref08_Split.f (k + 1) s = ((larumref08_cut.f k (s.extract 1 s.size) 63).bind fun bt184 => ((larumref01_Cut.f k bt184.1 47).bind fun t186 => (larumref08_Split.l0 k bt184.2 ([] : List ByteArray) t186 (t186.length : Int) 0))) := by
        unfold larumref08_Split.f
        rw [if_neg hne, if_pos (by omega), hb0]
        simp only [larumref08_Split.j0]
        rw [if_neg (by decide), if_pos (by omega)]
      rw [e1]
      generalize s.extract 1 s.size = t at ht tz
      obtain ⟨u, v, g1, g2, g3, z1, z2⟩ := rcut_f t tz 63 (k := k) (by omega)
      rw [ht] at g2 g3
      rw [g1]
      simp only [Option.bind_some]
      obtain ⟨L, l1, l2⟩ := RCut_f u (by omega) 47 (k := k) (by omega)
      obtain ⟨l3, l4⟩ := parts_ok l2 (by omega)
      rw [l1]
      simp only [Option.bind_some]
      have := RSplit_l0 v (by omega) L (by omega) l4 L.length 0 k [] (by omega) (by omega) (by simp)
      rw [List.drop_zero, l2, g2, g3] at this
      have e : splitL (47 :: r) = both (mapDec (cutG 47 [] (r.takeWhile (nb 63)))) (queryL (cutG 38 [] ((r.dropWhile (nb 63)).drop 1))) := by simp only [splitL, if_true]
      rw [e]
      exact this
    · have e : splitL (c :: r) = none := by simp only [splitL, if_neg hc]
      have e1 : larumref08_Split.f (k + 1) s = some ([], [], false) := by
        unfold larumref08_Split.f
        rw [if_neg hne, if_pos (by omega), hb0, show (c != 47) = true by simpa using hc, j0t]
      rw [e, e1]
-- pairs that are the same
theorem rd45 (xs : List S45) (i : Nat) (h : i < xs.length) : rd_T45 xs (i : Int) = xs[i] := by
  unfold rd_T45
  rw [show ((i : Int)).toNat = i by omega, List.getD_eq_getElem?_getD, List.getElem?_eq_getElem h]
  rfl
theorem rd44 (xs : List S44) (i : Nat) (h : i < xs.length) : rd_T44 xs (i : Int) = xs[i] := by
  unfold rd_T44
  rw [show ((i : Int)).toNat = i by omega, List.getD_eq_getElem?_getD, List.getElem?_eq_getElem h]
  rfl
theorem same_l0 {xs : List S45} {ys : List S44} (h : xs.map pg = ys.map pg44) (hy : ys.length ≤ 100000) : ∀ (f i k : Nat), i + f = ys.length → f < k → larumlaw08_same.l0 k xs ys (ys.length : Int) (i : Int) = some true := by
  have hl : xs.length = ys.length := by have := congrArg List.length h; simpa using this
  intro f
  induction f with
  | zero =>
    intro i k hi hk
    obtain ⟨k, rfl⟩ : ∃ m, k = m + 1 := ⟨k - 1, by omega⟩
    simp only [larumlaw08_same.l0]
    rw [if_neg (by omega)]
  | succ f ih =>
    intro i k hi hk
    obtain ⟨k, rfl⟩ : ∃ m, k = m + 1 := ⟨k - 1, by omega⟩
    have e : pg (xs[i]'(by omega)) = pg44 (ys[i]'(by omega)) := by
      have h1 : (xs.map pg)[i]? = (ys.map pg44)[i]? := by rw [h]
      rw [List.getElem?_map, List.getElem?_map, List.getElem?_eq_getElem (by omega), List.getElem?_eq_getElem (by omega)] at h1
      simpa using h1
    unfold pg pg44 at e
    simp only [Prod.mk.injEq] at e
    have e1 := (tl_iff _ _).2 e.1
    have e2 := (tl_iff _ _).2 e.2
    simp only [larumlaw08_same.l0]
    rw [if_pos (by omega), if_pos (by omega), if_pos (by omega), if_pos (by omega), rd45 xs i (by omega), rd44 ys i (by omega), e1, e2, if_neg (by simp), w64 (by omega), show ((i : Int) + 1) = ((i + 1 : Nat) : Int) by omega]
    exact ih (i + 1) k (by omega) (by omega)
theorem same_f {xs : List S45} {ys : List S44} (h : xs.map pg = ys.map pg44) (hy : ys.length ≤ 100000) {k : Nat} (hk : 200000 ≤ k) : larumlaw08_same.f k xs ys = some true := by
  have hl : xs.length = ys.length := by have := congrArg List.length h; simpa using this
  unfold larumlaw08_same.f
  rw [if_pos (by omega)]
  exact same_l0 h hy ys.length 0 k (by omega) (by omega)
theorem query_len : ∀ (ps : List (List Int)) (L : List (List Int × List Int)), queryL ps = some L → L.length ≤ ps.length := by
  intro ps
  induction ps with
  | nil => intro L h; cases h; simp
  | cons p ps ih =>
    intro L h
    by_cases hp : p = []
    · subst hp
      rw [query_skip] at h
      have := ih L h
      simp; omega
    · cases h1 : dec true (p.takeWhile (nb 61)) with
      | none => rw [query_fail hp (.inl h1)] at h; cases h
      | some n =>
        cases h2 : dec true ((p.dropWhile (nb 61)).drop 1) with
        | none => rw [query_fail hp (.inr h2)] at h; cases h
        | some v =>
          rw [query_one hp h1 h2] at h
          cases hq : queryL ps with
          | none => rw [hq] at h; cases h
          | some L' =>
            rw [hq] at h
            cases h
            have := ih L' hq
            simp; omega
theorem mapDec_len : ∀ (ps L : List (List Int)), mapDec ps = some L → L.length = ps.length := by
  intro ps
  induction ps with
  | nil => intro L h; cases h; rfl
  | cons p ps ih =>
    intro L h
    cases h1 : dec false p with
    | none => rw [mapDec_none h1] at h; cases h
    | some d =>
      rw [mapDec_some h1] at h
      cases hq : mapDec ps with
      | none => rw [hq] at h; cases h
      | some L' =>
        rw [hq] at h
        cases h
        have := ih L' hq
        simp; omega
theorem split_len {l : List Int} {P : List (List Int) × List (List Int × List Int)} (h : splitL l = some P) : P.1.length ≤ l.length + 1 ∧ P.2.length ≤ l.length + 1 := by
  cases l with
  | nil => cases h
  | cons c r =>
    by_cases hc : c = 47
    · simp only [splitL, if_pos hc] at h
      cases h1 : mapDec (cutG 47 [] (r.takeWhile (nb 63))) with
      | none => rw [h1] at h; cases h
      | some a =>
        cases h2 : queryL (cutG 38 [] ((r.dropWhile (nb 63)).drop 1)) with
        | none => rw [h1, h2] at h; cases h
        | some b =>
          rw [h1, h2] at h
          cases h
          have l1 := mapDec_len _ _ h1
          have l2 := query_len _ _ h2
          have c1 := cutG_len 47 (r.takeWhile (nb 63)) []
          have c2 := cutG_len 38 ((r.dropWhile (nb 63)).drop 1) []
          have t1 := (List.takeWhile_sublist (nb 63) (l := r)).length_le
          have t2 := (List.dropWhile_sublist (nb 63) (l := r)).length_le
          rw [List.length_drop] at c2
          simp only [List.length_cons]
          omega
    · simp only [splitL, if_neg hc] at h
      cases h
theorem fin_split (s : ByteArray) (hs : s.size ≤ 100) {a b : List ByteArray} (h : a.map bytesOf = b.map bytesOf) (hb : b.length ≤ 1000) : ∀ (f i k : Nat), i + f = b.length → f + 700000 ≤ k → larumlaw08_PctSplit.l0 k s a b (b.length : Int) (i : Int) = some true := by
  have hl : a.length = b.length := by have := congrArg List.length h; simpa using this
  intro f
  induction f with
  | zero =>
    intro i k hi hk
    obtain ⟨k, rfl⟩ : ∃ m, k = m + 1 := ⟨k - 1, by omega⟩
    simp only [larumlaw08_PctSplit.l0]
    rw [if_neg (by omega)]
    have q1 := Query_f s (by omega) (k := k) (by omega)
    have q2 := RQuery_f s (by omega) (k := k) (by omega)
    cases hq : queryL (cutG 38 [] (bytesOf s)) with
    | none =>
      rw [hq] at q1 q2
      rw [q1, q2]
      simp only [Option.bind_some]
      rw [if_pos (by decide), same_f (xs := []) (ys := []) rfl (by simp) (by omega)]
      simp only [Option.bind_some, if_true]
      rw [awake_at (by omega)]
      rfl
    | some L =>
      rw [hq] at q1 q2
      obtain ⟨x, x1, x2⟩ := q1
      obtain ⟨y, y1, y2⟩ := q2
      have hL := query_len _ _ hq
      have hc := cutG_len 38 (bytesOf s) []
      rw [bytesOf_length] at hc
      have hy : y.length = L.length := by rw [← y2, List.length_map]
      rw [x1, y1]
      simp only [Option.bind_some]
      rw [if_pos (by decide), same_f (x2.trans y2.symm) (by omega) (by omega)]
      simp only [Option.bind_some, if_true]
      rw [awake_at (by omega)]
      rfl
  | succ f ih =>
    intro i k hi hk
    obtain ⟨k, rfl⟩ : ∃ m, k = m + 1 := ⟨k - 1, by omega⟩
    have e : bytesOf (a[i]'(by omega)) = bytesOf (b[i]'(by omega)) := by
      have h1 : (a.map bytesOf)[i]? = (b.map bytesOf)[i]? := by rw [h]
      rw [List.getElem?_map, List.getElem?_map, List.getElem?_eq_getElem (by omega), List.getElem?_eq_getElem (by omega)] at h1
      simpa using h1
    have e1 := (tl_iff _ _).2 e
    simp only [larumlaw08_PctSplit.l0]
    rw [if_pos (by omega), if_pos (by omega), if_pos (by omega), if_pos (by omega), rdOf_at a i (by omega), rdOf_at b i (by omega), if_pos e1, w64 (by omega), show ((i : Int) + 1) = ((i + 1 : Nat) : Int) by omega]
    exact ih (i + 1) k (by omega) (by omega)
theorem PctSplit : larumlaw08_PctSplit.Pure := by
  intro t _
  obtain ⟨s, hs, hz⟩ := short_eq t
  obtain ⟨k, hk⟩ : ∃ k : Nat, k = 900000 := ⟨_, rfl⟩
  refine ⟨k + 1, ?_⟩
  unfold larumlaw08_PctSplit.f
  rw [hs]
  simp only [Option.bind_some]
  have q1 := PSplit_f s (by omega) (k := k + 1) (by omega)
  have q2 := RPSplit_f s (by omega) (k := k + 1) (by omega)
  have j0 : ∀ a b : List ByteArray, a.map bytesOf = b.map bytesOf → b.length ≤ 1000 → larumlaw08_PctSplit.j0 (k + 1) s a b false = some true := by
    intro a b h hb
    simp only [larumlaw08_PctSplit.j0]
    rw [if_neg (by simp)]
    exact fin_split s hz h hb b.length 0 k (by omega) (by omega)
  cases hq : splitL (bytesOf s) with
  | none =>
    rw [hq] at q1 q2
    rw [q1, q2]
    simp only [Option.bind_some]
    rw [if_neg (by decide), if_neg (by simp), if_pos (by decide), if_pos (by decide), same_f (xs := []) (ys := []) rfl (by simp) (by omega)]
    exact j0 [] [] rfl (by simp)
  | some P =>
    rw [hq] at q1 q2
    obtain ⟨a, b, a1, a2, a3⟩ := q1
    obtain ⟨c, d, c1, c2, c3⟩ := q2
    obtain ⟨n1, n2⟩ := split_len hq
    rw [bytesOf_length] at n1 n2
    have lc : c.length = P.1.length := by rw [← c2, List.length_map]
    have ld : d.length = P.2.length := by rw [← c3, List.length_map]
    have la : a.length = P.1.length := by rw [← a2, List.length_map]
    rw [a1, c1]
    simp only [Option.bind_some]
    rw [if_neg (by decide), if_pos trivial, if_pos (by omega), same_f (a3.trans c3.symm) (by omega) (by omega)]
    exact j0 a c (a2.trans c2.symm) (by omega)
end Go.Proofs.YteladeppgedomaaDoor.Pure
