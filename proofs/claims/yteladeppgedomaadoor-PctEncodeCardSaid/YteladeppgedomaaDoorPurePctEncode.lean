/- A text with signs by sixteen is as the chapter says, and means that text: for any text. No condition. -/
import Derived.Test.YteladeppgedomaaDoorPPctEncodex4
namespace Go.Proofs.YteladeppgedomaaDoor.Pure
open Go Go.RowKit Go.Proofs.YteladeppgedomaaDoor.PPctEncode Go.Proofs.YteladeppgedomaaDoor.Gp Go.Proofs.YteladeppgedomaaDoorW Go.Proofs.YteladeppgedomaaDoorW.PrintWords Go.Proofs.YteladeppgedomaaDoorW.PrintLast Go.Proofs.YteladeppgedomaaDoorW.PrintMore
set_option linter.unusedVariables false
set_option linter.unusedSimpArgs false
-- strings as lists of numbers
def Byt (l : List Int) : Prop := ∀ x ∈ l, 0 ≤ x ∧ x ≤ 255
theorem Byt.rd {l : List Int} (h : Byt l) (i : Int) : 0 ≤ PrintWords.rd l i ∧ PrintWords.rd l i ≤ 255 := by
  unfold PrintWords.rd
  rw [List.getD_eq_getElem?_getD]
  by_cases hi : i.toNat < l.length
  · rw [List.getElem?_eq_getElem hi]; exact h _ (List.getElem_mem hi)
  · rw [List.getElem?_eq_none (by omega)]; decide
theorem Byt.take {l : List Int} (h : Byt l) (n : Nat) : Byt (l.take n) := fun x hx => h x (List.mem_of_mem_take hx)
theorem Byt.drop {l : List Int} (h : Byt l) (n : Nat) : Byt (l.drop n) := fun x hx => h x (List.mem_of_mem_drop hx)
theorem w64 {x : Int} (h : -9223372036854775808 ≤ x ∧ x ≤ 9223372036854775807) : wrap64 x = x := by unfold wrap64; omega
theorem u64w (x : Int) : IntKind.u64.wrap x = x % 18446744073709551616 := by simp [IntKind.wrap, IntKind.bits, IntKind.signed]
theorem wu64 {x : Int} (h : 0 ≤ x ∧ x ≤ 18446744073709551615) : IntKind.u64.wrap x = x := by rw [u64w]; omega
theorem bts_byt (s : ByteArray) : Byt (bytesOf s) := by
  intro x hx
  simp only [bytesOf, List.mem_map] at hx
  obtain ⟨b, _, rfl⟩ := hx
  have := b.toNat_lt
  omega
theorem bts_len (s : ByteArray) : ((bytesOf s).length : Int) = (s.size : Int) := by rw [bytesOf_length]
theorem bt_rd (s : ByteArray) (i : Int) : bt s i = rd (bytesOf s) i := (rd_bytesOf s i).symm
theorem tl (s : ByteArray) : s.toList = s.data.toList := ByteArray.toList_eq s
theorem u8_map_inj : ∀ {a b : List UInt8}, a.map (fun x => (x.toNat : Int)) = b.map (fun x => (x.toNat : Int)) → a = b
  | [], [], _ => rfl
  | [], _ :: _, h => by simp at h
  | _ :: _, [], h => by simp at h
  | x :: a, y :: b, h => by
    simp only [List.map_cons, List.cons.injEq] at h
    rw [u8_map_inj h.2, UInt8.toNat_inj.1 (by omega : x.toNat = y.toNat)]
theorem tl_iff (s t : ByteArray) : s.toList = t.toList ↔ bytesOf s = bytesOf t := by
  rw [tl, tl]
  exact ⟨fun h => by unfold bytesOf; rw [h], fun h => u8_map_inj h⟩
theorem tl_nil (s : ByteArray) : s.toList = ([] : List UInt8) ↔ bytesOf s = [] := by
  rw [tl]
  unfold bytesOf
  rw [List.map_eq_nil_iff]
theorem bts_extract (s : ByteArray) (a b : Nat) : bytesOf (s.extract a b) = ((bytesOf s).take b).drop a := by
  unfold bytesOf
  rw [List.drop_take, ← List.map_drop, ← List.map_take]
  congr 1
  simp [List.drop_take]
theorem bts_extract_to (s : ByteArray) (a : Nat) : bytesOf (s.extract a s.size) = (bytesOf s).drop a := by
  rw [bts_extract, List.take_of_length_le (by rw [bytesOf_length]; omega)]
theorem bts_append (s t : ByteArray) : bytesOf (s ++ t) = bytesOf s ++ bytesOf t := by
  unfold bytesOf
  rw [← List.map_append]
  congr 1
theorem bts_size (s : ByteArray) : s.size = (bytesOf s).length := (bytesOf_length s).symm
theorem drop_rd {l : List Int} {i : Nat} (h : i < l.length) : l.drop i = rd l (i : Int) :: l.drop (i + 1) := by
  rw [List.drop_eq_getElem_cons h]
  unfold rd
  simp [List.getD_eq_getElem?_getD, List.getElem?_eq_getElem h]
theorem rd_cons_zero (a : Int) (l : List Int) : rd (a :: l) 0 = a := rfl
-- a string made of numbers
theorem bts_son {xs : List Int} (h : Byt xs) : bytesOf (strOfNums xs) = xs := by
  unfold bytesOf
  rw [strOfNums_data, List.map_map]
  conv => rhs; rw [← List.map_id xs]
  apply List.map_congr_left
  intro x hx
  have := h x hx
  simp only [Function.comp, id]
  have e : (UInt8.ofNat x.toNat).toNat = x.toNat := by
    rw [UInt8.toNat_ofNat']
    omega
  rw [e]; omega
theorem bts_tl_iff {s t : ByteArray} : s.toList = t.toList ↔ bytesOf s = bytesOf t := tl_iff s t
theorem ext_bts {s t : ByteArray} (h : bytesOf s = bytesOf t) : s = t := by
  have := (tl_iff s t).2 h
  rw [tl, tl] at this
  cases s with | mk a => cases t with | mk b => simp at this; rw [this]
-- digits by sixteen
def hexV (c : Int) : Int := if 48 ≤ c ∧ c ≤ 57 then c - 48 else if 97 ≤ c ∧ c ≤ 102 then c - 87 else if 65 ≤ c ∧ c ≤ 70 then c - 55 else -1
theorem hex_all : ∀ c : Fin 256, num_hex.f 3 (c.val : Int) = some (hexV (c.val : Int)) := by decide +kernel
theorem hex_eq {c : Int} (h : 0 ≤ c ∧ c ≤ 255) {k : Nat} (hk : 3 ≤ k) : num_hex.f k c = some (hexV c) := by
  have := hex_all ⟨c.toNat, by omega⟩
  simp only [Int.toNat_of_nonneg h.1] at this
  exact at_rounds (g := fun k => num_hex.f k c) (fun k => num_hex.mono c k) hk this
def allH (l : List Int) : Bool := l.all fun c => decide (0 ≤ hexV c)
def hx (v : Int) : List Int → Int
  | [] => v
  | c :: l => hx (16 * v + hexV c) l
theorem hexV_bd (c : Int) : -1 ≤ hexV c ∧ hexV c ≤ 15 := by unfold hexV; repeat' split <;> omega
theorem hx_ge : ∀ (l : List Int) (v : Int), allH l = true → 0 ≤ v → v ≤ hx v l
  | [], v, _, _ => Int.le_refl v
  | c :: l, v, h, hv => by
    simp only [allH, List.all_cons, Bool.and_eq_true, decide_eq_true_eq] at h
    have := hx_ge l (16 * v + hexV c) h.2 (by omega)
    show v ≤ hx (16 * v + hexV c) l
    omega
def hexR (e lg : Bool) (v : Int) (l : List Int) : Int × Int := if allH l = false then (0, 3) else if e = true then (0, 3) else if lg = true ∨ hx v l > 2147483647 then (0, 5) else (hx v l, 0)
theorem Hex_l0 (s : ByteArray) (hs : s.size ≤ 140737488351232) (d : Nat) : ∀ (i k : Nat) (v : Int) (lg : Bool), i + d = s.size → d + 3 < k → 0 ≤ v → v ≤ 2147483647 →
    num_Hex.l0 k s v lg (s.size : Int) (i : Int) = some (hexR (bytesOf s).isEmpty lg v ((bytesOf s).drop i)) := by
  have he : s.toList = ([] : List UInt8) ↔ (bytesOf s).isEmpty = true := by rw [tl_nil, List.isEmpty_iff]
  induction d with
  | zero =>
    intro i k v lg hi hk h0 h1
    obtain ⟨k, rfl⟩ : ∃ m, k = m + 1 := ⟨k - 1, by omega⟩
    simp only [num_Hex.l0]
    rw [if_neg (by omega), List.drop_of_length_le (by rw [bytesOf_length]; omega)]
    by_cases c : s.toList = ([] : List UInt8)
    · rw [if_pos c]
      unfold hexR
      rw [he.1 c]
      simp [allH]
    · have c' : (bytesOf s).isEmpty = false := by cases h : (bytesOf s).isEmpty with | true => exact absurd (he.2 h) c | false => rfl
      rw [if_neg c]
      unfold hexR
      rw [c']
      cases lg with
      | true => simp [allH]
      | false => simp [hx, allH]; omega
  | succ d ih =>
    intro i k v lg hi hk h0 h1
    obtain ⟨k, rfl⟩ : ∃ m, k = m + 1 := ⟨k - 1, by omega⟩
    have hv := hexV_bd (rd (bytesOf s) (i : Int))
    simp only [num_Hex.l0]
    rw [if_pos (by omega), if_pos (by omega), if_pos (by omega), bt_rd, hex_eq ((bts_byt s).rd _) (by omega), drop_rd (by rw [bytesOf_length]; omega), w64 (x := (i : Int) + 1) (by omega), show ((i : Int) + 1) = ((i + 1 : Nat) : Int) by omega]
    simp only [Option.bind_some]
    by_cases c : hexV (rd (bytesOf s) (i : Int)) < 0
    · rw [if_pos c]
      unfold hexR
      rw [if_pos (by simp only [allH, List.all_cons, Bool.and_eq_false_iff, decide_eq_false_iff_not]; left; omega)]
    rw [if_neg c]
    have key : ∀ (lg' : Bool) (v' : Int), (allH ((bytesOf s).drop (i + 1)) = true → (lg' = true ∨ hx v' ((bytesOf s).drop (i + 1)) > 2147483647) = (lg = true ∨ hx (16 * v + hexV (rd (bytesOf s) (i : Int))) ((bytesOf s).drop (i + 1)) > 2147483647)) →
        (allH ((bytesOf s).drop (i + 1)) = true → ¬ (lg' = true ∨ hx v' ((bytesOf s).drop (i + 1)) > 2147483647) → hx v' ((bytesOf s).drop (i + 1)) = hx (16 * v + hexV (rd (bytesOf s) (i : Int))) ((bytesOf s).drop (i + 1))) →
        hexR (bytesOf s).isEmpty lg' v' ((bytesOf s).drop (i + 1)) = hexR (bytesOf s).isEmpty lg v (rd (bytesOf s) (i : Int) :: (bytesOf s).drop (i + 1)) := by
      intro lg' v' e1 e2
      unfold hexR
      have ea : allH (rd (bytesOf s) (i : Int) :: (bytesOf s).drop (i + 1)) = allH ((bytesOf s).drop (i + 1)) := by
        simp only [allH, List.all_cons]; rw [decide_eq_true (by omega), Bool.true_and]
      rw [ea]
      cases ha : allH ((bytesOf s).drop (i + 1)) with
      | false => rfl
      | true =>
        simp only [Bool.true_eq_false, if_false]
        cases (bytesOf s).isEmpty with
        | true => rfl
        | false =>
          simp only [Bool.false_eq_true, if_false]
          show (if (lg' = true ∨ hx v' ((bytesOf s).drop (i + 1)) > 2147483647) then _ else _) = (if (lg = true ∨ hx (16 * v + hexV (rd (bytesOf s) (i : Int))) ((bytesOf s).drop (i + 1)) > 2147483647) then _ else (hx (16 * v + hexV (rd (bytesOf s) (i : Int))) ((bytesOf s).drop (i + 1)), 0))
          by_cases c1 : (lg' = true ∨ hx v' ((bytesOf s).drop (i + 1)) > 2147483647)
          · rw [if_pos c1, if_pos (by rw [← e1 ha]; exact c1)]
          · rw [if_neg c1, if_neg (by rw [← e1 ha]; exact c1), e2 ha c1]
    cases lg with
    | true =>
      rw [if_pos rfl, ih (i + 1) k v true (by omega) (by omega) h0 h1]
      congr 1
      exact key true v (fun _ => by simp) (fun _ h => absurd (Or.inl rfl) h)
    | false =>
      rw [if_neg (by simp), w64 (x := 2147483647 - hexV (rd (bytesOf s) (i : Int))) (by omega), Int.tdiv_eq_ediv_of_nonneg (by omega), w64 (x := (2147483647 - hexV (rd (bytesOf s) (i : Int))) / 16) (by omega)]
      by_cases c1 : v > (2147483647 - hexV (rd (bytesOf s) (i : Int))) / 16
      · rw [if_pos c1, decide_eq_true c1, ih (i + 1) k v true (by omega) (by omega) h0 h1]
        congr 1
        exact key true v (fun ha => by
          have := hx_ge ((bytesOf s).drop (i + 1)) (16 * v + hexV (rd (bytesOf s) (i : Int))) ha (by omega)
          simp; omega) (fun _ h => absurd (Or.inl rfl) h)
      · rw [if_neg c1, decide_eq_false c1, w64 (x := v * 16) (by omega), w64 (by omega), ih (i + 1) k _ false (by omega) (by omega) (by omega) (by omega)]
        congr 1
        rw [show v * 16 + hexV (rd (bytesOf s) (i : Int)) = 16 * v + hexV (rd (bytesOf s) (i : Int)) by omega]
        exact key false _ (fun _ => rfl) (fun _ _ => rfl)
/-- Which number digits by sixteen are. -/
def parseH (l : List Int) : Int × Int := if allH l = false ∨ l = [] then (0, 3) else if hx 0 l > 2147483647 then (0, 5) else (hx 0 l, 0)
theorem Hex_eq (s : ByteArray) (hs : s.size ≤ 140737488351232) {k : Nat} (hk : s.size + 3 < k) : num_Hex.f k s = some (parseH (bytesOf s)) := by
  unfold num_Hex.f
  have := Hex_l0 s hs s.size 0 k 0 false (by omega) hk (by omega) (by omega)
  rw [show ((0 : Nat) : Int) = 0 from rfl] at this
  rw [this, List.drop_zero]
  congr 1
  unfold hexR parseH
  cases h : bytesOf s with
  | nil => simp
  | cons a l =>
    cases ha : allH (a :: l) with
    | false => simp
    | true => simp
-- signs by sixteen, read
theorem awake60 : larumlaw08_awake.f 200 = some true := by decide +kernel
theorem awake_at {k : Nat} (h : 200 ≤ k) : larumlaw08_awake.f k = some true := at_rounds (g := fun k => larumlaw08_awake.f k) (fun k => larumlaw08_awake.mono k) h awake60
theorem short_eq (s : ByteArray) : ∃ t, larumlaw08_short.f s = some t ∧ t.size ≤ 100 := by
  unfold larumlaw08_short.f
  by_cases h : (s.size : Int) > 100
  · exact ⟨_, by rw [if_pos h, if_pos (by decide), if_pos (by omega)], by simp; omega⟩
  · exact ⟨s, by rw [if_neg h], by omega⟩
def decL : Nat → Bool → List Int → Option (List Int)
  | 0, _, _ => none
  | _ + 1, _, [] => some []
  | f + 1, plus, c :: r => if c = 37 then (match r with
      | a :: b :: r' => if 0 ≤ hexV a ∧ 0 ≤ hexV b then (decL f plus r').map ((16 * hexV a + hexV b) :: ·) else none
      | _ => none) else (decL f plus r).map ((if c = 43 ∧ plus = true then 32 else c) :: ·)
theorem dec_plain {f : Nat} {plus : Bool} {c : Int} {r : List Int} (h : c ≠ 37) : decL (f + 1) plus (c :: r) = (decL f plus r).map ((if c = 43 ∧ plus = true then 32 else c) :: ·) := by simp only [decL, if_neg h]
theorem dec_two {f : Nat} {plus : Bool} {a b : Int} {r : List Int} : decL (f + 1) plus (37 :: a :: b :: r) = if 0 ≤ hexV a ∧ 0 ≤ hexV b then (decL f plus r).map ((16 * hexV a + hexV b) :: ·) else none := by simp only [decL, if_true]
theorem dec_few {f : Nat} {plus : Bool} {r : List Int} (h : r.length < 2) : decL (f + 1) plus (37 :: r) = none := by
  rcases r with _ | ⟨a, _ | ⟨b, r⟩⟩
  · simp only [decL, if_true]
  · simp only [decL, if_true]
  · simp at h; omega
theorem dec_byt : ∀ (f : Nat) (plus : Bool) (l : List Int), Byt l → match decL f plus l with | some m => Byt m | none => True
  | 0, plus, l, _ => by simp [decL]
  | f + 1, plus, [], _ => by simp only [decL]; intro x hx; cases hx
  | f + 1, plus, c :: r, h => by
    have hc := h c (by simp)
    by_cases h37 : c = 37
    · subst h37
      rcases r with _ | ⟨a, _ | ⟨b, r⟩⟩
      · rw [dec_few (by simp)]; trivial
      · rw [dec_few (by simp)]; trivial
      · rw [dec_two]
        split
        · rename_i m hm
          split at hm
          · rename_i hab
            have ih := dec_byt f plus r (fun x hx => h x (by simp [hx]))
            cases hd : decL f plus r with
            | none => rw [hd] at hm; cases hm
            | some m' =>
              rw [hd] at hm ih
              cases hm
              intro x hx
              have h1 := hexV_bd a
              have h2 := hexV_bd b
              rcases List.mem_cons.1 hx with rfl | hx
              · omega
              · exact ih x hx
          · cases hm
        · trivial
    · rw [dec_plain h37]
      have ih := dec_byt f plus r (fun x hx => h x (List.mem_cons_of_mem _ hx))
      cases hd : decL f plus r with
      | none => trivial
      | some m' =>
        rw [hd] at ih
        intro x hx
        rcases List.mem_cons.1 hx with rfl | hx
        · split <;> omega
        · exact ih x hx
def natL (l : List UInt8) : List Int := l.map fun x => (x.toNat : Int)
theorem natL_bts (l : List UInt8) : bytesOf (⟨l.toArray⟩ : ByteArray) = natL l := rfl
theorem natL_snoc (l : List UInt8) (x : Int) (h : 0 ≤ x ∧ x ≤ 255) : natL (l ++ [pct_Decode.u8 x]) = natL l ++ [x] := by
  unfold natL
  rw [List.map_append]
  simp only [List.map_cons, List.map_nil, pct_Decode.u8_eq h]
theorem parse_two (a b : Int) : parseH [a, b] = if 0 ≤ hexV a ∧ 0 ≤ hexV b then (16 * hexV a + hexV b, 0) else (0, 3) := by
  have h1 := hexV_bd a
  have h2 := hexV_bd b
  unfold parseH
  by_cases h : 0 ≤ hexV a ∧ 0 ≤ hexV b
  · have ha : allH [a, b] = true := by simp [allH, h]
    have hx : hx 0 [a, b] = 16 * hexV a + hexV b := by simp [hx]
    rw [if_pos h, if_neg (by simp [ha]), hx, if_neg (by omega)]
  · have ha : allH [a, b] = false := by
      cases hh : allH [a, b] with
      | false => rfl
      | true =>
        exfalso; apply h
        simpa [allH] using hh
    rw [if_neg h, if_pos (Or.inl ha)]
theorem two_at (s : ByteArray) (i : Nat) (h : i + 3 ≤ s.size) : (bytesOf s).drop (i + 1) = rd (bytesOf s) ((i + 1 : Nat) : Int) :: rd (bytesOf s) ((i + 2 : Nat) : Int) :: (bytesOf s).drop (i + 3) := by
  have hl := bytesOf_length s
  rw [drop_rd (by omega), drop_rd (by omega)]
theorem ex_two (s : ByteArray) (i : Nat) (h : i + 3 ≤ s.size) : bytesOf (s.extract (i + 1) (i + 3)) = [rd (bytesOf s) ((i + 1 : Nat) : Int), rd (bytesOf s) ((i + 2 : Nat) : Int)] := by
  rw [bts_extract, List.drop_take, two_at s i h, show i + 3 - (i + 1) = 2 by omega]
  rfl
theorem u8wrap {x : Int} (h : 0 ≤ x ∧ x ≤ 255) : IntKind.u8.wrap x = x := by
  have : IntKind.u8.wrap x = x % 256 := by simp [IntKind.wrap, IntKind.bits, IntKind.signed]
  rw [this]; omega
theorem Decode_l0 (s : ByteArray) (plus : Bool) (hs : s.size ≤ 100000) : ∀ (f i k : Nat) (out : List UInt8), s.size < i + f → i ≤ s.size → f + 300000 ≤ k →
    match decL f plus ((bytesOf s).drop i) with | some l => ∃ t, pct_Decode.l0 k s plus (i : Int) out = some (t, 0) ∧ bytesOf t = natL out ++ l | none => pct_Decode.l0 k s plus (i : Int) out = some (⟨#[]⟩, 3) := by
  have hl := bytesOf_length s
  intro f
  induction f with
  | zero => intro i k out h1 h2; omega
  | succ f ih =>
    intro i k out h1 h2 hk
    obtain ⟨k, rfl⟩ : ∃ m, k = m + 1 := ⟨k - 1, by omega⟩
    by_cases hi : i < s.size
    · have hbr := bt_range s (i : Int)
      have step : pct_Decode.l0 (k + 1) s plus (i : Int) out = if bt s (i : Int) = 37 then ((num_Hex.f k (s.extract ((i : Int) + 1).toNat (min ((i : Int) + 3) (s.size : Int)).toNat)).bind fun t => if t.2 = 0 ∧ ¬ ((i : Int) + 3 > (s.size : Int)) then pct_Decode.l0 k s plus ((i : Int) + 3) (out ++ [pct_Decode.u8 (IntKind.u8.wrap t.1)]) else some (⟨#[]⟩, 3)) else if bt s (i : Int) = 43 ∧ plus = true then pct_Decode.l0 k s plus ((i : Int) + 1) (out ++ [32]) else pct_Decode.l0 k s plus ((i : Int) + 1) (out ++ [pct_Decode.u8 (bt s (i : Int))]) := by
        simp only [pct_Decode.l0]
        rw [if_pos (by omega)]
      rw [step, drop_rd (by omega), ← bt_rd]
      generalize hc : bt s (i : Int) = c at hbr
      by_cases h37 : c = 37
      · subst h37
        rw [if_pos rfl]
        by_cases h3 : i + 3 ≤ s.size
        · rw [two_at s i h3, dec_two]
          have e : s.extract ((i : Int) + 1).toNat (min ((i : Int) + 3) (s.size : Int)).toNat = s.extract (i + 1) (i + 3) := by
            congr 1 <;> omega
          have hz : (s.extract (i + 1) (i + 3)).size ≤ 100000 := by simp only [ByteArray.size_extract]; omega
          rw [e, Hex_eq _ (by omega) (by omega), ex_two s i h3, parse_two]
          simp only [Option.bind_some]
          generalize rd (bytesOf s) ((i + 1 : Nat) : Int) = a
          generalize rd (bytesOf s) ((i + 2 : Nat) : Int) = b
          have ha := hexV_bd a
          have hb := hexV_bd b
          by_cases hab : 0 ≤ hexV a ∧ 0 ≤ hexV b
          · simp only [if_pos hab]
            rw [if_pos ⟨trivial, by omega⟩, u8wrap (by omega), show (i : Int) + 3 = ((i + 3 : Nat) : Int) by omega]
            have := ih (i + 3) k (out ++ [pct_Decode.u8 (16 * hexV a + hexV b)]) (by omega) (by omega) (by omega)
            cases hd : decL f plus ((bytesOf s).drop (i + 3)) with
            | none => rw [hd] at this; exact this
            | some l =>
              rw [hd] at this
              obtain ⟨t, t1, t2⟩ := this
              exact ⟨t, t1, by rw [t2, natL_snoc _ _ (by omega)]; simp⟩
          · simp only [if_neg hab]
            rw [if_neg (by simp)]
        · rw [dec_few (by rw [List.length_drop]; omega)]
          cases hx : num_Hex.f k (s.extract ((i : Int) + 1).toNat (min ((i : Int) + 3) (s.size : Int)).toNat) with
          | none =>
            have hz : (s.extract ((i : Int) + 1).toNat (min ((i : Int) + 3) (s.size : Int)).toNat).size ≤ 100000 := by simp only [ByteArray.size_extract]; omega
            rw [Hex_eq _ (by omega) (by omega)] at hx
            cases hx
          | some x =>
            simp only [Option.bind_some]
            rw [if_neg (fun h => h.2 (by omega))]
      · rw [if_neg h37, dec_plain h37]
        rw [show (i : Int) + 1 = ((i + 1 : Nat) : Int) by omega]
        by_cases h43 : c = 43 ∧ plus = true
        · rw [if_pos h43]
          have := ih (i + 1) k (out ++ [32]) (by omega) (by omega) (by omega)
          simp only [if_pos h43]
          cases hd : decL f plus ((bytesOf s).drop (i + 1)) with
          | none => rw [hd] at this; exact this
          | some l =>
            rw [hd] at this
            obtain ⟨t, t1, t2⟩ := this
            exact ⟨t, t1, by rw [t2]; simp [natL]⟩
        · rw [if_neg h43]
          have := ih (i + 1) k (out ++ [pct_Decode.u8 c]) (by omega) (by omega) (by omega)
          simp only [if_neg h43]
          cases hd : decL f plus ((bytesOf s).drop (i + 1)) with
          | none => rw [hd] at this; exact this
          | some l =>
            rw [hd] at this
            obtain ⟨t, t1, t2⟩ := this
            exact ⟨t, t1, by rw [t2, natL_snoc _ _ hbr]; simp⟩
    · have e : (bytesOf s).drop i = [] := List.drop_of_length_le (by omega)
      rw [e]
      have : decL (f + 1) plus [] = some [] := rfl
      rw [this]
      refine ⟨⟨out.toArray⟩, ?_, by rw [natL_bts]; simp⟩
      simp only [pct_Decode.l0]
      rw [if_neg (by omega)]
theorem Decode_f (s : ByteArray) (plus : Bool) (hs : s.size ≤ 1000) {k : Nat} (hk : 400000 ≤ k) :
    match decL (s.size + 1) plus (bytesOf s) with | some l => ∃ t, pct_Decode.f k s plus = some (t, 0) ∧ bytesOf t = l | none => pct_Decode.f k s plus = some (⟨#[]⟩, 3) := by
  have := Decode_l0 s plus (by omega) (s.size + 1) 0 k [] (by omega) (by omega) (by omega)
  rw [List.drop_zero] at this
  unfold pct_Decode.f
  rw [if_pos (by omega)]
  exact this
-- a text with signs by sixteen
def plainB (c : Int) : Bool := (pct_plain.f 20 c).getD false
theorem plain256 : ∀ c : Fin 256, pct_plain.f 20 (c.val : Int) = some (plainB (c.val : Int)) := by decide +kernel
theorem plain_f {c : Int} (h : 0 ≤ c ∧ c ≤ 255) {k : Nat} (hk : 20 ≤ k) : pct_plain.f k c = some (plainB c) := by
  have := plain256 ⟨c.toNat, by omega⟩
  rw [show ((⟨c.toNat, by omega⟩ : Fin 256).val : Int) = c from by show ((c.toNat : Nat) : Int) = c; omega] at this
  exact at_rounds (g := fun k => pct_plain.f k c) (fun k => pct_plain.mono c k) hk this
def hexs : ByteArray := ⟨#[48, 49, 50, 51, 52, 53, 54, 55, 56, 57, 65, 66, 67, 68, 69, 70]⟩
def hexD (d : Int) : Int := bt hexs d
theorem hexD16 : ∀ d : Fin 16, hexV (hexD (d.val : Int)) = (d.val : Int) ∧ 0 ≤ hexD (d.val : Int) ∧ hexD (d.val : Int) ≤ 255 := by decide +kernel
theorem hexD_f {d : Int} (h : 0 ≤ d ∧ d < 16) : hexV (hexD d) = d ∧ 0 ≤ hexD d ∧ hexD d ≤ 255 := by
  have := hexD16 ⟨d.toNat, by omega⟩
  rw [show ((⟨d.toNat, by omega⟩ : Fin 16).val : Int) = d from by show ((d.toNat : Nat) : Int) = d; omega] at this
  exact this
def encL : List Int → List Int
  | [] => []
  | c :: r => (if plainB c = true then [c] else [37, hexD (c / 16), hexD (c % 16)]) ++ encL r
theorem enc_byt : ∀ l, Byt l → Byt (encL l)
  | [], h => h
  | c :: r, h => by
    have hc := h c (by simp)
    have h1 := hexD_f (d := c / 16) (by omega)
    have h2 := hexD_f (d := c % 16) (by omega)
    have ih := enc_byt r (fun x hx => h x (List.mem_cons_of_mem _ hx))
    intro x hx
    unfold encL at hx
    rcases List.mem_append.1 hx with hx | hx
    · split at hx
      · rw [List.mem_singleton.1 hx]; exact hc
      · simp only [List.mem_cons, List.not_mem_nil, or_false] at hx
        rcases hx with rfl | rfl | rfl
        · omega
        · exact h1.2
        · exact h2.2
    · exact ih x hx
theorem enc_len : ∀ l, (encL l).length ≤ 3 * l.length
  | [] => by simp [encL]
  | c :: r => by
    have := enc_len r
    unfold encL
    split <;> simp <;> omega
theorem enc_ge : ∀ l : List Int, l.length ≤ (encL l).length
  | [] => by simp
  | c :: r => by
    have := enc_ge r
    unfold encL
    split <;> simp <;> omega
theorem plain_not : ∀ c : Fin 256, plainB (c.val : Int) = true → (c.val : Int) ≠ 37 ∧ (c.val : Int) ≠ 43 := by decide +kernel
theorem plain_ne {c : Int} (h : 0 ≤ c ∧ c ≤ 255) (hp : plainB c = true) : c ≠ 37 ∧ c ≠ 43 := by
  have := plain_not ⟨c.toNat, by omega⟩
  rw [show ((⟨c.toNat, by omega⟩ : Fin 256).val : Int) = c from by show ((c.toNat : Nat) : Int) = c; omega] at this
  exact this hp
theorem dec_enc (plus : Bool) : ∀ (l : List Int) (f : Nat), Byt l → l.length < f → decL f plus (encL l) = some l
  | [], f, _, hf => by
    obtain ⟨f, rfl⟩ : ∃ m, f = m + 1 := ⟨f - 1, by omega⟩
    rfl
  | c :: r, f, h, hf => by
    simp only [List.length_cons] at hf
    obtain ⟨f, rfl⟩ : ∃ m, f = m + 1 := ⟨f - 1, by omega⟩
    have hc := h c (by simp)
    have ih := dec_enc plus r f (fun x hx => h x (List.mem_cons_of_mem _ hx)) (by omega)
    unfold encL
    by_cases hp : plainB c = true
    · obtain ⟨n1, n2⟩ := plain_ne hc hp
      rw [if_pos hp]
      show decL (f + 1) plus (c :: encL r) = _
      rw [dec_plain n1, ih, if_neg (fun h => n2 h.1)]
      rfl
    · have h1 := hexD_f (d := c / 16) (by omega)
      have h2 := hexD_f (d := c % 16) (by omega)
      rw [if_neg hp]
      show decL (f + 1) plus (37 :: hexD (c / 16) :: hexD (c % 16) :: encL r) = _
      rw [dec_two, if_pos (by omega), ih, h1.1, h2.1]
      show some ((16 * (c / 16) + c % 16) :: r) = _
      rw [show 16 * (c / 16) + c % 16 = c by omega]
theorem natL_u8 (x : Int) (h : 0 ≤ x ∧ x ≤ 255) : natL [pct_Encode.u8 x] = [x] := by
  unfold natL
  simp only [List.map_cons, List.map_nil, pct_Encode.u8_eq h]
theorem natL_app (a b : List UInt8) : natL (a ++ b) = natL a ++ natL b := by unfold natL; rw [List.map_append]
theorem Encode_l0 (s : ByteArray) (hs : s.size ≤ 1000000) : ∀ (f i k : Nat) (out : List UInt8), i + f = s.size → f + 30 ≤ k → ∃ t, pct_Encode.l0 k s (i : Int) out = some t ∧ bytesOf t = natL out ++ encL ((bytesOf s).drop i) := by
  have hl := bytesOf_length s
  intro f
  induction f with
  | zero =>
    intro i k out hi hk
    obtain ⟨k, rfl⟩ : ∃ m, k = m + 1 := ⟨k - 1, by omega⟩
    refine ⟨⟨out.toArray⟩, ?_, ?_⟩
    · simp only [pct_Encode.l0]
      rw [if_neg (by omega)]
    · rw [natL_bts, List.drop_of_length_le (by omega)]; simp [encL]
  | succ f ih =>
    intro i k out hi hk
    obtain ⟨k, rfl⟩ : ∃ m, k = m + 1 := ⟨k - 1, by omega⟩
    have hbr := bt_range s (i : Int)
    have step : pct_Encode.l0 (k + 1) s (i : Int) out = ((pct_plain.f k (bt s (i : Int))).bind fun t => if t = true then pct_Encode.l0 k s ((i + 1 : Nat) : Int) (out ++ [pct_Encode.u8 (bt s (i : Int))]) else pct_Encode.l0 k s ((i + 1 : Nat) : Int) (out ++ [37, pct_Encode.hex (bt s (i : Int) / 16), pct_Encode.hex (bt s (i : Int) % 16)])) := by
      simp only [pct_Encode.l0]
      rw [if_pos (by omega), show ((i + 1 : Nat) : Int) = (i : Int) + 1 by omega]
    rw [step, plain_f hbr (by omega), drop_rd (by omega), ← bt_rd]
    simp only [Option.bind_some]
    generalize bt s (i : Int) = c at hbr
    have h1 := hexD_f (d := c / 16) (by omega)
    have h2 := hexD_f (d := c % 16) (by omega)
    unfold encL
    by_cases hp : plainB c = true
    · rw [if_pos hp, if_pos hp]
      obtain ⟨t, t1, t2⟩ := ih (i + 1) k (out ++ [pct_Encode.u8 c]) (by omega) (by omega)
      exact ⟨t, t1, by rw [t2, natL_app, natL_u8 c hbr]; simp⟩
    · rw [if_neg hp, if_neg hp]
      obtain ⟨t, t1, t2⟩ := ih (i + 1) k (out ++ [37, pct_Encode.hex (c / 16), pct_Encode.hex (c % 16)]) (by omega) (by omega)
      refine ⟨t, t1, ?_⟩
      have e1 : natL [37, pct_Encode.hex (c / 16), pct_Encode.hex (c % 16)] = [37, hexD (c / 16), hexD (c % 16)] := by
        have a1 : natL [pct_Encode.hex (c / 16)] = [hexD (c / 16)] := natL_u8 _ h1.2
        have a2 : natL [pct_Encode.hex (c % 16)] = [hexD (c % 16)] := natL_u8 _ h2.2
        have : natL [37, pct_Encode.hex (c / 16), pct_Encode.hex (c % 16)] = 37 :: (natL [pct_Encode.hex (c / 16)] ++ natL [pct_Encode.hex (c % 16)]) := rfl
        rw [this, a1, a2]; rfl
      rw [t2, natL_app, e1]; simp
theorem Encode_f (s : ByteArray) (hs : s.size ≤ 1000) {k : Nat} (hk : 2000 ≤ k) : ∃ t, pct_Encode.f k s = some t ∧ bytesOf t = encL (bytesOf s) := by
  obtain ⟨t, t1, t2⟩ := Encode_l0 s (by omega) s.size 0 k [] (by omega) (by omega)
  refine ⟨t, ?_, by rw [t2, List.drop_zero]; rfl⟩
  unfold pct_Encode.f
  rw [if_pos (by omega)]
  exact t1
def letB (c : Int) : Bool := (larumref01_Letter.f c).getD false
def digB (c : Int) : Bool := (larumref01_Digit.f c).getD false
theorem let256 : ∀ c : Fin 256, larumref01_Letter.f (c.val : Int) = some (letB (c.val : Int)) ∧ larumref01_Digit.f (c.val : Int) = some (digB (c.val : Int)) ∧ plainB (c.val : Int) = (letB (c.val : Int) || digB (c.val : Int) || (c.val : Int) == 45 || (c.val : Int) == 46 || (c.val : Int) == 95 || (c.val : Int) == 126) := by decide +kernel
theorem let_f {c : Int} (h : 0 ≤ c ∧ c ≤ 255) : larumref01_Letter.f c = some (letB c) ∧ larumref01_Digit.f c = some (digB c) ∧ plainB c = (letB c || digB c || c == 45 || c == 46 || c == 95 || c == 126) := by
  have := let256 ⟨c.toNat, by omega⟩
  rw [show ((⟨c.toNat, by omega⟩ : Fin 256).val : Int) = c from by show ((c.toNat : Nat) : Int) = c; omega] at this
  exact this
theorem hexs_ex16 : ∀ d : Fin 16, bytesOf (hexs.extract d.val (d.val + 1)) = [hexD (d.val : Int)] := by decide +kernel
theorem hexs_ex {d : Int} (h : 0 ≤ d ∧ d < 16) : bytesOf (hexs.extract d.toNat (d + 1).toNat) = [hexD d] := by
  have := hexs_ex16 ⟨d.toNat, by omega⟩
  rw [show ((⟨d.toNat, by omega⟩ : Fin 16).val : Int) = d from by show ((d.toNat : Nat) : Int) = d; omega] at this
  rw [show (d + 1).toNat = d.toNat + 1 by omega]
  exact this
theorem REncode_l0 (s : ByteArray) (hs : s.size ≤ 1000000) : ∀ (f i k : Nat) (o : ByteArray), i + f = s.size → f + 30 ≤ k → o.size ≤ 3 * i → ∃ t, larumref08_Encode.l0 k s o (i : Int) = some t ∧ bytesOf t = bytesOf o ++ encL ((bytesOf s).drop i) := by
  have hl := bytesOf_length s
  intro f
  induction f with
  | zero =>
    intro i k o hi hk ho
    obtain ⟨k, rfl⟩ : ∃ m, k = m + 1 := ⟨k - 1, by omega⟩
    refine ⟨o, ?_, ?_⟩
    · simp only [larumref08_Encode.l0]
      rw [if_neg (by omega)]
    · rw [List.drop_of_length_le (by omega)]; simp [encL]
  | succ f ih =>
    intro i k o hi hk ho
    obtain ⟨k, rfl⟩ : ∃ m, k = m + 1 := ⟨k - 1, by omega⟩
    have hbr := bt_range s (i : Int)
    have ew : wrap64 ((i : Int) + 1) = ((i + 1 : Nat) : Int) := by rw [w64 (by omega)]; omega
    have ex : bytesOf (s.extract (i : Int).toNat (((i + 1 : Nat) : Int)).toNat) = [bt s (i : Int)] := by
      rw [show (i : Int).toNat = i by omega, show (((i + 1 : Nat) : Int)).toNat = i + 1 by omega, bts_extract, List.drop_take, drop_rd (by omega), show i + 1 - i = 1 by omega, bt_rd]
      rfl
    have ez : (s.extract (i : Int).toNat (((i + 1 : Nat) : Int)).toNat).size = 1 := by rw [bts_size, ex]; rfl
    obtain ⟨g1, g2, g3⟩ := let_f hbr
    rw [drop_rd (by omega), ← bt_rd]
    have yes : plainB (bt s (i : Int)) = true → ∃ t, larumref08_Encode.l0 k s (o ++ s.extract (i : Int).toNat (((i + 1 : Nat) : Int)).toNat) ((i + 1 : Nat) : Int) = some t ∧ bytesOf t = bytesOf o ++ encL (bt s (i : Int) :: (bytesOf s).drop (i + 1)) := by
      intro hp
      obtain ⟨t, t1, t2⟩ := ih (i + 1) k (o ++ s.extract (i : Int).toNat (((i + 1 : Nat) : Int)).toNat) (by omega) (by omega) (by rw [ByteArray.size_append, ez]; omega)
      refine ⟨t, t1, ?_⟩
      rw [t2, bts_append, ex]
      conv => rhs; unfold encL
      rw [if_pos hp]; simp
    have ok : (if (i : Int) ≤ ((i + 1 : Nat) : Int) then (if ((i + 1 : Nat) : Int) ≤ (s.size : Int) then (if o.size + (s.extract (i : Int).toNat (((i + 1 : Nat) : Int)).toNat).size ≤ 9223372036854775807 then larumref08_Encode.l0 k s (o ++ s.extract (i : Int).toNat (((i + 1 : Nat) : Int)).toNat) ((i + 1 : Nat) : Int) else none) else none) else none) = larumref08_Encode.l0 k s (o ++ s.extract (i : Int).toNat (((i + 1 : Nat) : Int)).toNat) ((i + 1 : Nat) : Int) := by
      rw [if_pos (by omega), if_pos (by omega), if_pos (by omega)]
    simp only [larumref08_Encode.l0, ew, ok, g1, g2, Option.bind_some]
    rw [if_pos (by omega), if_pos (by omega)]
    generalize bt s (i : Int) = c at *
    by_cases c1 : letB c = true
    · rw [if_pos c1]; exact yes (by rw [g3, c1]; rfl)
    rw [if_neg c1]
    by_cases c2 : digB c = true
    · rw [if_pos c2]; exact yes (by rw [g3, c2]; simp)
    rw [if_neg c2]
    by_cases c3 : c = 45
    · rw [if_pos c3]; exact yes (by rw [g3]; simp [c3])
    rw [if_neg c3]
    by_cases c4 : c = 46
    · rw [if_pos c4]; exact yes (by rw [g3]; simp [c4])
    rw [if_neg c4]
    by_cases c5 : c = 95
    · rw [if_pos c5]; exact yes (by rw [g3]; simp [c5])
    rw [if_neg c5]
    by_cases c6 : c = 126
    · rw [if_pos c6]; exact yes (by rw [g3]; simp [c6])
    rw [if_neg c6]
    have hp : plainB c = false := by rw [g3]; simp [c1, c2, c3, c4, c5, c6]
    have q1 : (Int.tdiv c 16) % 256 = c / 16 := by rw [Int.tdiv_eq_ediv_of_nonneg hbr.1]; omega
    have q2 : Int.tmod c 16 = c % 16 := Int.tmod_eq_emod_of_nonneg hbr.1
    have q3 : (c / 16 + 1) % 256 = c / 16 + 1 := by omega
    have q4 : (c % 16 + 1) % 256 = c % 16 + 1 := by omega
    have hh : (⟨#[48, 49, 50, 51, 52, 53, 54, 55, 56, 57, 65, 66, 67, 68, 69, 70]⟩ : ByteArray) = hexs := rfl
    rw [hh, q1, q2, q3, q4]
    have x1 := hexs_ex (d := c / 16) (by omega)
    have x2 := hexs_ex (d := c % 16) (by omega)
    have z1 : (hexs.extract (c / 16).toNat (c / 16 + 1).toNat).size = 1 := by rw [bts_size, x1]; rfl
    have z2 : (hexs.extract (c % 16).toNat (c % 16 + 1).toNat).size = 1 := by rw [bts_size, x2]; rfl
    have z3 : (o ++ (⟨#[37]⟩ : ByteArray)).size = o.size + 1 := by rw [ByteArray.size_append]; rfl
    generalize hexs.extract (c / 16).toNat (c / 16 + 1).toNat = e1 at *
    generalize hexs.extract (c % 16).toNat (c % 16 + 1).toNat = e2 at *
    have z4 : ((o ++ (⟨#[37]⟩ : ByteArray)) ++ e1).size = o.size + 2 := by rw [ByteArray.size_append, z3, z1]
    rw [if_pos (by omega), if_pos (by omega), if_pos (by omega), if_pos (by omega), if_pos (by omega), if_pos (by omega), if_pos (by omega), if_pos (by omega), if_pos (by omega)]
    obtain ⟨t, t1, t2⟩ := ih (i + 1) k (((o ++ (⟨#[37]⟩ : ByteArray)) ++ e1) ++ e2) (by omega) (by omega) (by rw [ByteArray.size_append, z4, z2]; omega)
    refine ⟨t, t1, ?_⟩
    rw [t2, bts_append, bts_append, bts_append, x1, x2]
    conv => rhs; unfold encL
    rw [if_neg (by simp [hp])]
    have : bytesOf (⟨#[37]⟩ : ByteArray) = [37] := rfl
    rw [this]; simp
theorem REncode_f (s : ByteArray) (hs : s.size ≤ 1000) {k : Nat} (hk : 2000 ≤ k) : ∃ t, larumref08_Encode.f k s = some t ∧ bytesOf t = encL (bytesOf s) := by
  obtain ⟨t, t1, t2⟩ := REncode_l0 s (by omega) s.size 0 k ⟨#[]⟩ (by omega) (by omega) (Nat.zero_le _)
  exact ⟨t, t1, by rw [t2, List.drop_zero]; rfl⟩
theorem PctEncode : larumlaw08_PctEncode.Pure := by
  intro a plus _
  obtain ⟨s, hs, hz⟩ := short_eq a
  obtain ⟨k, hk⟩ : ∃ k : Nat, k = 500000 := ⟨_, rfl⟩
  refine ⟨k, ?_⟩
  unfold larumlaw08_PctEncode.f
  rw [hs]
  simp only [Option.bind_some]
  obtain ⟨x, x1, x2⟩ := Encode_f s (by omega) (k := k) (by omega)
  obtain ⟨y, y1, y2⟩ := REncode_f s (by omega) (k := k) (by omega)
  have e : x = y := ext_bts (x2.trans y2.symm)
  subst e
  have hl := enc_len (bytesOf s)
  have hxz : x.size ≤ 300 := by
    rw [bts_size, x2]
    rw [bytesOf_length] at hl
    omega
  have hd := Decode_f x plus (by omega) (k := k) (by omega)
  have he : decL (x.size + 1) plus (bytesOf x) = some (bytesOf s) := by
    rw [x2]
    refine dec_enc plus (bytesOf s) (x.size + 1) (bts_byt s) ?_
    have : (bytesOf s).length ≤ (encL (bytesOf s)).length := enc_ge _
    rw [bts_size, x2]
    omega
  rw [he] at hd
  obtain ⟨t, t1, t2⟩ := hd
  have e2 : t = s := ext_bts t2
  subst e2
  rw [x1]
  simp only [Option.bind_some]
  rw [t1, y1]
  simp only [Option.bind_some]
  rw [if_pos trivial, if_pos trivial, if_pos trivial, awake_at (by omega)]
  rfl
end Go.Proofs.YteladeppgedomaaDoor.Pure
