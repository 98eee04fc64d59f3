/- A target of parts and pairs is as the chapter says, and split into them again; a name's values are found: for any parts, any pairs. No condition. -/
import Derived.Test.YteladeppgedomaaDoorPPctTargetx8
namespace Go.Proofs.YteladeppgedomaaDoor.Pure
open Go Go.RowKit Go.Proofs.YteladeppgedomaaDoor.PPctTarget Go.Proofs.YteladeppgedomaaDoor.Gp Go.Proofs.YteladeppgedomaaDoorW Go.Proofs.YteladeppgedomaaDoorW.PrintWords Go.Proofs.YteladeppgedomaaDoorW.PrintLast Go.Proofs.YteladeppgedomaaDoorW.PrintMore
set_option linter.unusedVariables false
set_option linter.unusedSimpArgs false
-- strings as lists of numbers
def Byt (l : List Int) : Prop := ∀ x ∈ l, 0 ≤ x ∧ x ≤ 255
theorem Byt.rd {l : List Int} (h : Byt l) (i : Int) : 0 ≤ PrintWords.rd l i ∧ PrintWords.rd l i ≤ 255 := by
  unfold PrintWords.rd
  rw [List.getD_eq_getElem?_getD]
  by_cases hi : i.toNat < l.length
  · rw [List.getElem?_eq_getElem hi]; exact h _ (List.getElem_mem hi)
  · rw [List.getElem?_eq_none (by omega)]; decide
theorem Byt.take {l : List Int} (h : Byt l) (n : Nat) : Byt (l.take n) := fun x hx => h x (List.mem_of_mem_take hx)
theorem Byt.drop {l : List Int} (h : Byt l) (n : Nat) : Byt (l.drop n) := fun x hx => h x (List.mem_of_mem_drop hx)
theorem w64 {x : Int} (h : -9223372036854775808 ≤ x ∧ x ≤ 9223372036854775807) : wrap64 x = x := by unfold wrap64; omega
theorem u64w (x : Int) : IntKind.u64.wrap x = x % 18446744073709551616 := by simp [IntKind.wrap, IntKind.bits, IntKind.signed]
theorem wu64 {x : Int} (h : 0 ≤ x ∧ x ≤ 18446744073709551615) : IntKind.u64.wrap x = x := by rw [u64w]; omega
theorem bts_byt (s : ByteArray) : Byt (bytesOf s) := by
  intro x hx
  simp only [bytesOf, List.mem_map] at hx
  obtain ⟨b, _, rfl⟩ := hx
  have := b.toNat_lt
  omega
theorem bts_len (s : ByteArray) : ((bytesOf s).length : Int) = (s.size : Int) := by rw [bytesOf_length]
theorem bt_rd (s : ByteArray) (i : Int) : bt s i = rd (bytesOf s) i := (rd_bytesOf s i).symm
theorem tl (s : ByteArray) : s.toList = s.data.toList := ByteArray.toList_eq s
theorem u8_map_inj : ∀ {a b : List UInt8}, a.map (fun x => (x.toNat : Int)) = b.map (fun x => (x.toNat : Int)) → a = b
  | [], [], _ => rfl
  | [], _ :: _, h => by simp at h
  | _ :: _, [], h => by simp at h
  | x :: a, y :: b, h => by
    simp only [List.map_cons, List.cons.injEq] at h
    rw [u8_map_inj h.2, UInt8.toNat_inj.1 (by omega : x.toNat = y.toNat)]
theorem tl_iff (s t : ByteArray) : s.toList = t.toList ↔ bytesOf s = bytesOf t := by
  rw [tl, tl]
  exact ⟨fun h => by unfold bytesOf; rw [h], fun h => u8_map_inj h⟩
theorem tl_nil (s : ByteArray) : s.toList = ([] : List UInt8) ↔ bytesOf s = [] := by
  rw [tl]
  unfold bytesOf
  rw [List.map_eq_nil_iff]
theorem bts_extract (s : ByteArray) (a b : Nat) : bytesOf (s.extract a b) = ((bytesOf s).take b).drop a := by
  unfold bytesOf
  rw [List.drop_take, ← List.map_drop, ← List.map_take]
  congr 1
  simp [List.drop_take]
theorem bts_extract_to (s : ByteArray) (a : Nat) : bytesOf (s.extract a s.size) = (bytesOf s).drop a := by
  rw [bts_extract, List.take_of_length_le (by rw [bytesOf_length]; omega)]
theorem bts_append (s t : ByteArray) : bytesOf (s ++ t) = bytesOf s ++ bytesOf t := by
  unfold bytesOf
  rw [← List.map_append]
  congr 1
theorem bts_size (s : ByteArray) : s.size = (bytesOf s).length := (bytesOf_length s).symm
theorem drop_rd {l : List Int} {i : Nat} (h : i < l.length) : l.drop i = rd l (i : Int) :: l.drop (i + 1) := by
  rw [List.drop_eq_getElem_cons h]
  unfold rd
  simp [List.getD_eq_getElem?_getD, List.getElem?_eq_getElem h]
theorem rd_cons_zero (a : Int) (l : List Int) : rd (a :: l) 0 = a := rfl
-- a string made of numbers
theorem bts_son {xs : List Int} (h : Byt xs) : bytesOf (strOfNums xs) = xs := by
  unfold bytesOf
  rw [strOfNums_data, List.map_map]
  conv => rhs; rw [← List.map_id xs]
  apply List.map_congr_left
  intro x hx
  have := h x hx
  simp only [Function.comp, id]
  have e : (UInt8.ofNat x.toNat).toNat = x.toNat := by
    rw [UInt8.toNat_ofNat']
    omega
  rw [e]; omega
theorem bts_tl_iff {s t : ByteArray} : s.toList = t.toList ↔ bytesOf s = bytesOf t := tl_iff s t
theorem ext_bts {s t : ByteArray} (h : bytesOf s = bytesOf t) : s = t := by
  have := (tl_iff s t).2 h
  rw [tl, tl] at this
  cases s with | mk a => cases t with | mk b => simp at this; rw [this]
-- digits by sixteen
def hexV (c : Int) : Int := if 48 ≤ c ∧ c ≤ 57 then c - 48 else if 97 ≤ c ∧ c ≤ 102 then c - 87 else if 65 ≤ c ∧ c ≤ 70 then c - 55 else -1
theorem hex_all : ∀ c : Fin 256, num_hex.f 3 (c.val : Int) = some (hexV (c.val : Int)) := by decide +kernel
theorem hex_eq {c : Int} (h : 0 ≤ c ∧ c ≤ 255) {k : Nat} (hk : 3 ≤ k) : num_hex.f k c = some (hexV c) := by
  have := hex_all ⟨c.toNat, by omega⟩
  simp only [Int.toNat_of_nonneg h.1] at this
  exact at_rounds (g := fun k => num_hex.f k c) (fun k => num_hex.mono c k) hk this
def allH (l : List Int) : Bool := l.all fun c => decide (0 ≤ hexV c)
def hx (v : Int) : List Int → Int
  | [] => v
  | c :: l => hx (16 * v + hexV c) l
theorem hexV_bd (c : Int) : -1 ≤ hexV c ∧ hexV c ≤ 15 := by unfold hexV; repeat' split <;> omega
theorem hx_ge : ∀ (l : List Int) (v : Int), allH l = true → 0 ≤ v → v ≤ hx v l
  | [], v, _, _ => Int.le_refl v
  | c :: l, v, h, hv => by
    simp only [allH, List.all_cons, Bool.and_eq_true, decide_eq_true_eq] at h
    have := hx_ge l (16 * v + hexV c) h.2 (by omega)
    show v ≤ hx (16 * v + hexV c) l
    omega
def hexR (e lg : Bool) (v : Int) (l : List Int) : Int × Int := if allH l = false then (0, 3) else if e = true then (0, 3) else if lg = true ∨ hx v l > 2147483647 then (0, 5) else (hx v l, 0)
theorem Hex_l0 (s : ByteArray) (hs : s.size ≤ 140737488351232) (d : Nat) : ∀ (i k : Nat) (v : Int) (lg : Bool), i + d = s.size → d + 3 < k → 0 ≤ v → v ≤ 2147483647 →
    num_Hex.l0 k s v lg (s.size : Int) (i : Int) = some (hexR (bytesOf s).isEmpty lg v ((bytesOf s).drop i)) := by
  have he : s.toList = ([] : List UInt8) ↔ (bytesOf s).isEmpty = true := by rw [tl_nil, List.isEmpty_iff]
  induction d with
  | zero =>
    intro i k v lg hi hk h0 h1
    obtain ⟨k, rfl⟩ : ∃ m, k = m + 1 := ⟨k - 1, by omega⟩
    simp only [num_Hex.l0]
    rw [if_neg (by omega), List.drop_of_length_le (by rw [bytesOf_length]; omega)]
    by_cases c : s.toList = ([] : List UInt8)
    · rw [if_pos c]
      unfold hexR
      rw [he.1 c]
      simp [allH]
    · have c' : (bytesOf s).isEmpty = false := by cases h : (bytesOf s).isEmpty with | true => exact absurd (he.2 h) c | false => rfl
      rw [if_neg c]
      unfold hexR
      rw [c']
      cases lg with
      | true => simp [allH]
      | false => simp [hx, allH]; omega
  | succ d ih =>
    intro i k v lg hi hk h0 h1
    obtain ⟨k, rfl⟩ : ∃ m, k = m + 1 := ⟨k - 1, by omega⟩
    have hv := hexV_bd (rd (bytesOf s) (i : Int))
    simp only [num_Hex.l0]
    rw [if_pos (by omega), if_pos (by omega), if_pos (by omega), bt_rd, hex_eq ((bts_byt s).rd _) (by omega), drop_rd (by rw [bytesOf_length]; omega), w64 (x := (i : Int) + 1) (by omega), show ((i : Int) + 1) = ((i + 1 : Nat) : Int) by omega]
    simp only [Option.bind_some]
    by_cases c : hexV (rd (bytesOf s) (i : Int)) < 0
    · rw [if_pos c]
      unfold hexR
      rw [if_pos (by simp only [allH, List.all_cons, Bool.and_eq_false_iff, decide_eq_false_iff_not]; left; omega)]
    rw [if_neg c]
    have key : ∀ (lg' : Bool) (v' : Int), (allH ((bytesOf s).drop (i + 1)) = true → (lg' = true ∨ hx v' ((bytesOf s).drop (i + 1)) > 2147483647) = (lg = true ∨ hx (16 * v + hexV (rd (bytesOf s) (i : Int))) ((bytesOf s).drop (i + 1)) > 2147483647)) →
        (allH ((bytesOf s).drop (i + 1)) = true → ¬ (lg' = true ∨ hx v' ((bytesOf s).drop (i + 1)) > 2147483647) → hx v' ((bytesOf s).drop (i + 1)) = hx (16 * v + hexV (rd (bytesOf s) (i : Int))) ((bytesOf s).drop (i + 1))) →
        hexR (bytesOf s).isEmpty lg' v' ((bytesOf s).drop (i + 1)) = hexR (bytesOf s).isEmpty lg v (rd (bytesOf s) (i : Int) :: (bytesOf s).drop (i + 1)) := by
      intro lg' v' e1 e2
      unfold hexR
      have ea : allH (rd (bytesOf s) (i : Int) :: (bytesOf s).drop (i + 1)) = allH ((bytesOf s).drop (i + 1)) := by
        simp only [allH, List.all_cons]; rw [decide_eq_true (by omega), Bool.true_and]
      rw [ea]
      cases ha : allH ((bytesOf s).drop (i + 1)) with
      | false => rfl
      | true =>
        simp only [Bool.true_eq_false, if_false]
        cases (bytesOf s).isEmpty with
        | true => rfl
        | false =>
          simp only [Bool.false_eq_true, if_false]
          show (if (lg' = true ∨ hx v' ((bytesOf s).drop (i + 1)) > 2147483647) then _ else _) = (if (lg = true ∨ hx (16 * v + hexV (rd (bytesOf s) (i : Int))) ((bytesOf s).drop (i + 1)) > 2147483647) then _ else (hx (16 * v + hexV (rd (bytesOf s) (i : Int))) ((bytesOf s).drop (i + 1)), 0))
          by_cases c1 : (lg' = true ∨ hx v' ((bytesOf s).drop (i + 1)) > 2147483647)
          · rw [if_pos c1, if_pos (by rw [← e1 ha]; exact c1)]
          · rw [if_neg c1, if_neg (by rw [← e1 ha]; exact c1), e2 ha c1]
    cases lg with
    | true =>
      rw [if_pos rfl, ih (i + 1) k v true (by omega) (by omega) h0 h1]
      congr 1
      exact key true v (fun _ => by simp) (fun _ h => absurd (Or.inl rfl) h)
    | false =>
      rw [if_neg (by simp), w64 (x := 2147483647 - hexV (rd (bytesOf s) (i : Int))) (by omega), Int.tdiv_eq_ediv_of_nonneg (by omega), w64 (x := (2147483647 - hexV (rd (bytesOf s) (i : Int))) / 16) (by omega)]
      by_cases c1 : v > (2147483647 - hexV (rd (bytesOf s) (i : Int))) / 16
      · rw [if_pos c1, decide_eq_true c1, ih (i + 1) k v true (by omega) (by omega) h0 h1]
        congr 1
        exact key true v (fun ha => by
          have := hx_ge ((bytesOf s).drop (i + 1)) (16 * v + hexV (rd (bytesOf s) (i : Int))) ha (by omega)
          simp; omega) (fun _ h => absurd (Or.inl rfl) h)
      · rw [if_neg c1, decide_eq_false c1, w64 (x := v * 16) (by omega), w64 (by omega), ih (i + 1) k _ false (by omega) (by omega) (by omega) (by omega)]
        congr 1
        rw [show v * 16 + hexV (rd (bytesOf s) (i : Int)) = 16 * v + hexV (rd (bytesOf s) (i : Int)) by omega]
        exact key false _ (fun _ => rfl) (fun _ _ => rfl)
/-- Which number digits by sixteen are. -/
def parseH (l : List Int) : Int × Int := if allH l = false ∨ l = [] then (0, 3) else if hx 0 l > 2147483647 then (0, 5) else (hx 0 l, 0)
theorem Hex_eq (s : ByteArray) (hs : s.size ≤ 140737488351232) {k : Nat} (hk : s.size + 3 < k) : num_Hex.f k s = some (parseH (bytesOf s)) := by
  unfold num_Hex.f
  have := Hex_l0 s hs s.size 0 k 0 false (by omega) hk (by omega) (by omega)
  rw [show ((0 : Nat) : Int) = 0 from rfl] at this
  rw [this, List.drop_zero]
  congr 1
  unfold hexR parseH
  cases h : bytesOf s with
  | nil => simp
  | cons a l =>
    cases ha : allH (a :: l) with
    | false => simp
    | true => simp
-- signs by sixteen, read
theorem awake60 : larumlaw08_awake.f 200 = some true := by decide +kernel
theorem awake_at {k : Nat} (h : 200 ≤ k) : larumlaw08_awake.f k = some true := at_rounds (g := fun k => larumlaw08_awake.f k) (fun k => larumlaw08_awake.mono k) h awake60
theorem short_eq (s : ByteArray) : ∃ t, larumlaw08_short.f s = some t ∧ t.size ≤ 100 := by
  unfold larumlaw08_short.f
  by_cases h : (s.size : Int) > 100
  · exact ⟨_, by rw [if_pos h, if_pos (by decide), if_pos (by omega)], by simp; omega⟩
  · exact ⟨s, by rw [if_neg h], by omega⟩
def decL : Nat → Bool → List Int → Option (List Int)
  | 0, _, _ => none
  | _ + 1, _, [] => some []
  | f + 1, plus, c :: r => if c = 37 then (match r with
      | a :: b :: r' => if 0 ≤ hexV a ∧ 0 ≤ hexV b then (decL f plus r').map ((16 * hexV a + hexV b) :: ·) else none
      | _ => none) else (decL f plus r).map ((if c = 43 ∧ plus = true then 32 else c) :: ·)
theorem dec_plain {f : Nat} {plus : Bool} {c : Int} {r : List Int} (h : c ≠ 37) : decL (f + 1) plus (c :: r) = (decL f plus r).map ((if c = 43 ∧ plus = true then 32 else c) :: ·) := by simp only [decL, if_neg h]
theorem dec_two {f : Nat} {plus : Bool} {a b : Int} {r : List Int} : decL (f + 1) plus (37 :: a :: b :: r) = if 0 ≤ hexV a ∧ 0 ≤ hexV b then (decL f plus r).map ((16 * hexV a + hexV b) :: ·) else none := by simp only [decL, if_true]
theorem dec_few {f : Nat} {plus : Bool} {r : List Int} (h : r.length < 2) : decL (f + 1) plus (37 :: r) = none := by
  rcases r with _ | ⟨a, _ | ⟨b, r⟩⟩
  · simp only [decL, if_true]
  · simp only [decL, if_true]
  · simp at h; omega
theorem dec_byt : ∀ (f : Nat) (plus : Bool) (l : List Int), Byt l → match decL f plus l with | some m => Byt m | none => True
  | 0, plus, l, _ => by simp [decL]
  | f + 1, plus, [], _ => by simp only [decL]; intro x hx; cases hx
  | f + 1, plus, c :: r, h => by
    have hc := h c (by simp)
    by_cases h37 : c = 37
    · subst h37
      rcases r with _ | ⟨a, _ | ⟨b, r⟩⟩
      · rw [dec_few (by simp)]; trivial
      · rw [dec_few (by simp)]; trivial
      · rw [dec_two]
        split
        · rename_i m hm
          split at hm
          · rename_i hab
            have ih := dec_byt f plus r (fun x hx => h x (by simp [hx]))
            cases hd : decL f plus r with
            | none => rw [hd] at hm; cases hm
            | some m' =>
              rw [hd] at hm ih
              cases hm
              intro x hx
              have h1 := hexV_bd a
              have h2 := hexV_bd b
              rcases List.mem_cons.1 hx with rfl | hx
              · omega
              · exact ih x hx
          · cases hm
        · trivial
    · rw [dec_plain h37]
      have ih := dec_byt f plus r (fun x hx => h x (List.mem_cons_of_mem _ hx))
      cases hd : decL f plus r with
      | none => trivial
      | some m' =>
        rw [hd] at ih
        intro x hx
        rcases List.mem_cons.1 hx with rfl | hx
        · split <;> omega
        · exact ih x hx
def natL (l : List UInt8) : List Int := l.map fun x => (x.toNat : Int)
theorem natL_bts (l : List UInt8) : bytesOf (⟨l.toArray⟩ : ByteArray) = natL l := rfl
theorem natL_snoc (l : List UInt8) (x : Int) (h : 0 ≤ x ∧ x ≤ 255) : natL (l ++ [pct_Decode.u8 x]) = natL l ++ [x] := by
  unfold natL
  rw [List.map_append]
  simp only [List.map_cons, List.map_nil, pct_Decode.u8_eq h]
theorem parse_two (a b : Int) : parseH [a, b] = if 0 ≤ hexV a ∧ 0 ≤ hexV b then (16 * hexV a + hexV b, 0) else (0, 3) := by
  have h1 := hexV_bd a
  have h2 := hexV_bd b
  unfold parseH
  by_cases h : 0 ≤ hexV a ∧ 0 ≤ hexV b
  · have ha : allH [a, b] = true := by simp [allH, h]
    have hx : hx 0 [a, b] = 16 * hexV a + hexV b := by simp [hx]
    rw [if_pos h, if_neg (by simp [ha]), hx, if_neg (by omega)]
  · have ha : allH [a, b] = false := by
      cases hh : allH [a, b] with
      | false => rfl
      | true =>
        exfalso; apply h
        simpa [allH] using hh
    rw [if_neg h, if_pos (Or.inl ha)]
theorem two_at (s : ByteArray) (i : Nat) (h : i + 3 ≤ s.size) : (bytesOf s).drop (i + 1) = rd (bytesOf s) ((i + 1 : Nat) : Int) :: rd (bytesOf s) ((i + 2 : Nat) : Int) :: (bytesOf s).drop (i + 3) := by
  have hl := bytesOf_length s
  rw [drop_rd (by omega), drop_rd (by omega)]
theorem ex_two (s : ByteArray) (i : Nat) (h : i + 3 ≤ s.size) : bytesOf (s.extract (i + 1) (i + 3)) = [rd (bytesOf s) ((i + 1 : Nat) : Int), rd (bytesOf s) ((i + 2 : Nat) : Int)] := by
  rw [bts_extract, List.drop_take, two_at s i h, show i + 3 - (i + 1) = 2 by omega]
  rfl
theorem u8wrap {x : Int} (h : 0 ≤ x ∧ x ≤ 255) : IntKind.u8.wrap x = x := by
  have : IntKind.u8.wrap x = x % 256 := by simp [IntKind.wrap, IntKind.bits, IntKind.signed]
  rw [this]; omega
theorem Decode_l0 (s : ByteArray) (plus : Bool) (hs : s.size ≤ 100000) : ∀ (f i k : Nat) (out : List UInt8), s.size < i + f → i ≤ s.size → f + 300000 ≤ k →
    match decL f plus ((bytesOf s).drop i) with | some l => ∃ t, pct_Decode.l0 k s plus (i : Int) out = some (t, 0) ∧ bytesOf t = natL out ++ l | none => pct_Decode.l0 k s plus (i : Int) out = some (⟨#[]⟩, 3) := by
  have hl := bytesOf_length s
  intro f
  induction f with
  | zero => intro i k out h1 h2; omega
  | succ f ih =>
    intro i k out h1 h2 hk
    obtain ⟨k, rfl⟩ : ∃ m, k = m + 1 := ⟨k - 1, by omega⟩
    by_cases hi : i < s.size
    · have hbr := bt_range s (i : Int)
      have step : pct_Decode.l0 (k + 1) s plus (i : Int) out = if bt s (i : Int) = 37 then ((num_Hex.f k (s.extract ((i : Int) + 1).toNat (min ((i : Int) + 3) (s.size : Int)).toNat)).bind fun t => if t.2 = 0 ∧ ¬ ((i : Int) + 3 > (s.size : Int)) then pct_Decode.l0 k s plus ((i : Int) + 3) (out ++ [pct_Decode.u8 (IntKind.u8.wrap t.1)]) else some (⟨#[]⟩, 3)) else if bt s (i : Int) = 43 ∧ plus = true then pct_Decode.l0 k s plus ((i : Int) + 1) (out ++ [32]) else pct_Decode.l0 k s plus ((i : Int) + 1) (out ++ [pct_Decode.u8 (bt s (i : Int))]) := by
        simp only [pct_Decode.l0]
        rw [if_pos (by omega)]
      rw [step, drop_rd (by omega), ← bt_rd]
      generalize hc : bt s (i : Int) = c at hbr
      by_cases h37 : c = 37
      · subst h37
        rw [if_pos rfl]
        by_cases h3 : i + 3 ≤ s.size
        · rw [two_at s i h3, dec_two]
          have e : s.extract ((i : Int) + 1).toNat (min ((i : Int) + 3) (s.size : Int)).toNat = s.extract (i + 1) (i + 3) := by
            congr 1 <;> omega
          have hz : (s.extract (i + 1) (i + 3)).size ≤ 100000 := by simp only [ByteArray.size_extract]; omega
          rw [e, Hex_eq _ (by omega) (by omega), ex_two s i h3, parse_two]
          simp only [Option.bind_some]
          generalize rd (bytesOf s) ((i + 1 : Nat) : Int) = a
          generalize rd (bytesOf s) ((i + 2 : Nat) : Int) = b
          have ha := hexV_bd a
          have hb := hexV_bd b
          by_cases hab : 0 ≤ hexV a ∧ 0 ≤ hexV b
          · simp only [if_pos hab]
            rw [if_pos ⟨trivial, by omega⟩, u8wrap (by omega), show (i : Int) + 3 = ((i + 3 : Nat) : Int) by omega]
            have := ih (i + 3) k (out ++ [pct_Decode.u8 (16 * hexV a + hexV b)]) (by omega) (by omega) (by omega)
            cases hd : decL f plus ((bytesOf s).drop (i + 3)) with
            | none => rw [hd] at this; exact this
            | some l =>
              rw [hd] at this
              obtain ⟨t, t1, t2⟩ := this
              exact ⟨t, t1, by rw [t2, natL_snoc _ _ (by omega)]; simp⟩
          · simp only [if_neg hab]
            rw [if_neg (by simp)]
        · rw [dec_few (by rw [List.length_drop]; omega)]
          cases hx : num_Hex.f k (s.extract ((i : Int) + 1).toNat (min ((i : Int) + 3) (s.size : Int)).toNat) with
          | none =>
            have hz : (s.extract ((i : Int) + 1).toNat (min ((i : Int) + 3) (s.size : Int)).toNat).size ≤ 100000 := by simp only [ByteArray.size_extract]; omega
            rw [Hex_eq _ (by omega) (by omega)] at hx
            cases hx
          | some x =>
            simp only [Option.bind_some]
            rw [if_neg (fun h => h.2 (by omega))]
      · rw [if_neg h37, dec_plain h37]
        rw [show (i : Int) + 1 = ((i + 1 : Nat) : Int) by omega]
        by_cases h43 : c = 43 ∧ plus = true
        · rw [if_pos h43]
          have := ih (i + 1) k (out ++ [32]) (by omega) (by omega) (by omega)
          simp only [if_pos h43]
          cases hd : decL f plus ((bytesOf s).drop (i + 1)) with
          | none => rw [hd] at this; exact this
          | some l =>
            rw [hd] at this
            obtain ⟨t, t1, t2⟩ := this
            exact ⟨t, t1, by rw [t2]; simp [natL]⟩
        · rw [if_neg h43]
          have := ih (i + 1) k (out ++ [pct_Decode.u8 c]) (by omega) (by omega) (by omega)
          simp only [if_neg h43]
          cases hd : decL f plus ((bytesOf s).drop (i + 1)) with
          | none => rw [hd] at this; exact this
          | some l =>
            rw [hd] at this
            obtain ⟨t, t1, t2⟩ := this
            exact ⟨t, t1, by rw [t2, natL_snoc _ _ hbr]; simp⟩
    · have e : (bytesOf s).drop i = [] := List.drop_of_length_le (by omega)
      rw [e]
      have : decL (f + 1) plus [] = some [] := rfl
      rw [this]
      refine ⟨⟨out.toArray⟩, ?_, by rw [natL_bts]; simp⟩
      simp only [pct_Decode.l0]
      rw [if_neg (by omega)]
theorem Decode_f (s : ByteArray) (plus : Bool) (hs : s.size ≤ 9000) {k : Nat} (hk : 400000 ≤ k) :
    match decL (s.size + 1) plus (bytesOf s) with | some l => ∃ t, pct_Decode.f k s plus = some (t, 0) ∧ bytesOf t = l | none => pct_Decode.f k s plus = some (⟨#[]⟩, 3) := by
  have := Decode_l0 s plus (by omega) (s.size + 1) 0 k [] (by omega) (by omega) (by omega)
  rw [List.drop_zero] at this
  unfold pct_Decode.f
  rw [if_pos (by omega)]
  exact this
-- a text with signs by sixteen
def plainB (c : Int) : Bool := (pct_plain.f 20 c).getD false
theorem plain256 : ∀ c : Fin 256, pct_plain.f 20 (c.val : Int) = some (plainB (c.val : Int)) := by decide +kernel
theorem plain_f {c : Int} (h : 0 ≤ c ∧ c ≤ 255) {k : Nat} (hk : 20 ≤ k) : pct_plain.f k c = some (plainB c) := by
  have := plain256 ⟨c.toNat, by omega⟩
  rw [show ((⟨c.toNat, by omega⟩ : Fin 256).val : Int) = c from by show ((c.toNat : Nat) : Int) = c; omega] at this
  exact at_rounds (g := fun k => pct_plain.f k c) (fun k => pct_plain.mono c k) hk this
def hexs : ByteArray := ⟨#[48, 49, 50, 51, 52, 53, 54, 55, 56, 57, 65, 66, 67, 68, 69, 70]⟩
def hexD (d : Int) : Int := bt hexs d
theorem hexD16 : ∀ d : Fin 16, hexV (hexD (d.val : Int)) = (d.val : Int) ∧ 0 ≤ hexD (d.val : Int) ∧ hexD (d.val : Int) ≤ 255 := by decide +kernel
theorem hexD_f {d : Int} (h : 0 ≤ d ∧ d < 16) : hexV (hexD d) = d ∧ 0 ≤ hexD d ∧ hexD d ≤ 255 := by
  have := hexD16 ⟨d.toNat, by omega⟩
  rw [show ((⟨d.toNat, by omega⟩ : Fin 16).val : Int) = d from by show ((d.toNat : Nat) : Int) = d; omega] at this
  exact this
def encL : List Int → List Int
  | [] => []
  | c :: r => (if plainB c = true then [c] else [37, hexD (c / 16), hexD (c % 16)]) ++ encL r
theorem enc_byt : ∀ l, Byt l → Byt (encL l)
  | [], h => h
  | c :: r, h => by
    have hc := h c (by simp)
    have h1 := hexD_f (d := c / 16) (by omega)
    have h2 := hexD_f (d := c % 16) (by omega)
    have ih := enc_byt r (fun x hx => h x (List.mem_cons_of_mem _ hx))
    intro x hx
    unfold encL at hx
    rcases List.mem_append.1 hx with hx | hx
    · split at hx
      · rw [List.mem_singleton.1 hx]; exact hc
      · simp only [List.mem_cons, List.not_mem_nil, or_false] at hx
        rcases hx with rfl | rfl | rfl
        · omega
        · exact h1.2
        · exact h2.2
    · exact ih x hx
theorem enc_len : ∀ l, (encL l).length ≤ 3 * l.length
  | [] => by simp [encL]
  | c :: r => by
    have := enc_len r
    unfold encL
    split <;> simp <;> omega
theorem enc_ge : ∀ l : List Int, l.length ≤ (encL l).length
  | [] => by simp
  | c :: r => by
    have := enc_ge r
    unfold encL
    split <;> simp <;> omega
theorem plain_not : ∀ c : Fin 256, plainB (c.val : Int) = true → (c.val : Int) ≠ 37 ∧ (c.val : Int) ≠ 43 := by decide +kernel
theorem plain_ne {c : Int} (h : 0 ≤ c ∧ c ≤ 255) (hp : plainB c = true) : c ≠ 37 ∧ c ≠ 43 := by
  have := plain_not ⟨c.toNat, by omega⟩
  rw [show ((⟨c.toNat, by omega⟩ : Fin 256).val : Int) = c from by show ((c.toNat : Nat) : Int) = c; omega] at this
  exact this hp
theorem dec_enc (plus : Bool) : ∀ (l : List Int) (f : Nat), Byt l → l.length < f → decL f plus (encL l) = some l
  | [], f, _, hf => by
    obtain ⟨f, rfl⟩ : ∃ m, f = m + 1 := ⟨f - 1, by omega⟩
    rfl
  | c :: r, f, h, hf => by
    simp only [List.length_cons] at hf
    obtain ⟨f, rfl⟩ : ∃ m, f = m + 1 := ⟨f - 1, by omega⟩
    have hc := h c (by simp)
    have ih := dec_enc plus r f (fun x hx => h x (List.mem_cons_of_mem _ hx)) (by omega)
    unfold encL
    by_cases hp : plainB c = true
    · obtain ⟨n1, n2⟩ := plain_ne hc hp
      rw [if_pos hp]
      show decL (f + 1) plus (c :: encL r) = _
      rw [dec_plain n1, ih, if_neg (fun h => n2 h.1)]
      rfl
    · have h1 := hexD_f (d := c / 16) (by omega)
      have h2 := hexD_f (d := c % 16) (by omega)
      rw [if_neg hp]
      show decL (f + 1) plus (37 :: hexD (c / 16) :: hexD (c % 16) :: encL r) = _
      rw [dec_two, if_pos (by omega), ih, h1.1, h2.1]
      show some ((16 * (c / 16) + c % 16) :: r) = _
      rw [show 16 * (c / 16) + c % 16 = c by omega]
theorem natL_u8 (x : Int) (h : 0 ≤ x ∧ x ≤ 255) : natL [pct_Encode.u8 x] = [x] := by
  unfold natL
  simp only [List.map_cons, List.map_nil, pct_Encode.u8_eq h]
theorem natL_app (a b : List UInt8) : natL (a ++ b) = natL a ++ natL b := by unfold natL; rw [List.map_append]
theorem Encode_l0 (s : ByteArray) (hs : s.size ≤ 1000000) : ∀ (f i k : Nat) (out : List UInt8), i + f = s.size → f + 30 ≤ k → ∃ t, pct_Encode.l0 k s (i : Int) out = some t ∧ bytesOf t = natL out ++ encL ((bytesOf s).drop i) := by
  have hl := bytesOf_length s
  intro f
  induction f with
  | zero =>
    intro i k out hi hk
    obtain ⟨k, rfl⟩ : ∃ m, k = m + 1 := ⟨k - 1, by omega⟩
    refine ⟨⟨out.toArray⟩, ?_, ?_⟩
    · simp only [pct_Encode.l0]
      rw [if_neg (by omega)]
    · rw [natL_bts, List.drop_of_length_le (by omega)]; simp [encL]
  | succ f ih =>
    intro i k out hi hk
    obtain ⟨k, rfl⟩ : ∃ m, k = m + 1 := ⟨k - 1, by omega⟩
    have hbr := bt_range s (i : Int)
    have step : pct_Encode.l0 (k + 1) s (i : Int) out = ((pct_plain.f k (bt s (i : Int))).bind fun t => if t = true then pct_Encode.l0 k s ((i + 1 : Nat) : Int) (out ++ [pct_Encode.u8 (bt s (i : Int))]) else pct_Encode.l0 k s ((i + 1 : Nat) : Int) (out ++ [37, pct_Encode.hex (bt s (i : Int) / 16), pct_Encode.hex (bt s (i : Int) % 16)])) := by
      simp only [pct_Encode.l0]
      rw [if_pos (by omega), show ((i + 1 : Nat) : Int) = (i : Int) + 1 by omega]
    rw [step, plain_f hbr (by omega), drop_rd (by omega), ← bt_rd]
    simp only [Option.bind_some]
    generalize bt s (i : Int) = c at hbr
    have h1 := hexD_f (d := c / 16) (by omega)
    have h2 := hexD_f (d := c % 16) (by omega)
    unfold encL
    by_cases hp : plainB c = true
    · rw [if_pos hp, if_pos hp]
      obtain ⟨t, t1, t2⟩ := ih (i + 1) k (out ++ [pct_Encode.u8 c]) (by omega) (by omega)
      exact ⟨t, t1, by rw [t2, natL_app, natL_u8 c hbr]; simp⟩
    · rw [if_neg hp, if_neg hp]
      obtain ⟨t, t1, t2⟩ := ih (i + 1) k (out ++ [37, pct_Encode.hex (c / 16), pct_Encode.hex (c % 16)]) (by omega) (by omega)
      refine ⟨t, t1, ?_⟩
      have e1 : natL [37, pct_Encode.hex (c / 16), pct_Encode.hex (c % 16)] = [37, hexD (c / 16), hexD (c % 16)] := by
        have a1 : natL [pct_Encode.hex (c / 16)] = [hexD (c / 16)] := natL_u8 _ h1.2
        have a2 : natL [pct_Encode.hex (c % 16)] = [hexD (c % 16)] := natL_u8 _ h2.2
        have : natL [37, pct_Encode.hex (c / 16), pct_Encode.hex (c % 16)] = 37 :: (natL [pct_Encode.hex (c / 16)] ++ natL [pct_Encode.hex (c % 16)]) := rfl
        rw [this, a1, a2]; rfl
      rw [t2, natL_app, e1]; simp
theorem Encode_f (s : ByteArray) (hs : s.size ≤ 1000) {k : Nat} (hk : 2000 ≤ k) : ∃ t, pct_Encode.f k s = some t ∧ bytesOf t = encL (bytesOf s) := by
  obtain ⟨t, t1, t2⟩ := Encode_l0 s (by omega) s.size 0 k [] (by omega) (by omega)
  refine ⟨t, ?_, by rw [t2, List.drop_zero]; rfl⟩
  unfold pct_Encode.f
  rw [if_pos (by omega)]
  exact t1
def letB (c : Int) : Bool := (larumref01_Letter.f c).getD false
def digB (c : Int) : Bool := (larumref01_Digit.f c).getD false
theorem let256 : ∀ c : Fin 256, larumref01_Letter.f (c.val : Int) = some (letB (c.val : Int)) ∧ larumref01_Digit.f (c.val : Int) = some (digB (c.val : Int)) ∧ plainB (c.val : Int) = (letB (c.val : Int) || digB (c.val : Int) || (c.val : Int) == 45 || (c.val : Int) == 46 || (c.val : Int) == 95 || (c.val : Int) == 126) := by decide +kernel
theorem let_f {c : Int} (h : 0 ≤ c ∧ c ≤ 255) : larumref01_Letter.f c = some (letB c) ∧ larumref01_Digit.f c = some (digB c) ∧ plainB c = (letB c || digB c || c == 45 || c == 46 || c == 95 || c == 126) := by
  have := let256 ⟨c.toNat, by omega⟩
  rw [show ((⟨c.toNat, by omega⟩ : Fin 256).val : Int) = c from by show ((c.toNat : Nat) : Int) = c; omega] at this
  exact this
theorem hexs_ex16 : ∀ d : Fin 16, bytesOf (hexs.extract d.val (d.val + 1)) = [hexD (d.val : Int)] := by decide +kernel
theorem hexs_ex {d : Int} (h : 0 ≤ d ∧ d < 16) : bytesOf (hexs.extract d.toNat (d + 1).toNat) = [hexD d] := by
  have := hexs_ex16 ⟨d.toNat, by omega⟩
  rw [show ((⟨d.toNat, by omega⟩ : Fin 16).val : Int) = d from by show ((d.toNat : Nat) : Int) = d; omega] at this
  rw [show (d + 1).toNat = d.toNat + 1 by omega]
  exact this
theorem REncode_l0 (s : ByteArray) (hs : s.size ≤ 1000000) : ∀ (f i k : Nat) (o : ByteArray), i + f = s.size → f + 30 ≤ k → o.size ≤ 3 * i → ∃ t, larumref08_Encode.l0 k s o (i : Int) = some t ∧ bytesOf t = bytesOf o ++ encL ((bytesOf s).drop i) := by
  have hl := bytesOf_length s
  intro f
  induction f with
  | zero =>
    intro i k o hi hk ho
    obtain ⟨k, rfl⟩ : ∃ m, k = m + 1 := ⟨k - 1, by omega⟩
    refine ⟨o, ?_, ?_⟩
    · simp only [larumref08_Encode.l0]
      rw [if_neg (by omega)]
    · rw [List.drop_of_length_le (by omega)]; simp [encL]
  | succ f ih =>
    intro i k o hi hk ho
    obtain ⟨k, rfl⟩ : ∃ m, k = m + 1 := ⟨k - 1, by omega⟩
    have hbr := bt_range s (i : Int)
    have ew : wrap64 ((i : Int) + 1) = ((i + 1 : Nat) : Int) := by rw [w64 (by omega)]; omega
    have ex : bytesOf (s.extract (i : Int).toNat (((i + 1 : Nat) : Int)).toNat) = [bt s (i : Int)] := by
      rw [show (i : Int).toNat = i by omega, show (((i + 1 : Nat) : Int)).toNat = i + 1 by omega, bts_extract, List.drop_take, drop_rd (by omega), show i + 1 - i = 1 by omega, bt_rd]
      rfl
    have ez : (s.extract (i : Int).toNat (((i + 1 : Nat) : Int)).toNat).size = 1 := by rw [bts_size, ex]; rfl
    obtain ⟨g1, g2, g3⟩ := let_f hbr
    rw [drop_rd (by omega), ← bt_rd]
    have yes : plainB (bt s (i : Int)) = true → ∃ t, larumref08_Encode.l0 k s (o ++ s.extract (i : Int).toNat (((i + 1 : Nat) : Int)).toNat) ((i + 1 : Nat) : Int) = some t ∧ bytesOf t = bytesOf o ++ encL (bt s (i : Int) :: (bytesOf s).drop (i + 1)) := by
      intro hp
      obtain ⟨t, t1, t2⟩ := ih (i + 1) k (o ++ s.extract (i : Int).toNat (((i + 1 : Nat) : Int)).toNat) (by omega) (by omega) (by rw [ByteArray.size_append, ez]; omega)
      refine ⟨t, t1, ?_⟩
      rw [t2, bts_append, ex]
      conv => rhs; unfold encL
      rw [if_pos hp]; simp
    have ok : (if (i : Int) ≤ ((i + 1 : Nat) : Int) then (if ((i + 1 : Nat) : Int) ≤ (s.size : Int) then (if o.size + (s.extract (i : Int).toNat (((i + 1 : Nat) : Int)).toNat).size ≤ 9223372036854775807 then larumref08_Encode.l0 k s (o ++ s.extract (i : Int).toNat (((i + 1 : Nat) : Int)).toNat) ((i + 1 : Nat) : Int) else none) else none) else none) = larumref08_Encode.l0 k s (o ++ s.extract (i : Int).toNat (((i + 1 : Nat) : Int)).toNat) ((i + 1 : Nat) : Int) := by
      rw [if_pos (by omega), if_pos (by omega), if_pos (by omega)]
    simp only [larumref08_Encode.l0, ew, ok, g1, g2, Option.bind_some]
    rw [if_pos (by omega), if_pos (by omega)]
    generalize bt s (i : Int) = c at *
    by_cases c1 : letB c = true
    · rw [if_pos c1]; exact yes (by rw [g3, c1]; rfl)
    rw [if_neg c1]
    by_cases c2 : digB c = true
    · rw [if_pos c2]; exact yes (by rw [g3, c2]; simp)
    rw [if_neg c2]
    by_cases c3 : c = 45
    · rw [if_pos c3]; exact yes (by rw [g3]; simp [c3])
    rw [if_neg c3]
    by_cases c4 : c = 46
    · rw [if_pos c4]; exact yes (by rw [g3]; simp [c4])
    rw [if_neg c4]
    by_cases c5 : c = 95
    · rw [if_pos c5]; exact yes (by rw [g3]; simp [c5])
    rw [if_neg c5]
    by_cases c6 : c = 126
    · rw [if_pos c6]; exact yes (by rw [g3]; simp [c6])
    rw [if_neg c6]
    have hp : plainB c = false := by rw [g3]; simp [c1, c2, c3, c4, c5, c6]
    have q1 : (Int.tdiv c 16) % 256 = c / 16 := by rw [Int.tdiv_eq_ediv_of_nonneg hbr.1]; omega
    have q2 : Int.tmod c 16 = c % 16 := Int.tmod_eq_emod_of_nonneg hbr.1
    have q3 : (c / 16 + 1) % 256 = c / 16 + 1 := by omega
    have q4 : (c % 16 + 1) % 256 = c % 16 + 1 := by omega
    have hh : (⟨#[48, 49, 50, 51, 52, 53, 54, 55, 56, 57, 65, 66, 67, 68, 69, 70]⟩ : ByteArray) = hexs := rfl
    rw [hh, q1, q2, q3, q4]
    have x1 := hexs_ex (d := c / 16) (by omega)
    have x2 := hexs_ex (d := c % 16) (by omega)
    have z1 : (hexs.extract (c / 16).toNat (c / 16 + 1).toNat).size = 1 := by rw [bts_size, x1]; rfl
    have z2 : (hexs.extract (c % 16).toNat (c % 16 + 1).toNat).size = 1 := by rw [bts_size, x2]; rfl
    have z3 : (o ++ (⟨#[37]⟩ : ByteArray)).size = o.size + 1 := by rw [ByteArray.size_append]; rfl
    generalize hexs.extract (c / 16).toNat (c / 16 + 1).toNat = e1 at *
    generalize hexs.extract (c % 16).toNat (c % 16 + 1).toNat = e2 at *
    have z4 : ((o ++ (⟨#[37]⟩ : ByteArray)) ++ e1).size = o.size + 2 := by rw [ByteArray.size_append, z3, z1]
    rw [if_pos (by omega), if_pos (by omega), if_pos (by omega), if_pos (by omega), if_pos (by omega), if_pos (by omega), if_pos (by omega), if_pos (by omega), if_pos (by omega)]
    obtain ⟨t, t1, t2⟩ := ih (i + 1) k (((o ++ (⟨#[37]⟩ : ByteArray)) ++ e1) ++ e2) (by omega) (by omega) (by rw [ByteArray.size_append, z4, z2]; omega)
    refine ⟨t, t1, ?_⟩
    rw [t2, bts_append, bts_append, bts_append, x1, x2]
    conv => rhs; unfold encL
    rw [if_neg (by simp [hp])]
    have : bytesOf (⟨#[37]⟩ : ByteArray) = [37] := rfl
    rw [this]; simp
theorem REncode_f (s : ByteArray) (hs : s.size ≤ 1000) {k : Nat} (hk : 2000 ≤ k) : ∃ t, larumref08_Encode.f k s = some t ∧ bytesOf t = encL (bytesOf s) := by
  obtain ⟨t, t1, t2⟩ := REncode_l0 s (by omega) s.size 0 k ⟨#[]⟩ (by omega) (by omega) (Nat.zero_le _)
  exact ⟨t, t1, by rw [t2, List.drop_zero]; rfl⟩
-- prefixes, cuts at a byte
def nats (l : List UInt8) : List Int := l.map fun x => (x.toNat : Int)
theorem nats_bts (s : ByteArray) : nats s.data.toList = bytesOf s := rfl
theorem pre_nats : ∀ (p l : List UInt8), p.isPrefixOf l = (nats p).isPrefixOf (nats l)
  | [], _ => by simp [nats]
  | _ :: _, [] => by simp [nats]
  | a :: p, b :: l => by
    have e : (a == b) = ((a.toNat : Int) == (b.toNat : Int)) := by
      rw [Bool.eq_iff_iff, beq_iff_eq, beq_iff_eq, ← UInt8.toNat_inj]; omega
    show (a == b && p.isPrefixOf l) = (((a.toNat : Int) == (b.toNat : Int)) && (nats p).isPrefixOf (nats l))
    rw [e, pre_nats p l]
theorem CutPrefix_f (s p : ByteArray) : ∃ t b, strings_CutPrefix.f s p = some (t, b) ∧ b = (bytesOf p).isPrefixOf (bytesOf s) ∧ bytesOf t = (if (bytesOf p).isPrefixOf (bytesOf s) = true then (bytesOf s).drop (bytesOf p).length else bytesOf s) ∧ t.size ≤ s.size := by
  have e : Lib.hasPrefix s.data.toList p.data.toList = (bytesOf p).isPrefixOf (bytesOf s) := pre_nats _ _
  have eb : bytesOf (⟨(Lib.trimPrefix s.data.toList p.data.toList).toArray⟩ : ByteArray) = (if (bytesOf p).isPrefixOf (bytesOf s) = true then (bytesOf s).drop (bytesOf p).length else bytesOf s) := by
    unfold Lib.trimPrefix
    rw [e]
    have h0 : ∀ l : List UInt8, bytesOf (⟨l.toArray⟩ : ByteArray) = nats l := fun l => rfl
    rw [h0]
    by_cases h : (bytesOf p).isPrefixOf (bytesOf s) = true
    · rw [if_pos h, if_pos h]
      unfold nats
      rw [List.map_drop]
      simp [bytesOf]
    · rw [if_neg h, if_neg h]; rfl
  refine ⟨_, _, rfl, e, eb, ?_⟩
  rw [bts_size, eb, bts_size]
  split
  · rw [List.length_drop]; omega
  · exact Nat.le_refl _
theorem idx_while (c : UInt8) : ∀ (l : List UInt8),
    (Lib.indexByte l c = -1 ∧ (nats l).takeWhile (fun x => x != (c.toNat : Int)) = nats l ∧ (nats l).dropWhile (fun x => x != (c.toNat : Int)) = [] ∧ (nats l).contains (c.toNat : Int) = false) ∨
    ∃ j : Nat, Lib.indexByte l c = (j : Int) ∧ j < l.length ∧ (nats l).takeWhile (fun x => x != (c.toNat : Int)) = (nats l).take j ∧ (nats l).dropWhile (fun x => x != (c.toNat : Int)) = (nats l).drop j ∧ (nats l).contains (c.toNat : Int) = true
  | [] => Or.inl ⟨rfl, rfl, rfl, rfl⟩
  | x :: l => by
    have hn : nats (x :: l) = (x.toNat : Int) :: nats l := rfl
    by_cases h : x = c
    · subst h
      refine Or.inr ⟨0, by simp [Lib.indexByte], by simp, ?_, ?_, ?_⟩ <;> rw [hn] <;> simp
    · have hb : (x == c) = false := by simpa using h
      have hi : ¬ ((x.toNat : Int) = (c.toNat : Int)) := fun e => h (UInt8.toNat_inj.1 (by omega))
      have hi2 : ((x.toNat : Int) != (c.toNat : Int)) = true := by simpa using hi
      have hi3 : ((c.toNat : Int) == (x.toNat : Int)) = false := by simpa using fun e => hi e.symm
      rcases idx_while c l with ⟨h1, h2, h3, h4⟩ | ⟨j, h1, h2, h3, h4, h5⟩
      · refine Or.inl ⟨by simp [Lib.indexByte, hb, h1], ?_, ?_, ?_⟩
        · rw [hn, List.takeWhile_cons, hi2, if_pos rfl, h2]
        · rw [hn, List.dropWhile_cons, hi2, if_pos rfl, h3]
        · rw [hn, List.contains_cons, hi3, h4]; rfl
      · refine Or.inr ⟨j + 1, ?_, by simpa using h2, ?_, ?_, ?_⟩
        · have : ¬ ((j : Int) = -1) := by omega
          simp [Lib.indexByte, hb, h1, this]
        · rw [hn, List.takeWhile_cons, hi2, if_pos rfl, h3]; rfl
        · rw [hn, List.dropWhile_cons, hi2, if_pos rfl, h4]; rfl
        · rw [hn, List.contains_cons, h5, Bool.or_true]
theorem Cut_f (s : ByteArray) (hs : s.size < 4294967281) (c : UInt8) : ∃ t u b, strings_Cut.f s ⟨#[c]⟩ = some (t, u, b) ∧ bytesOf t = (bytesOf s).takeWhile (fun x => x != (c.toNat : Int)) ∧ bytesOf u = ((bytesOf s).dropWhile (fun x => x != (c.toNat : Int))).drop 1 ∧ b = (bytesOf s).contains (c.toNat : Int) := by
  unfold strings_Cut.f
  have ea : strings_Cut.at s ⟨#[c]⟩ = Lib.indexByte s.data.toList c := rfl
  rw [if_pos ⟨rfl, hs⟩, ea]
  rcases idx_while c s.data.toList with ⟨h1, h2, h3, h4⟩ | ⟨j, h1, h2, h3, h4, h5⟩
  · rw [nats_bts] at h2 h3 h4
    rw [h1, if_pos (by decide)]
    exact ⟨_, _, _, rfl, h2.symm, by rw [h3]; rfl, h4.symm⟩
  · rw [nats_bts] at h3 h4 h5
    rw [h1, if_neg (by omega), show ((j : Int)).toNat = j by omega]
    refine ⟨_, _, _, rfl, ?_, ?_, h5.symm⟩
    · rw [bts_extract, List.drop_zero, h3]
    · rw [bts_extract_to, h4, List.drop_drop]
-- parts at a byte
def cutG (c : Int) : List Int → List Int → List (List Int)
  | w, [] => [w]
  | w, x :: t => if x = c then w :: cutG c [] t else cutG c (w ++ [x]) t
theorem cut_idx (c : UInt8) : ∀ (l : List UInt8) (w : List Int),
    (Lib.indexByte l c = -1 ∧ l.count c = 0 ∧ cutG (c.toNat : Int) w (l.map fun x => (x.toNat : Int)) = [w ++ l.map fun x => (x.toNat : Int)]) ∨
    ∃ j : Nat, Lib.indexByte l c = (j : Int) ∧ j < l.length ∧ l.count c = (l.drop (j + 1)).count c + 1 ∧
      cutG (c.toNat : Int) w (l.map fun x => (x.toNat : Int)) = (w ++ (l.take j).map fun x => (x.toNat : Int)) :: cutG (c.toNat : Int) [] ((l.drop (j + 1)).map fun x => (x.toNat : Int))
  | [], w => Or.inl ⟨rfl, rfl, by simp [cutG]⟩
  | x :: l, w => by
    by_cases h : x = c
    · subst h
      refine Or.inr ⟨0, by simp [Lib.indexByte], by simp, by simp, by simp [cutG]⟩
    · have hb : (x == c) = false := by simpa using h
      have hi : ¬ ((x.toNat : Int) = (c.toNat : Int)) := fun e => h (UInt8.toNat_inj.1 (by omega))
      rcases cut_idx c l (w ++ [(x.toNat : Int)]) with ⟨h1, h2, h3⟩ | ⟨j, h1, h2, h3, h4⟩
      · refine Or.inl ⟨by simp [Lib.indexByte, hb, h1], by rw [List.count_cons_of_ne (by simpa using h)]; exact h2, ?_⟩
        simp only [List.map_cons, cutG, if_neg hi]
        rw [h3]; simp
      · refine Or.inr ⟨j + 1, ?_, by simpa using h2, ?_, ?_⟩
        · have : ¬ ((j : Int) = -1) := by omega
          simp [Lib.indexByte, hb, h1, this]
        · rw [List.count_cons_of_ne (by simpa using h), h3]; rfl
        · simp only [List.map_cons, cutG, if_neg hi, List.take_succ_cons, List.drop_succ_cons]
          rw [h4]; simp
theorem split_cut (c : UInt8) : ∀ (n : Nat) (s : ByteArray), s.data.toList.count c ≤ n → (Lib.splitB ⟨#[c]⟩ 0 n s).map bytesOf = cutG (c.toNat : Int) [] (bytesOf s)
  | 0, s, h => by
    rcases cut_idx c s.data.toList [] with ⟨_, _, h3⟩ | ⟨j, _, _, h3, _⟩
    · rw [Lib.splitB_zero]
      show [bytesOf s] = cutG _ [] (s.data.toList.map _)
      rw [h3]; rfl
    · omega
  | n + 1, s, h => by
    have ei : Lib.indexB s ⟨#[c]⟩ = Lib.indexByte s.data.toList c := by
      show Lib.index s.data.toList [c] = _
      rw [Lib.index_one]
    rcases cut_idx c s.data.toList [] with ⟨h1, _, h3⟩ | ⟨j, h1, h2, h3, h4⟩
    · rw [Lib.splitB_miss _ _ _ _ (by rw [ei, h1])]
      show [bytesOf s] = cutG _ [] (s.data.toList.map _)
      rw [h3]; rfl
    · unfold Lib.splitB
      have hne : ((j : Int) == -1) = false := by first | (simp; done) | (simp; omega)
      have hsz : (⟨#[c]⟩ : ByteArray).size = 1 := rfl
      rw [ei, h1, hne, if_neg (by simp), List.map_cons, hsz, show ((j : Int)).toNat + 0 = j by omega, show ((j : Int)).toNat + 1 = j + 1 by omega]
      have hd : (s.extract (j + 1) s.size).data.toList = s.data.toList.drop (j + 1) := by
        simp
        exact List.take_of_length_le (by rw [List.length_drop]; exact Nat.le_refl _)
      rw [split_cut c n (s.extract (j + 1) s.size) (by rw [hd]; omega), bts_extract, List.drop_zero, bts_extract_to]
      show _ = cutG _ [] (s.data.toList.map _)
      rw [h4]
      simp only [bytesOf, List.nil_append, List.map_take, List.map_drop]
theorem Split_f (s : ByteArray) (hs : s.size < 4294967281) (c : Int) (hc : 0 ≤ c ∧ c ≤ 255) : ∃ L, strings_Split.f s (strOfNums [c]) = some L ∧ L.map bytesOf = cutG c [] (bytesOf s) := by
  have e : strOfNums [c] = ⟨#[UInt8.ofNat c.toNat]⟩ := rfl
  have ec : ((UInt8.ofNat c.toNat).toNat : Int) = c := by rw [UInt8.toNat_ofNat']; omega
  unfold strings_Split.f
  rw [e, if_pos ⟨rfl, hs⟩]
  refine ⟨_, rfl, ?_⟩
  rw [split_cut _ _ s ?_, ec]
  show _ ≤ Lib.count s.data.toList [UInt8.ofNat c.toNat]
  rw [Lib.count_one]
  exact Nat.le_refl _
-- how many parts
theorem cutG_len (c : Int) : ∀ (l w : List Int), (cutG c w l).length ≤ l.length + 1
  | [], w => Nat.le_refl _
  | x :: l, w => by
    unfold cutG
    split
    · simpa using cutG_len c l []
    · have := cutG_len c l (w ++ [x]); simp at this ⊢; omega
theorem cutG_size (c : Int) : ∀ (l w : List Int) (p : List Int), p ∈ cutG c w l → p.length ≤ w.length + l.length
  | [], w, p, h => by simp [cutG] at h; subst h; exact Nat.le_refl _
  | x :: l, w, p, h => by
    unfold cutG at h
    split at h
    · rcases List.mem_cons.1 h with rfl | h
      · simp
      · have := cutG_size c l [] p h; simp at this ⊢; omega
    · have := cutG_size c l (w ++ [x]) p h; simp at this ⊢; omega
-- pairs and targets
def dec (plus : Bool) (l : List Int) : Option (List Int) := decL (l.length + 1) plus l
def nb (c : Int) (x : Int) : Bool := x != c
theorem Dec_f (s : ByteArray) (plus : Bool) (hs : s.size ≤ 9000) {k : Nat} (hk : 400000 ≤ k) :
    match dec plus (bytesOf s) with | some l => ∃ t, pct_Decode.f k s plus = some (t, 0) ∧ bytesOf t = l | none => pct_Decode.f k s plus = some (⟨#[]⟩, 3) := by
  have := Decode_f s plus hs hk
  unfold dec
  rw [bytesOf_length]
  exact this
theorem cut_f1 (s : ByteArray) (hs : s.size ≤ 9000) (c : UInt8) : ∃ t u b, strings_Cut.f s ⟨#[c]⟩ = some (t, u, b) ∧ bytesOf t = (bytesOf s).takeWhile (nb (c.toNat : Int)) ∧ bytesOf u = ((bytesOf s).dropWhile (nb (c.toNat : Int))).drop 1 ∧ t.size ≤ s.size ∧ u.size ≤ s.size := by
  obtain ⟨t, u, b, h1, h2, h3, _⟩ := Cut_f s (by omega) c
  refine ⟨t, u, b, h1, h2, h3, ?_, ?_⟩
  · rw [bts_size, h2, bts_size s]
    exact (List.takeWhile_sublist _).length_le
  · rw [bts_size, h3, bts_size s, List.length_drop]
    have := (List.dropWhile_sublist (fun x => x != (c.toNat : Int)) (l := bytesOf s)).length_le
    omega
def queryL : List (List Int) → Option (List (List Int × List Int))
  | [] => some []
  | p :: ps => if p = [] then queryL ps else match dec true (p.takeWhile (nb 61)), dec true ((p.dropWhile (nb 61)).drop 1) with
    | some n, some v => (queryL ps).map ((n, v) :: ·)
    | _, _ => none
theorem query_skip {ps : List (List Int)} : queryL ([] :: ps) = queryL ps := by simp only [queryL, if_true]
theorem query_fail {p : List Int} {ps : List (List Int)} (h : p ≠ []) (h2 : dec true (p.takeWhile (nb 61)) = none ∨ dec true ((p.dropWhile (nb 61)).drop 1) = none) : queryL (p :: ps) = none := by
  simp only [queryL, if_neg h]
  rcases h2 with h2 | h2 <;> rw [h2]
  cases dec true (p.takeWhile (nb 61)) <;> rfl
theorem query_one {p : List Int} {ps : List (List Int)} {n v : List Int} (h : p ≠ []) (h1 : dec true (p.takeWhile (nb 61)) = some n) (h2 : dec true ((p.dropWhile (nb 61)).drop 1) = some v) : queryL (p :: ps) = (queryL ps).map ((n, v) :: ·) := by
  simp only [queryL, if_neg h]
  rw [h1, h2]
def pg (x : S45) : List Int × List Int := (bytesOf x.f0, bytesOf x.f1)
theorem rdOf_at (xs : List ByteArray) (i : Nat) (h : i < xs.length) : rdOf ByteArray.empty xs (i : Int) = xs[i] := by
  unfold rdOf
  rw [show ((i : Int)).toNat = i by omega, List.getD_eq_getElem?_getD, List.getElem?_eq_getElem h]
  rfl
theorem Query_l0 (xs : List ByteArray) (hx : xs.length ≤ 10000) (hz : ∀ x ∈ xs, x.size ≤ 9000) : ∀ (f i k : Nat) (acc : List S45), i + f = xs.length → f + 450000 ≤ k → acc.length ≤ i →
    match queryL ((xs.drop i).map bytesOf) with
    | some L => ∃ out, pct_Query.l0 k acc xs (xs.length : Int) (i : Int) = some (out, 0) ∧ out.map pg = acc.map pg ++ L
    | none => pct_Query.l0 k acc xs (xs.length : Int) (i : Int) = some ([], 3) := by
  intro f
  induction f with
  | zero =>
    intro i k acc hi hk ha
    obtain ⟨k, rfl⟩ : ∃ m, k = m + 1 := ⟨k - 1, by omega⟩
    have e1 : pct_Query.l0 (k + 1) acc xs (xs.length : Int) (i : Int) = some (acc, 0) := by
      simp only [pct_Query.l0]
      rw [if_neg (by omega)]
    rw [List.drop_of_length_le (by omega)]
    exact ⟨acc, e1, by simp⟩
  | succ f ih =>
    intro i k acc hi hk ha
    obtain ⟨k, rfl⟩ : ∃ m, k = m + 1 := ⟨k - 1, by omega⟩
    have ew : wrap64 ((i : Int) + 1) = ((i + 1 : Nat) : Int) := by rw [w64 (by omega)]; omega
    have hpz := hz (xs[i]'(by omega)) (List.getElem_mem _)
    have step : pct_Query.l0 (k + 1) acc xs (xs.length : Int) (i : Int) = (if (xs[i]'(by omega)).toList = ([] : List UInt8) then (pct_Query.l0 k acc xs (xs.length : Int) ((i + 1 : Nat) : Int)) else ((strings_Cut.f (xs[i]'(by omega)) (⟨#[61]⟩ : ByteArray)).bind fun bt123 => ((pct_Decode.f k bt123.1 true).bind fun bt126 => ((pct_Decode.f k bt123.2.1 true).bind fun bt128 => (if bt126.2 = 0 then (if bt128.2 = 0 then (if acc.length < 4398046511104 then (pct_Query.l0 k (acc ++ [(⟨bt126.1, bt128.1⟩ : S45)]) xs (xs.length : Int) ((i + 1 : Nat) : Int)) else (none)) else (some (([] : List (S45)), 3))) else (some (([] : List (S45)), 3))))))) := by
      simp only [pct_Query.l0]
      rw [if_pos (by omega), if_pos (by omega), if_pos (by omega), rdOf_at xs i (by omega), ew]
    rw [step, List.drop_eq_getElem_cons (by omega : i < xs.length), List.map_cons]
    clear step
    generalize xs[i]'(by omega) = p at hpz
    by_cases hp : bytesOf p = []
    · rw [if_pos ((tl_nil p).2 hp), hp, query_skip]
      exact ih (i + 1) k acc (by omega) (by omega) (by omega)
    · rw [if_neg (fun h => hp ((tl_nil p).1 h))]
      obtain ⟨t, u, b, h1, h2, h3, z1, z2⟩ := cut_f1 p hpz 61
      have c61 : ((61 : UInt8).toNat : Int) = 61 := rfl
      rw [c61] at h2 h3
      rw [h1]
      simp only [Option.bind_some]
      have d1 := Dec_f t true (by omega) (k := k) (by omega)
      have d2 := Dec_f u true (by omega) (k := k) (by omega)
      rw [h2] at d1
      rw [h3] at d2
      cases e1 : dec true ((bytesOf p).takeWhile (nb 61)) with
      | none =>
        rw [e1] at d1
        rw [query_fail hp (.inl e1), d1]
        simp only [Option.bind_some]
        cases e2 : dec true (((bytesOf p).dropWhile (nb 61)).drop 1) with
        | none =>
          rw [e2] at d2
          rw [d2]; rfl
        | some v =>
          rw [e2] at d2
          obtain ⟨y, y1, y2⟩ := d2
          rw [y1]; rfl
      | some n =>
        rw [e1] at d1
        obtain ⟨x, x1, x2⟩ := d1
        rw [x1]
        simp only [Option.bind_some]
        cases e2 : dec true (((bytesOf p).dropWhile (nb 61)).drop 1) with
        | none =>
          rw [e2] at d2
          rw [query_fail hp (.inr e2), d2]; rfl
        | some v =>
          rw [e2] at d2
          obtain ⟨y, y1, y2⟩ := d2
          rw [query_one hp e1 e2, y1]
          simp only [Option.bind_some, if_true]
          have e3 : acc.length < 4398046511104 := by omega
          simp only [if_pos e3]
          have := ih (i + 1) k (acc ++ [(⟨x, y⟩ : S45)]) (by omega) (by omega) (by simp; omega)
          cases hq : queryL ((xs.drop (i + 1)).map bytesOf) with
          | none => rw [hq] at this; exact this
          | some L =>
            rw [hq] at this
            obtain ⟨out, o1, o2⟩ := this
            exact ⟨out, o1, by rw [o2]; simp [pg, x2, y2]⟩
theorem parts_ok {s : ByteArray} {c : Int} {L : List ByteArray} (h : L.map bytesOf = cutG c [] (bytesOf s)) (hs : s.size ≤ 9000) : L.length ≤ 9001 ∧ ∀ x ∈ L, x.size ≤ 9000 := by
  have hl := bytesOf_length s
  constructor
  · have h1 := cutG_len c (bytesOf s) []
    rw [← h, List.length_map] at h1
    omega
  · intro x hx
    have h1 := cutG_size c (bytesOf s) [] (bytesOf x) (by rw [← h]; exact List.mem_map_of_mem hx)
    rw [bytesOf_length] at h1
    simp at h1
    omega
theorem son1 (c : UInt8) : strOfNums [(c.toNat : Int)] = ⟨#[c]⟩ := ext_bts (by
  rw [bts_son (fun x hx => by rw [List.mem_singleton.1 hx]; have := c.toNat_lt; omega)]; rfl)
theorem Split1 (s : ByteArray) (hs : s.size ≤ 9000) (c : UInt8) : ∃ L, strings_Split.f s ⟨#[c]⟩ = some L ∧ L.map bytesOf = cutG (c.toNat : Int) [] (bytesOf s) ∧ L.length ≤ 9001 ∧ ∀ x ∈ L, x.size ≤ 9000 := by
  obtain ⟨L, h1, h2⟩ := Split_f s (by omega) (c.toNat : Int) (by have := c.toNat_lt; omega)
  rw [son1] at h1
  obtain ⟨h3, h4⟩ := parts_ok h2 hs
  exact ⟨L, h1, h2, h3, h4⟩
theorem Query_f (s : ByteArray) (hs : s.size ≤ 9000) {k : Nat} (hk : 500000 ≤ k) :
    match queryL (cutG 38 [] (bytesOf s)) with | some L => ∃ out, pct_Query.f k s = some (out, 0) ∧ out.map pg = L | none => pct_Query.f k s = some ([], 3) := by
  obtain ⟨L, h1, h2, h3, h4⟩ := Split1 s hs 38
  have := Query_l0 L (by omega) h4 L.length 0 k [] (by omega) (by omega) (by simp)
  rw [List.drop_zero, h2] at this
  unfold pct_Query.f
  rw [h1]
  exact this
def mapDec : List (List Int) → Option (List (List Int))
  | [] => some []
  | p :: ps => match dec false p with
    | some d => (mapDec ps).map (d :: ·)
    | none => none
theorem mapDec_some {p : List Int} {ps : List (List Int)} {d : List Int} (h : dec false p = some d) : mapDec (p :: ps) = (mapDec ps).map (d :: ·) := by simp only [mapDec, h]
theorem mapDec_none {p : List Int} {ps : List (List Int)} (h : dec false p = none) : mapDec (p :: ps) = none := by simp only [mapDec, h]
def both (a : Option (List (List Int))) (b : Option (List (List Int × List Int))) : Option (List (List Int) × List (List Int × List Int)) := match a, b with | some x, some y => some (x, y) | _, _ => none
def splitL (l : List Int) : Option (List (List Int) × List (List Int × List Int)) := match l with
  | [] => none
  | c :: r => if c = 47 then both (mapDec (cutG 47 [] (r.takeWhile (nb 63)))) (queryL (cutG 38 [] ((r.dropWhile (nb 63)).drop 1))) else none
theorem Split_l0 (q : ByteArray) (hq : q.size ≤ 9000) (xs : List ByteArray) (hx : xs.length ≤ 10000) (hz : ∀ x ∈ xs, x.size ≤ 9000) : ∀ (f i k : Nat) (acc : List ByteArray), i + f = xs.length → f + 550000 ≤ k → acc.length ≤ i →
    match both (mapDec ((xs.drop i).map bytesOf)) (queryL (cutG 38 [] (bytesOf q))) with
    | some P => ∃ a b, pct_Split.l0 k acc q xs (xs.length : Int) (i : Int) = some (a, b, 0) ∧ a.map bytesOf = acc.map bytesOf ++ P.1 ∧ b.map pg = P.2
    | none => pct_Split.l0 k acc q xs (xs.length : Int) (i : Int) = some ([], [], 3) := by
  intro f
  induction f with
  | zero =>
    intro i k acc hi hk ha
    obtain ⟨k, rfl⟩ : ∃ m, k = m + 1 := ⟨k - 1, by omega⟩
    have e1 : pct_Split.l0 (k + 1) acc q xs (xs.length : Int) (i : Int) = ((pct_Query.f k q).bind fun bt147 => (if bt147.2 = 0 then (some (acc, bt147.1, 0)) else (some (([] : List ByteArray), ([] : List (S45)), bt147.2)))) := by
      simp only [pct_Split.l0]
      rw [if_neg (by omega)]
    rw [List.drop_of_length_le (by omega), e1]
    have := Query_f q hq (k := k) (by omega)
    cases hq : queryL (cutG 38 [] (bytesOf q)) with
    | none =>
      rw [hq] at this
      rw [this]; rfl
    | some L =>
      rw [hq] at this
      obtain ⟨out, o1, o2⟩ := this
      rw [o1]
      exact ⟨acc, out, rfl, by simp, o2⟩
  | succ f ih =>
    intro i k acc hi hk ha
    obtain ⟨k, rfl⟩ : ∃ m, k = m + 1 := ⟨k - 1, by omega⟩
    have ew : wrap64 ((i : Int) + 1) = ((i + 1 : Nat) : Int) := by rw [w64 (by omega)]; omega
    have hpz := hz (xs[i]'(by omega)) (List.getElem_mem _)
    have step : pct_Split.l0 (k + 1) acc q xs (xs.length : Int) (i : Int) = ((pct_Decode.f k (xs[i]'(by omega)) false).bind fun bt142 => (if bt142.2 = 0 then (if acc.length < 8796093022208 then (pct_Split.l0 k (acc ++ [bt142.1]) q xs (xs.length : Int) ((i + 1 : Nat) : Int)) else (none)) else (some (([] : List ByteArray), ([] : List (S45)), bt142.2)))) := by
      simp only [pct_Split.l0]
      rw [if_pos (by omega), if_pos (by omega), if_pos (by omega), rdOf_at xs i (by omega), ew]
    rw [step, List.drop_eq_getElem_cons (by omega : i < xs.length), List.map_cons]
    clear step
    generalize xs[i]'(by omega) = p at hpz
    have d1 := Dec_f p false hpz (k := k) (by omega)
    cases e1 : dec false (bytesOf p) with
    | none =>
      rw [e1] at d1
      rw [mapDec_none e1, d1]; rfl
    | some d =>
      rw [e1] at d1
      obtain ⟨x, x1, x2⟩ := d1
      rw [mapDec_some e1, x1]
      have e3 : acc.length < 8796093022208 := by omega
      simp only [Option.bind_some, if_true, if_pos e3]
      have := ih (i + 1) k (acc ++ [x]) (by omega) (by omega) (by simp; omega)
      cases hm : mapDec ((xs.drop (i + 1)).map bytesOf) with
      | none => rw [hm] at this; exact this
      | some ps =>
        rw [hm] at this
        cases hq : queryL (cutG 38 [] (bytesOf q)) with
        | none => rw [hq] at this; exact this
        | some L =>
          rw [hq] at this
          obtain ⟨a, b, o1, o2, o3⟩ := this
          exact ⟨a, b, o1, by rw [o2]; simp [x2], o3⟩
theorem PSplit_f (s : ByteArray) (hs : s.size ≤ 9000) {k : Nat} (hk : 600000 ≤ k) :
    match splitL (bytesOf s) with | some P => ∃ a b, pct_Split.f k s = some (a, b, 0) ∧ a.map bytesOf = P.1 ∧ b.map pg = P.2 | none => pct_Split.f k s = some ([], [], 3) := by
  obtain ⟨t, b, h1, h2, h3, z⟩ := CutPrefix_f s ⟨#[47]⟩
  have p1 : bytesOf (⟨#[47]⟩ : ByteArray) = [47] := rfl
  rw [p1] at h2 h3
  unfold pct_Split.f
  rw [h1]
  simp only [Option.bind_some]
  cases hb : bytesOf s with
  | nil =>
    rw [hb] at h2
    have : b = false := h2
    subst this
    rfl
  | cons c r =>
    rw [hb] at h2 h3
    by_cases hc : c = 47
    · subst hc
      have hb2 : b = true := by rw [h2]; rfl
      subst hb2
      have ht : bytesOf t = r := by rw [h3]; rfl
      obtain ⟨u, v, b3, g1, g2, g3, z1, z2⟩ := cut_f1 t (by omega) 63
      have c63 : ((63 : UInt8).toNat : Int) = 63 := rfl
      rw [c63, ht] at g2 g3
      obtain ⟨L, l1, l2, l3, l4⟩ := Split1 u (by omega) 47
      rw [if_pos rfl, g1]
      simp only [Option.bind_some]
      rw [l1]
      simp only [Option.bind_some]
      have := Split_l0 v (by omega) L (by omega) l4 L.length 0 k [] (by omega) (by omega) (by simp)
      rw [List.drop_zero, l2, g2, g3] at this
      have e : splitL (47 :: r) = both (mapDec (cutG 47 [] (r.takeWhile (nb 63)))) (queryL (cutG 38 [] ((r.dropWhile (nb 63)).drop 1))) := by simp only [splitL, if_true]
      rw [e]
      exact this
    · have hb2 : b = false := by
        rw [h2]
        simp [List.isPrefixOf]
        omega
      subst hb2
      have e : splitL (c :: r) = none := by simp only [splitL, if_neg hc]
      rw [e]; rfl
def pg44 (x : S44) : List Int × List Int := (bytesOf x.f0, bytesOf x.f1)
-- pairs that are the same
theorem rd45 (xs : List S45) (i : Nat) (h : i < xs.length) : rd_T45 xs (i : Int) = xs[i] := by
  unfold rd_T45
  rw [show ((i : Int)).toNat = i by omega, List.getD_eq_getElem?_getD, List.getElem?_eq_getElem h]
  rfl
theorem rd44 (xs : List S44) (i : Nat) (h : i < xs.length) : rd_T44 xs (i : Int) = xs[i] := by
  unfold rd_T44
  rw [show ((i : Int)).toNat = i by omega, List.getD_eq_getElem?_getD, List.getElem?_eq_getElem h]
  rfl
theorem same_l0 {xs : List S45} {ys : List S44} (h : xs.map pg = ys.map pg44) (hy : ys.length ≤ 100000) : ∀ (f i k : Nat), i + f = ys.length → f < k → larumlaw08_same.l0 k xs ys (ys.length : Int) (i : Int) = some true := by
  have hl : xs.length = ys.length := by have := congrArg List.length h; simpa using this
  intro f
  induction f with
  | zero =>
    intro i k hi hk
    obtain ⟨k, rfl⟩ : ∃ m, k = m + 1 := ⟨k - 1, by omega⟩
    simp only [larumlaw08_same.l0]
    rw [if_neg (by omega)]
  | succ f ih =>
    intro i k hi hk
    obtain ⟨k, rfl⟩ : ∃ m, k = m + 1 := ⟨k - 1, by omega⟩
    have e : pg (xs[i]'(by omega)) = pg44 (ys[i]'(by omega)) := by
      have h1 : (xs.map pg)[i]? = (ys.map pg44)[i]? := by rw [h]
      rw [List.getElem?_map, List.getElem?_map, List.getElem?_eq_getElem (by omega), List.getElem?_eq_getElem (by omega)] at h1
      simpa using h1
    unfold pg pg44 at e
    simp only [Prod.mk.injEq] at e
    have e1 := (tl_iff _ _).2 e.1
    have e2 := (tl_iff _ _).2 e.2
    simp only [larumlaw08_same.l0]
    rw [if_pos (by omega), if_pos (by omega), if_pos (by omega), if_pos (by omega), rd45 xs i (by omega), rd44 ys i (by omega), e1, e2, if_neg (by simp), w64 (by omega), show ((i : Int) + 1) = ((i + 1 : Nat) : Int) by omega]
    exact ih (i + 1) k (by omega) (by omega)
theorem same_f {xs : List S45} {ys : List S44} (h : xs.map pg = ys.map pg44) (hy : ys.length ≤ 100000) {k : Nat} (hk : 200000 ≤ k) : larumlaw08_same.f k xs ys = some true := by
  have hl : xs.length = ys.length := by have := congrArg List.length h; simpa using this
  unfold larumlaw08_same.f
  rw [if_pos (by omega)]
  exact same_l0 h hy ys.length 0 k (by omega) (by omega)
theorem query_len : ∀ (ps : List (List Int)) (L : List (List Int × List Int)), queryL ps = some L → L.length ≤ ps.length := by
  intro ps
  induction ps with
  | nil => intro L h; cases h; simp
  | cons p ps ih =>
    intro L h
    by_cases hp : p = []
    · subst hp
      rw [query_skip] at h
      have := ih L h
      simp; omega
    · cases h1 : dec true (p.takeWhile (nb 61)) with
      | none => rw [query_fail hp (.inl h1)] at h; cases h
      | some n =>
        cases h2 : dec true ((p.dropWhile (nb 61)).drop 1) with
        | none => rw [query_fail hp (.inr h2)] at h; cases h
        | some v =>
          rw [query_one hp h1 h2] at h
          cases hq : queryL ps with
          | none => rw [hq] at h; cases h
          | some L' =>
            rw [hq] at h
            cases h
            have := ih L' hq
            simp; omega
theorem mapDec_len : ∀ (ps L : List (List Int)), mapDec ps = some L → L.length = ps.length := by
  intro ps
  induction ps with
  | nil => intro L h; cases h; rfl
  | cons p ps ih =>
    intro L h
    cases h1 : dec false p with
    | none => rw [mapDec_none h1] at h; cases h
    | some d =>
      rw [mapDec_some h1] at h
      cases hq : mapDec ps with
      | none => rw [hq] at h; cases h
      | some L' =>
        rw [hq] at h
        cases h
        have := ih L' hq
        simp; omega
theorem split_len {l : List Int} {P : List (List Int) × List (List Int × List Int)} (h : splitL l = some P) : P.1.length ≤ l.length + 1 ∧ P.2.length ≤ l.length + 1 := by
  cases l with
  | nil => cases h
  | cons c r =>
    by_cases hc : c = 47
    · simp only [splitL, if_pos hc] at h
      cases h1 : mapDec (cutG 47 [] (r.takeWhile (nb 63))) with
      | none => rw [h1] at h; cases h
      | some a =>
        cases h2 : queryL (cutG 38 [] ((r.dropWhile (nb 63)).drop 1)) with
        | none => rw [h1, h2] at h; cases h
        | some b =>
          rw [h1, h2] at h
          cases h
          have l1 := mapDec_len _ _ h1
          have l2 := query_len _ _ h2
          have c1 := cutG_len 47 (r.takeWhile (nb 63)) []
          have c2 := cutG_len 38 ((r.dropWhile (nb 63)).drop 1) []
          have t1 := (List.takeWhile_sublist (nb 63) (l := r)).length_le
          have t2 := (List.dropWhile_sublist (nb 63) (l := r)).length_le
          rw [List.length_drop] at c2
          simp only [List.length_cons]
          omega
    · simp only [splitL, if_neg hc] at h
      cases h
-- targets as text
def joinL (c : Int) : List (List Int) → List Int
  | [] => []
  | [x] => x
  | x :: y :: r => x ++ c :: joinL c (y :: r)
def sepB (x : Int) : Bool := x != 47 && x != 63 && x != 38 && x != 61
theorem sep_plain : ∀ c : Fin 256, plainB (c.val : Int) = true → sepB (c.val : Int) = true := by decide +kernel
theorem sep_hex : ∀ d : Fin 16, sepB (hexD (d.val : Int)) = true := by decide +kernel
theorem enc_sep : ∀ l, Byt l → (encL l).all sepB = true
  | [], _ => rfl
  | c :: r, h => by
    have hc := h c (by simp)
    have ih := enc_sep r (fun x hx => h x (List.mem_cons_of_mem _ hx))
    unfold encL
    rw [List.all_append, ih, Bool.and_true]
    by_cases hp : plainB c = true
    · rw [if_pos hp]
      have := sep_plain ⟨c.toNat, by omega⟩
      rw [show ((⟨c.toNat, by omega⟩ : Fin 256).val : Int) = c from by show ((c.toNat : Nat) : Int) = c; omega] at this
      simp [this hp]
    · rw [if_neg hp]
      have h1 := sep_hex ⟨(c / 16).toNat, by omega⟩
      have h2 := sep_hex ⟨(c % 16).toNat, by omega⟩
      rw [show ((⟨(c / 16).toNat, by omega⟩ : Fin 16).val : Int) = c / 16 from by show (((c / 16).toNat : Nat) : Int) = c / 16; omega] at h1
      rw [show ((⟨(c % 16).toNat, by omega⟩ : Fin 16).val : Int) = c % 16 from by show (((c % 16).toNat : Nat) : Int) = c % 16; omega] at h2
      simp [h1, h2]
      decide
theorem sep_nb {l : List Int} (h : l.all sepB = true) : l.all (nb 47) = true ∧ l.all (nb 63) = true ∧ l.all (nb 38) = true ∧ l.all (nb 61) = true := by
  simp only [List.all_eq_true, sepB, Bool.and_eq_true] at h
  simp only [List.all_eq_true, nb]
  exact ⟨fun x hx => (h x hx).1.1.1, fun x hx => (h x hx).1.1.2, fun x hx => (h x hx).1.2, fun x hx => (h x hx).2⟩
theorem while_all {p : Int → Bool} {l : List Int} (h : l.all p = true) : l.takeWhile p = l ∧ l.dropWhile p = [] := by
  induction l with
  | nil => exact ⟨rfl, rfl⟩
  | cons x l ih =>
    simp only [List.all_cons, Bool.and_eq_true] at h
    obtain ⟨i1, i2⟩ := ih h.2
    rw [List.takeWhile_cons, List.dropWhile_cons, h.1, if_pos rfl, if_pos rfl, i1, i2]
    exact ⟨rfl, rfl⟩
theorem while_stop {p : Int → Bool} {l r : List Int} {c : Int} (h : l.all p = true) (hc : p c = false) : (l ++ c :: r).takeWhile p = l ∧ (l ++ c :: r).dropWhile p = c :: r := by
  induction l with
  | nil => simp [hc]
  | cons x l ih =>
    simp only [List.all_cons, Bool.and_eq_true] at h
    obtain ⟨i1, i2⟩ := ih h.2
    rw [List.cons_append, List.takeWhile_cons, List.dropWhile_cons, h.1, if_pos rfl, if_pos rfl, i1, i2]
    exact ⟨rfl, rfl⟩
theorem cut_plain (c : Int) : ∀ (x w r : List Int), x.all (nb c) = true → cutG c w (x ++ r) = cutG c (w ++ x) r
  | [], w, r, _ => by simp
  | y :: x, w, r, h => by
    simp only [List.all_cons, Bool.and_eq_true] at h
    have hy : y ≠ c := by simpa [nb] using h.1
    rw [List.cons_append]
    simp only [cutG, if_neg hy]
    rw [cut_plain c x _ r h.2]
    simp
theorem cut_one (c : Int) (x : List Int) (h : x.all (nb c) = true) : cutG c [] x = [x] := by
  have := cut_plain c x [] [] h
  rw [List.append_nil] at this
  rw [this]; simp [cutG]
theorem cut_join (c : Int) : ∀ (l : List (List Int)), l ≠ [] → (∀ x ∈ l, x.all (nb c) = true) → cutG c [] (joinL c l) = l
  | [], h, _ => absurd rfl h
  | [x], _, h => cut_one c x (h x (by simp))
  | x :: y :: r, _, h => by
    show cutG c [] (x ++ c :: joinL c (y :: r)) = _
    rw [cut_plain c x _ _ (h x (by simp))]
    simp only [cutG, if_true, List.nil_append]
    rw [cut_join c (y :: r) (by simp) (fun z hz => h z (List.mem_cons_of_mem _ hz))]
theorem all_join (p : Int → Bool) (c : Int) (hc : p c = true) : ∀ (l : List (List Int)), (∀ x ∈ l, x.all p = true) → (joinL c l).all p = true
  | [], _ => rfl
  | [x], h => h x (by simp)
  | x :: y :: r, h => by
    show (x ++ c :: joinL c (y :: r)).all p = true
    rw [List.all_append, List.all_cons, hc, h x (by simp), all_join p c hc (y :: r) (fun z hz => h z (List.mem_cons_of_mem _ hz))]
    rfl
def pairT (q : List Int × List Int) : List Int := encL q.1 ++ 61 :: encL q.2
def targetL (ps : List (List Int)) (qs : List (List Int × List Int)) : List Int :=
  47 :: (joinL 47 (ps.map encL) ++ if qs = [] then [] else 63 :: joinL 38 (qs.map pairT))
theorem dec_of (plus : Bool) (l : List Int) (h : Byt l) : dec plus (encL l) = some l := dec_enc plus l _ h (by have := enc_ge l; omega)
theorem query_pairs : ∀ (qs : List (List Int × List Int)), (∀ q ∈ qs, Byt q.1 ∧ Byt q.2) → queryL (qs.map pairT) = some qs
  | [], _ => rfl
  | (n, v) :: qs, h => by
    obtain ⟨hn, hv⟩ := h (n, v) (by simp)
    have s1 := (sep_nb (enc_sep n hn)).2.2.2
    obtain ⟨e1, e2⟩ := while_stop (p := nb 61) (r := encL v) (c := 61) s1 (by decide)
    have ne : pairT (n, v) ≠ [] := by unfold pairT; simp
    rw [List.map_cons, query_one (n := n) (v := v) ne (by show dec true ((pairT (n, v)).takeWhile (nb 61)) = _; rw [show pairT (n, v) = encL n ++ 61 :: encL v from rfl, e1]; exact dec_of true n hn) (by rw [show pairT (n, v) = encL n ++ 61 :: encL v from rfl, e2]; exact dec_of true v hv), query_pairs qs (fun q hq => h q (List.mem_cons_of_mem _ hq))]
    rfl
theorem map_parts : ∀ (ps : List (List Int)), (∀ p ∈ ps, Byt p) → mapDec (ps.map encL) = some ps
  | [], _ => rfl
  | p :: ps, h => by
    rw [List.map_cons, mapDec_some (dec_of false p (h p (by simp))), map_parts ps (fun q hq => h q (List.mem_cons_of_mem _ hq))]
    rfl
theorem split_target (ps : List (List Int)) (qs : List (List Int × List Int)) (hp : ∀ p ∈ ps, Byt p) (hq : ∀ q ∈ qs, Byt q.1 ∧ Byt q.2) : splitL (targetL ps qs) = some (if ps = [] then [[]] else ps, qs) := by
  have hpe : ∀ x ∈ ps.map encL, x.all sepB = true := by
    intro x hx
    obtain ⟨y, hy, rfl⟩ := List.mem_map.1 hx
    exact enc_sep y (hp y hy)
  have hqe : ∀ x ∈ qs.map pairT, x.all (nb 38) = true := by
    intro x hx
    obtain ⟨y, hy, rfl⟩ := List.mem_map.1 hx
    unfold pairT
    rw [List.all_append, List.all_cons, (sep_nb (enc_sep y.1 (hq y hy).1)).2.2.1, (sep_nb (enc_sep y.2 (hq y hy).2)).2.2.1]
    decide
  have j63 : (joinL 47 (ps.map encL)).all (nb 63) = true := all_join (nb 63) 47 (by decide) _ (fun x hx => (sep_nb (hpe x hx)).2.1)
  have parts : mapDec (cutG 47 [] (joinL 47 (ps.map encL))) = some (if ps = [] then [[]] else ps) := by
    by_cases h : ps = []
    · subst h
      rw [if_pos rfl]
      have e : cutG 47 [] (joinL 47 (([] : List (List Int)).map encL)) = [[]] := rfl
      rw [e, mapDec_some (show dec false [] = some [] from rfl)]
      rfl
    · rw [if_neg h, cut_join 47 _ (by simpa using h) (fun x hx => (sep_nb (hpe x hx)).1), map_parts ps hp]
  have e : splitL (targetL ps qs) = both (mapDec (cutG 47 [] ((joinL 47 (ps.map encL) ++ if qs = [] then [] else 63 :: joinL 38 (qs.map pairT)).takeWhile (nb 63)))) (queryL (cutG 38 [] (((joinL 47 (ps.map encL) ++ if qs = [] then [] else 63 :: joinL 38 (qs.map pairT)).dropWhile (nb 63)).drop 1))) := by
    unfold targetL
    simp only [splitL, if_true]
  rw [e]
  by_cases h : qs = []
  · subst h
    rw [if_pos rfl, List.append_nil, (while_all j63).1, (while_all j63).2, parts]
    rfl
  · obtain ⟨e1, e2⟩ := while_stop (p := nb 63) (r := joinL 38 (qs.map pairT)) (c := 63) j63 (by decide)
    rw [if_neg h, e1, e2, parts, List.drop_one, List.tail_cons, cut_join 38 _ (by simpa using h) hqe, query_pairs qs hq]
    rfl
theorem join_bts : ∀ (l : List ByteArray) (c : UInt8), bytesOf (⟨(Lib.join (l.map (·.data.toList)) [c]).toArray⟩ : ByteArray) = joinL (c.toNat : Int) (l.map bytesOf) := by
  intro l c
  have h0 : ∀ x : List UInt8, bytesOf (⟨x.toArray⟩ : ByteArray) = natL x := fun x => rfl
  rw [h0]
  induction l with
  | nil => rfl
  | cons x l ih =>
    cases l with
    | nil =>
      show natL (Lib.join [x.data.toList] [c]) = bytesOf x
      rw [Lib.join_one]; rfl
    | cons y l =>
      have e : Lib.join ((x :: y :: l).map (·.data.toList)) [c] = x.data.toList ++ c :: Lib.join ((y :: l).map (·.data.toList)) [c] := by
        simp [Lib.join, List.intercalate, List.intersperse]
      rw [e, natL_app]
      show natL x.data.toList ++ ((c.toNat : Int) :: natL (Lib.join ((y :: l).map (·.data.toList)) [c])) = bytesOf x ++ (c.toNat : Int) :: joinL (c.toNat : Int) ((y :: l).map bytesOf)
      rw [ih]; rfl
theorem Join_f (l : List ByteArray) (c : UInt8) (hl : l.length ≤ 1000) (hz : (joinL (c.toNat : Int) (l.map bytesOf)).length ≤ 1000000) : ∃ t, strings_Join.f l ⟨#[c]⟩ = some t ∧ bytesOf t = joinL (c.toNat : Int) (l.map bytesOf) := by
  have h := join_bts l c
  have hlen : (Lib.join (l.map (·.data.toList)) [c]).length ≤ 140737488355328 := by
    have := bytesOf_length (⟨(Lib.join (l.map (·.data.toList)) [c]).toArray⟩ : ByteArray)
    rw [h] at this
    have e : (⟨(Lib.join (l.map (·.data.toList)) [c]).toArray⟩ : ByteArray).size = (Lib.join (l.map (·.data.toList)) [c]).length := by
      show (Lib.join (l.map (·.data.toList)) [c]).toArray.size = _
      simp
    omega
  refine ⟨_, ?_, h⟩
  unfold strings_Join.f
  rw [if_pos ⟨by omega, hlen⟩]
theorem join_len (c : Int) (b : Nat) : ∀ (l : List (List Int)), (∀ x ∈ l, x.length ≤ b) → (joinL c l).length ≤ (b + 1) * l.length
  | [], _ => by simp [joinL]
  | [x], h => by have := h x (by simp); simp [joinL]; omega
  | x :: y :: r, h => by
    have h1 := h x (by simp)
    have h2 := join_len c b (y :: r) (fun z hz => h z (List.mem_cons_of_mem _ hz))
    have e : joinL c (x :: y :: r) = x ++ c :: joinL c (y :: r) := rfl
    rw [e, List.length_append, List.length_cons]
    simp only [List.length_cons, Nat.mul_add] at h2 ⊢
    omega
theorem Target_l1 (x1 : List S45) (x5 : List ByteArray) (h1 : x1.length ≤ 5) (hz : ∀ x ∈ x1, x.f0.size ≤ 100 ∧ x.f1.size ≤ 100) (h5 : x5.length ≤ 5) (h5z : ∀ x ∈ x5, x.size ≤ 300) : ∀ (f i k : Nat) (x6 : List ByteArray), i + f = x1.length → f + 5000 ≤ k → x6.map bytesOf = (x1.take i).map (fun x => pairT (pg x)) →
    ∃ t, pct_Target.l1 k x1 x5 x6 x1 (x1.length : Int) (i : Int) = some t ∧ bytesOf t = 47 :: (joinL 47 (x5.map bytesOf) ++ if x1.map pg = [] then [] else 63 :: joinL 38 ((x1.map pg).map pairT)) := by
  intro f
  induction f with
  | zero =>
    intro i k x6 hi hk h6
    obtain ⟨k, rfl⟩ : ∃ m, k = m + 1 := ⟨k - 1, by omega⟩
    rw [List.take_of_length_le (by omega)] at h6
    have l6 : x6.length = x1.length := by have := congrArg List.length h6; simpa using this
    have c47 : ((47 : UInt8).toNat : Int) = 47 := rfl
    have c38 : ((38 : UInt8).toNat : Int) = 38 := rfl
    have b5 := join_len 47 300 (x5.map bytesOf) (by
      intro x hx
      obtain ⟨y, hy, rfl⟩ := List.mem_map.1 hx
      rw [bytesOf_length]; exact h5z y hy)
    rw [List.length_map] at b5
    have b5' : (joinL 47 (x5.map bytesOf)).length ≤ 1505 := by
      have : (300 + 1) * x5.length ≤ 301 * 5 := Nat.mul_le_mul_left _ h5
      omega
    have b6 := join_len 38 601 (x6.map bytesOf) (by
      intro x hx
      rw [h6] at hx
      obtain ⟨y, hy, rfl⟩ := List.mem_map.1 hx
      have := hz y hy
      have e1 := enc_len (bytesOf y.f0)
      have e2 := enc_len (bytesOf y.f1)
      rw [bytesOf_length] at e1 e2
      unfold pairT pg
      simp only [List.length_append, List.length_cons]
      omega)
    rw [List.length_map] at b6
    have b6' : (joinL 38 (x6.map bytesOf)).length ≤ 3010 := by
      have : (601 + 1) * x6.length ≤ 602 * 5 := Nat.mul_le_mul_left _ (by omega)
      omega
    obtain ⟨a, a1, a2⟩ := Join_f x5 47 (by omega) (by rw [c47]; omega)
    obtain ⟨b, p1, p2⟩ := Join_f x6 38 (by omega) (by rw [c38]; omega)
    rw [c47] at a2
    rw [c38] at p2
    have za : a.size ≤ 1505 := by rw [bts_size, a2]; exact b5'
    have zb : b.size ≤ 3010 := by rw [bts_size, p2]; exact b6'
    have q47 : bytesOf (⟨#[47]⟩ : ByteArray) = [47] := rfl
    have q63 : bytesOf (⟨#[63]⟩ : ByteArray) = [63] := rfl
    have s1 : ((⟨#[47]⟩ : ByteArray) ++ a).size = 1 + a.size := by rw [ByteArray.size_append]; rfl
    have s2 : ((⟨#[63]⟩ : ByteArray) ++ b).size = 1 + b.size := by rw [ByteArray.size_append]; rfl
    have e6 : x6.map bytesOf = (x1.map pg).map pairT := by rw [h6, List.map_map]; rfl
    by_cases hx : x1.length = 0
    · have hx1 : x1 = [] := List.eq_nil_of_length_eq_zero hx
      refine ⟨(⟨#[47]⟩ : ByteArray) ++ a, ?_, ?_⟩
      · simp only [pct_Target.l1]
        rw [if_neg (by omega), a1]
        simp only [Option.bind_some]
        rw [if_pos (by omega), if_neg (by omega)]
      · rw [bts_append, q47, a2, hx1]; simp
    · have hx1 : x1.map pg ≠ [] := fun h => hx (by rw [← List.length_map (f := pg), h]; rfl)
      refine ⟨((⟨#[47]⟩ : ByteArray) ++ a) ++ ((⟨#[63]⟩ : ByteArray) ++ b), ?_, ?_⟩
      · simp only [pct_Target.l1]
        rw [if_neg (by omega), a1]
        simp only [Option.bind_some]
        rw [if_pos (by omega), if_pos (by omega), p1]
        simp only [Option.bind_some]
        rw [if_pos (by omega), if_pos (by omega)]
      · rw [bts_append, bts_append, bts_append, q47, q63, a2, p2, e6, if_neg hx1]; simp
  | succ f ih =>
    intro i k x6 hi hk h6
    obtain ⟨k, rfl⟩ : ∃ m, k = m + 1 := ⟨k - 1, by omega⟩
    have l6 : x6.length = i := by have := congrArg List.length h6; simp at this; omega
    have hx := hz _ (List.getElem_mem (by omega : i < x1.length))
    obtain ⟨a, a1, a2⟩ := Encode_f (x1[i]'(by omega)).f0 (by omega) (k := k) (by omega)
    obtain ⟨b, p1, p2⟩ := Encode_f (x1[i]'(by omega)).f1 (by omega) (k := k) (by omega)
    have za : a.size ≤ 300 := by
      have := enc_len (bytesOf (x1[i]'(by omega)).f0)
      rw [bytesOf_length] at this
      rw [bts_size, a2]; omega
    have zb : b.size ≤ 300 := by
      have := enc_len (bytesOf (x1[i]'(by omega)).f1)
      rw [bytesOf_length] at this
      rw [bts_size, p2]; omega
    have s1 : (a ++ (⟨#[61]⟩ : ByteArray)).size = a.size + 1 := by rw [ByteArray.size_append]; rfl
    have step : pct_Target.l1 (k + 1) x1 x5 x6 x1 (x1.length : Int) (i : Int) = pct_Target.l1 k x1 x5 (x6 ++ [(a ++ (⟨#[61]⟩ : ByteArray)) ++ b]) x1 (x1.length : Int) ((i + 1 : Nat) : Int) := by
      simp only [pct_Target.l1]
      rw [if_pos (by omega), if_pos (by omega), if_pos (by omega), rd45 x1 i (by omega), a1]
      simp only [Option.bind_some]
      rw [if_pos (by omega), p1]
      simp only [Option.bind_some]
      rw [if_pos (by omega), if_pos (by omega), w64 (by omega), show (i : Int) + 1 = ((i + 1 : Nat) : Int) by omega]
    rw [step]
    refine ih (i + 1) k _ (by omega) (by omega) ?_
    have q61 : bytesOf (⟨#[61]⟩ : ByteArray) = [61] := rfl
    rw [List.map_append, h6, List.take_succ_eq_append_getElem (by omega : i < x1.length), List.map_append]
    congr 1
    simp only [List.map_cons, List.map_nil]
    rw [bts_append, bts_append, a2, p2, q61]
    unfold pairT pg
    simp
theorem Target_l0 (x1 : List S45) (xs : List ByteArray) (h1 : x1.length ≤ 5) (hz : ∀ x ∈ x1, x.f0.size ≤ 100 ∧ x.f1.size ≤ 100) (hx : xs.length ≤ 5) (hxz : ∀ x ∈ xs, x.size ≤ 100) : ∀ (f i k : Nat) (x5 : List ByteArray), i + f = xs.length → f + 6000 ≤ k → x5.map bytesOf = (xs.take i).map (fun x => encL (bytesOf x)) →
    ∃ t, pct_Target.l0 k x1 x5 xs (xs.length : Int) (i : Int) = some t ∧ bytesOf t = targetL (xs.map bytesOf) (x1.map pg) := by
  intro f
  induction f with
  | zero =>
    intro i k x5 hi hk h5
    obtain ⟨k, rfl⟩ : ∃ m, k = m + 1 := ⟨k - 1, by omega⟩
    rw [List.take_of_length_le (by omega)] at h5
    have l5 : x5.length = xs.length := by have := congrArg List.length h5; simpa using this
    have step : pct_Target.l0 (k + 1) x1 x5 xs (xs.length : Int) (i : Int) = pct_Target.l1 k x1 x5 [] x1 (x1.length : Int) 0 := by
      simp only [pct_Target.l0]
      rw [if_neg (by omega)]
    have h5z : ∀ x ∈ x5, x.size ≤ 300 := by
      intro x hx'
      have : bytesOf x ∈ xs.map (fun x => encL (bytesOf x)) := by rw [← h5]; exact List.mem_map_of_mem hx'
      obtain ⟨y, hy, e⟩ := List.mem_map.1 this
      have h2 := hxz y hy
      have := enc_len (bytesOf y)
      rw [bytesOf_length] at this
      rw [bts_size, ← e]; omega
    obtain ⟨t, t1, t2⟩ := Target_l1 x1 x5 h1 hz (by omega) h5z x1.length 0 k [] (by omega) (by omega) rfl
    refine ⟨t, by rw [step]; exact t1, ?_⟩
    have e : (xs.map bytesOf).map encL = xs.map (fun x => encL (bytesOf x)) := by rw [List.map_map]; rfl
    rw [t2]
    unfold targetL
    rw [h5, e]
  | succ f ih =>
    intro i k x5 hi hk h5
    obtain ⟨k, rfl⟩ : ∃ m, k = m + 1 := ⟨k - 1, by omega⟩
    have l5 : x5.length = i := by have := congrArg List.length h5; simp at this; omega
    have hx' := hxz _ (List.getElem_mem (by omega : i < xs.length))
    obtain ⟨a, a1, a2⟩ := Encode_f (xs[i]'(by omega)) (by omega) (k := k) (by omega)
    have step : pct_Target.l0 (k + 1) x1 x5 xs (xs.length : Int) (i : Int) = pct_Target.l0 k x1 (x5 ++ [a]) xs (xs.length : Int) ((i + 1 : Nat) : Int) := by
      simp only [pct_Target.l0]
      rw [if_pos (by omega), if_pos (by omega), if_pos (by omega), rdOf_at xs i (by omega), a1]
      simp only [Option.bind_some]
      rw [if_pos (by omega), w64 (by omega), show (i : Int) + 1 = ((i + 1 : Nat) : Int) by omega]
    rw [step]
    refine ih (i + 1) k _ (by omega) (by omega) ?_
    rw [List.map_append, h5, List.take_succ_eq_append_getElem (by omega : i < xs.length), List.map_append]
    simp [a2]
def flat47 (ps : List (List Int)) : List Int := ps.flatMap fun p => 47 :: encL p
theorem flat_join : ∀ (ps : List (List Int)), ps ≠ [] → flat47 ps = 47 :: joinL 47 (ps.map encL)
  | [], h => absurd rfl h
  | [p], _ => by simp [flat47, joinL]
  | p :: q :: r, _ => by
    have ih := flat_join (q :: r) (by simp)
    have e : flat47 (p :: q :: r) = (47 :: encL p) ++ flat47 (q :: r) := rfl
    rw [e, ih]
    rfl
def flatQ : List (List Int × List Int) → List Int
  | [] => []
  | q :: qs => 63 :: pairT q ++ qs.flatMap fun q => 38 :: pairT q
theorem flatQ_join (qs : List (List Int × List Int)) : flatQ qs = if qs = [] then [] else 63 :: joinL 38 (qs.map pairT) := by
  cases qs with
  | nil => rfl
  | cons q qs =>
    rw [if_neg (by simp)]
    show 63 :: (pairT q ++ qs.flatMap fun q => 38 :: pairT q) = _
    congr 1
    induction qs generalizing q with
    | nil => simp [joinL]
    | cons p qs ih =>
      have e : joinL 38 ((q :: p :: qs).map pairT) = pairT q ++ 38 :: joinL 38 ((p :: qs).map pairT) := rfl
      rw [e, ← ih p]
      simp
def flatQ' (i : Nat) (qs : List (List Int × List Int)) : List Int := if i = 0 then flatQ qs else qs.flatMap fun q => 38 :: pairT q
theorem flatQ'_cons (i : Nat) (q : List Int × List Int) (qs : List (List Int × List Int)) : flatQ' i (q :: qs) = (if i = 0 then 63 else 38) :: pairT q ++ flatQ' (i + 1) qs := by
  unfold flatQ'
  rw [if_neg (Nat.succ_ne_zero i)]
  by_cases h : i = 0
  · rw [if_pos h, if_pos h]; rfl
  · rw [if_neg h, if_neg h]; rfl
theorem RTarget_l1 (ys : List S44) (hy : ys.length ≤ 5) (hz : ∀ x ∈ ys, x.f0.size ≤ 100 ∧ x.f1.size ≤ 100) : ∀ (f i k : Nat) (o : ByteArray), i + f = ys.length → f + 5000 ≤ k → o.size ≤ 1600 + 700 * i →
    ∃ t, larumref08_Target.l1 k o ys (ys.length : Int) (i : Int) = some t ∧ bytesOf t = bytesOf o ++ flatQ' i ((ys.drop i).map pg44) := by
  intro f
  induction f with
  | zero =>
    intro i k o hi hk ho
    obtain ⟨k, rfl⟩ : ∃ m, k = m + 1 := ⟨k - 1, by omega⟩
    refine ⟨o, ?_, ?_⟩
    · simp only [larumref08_Target.l1]
      rw [if_neg (by omega)]
    · rw [List.drop_of_length_le (by omega)]
      unfold flatQ'
      split <;> simp [flatQ]
  | succ f ih =>
    intro i k o hi hk ho
    obtain ⟨k, rfl⟩ : ∃ m, k = m + 1 := ⟨k - 1, by omega⟩
    have hx := hz _ (List.getElem_mem (by omega : i < ys.length))
    obtain ⟨a, a1, a2⟩ := REncode_f (ys[i]'(by omega)).f0 (by omega) (k := k) (by omega)
    obtain ⟨b, p1, p2⟩ := REncode_f (ys[i]'(by omega)).f1 (by omega) (k := k) (by omega)
    have za : a.size ≤ 300 := by
      have := enc_len (bytesOf (ys[i]'(by omega)).f0)
      rw [bytesOf_length] at this
      rw [bts_size, a2]; omega
    have zb : b.size ≤ 300 := by
      have := enc_len (bytesOf (ys[i]'(by omega)).f1)
      rw [bytesOf_length] at this
      rw [bts_size, p2]; omega
    have q61 : bytesOf (⟨#[61]⟩ : ByteArray) = [61] := rfl
    have sz : ∀ x y : ByteArray, (x ++ y).size = x.size + y.size := fun x y => ByteArray.size_append
    have z1 : (⟨#[63]⟩ : ByteArray).size = 1 := rfl
    have z2 : (⟨#[38]⟩ : ByteArray).size = 1 := rfl
    have z3 : (⟨#[61]⟩ : ByteArray).size = 1 := rfl
    rw [List.drop_eq_getElem_cons (by omega : i < ys.length), List.map_cons, flatQ'_cons]
    have hp : pairT (pg44 (ys[i]'(by omega))) = bytesOf a ++ 61 :: bytesOf b := by unfold pairT pg44; rw [a2, p2]
    by_cases h0 : i = 0
    · have step : larumref08_Target.l1 (k + 1) o ys (ys.length : Int) (i : Int) = larumref08_Target.l1 k ((((o ++ (⟨#[63]⟩ : ByteArray)) ++ a) ++ (⟨#[61]⟩ : ByteArray)) ++ b) ys (ys.length : Int) ((i + 1 : Nat) : Int) := by
        simp only [larumref08_Target.l1]
        rw [if_pos (by omega), if_pos (by omega), if_pos (by omega), if_pos (by omega), if_pos (by omega), rd44 ys i (by omega), a1]
        simp only [Option.bind_some]
        rw [if_pos (by simp only [sz, z1]; omega), if_pos (by simp only [sz, z1]; omega), p1]
        simp only [Option.bind_some]
        rw [if_pos (by simp only [sz, z1, z3]; omega), w64 (by omega), show (i : Int) + 1 = ((i + 1 : Nat) : Int) by omega]
      obtain ⟨t, t1, t2⟩ := ih (i + 1) k _ (by omega) (by omega) (show ((((o ++ (⟨#[63]⟩ : ByteArray)) ++ a) ++ (⟨#[61]⟩ : ByteArray)) ++ b).size ≤ _ by simp only [sz, z1, z3]; omega)
      refine ⟨t, by rw [step]; exact t1, ?_⟩
      have q63 : bytesOf (⟨#[63]⟩ : ByteArray) = [63] := rfl
      rw [t2, bts_append, bts_append, bts_append, bts_append, q61, q63, hp, if_pos h0]
      simp
    · have step : larumref08_Target.l1 (k + 1) o ys (ys.length : Int) (i : Int) = larumref08_Target.l1 k ((((o ++ (⟨#[38]⟩ : ByteArray)) ++ a) ++ (⟨#[61]⟩ : ByteArray)) ++ b) ys (ys.length : Int) ((i + 1 : Nat) : Int) := by
        simp only [larumref08_Target.l1]
        rw [if_pos (by omega), if_pos (by omega), if_pos (by omega), if_neg (by omega), if_pos (by omega), rd44 ys i (by omega), a1]
        simp only [Option.bind_some]
        rw [if_pos (by simp only [sz, z2]; omega), if_pos (by simp only [sz, z2]; omega), p1]
        simp only [Option.bind_some]
        rw [if_pos (by simp only [sz, z2, z3]; omega), w64 (by omega), show (i : Int) + 1 = ((i + 1 : Nat) : Int) by omega]
      obtain ⟨t, t1, t2⟩ := ih (i + 1) k _ (by omega) (by omega) (show ((((o ++ (⟨#[38]⟩ : ByteArray)) ++ a) ++ (⟨#[61]⟩ : ByteArray)) ++ b).size ≤ _ by simp only [sz, z2, z3]; omega)
      refine ⟨t, by rw [step]; exact t1, ?_⟩
      have q38 : bytesOf (⟨#[38]⟩ : ByteArray) = [38] := rfl
      rw [t2, bts_append, bts_append, bts_append, bts_append, q61, q38, hp, if_neg h0]
      simp
theorem RTarget_l0 (ys : List S44) (hy : ys.length ≤ 5) (hz : ∀ x ∈ ys, x.f0.size ≤ 100 ∧ x.f1.size ≤ 100) (xs : List ByteArray) (hx : xs.length ≤ 5) (hxz : ∀ x ∈ xs, x.size ≤ 100) : ∀ (f i k : Nat) (o : ByteArray), i + f = xs.length → f + 6000 ≤ k → o.size ≤ 310 * i → bytesOf o = flat47 ((xs.take i).map bytesOf) →
    ∃ t, larumref08_Target.l0 k ys o xs (xs.length : Int) (i : Int) = some t ∧ bytesOf t = targetL (xs.map bytesOf) (ys.map pg44) := by
  intro f
  induction f with
  | zero =>
    intro i k o hi hk ho hb
    obtain ⟨k, rfl⟩ : ∃ m, k = m + 2 := ⟨k - 2, by omega⟩
    rw [List.take_of_length_le (by omega)] at hb
    have hq := flatQ_join (ys.map pg44)
    by_cases hx0 : xs.map bytesOf = []
    · have he : bytesOf o = [] := by rw [hb, hx0]; rfl
      have step : larumref08_Target.l0 (k + 2) ys o xs (xs.length : Int) (i : Int) = larumref08_Target.l1 k ⟨#[47]⟩ ys (ys.length : Int) 0 := by
        simp only [larumref08_Target.l0, larumref08_Target.j1]
        rw [if_neg (by omega), if_pos ((tl_nil o).2 he)]
      obtain ⟨t, t1, t2⟩ := RTarget_l1 ys hy hz ys.length 0 k ⟨#[47]⟩ (by omega) (by omega) (by decide)
      refine ⟨t, by rw [step]; exact t1, ?_⟩
      rw [t2, List.drop_zero, hx0]
      unfold targetL flatQ'
      rw [if_pos rfl, hq]
      rfl
    · have he : bytesOf o ≠ [] := by rw [hb, flat_join _ hx0]; simp
      have step : larumref08_Target.l0 (k + 2) ys o xs (xs.length : Int) (i : Int) = larumref08_Target.l1 k o ys (ys.length : Int) 0 := by
        simp only [larumref08_Target.l0, larumref08_Target.j1]
        rw [if_neg (by omega), if_neg (fun h => he ((tl_nil o).1 h))]
      obtain ⟨t, t1, t2⟩ := RTarget_l1 ys hy hz ys.length 0 k o (by omega) (by omega) (by omega)
      refine ⟨t, by rw [step]; exact t1, ?_⟩
      rw [t2, List.drop_zero, hb, flat_join _ hx0]
      unfold targetL flatQ'
      rw [if_pos rfl, hq]
      simp
  | succ f ih =>
    intro i k o hi hk ho hb
    obtain ⟨k, rfl⟩ : ∃ m, k = m + 1 := ⟨k - 1, by omega⟩
    have hx' := hxz _ (List.getElem_mem (by omega : i < xs.length))
    obtain ⟨a, a1, a2⟩ := REncode_f (xs[i]'(by omega)) (by omega) (k := k) (by omega)
    have za : a.size ≤ 300 := by
      have := enc_len (bytesOf (xs[i]'(by omega)))
      rw [bytesOf_length] at this
      rw [bts_size, a2]; omega
    have s1 : (o ++ (⟨#[47]⟩ : ByteArray)).size = o.size + 1 := by rw [ByteArray.size_append]; rfl
    have step : larumref08_Target.l0 (k + 1) ys o xs (xs.length : Int) (i : Int) = larumref08_Target.l0 k ys ((o ++ (⟨#[47]⟩ : ByteArray)) ++ a) xs (xs.length : Int) ((i + 1 : Nat) : Int) := by
      simp only [larumref08_Target.l0]
      rw [if_pos (by omega), if_pos (by omega), if_pos (by omega), if_pos (by omega), rdOf_at xs i (by omega), a1]
      simp only [Option.bind_some]
      rw [if_pos (by omega), w64 (by omega), show (i : Int) + 1 = ((i + 1 : Nat) : Int) by omega]
    rw [step]
    refine ih (i + 1) k _ (by omega) (by omega) (by rw [ByteArray.size_append, s1]; omega) ?_
    have q47 : bytesOf (⟨#[47]⟩ : ByteArray) = [47] := rfl
    rw [bts_append, bts_append, hb, a2, q47, List.take_succ_eq_append_getElem (by omega : i < xs.length), List.map_append]
    unfold flat47
    rw [List.flatMap_append]
    simp
-- a name's values
def valsOf (xs : List S45) (nm : ByteArray) : List ByteArray := (xs.filter fun x => x.f0.toList == nm.toList).map (·.f1)
theorem Find_l0 (xs : List S45) (hx : xs.length ≤ 1000) (nm : ByteArray) : ∀ (f i k : Nat) (acc : List ByteArray), i + f = xs.length → f < k → acc.length ≤ i → pct_Find.l0 k nm acc xs (xs.length : Int) (i : Int) = some (acc ++ valsOf (xs.drop i) nm) := by
  intro f
  induction f with
  | zero =>
    intro i k acc hi hk ha
    obtain ⟨k, rfl⟩ : ∃ m, k = m + 1 := ⟨k - 1, by omega⟩
    simp only [pct_Find.l0]
    rw [if_neg (by omega), List.drop_of_length_le (by omega)]
    simp [valsOf]
  | succ f ih =>
    intro i k acc hi hk ha
    obtain ⟨k, rfl⟩ : ∃ m, k = m + 1 := ⟨k - 1, by omega⟩
    simp only [pct_Find.l0]
    rw [if_pos (by omega), if_pos (by omega), if_pos (by omega), rd45 xs i (by omega), w64 (by omega), show (i : Int) + 1 = ((i + 1 : Nat) : Int) by omega, List.drop_eq_getElem_cons (by omega : i < xs.length)]
    generalize xs[i]'(by omega) = x
    by_cases h : x.f0.toList = nm.toList
    · rw [if_pos h, if_pos (by omega), ih (i + 1) k _ (by omega) (by omega) (by simp; omega)]
      simp [valsOf, h]
    · rw [if_neg h, ih (i + 1) k _ (by omega) (by omega) (by omega)]
      simp [valsOf, h]
theorem Find_f (xs : List S45) (hx : xs.length ≤ 1000) (nm : ByteArray) {k : Nat} (hk : xs.length < k) : pct_Find.f k xs nm = some (valsOf xs nm) := by
  unfold pct_Find.f
  have := Find_l0 xs hx nm xs.length 0 k [] (by omega) hk (by simp)
  rw [List.drop_zero, List.nil_append] at this
  exact this
def c45 (y : S44) : S45 := ⟨y.f0, y.f1⟩
theorem vals_take (ys : List S44) (nm : ByteArray) (i : Nat) (hi : i < ys.length) : valsOf ((ys.take (i + 1)).map c45) nm = valsOf ((ys.take i).map c45) nm ++ (if (ys[i].f0.toList == nm.toList) = true then [ys[i].f1] else []) := by
  rw [List.take_succ_eq_append_getElem hi, List.map_append]
  unfold valsOf
  rw [List.filter_append, List.map_append]
  congr 1
  by_cases h : (ys[i].f0.toList == nm.toList) = true
  · rw [if_pos h]
    have h' : ((c45 ys[i]).f0.toList == nm.toList) = true := h
    simp only [List.map_cons, List.map_nil, List.filter_cons, h', if_true, List.filter_nil]
    rfl
  · rw [if_neg h]
    have h' : ¬ ((c45 ys[i]).f0.toList == nm.toList) = true := h
    simp only [List.map_cons, List.map_nil, List.filter_cons, if_neg h', List.filter_nil]
theorem vals_all (ys : List S44) (nm : ByteArray) (i : Nat) : ∃ r, valsOf (ys.map c45) nm = valsOf ((ys.take i).map c45) nm ++ r := by
  refine ⟨valsOf ((ys.drop i).map c45) nm, ?_⟩
  conv => lhs; rw [← List.take_append_drop i ys]
  unfold valsOf
  rw [List.map_append, List.filter_append, List.map_append]
-- the law's loops
theorem l4_ok {a b : List ByteArray} (h : a.map bytesOf = b.map bytesOf) (hb : b.length ≤ 1000) : ∀ (f i k : Nat), i + f = b.length → f + 300 ≤ k → larumlaw08_PctTarget.l4 k b a (b.length : Int) (i : Int) = some true := by
  have hl : a.length = b.length := by have := congrArg List.length h; simpa using this
  intro f
  induction f with
  | zero =>
    intro i k hi hk
    obtain ⟨k, rfl⟩ : ∃ m, k = m + 1 := ⟨k - 1, by omega⟩
    simp only [larumlaw08_PctTarget.l4]
    rw [if_neg (by omega), awake_at (by omega)]
    rfl
  | succ f ih =>
    intro i k hi hk
    obtain ⟨k, rfl⟩ : ∃ m, k = m + 1 := ⟨k - 1, by omega⟩
    have e : bytesOf (a[i]'(by omega)) = bytesOf (b[i]'(by omega)) := by
      have h1 : (a.map bytesOf)[i]? = (b.map bytesOf)[i]? := by rw [h]
      rw [List.getElem?_map, List.getElem?_map, List.getElem?_eq_getElem (by omega), List.getElem?_eq_getElem (by omega)] at h1
      simpa using h1
    have e1 := (tl_iff _ _).2 e
    simp only [larumlaw08_PctTarget.l4]
    rw [if_pos (by omega), if_pos (by omega), if_pos (by omega), if_pos (by omega), rdOf_at a i (by omega), rdOf_at b i (by omega), if_pos e1, w64 (by omega), show ((i : Int) + 1) = ((i + 1 : Nat) : Int) by omega]
    exact ih (i + 1) k (by omega) (by omega)
def partsOf (x5 x13 : List ByteArray) : Prop := x13.map bytesOf = if x5.map bytesOf = [] then [[]] else x5.map bytesOf
theorem l2_end (x5 x13 : List ByteArray) (x6 : List S45) (x7 : List S44) (h5 : x5.length ≤ 5) (h7 : x7.length ≤ 5) (hp : partsOf x5 x13) {k : Nat} (hk : 500 ≤ k) : larumlaw08_PctTarget.l2 k x5 x6 x7 x13 x7 (x7.length : Int) (x7.length : Int) = some true := by
  obtain ⟨k, rfl⟩ : ∃ m, k = m + 1 := ⟨k - 1, by omega⟩
  simp only [larumlaw08_PctTarget.l2]
  rw [if_neg (by omega)]
  unfold partsOf at hp
  by_cases h : x5.map bytesOf = []
  · have h0 : x5.length = 0 := by have := congrArg List.length h; simpa using this
    rw [if_pos h] at hp
    have h1 : x13.length = 1 := by have := congrArg List.length hp; simpa using this
    have e : bytesOf (x13[0]'(by omega)) = [] := by
      have h2 : (x13.map bytesOf)[0]? = some [] := by rw [hp]; rfl
      rw [List.getElem?_map, List.getElem?_eq_getElem (by omega)] at h2
      simpa using h2
    have e2 : rdOf ByteArray.empty x13 0 = x13[0]'(by omega) := rdOf_at x13 0 (by omega)
    rw [if_pos (by omega), if_pos (by omega), if_pos (by omega), e2, if_pos ((tl_nil _).2 e), awake_at (by omega)]
    rfl
  · rw [if_neg h] at hp
    have hl : x13.length = x5.length := by have := congrArg List.length hp; simpa using this
    have h0 : x5.length ≠ 0 := fun hh => h (by rw [List.eq_nil_of_length_eq_zero hh]; rfl)
    rw [if_neg (by omega), if_pos (by omega)]
    exact l4_ok hp (by omega) x5.length 0 k (by omega) (by omega)
theorem l3_ok (x5 x13 : List ByteArray) (x7 : List S44) (h7 : x7.length ≤ 5) (i : Nat) (hi : i < x7.length) (b : Nat) (hb : 100 ≤ b)
    (hnext : ∀ k, b ≤ k → larumlaw08_PctTarget.l2 k x5 (x7.map c45) x7 x13 x7 (x7.length : Int) ((i + 1 : Nat) : Int) = some true) (nm vv : ByteArray) :
    ∀ (f j k n : Nat), j + f = x7.length → b + f + 1 ≤ k → n = (valsOf ((x7.take j).map c45) nm).length →
      larumlaw08_PctTarget.l3 k x5 (x7.map c45) x7 x13 (n : Int) x7 (x7.length : Int) (i : Int) x7 (x7.length : Int) (j : Int) nm vv = some true := by
  have hl : (x7.map c45).length = x7.length := List.length_map _
  have vle : ∀ j, (valsOf ((x7.take j).map c45) nm).length ≤ j := by
    intro j
    unfold valsOf
    rw [List.length_map]
    refine Nat.le_trans (List.length_filter_le _ _) ?_
    rw [List.length_map, List.length_take]
    omega
  intro f
  induction f with
  | zero =>
    intro j k n hj hk hn
    obtain ⟨k, rfl⟩ : ∃ m, k = m + 1 := ⟨k - 1, by omega⟩
    rw [List.take_of_length_le (by omega)] at hn
    simp only [larumlaw08_PctTarget.l3]
    rw [if_neg (by omega), Find_f (x7.map c45) (by omega) nm (by omega)]
    simp only [Option.bind_some]
    rw [if_pos (by omega), w64 (by omega), show ((i : Int) + 1) = ((i + 1 : Nat) : Int) by omega]
    exact hnext k (by omega)
  | succ f ih =>
    intro j k n hj hk hn
    obtain ⟨k, rfl⟩ : ∃ m, k = m + 1 := ⟨k - 1, by omega⟩
    have hv := vals_take x7 nm j (by omega)
    have hlj := vle j
    simp only [larumlaw08_PctTarget.l3]
    rw [if_pos (by omega), if_pos (by omega), if_pos (by omega), rd44 x7 j (by omega)]
    by_cases h : (x7[j]'(by omega)).f0.toList = nm.toList
    · rw [if_pos (by simpa using h)] at hv
      obtain ⟨r, hr⟩ := vals_all x7 nm (j + 1)
      rw [hv] at hr
      have hlen := congrArg List.length hr
      simp only [List.length_append, List.length_cons, List.length_nil] at hlen
      have hget : (valsOf (x7.map c45) nm)[n]? = some (x7[j]'(by omega)).f1 := by
        rw [hr, hn, List.append_assoc, List.getElem?_append_right (by omega), Nat.sub_self]
        rfl
      have hlt : n < (valsOf (x7.map c45) nm).length := by omega
      have hg2 : (valsOf (x7.map c45) nm)[n]'hlt = (x7[j]'(by omega)).f1 := by
        rw [List.getElem?_eq_getElem hlt] at hget
        exact Option.some.inj hget
      rw [if_pos h, Find_f (x7.map c45) (by omega) nm (by omega)]
      simp only [Option.bind_some]
      rw [if_neg (by omega), if_pos (by omega), if_pos (by omega), rdOf_at _ n hlt, hg2, if_pos rfl, w64 (by omega), w64 (by omega), show ((n : Int) + 1) = ((n + 1 : Nat) : Int) by omega, show ((j : Int) + 1) = ((j + 1 : Nat) : Int) by omega]
      exact ih (j + 1) k (n + 1) (by omega) (by omega) (by rw [hv, List.length_append, ← hn]; rfl)
    · rw [if_neg (by simpa using h), List.append_nil] at hv
      rw [if_neg h, w64 (by omega), show ((j : Int) + 1) = ((j + 1 : Nat) : Int) by omega]
      exact ih (j + 1) k n (by omega) (by omega) (by rw [hv, ← hn])
theorem l2_ok (x5 x13 : List ByteArray) (x7 : List S44) (h5 : x5.length ≤ 5) (h7 : x7.length ≤ 5) (hp : partsOf x5 x13) : ∀ (f i k : Nat), i + f = x7.length → 10 * f + 600 ≤ k → larumlaw08_PctTarget.l2 k x5 (x7.map c45) x7 x13 x7 (x7.length : Int) (i : Int) = some true := by
  intro f
  induction f with
  | zero =>
    intro i k hi hk
    have : i = x7.length := by omega
    subst this
    exact l2_end x5 x13 _ x7 h5 h7 hp (by omega)
  | succ f ih =>
    intro i k hi hk
    obtain ⟨k, rfl⟩ : ∃ m, k = m + 1 := ⟨k - 1, by omega⟩
    simp only [larumlaw08_PctTarget.l2]
    rw [if_pos (by omega), if_pos (by omega), if_pos (by omega)]
    exact l3_ok x5 x13 x7 h7 i (by omega) (10 * f + 600) (by omega) (fun k hk => ih (i + 1) k (by omega) hk) _ _ x7.length 0 k 0 (by omega) (by omega) rfl
theorem l1_end (x5 : List ByteArray) (x7 : List S44) (h5 : x5.length ≤ 5) (z5 : ∀ x ∈ x5, x.size ≤ 100) (h7 : x7.length ≤ 5) (z7 : ∀ x ∈ x7, x.f0.size ≤ 100 ∧ x.f1.size ≤ 100) (x37 : List S44) (i : Int) (hi : ¬ i < (x37.length : Int)) {k : Nat} (hk : 900000 ≤ k) :
    larumlaw08_PctTarget.l1 k x5 (x7.map c45) x7 x37 (x37.length : Int) i = some true := by
  obtain ⟨k, rfl⟩ : ∃ m, k = m + 2 := ⟨k - 2, by omega⟩
  have hl : (x7.map c45).length = x7.length := List.length_map _
  have e6 : (x7.map c45).map pg = x7.map pg44 := by rw [List.map_map]; rfl
  obtain ⟨t, t1, t2⟩ := Target_l0 (x7.map c45) x5 (by omega) (by
    intro x hx
    obtain ⟨y, hy, rfl⟩ := List.mem_map.1 hx
    exact z7 y hy) h5 z5 x5.length 0 (k + 1) [] (by omega) (by omega) rfl
  obtain ⟨u, u1, u2⟩ := RTarget_l0 x7 h7 z7 x5 h5 z5 x5.length 0 (k + 1) (⟨#[]⟩ : ByteArray) (by omega) (by omega) (by decide) rfl
  rw [e6] at t2
  have etu : t = u := ext_bts (t2.trans u2.symm)
  subst etu
  have f1 : pct_Target.f (k + 1) x5 (x7.map c45) = some t := t1
  have f2 : larumref08_Target.f (k + 1) x5 x7 = some t := u1
  have tz : t.size ≤ 9000 := by
    rw [bts_size, t2]
    unfold targetL
    have b5 := join_len 47 300 ((x5.map bytesOf).map encL) (by
      intro x hx
      obtain ⟨y, hy, rfl⟩ := List.mem_map.1 hx
      obtain ⟨z, hz, rfl⟩ := List.mem_map.1 hy
      have := z5 z hz
      have e1 := enc_len (bytesOf z)
      rw [bytesOf_length] at e1
      omega)
    rw [List.length_map, List.length_map] at b5
    have b5' : 301 * x5.length ≤ 301 * 5 := Nat.mul_le_mul_left _ h5
    have b6 := join_len 38 601 ((x7.map pg44).map pairT) (by
      intro x hx
      obtain ⟨y, hy, rfl⟩ := List.mem_map.1 hx
      obtain ⟨z, hz, rfl⟩ := List.mem_map.1 hy
      have := z7 z hz
      have e1 := enc_len (bytesOf z.f0)
      have e2 := enc_len (bytesOf z.f1)
      rw [bytesOf_length] at e1 e2
      unfold pairT pg44
      simp only [List.length_append, List.length_cons]
      omega)
    rw [List.length_map, List.length_map] at b6
    have b6' : 602 * x7.length ≤ 602 * 5 := Nat.mul_le_mul_left _ h7
    split <;> simp only [List.length_cons, List.length_append, List.length_nil] <;> omega
  have hs := PSplit_f t tz (k := k + 1) (by omega)
  rw [t2, split_target (x5.map bytesOf) (x7.map pg44) (by
      intro p hp
      obtain ⟨y, _, rfl⟩ := List.mem_map.1 hp
      exact bts_byt y) (by
      intro q hq
      obtain ⟨y, _, rfl⟩ := List.mem_map.1 hq
      exact ⟨bts_byt _, bts_byt _⟩)] at hs
  obtain ⟨a, b, s1, s2, s3⟩ := hs
  simp only [larumlaw08_PctTarget.l1]
  rw [if_neg hi, f1]
  simp only [Option.bind_some]
  rw [f2]
  simp only [Option.bind_some]
  rw [if_pos trivial, s1]
  simp only [Option.bind_some]
  rw [if_pos trivial, same_f s3 (by omega) (by omega)]
  simp only [Option.bind_some]
  simp only [larumlaw08_PctTarget.j2]
  rw [if_neg (by simp)]
  exact l2_ok x5 a x7 h5 h7 s2 x7.length 0 k (by omega) (by omega)
theorem l1_ok (x5 : List ByteArray) (h5 : x5.length ≤ 5) (z5 : ∀ x ∈ x5, x.size ≤ 100) (ys : List S44) (hy : ys.length ≤ 9223372036854775807) : ∀ (f i k : Nat) (x7 : List S44), i + f = ys.length → f + 900000 ≤ k → x7.length = min i 5 → (∀ x ∈ x7, x.f0.size ≤ 100 ∧ x.f1.size ≤ 100) →
    larumlaw08_PctTarget.l1 k x5 (x7.map c45) x7 ys (ys.length : Int) (i : Int) = some true := by
  intro f
  induction f with
  | zero =>
    intro i k x7 hi hk h7 z7
    exact l1_end x5 x7 h5 z5 (by omega) z7 ys _ (by omega) (by omega)
  | succ f ih =>
    intro i k x7 hi hk h7 z7
    obtain ⟨k, rfl⟩ : ∃ m, k = m + 1 := ⟨k - 1, by omega⟩
    have hl : (x7.map c45).length = x7.length := List.length_map _
    by_cases h5i : i < 5
    · obtain ⟨a, a1, a2⟩ := short_eq (ys[i]'(by omega)).f0
      obtain ⟨b, b1, b2⟩ := short_eq (ys[i]'(by omega)).f1
      have step : larumlaw08_PctTarget.l1 (k + 1) x5 (x7.map c45) x7 ys (ys.length : Int) (i : Int) = larumlaw08_PctTarget.l1 k x5 ((x7 ++ [(⟨a, b⟩ : S44)]).map c45) (x7 ++ [(⟨a, b⟩ : S44)]) ys (ys.length : Int) ((i + 1 : Nat) : Int) := by
        simp only [larumlaw08_PctTarget.l1]
        rw [if_pos (by omega), if_pos (by omega), if_pos (by omega), if_pos (by omega), rd44 ys i (by omega), a1]
        simp only [Option.bind_some]
        rw [b1]
        simp only [Option.bind_some]
        rw [if_pos (by omega), if_pos (by omega), w64 (by omega), show ((i : Int) + 1) = ((i + 1 : Nat) : Int) by omega, List.map_append]
        rfl
      rw [step]
      refine ih (i + 1) k _ (by omega) (by omega) (by rw [List.length_append, List.length_singleton]; omega) ?_
      intro x hx
      rcases List.mem_append.1 hx with hx | hx
      · exact z7 x hx
      · rw [List.mem_singleton.1 hx]; exact ⟨a2, b2⟩
    · have step : larumlaw08_PctTarget.l1 (k + 1) x5 (x7.map c45) x7 ys (ys.length : Int) (i : Int) = larumlaw08_PctTarget.l1 k x5 (x7.map c45) x7 ys (ys.length : Int) ((i + 1 : Nat) : Int) := by
        simp only [larumlaw08_PctTarget.l1]
        rw [if_pos (by omega), if_pos (by omega), if_pos (by omega), if_neg (by omega), w64 (by omega), show ((i : Int) + 1) = ((i + 1 : Nat) : Int) by omega]
      rw [step]
      exact ih (i + 1) k x7 (by omega) (by omega) (by omega) z7
theorem l0_ok (xs : List ByteArray) (hx : xs.length ≤ 9223372036854775807) (ys : List S44) (hy : ys.length ≤ 9223372036854775807) : ∀ (f i k : Nat) (x5 : List ByteArray), i + f = xs.length → f + ys.length + 900001 ≤ k → x5.length = min i 5 → (∀ x ∈ x5, x.size ≤ 100) →
    larumlaw08_PctTarget.l0 k ys x5 xs (xs.length : Int) (i : Int) = some true := by
  intro f
  induction f with
  | zero =>
    intro i k x5 hi hk h5 z5
    obtain ⟨k, rfl⟩ : ∃ m, k = m + 1 := ⟨k - 1, by omega⟩
    simp only [larumlaw08_PctTarget.l0]
    rw [if_neg (by omega)]
    exact l1_ok x5 (by omega) z5 ys hy ys.length 0 k [] (by omega) (by omega) (by simp) (by simp)
  | succ f ih =>
    intro i k x5 hi hk h5 z5
    obtain ⟨k, rfl⟩ : ∃ m, k = m + 1 := ⟨k - 1, by omega⟩
    by_cases h5i : i < 5
    · obtain ⟨a, a1, a2⟩ := short_eq (xs[i]'(by omega))
      have step : larumlaw08_PctTarget.l0 (k + 1) ys x5 xs (xs.length : Int) (i : Int) = larumlaw08_PctTarget.l0 k ys (x5 ++ [a]) xs (xs.length : Int) ((i + 1 : Nat) : Int) := by
        simp only [larumlaw08_PctTarget.l0]
        rw [if_pos (by omega), if_pos (by omega), if_pos (by omega), if_pos (by omega), rdOf_at xs i (by omega), a1]
        simp only [Option.bind_some]
        rw [if_pos (by omega), w64 (by omega), show ((i : Int) + 1) = ((i + 1 : Nat) : Int) by omega]
      rw [step]
      refine ih (i + 1) k _ (by omega) (by omega) (by rw [List.length_append, List.length_singleton]; omega) ?_
      intro x hx
      rcases List.mem_append.1 hx with hx | hx
      · exact z5 x hx
      · rw [List.mem_singleton.1 hx]; exact a2
    · have step : larumlaw08_PctTarget.l0 (k + 1) ys x5 xs (xs.length : Int) (i : Int) = larumlaw08_PctTarget.l0 k ys x5 xs (xs.length : Int) ((i + 1 : Nat) : Int) := by
        simp only [larumlaw08_PctTarget.l0]
        rw [if_pos (by omega), if_pos (by omega), if_pos (by omega), if_neg (by omega), w64 (by omega), show ((i : Int) + 1) = ((i + 1 : Nat) : Int) by omega]
      rw [step]
      exact ih (i + 1) k x5 (by omega) (by omega) (by omega) z5
theorem PctTarget : larumlaw08_PctTarget.Pure := by
  intro xs ys hx _ hy _
  exact ⟨xs.length + ys.length + 900001, l0_ok xs hx ys hy xs.length 0 _ [] (by omega) (by omega) (by simp) (by simp)⟩
end Go.Proofs.YteladeppgedomaaDoor.Pure
