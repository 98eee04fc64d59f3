/- Bytes in quotes are as the chapter says, and read as they were, whatever stands behind them: for any two texts. No condition. -/
import Derived.Test.YtmdfgndndfggeaaPDeskQuotesx9
namespace Go.Proofs.Ytmdfgndndfggeaa.Pure
open Go Go.RowKit Go.Proofs.Ytmdfgndndfggeaa.PDeskQuotes Go.Proofs.Ytmdfgndndfggeaa.Gp Go.Proofs.YtmdfgndndfggeaaW Go.Proofs.YtmdfgndndfggeaaW.PrintWords Go.Proofs.YtmdfgndndfggeaaW.PrintLast Go.Proofs.YtmdfgndndfggeaaW.PrintMore
set_option linter.unusedVariables false
set_option linter.unusedSimpArgs false
-- strings as lists of numbers
def Byt (l : List Int) : Prop := ∀ x ∈ l, 0 ≤ x ∧ x ≤ 255
theorem Byt.rd {l : List Int} (h : Byt l) (i : Int) : 0 ≤ PrintWords.rd l i ∧ PrintWords.rd l i ≤ 255 := by
  unfold PrintWords.rd
  rw [List.getD_eq_getElem?_getD]
  by_cases hi : i.toNat < l.length
  · rw [List.getElem?_eq_getElem hi]; exact h _ (List.getElem_mem hi)
  · rw [List.getElem?_eq_none (by omega)]; decide
theorem Byt.take {l : List Int} (h : Byt l) (n : Nat) : Byt (l.take n) := fun x hx => h x (List.mem_of_mem_take hx)
theorem Byt.drop {l : List Int} (h : Byt l) (n : Nat) : Byt (l.drop n) := fun x hx => h x (List.mem_of_mem_drop hx)
theorem w64 {x : Int} (h : -9223372036854775808 ≤ x ∧ x ≤ 9223372036854775807) : wrap64 x = x := by unfold wrap64; omega
theorem u64w (x : Int) : IntKind.u64.wrap x = x % 18446744073709551616 := by simp [IntKind.wrap, IntKind.bits, IntKind.signed]
theorem wu64 {x : Int} (h : 0 ≤ x ∧ x ≤ 18446744073709551615) : IntKind.u64.wrap x = x := by rw [u64w]; omega
theorem bts_byt (s : ByteArray) : Byt (bytesOf s) := by
  intro x hx
  simp only [bytesOf, List.mem_map] at hx
  obtain ⟨b, _, rfl⟩ := hx
  have := b.toNat_lt
  omega
theorem bts_len (s : ByteArray) : ((bytesOf s).length : Int) = (s.size : Int) := by rw [bytesOf_length]
theorem bt_rd (s : ByteArray) (i : Int) : bt s i = rd (bytesOf s) i := (rd_bytesOf s i).symm
theorem tl (s : ByteArray) : s.toList = s.data.toList := ByteArray.toList_eq s
theorem u8_map_inj : ∀ {a b : List UInt8}, a.map (fun x => (x.toNat : Int)) = b.map (fun x => (x.toNat : Int)) → a = b
  | [], [], _ => rfl
  | [], _ :: _, h => by simp at h
  | _ :: _, [], h => by simp at h
  | x :: a, y :: b, h => by
    simp only [List.map_cons, List.cons.injEq] at h
    rw [u8_map_inj h.2, UInt8.toNat_inj.1 (by omega : x.toNat = y.toNat)]
theorem tl_iff (s t : ByteArray) : s.toList = t.toList ↔ bytesOf s = bytesOf t := by
  rw [tl, tl]
  exact ⟨fun h => by unfold bytesOf; rw [h], fun h => u8_map_inj h⟩
theorem tl_nil (s : ByteArray) : s.toList = ([] : List UInt8) ↔ bytesOf s = [] := by
  rw [tl]
  unfold bytesOf
  rw [List.map_eq_nil_iff]
theorem bts_extract (s : ByteArray) (a b : Nat) : bytesOf (s.extract a b) = ((bytesOf s).take b).drop a := by
  unfold bytesOf
  rw [List.drop_take, ← List.map_drop, ← List.map_take]
  congr 1
  simp [List.drop_take]
theorem bts_extract_to (s : ByteArray) (a : Nat) : bytesOf (s.extract a s.size) = (bytesOf s).drop a := by
  rw [bts_extract, List.take_of_length_le (by rw [bytesOf_length]; omega)]
theorem bts_append (s t : ByteArray) : bytesOf (s ++ t) = bytesOf s ++ bytesOf t := by
  unfold bytesOf
  rw [← List.map_append]
  congr 1
theorem bts_size (s : ByteArray) : s.size = (bytesOf s).length := (bytesOf_length s).symm
theorem drop_rd {l : List Int} {i : Nat} (h : i < l.length) : l.drop i = rd l (i : Int) :: l.drop (i + 1) := by
  rw [List.drop_eq_getElem_cons h]
  unfold rd
  simp [List.getD_eq_getElem?_getD, List.getElem?_eq_getElem h]
theorem rd_cons_zero (a : Int) (l : List Int) : rd (a :: l) 0 = a := rfl
-- a string made of numbers
theorem bts_son {xs : List Int} (h : Byt xs) : bytesOf (strOfNums xs) = xs := by
  unfold bytesOf
  rw [strOfNums_data, List.map_map]
  conv => rhs; rw [← List.map_id xs]
  apply List.map_congr_left
  intro x hx
  have := h x hx
  simp only [Function.comp, id]
  have e : (UInt8.ofNat x.toNat).toNat = x.toNat := by
    rw [UInt8.toNat_ofNat']
    omega
  rw [e]; omega
theorem bts_tl_iff {s t : ByteArray} : s.toList = t.toList ↔ bytesOf s = bytesOf t := tl_iff s t
theorem ext_bts {s t : ByteArray} (h : bytesOf s = bytesOf t) : s = t := by
  have := (tl_iff s t).2 h
  rw [tl, tl] at this
  cases s with | mk a => cases t with | mk b => simp at this; rw [this]
-- quoting and reading of quotes, as lists of numbers
def hx (c : Int) : Int := if 48 ≤ c ∧ c ≤ 57 then c - 48 else if 97 ≤ c ∧ c ≤ 102 then c - 87 else -1
def hxs (d : Int) : Int := if d < 10 then 48 + d else 87 + d
def q1 (c : Int) : List Int := if c < 32 ∨ c > 126 then [92, 120, hxs (c / 16), hxs (c % 16)] else if c = 34 ∨ c = 92 then [92, c] else [c]
def escT (d : Int) : List Int → Int × Int
  | a :: b :: _ => if d ≠ 120 ∨ hx a < 0 ∨ hx b < 0 then (0, 0) else if 32 ≤ 16 * hx a + hx b ∧ 16 * hx a + hx b ≤ 126 then (0, 0) else (16 * hx a + hx b, 3)
  | _ => (0, 0)
def escD : List Int → Int × Int
  | [] => (0, 0)
  | d :: l => if d = 34 ∨ d = 92 then (d, 1) else escT d l
theorem escD_cons (d : Int) (l : List Int) : escD (d :: l) = if d = 34 ∨ d = 92 then (d, 1) else escT d l := rfl
theorem escT_cons (d a b : Int) (l : List Int) : escT d (a :: b :: l) = if d ≠ 120 ∨ hx a < 0 ∨ hx b < 0 then (0, 0) else if 32 ≤ 16 * hx a + hx b ∧ 16 * hx a + hx b ≤ 126 then (0, 0) else (16 * hx a + hx b, 3) := rfl
def unitD (c : Int) (l : List Int) : Int × Int := if c < 32 ∨ c > 126 ∨ c = 34 then (0, 0) else if c ≠ 92 then (c, 1) else if (escD l).2 = 0 then (0, 0) else ((escD l).1, (escD l).2 + 1)
def readL : Nat → List Int → Int → List Int → List Int × Int × Bool
  | 0, _, _, _ => ([], 0, false)
  | _ + 1, _, _, [] => ([], 0, false)
  | f + 1, out, i, c :: l => if c = 34 then (out, i + 1, true) else if (unitD c l).2 = 0 then ([], 0, false) else readL f (out ++ [(unitD c l).1]) (i + (unitD c l).2) (l.drop ((unitD c l).2 - 1).toNat)
def readQ : List Int → List Int × Int × Bool
  | [] => ([], 0, false)
  | c :: l => if c ≠ 34 then ([], 0, false) else readL (l.length + 1) [] 1 l
theorem hx_range {c : Int} (h : 0 ≤ hx c) : hx c ≤ 15 ∧ hxs (hx c) = c := by
  unfold hx hxs at *
  by_cases c1 : 48 ≤ c ∧ c ≤ 57
  · rw [if_pos c1] at *; rw [if_pos (by omega)]; omega
  rw [if_neg c1] at *
  by_cases c2 : 97 ≤ c ∧ c ≤ 102
  · rw [if_pos c2] at *; rw [if_neg (by omega)]; omega
  rw [if_neg c2] at h
  omega
theorem hx_low (c : Int) : -1 ≤ hx c := by
  unfold hx
  split
  · omega
  split <;> omega
theorem hx_hxs {d : Int} (h : 0 ≤ d ∧ d ≤ 15) : hx (hxs d) = d := by
  unfold hx hxs
  by_cases c1 : d < 10
  · rw [if_pos c1, if_pos (by omega)]; omega
  · rw [if_neg c1, if_neg (by omega), if_pos (by omega)]; omega
theorem escT_byt (d : Int) (l : List Int) : 0 ≤ (escT d l).1 ∧ (escT d l).1 ≤ 255 ∧ ((escT d l).2 = 0 ∨ (escT d l).2 = 3 ∧ 2 ≤ l.length) := by
  match l with
  | [] => exact ⟨by show (0 : Int) ≤ 0; decide, by show (0 : Int) ≤ 255; decide, .inl rfl⟩
  | [a] => exact ⟨by show (0 : Int) ≤ 0; decide, by show (0 : Int) ≤ 255; decide, .inl rfl⟩
  | a :: b :: r =>
    rw [escT_cons]
    by_cases c2 : d ≠ 120 ∨ hx a < 0 ∨ hx b < 0
    · rw [if_pos c2]; simp
    rw [if_neg c2]
    have ha := hx_range (c := a) (by omega)
    have hb := hx_range (c := b) (by omega)
    by_cases c3 : 32 ≤ 16 * hx a + hx b ∧ 16 * hx a + hx b ≤ 126
    · rw [if_pos c3]; simp
    rw [if_neg c3]
    refine ⟨?_, ?_, .inr ⟨rfl, by simp⟩⟩ <;> dsimp only <;> omega
theorem escD_byt {l : List Int} (h : Byt l) : 0 ≤ (escD l).1 ∧ (escD l).1 ≤ 255 ∧ ((escD l).2 = 0 ∨ (escD l).2 = 1 ∧ 1 ≤ l.length ∨ (escD l).2 = 3 ∧ 3 ≤ l.length) := by
  match l with
  | [] => exact ⟨by decide, by decide, .inl rfl⟩
  | d :: r =>
    have hd := h d (by simp)
    rw [escD_cons]
    by_cases c : d = 34 ∨ d = 92
    · rw [if_pos c]
      exact ⟨hd.1, hd.2, .inr (.inl ⟨rfl, by simp⟩)⟩
    · rw [if_neg c]
      have := escT_byt d r
      simp only [List.length_cons]
      omega
theorem unitD_byt {c : Int} {l : List Int} (h : Byt l) : 0 ≤ (unitD c l).1 ∧ (unitD c l).1 ≤ 255 ∧ 0 ≤ (unitD c l).2 ∧ (unitD c l).2 ≤ l.length + 1 := by
  unfold unitD
  by_cases c1 : c < 32 ∨ c > 126 ∨ c = 34
  · rw [if_pos c1]; dsimp only; omega
  rw [if_neg c1]
  by_cases c2 : c ≠ 92
  · rw [if_pos c2]; dsimp only; omega
  rw [if_neg c2]
  have := escD_byt h
  by_cases c3 : (escD l).2 = 0
  · rw [if_pos c3]; dsimp only; omega
  rw [if_neg c3]
  dsimp only
  omega
theorem q1_unit {x : Int} (h : 0 ≤ x ∧ x ≤ 255) (rest : List Int) : ∃ c l, q1 x ++ rest = c :: l ∧ c ≠ 34 ∧ (unitD c l).1 = x ∧ (unitD c l).2 = (q1 x).length ∧ l.drop ((unitD c l).2 - 1).toNat = rest := by
  unfold q1
  by_cases c1 : x < 32 ∨ x > 126
  · rw [if_pos c1]
    have e1 := hx_hxs (d := x / 16) (by omega)
    have e2 := hx_hxs (d := x % 16) (by omega)
    have ee : escD (120 :: hxs (x / 16) :: hxs (x % 16) :: rest) = (x, 3) := by
      rw [escD_cons, if_neg (by decide), escT_cons, e1, e2, if_neg (by omega), if_neg (by omega), show 16 * (x / 16) + x % 16 = x by omega]
    have eu : unitD 92 (120 :: hxs (x / 16) :: hxs (x % 16) :: rest) = (x, 4) := by
      unfold unitD
      rw [if_neg (by decide), if_neg (by decide), ee, if_neg (show ¬ (3 : Int) = 0 by decide)]
      rfl
    exact ⟨92, 120 :: hxs (x / 16) :: hxs (x % 16) :: rest, rfl, by decide, by rw [eu], by rw [eu]; rfl, by rw [eu]; rfl⟩
  rw [if_neg c1]
  by_cases c2 : x = 34 ∨ x = 92
  · rw [if_pos c2]
    have eu : unitD 92 (x :: rest) = (x, 2) := by
      unfold unitD
      rw [if_neg (by decide), if_neg (by decide), escD_cons, if_pos c2, if_neg (by simp)]
      rfl
    exact ⟨92, x :: rest, rfl, by decide, by rw [eu], by rw [eu]; rfl, by rw [eu]; rfl⟩
  · rw [if_neg c2]
    have eu : unitD x rest = (x, 1) := by
      unfold unitD
      rw [if_neg (by omega), if_pos (by omega)]
    exact ⟨x, rest, rfl, by omega, by rw [eu], by rw [eu]; rfl, by rw [eu]; rfl⟩
theorem readL_quoted : ∀ (xs : List Int) (f : Nat) (out : List Int) (i : Int) (more : List Int), Byt xs → xs.length < f → readL f out i (xs.flatMap q1 ++ 34 :: more) = (out ++ xs, i + ((xs.flatMap q1).length : Int) + 1, true)
  | [], f + 1, out, i, more, _, _ => by
    simp [readL]
  | x :: xs, f + 1, out, i, more, hb, hf => by
    obtain ⟨c, l, e, h1, h2, h3, h4⟩ := q1_unit (hb x (by simp)) (xs.flatMap q1 ++ 34 :: more)
    have hl : (q1 x).length ≠ 0 := by unfold q1; split; simp; split <;> simp
    rw [List.flatMap_cons, List.append_assoc, e, readL, if_neg h1, if_neg (by omega), h4, h2, readL_quoted xs f _ _ _ (fun y hy => hb y (by simp [hy])) (by simp at hf; omega)]
    simp only [List.append_assoc, List.length_append, List.cons_append, List.nil_append, h3, Prod.mk.injEq, and_true, true_and]
    omega
def quoteL (xs : List Int) : List Int := 34 :: (xs.flatMap q1 ++ [34])
theorem flat_len (xs : List Int) : xs.length ≤ (xs.flatMap q1).length ∧ (xs.flatMap q1).length ≤ 4 * xs.length := by
  induction xs with
  | nil => simp
  | cons x xs ih =>
    have hl : 1 ≤ (q1 x).length ∧ (q1 x).length ≤ 4 := by unfold q1; split; simp; split <;> simp
    rw [List.flatMap_cons, List.length_append, List.length_cons]
    omega
theorem readQ_quoted (xs more : List Int) (hb : Byt xs) : readQ (quoteL xs ++ more) = (xs, ((quoteL xs).length : Int), true) := by
  have := flat_len xs
  have e : quoteL xs ++ more = 34 :: (xs.flatMap q1 ++ 34 :: more) := by simp [quoteL]
  rw [e, readQ, if_neg (by decide), readL_quoted xs _ _ _ _ hb (by simp only [List.length_append, List.length_cons]; omega)]
  simp only [quoteL, List.length_cons, List.length_append, List.nil_append, List.length_nil, Prod.mk.injEq, and_true, true_and]
  omega
def natsU (l : List UInt8) : List Int := l.map fun x => (x.toNat : Int)
theorem bts_mk (l : List UInt8) : bytesOf ⟨l.toArray⟩ = natsU l := by simp [bytesOf, natsU]
theorem one_fin : ∀ c : Fin 256, natsU (desk_Quoted.one (c.val : Int)) = q1 (c.val : Int) := by decide +kernel
theorem one_q1 {c : Int} (h : 0 ≤ c ∧ c ≤ 255) : natsU (desk_Quoted.one c) = q1 c := by
  have := one_fin ⟨c.toNat, by omega⟩
  rwa [show ((⟨c.toNat, by omega⟩ : Fin 256).val : Int) = c from by show ((c.toNat : Nat) : Int) = c; omega] at this
theorem natsU_app (a b : List UInt8) : natsU (a ++ b) = natsU a ++ natsU b := by simp [natsU]
theorem dq_l0 (s : ByteArray) : ∀ (n k i : Nat) (out : List UInt8), i + n = s.size → n < k → ∃ t, desk_Quoted.l0 k s (i : Int) out = some t ∧ bytesOf t = natsU out ++ ((bytesOf s).drop i).flatMap q1 ++ [34]
  | 0, k + 1, i, out, h, _ => by
    unfold desk_Quoted.l0
    rw [if_neg (by omega), List.drop_of_length_le (by rw [← bts_size]; omega)]
    exact ⟨_, rfl, by rw [bts_mk, natsU_app]; simp [natsU]⟩
  | n + 1, k + 1, i, out, h, hk => by
    unfold desk_Quoted.l0
    rw [if_pos (by omega), show ((i : Int) + 1) = ((i + 1 : Nat) : Int) by omega]
    obtain ⟨t, h1, h2⟩ := dq_l0 s n k (i + 1) (out ++ desk_Quoted.one (bt s (i : Int))) (by omega) (by omega)
    refine ⟨t, h1, ?_⟩
    rw [h2, natsU_app, drop_rd (l := bytesOf s) (i := i) (by rw [← bts_size]; omega), List.flatMap_cons, bt_rd, one_q1 ((bts_byt s).rd _)]
    simp only [List.append_assoc]
theorem dq_f (s : ByteArray) (hs : s.size ≤ 1000000) {k : Nat} (hk : s.size < k) : ∃ t, desk_Quoted.f k s = some t ∧ bytesOf t = quoteL (bytesOf s) := by
  unfold desk_Quoted.f
  rw [if_pos hs]
  obtain ⟨t, h1, h2⟩ := dq_l0 s s.size k 0 [34] (by omega) hk
  exact ⟨t, h1, by rw [h2]; rfl⟩
theorem idx_fin : ∀ c : Fin 256, Lib.indexByte (⟨#[48, 49, 50, 51, 52, 53, 54, 55, 56, 57, 97, 98, 99, 100, 101, 102]⟩ : ByteArray).data.toList (c.val : Int).toNat.toUInt8 = hx (c.val : Int) := by decide +kernel
theorem idx_hx {c : Int} (h : 0 ≤ c ∧ c ≤ 255) : strings_IndexByte.f (⟨#[48, 49, 50, 51, 52, 53, 54, 55, 56, 57, 97, 98, 99, 100, 101, 102]⟩ : ByteArray) c = some (hx c) := by
  have := idx_fin ⟨c.toNat, by omega⟩
  rw [show ((⟨c.toNat, by omega⟩ : Fin 256).val : Int) = c from by show ((c.toNat : Nat) : Int) = c; omega] at this
  unfold strings_IndexByte.f
  rw [this]
theorem or_fin : ∀ a b : Fin 16, (Go.bits .or .i64 (wrap64 ((a.val : Int) * 16)) (b.val : Int)) % 256 = 16 * (a.val : Int) + (b.val : Int) := by decide +kernel
theorem or_eq {a b : Int} (ha : 0 ≤ a ∧ a ≤ 15) (hb : 0 ≤ b ∧ b ≤ 15) : (Go.bits .or .i64 (wrap64 (a * 16)) b) % 256 = 16 * a + b := by
  have := or_fin ⟨a.toNat, by omega⟩ ⟨b.toNat, by omega⟩
  rwa [show ((⟨a.toNat, by omega⟩ : Fin 16).val : Int) = a from by show ((a.toNat : Nat) : Int) = a; omega, show ((⟨b.toNat, by omega⟩ : Fin 16).val : Int) = b from by show ((b.toNat : Nat) : Int) = b; omega] at this
theorem desc_f (t : ByteArray) {k : Nat} (hk : 1 ≤ k) : desk_escaped.f k t = some (escD (bytesOf t)) := by
  obtain ⟨k, rfl⟩ : ∃ m, k = m + 1 := ⟨k - 1, by omega⟩
  have hz := bts_size t
  have hy := bts_byt t
  unfold desk_escaped.f
  rw [bt_rd]
  match h : bytesOf t with
  | [] => rw [if_pos ((tl_nil t).2 h)]; rfl
  | d :: l =>
    rw [h, List.length_cons] at hz
    rw [if_neg (by rw [tl_nil, h]; simp), if_pos (by omega), rd_cons_zero]
    rw [escD_cons]
    by_cases c1 : d = 34
    · rw [if_pos c1, if_pos (Or.inl c1)]
      simp only [desk_escaped.j0, if_true]
      rw [if_pos (by omega), bt_rd, h, rd_cons_zero]
    rw [if_neg c1]
    by_cases c2 : d = 92
    · rw [if_pos (Or.inr c2)]
      simp only [desk_escaped.j0]
      rw [if_pos (beq_iff_eq.2 c2), if_pos (by omega), bt_rd, h, rd_cons_zero]
    rw [if_neg (by omega)]
    simp only [desk_escaped.j0]
    rw [if_neg (by simpa using c2), if_pos (by omega), bt_rd, h, rd_cons_zero]
    by_cases c3 : d = 120
    · rw [if_pos c3]
      match l, hz, h with
      | [], hz, h => rw [if_pos (by simp at hz; omega)]; rfl
      | [a], hz, h => rw [if_pos (by simp at hz; omega)]; rfl
      | a :: b :: r, hz, h =>
        simp only [List.length_cons] at hz
        have ea : bt t 1 = a := by rw [bt_rd, h]; rfl
        have eb : bt t 2 = b := by rw [bt_rd, h]; rfl
        rw [escT_cons]
        have ha := hy a (by rw [h]; simp)
        have hb := hy b (by rw [h]; simp)
        rw [if_neg (by omega), if_pos (by omega), ea, eb, idx_hx ha]
        simp only [Option.bind_some]
        rw [if_pos (by omega), idx_hx hb]
        simp only [Option.bind_some]
        have la := hx_low a
        have lb := hx_low b
        by_cases c4 : hx a < 0
        · rw [if_pos c4, if_pos (by omega)]
        rw [if_neg c4]
        by_cases c5 : hx b < 0
        · rw [if_pos c5, if_pos (by omega)]
        have ra := hx_range (c := a) (by omega)
        have rb := hx_range (c := b) (by omega)
        rw [if_neg c5, or_eq (by omega) (by omega), if_neg (show ¬ (d ≠ 120 ∨ hx a < 0 ∨ hx b < 0) by omega)]
        by_cases c6 : 16 * hx a + hx b ≥ 32
        · rw [if_pos c6]
          by_cases c7 : 16 * hx a + hx b ≤ 126
          · rw [if_pos c7, if_pos (by omega)]
          · rw [if_neg c7, if_neg (by omega)]
        · rw [if_neg c6, if_neg (by omega)]
    · rw [if_neg c3]
      match l with
      | [] => rfl
      | [a] => rfl
      | a :: b :: r => rw [escT_cons, if_pos (Or.inl c3)]
theorem dRead_l0 (s : ByteArray) (hs : s.size ≤ 1000000) : ∀ (f i k : Nat) (out : List Int), i ≤ s.size → s.size < i + f → 3 * f + 3 ≤ k → out.length ≤ i →
    desk_Read.l0 k s out (i : Int) = some (strOfNums (readL f out (i : Int) ((bytesOf s).drop i)).1, (readL f out (i : Int) ((bytesOf s).drop i)).2.1, (readL f out (i : Int) ((bytesOf s).drop i)).2.2)
  | 0, i, k, out, h1, h2, _, _ => by omega
  | f + 1, i, k, out, h1, h2, h3, h4 => by
    obtain ⟨k, rfl⟩ : ∃ m, k = m + 3 := ⟨k - 3, by omega⟩
    by_cases hi : i < s.size
    · have hd := drop_rd (l := bytesOf s) (i := i) (by rw [← bts_size]; exact hi)
      have hb := (bts_byt s).rd (i : Int)
      rw [hd]
      simp only [desk_Read.l0, readL]
      rw [if_pos (by omega), if_pos (by omega), bt_rd]
      generalize rd (bytesOf s) (i : Int) = c at hb ⊢
      by_cases c1 : c = 34
      · rw [if_pos c1, if_pos c1, w64 (by omega)]
      rw [if_neg c1, if_neg c1]
      by_cases c2 : c < 32 ∨ c > 126
      · have hu : ∀ l, unitD c l = (0, 0) := fun l => by unfold unitD; rw [if_pos (by omega)]
        rw [hu, if_pos rfl]
        have e : ∀ k, desk_Read.j2 (k + 1) s out (i : Int) c true = some ((⟨#[]⟩ : ByteArray), 0, false) := fun k => by simp only [desk_Read.j2, if_true]
        by_cases c3 : c < 32
        · rw [if_pos c3, e]; rfl
        · rw [if_neg c3, decide_eq_true (by omega), e]; rfl
      rw [if_neg (by omega), decide_eq_false (by omega)]
      simp only [desk_Read.j2]
      rw [if_neg (by simp)]
      by_cases c3 : c = 92
      · have hy := (bts_byt s).drop (i + 1)
        have he := escD_byt hy
        have hl : ((bytesOf s).drop (i + 1)).length = s.size - (i + 1) := by rw [List.length_drop, ← bts_size]
        rw [if_pos c3, w64 (by omega), if_pos (by omega), if_pos (by omega), show ((i : Int) + 1).toNat = i + 1 by omega, desc_f _ (by omega), bts_extract_to]
        simp only [Option.bind_some]
        have hu : unitD c ((bytesOf s).drop (i + 1)) = if (escD ((bytesOf s).drop (i + 1))).2 = 0 then (0, 0) else ((escD ((bytesOf s).drop (i + 1))).1, (escD ((bytesOf s).drop (i + 1))).2 + 1) := by
          unfold unitD
          rw [if_neg (by omega), if_neg (by omega)]
        rw [hu]
        by_cases c4 : (escD ((bytesOf s).drop (i + 1))).2 = 0
        · rw [if_pos c4, if_pos c4, if_pos rfl]; rfl
        rw [if_neg c4, if_neg c4]
        dsimp only
        rw [if_pos (show out.length < 140737488355328 by omega), if_neg (by omega), w64 (x := (i : Int) + (escD ((bytesOf s).drop (i + 1))).2) (by omega), w64 (x := (i : Int) + (escD ((bytesOf s).drop (i + 1))).2 + 1) (by omega)]
        obtain ⟨n, hn⟩ : ∃ n : Nat, (escD ((bytesOf s).drop (i + 1))).2 = n := ⟨(escD ((bytesOf s).drop (i + 1))).2.toNat, by omega⟩
        have key := dRead_l0 s hs f (i + n + 1) (k + 1) (out ++ [(escD ((bytesOf s).drop (i + 1))).1]) (by omega) (by omega) (by omega) (by simp; omega)
        simp only [hn]
        rw [show (i : Int) + (n : Int) + 1 = ((i + n + 1 : Nat) : Int) by omega, key, show (i : Int) + ((n : Int) + 1) = ((i + n + 1 : Nat) : Int) by omega, List.drop_drop, show ((n : Int) + 1 - 1).toNat = n by omega, show i + 1 + n = i + n + 1 by omega]
      · have hu : ∀ l, unitD c l = (c, 1) := fun l => by unfold unitD; rw [if_neg (by omega), if_pos c3]
        rw [if_neg c3, hu, if_pos (show out.length < 140737488355328 by omega), if_neg (show ¬ (1 : Int) = 0 by decide), w64 (by omega)]
        have key := dRead_l0 s hs f (i + 1) (k + 1) (out ++ [c]) (by omega) (by omega) (by omega) (by simp; omega)
        dsimp only
        rw [show (i : Int) + 1 = ((i + 1 : Nat) : Int) by omega, key, show ((1 : Int) - 1).toNat = 0 by omega, List.drop_zero]
    · rw [List.drop_of_length_le (by rw [← bts_size]; omega)]
      simp only [desk_Read.l0, readL]
      rw [if_neg (by omega)]
      rfl
theorem dRead_f (s : ByteArray) (hs : s.size ≤ 1000000) {k : Nat} (hk : 3 * s.size + 10 ≤ k) : desk_Read.f k s = some (strOfNums (readQ (bytesOf s)).1, (readQ (bytesOf s)).2.1, (readQ (bytesOf s)).2.2) := by
  obtain ⟨k, rfl⟩ : ∃ m, k = m + 1 := ⟨k - 1, by omega⟩
  have hz := bts_size s
  unfold desk_Read.f
  rw [bt_rd]
  match h : bytesOf s with
  | [] => rw [if_pos ((tl_nil s).2 h)]; simp only [desk_Read.j0, if_true]; rfl
  | d :: l =>
    rw [h, List.length_cons] at hz
    rw [if_neg (by rw [tl_nil, h]; simp), if_pos (by omega), rd_cons_zero]
    have hq : readQ (d :: l) = if d ≠ 34 then ([], 0, false) else readL (l.length + 1) [] 1 l := rfl
    rw [hq]
    by_cases c1 : d = 34
    · rw [if_neg (by simpa using c1)]
      simp only [desk_Read.j0]
      rw [if_neg (by simp [c1])]
      have key := dRead_l0 s hs (l.length + 1) 1 k [] (by omega) (by omega) (by omega) (by simp)
      rw [show ((1 : Nat) : Int) = 1 by rfl] at key
      rw [key, h]
      rfl
    · rw [if_pos c1]
      simp only [desk_Read.j0]
      rw [if_pos (by simpa using c1)]
      rfl
theorem rdig_f {k : Nat} (hk : 1 ≤ k) {c : Int} (h : 0 ≤ c ∧ c ≤ 255) : larumref33_digit.f k c = some (hx c) := by
  obtain ⟨k, rfl⟩ : ∃ m, k = m + 1 := ⟨k - 1, by omega⟩
  unfold larumref33_digit.f hx
  simp only [larumref33_digit.j0]
  by_cases c1 : c ≥ 48
  · rw [if_pos c1]
    by_cases c2 : c ≤ 57
    · rw [if_pos (decide_eq_true c2), if_pos ⟨c1, c2⟩, w64 (x := c) (by omega), w64 (by omega)]
    rw [if_neg (by simpa using c2), if_neg (show ¬ (48 ≤ c ∧ c ≤ 57) by omega)]
    by_cases c3 : c ≥ 97
    · rw [if_pos c3]
      by_cases c4 : c ≤ 102
      · rw [if_pos c4, if_pos ⟨c3, c4⟩, w64 (x := c) (by omega), w64 (by omega)]
      · rw [if_neg c4, if_neg (by omega)]
    · rw [if_neg c3, if_neg (by omega)]
  · rw [if_neg c1, if_neg (by simp), if_neg (by omega), if_neg (by omega), if_neg (by omega)]
theorem rescD (l : List Int) : escD l = if 0 < l.length ∧ (rd l 0 = 34 ∨ rd l 0 = 92) then (rd l 0, 1) else if l.length ≤ 2 ∨ rd l 0 ≠ 120 ∨ hx (rd l 1) < 0 ∨ hx (rd l 2) < 0 then (0, 0) else if 32 ≤ 16 * hx (rd l 1) + hx (rd l 2) ∧ 16 * hx (rd l 1) + hx (rd l 2) ≤ 126 then (0, 0) else (16 * hx (rd l 1) + hx (rd l 2), 3) := by
  match l with
  | [] => rw [if_neg (by simp), if_pos (by simp)]; rfl
  | d :: r =>
    rw [escD_cons, rd_cons_zero]
    by_cases c : d = 34 ∨ d = 92
    · rw [if_pos c, if_pos ⟨by simp, c⟩]
    rw [if_neg c, if_neg (fun h => c h.2)]
    match r with
    | [] => rw [if_pos (by simp)]; rfl
    | [a] => rw [if_pos (by simp)]; rfl
    | a :: b :: r =>
      have : ¬ (d :: a :: b :: r).length ≤ 2 := by simp
      rw [escT_cons, show rd (d :: a :: b :: r) 1 = a from rfl, show rd (d :: a :: b :: r) 2 = b from rfl]
      simp only [this, false_or]
theorem runit_f (s : ByteArray) (hs : s.size ≤ 1000000) (i : Nat) (hi : i < s.size) {k : Nat} (hk : 4 ≤ k) (h34 : rd (bytesOf s) (i : Int) ≠ 34) : larumref33_unit.f k s (i : Int) = some (unitD (rd (bytesOf s) (i : Int)) ((bytesOf s).drop (i + 1))) := by
  obtain ⟨k, rfl⟩ : ∃ m, k = m + 4 := ⟨k - 4, by omega⟩
  have hb := (bts_byt s).rd (i : Int)
  unfold larumref33_unit.f
  rw [if_pos (by omega), if_pos (by omega), bt_rd]
  generalize hc : rd (bytesOf s) (i : Int) = c at hb h34 ⊢
  have e : ∀ m (b : Bool), larumref33_unit.j0 (m + 1) s (i : Int) c true = some (0, 0) := fun m b => by simp only [larumref33_unit.j0, if_true]
  by_cases c1 : c < 32
  · rw [if_pos c1, e _ true]; unfold unitD; rw [if_pos (by omega)]
  rw [if_neg c1]
  by_cases c2 : c > 126
  · rw [if_pos c2, e _ true]; unfold unitD; rw [if_pos (by omega)]
  rw [if_neg c2, show (c == 34) = false by simpa using h34]
  unfold unitD
  rw [if_neg (by omega)]
  simp only [larumref33_unit.j0]
  rw [if_neg (by simp)]
  by_cases c3 : c = 92
  · have hlen : ((bytesOf s).drop (i + 1)).length = s.size - (i + 1) := by rw [List.length_drop, ← bts_size]
    have e1 : rd ((bytesOf s).drop (i + 1)) 0 = bt s ((i : Int) + 1) := by rw [bt_rd]; unfold rd; simp [show ((i : Int) + 1).toNat = i + 1 by omega]
    have e2 : rd ((bytesOf s).drop (i + 1)) 1 = bt s ((i : Int) + 2) := by rw [bt_rd]; unfold rd; simp [show ((i : Int) + 2).toNat = i + 1 + 1 by omega]
    have e3 : rd ((bytesOf s).drop (i + 1)) 2 = bt s ((i : Int) + 3) := by rw [bt_rd]; unfold rd; simp [show ((i : Int) + 3).toNat = i + 1 + 2 by omega]
    have hy : ∀ j : Int, 0 ≤ bt s j ∧ bt s j ≤ 255 := fun j => by rw [bt_rd]; exact (bts_byt s).rd j
    have hE := rescD ((bytesOf s).drop (i + 1))
    rw [hlen, e1, e2, e3] at hE
    generalize escD ((bytesOf s).drop (i + 1)) = E at hE
    rw [if_pos c3, if_neg (show ¬ c ≠ 92 by omega), w64 (x := (i : Int) + 1) (by omega)]
    have j1t : ∀ m, (i : Int) + 1 < (s.size : Int) → larumref33_unit.j1 (m + 1) s (i : Int) true = some (bt s ((i : Int) + 1), 2) := fun m h => by
      simp only [larumref33_unit.j1, if_true]
      rw [w64 (x := (i : Int) + 1) (by omega), if_pos (by omega), if_pos h]
    have j2t : ∀ m, larumref33_unit.j2 (m + 1) s (i : Int) true = some (0, 0) := fun m => by simp only [larumref33_unit.j2, if_true]
    have bad : (s.size - (i + 1) ≤ 2 ∨ bt s ((i : Int) + 1) ≠ 120 ∨ hx (bt s ((i : Int) + 2)) < 0 ∨ hx (bt s ((i : Int) + 3)) < 0) → ¬ (0 < s.size - (i + 1) ∧ (bt s ((i : Int) + 1) = 34 ∨ bt s ((i : Int) + 1) = 92)) → E = (0, 0) := fun h1 h2 => by rw [hE, if_neg h2, if_pos h1]
    have b0 : E = (0, 0) → (if E.2 = 0 then ((0 : Int), (0 : Int)) else (E.1, E.2 + 1)) = (0, 0) := fun h => by rw [h]; rfl
    by_cases c4 : (i : Int) + 1 < (s.size : Int)
    · rw [if_pos c4, if_pos (show 0 ≤ (i : Int) + 1 by omega)]
      by_cases c5 : bt s ((i : Int) + 1) = 34
      · rw [if_pos (show 0 < s.size - (i + 1) ∧ (bt s ((i : Int) + 1) = 34 ∨ bt s ((i : Int) + 1) = 92) from ⟨by omega, Or.inl c5⟩)] at hE
        rw [if_pos c5, j1t _ c4, hE]; rfl
      rw [if_neg c5]
      by_cases c6 : bt s ((i : Int) + 1) = 92
      · rw [if_pos (show 0 < s.size - (i + 1) ∧ (bt s ((i : Int) + 1) = 34 ∨ bt s ((i : Int) + 1) = 92) from ⟨by omega, Or.inr c6⟩)] at hE
        rw [beq_iff_eq.2 c6, j1t _ c4, hE]; rfl
      rw [show (bt s ((i : Int) + 1) == 92) = false by simpa using c6]
      have c56 : ¬ (0 < s.size - (i + 1) ∧ (bt s ((i : Int) + 1) = 34 ∨ bt s ((i : Int) + 1) = 92)) := by omega
      simp only [larumref33_unit.j1]
      rw [if_neg (show ¬ false = true by simp), w64 (x := (i : Int) + 1) (by omega), w64 (x := (i : Int) + 2) (by omega), w64 (x := (i : Int) + 3) (by omega)]
      by_cases c7 : (i : Int) + 3 ≥ (s.size : Int)
      · rw [if_pos c7, j2t, b0 (bad (by omega) c56)]
      rw [if_neg c7, if_pos (show 0 ≤ (i : Int) + 1 by omega), if_pos c4]
      by_cases c8 : bt s ((i : Int) + 1) = 120
      · rw [if_pos c8, if_pos (show 0 ≤ (i : Int) + 2 by omega), if_pos (show (i : Int) + 2 < (s.size : Int) by omega), rdig_f (by omega) (hy _)]
        simp only [Option.bind_some]
        have la := hx_low (bt s ((i : Int) + 2))
        have lb := hx_low (bt s ((i : Int) + 3))
        by_cases c9 : hx (bt s ((i : Int) + 2)) < 0
        · rw [if_pos c9, j2t, b0 (bad (by omega) c56)]
        rw [if_neg c9, if_pos (show 0 ≤ (i : Int) + 3 by omega), if_pos (show (i : Int) + 3 < (s.size : Int) by omega), rdig_f (by omega) (hy _)]
        simp only [Option.bind_some]
        by_cases c10 : hx (bt s ((i : Int) + 3)) < 0
        · rw [decide_eq_true c10, j2t, b0 (bad (by omega) c56)]
        have ra := hx_range (c := bt s ((i : Int) + 2)) (by omega)
        have rb := hx_range (c := bt s ((i : Int) + 3)) (by omega)
        rw [if_neg c56, if_neg (by omega)] at hE
        rw [decide_eq_false c10]
        simp only [larumref33_unit.j2]
        rw [if_neg (show ¬ false = true by simp), w64 (x := (i : Int) + 2) (by omega), w64 (x := (i : Int) + 3) (by omega), if_pos (show 0 ≤ (i : Int) + 2 by omega), if_pos (show (i : Int) + 2 < (s.size : Int) by omega), rdig_f (by omega) (hy _)]
        simp only [Option.bind_some]
        rw [if_pos (show 0 ≤ (i : Int) + 3 by omega), if_pos (show (i : Int) + 3 < (s.size : Int) by omega), rdig_f (by omega) (hy _)]
        simp only [Option.bind_some]
        rw [w64 (x := 16 * hx (bt s ((i : Int) + 2))) (by omega), w64 (x := 16 * hx (bt s ((i : Int) + 2)) + hx (bt s ((i : Int) + 3))) (by omega), show (16 * hx (bt s ((i : Int) + 2)) + hx (bt s ((i : Int) + 3))) % 256 = 16 * hx (bt s ((i : Int) + 2)) + hx (bt s ((i : Int) + 3)) by omega]
        by_cases c11 : 16 * hx (bt s ((i : Int) + 2)) + hx (bt s ((i : Int) + 3)) ≥ 32
        · rw [if_pos c11]
          by_cases c12 : 16 * hx (bt s ((i : Int) + 2)) + hx (bt s ((i : Int) + 3)) ≤ 126
          · rw [if_pos ⟨c11, c12⟩] at hE
            rw [if_pos c12, b0 hE]
          · rw [if_neg (by omega)] at hE
            rw [if_neg c12, hE]; rfl
        · rw [if_neg (by omega)] at hE
          rw [if_neg c11, hE]; rfl
      · rw [if_neg c8, j2t, b0 (bad (by omega) c56)]
    · rw [if_neg c4, b0 (bad (by omega) (by omega))]
      simp only [larumref33_unit.j1]
      rw [if_neg (by simp), w64 (x := (i : Int) + 3) (by omega), if_pos (by omega), j2t]
  · rw [if_neg c3, if_pos c3]
theorem rRead_l0 (s : ByteArray) (hs : s.size ≤ 1000000) : ∀ (f i k : Nat) (out : List Int), i ≤ s.size → s.size < i + f → f + 6 ≤ k → out.length ≤ i →
    larumref33_Read.l0 k s out (i : Int) = some (strOfNums (readL f out (i : Int) ((bytesOf s).drop i)).1, (readL f out (i : Int) ((bytesOf s).drop i)).2.1, (readL f out (i : Int) ((bytesOf s).drop i)).2.2)
  | 0, i, k, out, h1, h2, _, _ => by omega
  | f + 1, i, k, out, h1, h2, h3, h4 => by
    obtain ⟨k, rfl⟩ : ∃ m, k = m + 1 := ⟨k - 1, by omega⟩
    by_cases hi : i < s.size
    · have hd := drop_rd (l := bytesOf s) (i := i) (by rw [← bts_size]; exact hi)
      rw [hd]
      simp only [larumref33_Read.l0, readL]
      rw [if_pos (by omega), if_pos (by omega), bt_rd]
      by_cases c1 : rd (bytesOf s) (i : Int) = 34
      · rw [if_pos c1, if_pos c1, w64 (by omega)]
      rw [if_neg c1, if_neg c1, runit_f s hs i hi (by omega) c1]
      simp only [Option.bind_some]
      have hu := unitD_byt (c := rd (bytesOf s) (i : Int)) ((bts_byt s).drop (i + 1))
      have hlen : ((bytesOf s).drop (i + 1)).length = s.size - (i + 1) := by rw [List.length_drop, ← bts_size]
      generalize unitD (rd (bytesOf s) (i : Int)) ((bytesOf s).drop (i + 1)) = u at hu ⊢
      by_cases c4 : u.2 = 0
      · rw [if_pos c4, if_pos c4]; rfl
      rw [if_neg c4, if_neg c4, if_pos (by omega), w64 (by omega)]
      obtain ⟨n, hn⟩ : ∃ n : Nat, u.2 = n := ⟨u.2.toNat, by omega⟩
      have key := rRead_l0 s hs f (i + n) k (out ++ [u.1]) (by omega) (by omega) (by omega) (by simp; omega)
      rw [hn, show (i : Int) + (n : Int) = ((i + n : Nat) : Int) by omega, key, List.drop_drop, show i + 1 + ((n : Int) - 1).toNat = i + n by omega]
    · rw [List.drop_of_length_le (by rw [← bts_size]; omega)]
      simp only [larumref33_Read.l0, readL]
      rw [if_neg (by omega)]
      rfl
theorem rRead_f (s : ByteArray) (hs : s.size ≤ 1000000) {k : Nat} (hk : s.size + 10 ≤ k) : larumref33_Read.f k s = some (strOfNums (readQ (bytesOf s)).1, (readQ (bytesOf s)).2.1, (readQ (bytesOf s)).2.2) := by
  obtain ⟨k, rfl⟩ : ∃ m, k = m + 1 := ⟨k - 1, by omega⟩
  have hz := bts_size s
  unfold larumref33_Read.f
  rw [bt_rd]
  match h : bytesOf s with
  | [] => rw [if_pos ((tl_nil s).2 h)]; simp only [larumref33_Read.j0, if_true]; rfl
  | d :: l =>
    rw [h, List.length_cons] at hz
    rw [if_neg (by rw [tl_nil, h]; simp), if_pos (by omega), rd_cons_zero]
    have hq : readQ (d :: l) = if d ≠ 34 then ([], 0, false) else readL (l.length + 1) [] 1 l := rfl
    rw [hq]
    by_cases c1 : d = 34
    · rw [if_neg (by simpa using c1)]
      simp only [larumref33_Read.j0]
      rw [if_neg (by simp [c1])]
      have key := rRead_l0 s hs (l.length + 1) 1 k [] (by omega) (by omega) (by omega) (by simp)
      rw [show ((1 : Nat) : Int) = 1 by rfl] at key
      rw [key, h]
      rfl
    · rw [if_pos c1]
      simp only [larumref33_Read.j0]
      rw [if_pos (by simpa using c1)]
      rfl
theorem rhex_one : ∀ d : Fin 16, bytesOf ((⟨#[48, 49, 50, 51, 52, 53, 54, 55, 56, 57, 97, 98, 99, 100, 101, 102]⟩ : ByteArray).extract d.val (d.val + 1)) = [hxs (d.val : Int)] := by decide +kernel
theorem rhex_cut {q : Int} (h : 0 ≤ q ∧ q ≤ 15) : bytesOf ((⟨#[48, 49, 50, 51, 52, 53, 54, 55, 56, 57, 97, 98, 99, 100, 101, 102]⟩ : ByteArray).extract (q : Int).toNat ((q + 1 : Int)).toNat) = [hxs q] := by
  have := rhex_one ⟨q.toNat, by omega⟩
  rw [show ((⟨q.toNat, by omega⟩ : Fin 16).val : Int) = q from by show ((q.toNat : Nat) : Int) = q; omega] at this
  rw [show ((q + 1 : Int)).toNat = q.toNat + 1 by omega]
  exact this
theorem rhex_size {q : Int} (h : 0 ≤ q ∧ q ≤ 15) : ((⟨#[48, 49, 50, 51, 52, 53, 54, 55, 56, 57, 97, 98, 99, 100, 101, 102]⟩ : ByteArray).extract (q : Int).toNat ((q + 1 : Int)).toNat).size = 1 := by
  rw [bts_size, rhex_cut h]; rfl
theorem rone_cut (s : ByteArray) (i : Nat) (hi : i < s.size) : bytesOf (s.extract ((i : Int)).toNat ((i : Int) + 1).toNat) = [rd (bytesOf s) (i : Int)] := by
  rw [bts_extract, show ((i : Int) + 1).toNat = i + 1 by omega, show ((i : Int)).toNat = i by omega, List.drop_take, drop_rd (l := bytesOf s) (i := i) (by rw [← bts_size]; exact hi)]
  rw [show i + 1 - i = 1 by omega]
  rfl
theorem rone_size (s : ByteArray) (i : Nat) (hi : i < s.size) : (s.extract ((i : Int)).toNat ((i : Int) + 1).toNat).size = 1 := by
  rw [bts_size, rone_cut s i hi]; rfl
theorem ba_app (a b : ByteArray) : (a ++ b).size = a.size + b.size := ByteArray.size_append
theorem rq_l0 (s : ByteArray) (hs : s.size ≤ 1000000) : ∀ (n k i : Nat) (o : ByteArray), i + n = s.size → 2 * n < k → o.size ≤ 4 * i + 1 → ∃ t, larumref33_Quoted.l0 k s o (i : Int) = some t ∧ bytesOf t = bytesOf o ++ ((bytesOf s).drop i).flatMap q1 ++ [34]
  | 0, k + 1, i, o, h, _, ho => by
    simp only [larumref33_Quoted.l0]
    rw [if_neg (by omega), List.drop_of_length_le (by rw [← bts_size]; omega), if_pos (by omega)]
    exact ⟨_, rfl, by rw [bts_append]; simp; rfl⟩
  | n + 1, k + 2, i, o, h, hk, ho => by
    have hi : i < s.size := by omega
    have hb := (bts_byt s).rd (i : Int)
    have hw : wrap64 ((i : Int) + 1) = (i : Int) + 1 := w64 (by omega)
    have go : ∀ (o' : ByteArray) (x : List Int), bytesOf o' = bytesOf o ++ x → x = q1 (rd (bytesOf s) (i : Int)) → x.length ≤ 4 → ∃ t, larumref33_Quoted.l0 k s o' (wrap64 ((i : Int) + 1)) = some t ∧ bytesOf t = bytesOf o ++ ((bytesOf s).drop i).flatMap q1 ++ [34] := by
      intro o' x h1 h2 h3
      have := bts_size o
      obtain ⟨t, t1, t2⟩ := rq_l0 s hs n k (i + 1) o' (by omega) (by omega) (by rw [bts_size, h1, List.length_append]; omega)
      rw [hw, show ((i : Int) + 1) = ((i + 1 : Nat) : Int) by omega]
      refine ⟨t, t1, ?_⟩
      rw [t2, h1, h2, drop_rd (l := bytesOf s) (i := i) (by rw [← bts_size]; omega), List.flatMap_cons]
      simp only [List.append_assoc]
    have hc1 := rone_cut s i hi
    have hz1 := rone_size s i hi
    simp only [larumref33_Quoted.l0]
    rw [if_pos (by omega), if_pos (by omega), bt_rd]
    generalize rd (bytesOf s) (i : Int) = c at hb go hc1 ⊢
    rw [w64 (x := c) (by omega)]
    have key : ∀ b : Bool, b = decide (c < 32 ∨ c > 126) → ∃ t, larumref33_Quoted.j1 (k + 1) s o (i : Int) c b = some t ∧ bytesOf t = bytesOf o ++ ((bytesOf s).drop i).flatMap q1 ++ [34] := by
      intro b hbb
      simp only [larumref33_Quoted.j1]
      by_cases c1 : c < 32 ∨ c > 126
      · rw [decide_eq_true c1] at hbb
        have e1 : Int.tdiv c 16 = c / 16 := by rw [Int.tdiv_eq_ediv_of_nonneg (by omega)]
        have e2 : Int.tmod c 16 = c % 16 := by rw [Int.tmod_eq_emod_of_nonneg (by omega)]
        have g1 := rhex_cut (q := c / 16) (by omega)
        have g2 := rhex_cut (q := c % 16) (by omega)
        have z1 := rhex_size (q := c / 16) (by omega)
        have z2 := rhex_size (q := c % 16) (by omega)
        have z0 : (⟨#[92, 120]⟩ : ByteArray).size = 2 := rfl
        rw [if_pos hbb, if_pos (by omega), e1, e2, w64 (x := c / 16) (by omega), w64 (x := c / 16 + 1) (by omega), w64 (x := c % 16 + 1) (by omega), if_pos (by omega), if_pos (by omega), if_pos (by omega), if_pos (by rw [ba_app, z0, z1]; omega), if_pos (by omega), if_pos (by omega), if_pos (by omega), if_pos (by rw [ba_app, ba_app, z0, z1, z2]; omega)]
        refine go _ [92, 120, hxs (c / 16), hxs (c % 16)] ?_ (by unfold q1; rw [if_pos c1]) (by simp)
        rw [bts_append, bts_append, bts_append, g1, g2]
        simp only [List.append_assoc]
        rfl
      rw [decide_eq_false c1] at hbb
      rw [if_neg (by rw [hbb]; simp), hw]
      rw [hw] at go
      by_cases c2 : c = 34 ∨ c = 92
      · have z0 : (⟨#[92]⟩ : ByteArray).size = 1 := rfl
        have fin := go ((o ++ (⟨#[92]⟩ : ByteArray)) ++ s.extract ((i : Int)).toNat ((i : Int) + 1).toNat) [92, c] (by rw [bts_append, bts_append, hc1]; simp only [List.append_assoc]; rfl) (by unfold q1; rw [if_neg c1, if_pos c2]) (by simp)
        by_cases c3 : c = 34
        · rw [if_pos c3, if_pos (by omega), if_pos (by omega), if_pos (by omega), if_pos (by omega), if_pos (by rw [ba_app, z0, hz1]; omega)]
          exact fin
        · rw [if_neg c3, if_pos (by omega), if_pos (by omega), if_pos (by omega), if_pos (by omega), if_pos (by omega), if_pos (by rw [ba_app, z0, hz1]; omega)]
          exact fin
      · rw [if_neg (by omega), if_neg (by omega), if_pos (by omega), if_pos (by omega), if_pos (by omega), if_pos (by rw [hz1]; omega)]
        exact go _ [c] (by rw [bts_append, hc1]) (by unfold q1; rw [if_neg c1, if_neg c2]) (by simp)
    by_cases c0 : c < 32
    · rw [if_pos c0]
      exact key true (by rw [decide_eq_true (Or.inl c0)])
    · rw [if_neg c0]
      exact key _ (by rw [decide_eq_decide]; omega)
theorem rq_f (s : ByteArray) (hs : s.size ≤ 1000000) {k : Nat} (hk : 2 * s.size < k) : ∃ t, larumref33_Quoted.f k s = some t ∧ bytesOf t = quoteL (bytesOf s) := by
  unfold larumref33_Quoted.f
  obtain ⟨t, h1, h2⟩ := rq_l0 s hs s.size k 0 ⟨#[34]⟩ (by omega) hk (by decide)
  exact ⟨t, h1, by rw [h2]; rfl⟩
theorem awake300 : larumlaw33_awake.f 300 = some true := by decide +kernel
theorem short_eq (s : ByteArray) (n : Nat) : ∃ t, larumlaw33_short.f s (n : Int) = some t ∧ t.size ≤ n := by
  unfold larumlaw33_short.f
  by_cases h : (s.size : Int) > n
  · exact ⟨_, by rw [if_pos h, if_pos (by omega), if_pos (by omega)], by simp; omega⟩
  · exact ⟨s, by rw [if_neg h], by omega⟩
theorem DeskQuotes : larumlaw33_DeskQuotes.Pure := by
  intro a b _ _
  obtain ⟨s, hs, hl⟩ := short_eq a 80
  obtain ⟨m, hm, hl2⟩ := short_eq b 20
  obtain ⟨q, q1, q2⟩ := dq_f s (by omega) (k := 3000) (by omega)
  obtain ⟨r, r1, r2⟩ := rq_f s (by omega) (k := 3000) (by omega)
  have hq : q.size ≤ 322 := by
    have := flat_len (bytesOf s)
    have := bts_size s
    rw [bts_size, q2]
    simp only [quoteL, List.length_cons, List.length_append, List.length_nil]
    omega
  refine ⟨3000, ?_⟩
  unfold larumlaw33_DeskQuotes.f
  rw [show larumlaw33_short.f a 80 = some s from hs, show larumlaw33_short.f b 20 = some m from hm]
  simp only [Option.bind_some]
  rw [q1]
  simp only [Option.bind_some]
  have hz : (q ++ m).size = q.size + m.size := ba_app q m
  rw [if_pos (by omega), dRead_f (q ++ m) (by omega) (by omega), dRead_f m (by omega) (by omega), rRead_f m (by omega) (by omega), r1, bts_append, q2, readQ_quoted _ _ (bts_byt s), at_rounds (g := fun k => larumlaw33_awake.f k) (fun k => larumlaw33_awake.mono k) (show 300 ≤ 3000 by decide) awake300]
  simp only [Option.bind_some]
  rw [if_pos ((tl_iff q r).2 (by rw [q2, r2])), if_pos ((tl_iff _ s).2 (bts_son (bts_byt s))), if_pos (by rw [bts_size q, q2]), if_pos trivial]
  simp
end Go.Proofs.Ytmdfgndndfggeaa.Pure
