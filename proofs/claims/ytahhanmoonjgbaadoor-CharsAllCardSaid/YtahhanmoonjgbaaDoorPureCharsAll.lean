/- Whether all bytes of a text are a token's, and digits, is as the chapter says: for any text. No condition. -/
import Derived.Test.YtahhanmoonjgbaaDoorPCharsAllx2
namespace Go.Proofs.YtahhanmoonjgbaaDoor.Pure
open Go Go.RowKit Go.Proofs.YtahhanmoonjgbaaDoor.PCharsAll Go.Proofs.YtahhanmoonjgbaaDoor.Gp Go.Proofs.YtahhanmoonjgbaaDoorW Go.Proofs.YtahhanmoonjgbaaDoorW.PrintWords Go.Proofs.YtahhanmoonjgbaaDoorW.PrintLast Go.Proofs.YtahhanmoonjgbaaDoorW.PrintMore
set_option linter.unusedVariables false
set_option linter.unusedSimpArgs false
-- strings as lists of numbers
def Byt (l : List Int) : Prop := ∀ x ∈ l, 0 ≤ x ∧ x ≤ 255
theorem Byt.rd {l : List Int} (h : Byt l) (i : Int) : 0 ≤ PrintWords.rd l i ∧ PrintWords.rd l i ≤ 255 := by
  unfold PrintWords.rd
  rw [List.getD_eq_getElem?_getD]
  by_cases hi : i.toNat < l.length
  · rw [List.getElem?_eq_getElem hi]; exact h _ (List.getElem_mem hi)
  · rw [List.getElem?_eq_none (by omega)]; decide
theorem Byt.take {l : List Int} (h : Byt l) (n : Nat) : Byt (l.take n) := fun x hx => h x (List.mem_of_mem_take hx)
theorem Byt.drop {l : List Int} (h : Byt l) (n : Nat) : Byt (l.drop n) := fun x hx => h x (List.mem_of_mem_drop hx)
theorem w64 {x : Int} (h : -9223372036854775808 ≤ x ∧ x ≤ 9223372036854775807) : wrap64 x = x := by unfold wrap64; omega
theorem u64w (x : Int) : IntKind.u64.wrap x = x % 18446744073709551616 := by simp [IntKind.wrap, IntKind.bits, IntKind.signed]
theorem wu64 {x : Int} (h : 0 ≤ x ∧ x ≤ 18446744073709551615) : IntKind.u64.wrap x = x := by rw [u64w]; omega
theorem bts_byt (s : ByteArray) : Byt (bytesOf s) := by
  intro x hx
  simp only [bytesOf, List.mem_map] at hx
  obtain ⟨b, _, rfl⟩ := hx
  have := b.toNat_lt
  omega
theorem bts_len (s : ByteArray) : ((bytesOf s).length : Int) = (s.size : Int) := by rw [bytesOf_length]
theorem bt_rd (s : ByteArray) (i : Int) : bt s i = rd (bytesOf s) i := (rd_bytesOf s i).symm
theorem tl (s : ByteArray) : s.toList = s.data.toList := ByteArray.toList_eq s
theorem u8_map_inj : ∀ {a b : List UInt8}, a.map (fun x => (x.toNat : Int)) = b.map (fun x => (x.toNat : Int)) → a = b
  | [], [], _ => rfl
  | [], _ :: _, h => by simp at h
  | _ :: _, [], h => by simp at h
  | x :: a, y :: b, h => by
    simp only [List.map_cons, List.cons.injEq] at h
    rw [u8_map_inj h.2, UInt8.toNat_inj.1 (by omega : x.toNat = y.toNat)]
theorem tl_iff (s t : ByteArray) : s.toList = t.toList ↔ bytesOf s = bytesOf t := by
  rw [tl, tl]
  exact ⟨fun h => by unfold bytesOf; rw [h], fun h => u8_map_inj h⟩
theorem tl_nil (s : ByteArray) : s.toList = ([] : List UInt8) ↔ bytesOf s = [] := by
  rw [tl]
  unfold bytesOf
  rw [List.map_eq_nil_iff]
theorem bts_extract (s : ByteArray) (a b : Nat) : bytesOf (s.extract a b) = ((bytesOf s).take b).drop a := by
  unfold bytesOf
  rw [List.drop_take, ← List.map_drop, ← List.map_take]
  congr 1
  simp [List.drop_take]
theorem bts_extract_to (s : ByteArray) (a : Nat) : bytesOf (s.extract a s.size) = (bytesOf s).drop a := by
  rw [bts_extract, List.take_of_length_le (by rw [bytesOf_length]; omega)]
theorem bts_append (s t : ByteArray) : bytesOf (s ++ t) = bytesOf s ++ bytesOf t := by
  unfold bytesOf
  rw [← List.map_append]
  congr 1
theorem bts_size (s : ByteArray) : s.size = (bytesOf s).length := (bytesOf_length s).symm
theorem drop_rd {l : List Int} {i : Nat} (h : i < l.length) : l.drop i = rd l (i : Int) :: l.drop (i + 1) := by
  rw [List.drop_eq_getElem_cons h]
  unfold rd
  simp [List.getD_eq_getElem?_getD, List.getElem?_eq_getElem h]
theorem rd_cons_zero (a : Int) (l : List Int) : rd (a :: l) 0 = a := rfl
theorem awake60 : larumlaw01_awake.f 100 = some true := by decide +kernel
theorem awake_at {k : Nat} (h : 100 ≤ k) : larumlaw01_awake.f k = some true := at_rounds (g := fun k => larumlaw01_awake.f k) (fun k => larumlaw01_awake.mono k) h awake60
theorem short_eq (s : ByteArray) : ∃ t, larumlaw01_short.f s = some t ∧ t.size ≤ 80 := by
  unfold larumlaw01_short.f
  by_cases h : (s.size : Int) > 80
  · exact ⟨_, by rw [if_pos h, if_pos (by decide), if_pos (by omega)], by simp; omega⟩
  · exact ⟨s, by rw [if_neg h], by omega⟩
def tk (c : Int) : Bool := (chars_Token.f c).getD false
def dg (c : Int) : Bool := (chars_Digit.f c).getD false
theorem tk256 : ∀ c : Fin 256, chars_Token.f (c.val : Int) = some (tk (c.val : Int)) ∧ larumref01_Token.f 40 (c.val : Int) = some (tk (c.val : Int)) ∧ chars_Digit.f (c.val : Int) = some (dg (c.val : Int)) ∧ larumref01_Digit.f (c.val : Int) = some (dg (c.val : Int)) := by decide +kernel
theorem tkc {c : Int} (h : 0 ≤ c ∧ c ≤ 255) : chars_Token.f c = some (tk c) ∧ larumref01_Token.f 40 c = some (tk c) ∧ chars_Digit.f c = some (dg c) ∧ larumref01_Digit.f c = some (dg c) := by
  have := tk256 ⟨c.toNat, by omega⟩
  rw [show ((⟨c.toNat, by omega⟩ : Fin 256).val : Int) = c from by show ((c.toNat : Nat) : Int) = c; omega] at this
  exact this
theorem Token_f {c : Int} (h : 0 ≤ c ∧ c ≤ 255) : chars_Token.f c = some (tk c) := (tkc h).1
theorem RToken_f {c : Int} (h : 0 ≤ c ∧ c ≤ 255) {k : Nat} (hk : 40 ≤ k) : larumref01_Token.f k c = some (tk c) := at_rounds (g := fun k => larumref01_Token.f k c) (fun k => larumref01_Token.mono c k) hk (tkc h).2.1
theorem Digit_f {c : Int} (h : 0 ≤ c ∧ c ≤ 255) : chars_Digit.f c = some (dg c) := (tkc h).2.2.1
theorem RDigit_f {c : Int} (h : 0 ≤ c ∧ c ≤ 255) : larumref01_Digit.f c = some (dg c) := (tkc h).2.2.2
theorem AllT (s : ByteArray) (hs : s.size ≤ 1000) : ∀ (f i k : Nat), i + f = s.size → f < k → chars_All_chars_Token.l0 k s (i : Int) = some (((bytesOf s).drop i).all tk) := by
  intro f
  induction f with
  | zero =>
    intro i k hi hk
    obtain ⟨k, rfl⟩ : ∃ m, k = m + 1 := ⟨k - 1, by omega⟩
    simp only [chars_All_chars_Token.l0]
    rw [if_neg (by omega), List.drop_of_length_le (by rw [bytesOf_length]; omega)]
    rfl
  | succ f ih =>
    intro i k hi hk
    obtain ⟨k, rfl⟩ : ∃ m, k = m + 1 := ⟨k - 1, by omega⟩
    simp only [chars_All_chars_Token.l0]
    rw [if_pos (by omega), if_pos (by omega), bt_rd, Token_f ((bts_byt s).rd _), drop_rd (by rw [bytesOf_length]; omega), w64 (by omega), show ((i : Int) + 1) = ((i + 1 : Nat) : Int) by omega, ih (i + 1) k (by omega) (by omega)]
    simp only [Option.bind_some, List.all_cons]
    cases tk (rd (bytesOf s) (i : Int)) <;> simp
theorem AllD (s : ByteArray) (hs : s.size ≤ 1000) : ∀ (f i k : Nat), i + f = s.size → f < k → chars_All_chars_Digit.l0 k s (i : Int) = some (((bytesOf s).drop i).all dg) := by
  intro f
  induction f with
  | zero =>
    intro i k hi hk
    obtain ⟨k, rfl⟩ : ∃ m, k = m + 1 := ⟨k - 1, by omega⟩
    simp only [chars_All_chars_Digit.l0]
    rw [if_neg (by omega), List.drop_of_length_le (by rw [bytesOf_length]; omega)]
    rfl
  | succ f ih =>
    intro i k hi hk
    obtain ⟨k, rfl⟩ : ∃ m, k = m + 1 := ⟨k - 1, by omega⟩
    simp only [chars_All_chars_Digit.l0]
    rw [if_pos (by omega), if_pos (by omega), bt_rd, Digit_f ((bts_byt s).rd _), drop_rd (by rw [bytesOf_length]; omega), w64 (by omega), show ((i : Int) + 1) = ((i + 1 : Nat) : Int) by omega, ih (i + 1) k (by omega) (by omega)]
    simp only [Option.bind_some, List.all_cons]
    cases dg (rd (bytesOf s) (i : Int)) <;> simp
theorem Law_l0 (s : ByteArray) (hs : s.size ≤ 1000) : ∀ (f i k : Nat) (t d : Bool), i + f = s.size → f + 1200 ≤ k → (t && ((bytesOf s).drop i).all tk) = (bytesOf s).all tk → (d && ((bytesOf s).drop i).all dg) = (bytesOf s).all dg →
    larumlaw01_CharsAll.l0 k s t d (i : Int) = some true := by
  intro f
  induction f with
  | zero =>
    intro i k t d hi hk ht hd
    obtain ⟨k, rfl⟩ : ∃ m, k = m + 1 := ⟨k - 1, by omega⟩
    have e1 : chars_All_chars_Token.f k s = some ((bytesOf s).all tk) := AllT s hs s.size 0 k (by omega) (by omega)
    have e2 : chars_All_chars_Digit.f k s = some ((bytesOf s).all dg) := AllD s hs s.size 0 k (by omega) (by omega)
    have e3 : chars_All_nil.f k s = some false := by
      obtain ⟨k, rfl⟩ : ∃ m, k = m + 1 := ⟨k - 1, by omega⟩
      rfl
    rw [List.drop_of_length_le (by rw [bytesOf_length]; omega)] at ht hd
    simp only [List.all_nil, Bool.and_true] at ht hd
    simp only [larumlaw01_CharsAll.l0]
    rw [if_neg (by omega), e1, e2, e3, awake_at (by omega), ht, hd]
    simp
  | succ f ih =>
    intro i k t d hi hk ht hd
    obtain ⟨k, rfl⟩ : ∃ m, k = m + 1 := ⟨k - 1, by omega⟩
    rw [drop_rd (by rw [bytesOf_length]; omega)] at ht hd
    simp only [List.all_cons] at ht hd
    have b := (bts_byt s).rd (i : Int)
    have step : ∀ t' d', (t' && ((bytesOf s).drop (i + 1)).all tk) = (bytesOf s).all tk → (d' && ((bytesOf s).drop (i + 1)).all dg) = (bytesOf s).all dg → larumlaw01_CharsAll.l0 k s t' d' ((i : Int) + 1) = some true := by
      intro t' d' h1 h2
      rw [show ((i : Int) + 1) = ((i + 1 : Nat) : Int) by omega]
      exact ih (i + 1) k t' d' (by omega) (by omega) h1 h2
    simp only [larumlaw01_CharsAll.l0]
    have e1 : larumref01_Token.f k (bt s (i : Int)) = some (tk (rd (bytesOf s) (i : Int))) := by rw [bt_rd]; exact RToken_f b (by omega)
    have e2 : larumref01_Digit.f (bt s (i : Int)) = some (dg (rd (bytesOf s) (i : Int))) := by rw [bt_rd]; exact RDigit_f b
    have h0 : (0 : Int) ≤ (i : Int) := by omega
    have hw : wrap64 ((i : Int) + 1) = (i : Int) + 1 := w64 (by omega)
    rw [if_pos (by omega)]
    cases t <;> cases d <;> simp only [Bool.false_eq_true, if_false, if_true, if_pos h0, e1, e2, Option.bind_some, hw] <;>
      exact step _ _ (by simp only [Bool.true_and, Bool.false_and] at ht ⊢; exact ht) (by simp only [Bool.true_and, Bool.false_and] at hd ⊢; exact hd)
theorem CharsAll : larumlaw01_CharsAll.Pure := by
  intro s _
  obtain ⟨t, ht, hl⟩ := short_eq s
  obtain ⟨k, hk⟩ : ∃ k : Nat, k = 3000 := ⟨_, rfl⟩
  refine ⟨k, ?_⟩
  unfold larumlaw01_CharsAll.f
  rw [ht]
  simp only [Option.bind_some]
  have := Law_l0 t (by omega) t.size 0 k true true (by omega) (by omega) (by rw [List.drop_zero, Bool.true_and]) (by rw [List.drop_zero, Bool.true_and])
  exact this
end Go.Proofs.YtahhanmoonjgbaaDoor.Pure
