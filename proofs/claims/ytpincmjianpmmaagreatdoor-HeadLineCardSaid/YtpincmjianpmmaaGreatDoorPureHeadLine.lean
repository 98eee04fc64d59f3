/- The first line of a text, and the field of a line, are as the document's: for any text, any length. No condition. -/
import Derived.Test.YtpincmjianpmmaaGreatDoorPHeadLinex8
namespace Go.Proofs.YtpincmjianpmmaaGreatDoor.Pure
open Go Go.RowKit Go.Proofs.YtpincmjianpmmaaGreatDoor.PHeadLine Go.Proofs.YtpincmjianpmmaaGreatDoor.Gp Go.Proofs.YtpincmjianpmmaaGreatDoorW Go.Proofs.YtpincmjianpmmaaGreatDoorW.PrintWords Go.Proofs.YtpincmjianpmmaaGreatDoorW.PrintLast Go.Proofs.YtpincmjianpmmaaGreatDoorW.PrintMore
set_option linter.unusedVariables false
set_option linter.unusedSimpArgs false
-- strings as lists of numbers
def Byt (l : List Int) : Prop := ∀ x ∈ l, 0 ≤ x ∧ x ≤ 255
theorem Byt.rd {l : List Int} (h : Byt l) (i : Int) : 0 ≤ PrintWords.rd l i ∧ PrintWords.rd l i ≤ 255 := by
  unfold PrintWords.rd
  rw [List.getD_eq_getElem?_getD]
  by_cases hi : i.toNat < l.length
  · rw [List.getElem?_eq_getElem hi]; exact h _ (List.getElem_mem hi)
  · rw [List.getElem?_eq_none (by omega)]; decide
theorem Byt.take {l : List Int} (h : Byt l) (n : Nat) : Byt (l.take n) := fun x hx => h x (List.mem_of_mem_take hx)
theorem Byt.drop {l : List Int} (h : Byt l) (n : Nat) : Byt (l.drop n) := fun x hx => h x (List.mem_of_mem_drop hx)
theorem w64 {x : Int} (h : -9223372036854775808 ≤ x ∧ x ≤ 9223372036854775807) : wrap64 x = x := by unfold wrap64; omega
theorem u64w (x : Int) : IntKind.u64.wrap x = x % 18446744073709551616 := by simp [IntKind.wrap, IntKind.bits, IntKind.signed]
theorem wu64 {x : Int} (h : 0 ≤ x ∧ x ≤ 18446744073709551615) : IntKind.u64.wrap x = x := by rw [u64w]; omega
theorem bts_byt (s : ByteArray) : Byt (bytesOf s) := by
  intro x hx
  simp only [bytesOf, List.mem_map] at hx
  obtain ⟨b, _, rfl⟩ := hx
  have := b.toNat_lt
  omega
theorem bts_len (s : ByteArray) : ((bytesOf s).length : Int) = (s.size : Int) := by rw [bytesOf_length]
theorem bt_rd (s : ByteArray) (i : Int) : bt s i = rd (bytesOf s) i := (rd_bytesOf s i).symm
theorem tl (s : ByteArray) : s.toList = s.data.toList := ByteArray.toList_eq s
theorem u8_map_inj : ∀ {a b : List UInt8}, a.map (fun x => (x.toNat : Int)) = b.map (fun x => (x.toNat : Int)) → a = b
  | [], [], _ => rfl
  | [], _ :: _, h => by simp at h
  | _ :: _, [], h => by simp at h
  | x :: a, y :: b, h => by
    simp only [List.map_cons, List.cons.injEq] at h
    rw [u8_map_inj h.2, UInt8.toNat_inj.1 (by omega : x.toNat = y.toNat)]
theorem tl_iff (s t : ByteArray) : s.toList = t.toList ↔ bytesOf s = bytesOf t := by
  rw [tl, tl]
  exact ⟨fun h => by unfold bytesOf; rw [h], fun h => u8_map_inj h⟩
theorem tl_nil (s : ByteArray) : s.toList = ([] : List UInt8) ↔ bytesOf s = [] := by
  rw [tl]
  unfold bytesOf
  rw [List.map_eq_nil_iff]
theorem bts_extract (s : ByteArray) (a b : Nat) : bytesOf (s.extract a b) = ((bytesOf s).take b).drop a := by
  unfold bytesOf
  rw [List.drop_take, ← List.map_drop, ← List.map_take]
  congr 1
  simp [List.drop_take]
theorem bts_extract_to (s : ByteArray) (a : Nat) : bytesOf (s.extract a s.size) = (bytesOf s).drop a := by
  rw [bts_extract, List.take_of_length_le (by rw [bytesOf_length]; omega)]
theorem bts_append (s t : ByteArray) : bytesOf (s ++ t) = bytesOf s ++ bytesOf t := by
  unfold bytesOf
  rw [← List.map_append]
  congr 1
theorem bts_size (s : ByteArray) : s.size = (bytesOf s).length := (bytesOf_length s).symm
theorem drop_rd {l : List Int} {i : Nat} (h : i < l.length) : l.drop i = rd l (i : Int) :: l.drop (i + 1) := by
  rw [List.drop_eq_getElem_cons h]
  unfold rd
  simp [List.getD_eq_getElem?_getD, List.getElem?_eq_getElem h]
theorem rd_cons_zero (a : Int) (l : List Int) : rd (a :: l) 0 = a := rfl
-- prefixes, cuts at a byte
def nats (l : List UInt8) : List Int := l.map fun x => (x.toNat : Int)
theorem nats_bts (s : ByteArray) : nats s.data.toList = bytesOf s := rfl
theorem pre_nats : ∀ (p l : List UInt8), p.isPrefixOf l = (nats p).isPrefixOf (nats l)
  | [], _ => by simp [nats]
  | _ :: _, [] => by simp [nats]
  | a :: p, b :: l => by
    have e : (a == b) = ((a.toNat : Int) == (b.toNat : Int)) := by
      rw [Bool.eq_iff_iff, beq_iff_eq, beq_iff_eq, ← UInt8.toNat_inj]; omega
    show (a == b && p.isPrefixOf l) = (((a.toNat : Int) == (b.toNat : Int)) && (nats p).isPrefixOf (nats l))
    rw [e, pre_nats p l]
theorem CutPrefix_f (s p : ByteArray) : ∃ t b, strings_CutPrefix.f s p = some (t, b) ∧ b = (bytesOf p).isPrefixOf (bytesOf s) ∧ bytesOf t = (if (bytesOf p).isPrefixOf (bytesOf s) = true then (bytesOf s).drop (bytesOf p).length else bytesOf s) ∧ t.size ≤ s.size := by
  have e : Lib.hasPrefix s.data.toList p.data.toList = (bytesOf p).isPrefixOf (bytesOf s) := pre_nats _ _
  have eb : bytesOf (⟨(Lib.trimPrefix s.data.toList p.data.toList).toArray⟩ : ByteArray) = (if (bytesOf p).isPrefixOf (bytesOf s) = true then (bytesOf s).drop (bytesOf p).length else bytesOf s) := by
    unfold Lib.trimPrefix
    rw [e]
    have h0 : ∀ l : List UInt8, bytesOf (⟨l.toArray⟩ : ByteArray) = nats l := fun l => rfl
    rw [h0]
    by_cases h : (bytesOf p).isPrefixOf (bytesOf s) = true
    · rw [if_pos h, if_pos h]
      unfold nats
      rw [List.map_drop]
      simp [bytesOf]
    · rw [if_neg h, if_neg h]; rfl
  refine ⟨_, _, rfl, e, eb, ?_⟩
  rw [bts_size, eb, bts_size]
  split
  · rw [List.length_drop]; omega
  · exact Nat.le_refl _
theorem idx_while (c : UInt8) : ∀ (l : List UInt8),
    (Lib.indexByte l c = -1 ∧ (nats l).takeWhile (fun x => x != (c.toNat : Int)) = nats l ∧ (nats l).dropWhile (fun x => x != (c.toNat : Int)) = [] ∧ (nats l).contains (c.toNat : Int) = false) ∨
    ∃ j : Nat, Lib.indexByte l c = (j : Int) ∧ j < l.length ∧ (nats l).takeWhile (fun x => x != (c.toNat : Int)) = (nats l).take j ∧ (nats l).dropWhile (fun x => x != (c.toNat : Int)) = (nats l).drop j ∧ (nats l).contains (c.toNat : Int) = true
  | [] => Or.inl ⟨rfl, rfl, rfl, rfl⟩
  | x :: l => by
    have hn : nats (x :: l) = (x.toNat : Int) :: nats l := rfl
    by_cases h : x = c
    · subst h
      refine Or.inr ⟨0, by simp [Lib.indexByte], by simp, ?_, ?_, ?_⟩ <;> rw [hn] <;> simp
    · have hb : (x == c) = false := by simpa using h
      have hi : ¬ ((x.toNat : Int) = (c.toNat : Int)) := fun e => h (UInt8.toNat_inj.1 (by omega))
      have hi2 : ((x.toNat : Int) != (c.toNat : Int)) = true := by simpa using hi
      have hi3 : ((c.toNat : Int) == (x.toNat : Int)) = false := by simpa using fun e => hi e.symm
      rcases idx_while c l with ⟨h1, h2, h3, h4⟩ | ⟨j, h1, h2, h3, h4, h5⟩
      · refine Or.inl ⟨by simp [Lib.indexByte, hb, h1], ?_, ?_, ?_⟩
        · rw [hn, List.takeWhile_cons, hi2, if_pos rfl, h2]
        · rw [hn, List.dropWhile_cons, hi2, if_pos rfl, h3]
        · rw [hn, List.contains_cons, hi3, h4]; rfl
      · refine Or.inr ⟨j + 1, ?_, by simpa using h2, ?_, ?_, ?_⟩
        · have : ¬ ((j : Int) = -1) := by omega
          simp [Lib.indexByte, hb, h1, this]
        · rw [hn, List.takeWhile_cons, hi2, if_pos rfl, h3]; rfl
        · rw [hn, List.dropWhile_cons, hi2, if_pos rfl, h4]; rfl
        · rw [hn, List.contains_cons, h5, Bool.or_true]
theorem Cut_f (s : ByteArray) (hs : s.size < 4294967281) (c : UInt8) : ∃ t u b, strings_Cut.f s ⟨#[c]⟩ = some (t, u, b) ∧ bytesOf t = (bytesOf s).takeWhile (fun x => x != (c.toNat : Int)) ∧ bytesOf u = ((bytesOf s).dropWhile (fun x => x != (c.toNat : Int))).drop 1 ∧ b = (bytesOf s).contains (c.toNat : Int) := by
  unfold strings_Cut.f; rw [if_pos (show (⟨#[c]⟩ : ByteArray).size = 1 from rfl)]; unfold strings_Cut.one_
  have ea : strings_Cut.at s ⟨#[c]⟩ = Lib.indexByte s.data.toList c := rfl
  rw [if_pos ⟨rfl, hs⟩, ea]
  rcases idx_while c s.data.toList with ⟨h1, h2, h3, h4⟩ | ⟨j, h1, h2, h3, h4, h5⟩
  · rw [nats_bts] at h2 h3 h4
    rw [h1, if_pos (by decide)]
    exact ⟨_, _, _, rfl, h2.symm, by rw [h3]; rfl, h4.symm⟩
  · rw [nats_bts] at h3 h4 h5
    rw [h1, if_neg (by omega), show ((j : Int)).toNat = j by omega]
    refine ⟨_, _, _, rfl, ?_, ?_, h5.symm⟩
    · rw [bts_extract, List.drop_zero, h3]
    · rw [bts_extract_to, h4, List.drop_drop]
-- blanks around
def blI (x : Int) : Bool := x == 32 || x == 9
def ltrim (l : List Int) : List Int := l.dropWhile blI
def rtrim (l : List Int) : List Int := (l.reverse.dropWhile blI).reverse
def trimN (l : List Int) : List Int := rtrim (ltrim l)
theorem rtrim_nil : rtrim [] = [] := rfl
theorem rtrim_snoc (l : List Int) (x : Int) : rtrim (l ++ [x]) = if blI x = true then rtrim l else l ++ [x] := by
  unfold rtrim
  rw [List.reverse_append]
  simp only [List.reverse_cons, List.reverse_nil, List.nil_append, List.cons_append, List.dropWhile_cons]
  split
  · rfl
  · simp
theorem rtrim_cons (x : Int) (l : List Int) : rtrim (x :: l) = if rtrim l = [] then (if blI x = true then [] else [x]) else x :: rtrim l := by
  unfold rtrim
  rw [List.reverse_cons, List.dropWhile_append]
  cases h : l.reverse.dropWhile blI with
  | nil =>
    simp only [List.isEmpty_nil, if_true, List.reverse_nil, List.dropWhile_cons, List.dropWhile_nil]
    split <;> simp
  | cons a t => simp
theorem ltrim_cons (x : Int) (l : List Int) : ltrim (x :: l) = if blI x = true then ltrim l else x :: l := by
  unfold ltrim
  rw [List.dropWhile_cons]
theorem trim_comm : ∀ l, ltrim (rtrim l) = trimN l
  | [] => rfl
  | x :: l => by
    have ih := trim_comm l
    unfold trimN at ih ⊢
    rw [ltrim_cons, rtrim_cons]
    by_cases hx : blI x = true
    · simp only [if_pos hx]
      by_cases hr : rtrim l = []
      · rw [if_pos hr]
        rw [hr] at ih
        exact ih
      · rw [if_neg hr, ltrim_cons, if_pos hx, ih]
    · simp only [if_neg hx]
      rw [rtrim_cons]
      by_cases hr : rtrim l = []
      · rw [if_pos hr, if_neg hx, ltrim_cons, if_neg hx, if_pos hr]
      · rw [if_neg hr, ltrim_cons, if_neg hx, if_neg hr]
theorem bl_eq (x : UInt8) : strings_Trim.bl x = blI (x.toNat : Int) := by
  unfold strings_Trim.bl blI
  rw [Bool.eq_iff_iff]
  simp only [List.contains_eq_mem, List.mem_cons, List.not_mem_nil, or_false, decide_eq_true_eq, Bool.or_eq_true, beq_iff_eq]
  constructor
  · rintro (rfl | rfl) <;> decide
  · rintro (h | h)
    · left; exact UInt8.toNat_inj.1 (show x.toNat = 32 by omega)
    · right; exact UInt8.toNat_inj.1 (show x.toNat = 9 by omega)
theorem bl_at (s : ByteArray) (i : Nat) (h : i < s.size) : strings_Trim.bl (s.data.toList.getD i 0) = blI (rd (bytesOf s) (i : Int)) := by
  rw [bl_eq]
  congr 1
  rw [← bt_rd]
  have hl : i < s.data.toList.length := by have := h; simpa using this
  rw [List.getD_eq_getElem?_getD, List.getElem?_eq_getElem hl]
  rw [bt_rd]
  unfold rd bytesOf
  simp [List.getD_eq_getElem?_getD, List.getElem?_eq_getElem hl]
theorem bts_trimR (s : ByteArray) : ∀ n, n ≤ s.size → bytesOf (s.extract 0 (strings_Trim.rcut s n)) = rtrim ((bytesOf s).take n)
  | 0, _ => by
    show bytesOf (s.extract 0 0) = _
    rw [bts_extract]; rfl
  | n + 1, h => by
    have hl : n < (bytesOf s).length := by rw [bytesOf_length]; omega
    unfold strings_Trim.rcut
    rw [bl_at s n (by omega), List.take_succ_eq_append_getElem hl, rtrim_snoc]
    have e : (bytesOf s)[n] = rd (bytesOf s) (n : Int) := by unfold rd; simp [List.getD_eq_getElem?_getD, List.getElem?_eq_getElem hl]
    rw [e]
    split
    · exact bts_trimR s n (by omega)
    · rw [bts_extract, List.drop_zero, List.take_succ_eq_append_getElem hl, e]
theorem bts_trimL (s : ByteArray) : ∀ f i, i + f = s.size → bytesOf (s.extract (strings_Trim.lcut s f i) s.size) = ltrim ((bytesOf s).drop i)
  | 0, i, h => by
    unfold strings_Trim.lcut
    rw [bts_extract_to, List.drop_of_length_le (by rw [bytesOf_length]; omega)]; rfl
  | f + 1, i, h => by
    unfold strings_Trim.lcut
    rw [bl_at s i (by omega), drop_rd (by rw [bytesOf_length]; omega), ltrim_cons]
    split
    · exact bts_trimL s f (i + 1) (by omega)
    · rw [bts_extract_to, drop_rd (by rw [bytesOf_length]; omega)]
theorem Trim_f (s : ByteArray) (hs : s.size ≤ 9223372036854775807) : ∃ t, chars_Trim.f s = some t ∧ bytesOf t = trimN (bytesOf s) ∧ t.size ≤ s.size := by
  unfold chars_Trim.f strings_Trim.f
  rw [if_pos ⟨rfl, hs⟩]
  have e : bytesOf (strings_Trim.trimL (strings_Trim.trimR s)) = trimN (bytesOf s) := by
    have e2 : bytesOf (strings_Trim.trimR s) = rtrim (bytesOf s) := by
      have := bts_trimR s s.size (Nat.le_refl _)
      rw [List.take_of_length_le (by rw [bytesOf_length]; exact Nat.le_refl _)] at this
      exact this
    have := bts_trimL (strings_Trim.trimR s) (strings_Trim.trimR s).size 0 (by omega)
    rw [List.drop_zero, e2, trim_comm] at this
    exact this
  refine ⟨_, rfl, e, ?_⟩
  unfold strings_Trim.trimL strings_Trim.trimR
  simp only [ByteArray.size_extract]
  omega
theorem Space_f (c : Int) : larumref01_Space.f c = some (blI c) := by
  unfold larumref01_Space.f blI
  by_cases h : c = 32 <;> simp [h]
theorem ex1 (s : ByteArray) (x : Int) (l : List Int) (h : bytesOf s = x :: l) : bytesOf (s.extract 1 s.size) = l := by
  rw [bts_extract_to, h]; rfl
theorem RTrim_l1 : ∀ (n : Nat) (s : ByteArray) (k : Nat), s.size = n → n + 1 ≤ k → s.size ≤ 5000000 → ∃ t, larumref01_Trim.l1 k s = some t ∧ bytesOf t = rtrim (bytesOf s)
  | 0, s, k, hs, hk, hb => by
    obtain ⟨k, rfl⟩ : ∃ j, k = j + 1 := ⟨k - 1, by omega⟩
    have e : bytesOf s = [] := List.eq_nil_of_length_eq_zero (by rw [bytesOf_length]; exact hs)
    simp only [larumref01_Trim.l1]
    rw [if_neg (by omega)]
    exact ⟨s, rfl, by rw [e]; rfl⟩
  | n + 1, s, k, hs, hk, hb => by
    obtain ⟨k, rfl⟩ : ∃ j, k = j + 1 := ⟨k - 1, by omega⟩
    have hl : n < (bytesOf s).length := by rw [bytesOf_length]; omega
    have e : bytesOf s = (bytesOf s).take n ++ [rd (bytesOf s) (n : Int)] := by
      have e1 := List.take_succ_eq_append_getElem hl
      rw [List.take_of_length_le (by rw [bytesOf_length]; omega)] at e1
      have e2 : (bytesOf s)[n] = rd (bytesOf s) (n : Int) := by unfold rd; simp [List.getD_eq_getElem?_getD, List.getElem?_eq_getElem hl]
      rw [← e2]; exact e1
    have ew : wrap64 ((s.size : Int) - 1) = (n : Int) := by rw [w64 (by omega)]; omega
    simp only [larumref01_Trim.l1]
    rw [if_pos (by omega), ew, if_pos (by omega), if_pos (by omega), bt_rd, Space_f]
    simp only [Option.bind_some]
    rw [e, rtrim_snoc, ← e]
    by_cases hb' : blI (rd (bytesOf s) (n : Int)) = true
    · rw [if_pos hb', if_pos hb', if_pos (by omega)]
      have ex : bytesOf (s.extract 0 (n : Int).toNat) = (bytesOf s).take n := by rw [show (n : Int).toNat = n by omega, bts_extract, List.drop_zero]
      have hz : (s.extract 0 (n : Int).toNat).size = n := by rw [bts_size, ex, List.length_take, bytesOf_length]; omega
      obtain ⟨t, t1, t2⟩ := RTrim_l1 n (s.extract 0 (n : Int).toNat) k hz (by omega) (by omega)
      exact ⟨t, t1, by rw [t2, ex]⟩
    · rw [if_neg hb', if_neg hb']
      exact ⟨s, rfl, rfl⟩
theorem RTrim_l0 : ∀ (n : Nat) (s : ByteArray) (k : Nat), s.size = n → 2 * n + 5 ≤ k → s.size ≤ 5000000 → ∃ t, larumref01_Trim.l0 k s = some t ∧ bytesOf t = trimN (bytesOf s)
  | 0, s, k, hs, hk, hb => by
    obtain ⟨k, rfl⟩ : ∃ j, k = j + 2 := ⟨k - 2, by omega⟩
    have e : bytesOf s = [] := List.eq_nil_of_length_eq_zero (by rw [bytesOf_length]; exact hs)
    simp only [larumref01_Trim.l0, larumref01_Trim.j1]
    rw [if_neg (by omega)]
    obtain ⟨t, t1, t2⟩ := RTrim_l1 0 s k hs (by omega) hb
    exact ⟨t, t1, by rw [t2, e]; rfl⟩
  | n + 1, s, k, hs, hk, hb => by
    obtain ⟨k, rfl⟩ : ∃ j, k = j + 2 := ⟨k - 2, by omega⟩
    cases h : bytesOf s with
    | nil => have := bytesOf_length s; rw [h] at this; simp at this; omega
    | cons x l =>
      have e0 : rd (bytesOf s) 0 = x := by rw [h]; rfl
      have ex := ex1 s x l h
      have hz : (s.extract 1 s.size).size = n := by rw [bts_size, ex]; have := bytesOf_length s; rw [h] at this; simp at this; omega
      simp only [larumref01_Trim.l0, larumref01_Trim.j1]
      rw [if_pos (by omega), if_pos (by omega), bt_rd, e0, Space_f]
      simp only [Option.bind_some]
      unfold trimN
      rw [ltrim_cons]
      by_cases hb' : blI x = true
      · rw [if_pos hb', if_pos hb', if_pos (by omega)]
        obtain ⟨t, t1, t2⟩ := RTrim_l0 n (s.extract 1 s.size) (k + 1) hz (by omega) (by omega)
        exact ⟨t, t1, by rw [t2, ex]; rfl⟩
      · rw [if_neg hb', if_neg hb']
        obtain ⟨t, t1, t2⟩ := RTrim_l1 (n + 1) s k hs (by omega) hb
        exact ⟨t, t1, by rw [t2, h]⟩
theorem RTrim_f (s : ByteArray) (hs : s.size ≤ 5000000) {k : Nat} (hk : 2 * s.size + 5 ≤ k) : ∃ t, larumref01_Trim.f k s = some t ∧ bytesOf t = trimN (bytesOf s) := RTrim_l0 s.size s k rfl hk hs
-- a field's line, as lists of numbers
def tokI (c : Int) : Bool := chars_Token.f c == some true
def valI (c : Int) : Bool := decide (c = 9 ∨ 32 ≤ c ∧ c ≠ 127)
def nameL (l : List Int) : List Int := l.takeWhile (fun x => x != 58)
def valueL (l : List Int) : List Int := (l.dropWhile (fun x => x != 58)).drop 1
def fieldOk (l : List Int) : Bool := l.contains 58 && (!(nameL l).isEmpty && (nameL l).all tokI) && (valueL l).all valI
def fieldR (l : List Int) : List Int × List Int × Bool := if fieldOk l = true then (nameL l, trimN (valueL l), true) else ([], [], false)
theorem tok_fin : ∀ c : Fin 256, chars_Token.f (c.val : Int) = some (tokI (c.val : Int)) := by decide +kernel
theorem tok_f {c : Int} (h : 0 ≤ c ∧ c ≤ 255) : chars_Token.f c = some (tokI c) := by
  have := tok_fin ⟨c.toNat, by omega⟩
  rwa [show ((⟨c.toNat, by omega⟩ : Fin 256).val : Int) = c from by show ((c.toNat : Nat) : Int) = c; omega] at this
theorem AllTok_l0 (s : ByteArray) (hs : s.size ≤ 10000000) : ∀ (d k i : Nat), i + d = s.size → d < k → chars_All_chars_Token_126.l0 k s (i : Int) = some (((bytesOf s).drop i).all tokI)
  | 0, k + 1, i, h1, h2 => by
    simp only [chars_All_chars_Token_126.l0]
    rw [if_neg (by omega), List.drop_of_length_le (by rw [← bts_size]; omega)]
    rfl
  | d + 1, k + 1, i, h1, h2 => by
    simp only [chars_All_chars_Token_126.l0]
    rw [if_pos (by omega), if_pos (by omega), bt_rd, tok_f ((bts_byt s).rd _), drop_rd (l := bytesOf s) (i := i) (by rw [← bts_size]; omega), List.all_cons]
    simp only [Option.bind_some]
    cases tokI (rd (bytesOf s) (i : Int)) with
    | true => rw [if_pos rfl, w64 (by omega), show (i : Int) + 1 = ((i + 1 : Nat) : Int) by omega, AllTok_l0 s hs d k (i + 1) (by omega) (by omega)]; rfl
    | false => rw [if_neg (by simp)]; rfl
theorem AllTok_f (s : ByteArray) (hs : s.size ≤ 10000000) {k : Nat} (hk : s.size < k) : chars_All_chars_Token_126.f k s = some ((bytesOf s).all tokI) := by
  unfold chars_All_chars_Token_126.f
  exact AllTok_l0 s hs s.size k 0 (by omega) hk
theorem val_f (c : Int) : head_inValue.f c = some (valI c) := by
  unfold head_inValue.f valI
  by_cases c1 : c = 9
  · rw [if_pos c1, decide_eq_true (Or.inl c1)]
  rw [if_neg c1]
  by_cases c2 : c ≥ 32
  · rw [if_pos c2]
    have : (c != 127) = decide (c = 9 ∨ 32 ≤ c ∧ c ≠ 127) := by rw [Bool.eq_iff_iff, bne_iff_ne, decide_eq_true_eq]; omega
    rw [this]
  · rw [if_neg c2, decide_eq_false (by omega)]
theorem AllVal_l0 (s : ByteArray) (hs : s.size ≤ 10000000) : ∀ (d k i : Nat), i + d = s.size → d < k → chars_All_head_inValue_127.l0 k s (i : Int) = some (((bytesOf s).drop i).all valI)
  | 0, k + 1, i, h1, h2 => by
    simp only [chars_All_head_inValue_127.l0]
    rw [if_neg (by omega), List.drop_of_length_le (by rw [← bts_size]; omega)]
    rfl
  | d + 1, k + 1, i, h1, h2 => by
    simp only [chars_All_head_inValue_127.l0]
    rw [if_pos (by omega), if_pos (by omega), bt_rd, val_f, drop_rd (l := bytesOf s) (i := i) (by rw [← bts_size]; omega), List.all_cons]
    simp only [Option.bind_some]
    cases valI (rd (bytesOf s) (i : Int)) with
    | true => rw [if_pos rfl, w64 (by omega), show (i : Int) + 1 = ((i + 1 : Nat) : Int) by omega, AllVal_l0 s hs d k (i + 1) (by omega) (by omega)]; rfl
    | false => rw [if_neg (by simp)]; rfl
theorem AllVal_f (s : ByteArray) (hs : s.size ≤ 10000000) {k : Nat} (hk : s.size < k) : chars_All_head_inValue_127.f k s = some ((bytesOf s).all valI) := by
  unfold chars_All_head_inValue_127.f
  exact AllVal_l0 s hs s.size k 0 (by omega) hk
theorem while_len (p : Int → Bool) (l : List Int) : (l.takeWhile p).length ≤ l.length ∧ (l.dropWhile p).length ≤ l.length := by
  induction l with
  | nil => simp
  | cons x l ih =>
    rw [List.takeWhile_cons, List.dropWhile_cons]
    split
    · simp only [List.length_cons]; omega
    · simp
theorem OfField_f (s : ByteArray) (hs : s.size ≤ 5000000) {k : Nat} (hk : 5000001 ≤ k) : ∃ a b, head_OfField.f k s = some (a, b, (fieldR (bytesOf s)).2.2) ∧ bytesOf a = (fieldR (bytesOf s)).1 ∧ bytesOf b = (fieldR (bytesOf s)).2.1 ∧ a.size ≤ s.size ∧ b.size ≤ s.size := by
  obtain ⟨t, u, b, e1, e2, e3, e4⟩ := Cut_f s (by omega) 58
  have e2' : bytesOf t = nameL (bytesOf s) := e2
  have e3' : bytesOf u = valueL (bytesOf s) := e3
  have e4' : b = (bytesOf s).contains 58 := e4
  have hz := bts_size s
  have hw := while_len (fun x => x != 58) (bytesOf s)
  have ht : t.size ≤ s.size := by rw [bts_size, e2', hz]; exact hw.1
  have hu : u.size ≤ s.size := by
    rw [bts_size, e3', hz]
    unfold valueL
    rw [List.length_drop]
    omega
  have fail : fieldOk (bytesOf s) = false → ∃ a b, (some ((⟨#[]⟩ : ByteArray), (⟨#[]⟩ : ByteArray), false) : Option (ByteArray × ByteArray × Bool)) = some (a, b, (fieldR (bytesOf s)).2.2) ∧ bytesOf a = (fieldR (bytesOf s)).1 ∧ bytesOf b = (fieldR (bytesOf s)).2.1 ∧ a.size ≤ s.size ∧ b.size ≤ s.size := by
    intro h
    unfold fieldR
    rw [if_neg (by rw [h]; simp)]
    exact ⟨_, _, rfl, rfl, rfl, Nat.zero_le _, Nat.zero_le _⟩
  unfold head_OfField.f
  rw [show (⟨#[58]⟩ : ByteArray) = ⟨#[(58 : UInt8)]⟩ from rfl, e1]
  simp only [Option.bind_some]
  cases b with
  | false => rw [if_neg (by simp)]; exact fail (by unfold fieldOk; rw [← e4']; rfl)
  | true =>
    rw [if_pos rfl]
    by_cases c1 : t.toList = ([] : List UInt8)
    · rw [if_pos c1]
      have : nameL (bytesOf s) = [] := by rw [← e2']; exact (tl_nil t).1 c1
      exact fail (by unfold fieldOk; rw [this]; simp)
    have c1' : (nameL (bytesOf s)).isEmpty = false := by
      cases h : nameL (bytesOf s) with
      | nil => exact absurd ((tl_nil t).2 (by rw [e2', h])) c1
      | cons x l => rfl
    rw [if_neg c1, AllTok_f t (by omega) (by omega), e2']
    simp only [Option.bind_some]
    cases c2 : (nameL (bytesOf s)).all tokI with
    | false => rw [if_neg (by simp)]; exact fail (by unfold fieldOk; rw [c2]; simp)
    | true =>
      rw [if_pos rfl, AllVal_f u (by omega) (by omega), e3']
      simp only [Option.bind_some]
      cases c3 : (valueL (bytesOf s)).all valI with
      | false => rw [if_neg (by simp)]; exact fail (by unfold fieldOk; rw [c3]; simp)
      | true =>
        obtain ⟨v, v1, v2, v3⟩ := Trim_f u (by omega)
        rw [if_pos rfl, v1]
        have hok : fieldOk (bytesOf s) = true := by unfold fieldOk; rw [← e4', c1', c2, c3]; rfl
        unfold fieldR
        rw [if_pos hok]
        exact ⟨t, v, rfl, e2', by rw [v2, e3'], ht, by omega⟩
theorem rtok_fin : ∀ c : Fin 256, larumref01_Token.f 40 (c.val : Int) = some (tokI (c.val : Int)) := by decide +kernel
theorem rtok_f {c : Int} (h : 0 ≤ c ∧ c ≤ 255) {k : Nat} (hk : 40 ≤ k) : larumref01_Token.f k c = some (tokI c) := by
  have := rtok_fin ⟨c.toNat, by omega⟩
  rw [show ((⟨c.toNat, by omega⟩ : Fin 256).val : Int) = c from by show ((c.toNat : Nat) : Int) = c; omega] at this
  exact at_rounds (g := fun k => larumref01_Token.f k c) (fun k => larumref01_Token.mono c k) hk this
theorem rtoken_l0 (s : ByteArray) (hs : s.size ≤ 10000000) : ∀ (d k i : Nat), i + d = s.size → d + 40 < k → larumref10_token.l0 k s (i : Int) = some (((bytesOf s).drop i).all tokI && !(bytesOf s).isEmpty)
  | 0, k + 1, i, h1, h2 => by
    simp only [larumref10_token.l0]
    rw [if_neg (by omega), List.drop_of_length_le (by rw [← bts_size]; omega)]
    have : (s.toList != ([] : List UInt8)) = !(bytesOf s).isEmpty := by
      rw [Bool.eq_iff_iff, bne_iff_ne, ne_eq, tl_nil]
      cases bytesOf s <;> simp
    rw [this]; rfl
  | d + 1, k + 1, i, h1, h2 => by
    simp only [larumref10_token.l0]
    rw [if_pos (by omega), if_pos (by omega), bt_rd, rtok_f ((bts_byt s).rd _) (by omega), drop_rd (l := bytesOf s) (i := i) (by rw [← bts_size]; omega), List.all_cons]
    simp only [Option.bind_some]
    cases tokI (rd (bytesOf s) (i : Int)) with
    | true => rw [if_pos rfl, w64 (by omega), show (i : Int) + 1 = ((i + 1 : Nat) : Int) by omega, rtoken_l0 s hs d k (i + 1) (by omega) (by omega)]; rfl
    | false => rw [if_neg (by simp)]; rfl
theorem rtoken_f (s : ByteArray) (hs : s.size ≤ 10000000) {k : Nat} (hk : s.size + 40 < k) : larumref10_token.f k s = some ((bytesOf s).all tokI && !(bytesOf s).isEmpty) := by
  unfold larumref10_token.f
  exact rtoken_l0 s hs s.size k 0 (by omega) hk
theorem rOf_l1 (s : ByteArray) (hs : s.size ≤ 5000000) (j : Nat) (hj : j < s.size) : ∀ (d k i : Nat), i + d = s.size → d + 2 * s.size + 100 < k → j + 1 ≤ i →
    ∃ a b, larumref10_OfField.l1 k s (j : Int) (i : Int) = some (a, b, ((bytesOf s).drop i).all valI) ∧ (((bytesOf s).drop i).all valI = true → bytesOf a = (bytesOf s).take j ∧ bytesOf b = trimN ((bytesOf s).drop (j + 1))) ∧ (((bytesOf s).drop i).all valI = false → a = (⟨#[]⟩ : ByteArray) ∧ b = (⟨#[]⟩ : ByteArray))
  | 0, k + 1, i, h1, h2, h3 => by
    obtain ⟨v, v1, v2⟩ := RTrim_f (s.extract (j + 1) s.size) (by rw [bts_size, bts_extract_to, List.length_drop, ← bts_size]; omega) (k := k) (by rw [bts_size (s.extract (j + 1) s.size), bts_extract_to, List.length_drop, ← bts_size]; omega)
    simp only [larumref10_OfField.l1]
    rw [if_neg (by omega), if_pos (by omega), if_pos (by omega), w64 (by omega), if_pos (by omega), if_pos (by omega), show ((j : Int) + 1).toNat = j + 1 by omega, show ((j : Int)).toNat = j by omega, v1, List.drop_of_length_le (by rw [← bts_size]; omega)]
    refine ⟨_, _, rfl, fun _ => ⟨by rw [bts_extract]; simp, by rw [v2, bts_extract_to]⟩, fun h => by simp at h⟩
  | d + 1, k + 1, i, h1, h2, h3 => by
    have next := rOf_l1 s hs j hj d k (i + 1) (by omega) (by omega) (by omega)
    have hd := drop_rd (l := bytesOf s) (i := i) (by rw [← bts_size]; omega)
    simp only [larumref10_OfField.l1]
    rw [if_pos (by omega), if_pos (by omega), bt_rd, w64 (by omega), show (i : Int) + 1 = ((i + 1 : Nat) : Int) by omega, hd, List.all_cons]
    generalize rd (bytesOf s) (i : Int) = c
    have good : valI c = true → ∃ a b, larumref10_OfField.l1 k s (j : Int) ((i + 1 : Nat) : Int) = some (a, b, (valI c && ((bytesOf s).drop (i + 1)).all valI)) ∧ ((valI c && ((bytesOf s).drop (i + 1)).all valI) = true → bytesOf a = (bytesOf s).take j ∧ bytesOf b = trimN ((bytesOf s).drop (j + 1))) ∧ ((valI c && ((bytesOf s).drop (i + 1)).all valI) = false → a = (⟨#[]⟩ : ByteArray) ∧ b = (⟨#[]⟩ : ByteArray)) := by
      intro h
      rw [h, Bool.true_and]
      exact next
    have bad : valI c = false → ∃ a b, (some ((⟨#[]⟩ : ByteArray), (⟨#[]⟩ : ByteArray), false) : Option (ByteArray × ByteArray × Bool)) = some (a, b, (valI c && ((bytesOf s).drop (i + 1)).all valI)) ∧ ((valI c && ((bytesOf s).drop (i + 1)).all valI) = true → bytesOf a = (bytesOf s).take j ∧ bytesOf b = trimN ((bytesOf s).drop (j + 1))) ∧ ((valI c && ((bytesOf s).drop (i + 1)).all valI) = false → a = (⟨#[]⟩ : ByteArray) ∧ b = (⟨#[]⟩ : ByteArray)) := by
      intro h
      rw [h, Bool.false_and]
      exact ⟨_, _, rfl, fun h => Bool.noConfusion h, fun _ => ⟨rfl, rfl⟩⟩
    by_cases c1 : c = 9
    · rw [if_pos c1]; exact good (by unfold valI; rw [decide_eq_true (Or.inl c1)])
    rw [if_neg c1]
    by_cases c2 : c < 32
    · rw [if_pos c2]; exact bad (by unfold valI; rw [decide_eq_false (by omega)])
    rw [if_neg c2]
    by_cases c3 : c = 127
    · rw [if_pos c3]; exact bad (by unfold valI; rw [decide_eq_false (by omega)])
    · rw [if_neg c3]; exact good (by unfold valI; rw [decide_eq_true (by omega)])
theorem take_while (l : List Int) : ∀ (i : Nat), (∀ j, j < i → rd l (j : Int) ≠ 58) → i ≤ l.length → l.takeWhile (fun x => x != 58) = l.take i ++ (l.drop i).takeWhile (fun x => x != 58) ∧ l.dropWhile (fun x => x != 58) = (l.drop i).dropWhile (fun x => x != 58) ∧ l.contains 58 = (l.drop i).contains 58
  | 0, _, _ => by simp
  | i + 1, h, hi => by
    obtain ⟨h1, h2, h3⟩ := take_while l i (fun j hj => h j (by omega)) (by omega)
    have hd := drop_rd (l := l) (i := i) (by omega)
    have hx := h i (by omega)
    rw [h1, h2, h3, hd, List.takeWhile_cons, List.dropWhile_cons, if_pos (by simpa using hx), if_pos (by simpa using hx), List.contains_cons]
    refine ⟨?_, rfl, ?_⟩
    · have : l.take (i + 1) = l.take i ++ [rd l (i : Int)] := by
        have e1 : l = l.take i ++ (rd l (i : Int) :: l.drop (i + 1)) := by rw [← hd, List.take_append_drop]
        have hl : (l.take i).length = i := by rw [List.length_take]; omega
        conv => lhs; rw [e1]
        rw [List.take_append, hl, show i + 1 - i = 1 by omega, List.take_of_length_le (by omega)]
        rfl
      rw [this]; simp
    · have : ((58 : Int) == rd l (i : Int)) = false := by simpa using fun e => hx e.symm
      rw [this, Bool.false_or]
theorem rOf_j1_none (s : ByteArray) (hs : s.size ≤ 5000000) {k : Nat} (hk : 2 ≤ k) : larumref10_OfField.j1 k s (s.size : Int) = some ((⟨#[]⟩ : ByteArray), (⟨#[]⟩ : ByteArray), false) := by
  obtain ⟨k, rfl⟩ : ∃ m, k = m + 2 := ⟨k - 2, by omega⟩
  simp only [larumref10_OfField.j1, larumref10_OfField.j2, if_true]
theorem rOf_at (s : ByteArray) (hs : s.size ≤ 5000000) : ∀ (d k i : Nat), i + d = s.size → d + 3 * s.size + 300 < k → (∀ j, j < i → rd (bytesOf s) (j : Int) ≠ 58) →
    ∃ a b, larumref10_OfField.l0 k s (i : Int) = some (a, b, (fieldR (bytesOf s)).2.2) ∧ bytesOf a = (fieldR (bytesOf s)).1 ∧ bytesOf b = (fieldR (bytesOf s)).2.1
  | 0, k + 1, i, h1, h2, h3 => by
    have hz := bts_size s
    obtain ⟨t1, t2, t3⟩ := take_while (bytesOf s) i h3 (by omega)
    simp only [larumref10_OfField.l0]
    rw [if_neg (by omega), show (i : Int) = (s.size : Int) by omega, rOf_j1_none s hs (by omega)]
    have hno : fieldOk (bytesOf s) = false := by
      unfold fieldOk
      rw [t3, List.drop_of_length_le (by omega)]
      rfl
    unfold fieldR
    rw [if_neg (by rw [hno]; simp)]
    exact ⟨_, _, rfl, rfl, rfl⟩
  | d + 1, k + 1, i, h1, h2, h3 => by
    have hz := bts_size s
    simp only [larumref10_OfField.l0]
    rw [if_pos (by omega), if_pos (by omega), bt_rd]
    by_cases c : rd (bytesOf s) (i : Int) = 58
    · obtain ⟨t1, t2, t3⟩ := take_while (bytesOf s) i h3 (by omega)
      have hd := drop_rd (l := bytesOf s) (i := i) (by omega)
      rw [hd, c, List.takeWhile_cons, if_neg (by simp), List.append_nil] at t1
      rw [hd, c, List.dropWhile_cons, if_neg (by simp)] at t2
      rw [hd, c, List.contains_cons, show ((58 : Int) == 58) = true from rfl, Bool.true_or] at t3
      have en : nameL (bytesOf s) = (bytesOf s).take i := t1
      have ev : valueL (bytesOf s) = (bytesOf s).drop (i + 1) := by unfold valueL; rw [t2]; rfl
      have hok : fieldOk (bytesOf s) = ((((bytesOf s).take i).all tokI && !((bytesOf s).take i).isEmpty) && ((bytesOf s).drop (i + 1)).all valI) := by
        unfold fieldOk
        rw [t3, en, ev, Bool.true_and]
        congr 1
        exact Bool.and_comm _ _
      obtain ⟨k, rfl⟩ : ∃ m, k = m + 2 := ⟨k - 2, by omega⟩
      rw [if_pos c]
      simp only [larumref10_OfField.j1]
      rw [if_neg (by omega), if_pos (by omega), if_pos (by omega), show ((i : Int)).toNat = i by omega, rtoken_f _ (by rw [bts_size, bts_extract, List.drop_zero, List.length_take]; omega) (by rw [bts_size (s.extract 0 i), bts_extract, List.drop_zero, List.length_take]; omega), bts_extract, List.drop_zero]
      simp only [Option.bind_some, larumref10_OfField.j2]
      unfold fieldR
      cases ct : (((bytesOf s).take i).all tokI && !((bytesOf s).take i).isEmpty) with
      | false =>
        rw [ct, Bool.false_and] at hok
        rw [if_pos (by simp), if_neg (by rw [hok]; simp)]
        exact ⟨_, _, rfl, rfl, rfl⟩
      | true =>
        rw [ct, Bool.true_and] at hok
        obtain ⟨a, b, e1, e2, e3⟩ := rOf_l1 s hs i (by omega) (s.size - (i + 1)) k (i + 1) (by omega) (by omega) (by omega)
        rw [if_neg (by simp), w64 (by omega), show (i : Int) + 1 = ((i + 1 : Nat) : Int) by omega, e1]
        cases cv : ((bytesOf s).drop (i + 1)).all valI with
        | false =>
          rw [cv] at hok
          rw [if_neg (by rw [hok]; simp)]
          obtain ⟨rfl, rfl⟩ := e3 cv
          exact ⟨_, _, rfl, rfl, rfl⟩
        | true =>
          rw [cv] at hok
          rw [if_pos hok]
          obtain ⟨f1, f2⟩ := e2 cv
          exact ⟨a, b, rfl, by rw [f1, en], by rw [f2, ev]⟩
    · rw [if_neg c, w64 (by omega), show (i : Int) + 1 = ((i + 1 : Nat) : Int) by omega]
      exact rOf_at s hs d k (i + 1) (by omega) (by omega) (fun j hj => by
        by_cases e : j = i
        · subst e; exact c
        · exact h3 j (by omega))
theorem rOf_f (s : ByteArray) (hs : s.size ≤ 5000000) {k : Nat} (hk : 4 * s.size + 301 < k) : ∃ a b, larumref10_OfField.f k s = some (a, b, (fieldR (bytesOf s)).2.2) ∧ bytesOf a = (fieldR (bytesOf s)).1 ∧ bytesOf b = (fieldR (bytesOf s)).2.1 := by
  unfold larumref10_OfField.f
  exact rOf_at s hs s.size k 0 (by omega) (by omega) (fun j hj => by omega)
-- the first place of a text in a text, as lists of numbers
def idxL (p : List Int) : List Int → Int
  | [] => if p.isEmpty then 0 else -1
  | b :: l => if p.isPrefixOf (b :: l) then 0 else if idxL p l = -1 then -1 else idxL p l + 1
theorem idx_nats (p : List UInt8) : ∀ l : List UInt8, Lib.index l p = idxL (nats p) (nats l)
  | [] => by
    unfold Lib.index
    show _ = (if (nats p).isEmpty then (0 : Int) else -1)
    have : (nats p).isEmpty = p.isEmpty := by cases p <;> rfl
    rw [this]
  | b :: l => by
    have e : nats (b :: l) = (b.toNat : Int) :: nats l := rfl
    unfold Lib.index
    rw [e, pre_nats, idx_nats p l, e]
    show _ = (if (nats p).isPrefixOf ((b.toNat : Int) :: nats l) then (0 : Int) else if idxL (nats p) (nats l) = -1 then -1 else idxL (nats p) (nats l) + 1)
    simp only [beq_iff_eq]
theorem idxL_spec (p : List Int) : ∀ l : List Int, (idxL p l = -1 ∧ ∀ j, j ≤ l.length → ¬ p <+: l.drop j) ∨ ∃ i : Nat, idxL p l = i ∧ i ≤ l.length ∧ p <+: l.drop i ∧ ∀ j, j < i → ¬ p <+: l.drop j
  | [] => by
    cases p with
    | nil => exact Or.inr ⟨0, rfl, Nat.le_refl _, List.prefix_rfl, fun j hj => by omega⟩
    | cons a t => exact Or.inl ⟨rfl, fun j _ h => by simp at h⟩
  | b :: l => by
    by_cases h0 : p.isPrefixOf (b :: l) = true
    · exact Or.inr ⟨0, by unfold idxL; rw [if_pos h0]; rfl, Nat.zero_le _, List.isPrefixOf_iff_prefix.1 h0, fun j hj => by omega⟩
    · have h0' : ¬ p <+: (b :: l) := fun h => h0 (List.isPrefixOf_iff_prefix.2 h)
      rcases idxL_spec p l with ⟨h1, h2⟩ | ⟨i, h1, h2, h3, h4⟩
      · refine Or.inl ⟨by unfold idxL; rw [if_neg h0, if_pos h1], fun j hj => ?_⟩
        cases j with
        | zero => exact h0'
        | succ j => exact h2 j (by simp at hj; omega)
      · refine Or.inr ⟨i + 1, ?_, by simp; omega, by simpa using h3, fun j hj => ?_⟩
        · unfold idxL
          rw [if_neg h0, h1, if_neg (by omega)]
          omega
        · cases j with
          | zero => exact h0'
          | succ j => exact h4 j (by omega)
theorem idxL_at {p l : List Int} {i : Nat} (hi : i ≤ l.length) (h : p <+: l.drop i) (hn : ∀ j, j < i → ¬ p <+: l.drop j) : idxL p l = i := by
  rcases idxL_spec p l with ⟨_, h2⟩ | ⟨k, h1, h2, h3, h4⟩
  · exact absurd h (h2 i hi)
  · have : k = i := by
      rcases Nat.lt_trichotomy k i with h' | h' | h'
      · exact absurd h3 (hn k h')
      · exact h'
      · exact absurd h (h4 i h')
    rw [h1, this]
theorem idxL_none {p l : List Int} (h : ∀ j, j ≤ l.length → ¬ p <+: l.drop j) : idxL p l = -1 := by
  rcases idxL_spec p l with ⟨h1, _⟩ | ⟨k, _, h2, h3, _⟩
  · exact h1
  · exact absurd h3 (h k h2)
theorem idxL_ge (p l : List Int) : idxL p l = -1 ∨ 0 ≤ idxL p l := by
  rcases idxL_spec p l with ⟨h1, _⟩ | ⟨k, h1, _⟩
  · exact Or.inl h1
  · exact Or.inr (by omega)
theorem idxL_room {p l : List Int} {i : Nat} (h : idxL p l = i) : i + p.length ≤ l.length := by
  rcases idxL_spec p l with ⟨h1, _⟩ | ⟨k, h1, h2, h3, h4⟩
  · omega
  · have : k = i := by omega
    subst this
    have := h3.length_le
    rw [List.length_drop] at this
    omega
theorem idxL_cons (p : List Int) (b : Int) (l : List Int) : idxL p (b :: l) = if p.isPrefixOf (b :: l) then 0 else if idxL p l = -1 then -1 else idxL p l + 1 := rfl
/-- Behind what does not begin such a text. -/
theorem idxL_skip {a : Int} {p : List Int} (m : List Int) : ∀ {x : List Int}, (∀ y ∈ x, y ≠ a) → idxL (a :: p) (x ++ m) = if idxL (a :: p) m = -1 then -1 else idxL (a :: p) m + (x.length : Int)
  | [], _ => by
    rw [List.nil_append]
    split
    · assumption
    · simp
  | y :: x, h => by
    have hy := h y (by simp)
    have ih := idxL_skip (p := p) m (x := x) (fun z hz => h z (by simp [hz]))
    have hp : ¬ (a :: p).isPrefixOf (y :: (x ++ m)) = true := by
      rw [List.isPrefixOf_iff_prefix, List.cons_prefix_cons]
      exact fun e => hy e.1.symm
    rw [List.cons_append, idxL_cons, if_neg hp, ih]
    rcases idxL_ge (a :: p) m with h1 | h1
    · rw [h1]; rfl
    · rw [if_neg (show ¬ idxL (a :: p) m = -1 by omega), if_neg (by omega), if_neg (show ¬ idxL (a :: p) m = -1 by omega), List.length_cons]
      omega
theorem idxL_here (a : Int) (p m : List Int) : idxL (a :: p) (a :: p ++ m) = 0 := by
  have : (a :: p).isPrefixOf (a :: (p ++ m)) = true := by
    rw [List.isPrefixOf_iff_prefix]
    exact ⟨m, rfl⟩
  rw [List.cons_append, idxL_cons, if_pos this]
theorem idxL_no {a : Int} {p : List Int} {x : List Int} (h : ∀ y ∈ x, y ≠ a) : idxL (a :: p) x = -1 := by
  have := idxL_skip (p := p) [] h
  rw [List.append_nil] at this
  rw [this, if_pos (show idxL (a :: p) [] = -1 from rfl)]
theorem idxL_first {a : Int} {p m : List Int} {x : List Int} (h : ∀ y ∈ x, y ≠ a) : idxL (a :: p) (x ++ (a :: p ++ m)) = (x.length : Int) := by
  rw [idxL_skip _ h, idxL_here, if_neg (by decide)]
  omega
/-- A beginning of a text. -/
theorem idxL_take {p l : List Int} (hp : p ≠ []) {i : Nat} (h : idxL p l = i) (n : Nat) : idxL p (l.take n) = if i + p.length ≤ n then (i : Int) else -1 := by
  have key : ∀ j, p <+: (l.take n).drop j ↔ p <+: l.drop j ∧ p.length ≤ n - j := by
    intro j
    rw [List.drop_take, List.prefix_take_iff]
  have hl := idxL_room h
  have hpl : 0 < p.length := List.length_pos_iff.2 hp
  rcases idxL_spec p l with ⟨h1, _⟩ | ⟨k, h1, h2, h3, h4⟩
  · omega
  · have : k = i := by omega
    subst this
    by_cases c : k + p.length ≤ n
    · rw [if_pos c]
      refine idxL_at (by rw [List.length_take]; omega) ((key k).2 ⟨h3, by omega⟩) (fun j hj hh => h4 j hj ((key j).1 hh).1)
    · rw [if_neg c]
      refine idxL_none (fun j _ hh => ?_)
      obtain ⟨q1, q2⟩ := (key j).1 hh
      by_cases hj : j < k
      · exact h4 j hj q1
      · omega
theorem Index_f (s p : ByteArray) (hs : s.size < 4294967281) : strings_Index.f s p = some (idxL (bytesOf p) (bytesOf s)) := by
  unfold strings_Index.f
  rw [if_pos hs, idx_nats]
  rfl
-- a line of a text, as the document's and the program's
theorem crlf_at (l : List Int) (i : Nat) : [13, 10] <+: l.drop i ↔ i + 1 < l.length ∧ rd l (i : Int) = 13 ∧ rd l ((i + 1 : Nat) : Int) = 10 := by
  by_cases h : i + 1 < l.length
  · rw [drop_rd (l := l) (i := i) (by omega), drop_rd (l := l) (i := i + 1) h, List.cons_prefix_cons, List.cons_prefix_cons]
    constructor
    · rintro ⟨h1, h2, _⟩
      exact ⟨h, h1.symm, h2.symm⟩
    · rintro ⟨_, h1, h2⟩
      exact ⟨h1.symm, h2.symm, List.nil_prefix⟩
  · constructor
    · intro hp
      have := hp.length_le
      rw [List.length_drop] at this
      simp only [List.length_cons, List.length_nil] at this
      omega
    · exact fun hp => absurd hp.1 h
theorem ending_l0 (s : ByteArray) (hs : s.size ≤ 10000000) : ∀ (d k i : Nat), i + d = s.size → d < k → (∀ j, j < i → ¬ [13, 10] <+: (bytesOf s).drop j) → larumref10_ending.l0 k s (i : Int) = some (idxL [13, 10] (bytesOf s))
  | 0, k + 1, i, h1, h2, h3 => by
    have hz := bts_size s
    simp only [larumref10_ending.l0]
    rw [w64 (by omega), if_neg (by omega), idxL_none (fun j hj hp => by
      by_cases c : j < i
      · exact h3 j c hp
      · have := ((crlf_at _ _).1 hp).1
        omega)]
  | d + 1, k + 1, i, h1, h2, h3 => by
    have hz := bts_size s
    have next := fun h4 => ending_l0 s hs d k (i + 1) (by omega) (by omega) h4
    have more : ¬ [13, 10] <+: (bytesOf s).drop i → larumref10_ending.l0 k s ((i + 1 : Nat) : Int) = some (idxL [13, 10] (bytesOf s)) := fun h => next (fun j hj => by
      by_cases e : j = i
      · subst e; exact h
      · exact h3 j (by omega))
    simp only [larumref10_ending.l0]
    rw [w64 (by omega), show (i : Int) + 1 = ((i + 1 : Nat) : Int) by omega]
    by_cases c0 : i + 1 < s.size
    · rw [if_pos (by omega), if_pos (by omega), if_pos (by omega), bt_rd, bt_rd]
      by_cases c1 : rd (bytesOf s) (i : Int) = 13
      · rw [if_pos c1, if_pos (by omega)]
        by_cases c2 : rd (bytesOf s) ((i + 1 : Nat) : Int) = 10
        · rw [if_pos c2, idxL_at (by omega) ((crlf_at _ _).2 ⟨by omega, c1, c2⟩) h3]
        · rw [if_neg c2]
          exact more (fun h => c2 ((crlf_at _ _).1 h).2.2)
      · rw [if_neg c1]
        exact more (fun h => c1 ((crlf_at _ _).1 h).2.1)
    · rw [if_neg (by omega), idxL_none (fun j hj hp => by
        by_cases c : j < i
        · exact h3 j c hp
        · have := ((crlf_at _ _).1 hp).1
          omega)]
theorem ending_f (s : ByteArray) (hs : s.size ≤ 10000000) {k : Nat} (hk : s.size < k) : larumref10_ending.f k s = some (idxL [13, 10] (bytesOf s)) := by
  unfold larumref10_ending.f
  exact ending_l0 s hs s.size k 0 (by omega) hk (fun j hj => by omega)
/-- How a line stands: 0 there it is, 1 it has not ended, 2 it is too long. -/
def howL (n : Nat) (most i : Int) : Int := if i < 0 then (if (n : Int) - 1 ≤ most then 1 else 2) else if i ≤ most then 0 else 2
theorem Line_f (s : ByteArray) (hs : s.size ≤ 10000000) (most : Int) {k : Nat} (hk : 1 ≤ k) : head_Line.f k s most = some (if howL s.size most (idxL [13, 10] (bytesOf s)) = 0 then s.extract 0 (idxL [13, 10] (bytesOf s)).toNat else ⟨#[]⟩, if howL s.size most (idxL [13, 10] (bytesOf s)) = 0 then idxL [13, 10] (bytesOf s) + 2 else 0, decide (howL s.size most (idxL [13, 10] (bytesOf s)) ≤ 1)) := by
  obtain ⟨k, rfl⟩ : ∃ m, k = m + 1 := ⟨k - 1, by omega⟩
  have hz := bts_size s
  have hw : wrap64 ((s.size : Int) - 1) = (s.size : Int) - 1 := w64 (by omega)
  unfold head_Line.f
  rw [Index_f s _ (by omega), show bytesOf (⟨#[13, 10]⟩ : ByteArray) = [13, 10] from rfl]
  simp only [Option.bind_some, head_Line.j0, hw]
  rcases idxL_spec [13, 10] (bytesOf s) with ⟨e, _⟩ | ⟨i, e, hi, _, _⟩
  · rw [e]
    unfold howL
    by_cases c : (s.size : Int) - 1 ≤ most
    · simp [c]
    · simp [c]
  · rw [e]
    have h0 : ¬ (i : Int) < 0 := by omega
    have hw2 : wrap64 ((i : Int) + 2) = (i : Int) + 2 := w64 (by omega)
    have h1 : (i : Int) ≥ 0 := by omega
    have h2 : 0 ≤ (i : Int) := by omega
    have h3 : (i : Int) ≤ (s.size : Int) := by omega
    have howc : howL s.size most (i : Int) = if (i : Int) ≤ most then 0 else 2 := by unfold howL; rw [if_neg h0]
    rw [howc, if_pos h1]
    by_cases c : (i : Int) ≤ most
    · rw [if_pos (decide_eq_true c), if_pos h2, if_pos h3, if_pos c, if_pos rfl, if_pos rfl, hw2]
      rfl
    · rw [if_neg (by simpa using c), if_neg h0, if_neg c]
      rfl
theorem rLine_f (s : ByteArray) (hs : s.size ≤ 10000000) (most : Int) {k : Nat} (hk : s.size + 1 < k) : larumref10_Line.f k s most = some (if howL s.size most (idxL [13, 10] (bytesOf s)) = 0 then s.extract 0 (idxL [13, 10] (bytesOf s)).toNat else ⟨#[]⟩, howL s.size most (idxL [13, 10] (bytesOf s))) := by
  have hz := bts_size s
  have hw : wrap64 ((s.size : Int) - 1) = (s.size : Int) - 1 := w64 (by omega)
  unfold larumref10_Line.f
  rw [ending_f s hs (by omega)]
  obtain ⟨k, rfl⟩ : ∃ m, k = m + 1 := ⟨k - 1, by omega⟩
  simp only [Option.bind_some, larumref10_Line.j0, hw]
  rcases idxL_spec [13, 10] (bytesOf s) with ⟨e, _⟩ | ⟨i, e, hi, _, _⟩
  · rw [e]
    have howc : howL s.size most (-1) = if (s.size : Int) - 1 ≤ most then 1 else 2 := by unfold howL; rw [if_pos (by omega)]
    rw [howc, if_pos (by omega)]
    by_cases c : (s.size : Int) - 1 ≤ most
    · have c' : ¬ ((s.size : Int) - 1 > most) := by omega
      have d : ¬ decide ((-1 : Int) > most) = true := by rw [decide_eq_true_eq]; omega
      rw [if_neg c', if_neg d, if_pos (by omega), if_pos c]; rfl
    · have c' : (s.size : Int) - 1 > most := by omega
      rw [if_pos c', if_pos trivial, if_neg c]; rfl
  · rw [e]
    have h0 : ¬ (i : Int) < 0 := by omega
    have h2 : 0 ≤ (i : Int) := by omega
    have h3 : (i : Int) ≤ (s.size : Int) := by omega
    have howc : howL s.size most (i : Int) = if (i : Int) ≤ most then 0 else 2 := by unfold howL; rw [if_neg h0]
    rw [howc, if_neg h0]
    by_cases c : (i : Int) ≤ most
    · have d : ¬ decide ((i : Int) > most) = true := by rw [decide_eq_true_eq]; omega
      rw [if_neg d, if_neg h0, if_pos h2, if_pos h3, if_pos c]
      rfl
    · have d : decide ((i : Int) > most) = true := by rw [decide_eq_true_eq]; omega
      rw [if_pos d, if_neg c]
      rfl
theorem awake300 : larumlaw10_awake.f 300 = some true := by decide +kernel
theorem short (a0 : ByteArray) : ∃ t, larumlaw10_Short.f a0 = some t ∧ t.size ≤ 500 := by
  unfold larumlaw10_Short.f
  by_cases c : (a0.size : Int) > 500
  · rw [if_pos c, if_pos (by omega), if_pos (by omega)]
    refine ⟨_, rfl, ?_⟩
    rw [bts_size, bts_extract, List.drop_zero, List.length_take]
    omega
  · rw [if_neg c]
    exact ⟨_, rfl, by omega⟩
theorem HeadLine : larumlaw10_HeadLine.Pure := by
  intro a0 a1 _ _
  obtain ⟨t, ht, hs⟩ := short a0
  have hz := bts_size t
  refine ⟨6000001, ?_⟩
  generalize hK : (6000000 : Nat) = K
  have hk : (6000001 : Nat) = K + 1 := by omega
  have hK' : 6000000 ≤ K := by omega
  rw [hk]
  clear hk hK
  have aw : larumlaw10_awake.f K = some true := at_rounds (g := fun k => larumlaw10_awake.f k) (fun k => larumlaw10_awake.mono k) (show 300 ≤ K by omega) awake300
  obtain ⟨f1, f2, ef, g1, g2, _, _⟩ := OfField_f t (by omega) (k := K + 1) (by omega)
  obtain ⟨q1, q2, er, h1, h2⟩ := rOf_f t (by omega) (k := K + 1) (by omega)
  unfold larumlaw10_HeadLine.f
  rw [ht]
  simp only [Option.bind_some]
  rw [Line_f t (by omega) a1 (by omega), rLine_f t (by omega) a1 (by omega), ef, er]
  simp only [Option.bind_some]
  rw [if_neg (by simp), beq_iff_eq.2 ((tl_iff _ _).2 (g1.trans h1.symm)), beq_iff_eq.2 ((tl_iff _ _).2 (g2.trans h2.symm))]
  simp only [Bool.not_true, Bool.or_false, larumlaw10_HeadLine.j0]
  rw [if_neg (by simp)]
  rcases idxL_spec [13, 10] (bytesOf t) with ⟨e, _⟩ | ⟨i, e, hi, _, _⟩
  · rw [e]
    have howc : howL t.size a1 (-1) = if (t.size : Int) - 1 ≤ a1 then 1 else 2 := by unfold howL; rw [if_pos (by omega)]
    rw [howc]
    by_cases c : (t.size : Int) - 1 ≤ a1
    · rw [if_pos c, if_neg (show ¬ (1 : Int) = 0 by decide), if_pos (show (decide ((1 : Int) ≤ 1) == ((1 : Int) == 1)) = true by decide), if_neg (show ¬ (1 : Int) = 0 by decide), if_pos ((tl_nil _).2 rfl), if_neg (show ¬ (1 : Int) = 0 by decide), if_pos rfl, aw]
      rfl
    · rw [if_neg c, if_neg (show ¬ (2 : Int) = 0 by decide), if_pos (show (decide ((2 : Int) ≤ 1) == ((2 : Int) == 1)) = true by decide), if_neg (show ¬ (2 : Int) = 0 by decide), if_pos ((tl_nil _).2 rfl), if_neg (show ¬ (2 : Int) = 0 by decide), if_pos rfl, aw]
      rfl
  · rw [e]
    have h0 : ¬ (i : Int) < 0 := by omega
    have howc : howL t.size a1 (i : Int) = if (i : Int) ≤ a1 then 0 else 2 := by unfold howL; rw [if_neg h0]
    rw [howc]
    by_cases c : (i : Int) ≤ a1
    · have hsz : (t.extract 0 (i : Int).toNat).size = i := by rw [bts_size, bts_extract, List.drop_zero, List.length_take]; omega
      rw [if_pos c, if_pos rfl, if_pos (by decide), if_pos rfl, if_pos trivial]
      simp only [if_true]
      rw [hsz, w64 (by omega), if_pos rfl, aw]
      rfl
    · rw [if_neg c, if_neg (show ¬ (2 : Int) = 0 by decide), if_pos (show (decide ((2 : Int) ≤ 1) == ((2 : Int) == 1)) = true by decide), if_neg (show ¬ (2 : Int) = 0 by decide), if_pos ((tl_nil _).2 rfl), if_neg (show ¬ (2 : Int) = 0 by decide), if_pos rfl, aw]
      rfl
end Go.Proofs.YtpincmjianpmmaaGreatDoor.Pure
