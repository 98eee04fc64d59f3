/- A text without blanks around, and its parts at a byte, are as the chapter says: for any text, any byte. No condition. -/
import Derived.Test.YtahhanmoonjgbaaDoorPCharsFieldsx2
namespace Go.Proofs.YtahhanmoonjgbaaDoor.Pure
open Go Go.RowKit Go.Proofs.YtahhanmoonjgbaaDoor.PCharsFields Go.Proofs.YtahhanmoonjgbaaDoor.Gp Go.Proofs.YtahhanmoonjgbaaDoorW Go.Proofs.YtahhanmoonjgbaaDoorW.PrintWords Go.Proofs.YtahhanmoonjgbaaDoorW.PrintLast Go.Proofs.YtahhanmoonjgbaaDoorW.PrintMore
set_option linter.unusedVariables false
set_option linter.unusedSimpArgs false
-- strings as lists of numbers
def Byt (l : List Int) : Prop := ∀ x ∈ l, 0 ≤ x ∧ x ≤ 255
theorem Byt.rd {l : List Int} (h : Byt l) (i : Int) : 0 ≤ PrintWords.rd l i ∧ PrintWords.rd l i ≤ 255 := by
  unfold PrintWords.rd
  rw [List.getD_eq_getElem?_getD]
  by_cases hi : i.toNat < l.length
  · rw [List.getElem?_eq_getElem hi]; exact h _ (List.getElem_mem hi)
  · rw [List.getElem?_eq_none (by omega)]; decide
theorem Byt.take {l : List Int} (h : Byt l) (n : Nat) : Byt (l.take n) := fun x hx => h x (List.mem_of_mem_take hx)
theorem Byt.drop {l : List Int} (h : Byt l) (n : Nat) : Byt (l.drop n) := fun x hx => h x (List.mem_of_mem_drop hx)
theorem w64 {x : Int} (h : -9223372036854775808 ≤ x ∧ x ≤ 9223372036854775807) : wrap64 x = x := by unfold wrap64; omega
theorem u64w (x : Int) : IntKind.u64.wrap x = x % 18446744073709551616 := by simp [IntKind.wrap, IntKind.bits, IntKind.signed]
theorem wu64 {x : Int} (h : 0 ≤ x ∧ x ≤ 18446744073709551615) : IntKind.u64.wrap x = x := by rw [u64w]; omega
theorem bts_byt (s : ByteArray) : Byt (bytesOf s) := by
  intro x hx
  simp only [bytesOf, List.mem_map] at hx
  obtain ⟨b, _, rfl⟩ := hx
  have := b.toNat_lt
  omega
theorem bts_len (s : ByteArray) : ((bytesOf s).length : Int) = (s.size : Int) := by rw [bytesOf_length]
theorem bt_rd (s : ByteArray) (i : Int) : bt s i = rd (bytesOf s) i := (rd_bytesOf s i).symm
theorem tl (s : ByteArray) : s.toList = s.data.toList := ByteArray.toList_eq s
theorem u8_map_inj : ∀ {a b : List UInt8}, a.map (fun x => (x.toNat : Int)) = b.map (fun x => (x.toNat : Int)) → a = b
  | [], [], _ => rfl
  | [], _ :: _, h => by simp at h
  | _ :: _, [], h => by simp at h
  | x :: a, y :: b, h => by
    simp only [List.map_cons, List.cons.injEq] at h
    rw [u8_map_inj h.2, UInt8.toNat_inj.1 (by omega : x.toNat = y.toNat)]
theorem tl_iff (s t : ByteArray) : s.toList = t.toList ↔ bytesOf s = bytesOf t := by
  rw [tl, tl]
  exact ⟨fun h => by unfold bytesOf; rw [h], fun h => u8_map_inj h⟩
theorem tl_nil (s : ByteArray) : s.toList = ([] : List UInt8) ↔ bytesOf s = [] := by
  rw [tl]
  unfold bytesOf
  rw [List.map_eq_nil_iff]
theorem bts_extract (s : ByteArray) (a b : Nat) : bytesOf (s.extract a b) = ((bytesOf s).take b).drop a := by
  unfold bytesOf
  rw [List.drop_take, ← List.map_drop, ← List.map_take]
  congr 1
  simp [List.drop_take]
theorem bts_extract_to (s : ByteArray) (a : Nat) : bytesOf (s.extract a s.size) = (bytesOf s).drop a := by
  rw [bts_extract, List.take_of_length_le (by rw [bytesOf_length]; omega)]
theorem bts_append (s t : ByteArray) : bytesOf (s ++ t) = bytesOf s ++ bytesOf t := by
  unfold bytesOf
  rw [← List.map_append]
  congr 1
theorem bts_size (s : ByteArray) : s.size = (bytesOf s).length := (bytesOf_length s).symm
theorem drop_rd {l : List Int} {i : Nat} (h : i < l.length) : l.drop i = rd l (i : Int) :: l.drop (i + 1) := by
  rw [List.drop_eq_getElem_cons h]
  unfold rd
  simp [List.getD_eq_getElem?_getD, List.getElem?_eq_getElem h]
theorem rd_cons_zero (a : Int) (l : List Int) : rd (a :: l) 0 = a := rfl
-- a string made of numbers
theorem bts_son {xs : List Int} (h : Byt xs) : bytesOf (strOfNums xs) = xs := by
  unfold bytesOf
  rw [strOfNums_data, List.map_map]
  conv => rhs; rw [← List.map_id xs]
  apply List.map_congr_left
  intro x hx
  have := h x hx
  simp only [Function.comp, id]
  have e : (UInt8.ofNat x.toNat).toNat = x.toNat := by
    rw [UInt8.toNat_ofNat']
    omega
  rw [e]; omega
theorem bts_tl_iff {s t : ByteArray} : s.toList = t.toList ↔ bytesOf s = bytesOf t := tl_iff s t
theorem ext_bts {s t : ByteArray} (h : bytesOf s = bytesOf t) : s = t := by
  have := (tl_iff s t).2 h
  rw [tl, tl] at this
  cases s with | mk a => cases t with | mk b => simp at this; rw [this]
theorem awake60 : larumlaw01_awake.f 100 = some true := by decide +kernel
theorem awake_at {k : Nat} (h : 100 ≤ k) : larumlaw01_awake.f k = some true := at_rounds (g := fun k => larumlaw01_awake.f k) (fun k => larumlaw01_awake.mono k) h awake60
theorem short_eq (s : ByteArray) : ∃ t, larumlaw01_short.f s = some t ∧ t.size ≤ 80 := by
  unfold larumlaw01_short.f
  by_cases h : (s.size : Int) > 80
  · exact ⟨_, by rw [if_pos h, if_pos (by decide), if_pos (by omega)], by simp; omega⟩
  · exact ⟨s, by rw [if_neg h], by omega⟩
-- blanks around
def blI (x : Int) : Bool := x == 32 || x == 9
def ltrim (l : List Int) : List Int := l.dropWhile blI
def rtrim (l : List Int) : List Int := (l.reverse.dropWhile blI).reverse
def trimN (l : List Int) : List Int := rtrim (ltrim l)
theorem rtrim_nil : rtrim [] = [] := rfl
theorem rtrim_snoc (l : List Int) (x : Int) : rtrim (l ++ [x]) = if blI x = true then rtrim l else l ++ [x] := by
  unfold rtrim
  rw [List.reverse_append]
  simp only [List.reverse_cons, List.reverse_nil, List.nil_append, List.cons_append, List.dropWhile_cons]
  split
  · rfl
  · simp
theorem rtrim_cons (x : Int) (l : List Int) : rtrim (x :: l) = if rtrim l = [] then (if blI x = true then [] else [x]) else x :: rtrim l := by
  unfold rtrim
  rw [List.reverse_cons, List.dropWhile_append]
  cases h : l.reverse.dropWhile blI with
  | nil =>
    simp only [List.isEmpty_nil, if_true, List.reverse_nil, List.dropWhile_cons, List.dropWhile_nil]
    split <;> simp
  | cons a t => simp
theorem ltrim_cons (x : Int) (l : List Int) : ltrim (x :: l) = if blI x = true then ltrim l else x :: l := by
  unfold ltrim
  rw [List.dropWhile_cons]
theorem trim_comm : ∀ l, ltrim (rtrim l) = trimN l
  | [] => rfl
  | x :: l => by
    have ih := trim_comm l
    unfold trimN at ih ⊢
    rw [ltrim_cons, rtrim_cons]
    by_cases hx : blI x = true
    · simp only [if_pos hx]
      by_cases hr : rtrim l = []
      · rw [if_pos hr]
        rw [hr] at ih
        exact ih
      · rw [if_neg hr, ltrim_cons, if_pos hx, ih]
    · simp only [if_neg hx]
      rw [rtrim_cons]
      by_cases hr : rtrim l = []
      · rw [if_pos hr, if_neg hx, ltrim_cons, if_neg hx, if_pos hr]
      · rw [if_neg hr, ltrim_cons, if_neg hx, if_neg hr]
theorem bl_eq (x : UInt8) : strings_Trim.bl x = blI (x.toNat : Int) := by
  unfold strings_Trim.bl blI
  rw [Bool.eq_iff_iff]
  simp only [List.contains_eq_mem, List.mem_cons, List.not_mem_nil, or_false, decide_eq_true_eq, Bool.or_eq_true, beq_iff_eq]
  constructor
  · rintro (rfl | rfl) <;> decide
  · rintro (h | h)
    · left; exact UInt8.toNat_inj.1 (show x.toNat = 32 by omega)
    · right; exact UInt8.toNat_inj.1 (show x.toNat = 9 by omega)
theorem bl_at (s : ByteArray) (i : Nat) (h : i < s.size) : strings_Trim.bl (s.data.toList.getD i 0) = blI (rd (bytesOf s) (i : Int)) := by
  rw [bl_eq]
  congr 1
  rw [← bt_rd]
  have hl : i < s.data.toList.length := by have := h; simpa using this
  rw [List.getD_eq_getElem?_getD, List.getElem?_eq_getElem hl]
  rw [bt_rd]
  unfold rd bytesOf
  simp [List.getD_eq_getElem?_getD, List.getElem?_eq_getElem hl]
theorem bts_trimR (s : ByteArray) : ∀ n, n ≤ s.size → bytesOf (s.extract 0 (strings_Trim.rcut s n)) = rtrim ((bytesOf s).take n)
  | 0, _ => by
    show bytesOf (s.extract 0 0) = _
    rw [bts_extract]; rfl
  | n + 1, h => by
    have hl : n < (bytesOf s).length := by rw [bytesOf_length]; omega
    unfold strings_Trim.rcut
    rw [bl_at s n (by omega), List.take_succ_eq_append_getElem hl, rtrim_snoc]
    have e : (bytesOf s)[n] = rd (bytesOf s) (n : Int) := by unfold rd; simp [List.getD_eq_getElem?_getD, List.getElem?_eq_getElem hl]
    rw [e]
    split
    · exact bts_trimR s n (by omega)
    · rw [bts_extract, List.drop_zero, List.take_succ_eq_append_getElem hl, e]
theorem bts_trimL (s : ByteArray) : ∀ f i, i + f = s.size → bytesOf (s.extract (strings_Trim.lcut s f i) s.size) = ltrim ((bytesOf s).drop i)
  | 0, i, h => by
    unfold strings_Trim.lcut
    rw [bts_extract_to, List.drop_of_length_le (by rw [bytesOf_length]; omega)]; rfl
  | f + 1, i, h => by
    unfold strings_Trim.lcut
    rw [bl_at s i (by omega), drop_rd (by rw [bytesOf_length]; omega), ltrim_cons]
    split
    · exact bts_trimL s f (i + 1) (by omega)
    · rw [bts_extract_to, drop_rd (by rw [bytesOf_length]; omega)]
theorem Trim_f (s : ByteArray) (hs : s.size ≤ 9223372036854775807) : ∃ t, chars_Trim.f s = some t ∧ bytesOf t = trimN (bytesOf s) ∧ t.size ≤ s.size := by
  unfold chars_Trim.f strings_Trim.f
  rw [if_pos ⟨rfl, hs⟩]
  have e : bytesOf (strings_Trim.trimL (strings_Trim.trimR s)) = trimN (bytesOf s) := by
    have e2 : bytesOf (strings_Trim.trimR s) = rtrim (bytesOf s) := by
      have := bts_trimR s s.size (Nat.le_refl _)
      rw [List.take_of_length_le (by rw [bytesOf_length]; exact Nat.le_refl _)] at this
      exact this
    have := bts_trimL (strings_Trim.trimR s) (strings_Trim.trimR s).size 0 (by omega)
    rw [List.drop_zero, e2, trim_comm] at this
    exact this
  refine ⟨_, rfl, e, ?_⟩
  unfold strings_Trim.trimL strings_Trim.trimR
  simp only [ByteArray.size_extract]
  omega
theorem Space_f (c : Int) : larumref01_Space.f c = some (blI c) := by
  unfold larumref01_Space.f blI
  by_cases h : c = 32 <;> simp [h]
theorem ex1 (s : ByteArray) (x : Int) (l : List Int) (h : bytesOf s = x :: l) : bytesOf (s.extract 1 s.size) = l := by
  rw [bts_extract_to, h]; rfl
theorem RTrim_l1 : ∀ (n : Nat) (s : ByteArray) (k : Nat), s.size = n → n + 1 ≤ k → s.size ≤ 1000000 → ∃ t, larumref01_Trim.l1 k s = some t ∧ bytesOf t = rtrim (bytesOf s)
  | 0, s, k, hs, hk, hb => by
    obtain ⟨k, rfl⟩ : ∃ j, k = j + 1 := ⟨k - 1, by omega⟩
    have e : bytesOf s = [] := List.eq_nil_of_length_eq_zero (by rw [bytesOf_length]; exact hs)
    simp only [larumref01_Trim.l1]
    rw [if_neg (by omega)]
    exact ⟨s, rfl, by rw [e]; rfl⟩
  | n + 1, s, k, hs, hk, hb => by
    obtain ⟨k, rfl⟩ : ∃ j, k = j + 1 := ⟨k - 1, by omega⟩
    have hl : n < (bytesOf s).length := by rw [bytesOf_length]; omega
    have e : bytesOf s = (bytesOf s).take n ++ [rd (bytesOf s) (n : Int)] := by
      have e1 := List.take_succ_eq_append_getElem hl
      rw [List.take_of_length_le (by rw [bytesOf_length]; omega)] at e1
      have e2 : (bytesOf s)[n] = rd (bytesOf s) (n : Int) := by unfold rd; simp [List.getD_eq_getElem?_getD, List.getElem?_eq_getElem hl]
      rw [← e2]; exact e1
    have ew : wrap64 ((s.size : Int) - 1) = (n : Int) := by rw [w64 (by omega)]; omega
    simp only [larumref01_Trim.l1]
    rw [if_pos (by omega), ew, if_pos (by omega), if_pos (by omega), bt_rd, Space_f]
    simp only [Option.bind_some]
    rw [e, rtrim_snoc, ← e]
    by_cases hb' : blI (rd (bytesOf s) (n : Int)) = true
    · rw [if_pos hb', if_pos hb', if_pos (by omega)]
      have ex : bytesOf (s.extract 0 (n : Int).toNat) = (bytesOf s).take n := by rw [show (n : Int).toNat = n by omega, bts_extract, List.drop_zero]
      have hz : (s.extract 0 (n : Int).toNat).size = n := by rw [bts_size, ex, List.length_take, bytesOf_length]; omega
      obtain ⟨t, t1, t2⟩ := RTrim_l1 n (s.extract 0 (n : Int).toNat) k hz (by omega) (by omega)
      exact ⟨t, t1, by rw [t2, ex]⟩
    · rw [if_neg hb', if_neg hb']
      exact ⟨s, rfl, rfl⟩
theorem RTrim_l0 : ∀ (n : Nat) (s : ByteArray) (k : Nat), s.size = n → 2 * n + 5 ≤ k → s.size ≤ 1000000 → ∃ t, larumref01_Trim.l0 k s = some t ∧ bytesOf t = trimN (bytesOf s)
  | 0, s, k, hs, hk, hb => by
    obtain ⟨k, rfl⟩ : ∃ j, k = j + 2 := ⟨k - 2, by omega⟩
    have e : bytesOf s = [] := List.eq_nil_of_length_eq_zero (by rw [bytesOf_length]; exact hs)
    simp only [larumref01_Trim.l0, larumref01_Trim.j1]
    rw [if_neg (by omega)]
    obtain ⟨t, t1, t2⟩ := RTrim_l1 0 s k hs (by omega) hb
    exact ⟨t, t1, by rw [t2, e]; rfl⟩
  | n + 1, s, k, hs, hk, hb => by
    obtain ⟨k, rfl⟩ : ∃ j, k = j + 2 := ⟨k - 2, by omega⟩
    cases h : bytesOf s with
    | nil => have := bytesOf_length s; rw [h] at this; simp at this; omega
    | cons x l =>
      have e0 : rd (bytesOf s) 0 = x := by rw [h]; rfl
      have ex := ex1 s x l h
      have hz : (s.extract 1 s.size).size = n := by rw [bts_size, ex]; have := bytesOf_length s; rw [h] at this; simp at this; omega
      simp only [larumref01_Trim.l0, larumref01_Trim.j1]
      rw [if_pos (by omega), if_pos (by omega), bt_rd, e0, Space_f]
      simp only [Option.bind_some]
      unfold trimN
      rw [ltrim_cons]
      by_cases hb' : blI x = true
      · rw [if_pos hb', if_pos hb', if_pos (by omega)]
        obtain ⟨t, t1, t2⟩ := RTrim_l0 n (s.extract 1 s.size) (k + 1) hz (by omega) (by omega)
        exact ⟨t, t1, by rw [t2, ex]; rfl⟩
      · rw [if_neg hb', if_neg hb']
        obtain ⟨t, t1, t2⟩ := RTrim_l1 (n + 1) s k hs (by omega) hb
        exact ⟨t, t1, by rw [t2, h]⟩
theorem RTrim_f (s : ByteArray) (hs : s.size ≤ 1000000) {k : Nat} (hk : 2 * s.size + 5 ≤ k) : ∃ t, larumref01_Trim.f k s = some t ∧ bytesOf t = trimN (bytesOf s) := RTrim_l0 s.size s k rfl hk hs
-- parts at a byte
def cutG (c : Int) : List Int → List Int → List (List Int)
  | w, [] => [w]
  | w, x :: t => if x = c then w :: cutG c [] t else cutG c (w ++ [x]) t
theorem cut_idx (c : UInt8) : ∀ (l : List UInt8) (w : List Int),
    (Lib.indexByte l c = -1 ∧ l.count c = 0 ∧ cutG (c.toNat : Int) w (l.map fun x => (x.toNat : Int)) = [w ++ l.map fun x => (x.toNat : Int)]) ∨
    ∃ j : Nat, Lib.indexByte l c = (j : Int) ∧ j < l.length ∧ l.count c = (l.drop (j + 1)).count c + 1 ∧
      cutG (c.toNat : Int) w (l.map fun x => (x.toNat : Int)) = (w ++ (l.take j).map fun x => (x.toNat : Int)) :: cutG (c.toNat : Int) [] ((l.drop (j + 1)).map fun x => (x.toNat : Int))
  | [], w => Or.inl ⟨rfl, rfl, by simp [cutG]⟩
  | x :: l, w => by
    by_cases h : x = c
    · subst h
      refine Or.inr ⟨0, by simp [Lib.indexByte], by simp, by simp, by simp [cutG]⟩
    · have hb : (x == c) = false := by simpa using h
      have hi : ¬ ((x.toNat : Int) = (c.toNat : Int)) := fun e => h (UInt8.toNat_inj.1 (by omega))
      rcases cut_idx c l (w ++ [(x.toNat : Int)]) with ⟨h1, h2, h3⟩ | ⟨j, h1, h2, h3, h4⟩
      · refine Or.inl ⟨by simp [Lib.indexByte, hb, h1], by rw [List.count_cons_of_ne (by simpa using h)]; exact h2, ?_⟩
        simp only [List.map_cons, cutG, if_neg hi]
        rw [h3]; simp
      · refine Or.inr ⟨j + 1, ?_, by simpa using h2, ?_, ?_⟩
        · have : ¬ ((j : Int) = -1) := by omega
          simp [Lib.indexByte, hb, h1, this]
        · rw [List.count_cons_of_ne (by simpa using h), h3]; rfl
        · simp only [List.map_cons, cutG, if_neg hi, List.take_succ_cons, List.drop_succ_cons]
          rw [h4]; simp
theorem split_cut (c : UInt8) : ∀ (n : Nat) (s : ByteArray), s.data.toList.count c ≤ n → (Lib.splitB ⟨#[c]⟩ 0 n s).map bytesOf = cutG (c.toNat : Int) [] (bytesOf s)
  | 0, s, h => by
    rcases cut_idx c s.data.toList [] with ⟨_, _, h3⟩ | ⟨j, _, _, h3, _⟩
    · rw [Lib.splitB_zero]
      show [bytesOf s] = cutG _ [] (s.data.toList.map _)
      rw [h3]; rfl
    · omega
  | n + 1, s, h => by
    have ei : Lib.indexB s ⟨#[c]⟩ = Lib.indexByte s.data.toList c := by
      show Lib.index s.data.toList [c] = _
      rw [Lib.index_one]
    rcases cut_idx c s.data.toList [] with ⟨h1, _, h3⟩ | ⟨j, h1, h2, h3, h4⟩
    · rw [Lib.splitB_miss _ _ _ _ (by rw [ei, h1])]
      show [bytesOf s] = cutG _ [] (s.data.toList.map _)
      rw [h3]; rfl
    · unfold Lib.splitB
      have hne : ((j : Int) == -1) = false := by first | (simp; done) | (simp; omega)
      have hsz : (⟨#[c]⟩ : ByteArray).size = 1 := rfl
      rw [ei, h1, hne, if_neg (by simp), List.map_cons, hsz, show ((j : Int)).toNat + 0 = j by omega, show ((j : Int)).toNat + 1 = j + 1 by omega]
      have hd : (s.extract (j + 1) s.size).data.toList = s.data.toList.drop (j + 1) := by
        simp
        exact List.take_of_length_le (by rw [List.length_drop]; exact Nat.le_refl _)
      rw [split_cut c n (s.extract (j + 1) s.size) (by rw [hd]; omega), bts_extract, List.drop_zero, bts_extract_to]
      show _ = cutG _ [] (s.data.toList.map _)
      rw [h4]
      simp only [bytesOf, List.nil_append, List.map_take, List.map_drop]
theorem Split_f (s : ByteArray) (hs : s.size < 4294967281) (c : Int) (hc : 0 ≤ c ∧ c ≤ 255) : ∃ L, strings_Split.f s (strOfNums [c]) = some L ∧ L.map bytesOf = cutG c [] (bytesOf s) := by
  have e : strOfNums [c] = ⟨#[UInt8.ofNat c.toNat]⟩ := rfl
  have ec : ((UInt8.ofNat c.toNat).toNat : Int) = c := by rw [UInt8.toNat_ofNat']; omega
  unfold strings_Split.f
  rw [e, if_pos ⟨rfl, hs⟩]
  refine ⟨_, rfl, ?_⟩
  rw [split_cut _ _ s ?_, ec]
  show _ ≤ Lib.count s.data.toList [UInt8.ofNat c.toNat]
  rw [Lib.count_one]
  exact Nat.le_refl _
theorem RCut_l0 (s : ByteArray) (hs : s.size ≤ 1000000) (c : Int) : ∀ (f i : Nat) (L : List ByteArray) (w : ByteArray) (k : Nat), i + f = s.size → f + 1 ≤ k → L.length ≤ i → w.size ≤ i →
    ∃ R, larumref01_Cut.l0 k s c L w (i : Int) = some R ∧ R.map bytesOf = L.map bytesOf ++ cutG c (bytesOf w) ((bytesOf s).drop i) := by
  intro f
  induction f with
  | zero =>
    intro i L w k hi hk hL hw
    obtain ⟨k, rfl⟩ : ∃ j, k = j + 1 := ⟨k - 1, by omega⟩
    simp only [larumref01_Cut.l0]
    rw [if_neg (by omega), if_pos (by omega), List.drop_of_length_le (by rw [bytesOf_length]; omega)]
    exact ⟨_, rfl, by simp [cutG]⟩
  | succ f ih =>
    intro i L w k hi hk hL hw
    obtain ⟨k, rfl⟩ : ∃ j, k = j + 1 := ⟨k - 1, by omega⟩
    rw [drop_rd (by rw [bytesOf_length]; omega)]
    simp only [larumref01_Cut.l0]
    rw [if_pos (by omega), if_pos (by omega), bt_rd, w64 (by omega), show (i : Int) + 1 = ((i + 1 : Nat) : Int) by omega]
    by_cases h : rd (bytesOf s) (i : Int) = c
    · rw [if_pos h, if_pos (by omega)]
      obtain ⟨R, r1, r2⟩ := ih (i + 1) (L ++ [w]) ⟨#[]⟩ k (by omega) (by omega) (by simp; omega) (Nat.zero_le _)
      refine ⟨R, r1, ?_⟩
      rw [r2]
      have e0 : bytesOf (⟨#[]⟩ : ByteArray) = [] := rfl
      simp [cutG, h, e0]
    · have ex : bytesOf (s.extract (i : Int).toNat ((i + 1 : Nat) : Int).toNat) = [rd (bytesOf s) (i : Int)] := by
        have hl : i < (bytesOf s).length := by rw [bytesOf_length]; omega
        rw [show (i : Int).toNat = i by omega, show (((i + 1 : Nat) : Int)).toNat = i + 1 by omega, bts_extract, List.drop_take, drop_rd hl]
        simp
      have hz : (s.extract (i : Int).toNat ((i + 1 : Nat) : Int).toNat).size = 1 := by rw [bts_size, ex]; rfl
      rw [if_neg h, if_pos (by omega), if_pos (by omega), hz, if_pos (by omega)]
      obtain ⟨R, r1, r2⟩ := ih (i + 1) L (w ++ s.extract (i : Int).toNat ((i + 1 : Nat) : Int).toNat) k (by omega) (by omega) (by omega) (by rw [bts_size, bts_append, ex, List.length_append, bytesOf_length]; simp; omega)
      refine ⟨R, r1, ?_⟩
      rw [r2, bts_append, ex]
      simp [cutG, h]
theorem RCut_f (s : ByteArray) (hs : s.size ≤ 1000000) (c : Int) {k : Nat} (hk : s.size + 1 ≤ k) : ∃ R, larumref01_Cut.f k s c = some R ∧ R.map bytesOf = cutG c [] (bytesOf s) := by
  obtain ⟨R, r1, r2⟩ := RCut_l0 s hs c s.size 0 [] ⟨#[]⟩ k (by omega) hk (Nat.zero_le _) (Nat.le_refl _)
  exact ⟨R, r1, by rw [r2]; rfl⟩
theorem cutG_len (c : Int) : ∀ (l w : List Int), (cutG c w l).length ≤ l.length + 1
  | [], w => Nat.le_refl _
  | x :: l, w => by
    unfold cutG
    split
    · simpa using cutG_len c l []
    · have := cutG_len c l (w ++ [x]); simp at this ⊢; omega
theorem cutG_size (c : Int) : ∀ (l w : List Int) (p : List Int), p ∈ cutG c w l → p.length ≤ w.length + l.length
  | [], w, p, h => by simp [cutG] at h; subst h; exact Nat.le_refl _
  | x :: l, w, p, h => by
    unfold cutG at h
    split at h
    · rcases List.mem_cons.1 h with rfl | h
      · simp
      · have := cutG_size c l [] p h; simp at this ⊢; omega
    · have := cutG_size c l (w ++ [x]) p h; simp at this ⊢; omega
def fl (P : List (List Int)) : List (List Int) := (P.map trimN).filter (fun t => !t.isEmpty)
theorem fl_cons (p : List Int) (P : List (List Int)) : fl (p :: P) = if trimN p = [] then fl P else trimN p :: fl P := by
  unfold fl
  rw [List.map_cons, List.filter_cons]
  cases h : trimN p <;> simp
theorem rdOf_drop {α : Type} {d : α} {l : List α} {i : Nat} (h : i < l.length) : l.drop i = rdOf d l (i : Int) :: l.drop (i + 1) := by
  rw [List.drop_eq_getElem_cons h]
  unfold rdOf
  simp [List.getD_eq_getElem?_getD, List.getElem?_eq_getElem h]
theorem Fields_l0 (P : List ByteArray) (hP : P.length ≤ 1000) (hz : ∀ p ∈ P, p.size ≤ 1000) : ∀ (f i : Nat) (o : List ByteArray) (k : Nat), i + f = P.length → f + 1 ≤ k → o.length ≤ i →
    ∃ R, chars_Fields.l0 k o P (P.length : Int) (i : Int) = some R ∧ R.map bytesOf = o.map bytesOf ++ fl ((P.drop i).map bytesOf) := by
  intro f
  induction f with
  | zero =>
    intro i o k hi hk ho
    obtain ⟨k, rfl⟩ : ∃ j, k = j + 1 := ⟨k - 1, by omega⟩
    simp only [chars_Fields.l0]
    rw [if_neg (by omega), List.drop_of_length_le (by omega)]
    exact ⟨o, rfl, by simp [fl]⟩
  | succ f ih =>
    intro i o k hi hk ho
    obtain ⟨k, rfl⟩ : ∃ j, k = j + 1 := ⟨k - 1, by omega⟩
    have hd := rdOf_drop (d := ByteArray.empty) (l := P) (i := i) (by omega)
    have hm : rdOf ByteArray.empty P (i : Int) ∈ P := List.mem_of_mem_drop (i := i) (by rw [hd]; exact List.mem_cons_self)
    obtain ⟨t, t1, t2, t3⟩ := Trim_f (rdOf ByteArray.empty P (i : Int)) (Nat.le_trans (hz _ hm) (by decide))
    simp only [chars_Fields.l0]
    rw [if_pos (by omega), if_pos (by omega), if_pos (by omega), t1, w64 (by omega), show (i : Int) + 1 = ((i + 1 : Nat) : Int) by omega, hd, List.map_cons, fl_cons, ← t2]
    simp only [Option.bind_some, tl_nil]
    by_cases h : bytesOf t = []
    · rw [if_pos h, if_pos h]
      exact ih (i + 1) o k (by omega) (by omega) (by omega)
    · rw [if_neg h, if_neg h, if_pos (by omega)]
      obtain ⟨R, r1, r2⟩ := ih (i + 1) (o ++ [t]) k (by omega) (by omega) (by simp; omega)
      exact ⟨R, r1, by rw [r2]; simp⟩
theorem RFields_l0 (P : List ByteArray) (hP : P.length ≤ 1000) (hz : ∀ p ∈ P, p.size ≤ 1000) : ∀ (f i : Nat) (o : List ByteArray) (k : Nat), i + f = P.length → f + 2100 ≤ k → o.length ≤ i →
    ∃ R, larumref01_Fields.l0 k o P (P.length : Int) (i : Int) = some R ∧ R.map bytesOf = o.map bytesOf ++ fl ((P.drop i).map bytesOf) := by
  intro f
  induction f with
  | zero =>
    intro i o k hi hk ho
    obtain ⟨k, rfl⟩ : ∃ j, k = j + 1 := ⟨k - 1, by omega⟩
    simp only [larumref01_Fields.l0]
    rw [if_neg (by omega), List.drop_of_length_le (by omega)]
    exact ⟨o, rfl, by simp [fl]⟩
  | succ f ih =>
    intro i o k hi hk ho
    obtain ⟨k, rfl⟩ : ∃ j, k = j + 1 := ⟨k - 1, by omega⟩
    have hd := rdOf_drop (d := ByteArray.empty) (l := P) (i := i) (by omega)
    have hm : rdOf ByteArray.empty P (i : Int) ∈ P := List.mem_of_mem_drop (i := i) (by rw [hd]; exact List.mem_cons_self)
    have hz1 := hz _ hm
    obtain ⟨t, t1, t2⟩ := RTrim_f (rdOf ByteArray.empty P (i : Int)) (by omega) (k := k) (by omega)
    simp only [larumref01_Fields.l0]
    rw [if_pos (by omega), if_pos (by omega), if_pos (by omega), t1, w64 (by omega), show (i : Int) + 1 = ((i + 1 : Nat) : Int) by omega, hd, List.map_cons, fl_cons, ← t2]
    simp only [Option.bind_some, tl_nil]
    by_cases h : bytesOf t = []
    · rw [if_pos h, if_pos h]
      exact ih (i + 1) o k (by omega) (by omega) (by omega)
    · rw [if_neg h, if_neg h, if_pos (by omega)]
      obtain ⟨R, r1, r2⟩ := ih (i + 1) (o ++ [t]) k (by omega) (by omega) (by simp; omega)
      exact ⟨R, r1, by rw [r2]; simp⟩
theorem map_inj : ∀ {L R : List ByteArray}, L.map bytesOf = R.map bytesOf → L = R
  | [], [], _ => rfl
  | [], _ :: _, h => by simp at h
  | _ :: _, [], h => by simp at h
  | a :: L, b :: R, h => by
    simp only [List.map_cons, List.cons.injEq] at h
    rw [ext_bts h.1, map_inj h.2]
theorem pieces (s : ByteArray) (hs : s.size ≤ 80) (c : Int) (P : List ByteArray) (h : P.map bytesOf = cutG c [] (bytesOf s)) : P.length ≤ 1000 ∧ ∀ p ∈ P, p.size ≤ 1000 := by
  have hl := cutG_len c (bytesOf s) []
  rw [bytesOf_length, ← h, List.length_map] at hl
  refine ⟨by omega, fun p hp => ?_⟩
  have := cutG_size c (bytesOf s) [] (bytesOf p) (by rw [← h]; exact List.mem_map_of_mem hp)
  rw [bytesOf_length, bytesOf_length] at this
  simp at this
  omega
theorem Law_l0 (L : List ByteArray) (hL : L.length ≤ 2000) : ∀ (f i k : Nat), i + f = L.length → f + 110 ≤ k → larumlaw01_CharsFields.l0 k L L (L.length : Int) (i : Int) = some true := by
  intro f
  induction f with
  | zero =>
    intro i k hi hk
    obtain ⟨k, rfl⟩ : ∃ j, k = j + 1 := ⟨k - 1, by omega⟩
    simp only [larumlaw01_CharsFields.l0]
    rw [if_neg (by omega), awake_at (by omega)]
    rfl
  | succ f ih =>
    intro i k hi hk
    obtain ⟨k, rfl⟩ : ∃ j, k = j + 1 := ⟨k - 1, by omega⟩
    simp only [larumlaw01_CharsFields.l0]
    rw [if_pos (by omega), if_pos (by omega), if_pos (by omega), w64 (by omega), show (i : Int) + 1 = ((i + 1 : Nat) : Int) by omega, ih (i + 1) k (by omega) (by omega)]
    simp
    omega
theorem CharsFields : larumlaw01_CharsFields.Pure := by
  intro s c _ hc
  have hc : 0 ≤ c ∧ c ≤ 255 := by simpa [Lit.wf, IntKind.min, IntKind.max, IntKind.bits, IntKind.signed] using hc
  obtain ⟨t, ht, hl⟩ := short_eq s
  obtain ⟨k, hk⟩ : ∃ k : Nat, k = 5000 := ⟨_, rfl⟩
  refine ⟨k + 1, ?_⟩
  obtain ⟨P, p1, p2⟩ := Split_f t (by omega) c hc
  obtain ⟨hP, hz⟩ := pieces t hl c P p2
  obtain ⟨L, l1, l2⟩ := Fields_l0 P hP hz P.length 0 [] (k + 1) (by omega) (by omega) (Nat.zero_le _)
  obtain ⟨Q, q1, q2⟩ := RCut_f t (by omega) c (k := k + 1) (by omega)
  obtain ⟨hQ, hy⟩ := pieces t hl c Q q2
  obtain ⟨R, r1, r2⟩ := RFields_l0 Q hQ hy Q.length 0 [] (k + 1) (by omega) (by omega) (Nat.zero_le _)
  obtain ⟨u, u1, u2, _⟩ := Trim_f t (by omega)
  obtain ⟨v, v1, v2⟩ := RTrim_f t (by omega) (k := k + 1) (by omega)
  have eLR : R = L := map_inj (by rw [r2, l2, List.drop_zero, List.drop_zero, p2, q2])
  subst eLR
  have euv : v = u := ext_bts (by rw [v2, u2])
  subst euv
  have e1 : chars_Fields.f (k + 1) t c = some R := by
    unfold chars_Fields.f
    rw [p1]
    exact l1
  have e2 : larumref01_Fields.f (k + 1) t c = some R := by
    unfold larumref01_Fields.f
    rw [q1]
    exact r1
  have hR : R.length ≤ 1000 := by
    have := congrArg List.length l2
    simp only [List.length_map, List.length_append, List.drop_zero] at this
    have hf := List.length_filter_le (fun t : List Int => !t.isEmpty) ((P.map bytesOf).map trimN)
    simp only [List.length_map] at hf
    unfold fl at this
    simp only [List.length_nil] at this
    omega
  unfold larumlaw01_CharsFields.f
  rw [ht]
  simp only [Option.bind_some]
  rw [e1, e2, u1, v1]
  simp only [Option.bind_some, larumlaw01_CharsFields.j0]
  have hz0 := Law_l0 R (by omega) R.length 0 k (by omega) (by omega)
  simp only [if_true, bne_self_eq_false, Bool.false_eq_true, if_false]
  exact hz0
end Go.Proofs.YtahhanmoonjgbaaDoor.Pure
