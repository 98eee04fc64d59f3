/- Which mark, and which list of marks a text is, or that it is none, is as the chapter says: for any text. No condition. -/
import Derived.Test.YteoicfgjijmigaaDoorPEtagParsex7
namespace Go.Proofs.YteoicfgjijmigaaDoor.Pure
open Go Go.RowKit Go.Proofs.YteoicfgjijmigaaDoor.PEtagParse Go.Proofs.YteoicfgjijmigaaDoor.Gp Go.Proofs.YteoicfgjijmigaaDoorW Go.Proofs.YteoicfgjijmigaaDoorW.PrintWords Go.Proofs.YteoicfgjijmigaaDoorW.PrintLast Go.Proofs.YteoicfgjijmigaaDoorW.PrintMore
set_option linter.unusedVariables false
set_option linter.unusedSimpArgs false
-- strings as lists of numbers
def Byt (l : List Int) : Prop := ∀ x ∈ l, 0 ≤ x ∧ x ≤ 255
theorem Byt.rd {l : List Int} (h : Byt l) (i : Int) : 0 ≤ PrintWords.rd l i ∧ PrintWords.rd l i ≤ 255 := by
  unfold PrintWords.rd
  rw [List.getD_eq_getElem?_getD]
  by_cases hi : i.toNat < l.length
  · rw [List.getElem?_eq_getElem hi]; exact h _ (List.getElem_mem hi)
  · rw [List.getElem?_eq_none (by omega)]; decide
theorem Byt.take {l : List Int} (h : Byt l) (n : Nat) : Byt (l.take n) := fun x hx => h x (List.mem_of_mem_take hx)
theorem Byt.drop {l : List Int} (h : Byt l) (n : Nat) : Byt (l.drop n) := fun x hx => h x (List.mem_of_mem_drop hx)
theorem w64 {x : Int} (h : -9223372036854775808 ≤ x ∧ x ≤ 9223372036854775807) : wrap64 x = x := by unfold wrap64; omega
theorem u64w (x : Int) : IntKind.u64.wrap x = x % 18446744073709551616 := by simp [IntKind.wrap, IntKind.bits, IntKind.signed]
theorem wu64 {x : Int} (h : 0 ≤ x ∧ x ≤ 18446744073709551615) : IntKind.u64.wrap x = x := by rw [u64w]; omega
theorem bts_byt (s : ByteArray) : Byt (bytesOf s) := by
  intro x hx
  simp only [bytesOf, List.mem_map] at hx
  obtain ⟨b, _, rfl⟩ := hx
  have := b.toNat_lt
  omega
theorem bts_len (s : ByteArray) : ((bytesOf s).length : Int) = (s.size : Int) := by rw [bytesOf_length]
theorem bt_rd (s : ByteArray) (i : Int) : bt s i = rd (bytesOf s) i := (rd_bytesOf s i).symm
theorem tl (s : ByteArray) : s.toList = s.data.toList := ByteArray.toList_eq s
theorem u8_map_inj : ∀ {a b : List UInt8}, a.map (fun x => (x.toNat : Int)) = b.map (fun x => (x.toNat : Int)) → a = b
  | [], [], _ => rfl
  | [], _ :: _, h => by simp at h
  | _ :: _, [], h => by simp at h
  | x :: a, y :: b, h => by
    simp only [List.map_cons, List.cons.injEq] at h
    rw [u8_map_inj h.2, UInt8.toNat_inj.1 (by omega : x.toNat = y.toNat)]
theorem tl_iff (s t : ByteArray) : s.toList = t.toList ↔ bytesOf s = bytesOf t := by
  rw [tl, tl]
  exact ⟨fun h => by unfold bytesOf; rw [h], fun h => u8_map_inj h⟩
theorem tl_nil (s : ByteArray) : s.toList = ([] : List UInt8) ↔ bytesOf s = [] := by
  rw [tl]
  unfold bytesOf
  rw [List.map_eq_nil_iff]
theorem bts_extract (s : ByteArray) (a b : Nat) : bytesOf (s.extract a b) = ((bytesOf s).take b).drop a := by
  unfold bytesOf
  rw [List.drop_take, ← List.map_drop, ← List.map_take]
  congr 1
  simp [List.drop_take]
theorem bts_extract_to (s : ByteArray) (a : Nat) : bytesOf (s.extract a s.size) = (bytesOf s).drop a := by
  rw [bts_extract, List.take_of_length_le (by rw [bytesOf_length]; omega)]
theorem bts_append (s t : ByteArray) : bytesOf (s ++ t) = bytesOf s ++ bytesOf t := by
  unfold bytesOf
  rw [← List.map_append]
  congr 1
theorem bts_size (s : ByteArray) : s.size = (bytesOf s).length := (bytesOf_length s).symm
theorem drop_rd {l : List Int} {i : Nat} (h : i < l.length) : l.drop i = rd l (i : Int) :: l.drop (i + 1) := by
  rw [List.drop_eq_getElem_cons h]
  unfold rd
  simp [List.getD_eq_getElem?_getD, List.getElem?_eq_getElem h]
theorem rd_cons_zero (a : Int) (l : List Int) : rd (a :: l) 0 = a := rfl
-- a string made of numbers
theorem bts_son {xs : List Int} (h : Byt xs) : bytesOf (strOfNums xs) = xs := by
  unfold bytesOf
  rw [strOfNums_data, List.map_map]
  conv => rhs; rw [← List.map_id xs]
  apply List.map_congr_left
  intro x hx
  have := h x hx
  simp only [Function.comp, id]
  have e : (UInt8.ofNat x.toNat).toNat = x.toNat := by
    rw [UInt8.toNat_ofNat']
    omega
  rw [e]; omega
theorem bts_tl_iff {s t : ByteArray} : s.toList = t.toList ↔ bytesOf s = bytesOf t := tl_iff s t
theorem ext_bts {s t : ByteArray} (h : bytesOf s = bytesOf t) : s = t := by
  have := (tl_iff s t).2 h
  rw [tl, tl] at this
  cases s with | mk a => cases t with | mk b => simp at this; rw [this]
-- prefixes, cuts at a byte
def nats (l : List UInt8) : List Int := l.map fun x => (x.toNat : Int)
theorem nats_bts (s : ByteArray) : nats s.data.toList = bytesOf s := rfl
theorem pre_nats : ∀ (p l : List UInt8), p.isPrefixOf l = (nats p).isPrefixOf (nats l)
  | [], _ => by simp [nats]
  | _ :: _, [] => by simp [nats]
  | a :: p, b :: l => by
    have e : (a == b) = ((a.toNat : Int) == (b.toNat : Int)) := by
      rw [Bool.eq_iff_iff, beq_iff_eq, beq_iff_eq, ← UInt8.toNat_inj]; omega
    show (a == b && p.isPrefixOf l) = (((a.toNat : Int) == (b.toNat : Int)) && (nats p).isPrefixOf (nats l))
    rw [e, pre_nats p l]
theorem CutPrefix_f (s p : ByteArray) : ∃ t b, strings_CutPrefix.f s p = some (t, b) ∧ b = (bytesOf p).isPrefixOf (bytesOf s) ∧ bytesOf t = (if (bytesOf p).isPrefixOf (bytesOf s) = true then (bytesOf s).drop (bytesOf p).length else bytesOf s) ∧ t.size ≤ s.size := by
  have e : Lib.hasPrefix s.data.toList p.data.toList = (bytesOf p).isPrefixOf (bytesOf s) := pre_nats _ _
  have eb : bytesOf (⟨(Lib.trimPrefix s.data.toList p.data.toList).toArray⟩ : ByteArray) = (if (bytesOf p).isPrefixOf (bytesOf s) = true then (bytesOf s).drop (bytesOf p).length else bytesOf s) := by
    unfold Lib.trimPrefix
    rw [e]
    have h0 : ∀ l : List UInt8, bytesOf (⟨l.toArray⟩ : ByteArray) = nats l := fun l => rfl
    rw [h0]
    by_cases h : (bytesOf p).isPrefixOf (bytesOf s) = true
    · rw [if_pos h, if_pos h]
      unfold nats
      rw [List.map_drop]
      simp [bytesOf]
    · rw [if_neg h, if_neg h]; rfl
  refine ⟨_, _, rfl, e, eb, ?_⟩
  rw [bts_size, eb, bts_size]
  split
  · rw [List.length_drop]; omega
  · exact Nat.le_refl _
theorem idx_while (c : UInt8) : ∀ (l : List UInt8),
    (Lib.indexByte l c = -1 ∧ (nats l).takeWhile (fun x => x != (c.toNat : Int)) = nats l ∧ (nats l).dropWhile (fun x => x != (c.toNat : Int)) = [] ∧ (nats l).contains (c.toNat : Int) = false) ∨
    ∃ j : Nat, Lib.indexByte l c = (j : Int) ∧ j < l.length ∧ (nats l).takeWhile (fun x => x != (c.toNat : Int)) = (nats l).take j ∧ (nats l).dropWhile (fun x => x != (c.toNat : Int)) = (nats l).drop j ∧ (nats l).contains (c.toNat : Int) = true
  | [] => Or.inl ⟨rfl, rfl, rfl, rfl⟩
  | x :: l => by
    have hn : nats (x :: l) = (x.toNat : Int) :: nats l := rfl
    by_cases h : x = c
    · subst h
      refine Or.inr ⟨0, by simp [Lib.indexByte], by simp, ?_, ?_, ?_⟩ <;> rw [hn] <;> simp
    · have hb : (x == c) = false := by simpa using h
      have hi : ¬ ((x.toNat : Int) = (c.toNat : Int)) := fun e => h (UInt8.toNat_inj.1 (by omega))
      have hi2 : ((x.toNat : Int) != (c.toNat : Int)) = true := by simpa using hi
      have hi3 : ((c.toNat : Int) == (x.toNat : Int)) = false := by simpa using fun e => hi e.symm
      rcases idx_while c l with ⟨h1, h2, h3, h4⟩ | ⟨j, h1, h2, h3, h4, h5⟩
      · refine Or.inl ⟨by simp [Lib.indexByte, hb, h1], ?_, ?_, ?_⟩
        · rw [hn, List.takeWhile_cons, hi2, if_pos rfl, h2]
        · rw [hn, List.dropWhile_cons, hi2, if_pos rfl, h3]
        · rw [hn, List.contains_cons, hi3, h4]; rfl
      · refine Or.inr ⟨j + 1, ?_, by simpa using h2, ?_, ?_, ?_⟩
        · have : ¬ ((j : Int) = -1) := by omega
          simp [Lib.indexByte, hb, h1, this]
        · rw [hn, List.takeWhile_cons, hi2, if_pos rfl, h3]; rfl
        · rw [hn, List.dropWhile_cons, hi2, if_pos rfl, h4]; rfl
        · rw [hn, List.contains_cons, h5, Bool.or_true]
theorem Cut_f (s : ByteArray) (hs : s.size < 4294967281) (c : UInt8) : ∃ t u b, strings_Cut.f s ⟨#[c]⟩ = some (t, u, b) ∧ bytesOf t = (bytesOf s).takeWhile (fun x => x != (c.toNat : Int)) ∧ bytesOf u = ((bytesOf s).dropWhile (fun x => x != (c.toNat : Int))).drop 1 ∧ b = (bytesOf s).contains (c.toNat : Int) := by
  unfold strings_Cut.f
  have ea : strings_Cut.at s ⟨#[c]⟩ = Lib.indexByte s.data.toList c := rfl
  rw [if_pos ⟨rfl, hs⟩, ea]
  rcases idx_while c s.data.toList with ⟨h1, h2, h3, h4⟩ | ⟨j, h1, h2, h3, h4, h5⟩
  · rw [nats_bts] at h2 h3 h4
    rw [h1, if_pos (by decide)]
    exact ⟨_, _, _, rfl, h2.symm, by rw [h3]; rfl, h4.symm⟩
  · rw [nats_bts] at h3 h4 h5
    rw [h1, if_neg (by omega), show ((j : Int)).toNat = j by omega]
    refine ⟨_, _, _, rfl, ?_, ?_, h5.symm⟩
    · rw [bts_extract, List.drop_zero, h3]
    · rw [bts_extract_to, h4, List.drop_drop]
-- marks
theorem awake60 : larumlaw09_awake.f 100 = some true := by decide +kernel
theorem awake_at {k : Nat} (h : 100 ≤ k) : larumlaw09_awake.f k = some true := at_rounds (g := fun k => larumlaw09_awake.f k) (fun k => larumlaw09_awake.mono k) h awake60
def my (c : Int) : Bool := (etag_may.f c).getD false
theorem my256 : ∀ c : Fin 256, etag_may.f (c.val : Int) = some (my (c.val : Int)) := by decide +kernel
theorem may_f {c : Int} (h : 0 ≤ c ∧ c ≤ 255) : etag_may.f c = some (my c) := by
  have := my256 ⟨c.toNat, by omega⟩
  rw [show ((⟨c.toNat, by omega⟩ : Fin 256).val : Int) = c from by show ((c.toNat : Nat) : Int) = c; omega] at this
  exact this
theorem All_l0 (s : ByteArray) (hs : s.size ≤ 1000000) : ∀ (f i k : Nat), i + f = s.size → f < k → chars_All_etag_may.l0 k s (i : Int) = some (((bytesOf s).drop i).all my) := by
  intro f
  induction f with
  | zero =>
    intro i k hi hk
    obtain ⟨k, rfl⟩ : ∃ m, k = m + 1 := ⟨k - 1, by omega⟩
    simp only [chars_All_etag_may.l0]
    rw [if_neg (by omega), List.drop_of_length_le (by rw [bytesOf_length]; omega)]
    rfl
  | succ f ih =>
    intro i k hi hk
    obtain ⟨k, rfl⟩ : ∃ m, k = m + 1 := ⟨k - 1, by omega⟩
    simp only [chars_All_etag_may.l0]
    rw [if_pos (by omega), if_pos (by omega), bt_rd, may_f ((bts_byt s).rd _), drop_rd (by rw [bytesOf_length]; omega), w64 (by omega), show ((i : Int) + 1) = ((i + 1 : Nat) : Int) by omega, ih (i + 1) k (by omega) (by omega)]
    simp only [Option.bind_some, List.all_cons]
    cases my (rd (bytesOf s) (i : Int)) <;> simp
theorem All_f (s : ByteArray) (hs : s.size ≤ 1000000) {k : Nat} (hk : s.size < k) : chars_All_etag_may.f k s = some ((bytesOf s).all my) := by
  have := All_l0 s hs s.size 0 k (by omega) hk
  rw [List.drop_zero] at this
  exact this
def nq (x : Int) : Bool := x != 34
/-- The mark at the beginning. -/
def leadL (l : List Int) : Bool × List Int × List Int × Bool :=
  let w := [87, 47].isPrefixOf l
  let l1 := if w = true then l.drop 2 else l
  let q := [34].isPrefixOf l1
  let l2 := if q = true then l1.drop 1 else l1
  if (q && l2.contains 34 && (l2.takeWhile nq).all my) = true then (w, l2.takeWhile nq, (l2.dropWhile nq).drop 1, true) else (false, [], [], false)
theorem lead_f (s : ByteArray) (hs : s.size ≤ 1000000) {k : Nat} (hk : s.size + 1 ≤ k) : ∃ a b c d, etag_lead.f k s = some (a, b, c, d) ∧ (a, bytesOf b, bytesOf c, d) = leadL (bytesOf s) := by
  obtain ⟨t1, b1, e1, f1, g1, z1⟩ := CutPrefix_f s ⟨#[87, 47]⟩
  obtain ⟨t2, b2, e2, f2, g2, z2⟩ := CutPrefix_f t1 ⟨#[34]⟩
  obtain ⟨t3, t4, b3, e3, g3, g4, f3⟩ := Cut_f t2 (by omega) 34
  have p1 : bytesOf (⟨#[87, 47]⟩ : ByteArray) = [87, 47] := rfl
  have p2 : bytesOf (⟨#[34]⟩ : ByteArray) = [34] := rfl
  rw [p1] at f1 g1
  rw [p2] at f2 g2
  have hz : t3.size ≤ s.size := by
    have h1 : t3.size ≤ t2.size := by
      rw [bts_size, g3, bts_size t2]
      exact (List.takeWhile_sublist _).length_le
    omega
  have c34 : ((34 : UInt8).toNat : Int) = 34 := rfl
  rw [c34] at g3 g4 f3
  unfold etag_lead.f
  rw [e1]
  simp only [Option.bind_some]
  rw [e2]
  simp only [Option.bind_some]
  rw [e3]
  simp only [Option.bind_some]
  rw [All_f t3 (by omega) (by omega)]
  have eL : leadL (bytesOf s) = if (b2 && b3 && (bytesOf t3).all my) = true then (b1, bytesOf t3, bytesOf t4, true) else (false, [], [], false) := by
    unfold leadL
    simp only
    rw [← f1, show (if b1 = true then (bytesOf s).drop 2 else bytesOf s) = bytesOf t1 from by rw [g1, ← f1]; rfl, ← f2, show (if b2 = true then (bytesOf t1).drop 1 else bytesOf t1) = bytesOf t2 from by rw [g2, ← f2]; rfl, ← f3, show (bytesOf t2).takeWhile nq = bytesOf t3 from g3.symm, show ((bytesOf t2).dropWhile nq).drop 1 = bytesOf t4 from g4.symm]
  rw [eL]
  cases b2 with
  | false => exact ⟨_, _, _, _, rfl, rfl⟩
  | true =>
    cases b3 with
    | false => exact ⟨_, _, _, _, rfl, rfl⟩
    | true =>
      cases h : (bytesOf t3).all my with
      | false => exact ⟨_, _, _, _, rfl, rfl⟩
      | true => exact ⟨_, _, _, _, rfl, rfl⟩
theorem takeW (T R : List Int) (h : T.all my = true) : (T ++ 34 :: R).takeWhile nq = T ∧ (T ++ 34 :: R).dropWhile nq = 34 :: R := by
  induction T with
  | nil => exact ⟨rfl, rfl⟩
  | cons x T ih =>
    simp only [List.all_cons, Bool.and_eq_true] at h
    have hx : nq x = true := by
      cases hn : nq x with
      | true => rfl
      | false =>
        have : x = 34 := by simpa [nq] using hn
        subst this
        exact absurd h.1 (by decide)
    obtain ⟨i1, i2⟩ := ih h.2
    rw [List.cons_append, List.takeWhile_cons, List.dropWhile_cons, hx, if_pos rfl, if_pos rfl, i1, i2]
    exact ⟨rfl, rfl⟩
/-- A mark as text. -/
def markL (w : Bool) (T : List Int) : List Int := (if w = true then [87, 47] else []) ++ 34 :: (T ++ [34])
theorem lead_mark (w : Bool) (T R : List Int) (h : T.all my = true) : leadL (markL w T ++ R) = (w, T, R, true) := by
  obtain ⟨i1, i2⟩ := takeW T R h
  have e : T ++ [34] ++ R = T ++ 34 :: R := by simp
  have c : (T ++ 34 :: R).contains 34 = true := by simp
  cases w with
  | true =>
    show leadL (87 :: 47 :: 34 :: (T ++ [34] ++ R)) = _
    rw [e]
    unfold leadL
    simp [List.isPrefixOf, i1, i2, h]
  | false =>
    show leadL (34 :: (T ++ [34] ++ R)) = _
    rw [e]
    unfold leadL
    simp [List.isPrefixOf, i1, i2, h]
-- short
theorem short_eq (s : ByteArray) : ∃ t, larumlaw09_short.f s = some t ∧ t.size ≤ 80 := by
  unfold larumlaw09_short.f
  by_cases h : (s.size : Int) > 80
  · exact ⟨_, by rw [if_pos h, if_pos (by decide), if_pos (by omega)], by simp; omega⟩
  · exact ⟨s, by rw [if_neg h], by omega⟩
-- blanks around
def blI (x : Int) : Bool := x == 32 || x == 9
def ltrim (l : List Int) : List Int := l.dropWhile blI
def rtrim (l : List Int) : List Int := (l.reverse.dropWhile blI).reverse
def trimN (l : List Int) : List Int := rtrim (ltrim l)
theorem rtrim_nil : rtrim [] = [] := rfl
theorem rtrim_snoc (l : List Int) (x : Int) : rtrim (l ++ [x]) = if blI x = true then rtrim l else l ++ [x] := by
  unfold rtrim
  rw [List.reverse_append]
  simp only [List.reverse_cons, List.reverse_nil, List.nil_append, List.cons_append, List.dropWhile_cons]
  split
  · rfl
  · simp
theorem rtrim_cons (x : Int) (l : List Int) : rtrim (x :: l) = if rtrim l = [] then (if blI x = true then [] else [x]) else x :: rtrim l := by
  unfold rtrim
  rw [List.reverse_cons, List.dropWhile_append]
  cases h : l.reverse.dropWhile blI with
  | nil =>
    simp only [List.isEmpty_nil, if_true, List.reverse_nil, List.dropWhile_cons, List.dropWhile_nil]
    split <;> simp
  | cons a t => simp
theorem ltrim_cons (x : Int) (l : List Int) : ltrim (x :: l) = if blI x = true then ltrim l else x :: l := by
  unfold ltrim
  rw [List.dropWhile_cons]
theorem trim_comm : ∀ l, ltrim (rtrim l) = trimN l
  | [] => rfl
  | x :: l => by
    have ih := trim_comm l
    unfold trimN at ih ⊢
    rw [ltrim_cons, rtrim_cons]
    by_cases hx : blI x = true
    · simp only [if_pos hx]
      by_cases hr : rtrim l = []
      · rw [if_pos hr]
        rw [hr] at ih
        exact ih
      · rw [if_neg hr, ltrim_cons, if_pos hx, ih]
    · simp only [if_neg hx]
      rw [rtrim_cons]
      by_cases hr : rtrim l = []
      · rw [if_pos hr, if_neg hx, ltrim_cons, if_neg hx, if_pos hr]
      · rw [if_neg hr, ltrim_cons, if_neg hx, if_neg hr]
theorem bl_eq (x : UInt8) : strings_Trim.bl x = blI (x.toNat : Int) := by
  unfold strings_Trim.bl blI
  rw [Bool.eq_iff_iff]
  simp only [List.contains_eq_mem, List.mem_cons, List.not_mem_nil, or_false, decide_eq_true_eq, Bool.or_eq_true, beq_iff_eq]
  constructor
  · rintro (rfl | rfl) <;> decide
  · rintro (h | h)
    · left; exact UInt8.toNat_inj.1 (show x.toNat = 32 by omega)
    · right; exact UInt8.toNat_inj.1 (show x.toNat = 9 by omega)
theorem bl_at (s : ByteArray) (i : Nat) (h : i < s.size) : strings_Trim.bl (s.data.toList.getD i 0) = blI (rd (bytesOf s) (i : Int)) := by
  rw [bl_eq]
  congr 1
  rw [← bt_rd]
  have hl : i < s.data.toList.length := by have := h; simpa using this
  rw [List.getD_eq_getElem?_getD, List.getElem?_eq_getElem hl]
  rw [bt_rd]
  unfold rd bytesOf
  simp [List.getD_eq_getElem?_getD, List.getElem?_eq_getElem hl]
theorem bts_trimR (s : ByteArray) : ∀ n, n ≤ s.size → bytesOf (s.extract 0 (strings_Trim.rcut s n)) = rtrim ((bytesOf s).take n)
  | 0, _ => by
    show bytesOf (s.extract 0 0) = _
    rw [bts_extract]; rfl
  | n + 1, h => by
    have hl : n < (bytesOf s).length := by rw [bytesOf_length]; omega
    unfold strings_Trim.rcut
    rw [bl_at s n (by omega), List.take_succ_eq_append_getElem hl, rtrim_snoc]
    have e : (bytesOf s)[n] = rd (bytesOf s) (n : Int) := by unfold rd; simp [List.getD_eq_getElem?_getD, List.getElem?_eq_getElem hl]
    rw [e]
    split
    · exact bts_trimR s n (by omega)
    · rw [bts_extract, List.drop_zero, List.take_succ_eq_append_getElem hl, e]
theorem bts_trimL (s : ByteArray) : ∀ f i, i + f = s.size → bytesOf (s.extract (strings_Trim.lcut s f i) s.size) = ltrim ((bytesOf s).drop i)
  | 0, i, h => by
    unfold strings_Trim.lcut
    rw [bts_extract_to, List.drop_of_length_le (by rw [bytesOf_length]; omega)]; rfl
  | f + 1, i, h => by
    unfold strings_Trim.lcut
    rw [bl_at s i (by omega), drop_rd (by rw [bytesOf_length]; omega), ltrim_cons]
    split
    · exact bts_trimL s f (i + 1) (by omega)
    · rw [bts_extract_to, drop_rd (by rw [bytesOf_length]; omega)]
theorem Trim_f (s : ByteArray) (hs : s.size ≤ 9223372036854775807) : ∃ t, chars_Trim.f s = some t ∧ bytesOf t = trimN (bytesOf s) ∧ t.size ≤ s.size := by
  unfold chars_Trim.f strings_Trim.f
  rw [if_pos ⟨rfl, hs⟩]
  have e : bytesOf (strings_Trim.trimL (strings_Trim.trimR s)) = trimN (bytesOf s) := by
    have e2 : bytesOf (strings_Trim.trimR s) = rtrim (bytesOf s) := by
      have := bts_trimR s s.size (Nat.le_refl _)
      rw [List.take_of_length_le (by rw [bytesOf_length]; exact Nat.le_refl _)] at this
      exact this
    have := bts_trimL (strings_Trim.trimR s) (strings_Trim.trimR s).size 0 (by omega)
    rw [List.drop_zero, e2, trim_comm] at this
    exact this
  refine ⟨_, rfl, e, ?_⟩
  unfold strings_Trim.trimL strings_Trim.trimR
  simp only [ByteArray.size_extract]
  omega
-- lists of marks
theorem bll_eq (x : UInt8) : strings_TrimLeft.bl x = blI (x.toNat : Int) := bl_eq x
theorem bll_at (s : ByteArray) (i : Nat) (h : i < s.size) : strings_TrimLeft.bl (s.data.toList.getD i 0) = blI (rd (bytesOf s) (i : Int)) := bl_at s i h
theorem bts_trimLL (s : ByteArray) : ∀ f i, i + f = s.size → bytesOf (s.extract (strings_TrimLeft.lcut s f i) s.size) = ltrim ((bytesOf s).drop i)
  | 0, i, h => by
    unfold strings_TrimLeft.lcut
    rw [bts_extract_to, List.drop_of_length_le (by rw [bytesOf_length]; omega)]; rfl
  | f + 1, i, h => by
    unfold strings_TrimLeft.lcut
    rw [bll_at s i (by omega), drop_rd (by rw [bytesOf_length]; omega), ltrim_cons]
    split
    · exact bts_trimLL s f (i + 1) (by omega)
    · rw [bts_extract_to, drop_rd (by rw [bytesOf_length]; omega)]
theorem TrimLeft_f (s : ByteArray) (hs : s.size ≤ 1000000) : ∃ t, strings_TrimLeft.f s ⟨#[32, 9]⟩ = some t ∧ bytesOf t = ltrim (bytesOf s) ∧ t.size ≤ s.size := by
  unfold strings_TrimLeft.f
  rw [if_pos ⟨rfl, by omega⟩]
  refine ⟨_, rfl, ?_, ?_⟩
  · have := bts_trimLL s s.size 0 (by omega)
    rw [List.drop_zero] at this
    exact this
  · unfold strings_TrimLeft.trimL
    simp only [ByteArray.size_extract]
    omega
theorem ltrim_split (l : List Int) : ∃ b, l = b ++ ltrim l ∧ b.all blI = true := ⟨l.takeWhile blI, (List.takeWhile_append_dropWhile).symm, List.all_takeWhile⟩
theorem ltrim_head {l : List Int} {c : Int} {r : List Int} (h : ltrim l = c :: r) : blI c = false := by
  induction l with
  | nil => cases h
  | cons x l ih =>
    rw [ltrim_cons] at h
    split at h
    · exact ih h
    · rename_i hx
      cases h
      simpa using hx
theorem ltrim_blank (b l : List Int) (hb : b.all blI = true) : ltrim (b ++ l) = ltrim l := by
  induction b with
  | nil => rfl
  | cons x b ih =>
    simp only [List.all_cons, Bool.and_eq_true] at hb
    rw [List.cons_append, ltrim_cons, if_pos hb.1, ih hb.2]
theorem ltrim_non (c : Int) (l : List Int) (h : blI c = false) : ltrim (c :: l) = c :: l := by rw [ltrim_cons, if_neg (by simp [h])]
theorem rtrim_blank (b : List Int) (hb : b.all blI = true) : rtrim b = [] := by
  induction b with
  | nil => rfl
  | cons x b ih =>
    simp only [List.all_cons, Bool.and_eq_true] at hb
    rw [rtrim_cons, if_pos (ih hb.2), if_pos hb.1]
theorem trimN_blank (b : List Int) (hb : b.all blI = true) : trimN b = [] := by
  have : ltrim b = [] := by have := ltrim_blank b [] hb; rw [List.append_nil] at this; exact this
  unfold trimN
  rw [this]; rfl
theorem rtrim_append (a b : List Int) : rtrim (a ++ b) = if rtrim b = [] then rtrim a else a ++ rtrim b := by
  induction a with
  | nil =>
    simp only [List.nil_append]
    split
    · rename_i h; rw [h]; rfl
    · rfl
  | cons x a ih =>
    rw [List.cons_append, rtrim_cons, ih]
    by_cases h : rtrim b = []
    · simp only [if_pos h]
      rw [rtrim_cons]
    · simp only [if_neg h]
      rw [if_neg (by simp [h])]; rfl
theorem rtrim_cons_non (c : Int) (l : List Int) (h : blI c = false) : ∃ m, rtrim (c :: l) = c :: m := by
  rw [rtrim_cons, h]
  split
  · exact ⟨[], rfl⟩
  · exact ⟨_, rfl⟩
theorem rtrim_pre (l : List Int) : ∃ r, l = rtrim l ++ r := by
  refine ⟨(l.reverse.takeWhile blI).reverse, ?_⟩
  unfold rtrim
  rw [← List.reverse_append, List.takeWhile_append_dropWhile, List.reverse_reverse]
theorem trimN_non (c : Int) (l : List Int) (h : blI c = false) : trimN (c :: l) = rtrim (c :: l) := by
  unfold trimN
  rw [ltrim_non c l h]
theorem trimN_pad (b l : List Int) (hb : b.all blI = true) : trimN (b ++ l) = trimN l := by
  unfold trimN
  rw [ltrim_blank b l hb]
theorem drop_pre {p l : List Int} (h : p.isPrefixOf l = true) : l = p ++ l.drop p.length := by
  obtain ⟨t, rfl⟩ := List.isPrefixOf_iff_prefix.1 h
  simp
theorem lead_inv {l : List Int} {w : Bool} {T R : List Int} (h : leadL l = (w, T, R, true)) : l = markL w T ++ R ∧ T.all my = true := by
  unfold leadL at h
  dsimp only at h
  by_cases hc : ([34].isPrefixOf (if [87, 47].isPrefixOf l = true then l.drop 2 else l) && (if [34].isPrefixOf (if [87, 47].isPrefixOf l = true then l.drop 2 else l) = true then (if [87, 47].isPrefixOf l = true then l.drop 2 else l).drop 1 else (if [87, 47].isPrefixOf l = true then l.drop 2 else l)).contains 34 && ((if [34].isPrefixOf (if [87, 47].isPrefixOf l = true then l.drop 2 else l) = true then (if [87, 47].isPrefixOf l = true then l.drop 2 else l).drop 1 else (if [87, 47].isPrefixOf l = true then l.drop 2 else l)).takeWhile nq).all my) = true
  · rw [if_pos hc] at h
    simp only [Prod.mk.injEq] at h
    obtain ⟨h1, h2, h3, _⟩ := h
    simp only [Bool.and_eq_true] at hc
    obtain ⟨⟨c1, c2⟩, c3⟩ := hc
    rw [h2] at c3
    refine ⟨?_, c3⟩
    generalize hl1 : (if List.isPrefixOf [87, 47] l = true then List.drop 2 l else l) = l1 at c1 c2 h2 h3
    rw [if_pos c1] at h2 h3 c2
    have e1 : l1 = 34 :: l1.drop 1 := drop_pre c1
    generalize hl2 : l1.drop 1 = l2 at h2 h3 c2 e1
    have e2 : l2 = T ++ 34 :: R := by
      have e := (List.takeWhile_append_dropWhile (p := nq) (l := l2)).symm
      rw [h2] at e
      cases hd : l2.dropWhile nq with
      | nil =>
        have hm : (34 : Int) ∈ l2 := by simpa using c2
        have e0 : l2.takeWhile nq = l2 := by
          have := List.takeWhile_append_dropWhile (p := nq) (l := l2)
          rw [hd, List.append_nil] at this
          exact this
        have ha := List.all_takeWhile (p := nq) (l := l2)
        rw [e0] at ha
        exact absurd (List.all_eq_true.1 ha 34 hm) (by decide)
      | cons x r =>
        have hx : nq x = false := by
          have h0 := List.head?_dropWhile_not nq l2
          rw [hd] at h0
          simpa using h0
        have : x = 34 := by simpa [nq] using hx
        subst this
        rw [hd] at h3 e
        rw [e, ← h3]; rfl
    cases w with
    | true =>
      rw [h1, if_pos rfl] at hl1
      have e0 : l = [87, 47] ++ l.drop 2 := drop_pre h1
      rw [hl1, e1, e2] at e0
      rw [e0]
      simp [markL]
    | false =>
      rw [h1, if_neg (by simp)] at hl1
      rw [hl1, e1, e2]
      simp [markL]
  · rw [if_neg hc] at h
    simp at h
theorem leadL_cases (l : List Int) : (∃ w T R, leadL l = (w, T, R, true)) ∨ leadL l = (false, [], [], false) := by
  unfold leadL
  dsimp only
  by_cases hc : ([34].isPrefixOf (if [87, 47].isPrefixOf l = true then l.drop 2 else l) && (if [34].isPrefixOf (if [87, 47].isPrefixOf l = true then l.drop 2 else l) = true then (if [87, 47].isPrefixOf l = true then l.drop 2 else l).drop 1 else (if [87, 47].isPrefixOf l = true then l.drop 2 else l)).contains 34 && ((if [34].isPrefixOf (if [87, 47].isPrefixOf l = true then l.drop 2 else l) = true then (if [87, 47].isPrefixOf l = true then l.drop 2 else l).drop 1 else (if [87, 47].isPrefixOf l = true then l.drop 2 else l)).takeWhile nq).all my) = true
  · rw [if_pos hc]
    exact .inl ⟨_, _, _, rfl⟩
  · rw [if_neg hc]
    exact .inr rfl
def oneP (l : List Int) : Option (Bool × List Int) := if (leadL l).2.2.2 = true ∧ (leadL l).2.2.1 = [] then some ((leadL l).1, (leadL l).2.1) else none
theorem oneP_mark (w : Bool) (T X : List Int) (h : T.all my = true) : oneP (markL w T ++ X) = if X = [] then some (w, T) else none := by
  unfold oneP
  rw [lead_mark w T X h]
  simp
theorem oneP_some {l : List Int} {w : Bool} {T : List Int} (h : oneP l = some (w, T)) : l = markL w T ∧ T.all my = true := by
  unfold oneP at h
  split at h
  · rename_i hc
    simp only [Option.some.injEq, Prod.mk.injEq] at h
    obtain ⟨rfl, rfl⟩ := h
    have : leadL l = ((leadL l).1, (leadL l).2.1, [], true) := by rw [← hc.1, ← hc.2]
    have := lead_inv this
    rw [List.append_nil] at this
    exact this
  · cases h
theorem mark_head (w : Bool) (T : List Int) : ∃ c m, markL w T = c :: m ∧ blI c = false ∧ (c = 87 ∨ c = 34) := by
  cases w
  · exact ⟨34, _, rfl, rfl, .inr rfl⟩
  · exact ⟨87, _, rfl, rfl, .inl rfl⟩
theorem rtrim_mark (w : Bool) (T : List Int) : rtrim (markL w T) = markL w T := by
  have : markL w T = ((if w = true then [87, 47] else []) ++ 34 :: T) ++ [34] := by simp [markL]
  rw [this, rtrim_snoc, if_neg (by decide)]
theorem trimN_mark (b : List Int) (w : Bool) (T b2 : List Int) (hb : b.all blI = true) (hb2 : b2.all blI = true) : trimN (b ++ (markL w T ++ b2)) = markL w T := by
  obtain ⟨c, m, h, hc, _⟩ := mark_head w T
  rw [trimN_pad b _ hb, h, List.cons_append, trimN_non c _ hc, ← List.cons_append, ← h, rtrim_append, if_pos (rtrim_blank b2 hb2), rtrim_mark]
def tagsL : Nat → List Int → Option (List (Bool × List Int))
  | 0, _ => none
  | f + 1, s => match ltrim s with
    | [] => some []
    | c :: r => if c = 44 then tagsL f r else if (leadL (c :: r)).2.2.2 = true then (match ltrim (leadL (c :: r)).2.2.1 with
      | [] => some [((leadL (c :: r)).1, (leadL (c :: r)).2.1)]
      | c' :: r' => if c' = 44 then (tagsL f r').map (((leadL (c :: r)).1, (leadL (c :: r)).2.1) :: ·) else none) else none
theorem tagsL_nil {f : Nat} {s : List Int} (h : ltrim s = []) : tagsL (f + 1) s = some [] := by simp only [tagsL, h]
theorem tagsL_comma {f : Nat} {s r : List Int} (h : ltrim s = 44 :: r) : tagsL (f + 1) s = tagsL f r := by simp only [tagsL, h, if_true]
theorem tagsL_fail {f : Nat} {s r : List Int} {c : Int} (h : ltrim s = c :: r) (hc : c ≠ 44) (hl : leadL (c :: r) = (false, [], [], false)) : tagsL (f + 1) s = none := by simp only [tagsL, h, hc, hl, if_false]; simp
theorem tagsL_end {f : Nat} {s r : List Int} {c : Int} {w : Bool} {T R : List Int} (h : ltrim s = c :: r) (hc : c ≠ 44) (hl : leadL (c :: r) = (w, T, R, true)) (hR : ltrim R = []) : tagsL (f + 1) s = some [(w, T)] := by simp only [tagsL, h, hc, hl, if_false, if_true, hR]
theorem tagsL_more {f : Nat} {s r r' : List Int} {c : Int} {w : Bool} {T R : List Int} (h : ltrim s = c :: r) (hc : c ≠ 44) (hl : leadL (c :: r) = (w, T, R, true)) (hR : ltrim R = 44 :: r') : tagsL (f + 1) s = (tagsL f r').map ((w, T) :: ·) := by simp only [tagsL, h, hc, hl, if_false, if_true, hR]
theorem tagsL_bad {f : Nat} {s r r' : List Int} {c c' : Int} {w : Bool} {T R : List Int} (h : ltrim s = c :: r) (hc : c ≠ 44) (hl : leadL (c :: r) = (w, T, R, true)) (hR : ltrim R = c' :: r') (hc' : c' ≠ 44) : tagsL (f + 1) s = none := by simp only [tagsL, h, hc, hl, if_false, if_true, hR, hc']
def tg (x : S28) : Bool × List Int := (x.f0, bytesOf x.f1)
theorem bt0 (s : ByteArray) (c : Int) (r : List Int) (h : bytesOf s = c :: r) : bt s 0 = c := by rw [bt_rd, h]; rfl
theorem ex1' (s : ByteArray) (x : Int) (l : List Int) (h : bytesOf s = x :: l) : bytesOf (s.extract 1 s.size) = l := by
  rw [bts_extract_to, h]; rfl
theorem size_cons {s : ByteArray} {c : Int} {r : List Int} (h : bytesOf s = c :: r) : s.size = r.length + 1 := by rw [bts_size, h]; rfl
theorem ltrim_len (l : List Int) : (ltrim l).length ≤ l.length := (List.dropWhile_sublist _).length_le
theorem Tags_l0 : ∀ (f : Nat) (s : ByteArray) (out : List S28) (k : Nat), s.size < f → out.length + s.size ≤ 1000 → 3 * f + 2000 ≤ k →
    (∃ L out', tagsL f (bytesOf s) = some L ∧ etag_tags.l0 k s out = some (out', decide ((out'.length : Int) > 0)) ∧ out'.map tg = out.map tg ++ L) ∨ (tagsL f (bytesOf s) = none ∧ etag_tags.l0 k s out = some ([], false)) := by
  intro f
  induction f with
  | zero => intro s out k h; omega
  | succ f ih =>
    intro s out k hs ho hk
    obtain ⟨k, rfl⟩ : ∃ m, k = m + 3 := ⟨k - 3, by omega⟩
    obtain ⟨t, t1, t2, t3⟩ := TrimLeft_f s (by omega)
    cases hl : ltrim (bytesOf s) with
    | nil =>
      refine .inl ⟨[], out, tagsL_nil hl, ?_, by simp⟩
      have ht : t.toList = [] := (tl_nil t).2 (by rw [t2, hl])
      simp only [etag_tags.l0, t1, Option.bind_some, ht, if_true, etag_tags.j1, etag_tags.j2, Bool.false_eq_true, if_false]
    | cons c r =>
      rw [hl] at t2
      have hz := size_cons t2
      have hne : ¬ t.toList = [] := fun h => by rw [(tl_nil t).1 h] at t2; cases t2
      by_cases hc : c = 44
      · subst hc
        rw [tagsL_comma hl]
        have e : etag_tags.l0 (k + 3) s out = etag_tags.l0 k (t.extract 1 t.size) out := by
          simp only [etag_tags.l0, t1, Option.bind_some, etag_tags.j1, etag_tags.j2, bt0 t _ _ t2]
          rw [if_neg hne, if_pos (by omega), if_neg (by decide), if_neg hne, if_pos (by omega), if_pos trivial, if_pos (by omega)]
        rw [e]
        have hx := ex1' t _ _ t2
        have := ih (t.extract 1 t.size) out k (by rw [bts_size, hx]; omega) (by rw [bts_size, hx]; omega) (by omega)
        rw [hx] at this
        exact this
      · have e : etag_tags.l0 (k + 3) s out = etag_tags.j1 (k + 2) t out true := by
          simp only [etag_tags.l0, t1, Option.bind_some, bt0 t _ _ t2]
          rw [if_neg hne, if_pos (by omega), show (c != 44) = true by simpa using hc]
        rw [e]
        obtain ⟨a, b, d, ok, l1, l2⟩ := lead_f t (by omega) (k := k + 1) (by omega)
        rw [t2] at l2
        rcases leadL_cases (c :: r) with ⟨w, T, R, hw⟩ | hw
        · rw [hw] at l2
          simp only [Prod.mk.injEq] at l2
          obtain ⟨rfl, hT, hR, rfl⟩ := l2
          obtain ⟨u, u1, u2, u3⟩ := TrimLeft_f d (by
            have := (lead_inv hw).1
            have e1 := congrArg List.length this
            rw [List.length_append, ← hR, bytesOf_length] at e1
            simp only [List.length_cons] at e1
            omega)
          have hdz : d.size + 2 ≤ t.size := by
            have := (lead_inv hw).1
            have e1 := congrArg List.length this
            have e2 : 2 ≤ (markL a T).length := by unfold markL; simp; omega
            rw [List.length_append, ← hR, bytesOf_length] at e1
            simp only [List.length_cons] at e1
            omega
          have e2 : etag_tags.j1 (k + 2) t out true = etag_tags.j2 (k + 1) u (out ++ [(⟨a, b⟩ : S28)]) := by
            simp only [etag_tags.j1, if_true, l1, Option.bind_some, u1]
            rw [if_pos (by omega)]
          rw [e2]
          rw [hR] at u2
          cases hu : ltrim R with
          | nil =>
            rw [hu] at u2
            refine .inl ⟨[(a, T)], out ++ [(⟨a, b⟩ : S28)], tagsL_end hl hc hw hu, ?_, ?_⟩
            · simp only [etag_tags.j2]
              rw [if_pos ((tl_nil u).2 u2)]
            · simp [tg, hT]
          | cons c' r' =>
            rw [hu] at u2
            have huz := size_cons u2
            have hune : ¬ u.toList = [] := fun h => by rw [(tl_nil u).1 h] at u2; cases u2
            by_cases hc' : c' = 44
            · subst hc'
              rw [tagsL_more hl hc hw hu]
              have e3 : etag_tags.j2 (k + 1) u (out ++ [(⟨a, b⟩ : S28)]) = etag_tags.l0 k (u.extract 1 u.size) (out ++ [(⟨a, b⟩ : S28)]) := by
                simp only [etag_tags.j2, bt0 u _ _ u2]
                rw [if_neg hune, if_pos (by omega), if_pos trivial, if_pos (by omega)]
              rw [e3]
              have hx := ex1' u _ _ u2
              have hxz : (u.extract 1 u.size).size = r'.length := by rw [bts_size, hx]
              rcases ih (u.extract 1 u.size) (out ++ [(⟨a, b⟩ : S28)]) k (by omega) (by simp; omega) (by omega) with ⟨L, out', h1, h2, h3⟩ | ⟨h1, h2⟩
              · rw [hx] at h1
                refine .inl ⟨(a, T) :: L, out', by rw [h1]; rfl, h2, ?_⟩
                rw [h3]; simp [tg, hT]
              · rw [hx] at h1
                exact .inr ⟨by rw [h1]; rfl, h2⟩
            · refine .inr ⟨tagsL_bad hl hc hw hu hc', ?_⟩
              simp only [etag_tags.j2, bt0 u _ _ u2]
              rw [if_neg hune, if_pos (by omega), if_neg hc']
        · refine .inr ⟨tagsL_fail hl hc hw, ?_⟩
          rw [hw] at l2
          simp only [Prod.mk.injEq] at l2
          obtain ⟨_, _, _, rfl⟩ := l2
          simp only [etag_tags.j1, if_true, l1, Option.bind_some, Bool.false_eq_true, if_false]
theorem Parse_f (s : ByteArray) (hs : s.size ≤ 900) {k : Nat} (hk : 6000 ≤ k) :
    (trimN (bytesOf s) = [42] ∧ etag_Parse.f k s = some (true, [], 0)) ∨
    (trimN (bytesOf s) ≠ [42] ∧ ((∃ L out', tagsL (s.size + 1) (bytesOf s) = some L ∧ L ≠ [] ∧ etag_Parse.f k s = some (false, out', 0) ∧ out'.map tg = L) ∨ ((tagsL (s.size + 1) (bytesOf s) = none ∨ tagsL (s.size + 1) (bytesOf s) = some []) ∧ etag_Parse.f k s = some (false, [], 3)))) := by
  obtain ⟨t, t1, t2, t3⟩ := Trim_f s (by omega)
  have h42 : bytesOf (⟨#[42]⟩ : ByteArray) = [42] := rfl
  have tl42 : (⟨#[42]⟩ : ByteArray).toList = ([42] : List UInt8) := by rw [tl]
  unfold etag_Parse.f
  rw [t1]
  simp only [Option.bind_some]
  by_cases h : trimN (bytesOf s) = [42]
  · refine .inl ⟨h, ?_⟩
    rw [if_pos]
    rw [← tl42, tl_iff, t2, h, h42]
  · refine .inr ⟨h, ?_⟩
    have hn : ¬ t.toList = ([42] : List UInt8) := by
      rw [← tl42, tl_iff, t2, h42]; exact h
    rw [if_neg hn]
    unfold etag_tags.f
    rcases Tags_l0 (s.size + 1) s [] k (by omega) (by simp; omega) (by omega) with ⟨L, out', h1, h2, h3⟩ | ⟨h1, h2⟩
    · rw [h2]
      simp only [Option.bind_some]
      simp only [List.map_nil, List.nil_append] at h3
      cases L with
      | nil =>
        have : out' = [] := by simpa using h3
        subst this
        exact .inr ⟨.inr h1, rfl⟩
      | cons x L =>
        have : 0 < out'.length := by have := congrArg List.length h3; simp at this; omega
        refine .inl ⟨_, out', h1, by simp, ?_, h3⟩
        rw [if_pos (by simp; omega)]
    · rw [h2]
      exact .inr ⟨.inl h1, rfl⟩
-- the document's marks
theorem byte256 : ∀ c : Fin 256, larumref09_Byte.f (c.val : Int) = some (my (c.val : Int)) := by decide +kernel
theorem byte_f {c : Int} (h : 0 ≤ c ∧ c ≤ 255) : larumref09_Byte.f c = some (my c) := by
  have := byte256 ⟨c.toNat, by omega⟩
  rw [show ((⟨c.toNat, by omega⟩ : Fin 256).val : Int) = c from by show ((c.toNat : Nat) : Int) = c; omega] at this
  exact this
theorem Right_l0 (s : ByteArray) (hs : s.size ≤ 9223372036854775807) : ∀ (f i k : Nat), i + f = s.size → f < k → larumref09_Right.l0 k s (i : Int) = some (((bytesOf s).drop i).all my) := by
  intro f
  induction f with
  | zero =>
    intro i k hi hk
    obtain ⟨k, rfl⟩ : ∃ m, k = m + 1 := ⟨k - 1, by omega⟩
    simp only [larumref09_Right.l0]
    rw [if_neg (by omega), List.drop_of_length_le (by rw [bytesOf_length]; omega)]
    rfl
  | succ f ih =>
    intro i k hi hk
    obtain ⟨k, rfl⟩ : ∃ m, k = m + 1 := ⟨k - 1, by omega⟩
    simp only [larumref09_Right.l0]
    rw [if_pos (by omega), if_pos (by omega), bt_rd, byte_f ((bts_byt s).rd _), drop_rd (by rw [bytesOf_length]; omega), w64 (by omega), show ((i : Int) + 1) = ((i + 1 : Nat) : Int) by omega, ih (i + 1) k (by omega) (by omega)]
    simp only [Option.bind_some, List.all_cons]
    cases my (rd (bytesOf s) (i : Int)) <;> simp
theorem Right_f (s : ByteArray) (hs : s.size ≤ 9223372036854775807) {k : Nat} (hk : s.size < k) : larumref09_Right.f k s = some ((bytesOf s).all my) := by
  have := Right_l0 s hs s.size 0 k (by omega) hk
  rw [List.drop_zero] at this
  exact this
theorem Space_f (c : Int) : larumref01_Space.f c = some (blI c) := by
  unfold larumref01_Space.f blI
  by_cases h : c = 32 <;> simp [h]
theorem ex1 (s : ByteArray) (x : Int) (l : List Int) (h : bytesOf s = x :: l) : bytesOf (s.extract 1 s.size) = l := by
  rw [bts_extract_to, h]; rfl
theorem RTrim_l1 : ∀ (n : Nat) (s : ByteArray) (k : Nat), s.size = n → n + 1 ≤ k → s.size ≤ 1000000 → ∃ t, larumref01_Trim.l1 k s = some t ∧ bytesOf t = rtrim (bytesOf s)
  | 0, s, k, hs, hk, hb => by
    obtain ⟨k, rfl⟩ : ∃ j, k = j + 1 := ⟨k - 1, by omega⟩
    have e : bytesOf s = [] := List.eq_nil_of_length_eq_zero (by rw [bytesOf_length]; exact hs)
    simp only [larumref01_Trim.l1]
    rw [if_neg (by omega)]
    exact ⟨s, rfl, by rw [e]; rfl⟩
  | n + 1, s, k, hs, hk, hb => by
    obtain ⟨k, rfl⟩ : ∃ j, k = j + 1 := ⟨k - 1, by omega⟩
    have hl : n < (bytesOf s).length := by rw [bytesOf_length]; omega
    have e : bytesOf s = (bytesOf s).take n ++ [rd (bytesOf s) (n : Int)] := by
      have e1 := List.take_succ_eq_append_getElem hl
      rw [List.take_of_length_le (by rw [bytesOf_length]; omega)] at e1
      have e2 : (bytesOf s)[n] = rd (bytesOf s) (n : Int) := by unfold rd; simp [List.getD_eq_getElem?_getD, List.getElem?_eq_getElem hl]
      rw [← e2]; exact e1
    have ew : wrap64 ((s.size : Int) - 1) = (n : Int) := by rw [w64 (by omega)]; omega
    simp only [larumref01_Trim.l1]
    rw [if_pos (by omega), ew, if_pos (by omega), if_pos (by omega), bt_rd, Space_f]
    simp only [Option.bind_some]
    rw [e, rtrim_snoc, ← e]
    by_cases hb' : blI (rd (bytesOf s) (n : Int)) = true
    · rw [if_pos hb', if_pos hb', if_pos (by omega)]
      have ex : bytesOf (s.extract 0 (n : Int).toNat) = (bytesOf s).take n := by rw [show (n : Int).toNat = n by omega, bts_extract, List.drop_zero]
      have hz : (s.extract 0 (n : Int).toNat).size = n := by rw [bts_size, ex, List.length_take, bytesOf_length]; omega
      obtain ⟨t, t1, t2⟩ := RTrim_l1 n (s.extract 0 (n : Int).toNat) k hz (by omega) (by omega)
      exact ⟨t, t1, by rw [t2, ex]⟩
    · rw [if_neg hb', if_neg hb']
      exact ⟨s, rfl, rfl⟩
theorem RTrim_l0 : ∀ (n : Nat) (s : ByteArray) (k : Nat), s.size = n → 2 * n + 5 ≤ k → s.size ≤ 1000000 → ∃ t, larumref01_Trim.l0 k s = some t ∧ bytesOf t = trimN (bytesOf s)
  | 0, s, k, hs, hk, hb => by
    obtain ⟨k, rfl⟩ : ∃ j, k = j + 2 := ⟨k - 2, by omega⟩
    have e : bytesOf s = [] := List.eq_nil_of_length_eq_zero (by rw [bytesOf_length]; exact hs)
    simp only [larumref01_Trim.l0, larumref01_Trim.j1]
    rw [if_neg (by omega)]
    obtain ⟨t, t1, t2⟩ := RTrim_l1 0 s k hs (by omega) hb
    exact ⟨t, t1, by rw [t2, e]; rfl⟩
  | n + 1, s, k, hs, hk, hb => by
    obtain ⟨k, rfl⟩ : ∃ j, k = j + 2 := ⟨k - 2, by omega⟩
    cases h : bytesOf s with
    | nil => have := bytesOf_length s; rw [h] at this; simp at this; omega
    | cons x l =>
      have e0 : rd (bytesOf s) 0 = x := by rw [h]; rfl
      have ex := ex1 s x l h
      have hz : (s.extract 1 s.size).size = n := by rw [bts_size, ex]; have := bytesOf_length s; rw [h] at this; simp at this; omega
      simp only [larumref01_Trim.l0, larumref01_Trim.j1]
      rw [if_pos (by omega), if_pos (by omega), bt_rd, e0, Space_f]
      simp only [Option.bind_some]
      unfold trimN
      rw [ltrim_cons]
      by_cases hb' : blI x = true
      · rw [if_pos hb', if_pos hb', if_pos (by omega)]
        obtain ⟨t, t1, t2⟩ := RTrim_l0 n (s.extract 1 s.size) (k + 1) hz (by omega) (by omega)
        exact ⟨t, t1, by rw [t2, ex]; rfl⟩
      · rw [if_neg hb', if_neg hb']
        obtain ⟨t, t1, t2⟩ := RTrim_l1 (n + 1) s k hs (by omega) hb
        exact ⟨t, t1, by rw [t2, h]⟩
theorem RTrim_f (s : ByteArray) (hs : s.size ≤ 1000000) {k : Nat} (hk : 2 * s.size + 5 ≤ k) : ∃ t, larumref01_Trim.f k s = some t ∧ bytesOf t = trimN (bytesOf s) := RTrim_l0 s.size s k rfl hk hs
-- the document's parts
def partsL : List Int → Bool → List Int → List (List Int)
  | [], _, w => [w]
  | c :: r, q, w => if c = 34 then partsL r (!q) (w ++ [c]) else if c = 44 ∧ q = false then w :: partsL r q [] else partsL r q (w ++ [c])
theorem parts_acc : ∀ (s : List Int) (q : Bool) (w : List Int), ∃ p ps, partsL s q [] = p :: ps ∧ partsL s q w = (w ++ p) :: ps
  | [], q, w => ⟨[], [], rfl, by simp [partsL]⟩
  | c :: r, q, w => by
    simp only [partsL]
    by_cases h : c = 34
    · simp only [if_pos h, List.nil_append]
      obtain ⟨p, ps, h1, h2⟩ := parts_acc r (!q) [c]
      obtain ⟨p', ps', h1', h2'⟩ := parts_acc r (!q) (w ++ [c])
      rw [h1] at h1'
      obtain ⟨rfl, rfl⟩ := List.cons.inj h1'
      exact ⟨_, _, h2, by rw [h2']; simp⟩
    · simp only [if_neg h, List.nil_append]
      by_cases h2 : c = 44 ∧ q = false
      · simp only [if_pos h2]
        exact ⟨_, _, rfl, by simp⟩
      · simp only [if_neg h2]
        obtain ⟨p, ps, h1, h2⟩ := parts_acc r q [c]
        obtain ⟨p', ps', h1', h2'⟩ := parts_acc r q (w ++ [c])
        rw [h1] at h1'
        obtain ⟨rfl, rfl⟩ := List.cons.inj h1'
        exact ⟨_, _, h2, by rw [h2']; simp⟩
theorem parts_plain : ∀ (b s : List Int) (q : Bool) (w : List Int), (∀ x ∈ b, x ≠ 34 ∧ (x ≠ 44 ∨ q = true)) → partsL (b ++ s) q w = partsL s q (w ++ b)
  | [], s, q, w, _ => by simp
  | x :: b, s, q, w, h => by
    have hx := h x (by simp)
    rw [List.cons_append]
    simp only [partsL]
    rw [if_neg hx.1, if_neg (fun h2 => by rcases hx.2 with h3 | h3 <;> simp_all), parts_plain b s q _ (fun y hy => h y (List.mem_cons_of_mem _ hy))]
    simp
theorem blank_plain {b : List Int} (h : b.all blI = true) (q : Bool) : ∀ x ∈ b, x ≠ 34 ∧ (x ≠ 44 ∨ q = true) := by
  intro x hx
  have := List.all_eq_true.1 h x hx
  unfold blI at this
  simp only [Bool.or_eq_true, beq_iff_eq] at this
  omega
theorem my_34 : my 34 = false := by decide +kernel
theorem my_plain {T : List Int} (h : T.all my = true) : ∀ x ∈ T, x ≠ 34 ∧ (x ≠ 44 ∨ true = true) := by
  intro x hx
  refine ⟨fun e => ?_, .inr rfl⟩
  have := List.all_eq_true.1 h x hx
  rw [e, my_34] at this
  cases this
theorem parts_mark (w : Bool) (T R u : List Int) (hT : T.all my = true) : partsL (markL w T ++ R) false u = partsL R false (u ++ markL w T) := by
  have e : markL w T ++ R = (if w = true then [87, 47] else []) ++ (34 :: (T ++ (34 :: R))) := by simp [markL]
  rw [e, parts_plain _ _ _ _ (by cases w <;> simp)]
  simp only [partsL, if_true, Bool.not_false]
  rw [parts_plain T _ _ _ (my_plain hT)]
  simp only [partsL, if_true, Bool.not_true]
  simp [markL]
theorem parts_first (c : Int) (r : List Int) (hc : c ≠ 44) : ∃ p ps t, partsL (c :: r) false [] = (c :: p) :: ps ∧ c :: r = (c :: p) ++ t := by
  have hpre : ∀ (s : List Int) (q : Bool), ∃ p ps t, partsL s q [] = p :: ps ∧ s = p ++ t := by
    intro s
    induction s with
    | nil => exact fun q => ⟨[], [], [], rfl, rfl⟩
    | cons x s ih =>
      intro q
      simp only [partsL, List.nil_append]
      by_cases h : x = 34
      · rw [if_pos h]
        obtain ⟨p, ps, t, h1, h2⟩ := ih (!q)
        obtain ⟨p', ps', h1', h2'⟩ := parts_acc s (!q) [x]
        rw [h1] at h1'
        obtain ⟨rfl, rfl⟩ := List.cons.inj h1'
        exact ⟨_, _, t, h2', by rw [h2]; simp⟩
      · rw [if_neg h]
        by_cases h3 : x = 44 ∧ q = false
        · rw [if_pos h3]
          exact ⟨_, _, x :: s, rfl, rfl⟩
        · rw [if_neg h3]
          obtain ⟨p, ps, t, h1, h2⟩ := ih q
          obtain ⟨p', ps', h1', h2'⟩ := parts_acc s q [x]
          rw [h1] at h1'
          obtain ⟨rfl, rfl⟩ := List.cons.inj h1'
          exact ⟨_, _, t, h2', by rw [h2]; simp⟩
  obtain ⟨p, ps, t, h1, h2⟩ := hpre r (if c = 34 then true else false)
  obtain ⟨p', ps', h1', h2'⟩ := parts_acc r (if c = 34 then true else false) [c]
  rw [h1] at h1'
  obtain ⟨rfl, rfl⟩ := List.cons.inj h1'
  refine ⟨p, ps, t, ?_, by rw [h2]; rfl⟩
  simp only [partsL, List.nil_append]
  by_cases h : c = 34
  · rw [if_pos h]
    rw [if_pos h] at h2'
    exact h2'
  · rw [if_neg h, if_neg (fun h3 => hc h3.1)]
    rw [if_neg h] at h2'
    exact h2'
def refL : List (List Int) → Option (List (Bool × List Int))
  | [] => some []
  | p :: ps => if trimN p = [] then refL ps else match oneP (trimN p) with
    | none => none
    | some t => (refL ps).map (t :: ·)
theorem refL_skip {p : List Int} {ps : List (List Int)} (h : trimN p = []) : refL (p :: ps) = refL ps := by simp only [refL, h, if_true]
theorem refL_fail {p : List Int} {ps : List (List Int)} (h : trimN p ≠ []) (h2 : oneP (trimN p) = none) : refL (p :: ps) = none := by simp only [refL, h, if_false, h2]
theorem refL_one {p : List Int} {ps : List (List Int)} {t : Bool × List Int} (h : trimN p ≠ []) (h2 : oneP (trimN p) = some t) : refL (p :: ps) = (refL ps).map (t :: ·) := by simp only [refL, h, if_false, h2]
theorem mark_ne (w : Bool) (T : List Int) : markL w T ≠ [] := by cases w <;> simp [markL]
theorem tags_ref : ∀ (f : Nat) (s : List Int), s.length < f → tagsL f s = refL (partsL s false []) := by
  intro f
  induction f with
  | zero => intro s h; omega
  | succ f ih =>
    intro s hs
    obtain ⟨b, hsb, hb⟩ := ltrim_split s
    cases hl : ltrim s with
    | nil =>
      rw [tagsL_nil hl]
      rw [hl, List.append_nil] at hsb
      have : partsL s false [] = [s] := by
        have := parts_plain s [] false [] (blank_plain (by rw [hsb]; exact hb) false)
        simpa [partsL] using this
      rw [this, refL_skip (trimN_blank s (by rw [hsb]; exact hb))]
      rfl
    | cons c r =>
      rw [hl] at hsb
      have hbl := ltrim_head hl
      have hparts : partsL s false [] = partsL (c :: r) false b := by rw [hsb, parts_plain b _ false [] (blank_plain hb false)]; rfl
      have hlen : r.length < f := by
        have := congrArg List.length hsb
        simp only [List.length_append, List.length_cons] at this
        omega
      by_cases hc : c = 44
      · subst hc
        rw [tagsL_comma hl, hparts]
        have : partsL (44 :: r) false b = b :: partsL r false [] := by simp only [partsL]; rw [if_neg (by decide), if_pos ⟨trivial, trivial⟩]
        rw [this, refL_skip (trimN_blank b hb)]
        exact ih r hlen
      · rcases leadL_cases (c :: r) with ⟨w, T, R, hw⟩ | hw
        · obtain ⟨hm, hT⟩ := lead_inv hw
          obtain ⟨b2, hRb, hb2⟩ := ltrim_split R
          rw [hparts, hm, parts_mark w T R b hT]
          cases hR : ltrim R with
          | nil =>
            rw [hR, List.append_nil] at hRb
            rw [tagsL_end hl hc hw hR]
            have : partsL R false (b ++ markL w T) = [b ++ (markL w T ++ R)] := by
              have := parts_plain R [] false (b ++ markL w T) (blank_plain (by rw [hRb]; exact hb2) false)
              simpa [partsL] using this
            have ht := trimN_mark b w T R hb (by rw [hRb]; exact hb2)
            have ho : oneP (trimN (b ++ (markL w T ++ R))) = some (w, T) := by
              rw [ht]
              have := oneP_mark w T [] hT
              rw [List.append_nil, if_pos rfl] at this
              exact this
            rw [this, refL_one (by rw [ht]; exact mark_ne w T) ho]
            rfl
          | cons c' r' =>
            rw [hR] at hRb
            have hlen2 : r'.length < f := by
              have h1 := congrArg List.length hm
              have h2 := congrArg List.length hRb
              simp only [List.length_append, List.length_cons] at h1 h2
              omega
            by_cases hc' : c' = 44
            · subst hc'
              rw [tagsL_more hl hc hw hR]
              have hp : partsL R false (b ++ markL w T) = (b ++ (markL w T ++ b2)) :: partsL r' false [] := by
                rw [hRb, parts_plain b2 _ false _ (blank_plain hb2 false)]
                simp only [partsL]
                rw [if_neg (by decide), if_pos ⟨trivial, trivial⟩, List.append_assoc]
              have ht := trimN_mark b w T b2 hb hb2
              have ho : oneP (trimN (b ++ (markL w T ++ b2))) = some (w, T) := by
                rw [ht]
                have := oneP_mark w T [] hT
                rw [List.append_nil, if_pos rfl] at this
                exact this
              rw [hp, refL_one (by rw [ht]; exact mark_ne w T) ho, ih r' hlen2]
            · rw [tagsL_bad hl hc hw hR hc']
              obtain ⟨p, ps, t, hp, _⟩ := parts_first c' r' hc'
              obtain ⟨p2, ps2, hp1, hp2⟩ := parts_acc (c' :: r') false (b ++ markL w T ++ b2)
              rw [hp] at hp1
              obtain ⟨rfl, rfl⟩ := List.cons.inj hp1
              have e : partsL R false (b ++ markL w T) = (b ++ (markL w T ++ (b2 ++ (c' :: p)))) :: ps := by
                rw [hRb, parts_plain b2 _ false _ (blank_plain hb2 false), hp2]
                simp
              have hc'b := ltrim_head hR
              obtain ⟨z, hz⟩ := rtrim_cons_non c' p hc'b
              have hr2 : rtrim (b2 ++ (c' :: p)) = b2 ++ (c' :: z) := by rw [rtrim_append, if_neg (by rw [hz]; simp), hz]
              have ht : trimN (b ++ (markL w T ++ (b2 ++ (c' :: p)))) = markL w T ++ (b2 ++ (c' :: z)) := by
                obtain ⟨d, m, hd, hdb, _⟩ := mark_head w T
                rw [trimN_pad b _ hb, hd, List.cons_append, trimN_non d _ hdb, ← List.cons_append, ← hd, rtrim_append, hr2, if_neg (by simp)]
              rw [e, refL_fail (by rw [ht]; intro h; exact mark_ne w T (List.append_eq_nil_iff.1 h).1) (by rw [ht, oneP_mark w T _ hT, if_neg (by simp)])]
        · rw [tagsL_fail hl hc hw, hparts]
          obtain ⟨p, ps, t, hp, hpre⟩ := parts_first c r hc
          obtain ⟨p2, ps2, hp1, hp2⟩ := parts_acc (c :: r) false b
          rw [hp] at hp1
          obtain ⟨rfl, rfl⟩ := List.cons.inj hp1
          rw [hp2]
          obtain ⟨z, hz⟩ := rtrim_cons_non c p hbl
          have ht : trimN (b ++ (c :: p)) = c :: z := by rw [trimN_pad b _ hb, trimN_non c p hbl, hz]
          refine (refL_fail (by rw [ht]; simp) ?_).symm
          rw [ht]
          cases ho : oneP (c :: z) with
          | none => rfl
          | some x =>
            obtain ⟨w, T⟩ := x
            obtain ⟨h1, h2⟩ := oneP_some ho
            obtain ⟨y, hy⟩ := rtrim_pre (c :: p)
            rw [hz, h1] at hy
            have : c :: r = markL w T ++ (y ++ t) := by rw [hpre, hy]; simp
            rw [this, lead_mark w T _ h2] at hw
            simp at hw
theorem oneP_iff {l : List Int} {w : Bool} {T : List Int} : oneP l = some (w, T) ↔ l = markL w T ∧ T.all my = true := by
  refine ⟨oneP_some, fun ⟨h1, h2⟩ => ?_⟩
  have := oneP_mark w T [] h2
  rw [List.append_nil, if_pos rfl, ← h1] at this
  exact this
theorem One_f (s : ByteArray) (hs : s.size ≤ 1000000) {k : Nat} (hk : s.size + 1 ≤ k) : (∃ w t, oneP (bytesOf s) = some (w, bytesOf t) ∧ etag_One.f k s = some (w, t, 0)) ∨ (oneP (bytesOf s) = none ∧ etag_One.f k s = some (false, ⟨#[]⟩, 3)) := by
  obtain ⟨a, b, c, d, e1, e2⟩ := lead_f s hs hk
  unfold etag_One.f oneP
  rw [e1, ← e2]
  simp only [Option.bind_some]
  cases d with
  | false => exact .inr ⟨by simp, by simp⟩
  | true =>
    by_cases hc : bytesOf c = []
    · refine .inl ⟨a, b, ?_, ?_⟩
      · rw [if_pos ⟨rfl, hc⟩]
      · rw [if_pos rfl, if_pos ((tl_nil c).2 hc)]
    · refine .inr ⟨?_, ?_⟩
      · rw [if_neg (fun h => hc h.2)]
      · rw [if_pos rfl, if_neg (fun h => hc ((tl_nil c).1 h))]
def rcore (k : Nat) (w : Bool) (x : ByteArray) : Option (Bool × ByteArray × Bool) := (if (x.size : Int) < 2 then (some (false, (⟨#[]⟩ : ByteArray), false)) else (if 0 < (x.size : Int) then (if (bt x 0) = 34 then (if 0 ≤ (wrap64 ((x.size : Int) - 1)) then (if (wrap64 ((x.size : Int) - 1)) < (x.size : Int) then (if (bt x (wrap64 ((x.size : Int) - 1))) = 34 then (if 1 ≤ (wrap64 ((x.size : Int) - 1)) then (if (wrap64 ((x.size : Int) - 1)) ≤ (x.size : Int) then ((larumref09_Right.f k (x.extract 1 ((wrap64 ((x.size : Int) - 1)) : Int).toNat)).bind fun t159 => (if t159 = true then (some (w, x.extract 1 ((wrap64 ((x.size : Int) - 1)) : Int).toNat, true)) else (some (false, (⟨#[]⟩ : ByteArray), false)))) else (none)) else (none)) else (some (false, (⟨#[]⟩ : ByteArray), false))) else (none)) else (none)) else (some (false, (⟨#[]⟩ : ByteArray), false))) else (none)))
theorem ends34 (l : List Int) (h2 : 2 ≤ l.length) (h0 : rd l 0 = 34) (h1 : rd l ((l.length - 1 : Nat) : Int) = 34) : l = 34 :: ((l.drop 1).take (l.length - 2) ++ [34]) := by
  cases l with
  | nil => simp at h2
  | cons x l =>
    have hx : x = 34 := h0
    subst hx
    congr 1
    simp only [List.length_cons] at h1 h2 ⊢
    have hl : l.length - 1 < l.length := by omega
    have e := List.take_succ_eq_append_getElem hl
    rw [show l.length - 1 + 1 = l.length by omega, List.take_length] at e
    rw [List.drop_one, List.tail_cons, show l.length + 1 - 2 = l.length - 1 by omega]
    have : l[l.length - 1] = 34 := by
      unfold rd at h1
      rw [show (((l.length + 1 - 1 : Nat) : Int)).toNat = (l.length - 1) + 1 by omega, List.getD_eq_getElem?_getD, List.getElem?_cons_succ, List.getElem?_eq_getElem hl] at h1
      exact h1
    rw [this] at e
    exact e
theorem rcore_f (w : Bool) (x : ByteArray) (hs : x.size ≤ 1000000) {k : Nat} (hk : x.size < k) :
    (∃ t, bytesOf x = 34 :: (bytesOf t ++ [34]) ∧ (bytesOf t).all my = true ∧ rcore k w x = some (w, t, true)) ∨ ((∀ T, bytesOf x = 34 :: (T ++ [34]) → T.all my = false) ∧ rcore k w x = some (false, ⟨#[]⟩, false)) := by
  have hl := bytesOf_length x
  unfold rcore
  by_cases h2 : (x.size : Int) < 2
  · rw [if_pos h2]
    refine .inr ⟨fun T hT => ?_, rfl⟩
    rw [hT] at hl
    simp at hl
    omega
  · rw [if_neg h2, if_pos (by omega), bt_rd]
    by_cases h0 : rd (bytesOf x) 0 = 34
    · have ew : wrap64 ((x.size : Int) - 1) = ((x.size - 1 : Nat) : Int) := by rw [w64 (by omega)]; omega
      rw [if_pos h0, ew, if_pos (by omega), if_pos (by omega), bt_rd]
      by_cases h1 : rd (bytesOf x) ((x.size - 1 : Nat) : Int) = 34
      · rw [if_pos h1, if_pos (by omega), if_pos (by omega)]
        have he := ends34 (bytesOf x) (by omega) h0 (by rw [hl]; exact h1)
        have hx : bytesOf (x.extract 1 (((x.size - 1 : Nat) : Int)).toNat) = ((bytesOf x).drop 1).take ((bytesOf x).length - 2) := by
          rw [show (((x.size - 1 : Nat) : Int)).toNat = x.size - 1 by omega, bts_extract, List.drop_take, hl]
          congr 1
        have hz : (x.extract 1 (((x.size - 1 : Nat) : Int)).toNat).size ≤ x.size := by simp only [ByteArray.size_extract]; omega
        generalize x.extract 1 (((x.size - 1 : Nat) : Int)).toNat = t at hx hz
        rw [← hx] at he
        rw [Right_f t (by omega) (by omega)]
        simp only [Option.bind_some]
        cases hm : (bytesOf t).all my with
        | true => exact .inl ⟨t, he, hm, by rw [if_pos rfl]⟩
        | false =>
          refine .inr ⟨fun T hT => ?_, by rw [if_neg (by simp)]⟩
          rw [he] at hT
          have : bytesOf t = T := by
            injection hT with _ hT
            exact List.append_cancel_right hT
          rw [← this]; exact hm
      · rw [if_neg h1]
        refine .inr ⟨fun T hT => ?_, rfl⟩
        exfalso
        apply h1
        have hlt : T.length + 2 = x.size := by rw [hT] at hl; simp at hl; omega
        rw [hT]
        unfold rd
        rw [show (((x.size - 1 : Nat) : Int)).toNat = T.length + 1 by omega, List.getD_eq_getElem?_getD, List.getElem?_cons_succ, List.getElem?_append_right (Nat.le_refl _)]
        simp
    · rw [if_neg h0]
      refine .inr ⟨fun T hT => ?_, rfl⟩
      rw [hT] at h0
      exact absurd rfl h0
theorem j0_true (k : Nat) (s : ByteArray) (h : 2 ≤ (s.size : Int)) (w : Bool) (t : ByteArray) : larumref09_One.j0 (k + 1) s true w t = rcore k true (s.extract 2 s.size) := by
  simp only [larumref09_One.j0, if_true, if_pos h]; rfl
theorem j0_false (k : Nat) (s : ByteArray) (w : Bool) (t : ByteArray) : larumref09_One.j0 (k + 1) s false w t = rcore k w s := by
  simp only [larumref09_One.j0, Bool.false_eq_true, if_false]; rfl
theorem One_split (s : ByteArray) : (∃ l2, bytesOf s = 87 :: 47 :: l2 ∧ ∀ k, larumref09_One.f k s = larumref09_One.j0 k s true false ⟨#[]⟩) ∨ ((∀ l2, bytesOf s ≠ 87 :: 47 :: l2) ∧ ∀ k, larumref09_One.f k s = larumref09_One.j0 k s false false ⟨#[]⟩) := by
  have hz := bytesOf_length s
  rcases h : bytesOf s with _ | ⟨a, _ | ⟨b, l⟩⟩
  · rw [h] at hz
    simp at hz
    refine .inr ⟨fun l2 => by simp, fun k => ?_⟩
    unfold larumref09_One.f
    rw [if_neg (by omega)]
  · rw [h] at hz
    simp at hz
    refine .inr ⟨fun l2 => by simp, fun k => ?_⟩
    unfold larumref09_One.f
    rw [if_neg (by omega)]
  · have h0 : bt s 0 = a := by rw [bt_rd, h]; rfl
    have h1 : bt s 1 = b := by rw [bt_rd, h]; rfl
    rw [h] at hz
    simp at hz
    by_cases ha : a = 87
    · by_cases hb : b = 47
      · subst ha hb
        refine .inl ⟨l, rfl, fun k => ?_⟩
        unfold larumref09_One.f
        rw [if_pos (by omega), if_pos (by omega), h0, if_pos rfl, if_pos (by omega), h1]
        rfl
      · refine .inr ⟨fun l2 h2 => hb (by injection h2 with _ h2; injection h2), fun k => ?_⟩
        unfold larumref09_One.f
        rw [if_pos (by omega), if_pos (by omega), h0, if_pos ha, if_pos (by omega), h1, show (b == 47) = false by simpa using hb]
    · refine .inr ⟨fun l2 h2 => ha (by injection h2), fun k => ?_⟩
      unfold larumref09_One.f
      rw [if_pos (by omega), if_pos (by omega), h0, if_neg ha]
theorem ROne_f (s : ByteArray) (hs : s.size ≤ 1000000) {k : Nat} (hk : s.size + 2 ≤ k) : (∃ w t, oneP (bytesOf s) = some (w, bytesOf t) ∧ larumref09_One.f k s = some (w, t, true)) ∨ (oneP (bytesOf s) = none ∧ larumref09_One.f k s = some (false, ⟨#[]⟩, false)) := by
  obtain ⟨k, rfl⟩ : ∃ m, k = m + 1 := ⟨k - 1, by omega⟩
  rcases One_split s with ⟨l2, hl, hf⟩ | ⟨hl, hf⟩
  · have hz := bytesOf_length s
    rw [hl] at hz
    simp at hz
    have hx : bytesOf (s.extract 2 s.size) = l2 := by rw [bts_extract_to, hl]; rfl
    rw [hf, j0_true k s (by omega)]
    rcases rcore_f true (s.extract 2 s.size) (by simp only [ByteArray.size_extract]; omega) (k := k) (by simp only [ByteArray.size_extract]; omega) with ⟨t, h1, h2, h3⟩ | ⟨h1, h2⟩
    · rw [hx] at h1
      exact .inl ⟨true, t, oneP_iff.2 ⟨by rw [hl, h1]; rfl, h2⟩, h3⟩
    · refine .inr ⟨?_, h2⟩
      cases ho : oneP (bytesOf s) with
      | none => rfl
      | some x =>
        obtain ⟨w, T⟩ := x
        obtain ⟨h3, h4⟩ := oneP_iff.1 ho
        cases w with
        | false => rw [hl] at h3; simp [markL] at h3
        | true =>
          have : l2 = 34 :: (T ++ [34]) := by rw [hl] at h3; simpa [markL] using h3
          rw [hx] at h1
          rw [h1 T this] at h4
          cases h4
  · rw [hf, j0_false]
    rcases rcore_f false s hs (k := k) (by omega) with ⟨t, h1, h2, h3⟩ | ⟨h1, h2⟩
    · exact .inl ⟨false, t, oneP_iff.2 ⟨by rw [h1]; rfl, h2⟩, h3⟩
    · refine .inr ⟨?_, h2⟩
      cases ho : oneP (bytesOf s) with
      | none => rfl
      | some x =>
        obtain ⟨w, T⟩ := x
        obtain ⟨h3, h4⟩ := oneP_iff.1 ho
        cases w with
        | true => exact absurd h3 (hl (34 :: (T ++ [34])))
        | false =>
          rw [h1 T h3] at h4
          cases h4
theorem Parts_l0 (s : ByteArray) (hs : s.size ≤ 1000000) : ∀ (f i k : Nat) (acc : List ByteArray) (w : ByteArray) (q : Bool), i + f = s.size → f < k → acc.length ≤ i → w.size ≤ i →
    ∃ l, larumref09_Parts.l0 k s acc w q (i : Int) = some l ∧ l.map bytesOf = acc.map bytesOf ++ partsL ((bytesOf s).drop i) q (bytesOf w) := by
  intro f
  induction f with
  | zero =>
    intro i k acc w q hi hk ha hw
    obtain ⟨k, rfl⟩ : ∃ m, k = m + 1 := ⟨k - 1, by omega⟩
    simp only [larumref09_Parts.l0]
    rw [if_neg (by omega), if_pos (by omega), List.drop_of_length_le (by rw [bytesOf_length]; omega)]
    exact ⟨_, rfl, by simp [partsL]⟩
  | succ f ih =>
    intro i k acc w q hi hk ha hw
    obtain ⟨k, rfl⟩ : ∃ m, k = m + 1 := ⟨k - 1, by omega⟩
    have ew : wrap64 ((i : Int) + 1) = ((i + 1 : Nat) : Int) := by rw [w64 (by omega)]; omega
    have hi' : i < (bytesOf s).length := by rw [bytesOf_length]; omega
    have ex : bytesOf (s.extract (i : Int).toNat (((i + 1 : Nat) : Int)).toNat) = [rd (bytesOf s) (i : Int)] := by
      rw [show (i : Int).toNat = i by omega, show (((i + 1 : Nat) : Int)).toNat = i + 1 by omega, bts_extract, List.drop_take, drop_rd hi', show i + 1 - i = 1 by omega]
      rfl
    have ez : (s.extract (i : Int).toNat (((i + 1 : Nat) : Int)).toNat).size = 1 := by rw [bts_size, ex]; rfl
    simp only [larumref09_Parts.l0]
    rw [if_pos (by omega), if_pos (by omega), ew, bt_rd, drop_rd hi']
    generalize hc : rd (bytesOf s) (i : Int) = c at ex
    generalize s.extract (i : Int).toNat (((i + 1 : Nat) : Int)).toNat = e at ex ez
    have hcat : bytesOf (w ++ e) = bytesOf w ++ [c] := by rw [bts_append, ex]
    have hcz : (w ++ e).size = w.size + 1 := by rw [ByteArray.size_append, ez]
    by_cases h34 : c = 34
    · subst h34
      rw [if_pos rfl, if_neg (by decide), if_pos (by omega), if_pos (by omega), if_pos (by omega)]
      obtain ⟨l, l1, l2⟩ := ih (i + 1) k acc (w ++ e) (!q) (by omega) (by omega) (by omega) (by omega)
      refine ⟨l, l1, ?_⟩
      rw [l2, hcat]
      simp only [partsL, if_true]
    · rw [if_neg h34]
      by_cases h44 : c = 44
      · subst h44
        rw [if_pos rfl]
        cases q with
        | true =>
          rw [if_pos rfl, if_pos (by omega), if_pos (by omega), if_pos (by omega)]
          obtain ⟨l, l1, l2⟩ := ih (i + 1) k acc (w ++ e) true (by omega) (by omega) (by omega) (by omega)
          refine ⟨l, l1, ?_⟩
          rw [l2, hcat]
          simp [partsL]
        | false =>
          rw [if_neg (by simp), if_pos (by omega)]
          obtain ⟨l, l1, l2⟩ := ih (i + 1) k (acc ++ [w]) ⟨#[]⟩ false (by omega) (by omega) (by simp; omega) (Nat.zero_le _)
          refine ⟨l, l1, ?_⟩
          rw [l2]
          simp [partsL]; rfl
      · rw [if_neg h44, if_pos (by omega), if_pos (by omega), if_pos (by omega)]
        obtain ⟨l, l1, l2⟩ := ih (i + 1) k acc (w ++ e) q (by omega) (by omega) (by omega) (by omega)
        refine ⟨l, l1, ?_⟩
        rw [l2, hcat]
        simp [partsL, h34, h44]
theorem parts_len : ∀ (s : List Int) (q : Bool) (w : List Int), (partsL s q w).length ≤ s.length + 1 ∧ ∀ p ∈ partsL s q w, p.length ≤ s.length + w.length
  | [], q, w => by simp [partsL]
  | c :: r, q, w => by
    simp only [partsL]
    split
    · obtain ⟨h1, h2⟩ := parts_len r (!q) (w ++ [c])
      refine ⟨by simp; omega, fun p hp => ?_⟩
      have := h2 p hp
      simp at this ⊢; omega
    · split
      · obtain ⟨h1, h2⟩ := parts_len r q []
        refine ⟨by simp; omega, fun p hp => ?_⟩
        rcases List.mem_cons.1 hp with rfl | hp
        · simp
        · have := h2 p hp
          simp at this ⊢; omega
      · obtain ⟨h1, h2⟩ := parts_len r q (w ++ [c])
        refine ⟨by simp; omega, fun p hp => ?_⟩
        have := h2 p hp
        simp at this ⊢; omega
def tg24 (x : S24) : Bool × List Int := (x.f0, bytesOf x.f1)
theorem rdOf_at (xs : List ByteArray) (i : Nat) (h : i < xs.length) : rdOf ByteArray.empty xs (i : Int) = xs[i] := by
  unfold rdOf
  rw [show ((i : Int)).toNat = i by omega, List.getD_eq_getElem?_getD, List.getElem?_eq_getElem h]
  rfl
theorem RParse_l0 (xs : List ByteArray) (hx : xs.length ≤ 1000) (hz : ∀ x ∈ xs, x.size ≤ 1000) : ∀ (f i k : Nat) (acc : List S24), i + f = xs.length → f + 3000 ≤ k → acc.length ≤ i →
    (∃ L acc', refL ((xs.drop i).map bytesOf) = some L ∧ larumref09_Parse.l0 k acc xs (xs.length : Int) (i : Int) = some (false, acc', decide ((acc'.length : Int) > 0)) ∧ acc'.map tg24 = acc.map tg24 ++ L) ∨
    (refL ((xs.drop i).map bytesOf) = none ∧ larumref09_Parse.l0 k acc xs (xs.length : Int) (i : Int) = some (false, [], false)) := by
  intro f
  induction f with
  | zero =>
    intro i k acc hi hk ha
    obtain ⟨k, rfl⟩ : ∃ m, k = m + 1 := ⟨k - 1, by omega⟩
    refine .inl ⟨[], acc, ?_, ?_, by simp⟩
    · rw [List.drop_of_length_le (by omega)]; rfl
    · simp only [larumref09_Parse.l0]
      rw [if_neg (by omega)]
  | succ f ih =>
    intro i k acc hi hk ha
    obtain ⟨k, rfl⟩ : ∃ m, k = m + 1 := ⟨k - 1, by omega⟩
    have ew : wrap64 ((i : Int) + 1) = ((i + 1 : Nat) : Int) := by rw [w64 (by omega)]; omega
    have hpz := hz (xs[i]'(by omega)) (List.getElem_mem _)
    rw [List.drop_eq_getElem_cons (by omega : i < xs.length), List.map_cons]
    simp only [larumref09_Parse.l0]
    rw [if_pos (by omega), if_pos (by omega), if_pos (by omega), rdOf_at xs i (by omega), ew]
    generalize xs[i]'(by omega) = p at hpz
    obtain ⟨t, t1, t2⟩ := RTrim_f p (by omega) (k := k) (by omega)
    have tz : t.size ≤ 1000 := by
      have h1 : (trimN (bytesOf p)).length ≤ (bytesOf p).length := by
        unfold trimN
        obtain ⟨y, hy⟩ := rtrim_pre (ltrim (bytesOf p))
        have := congrArg List.length hy
        have := ltrim_len (bytesOf p)
        simp only [List.length_append] at *
        omega
      rw [bts_size, t2]
      rw [bytesOf_length] at h1
      omega
    rw [t1]
    simp only [Option.bind_some]
    by_cases ht : trimN (bytesOf p) = []
    · rw [if_pos ((tl_nil t).2 (by rw [t2, ht])), refL_skip ht]
      exact ih (i + 1) k acc (by omega) (by omega) (by omega)
    · rw [if_neg (fun h => ht (by rw [← t2, (tl_nil t).1 h]))]
      rcases ROne_f t (by omega) (k := k) (by omega) with ⟨w, u, h1, h2⟩ | ⟨h1, h2⟩
      · rw [h2]
        simp only [Option.bind_some, if_true]
        rw [if_pos (by omega)]
        rw [t2] at h1
        rw [refL_one ht h1]
        rcases ih (i + 1) k (acc ++ [(⟨w, u⟩ : S24)]) (by omega) (by omega) (by simp; omega) with ⟨L, acc', g1, g2, g3⟩ | ⟨g1, g2⟩
        · rw [g1]
          exact .inl ⟨_, acc', rfl, g2, by rw [g3]; simp [tg24]⟩
        · rw [g1]
          exact .inr ⟨rfl, g2⟩
      · rw [h2]
        rw [t2] at h1
        exact .inr ⟨refL_fail ht h1, by simp only [Option.bind_some, Bool.false_eq_true, if_false]⟩
theorem RParse_f (s : ByteArray) (hs : s.size ≤ 900) {k : Nat} (hk : 6000 ≤ k) :
    (trimN (bytesOf s) = [42] ∧ larumref09_Parse.f k s = some (true, [], true)) ∨
    (trimN (bytesOf s) ≠ [42] ∧ ((∃ L out', tagsL (s.size + 1) (bytesOf s) = some L ∧ L ≠ [] ∧ larumref09_Parse.f k s = some (false, out', true) ∧ out'.map tg24 = L) ∨ ((tagsL (s.size + 1) (bytesOf s) = none ∨ tagsL (s.size + 1) (bytesOf s) = some []) ∧ larumref09_Parse.f k s = some (false, [], false)))) := by
  obtain ⟨t, t1, t2⟩ := RTrim_f s (by omega) (k := k) (by omega)
  have h42 : bytesOf (⟨#[42]⟩ : ByteArray) = [42] := rfl
  have tl42 : (⟨#[42]⟩ : ByteArray).toList = ([42] : List UInt8) := by rw [tl]
  unfold larumref09_Parse.f
  rw [t1]
  simp only [Option.bind_some]
  by_cases h : trimN (bytesOf s) = [42]
  · refine .inl ⟨h, ?_⟩
    rw [if_pos]
    rw [← tl42, tl_iff, t2, h, h42]
  · refine .inr ⟨h, ?_⟩
    have hn : ¬ t.toList = ([42] : List UInt8) := by
      rw [← tl42, tl_iff, t2, h42]; exact h
    rw [if_neg hn]
    obtain ⟨l, l1, l2⟩ := Parts_l0 s (by omega) s.size 0 k [] ⟨#[]⟩ false (by omega) (by omega) (by simp) (Nat.le_refl 0)
    have lf : larumref09_Parts.f k s = some l := l1
    rw [lf]
    simp only [Option.bind_some]
    simp only [List.map_nil, List.nil_append, List.drop_zero] at l2
    have l2' : l.map bytesOf = partsL (bytesOf s) false [] := l2
    obtain ⟨p1, p2⟩ := parts_len (bytesOf s) false []
    have hlen : l.length ≤ 901 := by
      have := congrArg List.length l2'
      rw [List.length_map] at this
      rw [bytesOf_length] at p1
      omega
    have hlz : ∀ x ∈ l, x.size ≤ 1000 := by
      intro x hx
      have : bytesOf x ∈ partsL (bytesOf s) false [] := by rw [← l2']; exact List.mem_map_of_mem hx
      have := p2 _ this
      rw [bytesOf_length, bytesOf_length] at this
      simp at this
      omega
    have hr := tags_ref (s.size + 1) (bytesOf s) (by rw [bytesOf_length]; omega)
    rw [← l2'] at hr
    rw [hr]
    rcases RParse_l0 l (by omega) hlz l.length 0 k [] (by omega) (by omega) (by simp) with ⟨L, out', h1, h2, h3⟩ | ⟨h1, h2⟩
    · have h2' : larumref09_Parse.l0 k [] l (l.length : Int) 0 = some (false, out', decide ((out'.length : Int) > 0)) := h2
      rw [h2']
      rw [List.drop_zero] at h1
      simp only [List.map_nil, List.nil_append] at h3
      cases L with
      | nil =>
        have : out' = [] := by simpa using h3
        subst this
        exact .inr ⟨.inr h1, rfl⟩
      | cons x L =>
        have : 0 < out'.length := by have := congrArg List.length h3; simp at this; omega
        refine .inl ⟨_, out', h1, by simp, ?_, h3⟩
        rw [show decide ((out'.length : Int) > 0) = true by simp; omega]
    · have h2' : larumref09_Parse.l0 k [] l (l.length : Int) 0 = some (false, [], false) := h2
      rw [h2']
      rw [List.drop_zero] at h1
      exact .inr ⟨.inl h1, rfl⟩
-- rows that are the same
theorem rd24 (xs : List S24) (i : Nat) (h : i < xs.length) : rd_T24 xs (i : Int) = xs[i] := by
  unfold rd_T24
  rw [show ((i : Int)).toNat = i by omega, List.getD_eq_getElem?_getD, List.getElem?_eq_getElem h]
  rfl
theorem rd28' (xs : List S28) (i : Nat) (h : i < xs.length) : rd_T28 xs (i : Int) = xs[i] := by
  unfold rd_T28
  rw [show ((i : Int)).toNat = i by omega, List.getD_eq_getElem?_getD, List.getElem?_eq_getElem h]
  rfl
theorem same_at {xs : List S28} {ys : List S24} (h : xs.map tg = ys.map tg24) (i : Nat) (hi : i < ys.length) : i < xs.length ∧ (!((rd_T28 xs (i : Int)).f0 == (rd_T24 ys (i : Int)).f0) || (!(((rd_T28 xs (i : Int)).f1).toList == ((rd_T24 ys (i : Int)).f1).toList))) = false := by
  have hl : xs.length = ys.length := by have := congrArg List.length h; simpa using this
  refine ⟨by omega, ?_⟩
  rw [rd28' xs i (by omega), rd24 ys i hi]
  have e : tg (xs[i]'(by omega)) = tg24 ys[i] := by
    have h1 : (xs.map tg)[i]? = (ys.map tg24)[i]? := by rw [h]
    rw [List.getElem?_map, List.getElem?_map, List.getElem?_eq_getElem (by omega), List.getElem?_eq_getElem hi] at h1
    simpa using h1
  unfold tg tg24 at e
  simp only [Prod.mk.injEq] at e
  have e2 := (tl_iff _ _).2 e.2
  rw [e.1, e2]
  simp
theorem l0_same {xs : List S28} {ys : List S24} (h : xs.map tg = ys.map tg24) (hy : ys.length ≤ 1000) (b c : Bool) (hb : b = true ∨ xs = []) : ∀ (f i k : Nat), i + f = xs.length → f + 200 ≤ k → larumlaw09_EtagParse.l0 k ys b (xs.length : Int) (i : Int) c xs = some true := by
  have hl : xs.length = ys.length := by have := congrArg List.length h; simpa using this
  intro f
  induction f with
  | zero =>
    intro i k hi hk
    obtain ⟨k, rfl⟩ : ∃ m, k = m + 1 := ⟨k - 1, by omega⟩
    simp only [larumlaw09_EtagParse.l0]
    rw [if_neg (by omega), awake_at (by omega)]
    rcases hb with rfl | rfl
    · rfl
    · cases b <;> rfl
  | succ f ih =>
    intro i k hi hk
    obtain ⟨k, rfl⟩ : ∃ m, k = m + 1 := ⟨k - 1, by omega⟩
    obtain ⟨h1, h2⟩ := same_at h i (by omega)
    simp only [larumlaw09_EtagParse.l0]
    rw [if_pos (by omega), if_pos (by omega), if_pos (by omega), if_pos (by omega), h2, if_neg (by simp), w64 (by omega), show ((i : Int) + 1) = ((i + 1 : Nat) : Int) by omega]
    exact ih (i + 1) k (by omega) (by omega)
theorem tags_few : ∀ (f : Nat) (s : List Int) (L : List (Bool × List Int)), tagsL f s = some L → L.length ≤ s.length + 1 := by
  intro f
  induction f with
  | zero => intro s L h; cases h
  | succ f ih =>
    intro s L h
    obtain ⟨b, hsb, _⟩ := ltrim_split s
    have hbl := congrArg List.length hsb
    rw [List.length_append] at hbl
    cases hl : ltrim s with
    | nil =>
      rw [tagsL_nil hl] at h
      cases h
      simp
    | cons c r =>
      rw [hl, List.length_cons] at hbl
      by_cases hc : c = 44
      · subst hc
        rw [tagsL_comma hl] at h
        have := ih r L h
        omega
      · rcases leadL_cases (c :: r) with ⟨w, T, R, hw⟩ | hw
        · obtain ⟨hm, hT⟩ := lead_inv hw
          have hml := congrArg List.length hm
          rw [List.length_append, List.length_cons] at hml
          have hRl := ltrim_len R
          cases hR : ltrim R with
          | nil =>
            rw [tagsL_end hl hc hw hR] at h
            cases h
            simp
          | cons c' r' =>
            rw [hR, List.length_cons] at hRl
            by_cases hc' : c' = 44
            · subst hc'
              rw [tagsL_more hl hc hw hR] at h
              cases hm' : tagsL f r' with
              | none => rw [hm'] at h; cases h
              | some L' =>
                rw [hm'] at h
                cases h
                have := ih r' L' hm'
                simp only [List.length_cons]
                omega
            · rw [tagsL_bad hl hc hw hR hc'] at h
              cases h
        · rw [tagsL_fail hl hc hw] at h
          cases h
theorem EtagParse : larumlaw09_EtagParse.Pure := by
  intro a _
  obtain ⟨s, hs, hz⟩ := short_eq a
  obtain ⟨k, hk⟩ : ∃ k : Nat, k = 9000 := ⟨_, rfl⟩
  refine ⟨k + 2, ?_⟩
  unfold larumlaw09_EtagParse.f
  rw [hs]
  simp only [Option.bind_some]
  have hj : ∀ (x y : Bool × ByteArray × Int), True := fun _ _ => trivial
  have main : larumlaw09_EtagParse.j0 (k + 2) s false = some true := by
    simp only [larumlaw09_EtagParse.j0, Bool.false_eq_true, if_false]
    rcases Parse_f s (by omega) (k := k + 1) (by omega) with ⟨h1, h2⟩ | ⟨h1, ⟨L, out, h2, h3, h4, h5⟩ | ⟨h2, h3⟩⟩
    · rcases RParse_f s (by omega) (k := k + 1) (by omega) with ⟨g1, g2⟩ | ⟨g1, _⟩
      · rw [h2, g2]
        simp only [Option.bind_some]
        show larumlaw09_EtagParse.j1 (k + 1) [] true false true [] = some true
        simp only [larumlaw09_EtagParse.j1, Bool.false_eq_true, if_false]
        exact l0_same (xs := []) (ys := []) rfl (by simp) true true (.inl rfl) 0 0 k rfl (by omega)
      · exact absurd h1 g1
    · rcases RParse_f s (by omega) (k := k + 1) (by omega) with ⟨g1, _⟩ | ⟨g1, ⟨L', out', g2, g3, g4, g5⟩ | ⟨g2, g3⟩⟩
      · exact absurd g1 h1
      · rw [h2] at g2
        obtain rfl := Option.some.inj g2
        rw [h4, g4]
        simp only [Option.bind_some]
        have hlen : out.length = out'.length := by have := congrArg List.length (h5.trans g5.symm); simpa using this
        have hfew := tags_few _ _ _ h2
        have hol : out'.length ≤ 82 := by
          rw [← g5, List.length_map, bytesOf_length] at hfew
          omega
        show larumlaw09_EtagParse.j1 (k + 1) out' true ((out.length : Int) != (out'.length : Int)) false out = some true
        rw [hlen, show ((out'.length : Int) != (out'.length : Int)) = false by simp]
        simp only [larumlaw09_EtagParse.j1, Bool.false_eq_true, if_false]
        exact l0_same (h5.trans g5.symm) (by omega) true false (.inl rfl) out.length 0 k (by omega) (by omega)
      · rcases g2 with g2 | g2
        · rw [h2] at g2; cases g2
        · rw [h2] at g2
          exact absurd (Option.some.inj g2) h3
    · rcases RParse_f s (by omega) (k := k + 1) (by omega) with ⟨g1, _⟩ | ⟨g1, ⟨L', out', g2, g3, g4, g5⟩ | ⟨g2, g3⟩⟩
      · exact absurd g1 h1
      · rcases h2 with h2 | h2
        · rw [h2] at g2; cases g2
        · rw [h2] at g2
          exact absurd (Option.some.inj g2).symm g3
      · rw [h3, g3]
        simp only [Option.bind_some]
        show larumlaw09_EtagParse.j1 (k + 1) [] false false false [] = some true
        simp only [larumlaw09_EtagParse.j1, Bool.false_eq_true, if_false]
        exact l0_same (xs := []) (ys := []) rfl (by simp) false false (.inr rfl) 0 0 k rfl (by omega)
  rcases One_f s (by omega) (k := k + 2) (by omega) with ⟨w, t, h1, h2⟩ | ⟨h1, h2⟩
  · rcases ROne_f s (by omega) (k := k + 2) (by omega) with ⟨w', t', g1, g2⟩ | ⟨g1, g2⟩
    · rw [h1] at g1
      have e := Option.some.inj g1
      simp only [Prod.mk.injEq] at e
      obtain ⟨rfl, e⟩ := e
      obtain rfl : t = t' := ext_bts e
      rw [h2, g2]
      simp only [Option.bind_some]
      simpa using main
    · rw [h1] at g1; cases g1
  · rcases ROne_f s (by omega) (k := k + 2) (by omega) with ⟨w', t', g1, g2⟩ | ⟨g1, g2⟩
    · rw [h1] at g1; cases g1
    · rw [h2, g2]
      simp only [Option.bind_some]
      simpa using main
end Go.Proofs.YteoicfgjijmigaaDoor.Pure
