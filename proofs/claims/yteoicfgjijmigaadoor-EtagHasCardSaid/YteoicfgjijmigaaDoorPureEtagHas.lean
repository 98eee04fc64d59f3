/- Whether a list has a mark is as the chapter says: for any marks, and any mark. No condition. -/
import Derived.Test.YteoicfgjijmigaaDoorPEtagHasx5
namespace Go.Proofs.YteoicfgjijmigaaDoor.Pure
open Go Go.RowKit Go.Proofs.YteoicfgjijmigaaDoor.PEtagHas Go.Proofs.YteoicfgjijmigaaDoor.Gp Go.Proofs.YteoicfgjijmigaaDoorW Go.Proofs.YteoicfgjijmigaaDoorW.PrintWords Go.Proofs.YteoicfgjijmigaaDoorW.PrintLast Go.Proofs.YteoicfgjijmigaaDoorW.PrintMore
set_option linter.unusedVariables false
set_option linter.unusedSimpArgs false
-- strings as lists of numbers
def Byt (l : List Int) : Prop := ∀ x ∈ l, 0 ≤ x ∧ x ≤ 255
theorem Byt.rd {l : List Int} (h : Byt l) (i : Int) : 0 ≤ PrintWords.rd l i ∧ PrintWords.rd l i ≤ 255 := by
  unfold PrintWords.rd
  rw [List.getD_eq_getElem?_getD]
  by_cases hi : i.toNat < l.length
  · rw [List.getElem?_eq_getElem hi]; exact h _ (List.getElem_mem hi)
  · rw [List.getElem?_eq_none (by omega)]; decide
theorem Byt.take {l : List Int} (h : Byt l) (n : Nat) : Byt (l.take n) := fun x hx => h x (List.mem_of_mem_take hx)
theorem Byt.drop {l : List Int} (h : Byt l) (n : Nat) : Byt (l.drop n) := fun x hx => h x (List.mem_of_mem_drop hx)
theorem w64 {x : Int} (h : -9223372036854775808 ≤ x ∧ x ≤ 9223372036854775807) : wrap64 x = x := by unfold wrap64; omega
theorem u64w (x : Int) : IntKind.u64.wrap x = x % 18446744073709551616 := by simp [IntKind.wrap, IntKind.bits, IntKind.signed]
theorem wu64 {x : Int} (h : 0 ≤ x ∧ x ≤ 18446744073709551615) : IntKind.u64.wrap x = x := by rw [u64w]; omega
theorem bts_byt (s : ByteArray) : Byt (bytesOf s) := by
  intro x hx
  simp only [bytesOf, List.mem_map] at hx
  obtain ⟨b, _, rfl⟩ := hx
  have := b.toNat_lt
  omega
theorem bts_len (s : ByteArray) : ((bytesOf s).length : Int) = (s.size : Int) := by rw [bytesOf_length]
theorem bt_rd (s : ByteArray) (i : Int) : bt s i = rd (bytesOf s) i := (rd_bytesOf s i).symm
theorem tl (s : ByteArray) : s.toList = s.data.toList := ByteArray.toList_eq s
theorem u8_map_inj : ∀ {a b : List UInt8}, a.map (fun x => (x.toNat : Int)) = b.map (fun x => (x.toNat : Int)) → a = b
  | [], [], _ => rfl
  | [], _ :: _, h => by simp at h
  | _ :: _, [], h => by simp at h
  | x :: a, y :: b, h => by
    simp only [List.map_cons, List.cons.injEq] at h
    rw [u8_map_inj h.2, UInt8.toNat_inj.1 (by omega : x.toNat = y.toNat)]
theorem tl_iff (s t : ByteArray) : s.toList = t.toList ↔ bytesOf s = bytesOf t := by
  rw [tl, tl]
  exact ⟨fun h => by unfold bytesOf; rw [h], fun h => u8_map_inj h⟩
theorem tl_nil (s : ByteArray) : s.toList = ([] : List UInt8) ↔ bytesOf s = [] := by
  rw [tl]
  unfold bytesOf
  rw [List.map_eq_nil_iff]
theorem bts_extract (s : ByteArray) (a b : Nat) : bytesOf (s.extract a b) = ((bytesOf s).take b).drop a := by
  unfold bytesOf
  rw [List.drop_take, ← List.map_drop, ← List.map_take]
  congr 1
  simp [List.drop_take]
theorem bts_extract_to (s : ByteArray) (a : Nat) : bytesOf (s.extract a s.size) = (bytesOf s).drop a := by
  rw [bts_extract, List.take_of_length_le (by rw [bytesOf_length]; omega)]
theorem bts_append (s t : ByteArray) : bytesOf (s ++ t) = bytesOf s ++ bytesOf t := by
  unfold bytesOf
  rw [← List.map_append]
  congr 1
theorem bts_size (s : ByteArray) : s.size = (bytesOf s).length := (bytesOf_length s).symm
theorem drop_rd {l : List Int} {i : Nat} (h : i < l.length) : l.drop i = rd l (i : Int) :: l.drop (i + 1) := by
  rw [List.drop_eq_getElem_cons h]
  unfold rd
  simp [List.getD_eq_getElem?_getD, List.getElem?_eq_getElem h]
theorem rd_cons_zero (a : Int) (l : List Int) : rd (a :: l) 0 = a := rfl
-- a string made of numbers
theorem bts_son {xs : List Int} (h : Byt xs) : bytesOf (strOfNums xs) = xs := by
  unfold bytesOf
  rw [strOfNums_data, List.map_map]
  conv => rhs; rw [← List.map_id xs]
  apply List.map_congr_left
  intro x hx
  have := h x hx
  simp only [Function.comp, id]
  have e : (UInt8.ofNat x.toNat).toNat = x.toNat := by
    rw [UInt8.toNat_ofNat']
    omega
  rw [e]; omega
theorem bts_tl_iff {s t : ByteArray} : s.toList = t.toList ↔ bytesOf s = bytesOf t := tl_iff s t
theorem ext_bts {s t : ByteArray} (h : bytesOf s = bytesOf t) : s = t := by
  have := (tl_iff s t).2 h
  rw [tl, tl] at this
  cases s with | mk a => cases t with | mk b => simp at this; rw [this]
-- prefixes, cuts at a byte
def nats (l : List UInt8) : List Int := l.map fun x => (x.toNat : Int)
theorem nats_bts (s : ByteArray) : nats s.data.toList = bytesOf s := rfl
theorem pre_nats : ∀ (p l : List UInt8), p.isPrefixOf l = (nats p).isPrefixOf (nats l)
  | [], _ => by simp [nats]
  | _ :: _, [] => by simp [nats]
  | a :: p, b :: l => by
    have e : (a == b) = ((a.toNat : Int) == (b.toNat : Int)) := by
      rw [Bool.eq_iff_iff, beq_iff_eq, beq_iff_eq, ← UInt8.toNat_inj]; omega
    show (a == b && p.isPrefixOf l) = (((a.toNat : Int) == (b.toNat : Int)) && (nats p).isPrefixOf (nats l))
    rw [e, pre_nats p l]
theorem CutPrefix_f (s p : ByteArray) : ∃ t b, strings_CutPrefix.f s p = some (t, b) ∧ b = (bytesOf p).isPrefixOf (bytesOf s) ∧ bytesOf t = (if (bytesOf p).isPrefixOf (bytesOf s) = true then (bytesOf s).drop (bytesOf p).length else bytesOf s) ∧ t.size ≤ s.size := by
  have e : Lib.hasPrefix s.data.toList p.data.toList = (bytesOf p).isPrefixOf (bytesOf s) := pre_nats _ _
  have eb : bytesOf (⟨(Lib.trimPrefix s.data.toList p.data.toList).toArray⟩ : ByteArray) = (if (bytesOf p).isPrefixOf (bytesOf s) = true then (bytesOf s).drop (bytesOf p).length else bytesOf s) := by
    unfold Lib.trimPrefix
    rw [e]
    have h0 : ∀ l : List UInt8, bytesOf (⟨l.toArray⟩ : ByteArray) = nats l := fun l => rfl
    rw [h0]
    by_cases h : (bytesOf p).isPrefixOf (bytesOf s) = true
    · rw [if_pos h, if_pos h]
      unfold nats
      rw [List.map_drop]
      simp [bytesOf]
    · rw [if_neg h, if_neg h]; rfl
  refine ⟨_, _, rfl, e, eb, ?_⟩
  rw [bts_size, eb, bts_size]
  split
  · rw [List.length_drop]; omega
  · exact Nat.le_refl _
theorem idx_while (c : UInt8) : ∀ (l : List UInt8),
    (Lib.indexByte l c = -1 ∧ (nats l).takeWhile (fun x => x != (c.toNat : Int)) = nats l ∧ (nats l).dropWhile (fun x => x != (c.toNat : Int)) = [] ∧ (nats l).contains (c.toNat : Int) = false) ∨
    ∃ j : Nat, Lib.indexByte l c = (j : Int) ∧ j < l.length ∧ (nats l).takeWhile (fun x => x != (c.toNat : Int)) = (nats l).take j ∧ (nats l).dropWhile (fun x => x != (c.toNat : Int)) = (nats l).drop j ∧ (nats l).contains (c.toNat : Int) = true
  | [] => Or.inl ⟨rfl, rfl, rfl, rfl⟩
  | x :: l => by
    have hn : nats (x :: l) = (x.toNat : Int) :: nats l := rfl
    by_cases h : x = c
    · subst h
      refine Or.inr ⟨0, by simp [Lib.indexByte], by simp, ?_, ?_, ?_⟩ <;> rw [hn] <;> simp
    · have hb : (x == c) = false := by simpa using h
      have hi : ¬ ((x.toNat : Int) = (c.toNat : Int)) := fun e => h (UInt8.toNat_inj.1 (by omega))
      have hi2 : ((x.toNat : Int) != (c.toNat : Int)) = true := by simpa using hi
      have hi3 : ((c.toNat : Int) == (x.toNat : Int)) = false := by simpa using fun e => hi e.symm
      rcases idx_while c l with ⟨h1, h2, h3, h4⟩ | ⟨j, h1, h2, h3, h4, h5⟩
      · refine Or.inl ⟨by simp [Lib.indexByte, hb, h1], ?_, ?_, ?_⟩
        · rw [hn, List.takeWhile_cons, hi2, if_pos rfl, h2]
        · rw [hn, List.dropWhile_cons, hi2, if_pos rfl, h3]
        · rw [hn, List.contains_cons, hi3, h4]; rfl
      · refine Or.inr ⟨j + 1, ?_, by simpa using h2, ?_, ?_, ?_⟩
        · have : ¬ ((j : Int) = -1) := by omega
          simp [Lib.indexByte, hb, h1, this]
        · rw [hn, List.takeWhile_cons, hi2, if_pos rfl, h3]; rfl
        · rw [hn, List.dropWhile_cons, hi2, if_pos rfl, h4]; rfl
        · rw [hn, List.contains_cons, h5, Bool.or_true]
theorem Cut_f (s : ByteArray) (hs : s.size < 4294967281) (c : UInt8) : ∃ t u b, strings_Cut.f s ⟨#[c]⟩ = some (t, u, b) ∧ bytesOf t = (bytesOf s).takeWhile (fun x => x != (c.toNat : Int)) ∧ bytesOf u = ((bytesOf s).dropWhile (fun x => x != (c.toNat : Int))).drop 1 ∧ b = (bytesOf s).contains (c.toNat : Int) := by
  unfold strings_Cut.f
  have ea : strings_Cut.at s ⟨#[c]⟩ = Lib.indexByte s.data.toList c := rfl
  rw [if_pos ⟨rfl, hs⟩, ea]
  rcases idx_while c s.data.toList with ⟨h1, h2, h3, h4⟩ | ⟨j, h1, h2, h3, h4, h5⟩
  · rw [nats_bts] at h2 h3 h4
    rw [h1, if_pos (by decide)]
    exact ⟨_, _, _, rfl, h2.symm, by rw [h3]; rfl, h4.symm⟩
  · rw [nats_bts] at h3 h4 h5
    rw [h1, if_neg (by omega), show ((j : Int)).toNat = j by omega]
    refine ⟨_, _, _, rfl, ?_, ?_, h5.symm⟩
    · rw [bts_extract, List.drop_zero, h3]
    · rw [bts_extract_to, h4, List.drop_drop]
-- marks
theorem awake60 : larumlaw09_awake.f 100 = some true := by decide +kernel
theorem awake_at {k : Nat} (h : 100 ≤ k) : larumlaw09_awake.f k = some true := at_rounds (g := fun k => larumlaw09_awake.f k) (fun k => larumlaw09_awake.mono k) h awake60
def my (c : Int) : Bool := (etag_may.f c).getD false
theorem my256 : ∀ c : Fin 256, etag_may.f (c.val : Int) = some (my (c.val : Int)) := by decide +kernel
theorem may_f {c : Int} (h : 0 ≤ c ∧ c ≤ 255) : etag_may.f c = some (my c) := by
  have := my256 ⟨c.toNat, by omega⟩
  rw [show ((⟨c.toNat, by omega⟩ : Fin 256).val : Int) = c from by show ((c.toNat : Nat) : Int) = c; omega] at this
  exact this
theorem All_l0 (s : ByteArray) (hs : s.size ≤ 1000000) : ∀ (f i k : Nat), i + f = s.size → f < k → chars_All_etag_may.l0 k s (i : Int) = some (((bytesOf s).drop i).all my) := by
  intro f
  induction f with
  | zero =>
    intro i k hi hk
    obtain ⟨k, rfl⟩ : ∃ m, k = m + 1 := ⟨k - 1, by omega⟩
    simp only [chars_All_etag_may.l0]
    rw [if_neg (by omega), List.drop_of_length_le (by rw [bytesOf_length]; omega)]
    rfl
  | succ f ih =>
    intro i k hi hk
    obtain ⟨k, rfl⟩ : ∃ m, k = m + 1 := ⟨k - 1, by omega⟩
    simp only [chars_All_etag_may.l0]
    rw [if_pos (by omega), if_pos (by omega), bt_rd, may_f ((bts_byt s).rd _), drop_rd (by rw [bytesOf_length]; omega), w64 (by omega), show ((i : Int) + 1) = ((i + 1 : Nat) : Int) by omega, ih (i + 1) k (by omega) (by omega)]
    simp only [Option.bind_some, List.all_cons]
    cases my (rd (bytesOf s) (i : Int)) <;> simp
theorem All_f (s : ByteArray) (hs : s.size ≤ 1000000) {k : Nat} (hk : s.size < k) : chars_All_etag_may.f k s = some ((bytesOf s).all my) := by
  have := All_l0 s hs s.size 0 k (by omega) hk
  rw [List.drop_zero] at this
  exact this
def nq (x : Int) : Bool := x != 34
/-- The mark at the beginning. -/
def leadL (l : List Int) : Bool × List Int × List Int × Bool :=
  let w := [87, 47].isPrefixOf l
  let l1 := if w = true then l.drop 2 else l
  let q := [34].isPrefixOf l1
  let l2 := if q = true then l1.drop 1 else l1
  if (q && l2.contains 34 && (l2.takeWhile nq).all my) = true then (w, l2.takeWhile nq, (l2.dropWhile nq).drop 1, true) else (false, [], [], false)
theorem lead_f (s : ByteArray) (hs : s.size ≤ 1000000) {k : Nat} (hk : s.size + 1 ≤ k) : ∃ a b c d, etag_lead.f k s = some (a, b, c, d) ∧ (a, bytesOf b, bytesOf c, d) = leadL (bytesOf s) := by
  obtain ⟨t1, b1, e1, f1, g1, z1⟩ := CutPrefix_f s ⟨#[87, 47]⟩
  obtain ⟨t2, b2, e2, f2, g2, z2⟩ := CutPrefix_f t1 ⟨#[34]⟩
  obtain ⟨t3, t4, b3, e3, g3, g4, f3⟩ := Cut_f t2 (by omega) 34
  have p1 : bytesOf (⟨#[87, 47]⟩ : ByteArray) = [87, 47] := rfl
  have p2 : bytesOf (⟨#[34]⟩ : ByteArray) = [34] := rfl
  rw [p1] at f1 g1
  rw [p2] at f2 g2
  have hz : t3.size ≤ s.size := by
    have h1 : t3.size ≤ t2.size := by
      rw [bts_size, g3, bts_size t2]
      exact (List.takeWhile_sublist _).length_le
    omega
  have c34 : ((34 : UInt8).toNat : Int) = 34 := rfl
  rw [c34] at g3 g4 f3
  unfold etag_lead.f
  rw [e1]
  simp only [Option.bind_some]
  rw [e2]
  simp only [Option.bind_some]
  rw [e3]
  simp only [Option.bind_some]
  rw [All_f t3 (by omega) (by omega)]
  have eL : leadL (bytesOf s) = if (b2 && b3 && (bytesOf t3).all my) = true then (b1, bytesOf t3, bytesOf t4, true) else (false, [], [], false) := by
    unfold leadL
    simp only
    rw [← f1, show (if b1 = true then (bytesOf s).drop 2 else bytesOf s) = bytesOf t1 from by rw [g1, ← f1]; rfl, ← f2, show (if b2 = true then (bytesOf t1).drop 1 else bytesOf t1) = bytesOf t2 from by rw [g2, ← f2]; rfl, ← f3, show (bytesOf t2).takeWhile nq = bytesOf t3 from g3.symm, show ((bytesOf t2).dropWhile nq).drop 1 = bytesOf t4 from g4.symm]
  rw [eL]
  cases b2 with
  | false => exact ⟨_, _, _, _, rfl, rfl⟩
  | true =>
    cases b3 with
    | false => exact ⟨_, _, _, _, rfl, rfl⟩
    | true =>
      cases h : (bytesOf t3).all my with
      | false => exact ⟨_, _, _, _, rfl, rfl⟩
      | true => exact ⟨_, _, _, _, rfl, rfl⟩
theorem takeW (T R : List Int) (h : T.all my = true) : (T ++ 34 :: R).takeWhile nq = T ∧ (T ++ 34 :: R).dropWhile nq = 34 :: R := by
  induction T with
  | nil => exact ⟨rfl, rfl⟩
  | cons x T ih =>
    simp only [List.all_cons, Bool.and_eq_true] at h
    have hx : nq x = true := by
      cases hn : nq x with
      | true => rfl
      | false =>
        have : x = 34 := by simpa [nq] using hn
        subst this
        exact absurd h.1 (by decide)
    obtain ⟨i1, i2⟩ := ih h.2
    rw [List.cons_append, List.takeWhile_cons, List.dropWhile_cons, hx, if_pos rfl, if_pos rfl, i1, i2]
    exact ⟨rfl, rfl⟩
/-- A mark as text. -/
def markL (w : Bool) (T : List Int) : List Int := (if w = true then [87, 47] else []) ++ 34 :: (T ++ [34])
theorem lead_mark (w : Bool) (T R : List Int) (h : T.all my = true) : leadL (markL w T ++ R) = (w, T, R, true) := by
  obtain ⟨i1, i2⟩ := takeW T R h
  have e : T ++ [34] ++ R = T ++ 34 :: R := by simp
  have c : (T ++ 34 :: R).contains 34 = true := by simp
  cases w with
  | true =>
    show leadL (87 :: 47 :: 34 :: (T ++ [34] ++ R)) = _
    rw [e]
    unfold leadL
    simp [List.isPrefixOf, i1, i2, h]
  | false =>
    show leadL (34 :: (T ++ [34] ++ R)) = _
    rw [e]
    unfold leadL
    simp [List.isPrefixOf, i1, i2, h]
-- is a mark in a list?
def same28 (w : Bool) (t : ByteArray) (y : S28) : Bool := (w == y.f0) && (t.toList == y.f1.toList)
theorem rd28 (xs : List S28) (i : Nat) (h : i < xs.length) : xs.drop i = rd_T28 xs (i : Int) :: xs.drop (i + 1) := by
  rw [List.drop_eq_getElem_cons h]
  congr 1
  unfold rd_T28
  rw [show ((i : Int)).toNat = i by omega, List.getD_eq_getElem?_getD, List.getElem?_eq_getElem h]
  rfl
theorem Contains_l0 (xs : List S28) (w : Bool) (t : ByteArray) (hx : xs.length ≤ 100000) : ∀ (f i k : Nat), i + f = xs.length → f < k → ∃ r, etag_Tag_35.l0 k xs (xs.length : Int) (i : Int) w t = some r ∧ decide (r ≥ 0) = (xs.drop i).any (same28 w t) := by
  intro f
  induction f with
  | zero =>
    intro i k hi hk
    obtain ⟨k, rfl⟩ : ∃ m, k = m + 1 := ⟨k - 1, by omega⟩
    refine ⟨-1, ?_, ?_⟩
    · simp only [etag_Tag_35.l0]
      rw [if_neg (by omega)]
    · rw [List.drop_of_length_le (by omega)]
      rfl
  | succ f ih =>
    intro i k hi hk
    obtain ⟨k, rfl⟩ : ∃ m, k = m + 1 := ⟨k - 1, by omega⟩
    simp only [etag_Tag_35.l0]
    rw [if_pos (by omega), if_pos (by omega), if_pos (by omega), rd28 xs i (by omega)]
    by_cases h : ((w == (rd_T28 xs (i : Int)).f0) && (t.toList == ((rd_T28 xs (i : Int)).f1).toList)) = true
    · refine ⟨(i : Int), by rw [if_pos h], ?_⟩
      rw [List.any_cons, show same28 w t (rd_T28 xs (i : Int)) = true from h, Bool.true_or]
      simp
    · obtain ⟨r, hr, hd⟩ := ih (i + 1) k (by omega) (by omega)
      refine ⟨r, ?_, ?_⟩
      · rw [if_neg h, w64 (by omega), show ((i : Int) + 1) = ((i + 1 : Nat) : Int) by omega, hr]
      · rw [hd, List.any_cons, show same28 w t (rd_T28 xs (i : Int)) = false from by simpa [same28] using h, Bool.false_or]
theorem Has_f (each : Bool) (xs : List S28) (w : Bool) (t : ByteArray) (hx : xs.length ≤ 100000) {k : Nat} (hk : xs.length < k) : etag_List_Has.f k each xs w t = some (!w && (each || xs.any (same28 w t))) := by
  unfold etag_List_Has.f etag_Tag_22.f etag_Tag_35.f
  obtain ⟨r, hr, hd⟩ := Contains_l0 xs w t hx xs.length 0 k (by omega) hk
  rw [show ((0 : Nat) : Int) = 0 from rfl] at hr
  rw [hr]
  simp only [Option.bind_some]
  rw [hd, List.drop_zero]
  cases w <;> cases each <;> simp
def c24 (x : S24) : S28 := ⟨x.f0, x.f1⟩
theorem any_append28 (p : S28 → Bool) (l : List S28) (x : S28) : (l ++ [x]).any p = (l.any p || p x) := by simp
theorem fin_has (k : Nat) (hk : 1000 ≤ k) (each tw : Bool) (tt : ByteArray) (out : List S28) (ho : out.length ≤ 8) (b : Bool) (hb : b = (each || out.any (same28 false tt))) :
    ((etag_List_Has.f k each out tw tt).bind fun t => if b = true then (if (t == (!tw)) = true then ((larumlaw09_awake.f k).bind fun z => some z) else some false) else (if (t == false) = true then ((larumlaw09_awake.f k).bind fun z => some z) else some false)) = some true := by
  rw [Has_f each out tw tt (by omega) (by omega), awake_at (by omega)]
  simp only [Option.bind_some]
  cases tw with
  | true =>
    cases b <;> simp
  | false =>
    rw [← hb]
    cases b <;> simp
theorem has_l0 (l : List S24) (hl : l.length ≤ 9223372036854775807) (each tw : Bool) (tt : ByteArray) : ∀ (f i k : Nat) (out : List S28) (b : Bool), i + f = 8 → out.length = i → 2000 + f ≤ k → b = (each || out.any (same28 false tt)) →
    larumlaw09_EtagHas.l0 k b l (l.length : Int) (i : Int) tw tt each out = some true := by
  intro f
  induction f with
  | zero =>
    intro i k out b hi ho hk hb
    obtain ⟨k, rfl⟩ : ∃ m, k = m + 1 := ⟨k - 1, by omega⟩
    simp only [larumlaw09_EtagHas.l0]
    by_cases h : (i : Int) < (l.length : Int)
    · rw [if_pos h, if_pos (by omega), if_pos h, if_pos (by omega)]
      exact fin_has k (by omega) each tw tt out (by omega) b hb
    · rw [if_neg h]
      exact fin_has k (by omega) each tw tt out (by omega) b hb
  | succ f ih =>
    intro i k out b hi ho hk hb
    obtain ⟨k, rfl⟩ : ∃ m, k = m + 1 := ⟨k - 1, by omega⟩
    simp only [larumlaw09_EtagHas.l0]
    by_cases h : (i : Int) < (l.length : Int)
    · rw [if_pos h, if_pos (by omega), if_pos h, if_neg (by omega), if_pos (by omega)]
      simp only [Option.bind_some]
      rw [w64 (by omega), show ((i : Int) + 1) = ((i + 1 : Nat) : Int) by omega]
      generalize rd_T24 l (i : Int) = x
      have hs : same28 false tt ⟨x.f0, x.f1⟩ = (!x.f0 && (x.f1.toList == tt.toList)) := by
        unfold same28
        rw [show (tt.toList == x.f1.toList) = (x.f1.toList == tt.toList) from by rw [Bool.eq_iff_iff, beq_iff_eq, beq_iff_eq]; exact ⟨Eq.symm, Eq.symm⟩]
        cases x.f0 <;> rfl
      have hlen : (out ++ [(⟨x.f0, x.f1⟩ : S28)]).length = i + 1 := by simp [ho]
      cases b with
      | true =>
        rw [if_pos rfl]
        exact ih (i + 1) k _ true (by omega) hlen (by omega) (by rw [any_append28, ← Bool.or_assoc, ← hb]; rfl)
      | false =>
        rw [if_neg (by simp)]
        cases hx : x.f0 with
        | true =>
          rw [if_pos rfl]
          rw [hx] at hs hlen
          exact ih (i + 1) k _ false (by omega) hlen (by omega) (by rw [any_append28, ← Bool.or_assoc, ← hb, hs]; rfl)
        | false =>
          rw [if_neg (by simp)]
          rw [hx] at hs hlen
          exact ih (i + 1) k _ _ (by omega) hlen (by omega) (by rw [any_append28, ← Bool.or_assoc, ← hb, hs]; simp)
    · rw [if_neg h]
      exact fin_has k (by omega) each tw tt out (by omega) b hb
theorem EtagHas : larumlaw09_EtagHas.Pure := by
  intro l each tw tt hl _ _
  obtain ⟨k, hk⟩ : ∃ k : Nat, k = 5000 := ⟨_, rfl⟩
  refine ⟨k, ?_⟩
  unfold larumlaw09_EtagHas.f
  exact has_l0 l hl each tw tt 8 0 k [] each (by omega) rfl (by omega) (by simp)
end Go.Proofs.YteoicfgjijmigaaDoor.Pure
