/- Marks with commas between are read as those marks: for any marks. No condition. -/
import Derived.Test.YteoicfgjijmigaaDoorPEtagJoinedx5
namespace Go.Proofs.YteoicfgjijmigaaDoor.Pure
open Go Go.RowKit Go.Proofs.YteoicfgjijmigaaDoor.PEtagJoined Go.Proofs.YteoicfgjijmigaaDoor.Gp Go.Proofs.YteoicfgjijmigaaDoorW Go.Proofs.YteoicfgjijmigaaDoorW.PrintWords Go.Proofs.YteoicfgjijmigaaDoorW.PrintLast Go.Proofs.YteoicfgjijmigaaDoorW.PrintMore
set_option linter.unusedVariables false
set_option linter.unusedSimpArgs false
-- strings as lists of numbers
def Byt (l : List Int) : Prop := ∀ x ∈ l, 0 ≤ x ∧ x ≤ 255
theorem Byt.rd {l : List Int} (h : Byt l) (i : Int) : 0 ≤ PrintWords.rd l i ∧ PrintWords.rd l i ≤ 255 := by
  unfold PrintWords.rd
  rw [List.getD_eq_getElem?_getD]
  by_cases hi : i.toNat < l.length
  · rw [List.getElem?_eq_getElem hi]; exact h _ (List.getElem_mem hi)
  · rw [List.getElem?_eq_none (by omega)]; decide
theorem Byt.take {l : List Int} (h : Byt l) (n : Nat) : Byt (l.take n) := fun x hx => h x (List.mem_of_mem_take hx)
theorem Byt.drop {l : List Int} (h : Byt l) (n : Nat) : Byt (l.drop n) := fun x hx => h x (List.mem_of_mem_drop hx)
theorem w64 {x : Int} (h : -9223372036854775808 ≤ x ∧ x ≤ 9223372036854775807) : wrap64 x = x := by unfold wrap64; omega
theorem u64w (x : Int) : IntKind.u64.wrap x = x % 18446744073709551616 := by simp [IntKind.wrap, IntKind.bits, IntKind.signed]
theorem wu64 {x : Int} (h : 0 ≤ x ∧ x ≤ 18446744073709551615) : IntKind.u64.wrap x = x := by rw [u64w]; omega
theorem bts_byt (s : ByteArray) : Byt (bytesOf s) := by
  intro x hx
  simp only [bytesOf, List.mem_map] at hx
  obtain ⟨b, _, rfl⟩ := hx
  have := b.toNat_lt
  omega
theorem bts_len (s : ByteArray) : ((bytesOf s).length : Int) = (s.size : Int) := by rw [bytesOf_length]
theorem bt_rd (s : ByteArray) (i : Int) : bt s i = rd (bytesOf s) i := (rd_bytesOf s i).symm
theorem tl (s : ByteArray) : s.toList = s.data.toList := ByteArray.toList_eq s
theorem u8_map_inj : ∀ {a b : List UInt8}, a.map (fun x => (x.toNat : Int)) = b.map (fun x => (x.toNat : Int)) → a = b
  | [], [], _ => rfl
  | [], _ :: _, h => by simp at h
  | _ :: _, [], h => by simp at h
  | x :: a, y :: b, h => by
    simp only [List.map_cons, List.cons.injEq] at h
    rw [u8_map_inj h.2, UInt8.toNat_inj.1 (by omega : x.toNat = y.toNat)]
theorem tl_iff (s t : ByteArray) : s.toList = t.toList ↔ bytesOf s = bytesOf t := by
  rw [tl, tl]
  exact ⟨fun h => by unfold bytesOf; rw [h], fun h => u8_map_inj h⟩
theorem tl_nil (s : ByteArray) : s.toList = ([] : List UInt8) ↔ bytesOf s = [] := by
  rw [tl]
  unfold bytesOf
  rw [List.map_eq_nil_iff]
theorem bts_extract (s : ByteArray) (a b : Nat) : bytesOf (s.extract a b) = ((bytesOf s).take b).drop a := by
  unfold bytesOf
  rw [List.drop_take, ← List.map_drop, ← List.map_take]
  congr 1
  simp [List.drop_take]
theorem bts_extract_to (s : ByteArray) (a : Nat) : bytesOf (s.extract a s.size) = (bytesOf s).drop a := by
  rw [bts_extract, List.take_of_length_le (by rw [bytesOf_length]; omega)]
theorem bts_append (s t : ByteArray) : bytesOf (s ++ t) = bytesOf s ++ bytesOf t := by
  unfold bytesOf
  rw [← List.map_append]
  congr 1
theorem bts_size (s : ByteArray) : s.size = (bytesOf s).length := (bytesOf_length s).symm
theorem drop_rd {l : List Int} {i : Nat} (h : i < l.length) : l.drop i = rd l (i : Int) :: l.drop (i + 1) := by
  rw [List.drop_eq_getElem_cons h]
  unfold rd
  simp [List.getD_eq_getElem?_getD, List.getElem?_eq_getElem h]
theorem rd_cons_zero (a : Int) (l : List Int) : rd (a :: l) 0 = a := rfl
-- a string made of numbers
theorem bts_son {xs : List Int} (h : Byt xs) : bytesOf (strOfNums xs) = xs := by
  unfold bytesOf
  rw [strOfNums_data, List.map_map]
  conv => rhs; rw [← List.map_id xs]
  apply List.map_congr_left
  intro x hx
  have := h x hx
  simp only [Function.comp, id]
  have e : (UInt8.ofNat x.toNat).toNat = x.toNat := by
    rw [UInt8.toNat_ofNat']
    omega
  rw [e]; omega
theorem bts_tl_iff {s t : ByteArray} : s.toList = t.toList ↔ bytesOf s = bytesOf t := tl_iff s t
theorem ext_bts {s t : ByteArray} (h : bytesOf s = bytesOf t) : s = t := by
  have := (tl_iff s t).2 h
  rw [tl, tl] at this
  cases s with | mk a => cases t with | mk b => simp at this; rw [this]
-- prefixes, cuts at a byte
def nats (l : List UInt8) : List Int := l.map fun x => (x.toNat : Int)
theorem nats_bts (s : ByteArray) : nats s.data.toList = bytesOf s := rfl
theorem pre_nats : ∀ (p l : List UInt8), p.isPrefixOf l = (nats p).isPrefixOf (nats l)
  | [], _ => by simp [nats]
  | _ :: _, [] => by simp [nats]
  | a :: p, b :: l => by
    have e : (a == b) = ((a.toNat : Int) == (b.toNat : Int)) := by
      rw [Bool.eq_iff_iff, beq_iff_eq, beq_iff_eq, ← UInt8.toNat_inj]; omega
    show (a == b && p.isPrefixOf l) = (((a.toNat : Int) == (b.toNat : Int)) && (nats p).isPrefixOf (nats l))
    rw [e, pre_nats p l]
theorem CutPrefix_f (s p : ByteArray) : ∃ t b, strings_CutPrefix.f s p = some (t, b) ∧ b = (bytesOf p).isPrefixOf (bytesOf s) ∧ bytesOf t = (if (bytesOf p).isPrefixOf (bytesOf s) = true then (bytesOf s).drop (bytesOf p).length else bytesOf s) ∧ t.size ≤ s.size := by
  have e : Lib.hasPrefix s.data.toList p.data.toList = (bytesOf p).isPrefixOf (bytesOf s) := pre_nats _ _
  have eb : bytesOf (⟨(Lib.trimPrefix s.data.toList p.data.toList).toArray⟩ : ByteArray) = (if (bytesOf p).isPrefixOf (bytesOf s) = true then (bytesOf s).drop (bytesOf p).length else bytesOf s) := by
    unfold Lib.trimPrefix
    rw [e]
    have h0 : ∀ l : List UInt8, bytesOf (⟨l.toArray⟩ : ByteArray) = nats l := fun l => rfl
    rw [h0]
    by_cases h : (bytesOf p).isPrefixOf (bytesOf s) = true
    · rw [if_pos h, if_pos h]
      unfold nats
      rw [List.map_drop]
      simp [bytesOf]
    · rw [if_neg h, if_neg h]; rfl
  refine ⟨_, _, rfl, e, eb, ?_⟩
  rw [bts_size, eb, bts_size]
  split
  · rw [List.length_drop]; omega
  · exact Nat.le_refl _
theorem idx_while (c : UInt8) : ∀ (l : List UInt8),
    (Lib.indexByte l c = -1 ∧ (nats l).takeWhile (fun x => x != (c.toNat : Int)) = nats l ∧ (nats l).dropWhile (fun x => x != (c.toNat : Int)) = [] ∧ (nats l).contains (c.toNat : Int) = false) ∨
    ∃ j : Nat, Lib.indexByte l c = (j : Int) ∧ j < l.length ∧ (nats l).takeWhile (fun x => x != (c.toNat : Int)) = (nats l).take j ∧ (nats l).dropWhile (fun x => x != (c.toNat : Int)) = (nats l).drop j ∧ (nats l).contains (c.toNat : Int) = true
  | [] => Or.inl ⟨rfl, rfl, rfl, rfl⟩
  | x :: l => by
    have hn : nats (x :: l) = (x.toNat : Int) :: nats l := rfl
    by_cases h : x = c
    · subst h
      refine Or.inr ⟨0, by simp [Lib.indexByte], by simp, ?_, ?_, ?_⟩ <;> rw [hn] <;> simp
    · have hb : (x == c) = false := by simpa using h
      have hi : ¬ ((x.toNat : Int) = (c.toNat : Int)) := fun e => h (UInt8.toNat_inj.1 (by omega))
      have hi2 : ((x.toNat : Int) != (c.toNat : Int)) = true := by simpa using hi
      have hi3 : ((c.toNat : Int) == (x.toNat : Int)) = false := by simpa using fun e => hi e.symm
      rcases idx_while c l with ⟨h1, h2, h3, h4⟩ | ⟨j, h1, h2, h3, h4, h5⟩
      · refine Or.inl ⟨by simp [Lib.indexByte, hb, h1], ?_, ?_, ?_⟩
        · rw [hn, List.takeWhile_cons, hi2, if_pos rfl, h2]
        · rw [hn, List.dropWhile_cons, hi2, if_pos rfl, h3]
        · rw [hn, List.contains_cons, hi3, h4]; rfl
      · refine Or.inr ⟨j + 1, ?_, by simpa using h2, ?_, ?_, ?_⟩
        · have : ¬ ((j : Int) = -1) := by omega
          simp [Lib.indexByte, hb, h1, this]
        · rw [hn, List.takeWhile_cons, hi2, if_pos rfl, h3]; rfl
        · rw [hn, List.dropWhile_cons, hi2, if_pos rfl, h4]; rfl
        · rw [hn, List.contains_cons, h5, Bool.or_true]
theorem Cut_f (s : ByteArray) (hs : s.size < 4294967281) (c : UInt8) : ∃ t u b, strings_Cut.f s ⟨#[c]⟩ = some (t, u, b) ∧ bytesOf t = (bytesOf s).takeWhile (fun x => x != (c.toNat : Int)) ∧ bytesOf u = ((bytesOf s).dropWhile (fun x => x != (c.toNat : Int))).drop 1 ∧ b = (bytesOf s).contains (c.toNat : Int) := by
  unfold strings_Cut.f
  have ea : strings_Cut.at s ⟨#[c]⟩ = Lib.indexByte s.data.toList c := rfl
  rw [if_pos ⟨rfl, hs⟩, ea]
  rcases idx_while c s.data.toList with ⟨h1, h2, h3, h4⟩ | ⟨j, h1, h2, h3, h4, h5⟩
  · rw [nats_bts] at h2 h3 h4
    rw [h1, if_pos (by decide)]
    exact ⟨_, _, _, rfl, h2.symm, by rw [h3]; rfl, h4.symm⟩
  · rw [nats_bts] at h3 h4 h5
    rw [h1, if_neg (by omega), show ((j : Int)).toNat = j by omega]
    refine ⟨_, _, _, rfl, ?_, ?_, h5.symm⟩
    · rw [bts_extract, List.drop_zero, h3]
    · rw [bts_extract_to, h4, List.drop_drop]
-- marks
theorem awake60 : larumlaw09_awake.f 100 = some true := by decide +kernel
theorem awake_at {k : Nat} (h : 100 ≤ k) : larumlaw09_awake.f k = some true := at_rounds (g := fun k => larumlaw09_awake.f k) (fun k => larumlaw09_awake.mono k) h awake60
def my (c : Int) : Bool := (etag_may.f c).getD false
theorem my256 : ∀ c : Fin 256, etag_may.f (c.val : Int) = some (my (c.val : Int)) := by decide +kernel
theorem may_f {c : Int} (h : 0 ≤ c ∧ c ≤ 255) : etag_may.f c = some (my c) := by
  have := my256 ⟨c.toNat, by omega⟩
  rw [show ((⟨c.toNat, by omega⟩ : Fin 256).val : Int) = c from by show ((c.toNat : Nat) : Int) = c; omega] at this
  exact this
theorem All_l0 (s : ByteArray) (hs : s.size ≤ 1000000) : ∀ (f i k : Nat), i + f = s.size → f < k → chars_All_etag_may.l0 k s (i : Int) = some (((bytesOf s).drop i).all my) := by
  intro f
  induction f with
  | zero =>
    intro i k hi hk
    obtain ⟨k, rfl⟩ : ∃ m, k = m + 1 := ⟨k - 1, by omega⟩
    simp only [chars_All_etag_may.l0]
    rw [if_neg (by omega), List.drop_of_length_le (by rw [bytesOf_length]; omega)]
    rfl
  | succ f ih =>
    intro i k hi hk
    obtain ⟨k, rfl⟩ : ∃ m, k = m + 1 := ⟨k - 1, by omega⟩
    simp only [chars_All_etag_may.l0]
    rw [if_pos (by omega), if_pos (by omega), bt_rd, may_f ((bts_byt s).rd _), drop_rd (by rw [bytesOf_length]; omega), w64 (by omega), show ((i : Int) + 1) = ((i + 1 : Nat) : Int) by omega, ih (i + 1) k (by omega) (by omega)]
    simp only [Option.bind_some, List.all_cons]
    cases my (rd (bytesOf s) (i : Int)) <;> simp
theorem All_f (s : ByteArray) (hs : s.size ≤ 1000000) {k : Nat} (hk : s.size < k) : chars_All_etag_may.f k s = some ((bytesOf s).all my) := by
  have := All_l0 s hs s.size 0 k (by omega) hk
  rw [List.drop_zero] at this
  exact this
def nq (x : Int) : Bool := x != 34
/-- The mark at the beginning. -/
def leadL (l : List Int) : Bool × List Int × List Int × Bool :=
  let w := [87, 47].isPrefixOf l
  let l1 := if w = true then l.drop 2 else l
  let q := [34].isPrefixOf l1
  let l2 := if q = true then l1.drop 1 else l1
  if (q && l2.contains 34 && (l2.takeWhile nq).all my) = true then (w, l2.takeWhile nq, (l2.dropWhile nq).drop 1, true) else (false, [], [], false)
theorem lead_f (s : ByteArray) (hs : s.size ≤ 1000000) {k : Nat} (hk : s.size + 1 ≤ k) : ∃ a b c d, etag_lead.f k s = some (a, b, c, d) ∧ (a, bytesOf b, bytesOf c, d) = leadL (bytesOf s) := by
  obtain ⟨t1, b1, e1, f1, g1, z1⟩ := CutPrefix_f s ⟨#[87, 47]⟩
  obtain ⟨t2, b2, e2, f2, g2, z2⟩ := CutPrefix_f t1 ⟨#[34]⟩
  obtain ⟨t3, t4, b3, e3, g3, g4, f3⟩ := Cut_f t2 (by omega) 34
  have p1 : bytesOf (⟨#[87, 47]⟩ : ByteArray) = [87, 47] := rfl
  have p2 : bytesOf (⟨#[34]⟩ : ByteArray) = [34] := rfl
  rw [p1] at f1 g1
  rw [p2] at f2 g2
  have hz : t3.size ≤ s.size := by
    have h1 : t3.size ≤ t2.size := by
      rw [bts_size, g3, bts_size t2]
      exact (List.takeWhile_sublist _).length_le
    omega
  have c34 : ((34 : UInt8).toNat : Int) = 34 := rfl
  rw [c34] at g3 g4 f3
  unfold etag_lead.f
  rw [e1]
  simp only [Option.bind_some]
  rw [e2]
  simp only [Option.bind_some]
  rw [e3]
  simp only [Option.bind_some]
  rw [All_f t3 (by omega) (by omega)]
  have eL : leadL (bytesOf s) = if (b2 && b3 && (bytesOf t3).all my) = true then (b1, bytesOf t3, bytesOf t4, true) else (false, [], [], false) := by
    unfold leadL
    simp only
    rw [← f1, show (if b1 = true then (bytesOf s).drop 2 else bytesOf s) = bytesOf t1 from by rw [g1, ← f1]; rfl, ← f2, show (if b2 = true then (bytesOf t1).drop 1 else bytesOf t1) = bytesOf t2 from by rw [g2, ← f2]; rfl, ← f3, show (bytesOf t2).takeWhile nq = bytesOf t3 from g3.symm, show ((bytesOf t2).dropWhile nq).drop 1 = bytesOf t4 from g4.symm]
  rw [eL]
  cases b2 with
  | false => exact ⟨_, _, _, _, rfl, rfl⟩
  | true =>
    cases b3 with
    | false => exact ⟨_, _, _, _, rfl, rfl⟩
    | true =>
      cases h : (bytesOf t3).all my with
      | false => exact ⟨_, _, _, _, rfl, rfl⟩
      | true => exact ⟨_, _, _, _, rfl, rfl⟩
theorem takeW (T R : List Int) (h : T.all my = true) : (T ++ 34 :: R).takeWhile nq = T ∧ (T ++ 34 :: R).dropWhile nq = 34 :: R := by
  induction T with
  | nil => exact ⟨rfl, rfl⟩
  | cons x T ih =>
    simp only [List.all_cons, Bool.and_eq_true] at h
    have hx : nq x = true := by
      cases hn : nq x with
      | true => rfl
      | false =>
        have : x = 34 := by simpa [nq] using hn
        subst this
        exact absurd h.1 (by decide)
    obtain ⟨i1, i2⟩ := ih h.2
    rw [List.cons_append, List.takeWhile_cons, List.dropWhile_cons, hx, if_pos rfl, if_pos rfl, i1, i2]
    exact ⟨rfl, rfl⟩
/-- A mark as text. -/
def markL (w : Bool) (T : List Int) : List Int := (if w = true then [87, 47] else []) ++ 34 :: (T ++ [34])
theorem lead_mark (w : Bool) (T R : List Int) (h : T.all my = true) : leadL (markL w T ++ R) = (w, T, R, true) := by
  obtain ⟨i1, i2⟩ := takeW T R h
  have e : T ++ [34] ++ R = T ++ 34 :: R := by simp
  have c : (T ++ 34 :: R).contains 34 = true := by simp
  cases w with
  | true =>
    show leadL (87 :: 47 :: 34 :: (T ++ [34] ++ R)) = _
    rw [e]
    unfold leadL
    simp [List.isPrefixOf, i1, i2, h]
  | false =>
    show leadL (34 :: (T ++ [34] ++ R)) = _
    rw [e]
    unfold leadL
    simp [List.isPrefixOf, i1, i2, h]
-- blanks around
def blI (x : Int) : Bool := x == 32 || x == 9
def ltrim (l : List Int) : List Int := l.dropWhile blI
def rtrim (l : List Int) : List Int := (l.reverse.dropWhile blI).reverse
def trimN (l : List Int) : List Int := rtrim (ltrim l)
theorem rtrim_nil : rtrim [] = [] := rfl
theorem rtrim_snoc (l : List Int) (x : Int) : rtrim (l ++ [x]) = if blI x = true then rtrim l else l ++ [x] := by
  unfold rtrim
  rw [List.reverse_append]
  simp only [List.reverse_cons, List.reverse_nil, List.nil_append, List.cons_append, List.dropWhile_cons]
  split
  · rfl
  · simp
theorem rtrim_cons (x : Int) (l : List Int) : rtrim (x :: l) = if rtrim l = [] then (if blI x = true then [] else [x]) else x :: rtrim l := by
  unfold rtrim
  rw [List.reverse_cons, List.dropWhile_append]
  cases h : l.reverse.dropWhile blI with
  | nil =>
    simp only [List.isEmpty_nil, if_true, List.reverse_nil, List.dropWhile_cons, List.dropWhile_nil]
    split <;> simp
  | cons a t => simp
theorem ltrim_cons (x : Int) (l : List Int) : ltrim (x :: l) = if blI x = true then ltrim l else x :: l := by
  unfold ltrim
  rw [List.dropWhile_cons]
theorem trim_comm : ∀ l, ltrim (rtrim l) = trimN l
  | [] => rfl
  | x :: l => by
    have ih := trim_comm l
    unfold trimN at ih ⊢
    rw [ltrim_cons, rtrim_cons]
    by_cases hx : blI x = true
    · simp only [if_pos hx]
      by_cases hr : rtrim l = []
      · rw [if_pos hr]
        rw [hr] at ih
        exact ih
      · rw [if_neg hr, ltrim_cons, if_pos hx, ih]
    · simp only [if_neg hx]
      rw [rtrim_cons]
      by_cases hr : rtrim l = []
      · rw [if_pos hr, if_neg hx, ltrim_cons, if_neg hx, if_pos hr]
      · rw [if_neg hr, ltrim_cons, if_neg hx, if_neg hr]
theorem bl_eq (x : UInt8) : strings_Trim.bl x = blI (x.toNat : Int) := by
  unfold strings_Trim.bl blI
  rw [Bool.eq_iff_iff]
  simp only [List.contains_eq_mem, List.mem_cons, List.not_mem_nil, or_false, decide_eq_true_eq, Bool.or_eq_true, beq_iff_eq]
  constructor
  · rintro (rfl | rfl) <;> decide
  · rintro (h | h)
    · left; exact UInt8.toNat_inj.1 (show x.toNat = 32 by omega)
    · right; exact UInt8.toNat_inj.1 (show x.toNat = 9 by omega)
theorem bl_at (s : ByteArray) (i : Nat) (h : i < s.size) : strings_Trim.bl (s.data.toList.getD i 0) = blI (rd (bytesOf s) (i : Int)) := by
  rw [bl_eq]
  congr 1
  rw [← bt_rd]
  have hl : i < s.data.toList.length := by have := h; simpa using this
  rw [List.getD_eq_getElem?_getD, List.getElem?_eq_getElem hl]
  rw [bt_rd]
  unfold rd bytesOf
  simp [List.getD_eq_getElem?_getD, List.getElem?_eq_getElem hl]
theorem bts_trimR (s : ByteArray) : ∀ n, n ≤ s.size → bytesOf (s.extract 0 (strings_Trim.rcut s n)) = rtrim ((bytesOf s).take n)
  | 0, _ => by
    show bytesOf (s.extract 0 0) = _
    rw [bts_extract]; rfl
  | n + 1, h => by
    have hl : n < (bytesOf s).length := by rw [bytesOf_length]; omega
    unfold strings_Trim.rcut
    rw [bl_at s n (by omega), List.take_succ_eq_append_getElem hl, rtrim_snoc]
    have e : (bytesOf s)[n] = rd (bytesOf s) (n : Int) := by unfold rd; simp [List.getD_eq_getElem?_getD, List.getElem?_eq_getElem hl]
    rw [e]
    split
    · exact bts_trimR s n (by omega)
    · rw [bts_extract, List.drop_zero, List.take_succ_eq_append_getElem hl, e]
theorem bts_trimL (s : ByteArray) : ∀ f i, i + f = s.size → bytesOf (s.extract (strings_Trim.lcut s f i) s.size) = ltrim ((bytesOf s).drop i)
  | 0, i, h => by
    unfold strings_Trim.lcut
    rw [bts_extract_to, List.drop_of_length_le (by rw [bytesOf_length]; omega)]; rfl
  | f + 1, i, h => by
    unfold strings_Trim.lcut
    rw [bl_at s i (by omega), drop_rd (by rw [bytesOf_length]; omega), ltrim_cons]
    split
    · exact bts_trimL s f (i + 1) (by omega)
    · rw [bts_extract_to, drop_rd (by rw [bytesOf_length]; omega)]
theorem Trim_f (s : ByteArray) (hs : s.size ≤ 9223372036854775807) : ∃ t, chars_Trim.f s = some t ∧ bytesOf t = trimN (bytesOf s) ∧ t.size ≤ s.size := by
  unfold chars_Trim.f strings_Trim.f
  rw [if_pos ⟨rfl, hs⟩]
  have e : bytesOf (strings_Trim.trimL (strings_Trim.trimR s)) = trimN (bytesOf s) := by
    have e2 : bytesOf (strings_Trim.trimR s) = rtrim (bytesOf s) := by
      have := bts_trimR s s.size (Nat.le_refl _)
      rw [List.take_of_length_le (by rw [bytesOf_length]; exact Nat.le_refl _)] at this
      exact this
    have := bts_trimL (strings_Trim.trimR s) (strings_Trim.trimR s).size 0 (by omega)
    rw [List.drop_zero, e2, trim_comm] at this
    exact this
  refine ⟨_, rfl, e, ?_⟩
  unfold strings_Trim.trimL strings_Trim.trimR
  simp only [ByteArray.size_extract]
  omega
-- lists of marks
theorem bll_eq (x : UInt8) : strings_TrimLeft.bl x = blI (x.toNat : Int) := bl_eq x
theorem bll_at (s : ByteArray) (i : Nat) (h : i < s.size) : strings_TrimLeft.bl (s.data.toList.getD i 0) = blI (rd (bytesOf s) (i : Int)) := bl_at s i h
theorem bts_trimLL (s : ByteArray) : ∀ f i, i + f = s.size → bytesOf (s.extract (strings_TrimLeft.lcut s f i) s.size) = ltrim ((bytesOf s).drop i)
  | 0, i, h => by
    unfold strings_TrimLeft.lcut
    rw [bts_extract_to, List.drop_of_length_le (by rw [bytesOf_length]; omega)]; rfl
  | f + 1, i, h => by
    unfold strings_TrimLeft.lcut
    rw [bll_at s i (by omega), drop_rd (by rw [bytesOf_length]; omega), ltrim_cons]
    split
    · exact bts_trimLL s f (i + 1) (by omega)
    · rw [bts_extract_to, drop_rd (by rw [bytesOf_length]; omega)]
theorem TrimLeft_f (s : ByteArray) (hs : s.size ≤ 1000000) : ∃ t, strings_TrimLeft.f s ⟨#[32, 9]⟩ = some t ∧ bytesOf t = ltrim (bytesOf s) ∧ t.size ≤ s.size := by
  unfold strings_TrimLeft.f
  rw [if_pos ⟨rfl, by omega⟩]
  refine ⟨_, rfl, ?_, ?_⟩
  · have := bts_trimLL s s.size 0 (by omega)
    rw [List.drop_zero] at this
    exact this
  · unfold strings_TrimLeft.trimL
    simp only [ByteArray.size_extract]
    omega
theorem ltrim_split (l : List Int) : ∃ b, l = b ++ ltrim l ∧ b.all blI = true := ⟨l.takeWhile blI, (List.takeWhile_append_dropWhile).symm, List.all_takeWhile⟩
theorem ltrim_head {l : List Int} {c : Int} {r : List Int} (h : ltrim l = c :: r) : blI c = false := by
  induction l with
  | nil => cases h
  | cons x l ih =>
    rw [ltrim_cons] at h
    split at h
    · exact ih h
    · rename_i hx
      cases h
      simpa using hx
theorem ltrim_blank (b l : List Int) (hb : b.all blI = true) : ltrim (b ++ l) = ltrim l := by
  induction b with
  | nil => rfl
  | cons x b ih =>
    simp only [List.all_cons, Bool.and_eq_true] at hb
    rw [List.cons_append, ltrim_cons, if_pos hb.1, ih hb.2]
theorem ltrim_non (c : Int) (l : List Int) (h : blI c = false) : ltrim (c :: l) = c :: l := by rw [ltrim_cons, if_neg (by simp [h])]
theorem rtrim_blank (b : List Int) (hb : b.all blI = true) : rtrim b = [] := by
  induction b with
  | nil => rfl
  | cons x b ih =>
    simp only [List.all_cons, Bool.and_eq_true] at hb
    rw [rtrim_cons, if_pos (ih hb.2), if_pos hb.1]
theorem trimN_blank (b : List Int) (hb : b.all blI = true) : trimN b = [] := by
  have : ltrim b = [] := by have := ltrim_blank b [] hb; rw [List.append_nil] at this; exact this
  unfold trimN
  rw [this]; rfl
theorem rtrim_append (a b : List Int) : rtrim (a ++ b) = if rtrim b = [] then rtrim a else a ++ rtrim b := by
  induction a with
  | nil =>
    simp only [List.nil_append]
    split
    · rename_i h; rw [h]; rfl
    · rfl
  | cons x a ih =>
    rw [List.cons_append, rtrim_cons, ih]
    by_cases h : rtrim b = []
    · simp only [if_pos h]
      rw [rtrim_cons]
    · simp only [if_neg h]
      rw [if_neg (by simp [h])]; rfl
theorem rtrim_cons_non (c : Int) (l : List Int) (h : blI c = false) : ∃ m, rtrim (c :: l) = c :: m := by
  rw [rtrim_cons, h]
  split
  · exact ⟨[], rfl⟩
  · exact ⟨_, rfl⟩
theorem rtrim_pre (l : List Int) : ∃ r, l = rtrim l ++ r := by
  refine ⟨(l.reverse.takeWhile blI).reverse, ?_⟩
  unfold rtrim
  rw [← List.reverse_append, List.takeWhile_append_dropWhile, List.reverse_reverse]
theorem trimN_non (c : Int) (l : List Int) (h : blI c = false) : trimN (c :: l) = rtrim (c :: l) := by
  unfold trimN
  rw [ltrim_non c l h]
theorem trimN_pad (b l : List Int) (hb : b.all blI = true) : trimN (b ++ l) = trimN l := by
  unfold trimN
  rw [ltrim_blank b l hb]
theorem drop_pre {p l : List Int} (h : p.isPrefixOf l = true) : l = p ++ l.drop p.length := by
  obtain ⟨t, rfl⟩ := List.isPrefixOf_iff_prefix.1 h
  simp
theorem lead_inv {l : List Int} {w : Bool} {T R : List Int} (h : leadL l = (w, T, R, true)) : l = markL w T ++ R ∧ T.all my = true := by
  unfold leadL at h
  dsimp only at h
  by_cases hc : ([34].isPrefixOf (if [87, 47].isPrefixOf l = true then l.drop 2 else l) && (if [34].isPrefixOf (if [87, 47].isPrefixOf l = true then l.drop 2 else l) = true then (if [87, 47].isPrefixOf l = true then l.drop 2 else l).drop 1 else (if [87, 47].isPrefixOf l = true then l.drop 2 else l)).contains 34 && ((if [34].isPrefixOf (if [87, 47].isPrefixOf l = true then l.drop 2 else l) = true then (if [87, 47].isPrefixOf l = true then l.drop 2 else l).drop 1 else (if [87, 47].isPrefixOf l = true then l.drop 2 else l)).takeWhile nq).all my) = true
  · rw [if_pos hc] at h
    simp only [Prod.mk.injEq] at h
    obtain ⟨h1, h2, h3, _⟩ := h
    simp only [Bool.and_eq_true] at hc
    obtain ⟨⟨c1, c2⟩, c3⟩ := hc
    rw [h2] at c3
    refine ⟨?_, c3⟩
    generalize hl1 : (if List.isPrefixOf [87, 47] l = true then List.drop 2 l else l) = l1 at c1 c2 h2 h3
    rw [if_pos c1] at h2 h3 c2
    have e1 : l1 = 34 :: l1.drop 1 := drop_pre c1
    generalize hl2 : l1.drop 1 = l2 at h2 h3 c2 e1
    have e2 : l2 = T ++ 34 :: R := by
      have e := (List.takeWhile_append_dropWhile (p := nq) (l := l2)).symm
      rw [h2] at e
      cases hd : l2.dropWhile nq with
      | nil =>
        have hm : (34 : Int) ∈ l2 := by simpa using c2
        have e0 : l2.takeWhile nq = l2 := by
          have := List.takeWhile_append_dropWhile (p := nq) (l := l2)
          rw [hd, List.append_nil] at this
          exact this
        have ha := List.all_takeWhile (p := nq) (l := l2)
        rw [e0] at ha
        exact absurd (List.all_eq_true.1 ha 34 hm) (by decide)
      | cons x r =>
        have hx : nq x = false := by
          have h0 := List.head?_dropWhile_not nq l2
          rw [hd] at h0
          simpa using h0
        have : x = 34 := by simpa [nq] using hx
        subst this
        rw [hd] at h3 e
        rw [e, ← h3]; rfl
    cases w with
    | true =>
      rw [h1, if_pos rfl] at hl1
      have e0 : l = [87, 47] ++ l.drop 2 := drop_pre h1
      rw [hl1, e1, e2] at e0
      rw [e0]
      simp [markL]
    | false =>
      rw [h1, if_neg (by simp)] at hl1
      rw [hl1, e1, e2]
      simp [markL]
  · rw [if_neg hc] at h
    simp at h
theorem leadL_cases (l : List Int) : (∃ w T R, leadL l = (w, T, R, true)) ∨ leadL l = (false, [], [], false) := by
  unfold leadL
  dsimp only
  by_cases hc : ([34].isPrefixOf (if [87, 47].isPrefixOf l = true then l.drop 2 else l) && (if [34].isPrefixOf (if [87, 47].isPrefixOf l = true then l.drop 2 else l) = true then (if [87, 47].isPrefixOf l = true then l.drop 2 else l).drop 1 else (if [87, 47].isPrefixOf l = true then l.drop 2 else l)).contains 34 && ((if [34].isPrefixOf (if [87, 47].isPrefixOf l = true then l.drop 2 else l) = true then (if [87, 47].isPrefixOf l = true then l.drop 2 else l).drop 1 else (if [87, 47].isPrefixOf l = true then l.drop 2 else l)).takeWhile nq).all my) = true
  · rw [if_pos hc]
    exact .inl ⟨_, _, _, rfl⟩
  · rw [if_neg hc]
    exact .inr rfl
def oneP (l : List Int) : Option (Bool × List Int) := if (leadL l).2.2.2 = true ∧ (leadL l).2.2.1 = [] then some ((leadL l).1, (leadL l).2.1) else none
theorem oneP_mark (w : Bool) (T X : List Int) (h : T.all my = true) : oneP (markL w T ++ X) = if X = [] then some (w, T) else none := by
  unfold oneP
  rw [lead_mark w T X h]
  simp
theorem oneP_some {l : List Int} {w : Bool} {T : List Int} (h : oneP l = some (w, T)) : l = markL w T ∧ T.all my = true := by
  unfold oneP at h
  split at h
  · rename_i hc
    simp only [Option.some.injEq, Prod.mk.injEq] at h
    obtain ⟨rfl, rfl⟩ := h
    have : leadL l = ((leadL l).1, (leadL l).2.1, [], true) := by rw [← hc.1, ← hc.2]
    have := lead_inv this
    rw [List.append_nil] at this
    exact this
  · cases h
theorem mark_head (w : Bool) (T : List Int) : ∃ c m, markL w T = c :: m ∧ blI c = false ∧ (c = 87 ∨ c = 34) := by
  cases w
  · exact ⟨34, _, rfl, rfl, .inr rfl⟩
  · exact ⟨87, _, rfl, rfl, .inl rfl⟩
theorem rtrim_mark (w : Bool) (T : List Int) : rtrim (markL w T) = markL w T := by
  have : markL w T = ((if w = true then [87, 47] else []) ++ 34 :: T) ++ [34] := by simp [markL]
  rw [this, rtrim_snoc, if_neg (by decide)]
theorem trimN_mark (b : List Int) (w : Bool) (T b2 : List Int) (hb : b.all blI = true) (hb2 : b2.all blI = true) : trimN (b ++ (markL w T ++ b2)) = markL w T := by
  obtain ⟨c, m, h, hc, _⟩ := mark_head w T
  rw [trimN_pad b _ hb, h, List.cons_append, trimN_non c _ hc, ← List.cons_append, ← h, rtrim_append, if_pos (rtrim_blank b2 hb2), rtrim_mark]
def tagsL : Nat → List Int → Option (List (Bool × List Int))
  | 0, _ => none
  | f + 1, s => match ltrim s with
    | [] => some []
    | c :: r => if c = 44 then tagsL f r else if (leadL (c :: r)).2.2.2 = true then (match ltrim (leadL (c :: r)).2.2.1 with
      | [] => some [((leadL (c :: r)).1, (leadL (c :: r)).2.1)]
      | c' :: r' => if c' = 44 then (tagsL f r').map (((leadL (c :: r)).1, (leadL (c :: r)).2.1) :: ·) else none) else none
theorem tagsL_nil {f : Nat} {s : List Int} (h : ltrim s = []) : tagsL (f + 1) s = some [] := by simp only [tagsL, h]
theorem tagsL_comma {f : Nat} {s r : List Int} (h : ltrim s = 44 :: r) : tagsL (f + 1) s = tagsL f r := by simp only [tagsL, h, if_true]
theorem tagsL_fail {f : Nat} {s r : List Int} {c : Int} (h : ltrim s = c :: r) (hc : c ≠ 44) (hl : leadL (c :: r) = (false, [], [], false)) : tagsL (f + 1) s = none := by simp only [tagsL, h, hc, hl, if_false]; simp
theorem tagsL_end {f : Nat} {s r : List Int} {c : Int} {w : Bool} {T R : List Int} (h : ltrim s = c :: r) (hc : c ≠ 44) (hl : leadL (c :: r) = (w, T, R, true)) (hR : ltrim R = []) : tagsL (f + 1) s = some [(w, T)] := by simp only [tagsL, h, hc, hl, if_false, if_true, hR]
theorem tagsL_more {f : Nat} {s r r' : List Int} {c : Int} {w : Bool} {T R : List Int} (h : ltrim s = c :: r) (hc : c ≠ 44) (hl : leadL (c :: r) = (w, T, R, true)) (hR : ltrim R = 44 :: r') : tagsL (f + 1) s = (tagsL f r').map ((w, T) :: ·) := by simp only [tagsL, h, hc, hl, if_false, if_true, hR]
theorem tagsL_bad {f : Nat} {s r r' : List Int} {c c' : Int} {w : Bool} {T R : List Int} (h : ltrim s = c :: r) (hc : c ≠ 44) (hl : leadL (c :: r) = (w, T, R, true)) (hR : ltrim R = c' :: r') (hc' : c' ≠ 44) : tagsL (f + 1) s = none := by simp only [tagsL, h, hc, hl, if_false, if_true, hR, hc']
def tg (x : S28) : Bool × List Int := (x.f0, bytesOf x.f1)
theorem bt0 (s : ByteArray) (c : Int) (r : List Int) (h : bytesOf s = c :: r) : bt s 0 = c := by rw [bt_rd, h]; rfl
theorem ex1' (s : ByteArray) (x : Int) (l : List Int) (h : bytesOf s = x :: l) : bytesOf (s.extract 1 s.size) = l := by
  rw [bts_extract_to, h]; rfl
theorem size_cons {s : ByteArray} {c : Int} {r : List Int} (h : bytesOf s = c :: r) : s.size = r.length + 1 := by rw [bts_size, h]; rfl
theorem ltrim_len (l : List Int) : (ltrim l).length ≤ l.length := (List.dropWhile_sublist _).length_le
theorem Tags_l0 : ∀ (f : Nat) (s : ByteArray) (out : List S28) (k : Nat), s.size < f → out.length + s.size ≤ 1000 → 3 * f + 2000 ≤ k →
    (∃ L out', tagsL f (bytesOf s) = some L ∧ etag_tags.l0 k s out = some (out', decide ((out'.length : Int) > 0)) ∧ out'.map tg = out.map tg ++ L) ∨ (tagsL f (bytesOf s) = none ∧ etag_tags.l0 k s out = some ([], false)) := by
  intro f
  induction f with
  | zero => intro s out k h; omega
  | succ f ih =>
    intro s out k hs ho hk
    obtain ⟨k, rfl⟩ : ∃ m, k = m + 3 := ⟨k - 3, by omega⟩
    obtain ⟨t, t1, t2, t3⟩ := TrimLeft_f s (by omega)
    cases hl : ltrim (bytesOf s) with
    | nil =>
      refine .inl ⟨[], out, tagsL_nil hl, ?_, by simp⟩
      have ht : t.toList = [] := (tl_nil t).2 (by rw [t2, hl])
      simp only [etag_tags.l0, t1, Option.bind_some, ht, if_true, etag_tags.j1, etag_tags.j2, Bool.false_eq_true, if_false]
    | cons c r =>
      rw [hl] at t2
      have hz := size_cons t2
      have hne : ¬ t.toList = [] := fun h => by rw [(tl_nil t).1 h] at t2; cases t2
      by_cases hc : c = 44
      · subst hc
        rw [tagsL_comma hl]
        have e : etag_tags.l0 (k + 3) s out = etag_tags.l0 k (t.extract 1 t.size) out := by
          simp only [etag_tags.l0, t1, Option.bind_some, etag_tags.j1, etag_tags.j2, bt0 t _ _ t2]
          rw [if_neg hne, if_pos (by omega), if_neg (by decide), if_neg hne, if_pos (by omega), if_pos trivial, if_pos (by omega)]
        rw [e]
        have hx := ex1' t _ _ t2
        have := ih (t.extract 1 t.size) out k (by rw [bts_size, hx]; omega) (by rw [bts_size, hx]; omega) (by omega)
        rw [hx] at this
        exact this
      · have e : etag_tags.l0 (k + 3) s out = etag_tags.j1 (k + 2) t out true := by
          simp only [etag_tags.l0, t1, Option.bind_some, bt0 t _ _ t2]
          rw [if_neg hne, if_pos (by omega), show (c != 44) = true by simpa using hc]
        rw [e]
        obtain ⟨a, b, d, ok, l1, l2⟩ := lead_f t (by omega) (k := k + 1) (by omega)
        rw [t2] at l2
        rcases leadL_cases (c :: r) with ⟨w, T, R, hw⟩ | hw
        · rw [hw] at l2
          simp only [Prod.mk.injEq] at l2
          obtain ⟨rfl, hT, hR, rfl⟩ := l2
          obtain ⟨u, u1, u2, u3⟩ := TrimLeft_f d (by
            have := (lead_inv hw).1
            have e1 := congrArg List.length this
            rw [List.length_append, ← hR, bytesOf_length] at e1
            simp only [List.length_cons] at e1
            omega)
          have hdz : d.size + 2 ≤ t.size := by
            have := (lead_inv hw).1
            have e1 := congrArg List.length this
            have e2 : 2 ≤ (markL a T).length := by unfold markL; simp; omega
            rw [List.length_append, ← hR, bytesOf_length] at e1
            simp only [List.length_cons] at e1
            omega
          have e2 : etag_tags.j1 (k + 2) t out true = etag_tags.j2 (k + 1) u (out ++ [(⟨a, b⟩ : S28)]) := by
            simp only [etag_tags.j1, if_true, l1, Option.bind_some, u1]
            rw [if_pos (by omega)]
          rw [e2]
          rw [hR] at u2
          cases hu : ltrim R with
          | nil =>
            rw [hu] at u2
            refine .inl ⟨[(a, T)], out ++ [(⟨a, b⟩ : S28)], tagsL_end hl hc hw hu, ?_, ?_⟩
            · simp only [etag_tags.j2]
              rw [if_pos ((tl_nil u).2 u2)]
            · simp [tg, hT]
          | cons c' r' =>
            rw [hu] at u2
            have huz := size_cons u2
            have hune : ¬ u.toList = [] := fun h => by rw [(tl_nil u).1 h] at u2; cases u2
            by_cases hc' : c' = 44
            · subst hc'
              rw [tagsL_more hl hc hw hu]
              have e3 : etag_tags.j2 (k + 1) u (out ++ [(⟨a, b⟩ : S28)]) = etag_tags.l0 k (u.extract 1 u.size) (out ++ [(⟨a, b⟩ : S28)]) := by
                simp only [etag_tags.j2, bt0 u _ _ u2]
                rw [if_neg hune, if_pos (by omega), if_pos trivial, if_pos (by omega)]
              rw [e3]
              have hx := ex1' u _ _ u2
              have hxz : (u.extract 1 u.size).size = r'.length := by rw [bts_size, hx]
              rcases ih (u.extract 1 u.size) (out ++ [(⟨a, b⟩ : S28)]) k (by omega) (by simp; omega) (by omega) with ⟨L, out', h1, h2, h3⟩ | ⟨h1, h2⟩
              · rw [hx] at h1
                refine .inl ⟨(a, T) :: L, out', by rw [h1]; rfl, h2, ?_⟩
                rw [h3]; simp [tg, hT]
              · rw [hx] at h1
                exact .inr ⟨by rw [h1]; rfl, h2⟩
            · refine .inr ⟨tagsL_bad hl hc hw hu hc', ?_⟩
              simp only [etag_tags.j2, bt0 u _ _ u2]
              rw [if_neg hune, if_pos (by omega), if_neg hc']
        · refine .inr ⟨tagsL_fail hl hc hw, ?_⟩
          rw [hw] at l2
          simp only [Prod.mk.injEq] at l2
          obtain ⟨_, _, _, rfl⟩ := l2
          simp only [etag_tags.j1, if_true, l1, Option.bind_some, Bool.false_eq_true, if_false]
theorem Parse_f (s : ByteArray) (hs : s.size ≤ 900) {k : Nat} (hk : 6000 ≤ k) :
    (trimN (bytesOf s) = [42] ∧ etag_Parse.f k s = some (true, [], 0)) ∨
    (trimN (bytesOf s) ≠ [42] ∧ ((∃ L out', tagsL (s.size + 1) (bytesOf s) = some L ∧ L ≠ [] ∧ etag_Parse.f k s = some (false, out', 0) ∧ out'.map tg = L) ∨ ((tagsL (s.size + 1) (bytesOf s) = none ∨ tagsL (s.size + 1) (bytesOf s) = some []) ∧ etag_Parse.f k s = some (false, [], 3)))) := by
  obtain ⟨t, t1, t2, t3⟩ := Trim_f s (by omega)
  have h42 : bytesOf (⟨#[42]⟩ : ByteArray) = [42] := rfl
  have tl42 : (⟨#[42]⟩ : ByteArray).toList = ([42] : List UInt8) := by rw [tl]
  unfold etag_Parse.f
  rw [t1]
  simp only [Option.bind_some]
  by_cases h : trimN (bytesOf s) = [42]
  · refine .inl ⟨h, ?_⟩
    rw [if_pos]
    rw [← tl42, tl_iff, t2, h, h42]
  · refine .inr ⟨h, ?_⟩
    have hn : ¬ t.toList = ([42] : List UInt8) := by
      rw [← tl42, tl_iff, t2, h42]; exact h
    rw [if_neg hn]
    unfold etag_tags.f
    rcases Tags_l0 (s.size + 1) s [] k (by omega) (by simp; omega) (by omega) with ⟨L, out', h1, h2, h3⟩ | ⟨h1, h2⟩
    · rw [h2]
      simp only [Option.bind_some]
      simp only [List.map_nil, List.nil_append] at h3
      cases L with
      | nil =>
        have : out' = [] := by simpa using h3
        subst this
        exact .inr ⟨.inr h1, rfl⟩
      | cons x L =>
        have : 0 < out'.length := by have := congrArg List.length h3; simp at this; omega
        refine .inl ⟨_, out', h1, by simp, ?_, h3⟩
        rw [if_pos (by simp; omega)]
    · rw [h2]
      exact .inr ⟨.inl h1, rfl⟩
-- the document's marks
theorem byte256 : ∀ c : Fin 256, larumref09_Byte.f (c.val : Int) = some (my (c.val : Int)) := by decide +kernel
theorem byte_f {c : Int} (h : 0 ≤ c ∧ c ≤ 255) : larumref09_Byte.f c = some (my c) := by
  have := byte256 ⟨c.toNat, by omega⟩
  rw [show ((⟨c.toNat, by omega⟩ : Fin 256).val : Int) = c from by show ((c.toNat : Nat) : Int) = c; omega] at this
  exact this
theorem Right_l0 (s : ByteArray) (hs : s.size ≤ 9223372036854775807) : ∀ (f i k : Nat), i + f = s.size → f < k → larumref09_Right.l0 k s (i : Int) = some (((bytesOf s).drop i).all my) := by
  intro f
  induction f with
  | zero =>
    intro i k hi hk
    obtain ⟨k, rfl⟩ : ∃ m, k = m + 1 := ⟨k - 1, by omega⟩
    simp only [larumref09_Right.l0]
    rw [if_neg (by omega), List.drop_of_length_le (by rw [bytesOf_length]; omega)]
    rfl
  | succ f ih =>
    intro i k hi hk
    obtain ⟨k, rfl⟩ : ∃ m, k = m + 1 := ⟨k - 1, by omega⟩
    simp only [larumref09_Right.l0]
    rw [if_pos (by omega), if_pos (by omega), bt_rd, byte_f ((bts_byt s).rd _), drop_rd (by rw [bytesOf_length]; omega), w64 (by omega), show ((i : Int) + 1) = ((i + 1 : Nat) : Int) by omega, ih (i + 1) k (by omega) (by omega)]
    simp only [Option.bind_some, List.all_cons]
    cases my (rd (bytesOf s) (i : Int)) <;> simp
theorem Right_f (s : ByteArray) (hs : s.size ≤ 9223372036854775807) {k : Nat} (hk : s.size < k) : larumref09_Right.f k s = some ((bytesOf s).all my) := by
  have := Right_l0 s hs s.size 0 k (by omega) hk
  rw [List.drop_zero] at this
  exact this
theorem ap3 (a b c : ByteArray) : bytesOf (a ++ b ++ c) = bytesOf a ++ bytesOf b ++ bytesOf c := by rw [bts_append, bts_append]
theorem RPrint_f (w : Bool) (t : ByteArray) (hs : t.size ≤ 1000) : ∃ s, larumref09_Print.f w t = some s ∧ bytesOf s = markL w (bytesOf t) := by
  unfold larumref09_Print.f
  have p1 : bytesOf (⟨#[34]⟩ : ByteArray) = [34] := rfl
  have p2 : bytesOf (⟨#[87, 47, 34]⟩ : ByteArray) = [87, 47, 34] := rfl
  have z1 : ((⟨#[34]⟩ : ByteArray) ++ t).size = 1 + t.size := by rw [bts_size, bts_append, p1, List.length_append, bytesOf_length]; rfl
  have z2 : ((⟨#[87, 47, 34]⟩ : ByteArray) ++ t).size = 3 + t.size := by rw [bts_size, bts_append, p2, List.length_append, bytesOf_length]; rfl
  cases w with
  | true => exact ⟨_, by rw [if_pos rfl, if_pos (by omega), z2, if_pos (by omega)], by simp [bts_append, p1, p2, markL]⟩
  | false => exact ⟨_, by rw [if_neg (by simp), if_pos (by omega), z1, if_pos (by omega)], by simp [bts_append, p1, markL]⟩
def tg24 (x : S24) : Bool × List Int := (x.f0, bytesOf x.f1)
def joinL (L : List (Bool × List Int)) : List Int := L.flatMap fun x => markL x.1 x.2 ++ [44, 32]
theorem tags_32 (f : Nat) (s : List Int) : tagsL f (32 :: s) = tagsL f s := by
  cases f with
  | zero => rfl
  | succ f =>
    have : ltrim (32 :: s) = ltrim s := by rw [ltrim_cons, if_pos (by decide)]
    simp only [tagsL, this]
theorem tags_join : ∀ (L : List (Bool × List Int)) (f : Nat), (∀ x ∈ L, x.2.all my = true) → L.length < f → tagsL f (joinL L) = some L
  | [], f, _, hf => by
    obtain ⟨f, rfl⟩ : ∃ m, f = m + 1 := ⟨f - 1, by omega⟩
    exact tagsL_nil rfl
  | (w, T) :: L, f, h, hf => by
    simp only [List.length_cons] at hf
    obtain ⟨f, rfl⟩ : ∃ m, f = m + 1 := ⟨f - 1, by omega⟩
    have hT := h (w, T) (by simp)
    obtain ⟨c, m, hm, hc, hc2⟩ := mark_head w T
    have e : joinL ((w, T) :: L) = markL w T ++ (44 :: 32 :: joinL L) := by
      show (markL w T ++ [44, 32]) ++ joinL L = _
      simp
    have e2 : joinL ((w, T) :: L) = c :: (m ++ (44 :: 32 :: joinL L)) := by rw [e, hm]; rfl
    have hl : ltrim (joinL ((w, T) :: L)) = c :: (m ++ (44 :: 32 :: joinL L)) := by rw [e2, ltrim_non c _ hc]
    have hd : leadL (c :: (m ++ (44 :: 32 :: joinL L))) = (w, T, 44 :: 32 :: joinL L, true) := by rw [← e2, e]; exact lead_mark w T _ hT
    rw [tagsL_more hl (by omega) hd (ltrim_non 44 _ (by decide)), tags_32, tags_join L f (fun x hx => h x (List.mem_cons_of_mem _ hx)) (by omega)]
    rfl
theorem join_star (L : List (Bool × List Int)) : trimN (joinL L) ≠ [42] := by
  cases L with
  | nil => exact fun h => by cases h
  | cons x L =>
    obtain ⟨c, m, hm, hc, hc2⟩ := mark_head x.1 x.2
    have e : joinL (x :: L) = c :: (m ++ ([44, 32] ++ joinL L)) := by
      show (markL x.1 x.2 ++ [44, 32]) ++ joinL L = _
      rw [hm]; simp
    rw [e, trimN_non c _ hc]
    obtain ⟨z, hz⟩ := rtrim_cons_non c (m ++ ([44, 32] ++ joinL L)) hc
    rw [hz]
    intro h
    have : c = 42 := by injection h
    omega
theorem rd24 (xs : List S24) (i : Nat) (h : i < xs.length) : rd_T24 xs (i : Int) = xs[i] := by
  unfold rd_T24
  rw [show ((i : Int)).toNat = i by omega, List.getD_eq_getElem?_getD, List.getElem?_eq_getElem h]
  rfl
theorem rd28' (xs : List S28) (i : Nat) (h : i < xs.length) : rd_T28 xs (i : Int) = xs[i] := by
  unfold rd_T28
  rw [show ((i : Int)).toNat = i by omega, List.getD_eq_getElem?_getD, List.getElem?_eq_getElem h]
  rfl
theorem same_at {xs : List S28} {ys : List S24} (h : xs.map tg = ys.map tg24) (i : Nat) (hi : i < ys.length) : i < xs.length ∧ (!((rd_T28 xs (i : Int)).f0 == (rd_T24 ys (i : Int)).f0) || (!(((rd_T28 xs (i : Int)).f1).toList == ((rd_T24 ys (i : Int)).f1).toList))) = false := by
  have hl : xs.length = ys.length := by have := congrArg List.length h; simpa using this
  refine ⟨by omega, ?_⟩
  rw [rd28' xs i (by omega), rd24 ys i hi]
  have e : tg (xs[i]'(by omega)) = tg24 ys[i] := by
    have h1 : (xs.map tg)[i]? = (ys.map tg24)[i]? := by rw [h]
    rw [List.getElem?_map, List.getElem?_map, List.getElem?_eq_getElem (by omega), List.getElem?_eq_getElem hi] at h1
    simpa using h1
  unfold tg tg24 at e
  simp only [Prod.mk.injEq] at e
  have e2 := (tl_iff _ _).2 e.2
  rw [e.1, e2]
  simp
theorem l1_same {xs : List S28} {ys : List S24} (h : xs.map tg = ys.map tg24) (hy : ys.length ≤ 1000) (b : Bool) : ∀ (f i k : Nat), i + f = ys.length → f + 200 ≤ k → larumlaw09_EtagJoined.l1 k ys (ys.length : Int) (i : Int) b xs = some true := by
  intro f
  induction f with
  | zero =>
    intro i k hi hk
    obtain ⟨k, rfl⟩ : ∃ m, k = m + 1 := ⟨k - 1, by omega⟩
    simp only [larumlaw09_EtagJoined.l1]
    rw [if_neg (by omega), awake_at (by omega)]
    rfl
  | succ f ih =>
    intro i k hi hk
    obtain ⟨k, rfl⟩ : ∃ m, k = m + 1 := ⟨k - 1, by omega⟩
    obtain ⟨h1, h2⟩ := same_at h i (by omega)
    simp only [larumlaw09_EtagJoined.l1]
    rw [if_pos (by omega), if_pos (by omega), if_pos (by omega), if_pos (by omega), h2, if_neg (by simp), w64 (by omega), show ((i : Int) + 1) = ((i + 1 : Nat) : Int) by omega]
    exact ih (i + 1) k (by omega) (by omega)
theorem fin_join (k : Nat) (hk : 7000 ≤ k) (s : ByteArray) (ys : List S24) (hs : s.size ≤ 240) (hy : ys.length ≤ 6) (hb : bytesOf s = joinL (ys.map tg24)) (hm : ∀ x ∈ ys, (bytesOf x.f1).all my = true) :
    ((etag_Parse.f k s).bind fun bt158 => (if (ys.length : Int) = 0 then (if bt158.2.2 = 3 then ((larumlaw09_awake.f k).bind fun t164 => (some t164)) else (some false)) else (if bt158.2.2 = 0 then (if bt158.1 = true then (larumlaw09_EtagJoined.j1 k ys true bt158.1 bt158.2.1) else (larumlaw09_EtagJoined.j1 k ys ((bt158.2.1.length : Int) != (ys.length : Int)) bt158.1 bt158.2.1)) else (larumlaw09_EtagJoined.j1 k ys true bt158.1 bt158.2.1)))) = some true := by
  have hlen : (ys.map tg24).length < s.size + 1 := by
    have : ∀ L : List (Bool × List Int), L.length ≤ (joinL L).length := by
      intro L
      induction L with
      | nil => simp
      | cons x L ih =>
        have : joinL (x :: L) = (markL x.1 x.2 ++ [44, 32]) ++ joinL L := rfl
        rw [this]
        simp only [List.length_append, List.length_cons]
        omega
    have := this (ys.map tg24)
    rw [bts_size, hb]
    omega
  have ht := tags_join (ys.map tg24) (s.size + 1) (by
    intro x hx
    obtain ⟨y, hy1, rfl⟩ := List.mem_map.1 hx
    exact hm y hy1) hlen
  rw [← hb] at ht
  rcases Parse_f s (by omega) (k := k) (by omega) with ⟨h, _⟩ | ⟨_, ⟨L, out, h1, h2, h3, h4⟩ | ⟨h1, h2⟩⟩
  · rw [hb] at h
    exact absurd h (join_star _)
  · rw [ht] at h1
    obtain rfl := Option.some.inj h1
    rw [h3]
    have hl : out.length = ys.length := by have := congrArg List.length h4; simpa using this
    have h0 : ys.length ≠ 0 := fun h0 => h2 (by rw [List.eq_nil_of_length_eq_zero h0]; rfl)
    simp only [Option.bind_some]
    rw [if_neg (by omega), if_pos trivial, if_neg (by simp), hl]
    obtain ⟨k, rfl⟩ : ∃ m, k = m + 1 := ⟨k - 1, by omega⟩
    simp only [larumlaw09_EtagJoined.j1]
    rw [show ((ys.length : Int) != (ys.length : Int)) = false by simp, if_neg (by simp)]
    exact l1_same h4 (by omega) false ys.length 0 k (by omega) (by omega)
  · have : ys = [] := by
      rcases h1 with h1 | h1
      · rw [ht] at h1; cases h1
      · rw [ht] at h1
        have := Option.some.inj h1
        simpa using this
    subst this
    rw [h2]
    simp only [Option.bind_some]
    rw [if_pos (by simp), if_pos trivial, awake_at (by omega)]
    rfl
theorem join_l0 (B : Nat) (l : List S24) (hB : ∀ x ∈ l, x.f1.size ≤ B) (hl : l.length ≤ 9223372036854775807) (hg : ∀ x ∈ l, x.f1.size ≤ 9223372036854775807) : ∀ (f i k : Nat) (s : ByteArray) (ys : List S24), i + f = l.length → f + 8000 + B ≤ k → ys.length ≤ i → ys.length ≤ 6 → s.size ≤ 40 * ys.length → bytesOf s = joinL (ys.map tg24) → (∀ x ∈ ys, (bytesOf x.f1).all my = true) →
    larumlaw09_EtagJoined.l0 k s ys l (l.length : Int) (i : Int) = some true := by
  intro f
  induction f with
  | zero =>
    intro i k s ys hi hk h1 h2 h3 h4 h5
    obtain ⟨k, rfl⟩ : ∃ m, k = m + 1 := ⟨k - 1, by omega⟩
    simp only [larumlaw09_EtagJoined.l0]
    rw [if_neg (by omega)]
    exact fin_join k (by omega) s ys (by omega) h2 h4 h5
  | succ f ih =>
    intro i k s ys hi hk h1 h2 h3 h4 h5
    obtain ⟨k, rfl⟩ : ∃ m, k = m + 1 := ⟨k - 1, by omega⟩
    simp only [larumlaw09_EtagJoined.l0]
    rw [if_pos (by omega), if_pos (by omega), if_pos (by omega), w64 (by omega), show ((i : Int) + 1) = ((i + 1 : Nat) : Int) by omega]
    have next := ih (i + 1) k s ys (by omega) (by omega) (by omega) h2 h3 h4 h5
    by_cases h6 : (i : Int) < 6
    · rw [if_pos h6]
      have hx : rd_T24 l (i : Int) ∈ l := by rw [rd24 l i (by omega)]; exact List.getElem_mem _
      have hxs := hg _ hx
      generalize rd_T24 l (i : Int) = x at hx hxs
      by_cases hz : (x.f1.size : Int) < 30
      · rw [Right_f x.f1 (by omega) (by omega)]
        simp only [Option.bind_some]
        cases hr : (bytesOf x.f1).all my with
        | false => simpa using next
        | true =>
          obtain ⟨p, p1, p2⟩ := RPrint_f x.f0 x.f1 (by omega)
          have pz : p.size ≤ 34 := by
            rw [bts_size, p2]
            unfold markL
            have := bytesOf_length x.f1
            split <;> simp <;> omega
          have e : bytesOf ((s ++ p) ++ (⟨#[44, 32]⟩ : ByteArray)) = joinL ((ys ++ [(⟨x.f0, x.f1⟩ : S24)]).map tg24) := by
            rw [bts_append, bts_append, h4, p2]
            simp [joinL, tg24]; rfl
          have ez : ((s ++ p) ++ (⟨#[44, 32]⟩ : ByteArray)).size = s.size + p.size + 2 := by
            rw [ByteArray.size_append, ByteArray.size_append]; rfl
          have ez2 : (s ++ p).size = s.size + p.size := ByteArray.size_append
          rw [if_pos rfl, if_pos hz, if_pos (by omega), p1]
          simp only [Option.bind_some]
          rw [if_pos (by omega), if_pos (by omega)]
          exact ih (i + 1) k _ _ (by omega) (by omega) (by simp; omega) (by simp; omega) (by rw [ez]; simp; omega) e (by
            intro y hy
            rcases List.mem_append.1 hy with hy | hy
            · exact h5 y hy
            · rw [List.mem_singleton.1 hy]; exact hr)
      · rw [Right_f x.f1 hxs (by have := hB _ hx; omega)]
        simp only [Option.bind_some]
        rw [if_neg hz]
        split <;> exact next
    · rw [if_neg h6]
      exact next
theorem size_bound (l : List S24) : ∃ B, ∀ x ∈ l, x.f1.size ≤ B := by
  induction l with
  | nil => exact ⟨0, fun x hx => by cases hx⟩
  | cons y l ih =>
    obtain ⟨B, hB⟩ := ih
    refine ⟨B + y.f1.size, fun x hx => ?_⟩
    rcases List.mem_cons.1 hx with rfl | hx
    · omega
    · have := hB x hx; omega
theorem EtagJoined : larumlaw09_EtagJoined.Pure := by
  intro l hl hg
  obtain ⟨B, hB⟩ := size_bound l
  obtain ⟨k, hk⟩ : ∃ k : Nat, k = l.length + 10000 + B := ⟨_, rfl⟩
  refine ⟨k, ?_⟩
  unfold larumlaw09_EtagJoined.f
  exact join_l0 B l hB hl (fun x hx => (hg x hx).2) l.length 0 k ⟨#[]⟩ [] (by omega) (by omega) (by simp) (by simp) (by decide) rfl (fun x hx => by cases hx)
end Go.Proofs.YteoicfgjijmigaaDoor.Pure
