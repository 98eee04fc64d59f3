/- Names of labels are as the chapter says: for any text. No condition. -/
import Derived.Test.YtedfpgelcdekoaaDoorPPageNamesx4
namespace Go.Proofs.YtedfpgelcdekoaaDoor.Pure
open Go Go.RowKit Go.Proofs.YtedfpgelcdekoaaDoor.PPageNames Go.Proofs.YtedfpgelcdekoaaDoor.Gp Go.Proofs.YtedfpgelcdekoaaDoorW Go.Proofs.YtedfpgelcdekoaaDoorW.PrintWords Go.Proofs.YtedfpgelcdekoaaDoorW.PrintLast Go.Proofs.YtedfpgelcdekoaaDoorW.PrintMore
set_option linter.unusedVariables false
set_option linter.unusedSimpArgs false
-- strings as lists of numbers
def Byt (l : List Int) : Prop := ∀ x ∈ l, 0 ≤ x ∧ x ≤ 255
theorem Byt.rd {l : List Int} (h : Byt l) (i : Int) : 0 ≤ PrintWords.rd l i ∧ PrintWords.rd l i ≤ 255 := by
  unfold PrintWords.rd
  rw [List.getD_eq_getElem?_getD]
  by_cases hi : i.toNat < l.length
  · rw [List.getElem?_eq_getElem hi]; exact h _ (List.getElem_mem hi)
  · rw [List.getElem?_eq_none (by omega)]; decide
theorem Byt.take {l : List Int} (h : Byt l) (n : Nat) : Byt (l.take n) := fun x hx => h x (List.mem_of_mem_take hx)
theorem Byt.drop {l : List Int} (h : Byt l) (n : Nat) : Byt (l.drop n) := fun x hx => h x (List.mem_of_mem_drop hx)
theorem w64 {x : Int} (h : -9223372036854775808 ≤ x ∧ x ≤ 9223372036854775807) : wrap64 x = x := by unfold wrap64; omega
theorem u64w (x : Int) : IntKind.u64.wrap x = x % 18446744073709551616 := by simp [IntKind.wrap, IntKind.bits, IntKind.signed]
theorem wu64 {x : Int} (h : 0 ≤ x ∧ x ≤ 18446744073709551615) : IntKind.u64.wrap x = x := by rw [u64w]; omega
theorem bts_byt (s : ByteArray) : Byt (bytesOf s) := by
  intro x hx
  simp only [bytesOf, List.mem_map] at hx
  obtain ⟨b, _, rfl⟩ := hx
  have := b.toNat_lt
  omega
theorem bts_len (s : ByteArray) : ((bytesOf s).length : Int) = (s.size : Int) := by rw [bytesOf_length]
theorem bt_rd (s : ByteArray) (i : Int) : bt s i = rd (bytesOf s) i := (rd_bytesOf s i).symm
theorem tl (s : ByteArray) : s.toList = s.data.toList := ByteArray.toList_eq s
theorem u8_map_inj : ∀ {a b : List UInt8}, a.map (fun x => (x.toNat : Int)) = b.map (fun x => (x.toNat : Int)) → a = b
  | [], [], _ => rfl
  | [], _ :: _, h => by simp at h
  | _ :: _, [], h => by simp at h
  | x :: a, y :: b, h => by
    simp only [List.map_cons, List.cons.injEq] at h
    rw [u8_map_inj h.2, UInt8.toNat_inj.1 (by omega : x.toNat = y.toNat)]
theorem tl_iff (s t : ByteArray) : s.toList = t.toList ↔ bytesOf s = bytesOf t := by
  rw [tl, tl]
  exact ⟨fun h => by unfold bytesOf; rw [h], fun h => u8_map_inj h⟩
theorem tl_nil (s : ByteArray) : s.toList = ([] : List UInt8) ↔ bytesOf s = [] := by
  rw [tl]
  unfold bytesOf
  rw [List.map_eq_nil_iff]
theorem bts_extract (s : ByteArray) (a b : Nat) : bytesOf (s.extract a b) = ((bytesOf s).take b).drop a := by
  unfold bytesOf
  rw [List.drop_take, ← List.map_drop, ← List.map_take]
  congr 1
  simp [List.drop_take]
theorem bts_extract_to (s : ByteArray) (a : Nat) : bytesOf (s.extract a s.size) = (bytesOf s).drop a := by
  rw [bts_extract, List.take_of_length_le (by rw [bytesOf_length]; omega)]
theorem bts_append (s t : ByteArray) : bytesOf (s ++ t) = bytesOf s ++ bytesOf t := by
  unfold bytesOf
  rw [← List.map_append]
  congr 1
theorem bts_size (s : ByteArray) : s.size = (bytesOf s).length := (bytesOf_length s).symm
theorem drop_rd {l : List Int} {i : Nat} (h : i < l.length) : l.drop i = rd l (i : Int) :: l.drop (i + 1) := by
  rw [List.drop_eq_getElem_cons h]
  unfold rd
  simp [List.getD_eq_getElem?_getD, List.getElem?_eq_getElem h]
theorem rd_cons_zero (a : Int) (l : List Int) : rd (a :: l) 0 = a := rfl
-- a string made of numbers
theorem bts_son {xs : List Int} (h : Byt xs) : bytesOf (strOfNums xs) = xs := by
  unfold bytesOf
  rw [strOfNums_data, List.map_map]
  conv => rhs; rw [← List.map_id xs]
  apply List.map_congr_left
  intro x hx
  have := h x hx
  simp only [Function.comp, id]
  have e : (UInt8.ofNat x.toNat).toNat = x.toNat := by
    rw [UInt8.toNat_ofNat']
    omega
  rw [e]; omega
theorem bts_tl_iff {s t : ByteArray} : s.toList = t.toList ↔ bytesOf s = bytesOf t := tl_iff s t
theorem ext_bts {s t : ByteArray} (h : bytesOf s = bytesOf t) : s = t := by
  have := (tl_iff s t).2 h
  rw [tl, tl] at this
  cases s with | mk a => cases t with | mk b => simp at this; rw [this]
-- parts at a byte
def cutG (c : Int) : List Int → List Int → List (List Int)
  | w, [] => [w]
  | w, x :: t => if x = c then w :: cutG c [] t else cutG c (w ++ [x]) t
theorem cut_idx (c : UInt8) : ∀ (l : List UInt8) (w : List Int),
    (Lib.indexByte l c = -1 ∧ l.count c = 0 ∧ cutG (c.toNat : Int) w (l.map fun x => (x.toNat : Int)) = [w ++ l.map fun x => (x.toNat : Int)]) ∨
    ∃ j : Nat, Lib.indexByte l c = (j : Int) ∧ j < l.length ∧ l.count c = (l.drop (j + 1)).count c + 1 ∧
      cutG (c.toNat : Int) w (l.map fun x => (x.toNat : Int)) = (w ++ (l.take j).map fun x => (x.toNat : Int)) :: cutG (c.toNat : Int) [] ((l.drop (j + 1)).map fun x => (x.toNat : Int))
  | [], w => Or.inl ⟨rfl, rfl, by simp [cutG]⟩
  | x :: l, w => by
    by_cases h : x = c
    · subst h
      refine Or.inr ⟨0, by simp [Lib.indexByte], by simp, by simp, by simp [cutG]⟩
    · have hb : (x == c) = false := by simpa using h
      have hi : ¬ ((x.toNat : Int) = (c.toNat : Int)) := fun e => h (UInt8.toNat_inj.1 (by omega))
      rcases cut_idx c l (w ++ [(x.toNat : Int)]) with ⟨h1, h2, h3⟩ | ⟨j, h1, h2, h3, h4⟩
      · refine Or.inl ⟨by simp [Lib.indexByte, hb, h1], by rw [List.count_cons_of_ne (by simpa using h)]; exact h2, ?_⟩
        simp only [List.map_cons, cutG, if_neg hi]
        rw [h3]; simp
      · refine Or.inr ⟨j + 1, ?_, by simpa using h2, ?_, ?_⟩
        · have : ¬ ((j : Int) = -1) := by omega
          simp [Lib.indexByte, hb, h1, this]
        · rw [List.count_cons_of_ne (by simpa using h), h3]; rfl
        · simp only [List.map_cons, cutG, if_neg hi, List.take_succ_cons, List.drop_succ_cons]
          rw [h4]; simp
theorem split_cut (c : UInt8) : ∀ (n : Nat) (s : ByteArray), s.data.toList.count c ≤ n → (Lib.splitB ⟨#[c]⟩ 0 n s).map bytesOf = cutG (c.toNat : Int) [] (bytesOf s)
  | 0, s, h => by
    rcases cut_idx c s.data.toList [] with ⟨_, _, h3⟩ | ⟨j, _, _, h3, _⟩
    · rw [Lib.splitB_zero]
      show [bytesOf s] = cutG _ [] (s.data.toList.map _)
      rw [h3]; rfl
    · omega
  | n + 1, s, h => by
    have ei : Lib.indexB s ⟨#[c]⟩ = Lib.indexByte s.data.toList c := by
      show Lib.index s.data.toList [c] = _
      rw [Lib.index_one]
    rcases cut_idx c s.data.toList [] with ⟨h1, _, h3⟩ | ⟨j, h1, h2, h3, h4⟩
    · rw [Lib.splitB_miss _ _ _ _ (by rw [ei, h1])]
      show [bytesOf s] = cutG _ [] (s.data.toList.map _)
      rw [h3]; rfl
    · unfold Lib.splitB
      have hne : ((j : Int) == -1) = false := by first | (simp; done) | (simp; omega)
      have hsz : (⟨#[c]⟩ : ByteArray).size = 1 := rfl
      rw [ei, h1, hne, if_neg (by simp), List.map_cons, hsz, show ((j : Int)).toNat + 0 = j by omega, show ((j : Int)).toNat + 1 = j + 1 by omega]
      have hd : (s.extract (j + 1) s.size).data.toList = s.data.toList.drop (j + 1) := by
        simp
        exact List.take_of_length_le (by rw [List.length_drop]; exact Nat.le_refl _)
      rw [split_cut c n (s.extract (j + 1) s.size) (by rw [hd]; omega), bts_extract, List.drop_zero, bts_extract_to]
      show _ = cutG _ [] (s.data.toList.map _)
      rw [h4]
      simp only [bytesOf, List.nil_append, List.map_take, List.map_drop]
theorem Split_f (s : ByteArray) (hs : s.size < 4294967281) (c : Int) (hc : 0 ≤ c ∧ c ≤ 255) : ∃ L, strings_Split.f s (strOfNums [c]) = some L ∧ L.map bytesOf = cutG c [] (bytesOf s) := by
  have e : strOfNums [c] = ⟨#[UInt8.ofNat c.toNat]⟩ := rfl
  have ec : ((UInt8.ofNat c.toNat).toNat : Int) = c := by rw [UInt8.toNat_ofNat']; omega
  unfold strings_Split.f
  rw [e, if_pos ⟨rfl, hs⟩]
  refine ⟨_, rfl, ?_⟩
  rw [split_cut _ _ s ?_, ec]
  show _ ≤ Lib.count s.data.toList [UInt8.ofNat c.toNat]
  rw [Lib.count_one]
  exact Nat.le_refl _
theorem RCut_l0 (s : ByteArray) (hs : s.size ≤ 1000000) (c : Int) : ∀ (f i : Nat) (L : List ByteArray) (w : ByteArray) (k : Nat), i + f = s.size → f + 1 ≤ k → L.length ≤ i → w.size ≤ i →
    ∃ R, larumref01_Cut.l0 k s c L w (i : Int) = some R ∧ R.map bytesOf = L.map bytesOf ++ cutG c (bytesOf w) ((bytesOf s).drop i) := by
  intro f
  induction f with
  | zero =>
    intro i L w k hi hk hL hw
    obtain ⟨k, rfl⟩ : ∃ j, k = j + 1 := ⟨k - 1, by omega⟩
    simp only [larumref01_Cut.l0]
    rw [if_neg (by omega), if_pos (by omega), List.drop_of_length_le (by rw [bytesOf_length]; omega)]
    exact ⟨_, rfl, by simp [cutG]⟩
  | succ f ih =>
    intro i L w k hi hk hL hw
    obtain ⟨k, rfl⟩ : ∃ j, k = j + 1 := ⟨k - 1, by omega⟩
    rw [drop_rd (by rw [bytesOf_length]; omega)]
    simp only [larumref01_Cut.l0]
    rw [if_pos (by omega), if_pos (by omega), bt_rd, w64 (by omega), show (i : Int) + 1 = ((i + 1 : Nat) : Int) by omega]
    by_cases h : rd (bytesOf s) (i : Int) = c
    · rw [if_pos h, if_pos (by omega)]
      obtain ⟨R, r1, r2⟩ := ih (i + 1) (L ++ [w]) ⟨#[]⟩ k (by omega) (by omega) (by simp; omega) (Nat.zero_le _)
      refine ⟨R, r1, ?_⟩
      rw [r2]
      have e0 : bytesOf (⟨#[]⟩ : ByteArray) = [] := rfl
      simp [cutG, h, e0]
    · have ex : bytesOf (s.extract (i : Int).toNat ((i + 1 : Nat) : Int).toNat) = [rd (bytesOf s) (i : Int)] := by
        have hl : i < (bytesOf s).length := by rw [bytesOf_length]; omega
        rw [show (i : Int).toNat = i by omega, show (((i + 1 : Nat) : Int)).toNat = i + 1 by omega, bts_extract, List.drop_take, drop_rd hl]
        simp
      have hz : (s.extract (i : Int).toNat ((i + 1 : Nat) : Int).toNat).size = 1 := by rw [bts_size, ex]; rfl
      rw [if_neg h, if_pos (by omega), if_pos (by omega), hz, if_pos (by omega)]
      obtain ⟨R, r1, r2⟩ := ih (i + 1) L (w ++ s.extract (i : Int).toNat ((i + 1 : Nat) : Int).toNat) k (by omega) (by omega) (by omega) (by rw [bts_size, bts_append, ex, List.length_append, bytesOf_length]; simp; omega)
      refine ⟨R, r1, ?_⟩
      rw [r2, bts_append, ex]
      simp [cutG, h]
theorem RCut_f (s : ByteArray) (hs : s.size ≤ 1000000) (c : Int) {k : Nat} (hk : s.size + 1 ≤ k) : ∃ R, larumref01_Cut.f k s c = some R ∧ R.map bytesOf = cutG c [] (bytesOf s) := by
  obtain ⟨R, r1, r2⟩ := RCut_l0 s hs c s.size 0 [] ⟨#[]⟩ k (by omega) hk (Nat.zero_le _) (Nat.le_refl _)
  exact ⟨R, r1, by rw [r2]; rfl⟩
theorem cutG_len (c : Int) : ∀ (l w : List Int), (cutG c w l).length ≤ l.length + 1
  | [], w => Nat.le_refl _
  | x :: l, w => by
    unfold cutG
    split
    · simpa using cutG_len c l []
    · have := cutG_len c l (w ++ [x]); simp at this ⊢; omega
theorem cutG_size (c : Int) : ∀ (l w : List Int) (p : List Int), p ∈ cutG c w l → p.length ≤ w.length + l.length
  | [], w, p, h => by simp [cutG] at h; subst h; exact Nat.le_refl _
  | x :: l, w, p, h => by
    unfold cutG at h
    split at h
    · rcases List.mem_cons.1 h with rfl | h
      · simp
      · have := cutG_size c l [] p h; simp at this ⊢; omega
    · have := cutG_size c l (w ++ [x]) p h; simp at this ⊢; omega
-- how many parts
theorem awake60 : larumlaw27_awake.f 200 = some true := by decide +kernel
theorem awake_at {k : Nat} (h : 200 ≤ k) : larumlaw27_awake.f k = some true := at_rounds (g := fun k => larumlaw27_awake.f k) (fun k => larumlaw27_awake.mono k) h awake60
theorem short_eq (s : ByteArray) : ∃ t, larumlaw27_short.f s = some t ∧ t.size ≤ 80 := by
  unfold larumlaw27_short.f
  by_cases h : (s.size : Int) > 80
  · exact ⟨_, by rw [if_pos h, if_pos (by decide), if_pos (by omega)], by simp; omega⟩
  · exact ⟨s, by rw [if_neg h], by omega⟩
def letB (c : Int) : Bool := (larumref01_Letter.f c).getD false
def digB (c : Int) : Bool := (larumref01_Digit.f c).getD false
def inN (c : Int) : Bool := letB c || digB c || c == 95
theorem b256 : ∀ c : Fin 256, larumref01_Letter.f (c.val : Int) = some (letB (c.val : Int)) ∧ larumref01_Digit.f (c.val : Int) = some (digB (c.val : Int)) ∧ label_inName.f (c.val : Int) = some (inN (c.val : Int)) ∧ chars_Digit.f (c.val : Int) = some (digB (c.val : Int)) := by decide +kernel
theorem b_f {c : Int} (h : 0 ≤ c ∧ c ≤ 255) : larumref01_Letter.f c = some (letB c) ∧ larumref01_Digit.f c = some (digB c) ∧ label_inName.f c = some (inN c) ∧ chars_Digit.f c = some (digB c) := by
  have := b256 ⟨c.toNat, by omega⟩
  rw [show ((⟨c.toNat, by omega⟩ : Fin 256).val : Int) = c from by show ((c.toNat : Nat) : Int) = c; omega] at this
  exact this
theorem l256 : ∀ c : Fin 256, (letB (c.val : Int) || ((c.val : Int) == 95)) = (!digB (c.val : Int) && inN (c.val : Int)) := by decide +kernel
theorem l_f {c : Int} (h : 0 ≤ c ∧ c ≤ 255) : (letB c || (c == 95)) = (!digB c && inN c) := by
  have := l256 ⟨c.toNat, by omega⟩
  rw [show ((⟨c.toNat, by omega⟩ : Fin 256).val : Int) = c from by show ((c.toNat : Nat) : Int) = c; omega] at this
  exact this
def nameL : List Int → Bool
  | [] => false
  | c :: r => !digB c && inN c && r.all inN
theorem All_l0 (s : ByteArray) (hs : s.size ≤ 1000000) : ∀ (f i k : Nat), i + f = s.size → f < k → chars_All_label_inName.l0 k s (i : Int) = some (((bytesOf s).drop i).all inN) := by
  intro f
  induction f with
  | zero =>
    intro i k hi hk
    obtain ⟨k, rfl⟩ : ∃ m, k = m + 1 := ⟨k - 1, by omega⟩
    simp only [chars_All_label_inName.l0]
    rw [if_neg (by omega), List.drop_of_length_le (by rw [bytesOf_length]; omega)]
    rfl
  | succ f ih =>
    intro i k hi hk
    obtain ⟨k, rfl⟩ : ∃ m, k = m + 1 := ⟨k - 1, by omega⟩
    simp only [chars_All_label_inName.l0]
    rw [if_pos (by omega), if_pos (by omega), bt_rd, (b_f ((bts_byt s).rd _)).2.2.1, drop_rd (by rw [bytesOf_length]; omega), w64 (by omega), show ((i : Int) + 1) = ((i + 1 : Nat) : Int) by omega, ih (i + 1) k (by omega) (by omega)]
    simp only [Option.bind_some, List.all_cons]
    cases inN (rd (bytesOf s) (i : Int)) <;> simp
theorem LName_f (s : ByteArray) (hs : s.size ≤ 1000000) {k : Nat} (hk : s.size < k) : label_Name.f k s = some (nameL (bytesOf s)) := by
  unfold label_Name.f
  cases hb : bytesOf s with
  | nil =>
    rw [if_pos ((tl_nil s).2 hb)]
    rfl
  | cons c r =>
    have hz : s.size = r.length + 1 := by rw [bts_size, hb]; rfl
    have h0 : bt s 0 = c := by rw [bt_rd, hb]; rfl
    have hc := bt_range s 0
    rw [h0] at hc
    rw [if_neg (fun h => by rw [(tl_nil s).1 h] at hb; cases hb), if_pos (by omega), h0, (b_f hc).2.2.2]
    simp only [Option.bind_some]
    have ha : chars_All_label_inName.f k s = some ((c :: r).all inN) := by
      have := All_l0 s hs s.size 0 k (by omega) hk
      rw [List.drop_zero, hb] at this
      exact this
    rw [ha]
    simp only [Option.bind_some, nameL, List.all_cons]
    cases digB c <;> simp
theorem RName_l0 (s : ByteArray) (hs : s.size ≤ 1000000) : ∀ (f i k : Nat), 1 ≤ i → i + f = s.size → f < k → larumref14_Name.l0 k s (i : Int) = some (((bytesOf s).drop i).all inN) := by
  intro f
  induction f with
  | zero =>
    intro i k h1 hi hk
    obtain ⟨k, rfl⟩ : ∃ m, k = m + 1 := ⟨k - 1, by omega⟩
    have hne : (s.toList != ([] : List UInt8)) = true := by
      simp only [bne_iff_ne, ne_eq]
      intro h
      have := (tl_nil s).1 h
      rw [bts_size, this] at hi
      simp at hi; omega
    simp only [larumref14_Name.l0]
    rw [if_neg (by omega), List.drop_of_length_le (by rw [bytesOf_length]; omega), hne]
    rfl
  | succ f ih =>
    intro i k h1 hi hk
    obtain ⟨k, rfl⟩ : ∃ m, k = m + 1 := ⟨k - 1, by omega⟩
    have hb := b_f ((bts_byt s).rd (i : Int))
    simp only [larumref14_Name.l0]
    rw [if_pos (by omega), if_pos (by omega), bt_rd, hb.1, hb.2.1, drop_rd (by rw [bytesOf_length]; omega), w64 (by omega), show ((i : Int) + 1) = ((i + 1 : Nat) : Int) by omega, ih (i + 1) k (by omega) (by omega) (by omega)]
    simp only [Option.bind_some, List.all_cons]
    generalize rd (bytesOf s) (i : Int) = c
    have hi0 : ¬ (i : Int) = 0 := by omega
    simp only [if_neg hi0]
    unfold inN
    by_cases c1 : letB c = true
    · simp [c1]
    · by_cases c2 : c = 95
      · simp [c2]
      · by_cases c3 : digB c = true
        · simp [c1, c2, c3]
        · simp [c1, c2, c3]
theorem RName_f (s : ByteArray) (hs : s.size ≤ 1000000) {k : Nat} (hk : s.size + 1 < k) : larumref14_Name.f k s = some (nameL (bytesOf s)) := by
  obtain ⟨k, rfl⟩ : ∃ m, k = m + 1 := ⟨k - 1, by omega⟩
  unfold larumref14_Name.f
  cases hb : bytesOf s with
  | nil =>
    have hz : s.size = 0 := by rw [bts_size, hb]; rfl
    have hne : (s.toList != ([] : List UInt8)) = false := by
      rw [(tl_nil s).2 hb]; rfl
    simp only [larumref14_Name.l0]
    rw [if_neg (by omega), hne]
    rfl
  | cons c r =>
    have hz : s.size = r.length + 1 := by rw [bts_size, hb]; rfl
    have h0 : bt s 0 = c := by rw [bt_rd, hb]; rfl
    have hc := bt_range s 0
    rw [h0] at hc
    have h1 := RName_l0 s hs r.length 1 k (by omega) (by omega) (by omega)
    rw [hb] at h1
    have h1' : larumref14_Name.l0 k s 1 = some (r.all inN) := h1
    have hl := l_f hc
    simp only [larumref14_Name.l0]
    rw [if_pos (by omega), if_pos (by omega), h0, (b_f hc).1, w64 (by omega), show ((0 : Int) + 1) = 1 by omega, h1']
    simp only [Option.bind_some, nameL]
    rw [← hl]
    by_cases c1 : letB c = true
    · simp [c1]
    · by_cases c2 : c = 95
      · simp [c2]
      · simp [c1, c2]
theorem rdOf_at (xs : List ByteArray) (i : Nat) (h : i < xs.length) : rdOf ByteArray.empty xs (i : Int) = xs[i] := by
  unfold rdOf
  rw [show ((i : Int)).toNat = i by omega, List.getD_eq_getElem?_getD, List.getElem?_eq_getElem h]
  rfl
def badP (x : ByteArray) : Bool := !nameL (bytesOf x)
theorem Index_l0 (xs : List ByteArray) (hx : xs.length ≤ 1000) (hz : ∀ x ∈ xs, x.size ≤ 1000) : ∀ (f i k : Nat), i + f = xs.length → f + 2000 ≤ k → ∃ r, slices_IndexFunc_string_string_page_Names_1.l0 k xs (xs.length : Int) (i : Int) = some r ∧ decide (r ≥ 0) = (xs.drop i).any badP := by
  intro f
  induction f with
  | zero =>
    intro i k hi hk
    obtain ⟨k, rfl⟩ : ∃ m, k = m + 1 := ⟨k - 1, by omega⟩
    refine ⟨-1, ?_, ?_⟩
    · simp only [slices_IndexFunc_string_string_page_Names_1.l0]
      rw [if_neg (by omega)]
    · rw [List.drop_of_length_le (by omega)]; rfl
  | succ f ih =>
    intro i k hi hk
    obtain ⟨k, rfl⟩ : ∃ m, k = m + 1 := ⟨k - 1, by omega⟩
    have hpz := hz (xs[i]'(by omega)) (List.getElem_mem _)
    have step : slices_IndexFunc_string_string_page_Names_1.l0 (k + 1) xs (xs.length : Int) (i : Int) = if badP (xs[i]'(by omega)) = true then some (i : Int) else slices_IndexFunc_string_string_page_Names_1.l0 k xs (xs.length : Int) ((i + 1 : Nat) : Int) := by
      simp only [slices_IndexFunc_string_string_page_Names_1.l0]
      rw [if_pos (by omega), if_pos (by omega), if_pos (by omega), rdOf_at xs i (by omega), w64 (by omega), show ((i : Int) + 1) = ((i + 1 : Nat) : Int) by omega]
      unfold page_Names_1.f
      rw [LName_f _ (by omega) (by omega)]
      rfl
    rw [step, List.drop_eq_getElem_cons (by omega : i < xs.length), List.any_cons]
    by_cases h : badP (xs[i]'(by omega)) = true
    · exact ⟨(i : Int), by rw [if_pos h], by rw [h]; simp⟩
    · obtain ⟨r, r1, r2⟩ := ih (i + 1) k (by omega) (by omega)
      exact ⟨r, by rw [if_neg h]; exact r1, by rw [r2]; simp [h]⟩
theorem RNames_l0 (ys xs : List ByteArray) (hx : xs.length ≤ 1000) (hz : ∀ x ∈ xs, x.size ≤ 1000) : ∀ (f i k : Nat), i + f = xs.length → f + 2000 ≤ k → larumref27_Names.l0 k ys xs (xs.length : Int) (i : Int) = some (if (xs.drop i).any badP = true then ([], false) else (ys, true)) := by
  intro f
  induction f with
  | zero =>
    intro i k hi hk
    obtain ⟨k, rfl⟩ : ∃ m, k = m + 1 := ⟨k - 1, by omega⟩
    simp only [larumref27_Names.l0]
    rw [if_neg (by omega), List.drop_of_length_le (by omega)]
    rfl
  | succ f ih =>
    intro i k hi hk
    obtain ⟨k, rfl⟩ : ∃ m, k = m + 1 := ⟨k - 1, by omega⟩
    have hpz := hz (xs[i]'(by omega)) (List.getElem_mem _)
    have step : larumref27_Names.l0 (k + 1) ys xs (xs.length : Int) (i : Int) = if nameL (bytesOf (xs[i]'(by omega))) = true then larumref27_Names.l0 k ys xs (xs.length : Int) ((i + 1 : Nat) : Int) else some ([], false) := by
      simp only [larumref27_Names.l0]
      rw [if_pos (by omega), if_pos (by omega), if_pos (by omega), rdOf_at xs i (by omega), w64 (by omega), show ((i : Int) + 1) = ((i + 1 : Nat) : Int) by omega, RName_f _ (by omega) (by omega)]
      rfl
    rw [step, ih (i + 1) k (by omega) (by omega), List.drop_eq_getElem_cons (by omega : i < xs.length), List.any_cons]
    unfold badP
    cases nameL (bytesOf (xs[i]'(by omega))) <;> simp
theorem texts_l0 {a b : List ByteArray} (h : a.map bytesOf = b.map bytesOf) (hb : a.length ≤ 1000) : ∀ (f i k : Nat), i + f = a.length → f < k → larumlaw27_texts.l0 k a b (a.length : Int) (i : Int) = some true := by
  have hl : a.length = b.length := by have := congrArg List.length h; simpa using this
  intro f
  induction f with
  | zero =>
    intro i k hi hk
    obtain ⟨k, rfl⟩ : ∃ m, k = m + 1 := ⟨k - 1, by omega⟩
    simp only [larumlaw27_texts.l0]
    rw [if_neg (by omega)]
  | succ f ih =>
    intro i k hi hk
    obtain ⟨k, rfl⟩ : ∃ m, k = m + 1 := ⟨k - 1, by omega⟩
    have e : bytesOf (a[i]'(by omega)) = bytesOf (b[i]'(by omega)) := by
      have h1 : (a.map bytesOf)[i]? = (b.map bytesOf)[i]? := by rw [h]
      rw [List.getElem?_map, List.getElem?_map, List.getElem?_eq_getElem (by omega), List.getElem?_eq_getElem (by omega)] at h1
      simpa using h1
    have e1 := (tl_iff _ _).2 e
    simp only [larumlaw27_texts.l0]
    rw [if_pos (by omega), if_pos (by omega), if_pos (by omega), if_pos (by omega), rdOf_at a i (by omega), rdOf_at b i (by omega), if_pos e1, w64 (by omega), show ((i : Int) + 1) = ((i + 1 : Nat) : Int) by omega]
    exact ih (i + 1) k (by omega) (by omega)
theorem texts_f {a b : List ByteArray} (h : a.map bytesOf = b.map bytesOf) (hb : a.length ≤ 1000) {k : Nat} (hk : 2000 ≤ k) : larumlaw27_texts.f k a b = some true := by
  have hl : a.length = b.length := by have := congrArg List.length h; simpa using this
  unfold larumlaw27_texts.f
  rw [if_pos (by omega)]
  exact texts_l0 h hb a.length 0 k (by omega) (by omega)
theorem fits_of {s : ByteArray} {c : Int} {L : List ByteArray} (h : L.map bytesOf = cutG c [] (bytesOf s)) (hs : s.size ≤ 900) : L.length ≤ 1000 ∧ ∀ x ∈ L, x.size ≤ 1000 := by
  constructor
  · have h1 := cutG_len c (bytesOf s) []
    rw [← h, List.length_map, bytesOf_length] at h1
    omega
  · intro x hx
    have h1 := cutG_size c (bytesOf s) [] (bytesOf x) (by rw [← h]; exact List.mem_map_of_mem hx)
    simp only [bytesOf_length, List.length_nil] at h1
    omega
theorem any_map {a b : List ByteArray} (h : a.map bytesOf = b.map bytesOf) : a.any badP = b.any badP := by
  have e : ∀ l : List ByteArray, l.any badP = (l.map bytesOf).any (fun x => !nameL x) := by
    intro l
    rw [List.any_map]
    rfl
  rw [e, e, h]
theorem PageNames : larumlaw27_PageNames.Pure := by
  intro s0 _
  obtain ⟨s, hs, hz⟩ := short_eq s0
  obtain ⟨k, hk⟩ : ∃ k : Nat, k = 9000 := ⟨_, rfl⟩
  refine ⟨k, ?_⟩
  unfold larumlaw27_PageNames.f
  rw [hs]
  simp only [Option.bind_some]
  by_cases h0 : s.toList = ([] : List UInt8)
  · have e1 : page_Names.f k s = some ([], 0) := by unfold page_Names.f; rw [if_pos h0]
    have e2 : larumref27_Names.f k s = some ([], true) := by unfold larumref27_Names.f; rw [if_pos h0]
    rw [e1, e2]
    simp only [Option.bind_some]
    rw [if_pos (by decide), if_pos trivial, texts_f rfl (by simp) (by omega)]
    simp only [Option.bind_some, if_true]
    rw [awake_at (by omega)]
    rfl
  · obtain ⟨L, l1, l2⟩ := Split_f s (by omega) 44 (by omega)
    obtain ⟨R, r1, r2⟩ := RCut_f s (by omega) 44 (k := k) (by omega)
    obtain ⟨l3, l4⟩ := fits_of l2 (by omega)
    obtain ⟨r3, r4⟩ := fits_of r2 (by omega)
    have hLR := l2.trans r2.symm
    have e44 : strOfNums [(44 : Int)] = ⟨#[44]⟩ := by decide
    rw [e44] at l1
    obtain ⟨r, i1, i2⟩ := Index_l0 L l3 l4 L.length 0 k (by omega) (by omega)
    rw [List.drop_zero] at i2
    have rn := RNames_l0 R R r3 r4 R.length 0 k (by omega) (by omega)
    rw [List.drop_zero] at rn
    have hany := any_map hLR
    have e1 : page_Names.f k s = some (if L.any badP = true then ([], 3) else (L, 0)) := by
      unfold page_Names.f
      rw [if_neg h0, l1]
      simp only [Option.bind_some]
      unfold slices_ContainsFunc_string_string_page_Names_1.f slices_IndexFunc_string_string_page_Names_1.f
      have i1' : slices_IndexFunc_string_string_page_Names_1.l0 k L (L.length : Int) 0 = some r := i1
      rw [i1']
      simp only [Option.bind_some]
      rw [i2]
      split <;> rfl
    have e2 : larumref27_Names.f k s = some (if L.any badP = true then ([], false) else (R, true)) := by
      unfold larumref27_Names.f
      rw [if_neg h0, r1]
      simp only [Option.bind_some]
      rw [hany]
      exact rn
    rw [e1, e2]
    simp only [Option.bind_some]
    cases L.any badP with
    | true =>
      simp only [if_true]
      rw [if_pos (by decide), if_neg (by simp), texts_f rfl (by simp) (by omega)]
      simp only [Option.bind_some, if_true]
      rw [awake_at (by omega)]
      rfl
    | false =>
      simp only [Bool.false_eq_true, if_false]
      rw [if_pos (by decide), if_pos trivial, texts_f hLR l3 (by omega)]
      simp only [Option.bind_some, if_true]
      rw [awake_at (by omega)]
      rfl
end Go.Proofs.YtedfpgelcdekoaaDoor.Pure
