/- Which time a text is, or why none, is as the chapter says; it is printed as it was: for any text. No condition. -/
import Derived.Test.YtocbfodaboimoaaPClockParsex5
namespace Go.Proofs.Ytocbfodaboimoaa.Pure
open Go Go.RowKit Go.Proofs.Ytocbfodaboimoaa.PClockParse Go.Proofs.Ytocbfodaboimoaa.Gp Go.Proofs.YtocbfodaboimoaaW Go.Proofs.YtocbfodaboimoaaW.PrintWords Go.Proofs.YtocbfodaboimoaaW.PrintLast Go.Proofs.YtocbfodaboimoaaW.PrintMore
set_option linter.unusedVariables false
set_option linter.unusedSimpArgs false
-- strings as lists of numbers
def Byt (l : List Int) : Prop := ∀ x ∈ l, 0 ≤ x ∧ x ≤ 255
theorem Byt.rd {l : List Int} (h : Byt l) (i : Int) : 0 ≤ PrintWords.rd l i ∧ PrintWords.rd l i ≤ 255 := by
  unfold PrintWords.rd
  rw [List.getD_eq_getElem?_getD]
  by_cases hi : i.toNat < l.length
  · rw [List.getElem?_eq_getElem hi]; exact h _ (List.getElem_mem hi)
  · rw [List.getElem?_eq_none (by omega)]; decide
theorem Byt.take {l : List Int} (h : Byt l) (n : Nat) : Byt (l.take n) := fun x hx => h x (List.mem_of_mem_take hx)
theorem Byt.drop {l : List Int} (h : Byt l) (n : Nat) : Byt (l.drop n) := fun x hx => h x (List.mem_of_mem_drop hx)
theorem w64 {x : Int} (h : -9223372036854775808 ≤ x ∧ x ≤ 9223372036854775807) : wrap64 x = x := by unfold wrap64; omega
theorem u64w (x : Int) : IntKind.u64.wrap x = x % 18446744073709551616 := by simp [IntKind.wrap, IntKind.bits, IntKind.signed]
theorem wu64 {x : Int} (h : 0 ≤ x ∧ x ≤ 18446744073709551615) : IntKind.u64.wrap x = x := by rw [u64w]; omega
theorem bts_byt (s : ByteArray) : Byt (bytesOf s) := by
  intro x hx
  simp only [bytesOf, List.mem_map] at hx
  obtain ⟨b, _, rfl⟩ := hx
  have := b.toNat_lt
  omega
theorem bts_len (s : ByteArray) : ((bytesOf s).length : Int) = (s.size : Int) := by rw [bytesOf_length]
theorem bt_rd (s : ByteArray) (i : Int) : bt s i = rd (bytesOf s) i := (rd_bytesOf s i).symm
theorem tl (s : ByteArray) : s.toList = s.data.toList := ByteArray.toList_eq s
theorem u8_map_inj : ∀ {a b : List UInt8}, a.map (fun x => (x.toNat : Int)) = b.map (fun x => (x.toNat : Int)) → a = b
  | [], [], _ => rfl
  | [], _ :: _, h => by simp at h
  | _ :: _, [], h => by simp at h
  | x :: a, y :: b, h => by
    simp only [List.map_cons, List.cons.injEq] at h
    rw [u8_map_inj h.2, UInt8.toNat_inj.1 (by omega : x.toNat = y.toNat)]
theorem tl_iff (s t : ByteArray) : s.toList = t.toList ↔ bytesOf s = bytesOf t := by
  rw [tl, tl]
  exact ⟨fun h => by unfold bytesOf; rw [h], fun h => u8_map_inj h⟩
theorem tl_nil (s : ByteArray) : s.toList = ([] : List UInt8) ↔ bytesOf s = [] := by
  rw [tl]
  unfold bytesOf
  rw [List.map_eq_nil_iff]
theorem bts_extract (s : ByteArray) (a b : Nat) : bytesOf (s.extract a b) = ((bytesOf s).take b).drop a := by
  unfold bytesOf
  rw [List.drop_take, ← List.map_drop, ← List.map_take]
  congr 1
  simp [List.drop_take]
theorem bts_extract_to (s : ByteArray) (a : Nat) : bytesOf (s.extract a s.size) = (bytesOf s).drop a := by
  rw [bts_extract, List.take_of_length_le (by rw [bytesOf_length]; omega)]
theorem bts_append (s t : ByteArray) : bytesOf (s ++ t) = bytesOf s ++ bytesOf t := by
  unfold bytesOf
  rw [← List.map_append]
  congr 1
theorem bts_size (s : ByteArray) : s.size = (bytesOf s).length := (bytesOf_length s).symm
theorem drop_rd {l : List Int} {i : Nat} (h : i < l.length) : l.drop i = rd l (i : Int) :: l.drop (i + 1) := by
  rw [List.drop_eq_getElem_cons h]
  unfold rd
  simp [List.getD_eq_getElem?_getD, List.getElem?_eq_getElem h]
theorem rd_cons_zero (a : Int) (l : List Int) : rd (a :: l) 0 = a := rfl
-- a string made of numbers
theorem bts_son {xs : List Int} (h : Byt xs) : bytesOf (strOfNums xs) = xs := by
  unfold bytesOf
  rw [strOfNums_data, List.map_map]
  conv => rhs; rw [← List.map_id xs]
  apply List.map_congr_left
  intro x hx
  have := h x hx
  simp only [Function.comp, id]
  have e : (UInt8.ofNat x.toNat).toNat = x.toNat := by
    rw [UInt8.toNat_ofNat']
    omega
  rw [e]; omega
theorem bts_tl_iff {s t : ByteArray} : s.toList = t.toList ↔ bytesOf s = bytesOf t := tl_iff s t
theorem ext_bts {s t : ByteArray} (h : bytesOf s = bytesOf t) : s = t := by
  have := (tl_iff s t).2 h
  rw [tl, tl] at this
  cases s with | mk a => cases t with | mk b => simp at this; rw [this]
-- dates: years, months, days
def lp (y : Int) : Bool := (y % 4 == 0 && !(y % 100 == 0)) || y % 400 == 0
theorem lp_iff {y : Int} : lp y = true ↔ (y % 4 = 0 ∧ y % 100 ≠ 0) ∨ y % 400 = 0 := by simp [lp]
def yl (y : Int) : Int := if lp y = true then 366 else 365
def ah (y : Int) : Int := (y - 1) * 365 + (y - 1) / 4 - (y - 1) / 100 + (y - 1) / 400
theorem leap_f {y : Int} (h : 0 ≤ y) : clock_leap.f y = some (lp y) := by
  unfold clock_leap.f
  rw [Int.tmod_eq_emod_of_nonneg h, Int.tmod_eq_emod_of_nonneg h, Int.tmod_eq_emod_of_nonneg h]
  by_cases a : y % 4 = 0 <;> by_cases b : y % 100 = 0 <;> by_cases c : y % 400 = 0 <;> simp [lp, a, b, c]
theorem yl_le (y : Int) : 365 ≤ yl y ∧ yl y ≤ 366 := by unfold yl; split <;> omega
theorem ah_succ (y : Int) : ah (y + 1) = ah y + yl y := by
  unfold ah yl
  split
  · rename_i h
    rw [lp_iff] at h
    omega
  · rename_i h
    rw [lp_iff] at h
    omega
theorem ah_mono {y z : Int} (h : y ≤ z) : ah y ≤ ah z := by unfold ah; omega
theorem ahead_f {y : Int} (h : 1 ≤ y ∧ y ≤ 20000) : clock_ahead.f y = some (ah y) := by
  unfold clock_ahead.f ah
  have e : wrap64 (y - 1) = y - 1 := w64 (by omega)
  have e4 : Int.tdiv (y - 1) 4 = (y - 1) / 4 := Int.tdiv_eq_ediv_of_nonneg (by omega)
  have e100 : Int.tdiv (y - 1) 100 = (y - 1) / 100 := Int.tdiv_eq_ediv_of_nonneg (by omega)
  have e400 : Int.tdiv (y - 1) 400 = (y - 1) / 400 := Int.tdiv_eq_ediv_of_nonneg (by omega)
  rw [e, e4, e100, e400]
  have f1 : wrap64 ((y - 1) * 365) = (y - 1) * 365 := w64 (by omega)
  have f2 : wrap64 ((y - 1) / 4) = (y - 1) / 4 := w64 (by omega)
  have f3 : wrap64 ((y - 1) / 100) = (y - 1) / 100 := w64 (by omega)
  have f4 : wrap64 ((y - 1) / 400) = (y - 1) / 400 := w64 (by omega)
  rw [f1, f2, f3, f4]
  rw [w64 (x := (y - 1) * 365 + (y - 1) / 4) (by omega), w64 (x := (y - 1) * 365 + (y - 1) / 4 - (y - 1) / 100) (by omega), w64 (by omega)]
theorem ah1970 : ah 1970 = 719162 := by decide
theorem ah10000 : ah 10000 = 3652059 := by decide
theorem ah1 : ah 1 = 0 := by decide
theorem ah20000 : ah 20000 = 7304484 := by decide
theorem ah_bd {y : Int} (h : 1 ≤ y ∧ y ≤ 20000) : 0 ≤ ah y ∧ ah y ≤ 7304484 := by
  have a := ah_mono h.1
  have b := ah_mono h.2
  rw [ah1] at a
  rw [ah20000] at b
  exact ⟨a, b⟩
def ml (y : Int) (m : Nat) : Int := if m = 2 then (if lp y = true then 29 else 28) else if m = 4 ∨ m = 6 ∨ m = 9 ∨ m = 11 then 30 else 31
theorem ml_bd (y : Int) (m : Nat) : 28 ≤ ml y m ∧ ml y m ≤ 31 := by
  unfold ml
  split
  · split <;> omega
  · split <;> omega
def mon (y : Int) : Nat → Int
  | 0 => 0
  | m + 1 => mon y m + (if m = 0 then 0 else ml y m)
theorem mon_succ (y : Int) {m : Nat} (h : 1 ≤ m) : mon y (m + 1) = mon y m + ml y m := by
  show mon y m + (if m = 0 then 0 else ml y m) = _
  rw [if_neg (by omega)]
theorem mon_one (y : Int) : mon y 1 = 0 := rfl
theorem mon13 (y : Int) : mon y 13 = yl y := by
  cases h : lp y <;> simp [mon, ml, yl, h]
theorem mon_mono (y : Int) {m n : Nat} (h1 : 1 ≤ m) (h : m ≤ n) : mon y m ≤ mon y n := by
  induction n with
  | zero => omega
  | succ n ih =>
    by_cases c : m = n + 1
    · rw [c]; omega
    · have := ih (by omega)
      have := ml_bd y n
      rw [mon_succ y (by omega)]; omega
theorem mon_bd (y : Int) {m : Nat} (h : 1 ≤ m ∧ m ≤ 13) : 0 ≤ mon y m ∧ mon y m ≤ 366 := by
  have a := mon_mono y (Nat.le_refl 1) h.1
  have b := mon_mono y h.1 h.2
  rw [mon13] at b
  have := yl_le y
  rw [mon_one] at a
  omega
theorem length_f {y : Int} (h : 0 ≤ y) {m : Nat} (hm : 1 ≤ m ∧ m ≤ 12) {k : Nat} (hk : 3 ≤ k) : clock_length.f k y (m : Int) = some (ml y m) := by
  obtain ⟨k, rfl⟩ : ∃ j, k = j + 3 := ⟨k - 3, by omega⟩
  have hl := leap_f h
  have : m = 1 ∨ m = 2 ∨ m = 3 ∨ m = 4 ∨ m = 5 ∨ m = 6 ∨ m = 7 ∨ m = 8 ∨ m = 9 ∨ m = 10 ∨ m = 11 ∨ m = 12 := by omega
  rcases this with rfl | rfl | rfl | rfl | rfl | rfl | rfl | rfl | rfl | rfl | rfl | rfl <;> simp [clock_length.f, clock_length.j0, clock_length.j1, ml, hl, wrap64]
  split <;> rfl
def okD (y m d : Int) : Prop := 1970 ≤ y ∧ y ≤ 9999 ∧ 1 ≤ m ∧ m ≤ 12 ∧ 1 ≤ d ∧ d ≤ ml y m.toNat
instance (y m d : Int) : Decidable (okD y m d) := by unfold okD; infer_instance
def dayN (y m d : Int) : Int := ah y - ah 1970 + mon y m.toNat + (d - 1)
theorem Days_l0 {y : Int} (hy : 1 ≤ y ∧ y ≤ 20000) (M : Nat) (hM : M ≤ 12) (d : Int) (hd : 1 ≤ d ∧ d ≤ 31) : ∀ (f m : Nat) (n : Int) (k : Nat), M - m ≤ f → 1 ≤ m → m ≤ M → -8000000 ≤ n - mon y m → n - mon y m ≤ 8000000 → f + 4 ≤ k →
    clock_Days.l0 k y (M : Int) d n (m : Int) = some (n + (mon y M - mon y m) + (d - 1), true) := by
  intro f
  induction f with
  | zero =>
    intro m n k hf hm hM' h1 h2 hk
    obtain ⟨k, rfl⟩ : ∃ j, k = j + 1 := ⟨k - 1, by omega⟩
    obtain rfl : m = M := by omega
    have := mon_bd y (m := m) (by omega)
    simp only [clock_Days.l0]
    rw [if_neg (by omega), w64 (x := d - 1) (by omega), w64 (by omega)]
    congr 2; omega
  | succ f ih =>
    intro m n k hf hm hM' h1 h2 hk
    obtain ⟨k, rfl⟩ : ∃ j, k = j + 1 := ⟨k - 1, by omega⟩
    have b1 := mon_bd y (m := m) (by omega)
    have b2 := ml_bd y m
    by_cases c : m = M
    · obtain rfl := c
      simp only [clock_Days.l0]
      rw [if_neg (by omega), w64 (x := d - 1) (by omega), w64 (by omega)]
      congr 2; omega
    · simp only [clock_Days.l0]
      have s := mon_succ y hm
      rw [if_pos (by omega), length_f (by omega) (by omega) (by omega)]
      simp only [Option.bind_some]
      rw [w64 (x := n + ml y m) (by omega), w64 (x := (m : Int) + 1) (by omega), show (m : Int) + 1 = ((m + 1 : Nat) : Int) by omega, ih (m + 1) _ k (by omega) (by omega) (by omega) (by omega) (by omega) (by omega)]
      congr 2; omega
theorem Days_f (y m d : Int) {k : Nat} (hk : 20 ≤ k) : clock_Days.f k y m d = some (if okD y m d then (dayN y m d, true) else (0, false)) := by
  obtain ⟨k, rfl⟩ : ∃ j, k = j + 1 := ⟨k - 1, by omega⟩
  unfold clock_Days.f
  have bad : ∀ x0 x1 x2, clock_Days.j0 (k + 1) x0 x1 x2 true = some (0, false) := fun _ _ _ => by simp [clock_Days.j0]
  by_cases c1 : y < 1970
  · rw [if_pos c1, bad, if_neg (by unfold okD; omega)]
  by_cases c2 : y > 9999
  · rw [if_neg c1, if_pos c2, bad, if_neg (by unfold okD; omega)]
  by_cases c3 : m < 1
  · rw [if_neg c1, if_neg c2, if_pos c3, bad, if_neg (by unfold okD; omega)]
  by_cases c4 : m > 12
  · rw [if_neg c1, if_neg c2, if_neg c3, if_pos c4, bad, if_neg (by unfold okD; omega)]
  by_cases c5 : d < 1
  · rw [if_neg c1, if_neg c2, if_neg c3, if_neg c4, if_pos c5, bad, if_neg (by unfold okD; omega)]
  rw [if_neg c1, if_neg c2, if_neg c3, if_neg c4, if_neg c5]
  obtain ⟨M, rfl⟩ : ∃ M : Nat, m = (M : Int) := ⟨m.toNat, by omega⟩
  rw [length_f (by omega) (by omega) (by omega)]
  simp only [Option.bind_some]
  by_cases c6 : d > ml y M
  · rw [decide_eq_true c6, bad, if_neg (by unfold okD; rw [Int.toNat_natCast]; omega)]
  · have := ml_bd y M
    have a1 := ah_bd (y := y) (by omega)
    have a3 := ah1970
    rw [decide_eq_false c6, if_pos (by unfold okD; rw [Int.toNat_natCast]; omega)]
    simp only [clock_Days.j0]
    rw [if_neg (by simp), ahead_f (by omega), ahead_f (by omega)]
    simp only [Option.bind_some]
    have m1 := mon_one y
    rw [w64 (by omega), show (1 : Int) = ((1 : Nat) : Int) from rfl, Days_l0 (by omega) M (by omega) d (by omega) 12 1 _ k (by omega) (by omega) (by omega) (by omega) (by omega) (by omega)]
    unfold dayN
    rw [Int.toNat_natCast]
    congr 2; omega
theorem date_lt {y m d y' m' d' : Int} (h : okD y m d) (h' : okD y' m' d') (hl : y < y' ∨ (y = y' ∧ (m < m' ∨ (m = m' ∧ d < d')))) : dayN y m d < dayN y' m' d' := by
  unfold okD at h h'
  unfold dayN
  have b1 := mon_bd y' (m := m'.toNat) (by omega)
  have s := mon_succ y (m := m.toNat) (by omega)
  have t := mon_mono y (m := m.toNat + 1) (n := 13) (by omega) (by omega)
  rw [mon13] at t
  rcases hl with hl | ⟨rfl, hl | ⟨rfl, hl⟩⟩
  · have := ah_mono (y := y + 1) (z := y') (by omega)
    rw [ah_succ] at this
    omega
  · have := mon_mono y (m := m.toNat + 1) (n := m'.toNat) (by omega) (by omega)
    omega
  · omega
theorem date_inj {y m d y' m' d' : Int} (h : okD y m d) (h' : okD y' m' d') (he : dayN y m d = dayN y' m' d') : y = y' ∧ m = m' ∧ d = d' := by
  by_cases c : y < y' ∨ (y = y' ∧ (m < m' ∨ (m = m' ∧ d < d')))
  · have := date_lt h h' c; omega
  · by_cases c' : y' < y ∨ (y' = y ∧ (m' < m ∨ (m' = m ∧ d' < d)))
    · have := date_lt h' h c'; omega
    · omega
theorem Date_l2 {y : Int} (hy : 0 ≤ y) : ∀ (f m : Nat) (left : Int) (k : Nat), 13 - m ≤ f → 1 ≤ m → m ≤ 12 → 0 ≤ left → mon y m + left < yl y → f + 4 ≤ k →
    ∃ (m' : Nat) (l' : Int), 1 ≤ m' ∧ m' ≤ 12 ∧ 0 ≤ l' ∧ l' < ml y m' ∧ mon y m' + l' = mon y m + left ∧ clock_Date.l2 k y left (m : Int) = some (y, (m' : Int), l' + 1, true) := by
  intro f
  induction f with
  | zero => intro m left k hf h1 h2; omega
  | succ f ih =>
    intro m left k hf h1 h2 h3 h4 hk
    obtain ⟨k, rfl⟩ : ∃ j, k = j + 1 := ⟨k - 1, by omega⟩
    have b := mon_bd y (m := m) (by omega)
    have b2 := ml_bd y m
    have b3 := yl_le y
    have s := mon_succ y h1
    simp only [clock_Date.l2]
    rw [length_f hy (by omega) (by omega)]
    simp only [Option.bind_some]
    by_cases c : left ≥ ml y m
    · rw [if_pos c, w64 (x := left - ml y m) (by omega), w64 (x := (m : Int) + 1) (by omega), show (m : Int) + 1 = ((m + 1 : Nat) : Int) by omega]
      have : m + 1 ≤ 12 := by
        by_cases e : m = 12
        · subst e
          rw [show 12 + 1 = 13 from rfl, mon13] at s
          omega
        · omega
      obtain ⟨m', l', q1, q2, q3, q4, q5, q6⟩ := ih (m + 1) (left - ml y m) k (by omega) (by omega) this (by omega) (by omega) (by omega)
      exact ⟨m', l', q1, q2, q3, q4, by omega, q6⟩
    · rw [if_neg c, w64 (by omega)]
      exact ⟨m, left, h1, h2, h3, by omega, rfl, rfl⟩
theorem Date_l1 {all : Int} (h0 : ah 1970 ≤ all) (h9 : all < ah 10000) : ∀ (f : Nat) (y : Int) (k : Nat), 10000 - y ≤ f → 1 ≤ y → ah y ≤ all → f + 30 ≤ k →
    ∃ y' m' d', okD y' m' d' ∧ dayN y' m' d' = all - ah 1970 ∧ clock_Date.l1 k all y = some (y', m', d', true) := by
  intro f
  induction f with
  | zero =>
    intro y k hf h1 h2
    have := ah_mono (y := 10000) (z := y) (by omega)
    omega
  | succ f ih =>
    intro y k hf h1 h2 hk
    obtain ⟨k, rfl⟩ : ∃ j, k = j + 1 := ⟨k - 1, by omega⟩
    have hy : y < 10000 := by
      by_cases c : y < 10000
      · exact c
      · have := ah_mono (y := 10000) (z := y) (by omega); omega
    have b := ah_bd (y := y) (by omega)
    simp only [clock_Date.l1]
    rw [w64 (x := y + 1) (by omega), ahead_f (y := y + 1) (by omega)]
    simp only [Option.bind_some]
    by_cases c : ah (y + 1) ≤ all
    · rw [if_pos c]
      exact ih (y + 1) k (by omega) (by omega) c (by omega)
    · rw [if_neg c, ahead_f (y := y) (by omega)]
      simp only [Option.bind_some]
      have c' : 1970 ≤ y := by
        by_cases e : 1970 ≤ y
        · exact e
        · have := ah_mono (y := y + 1) (z := 1970) (by omega); omega
      have s := ah_succ y
      have m1 := mon_one y
      have a10 := ah10000
      rw [w64 (by omega)]
      obtain ⟨m', l', q1, q2, q3, q4, q5, q6⟩ := Date_l2 (y := y) (by omega) 13 1 (all - ah y) k (by omega) (by omega) (by omega) (by omega) (by omega) (by omega)
      refine ⟨y, m', l' + 1, ⟨c', by omega, by omega, by omega, by omega, by rw [Int.toNat_natCast]; omega⟩, ?_, q6⟩
      unfold dayN
      rw [Int.toNat_natCast]
      omega
theorem Date_l0 {all : Int} (h0 : ah 1970 ≤ all) (h9 : all < ah 10000) : ∀ (f : Nat) (y : Int) (k : Nat), y ≤ f → 1 ≤ y → y ≤ 20000 → f + 10050 ≤ k →
    ∃ y' m' d', okD y' m' d' ∧ dayN y' m' d' = all - ah 1970 ∧ clock_Date.l0 k all y = some (y', m', d', true) := by
  intro f
  induction f with
  | zero => intro y k hf h1; omega
  | succ f ih =>
    intro y k hf h1 h2 hk
    obtain ⟨k, rfl⟩ : ∃ j, k = j + 1 := ⟨k - 1, by omega⟩
    simp only [clock_Date.l0]
    rw [ahead_f (y := y) (by omega)]
    simp only [Option.bind_some]
    by_cases c : ah y > all
    · rw [if_pos c, w64 (by omega)]
      have : y ≠ 1 := by
        rintro rfl
        rw [ah1] at c
        rw [ah1970] at h0
        omega
      exact ih (y - 1) k (by omega) (by omega) (by omega) (by omega)
    · rw [if_neg c]
      exact Date_l1 h0 h9 10000 y k (by omega) h1 (by omega) (by omega)
theorem Date_f {n : Int} (h : 0 ≤ n ∧ n < 2932897) {k : Nat} (hk : 40000 ≤ k) : ∃ y m d, okD y m d ∧ dayN y m d = n ∧ clock_Date.f k n = some (y, m, d, true) := by
  obtain ⟨k, rfl⟩ : ∃ j, k = j + 1 := ⟨k - 1, by omega⟩
  unfold clock_Date.f
  have a10 := ah10000
  have a19 := ah1970
  rw [if_neg (by omega), ahead_f (by omega), ahead_f (by omega)]
  simp only [Option.bind_some]
  rw [w64 (by omega), decide_eq_false (by omega)]
  simp only [clock_Date.j0]
  rw [if_neg (by simp), ahead_f (by omega)]
  simp only [Option.bind_some]
  rw [w64 (x := n + ah 1970) (by omega), w64 (x := (n + ah 1970) * 400) (by omega), Int.tdiv_eq_ediv_of_nonneg (by omega), w64 (x := (n + ah 1970) * 400 / 146097) (by omega), w64 (by omega)]
  obtain ⟨y, m, d, q1, q2, q3⟩ := Date_l0 (all := n + ah 1970) (by omega) (by omega) 20000 ((n + ah 1970) * 400 / 146097 + 1) k (by omega) (by omega) (by omega) (by omega)
  exact ⟨y, m, d, q1, by omega, q3⟩
theorem Date_bad {n : Int} (hn : -9223372036854775808 ≤ n ∧ n ≤ 9223372036854775807) (h : ¬ (0 ≤ n ∧ n < 2932897)) {k : Nat} (hk : 10 ≤ k) : clock_Date.f k n = some (0, 0, 0, false) := by
  obtain ⟨k, rfl⟩ : ∃ j, k = j + 1 := ⟨k - 1, by omega⟩
  have bad : ∀ x0, clock_Date.j0 (k + 1) x0 true = some (0, 0, 0, false) := fun _ => by simp [clock_Date.j0]
  unfold clock_Date.f
  have a10 := ah10000
  have a19 := ah1970
  by_cases c : n < 0
  · rw [if_pos c, bad]
  · rw [if_neg c, ahead_f (by omega), ahead_f (by omega)]
    simp only [Option.bind_some]
    rw [w64 (by omega), decide_eq_true (by omega), bad]
-- a time's text, read
def isD (c : Int) : Bool := decide (48 ≤ c ∧ c ≤ 57)
def dv (v : Int) : List Int → Int
  | [] => v
  | c :: l => dv (10 * v + (c - 48)) l
theorem isD_iff {c : Int} : isD c = true ↔ 48 ≤ c ∧ c ≤ 57 := by simp [isD]
theorem Digit_eq (c : Int) : chars_Digit.f c = some (isD c) := by
  unfold chars_Digit.f isD
  by_cases h : c ≥ 48
  · rw [if_pos h]; congr 1; exact decide_eq_decide.2 (by omega)
  · rw [if_neg h]; congr 1; symm; exact decide_eq_false (by omega)
def patB : ByteArray := ⟨#[48, 48, 48, 48, 45, 48, 48, 45, 48, 48, 84, 48, 48, 58, 48, 48, 58, 48, 48, 90]⟩
def patL : List Int := [48, 48, 48, 48, 45, 48, 48, 45, 48, 48, 84, 48, 48, 58, 48, 48, 58, 48, 48, 90]
theorem patB_eq : bytesOf patB = patL := by decide +kernel
def sgn (a x : Int) : Bool := if a = 48 then isD x else x == a
def likeL : List Int → List Int → Bool
  | [], [] => true
  | a :: p, x :: l => sgn a x && likeL p l
  | [], _ :: _ => false
  | _ :: _, [] => false
theorem like_l0 (s : ByteArray) (hs : s.size = 20) : ∀ (f i k : Nat), i + f = 20 → f + 1 ≤ k → clock_like.l0 k s 20 (i : Int) = some (likeL (patL.drop i) ((bytesOf s).drop i)) := by
  have hl : (bytesOf s).length = 20 := by rw [bytesOf_length]; exact hs
  have hp : patL.length = 20 := rfl
  intro f
  induction f with
  | zero =>
    intro i k hf hk
    obtain ⟨k, rfl⟩ : ∃ j, k = j + 1 := ⟨k - 1, by omega⟩
    simp only [clock_like.l0]
    rw [if_neg (by omega), List.drop_of_length_le (by omega), List.drop_of_length_le (by omega)]
    rfl
  | succ f ih =>
    intro i k hf hk
    obtain ⟨k, rfl⟩ : ∃ j, k = j + 1 := ⟨k - 1, by omega⟩
    have ht := ih (i + 1) k (by omega) (by omega)
    rw [drop_rd (l := patL) (by omega), drop_rd (l := bytesOf s) (by omega)]
    simp only [clock_like.l0]
    have e : bt (⟨#[48, 48, 48, 48, 45, 48, 48, 45, 48, 48, 84, 48, 48, 58, 48, 48, 58, 48, 48, 90]⟩ : ByteArray) (i : Int) = rd patL (i : Int) := by
      rw [← patB_eq, ← bt_rd]; rfl
    rw [if_pos (by omega), if_pos (by omega), if_pos (by omega), e, bt_rd, w64 (by omega), show (i : Int) + 1 = ((i + 1 : Nat) : Int) by omega, ht, Digit_eq]
    simp only [Option.bind_some, likeL, sgn]
    by_cases c : rd patL (i : Int) = 48
    · simp only [if_pos c]
      rw [if_pos (by omega)]
      cases isD (rd (bytesOf s) (i : Int)) <;> simp
    · simp only [if_neg c]
      rw [if_pos (by omega)]
      by_cases d : rd (bytesOf s) (i : Int) = rd patL (i : Int)
      · simp [d]
      · simp [d]
theorem likeL_len : ∀ p l, likeL p l = true → l.length = p.length
  | [], [], _ => rfl
  | a :: p, x :: l, h => by
    simp only [likeL, Bool.and_eq_true] at h
    simp [likeL_len p l h.2]
  | [], _ :: _, h => by simp [likeL] at h
  | _ :: _, [], h => by simp [likeL] at h
theorem like_f (s : ByteArray) {k : Nat} (hk : 30 ≤ k) : clock_like.f k s = some (likeL patL (bytesOf s)) := by
  unfold clock_like.f
  by_cases c : (s.size : Int) = 20
  · rw [if_pos c, c]
    exact like_l0 s (by omega) 20 0 k rfl (by omega)
  · rw [if_neg c]
    cases h : likeL patL (bytesOf s) with
    | false => rfl
    | true =>
      have := likeL_len _ _ h
      rw [bytesOf_length] at this
      exact absurd (show (s.size : Int) = 20 by rw [this]; rfl) c
theorem number_step (s : ByteArray) (k : Nat) (v n i : Int) (h0 : 0 ≤ i) (h1 : i < n) (h2 : n ≤ (s.size : Int)) (h3 : n ≤ 100) (hv : 0 ≤ v ∧ v ≤ 100000000) (hd : isD (rd (bytesOf s) i) = true) :
    clock_number.l0 (k + 1) s v n i = clock_number.l0 k s (10 * v + (rd (bytesOf s) i - 48)) n (i + 1) := by
  have d := isD_iff.1 hd
  simp only [clock_number.l0]
  rw [if_pos h1, if_pos h0, if_pos (by omega), bt_rd, w64 (x := v * 10) (by omega), Int.emod_eq_of_lt (by omega) (by omega), w64 (by omega), w64 (by omega), Int.mul_comm v 10]
theorem number2 (s : ByteArray) {a b : Int} (h : bytesOf s = [a, b]) (ha : isD a = true) (hb : isD b = true) {k : Nat} (hk : 10 ≤ k) : clock_number.f k s = some (dv 0 [a, b]) := by
  obtain ⟨k, rfl⟩ : ∃ j, k = j + 3 := ⟨k - 3, by omega⟩
  have hs : s.size = 2 := by rw [bts_size, h]; rfl
  have d1 := isD_iff.1 ha
  have d2 := isD_iff.1 hb
  unfold clock_number.f
  rw [hs]
  rw [number_step s _ 0 _ 0 (by omega) (by omega) (by omega) (by omega) (by omega) (by rw [h]; exact ha), number_step s _ _ _ _ (by omega) (by omega) (by omega) (by omega) (by rw [h]; show 0 ≤ 10 * 0 + (a - 48) ∧ 10 * 0 + (a - 48) ≤ 100000000; omega) (by rw [h]; exact hb)]
  simp only [clock_number.l0]
  rw [if_neg (by omega), h]
  rfl
theorem number4 (s : ByteArray) {a b c d : Int} (h : bytesOf s = [a, b, c, d]) (ha : isD a = true) (hb : isD b = true) (hc : isD c = true) (hd : isD d = true) {k : Nat} (hk : 10 ≤ k) : clock_number.f k s = some (dv 0 [a, b, c, d]) := by
  obtain ⟨k, rfl⟩ : ∃ j, k = j + 5 := ⟨k - 5, by omega⟩
  have hs : s.size = 4 := by rw [bts_size, h]; rfl
  have d1 := isD_iff.1 ha
  have d2 := isD_iff.1 hb
  have d3 := isD_iff.1 hc
  have d4 := isD_iff.1 hd
  have e0 : rd (bytesOf s) 0 = a := by rw [h]; rfl
  have e1 : rd (bytesOf s) (0 + 1) = b := by rw [h]; rfl
  have e2 : rd (bytesOf s) (0 + 1 + 1) = c := by rw [h]; rfl
  have e3 : rd (bytesOf s) (0 + 1 + 1 + 1) = d := by rw [h]; rfl
  unfold clock_number.f
  rw [hs]
  rw [number_step s _ 0 _ 0 (by omega) (by omega) (by omega) (by omega) (by omega) (by rw [e0]; exact ha), e0,
    number_step s _ _ _ _ (by omega) (by omega) (by omega) (by omega) (by omega) (by rw [e1]; exact hb), e1,
    number_step s _ _ _ _ (by omega) (by omega) (by omega) (by omega) (by omega) (by rw [e2]; exact hc), e2,
    number_step s _ _ _ _ (by omega) (by omega) (by omega) (by omega) (by omega) (by rw [e3]; exact hd), e3]
  simp only [clock_number.l0]
  rw [if_neg (by omega)]
  rfl
theorem likeL_cons {a : Int} {p l : List Int} (h : likeL (a :: p) l = true) : ∃ x l', l = x :: l' ∧ sgn a x = true ∧ likeL p l' = true := by
  cases l with
  | nil => simp [likeL] at h
  | cons x l' =>
    simp only [likeL, Bool.and_eq_true] at h
    exact ⟨x, l', rfl, h⟩
theorem likeL_nil {l : List Int} (h : likeL [] l = true) : l = [] := by
  cases l with
  | nil => rfl
  | cons x l' => simp [likeL] at h
theorem like_split {l : List Int} (h : likeL patL l = true) : ∃ y1 y2 y3 y4 m1 m2 d1 d2 h1 h2 i1 i2 s1 s2 : Int, l = [y1, y2, y3, y4, 45, m1, m2, 45, d1, d2, 84, h1, h2, 58, i1, i2, 58, s1, s2, 90] ∧
    (isD y1 = true ∧ isD y2 = true ∧ isD y3 = true ∧ isD y4 = true) ∧ (isD m1 = true ∧ isD m2 = true) ∧ (isD d1 = true ∧ isD d2 = true) ∧ (isD h1 = true ∧ isD h2 = true) ∧ (isD i1 = true ∧ isD i2 = true) ∧ (isD s1 = true ∧ isD s2 = true) := by
  unfold patL at h
  obtain ⟨y1, l1, rfl, g1, h⟩ := likeL_cons h
  obtain ⟨y2, l2, rfl, g2, h⟩ := likeL_cons h
  obtain ⟨y3, l3, rfl, g3, h⟩ := likeL_cons h
  obtain ⟨y4, l4, rfl, g4, h⟩ := likeL_cons h
  obtain ⟨c1, l5, rfl, q1, h⟩ := likeL_cons h
  obtain ⟨m1, l6, rfl, g5, h⟩ := likeL_cons h
  obtain ⟨m2, l7, rfl, g6, h⟩ := likeL_cons h
  obtain ⟨c2, l8, rfl, q2, h⟩ := likeL_cons h
  obtain ⟨d1, l9, rfl, g7, h⟩ := likeL_cons h
  obtain ⟨d2, l10, rfl, g8, h⟩ := likeL_cons h
  obtain ⟨c3, l11, rfl, q3, h⟩ := likeL_cons h
  obtain ⟨h1, l12, rfl, g9, h⟩ := likeL_cons h
  obtain ⟨h2, l13, rfl, g10, h⟩ := likeL_cons h
  obtain ⟨c4, l14, rfl, q4, h⟩ := likeL_cons h
  obtain ⟨i1, l15, rfl, g11, h⟩ := likeL_cons h
  obtain ⟨i2, l16, rfl, g12, h⟩ := likeL_cons h
  obtain ⟨c5, l17, rfl, q5, h⟩ := likeL_cons h
  obtain ⟨s1, l18, rfl, g13, h⟩ := likeL_cons h
  obtain ⟨s2, l19, rfl, g14, h⟩ := likeL_cons h
  obtain ⟨c6, l20, rfl, q6, h⟩ := likeL_cons h
  obtain rfl := likeL_nil h
  simp only [sgn, if_pos] at g1 g2 g3 g4 g5 g6 g7 g8 g9 g10 g11 g12 g13 g14
  simp [sgn] at q1 q2 q3 q4 q5 q6
  subst q1 q2 q3 q4 q5 q6
  exact ⟨y1, y2, y3, y4, m1, m2, d1, d2, h1, h2, i1, i2, s1, s2, rfl, ⟨g1, g2, g3, g4⟩, ⟨g5, g6⟩, ⟨g7, g8⟩, ⟨g9, g10⟩, ⟨g11, g12⟩, g13, g14⟩
def parseP (y m d h i s : Int) : Int × Int :=
  if okD y m d ∧ h ≤ 23 ∧ i ≤ 59 ∧ s ≤ 59 then (if dayN y m d * 86400 + h * 3600 + i * 60 + s > 137438953472 then (0, 5) else (dayN y m d * 86400 + h * 3600 + i * 60 + s, 0)) else (0, 3)
theorem dv2 (a b : Int) : dv 0 [a, b] = 10 * (a - 48) + (b - 48) := by show 10 * (10 * 0 + (a - 48)) + (b - 48) = _; omega
theorem dv4 (a b c d : Int) : dv 0 [a, b, c, d] = 1000 * (a - 48) + 100 * (b - 48) + 10 * (c - 48) + (d - 48) := by show 10 * (10 * (10 * (10 * 0 + (a - 48)) + (b - 48)) + (c - 48)) + (d - 48) = _; omega
theorem dv2_bd {a b : Int} (ha : isD a = true) (hb : isD b = true) : 0 ≤ dv 0 [a, b] ∧ dv 0 [a, b] ≤ 99 := by
  have := isD_iff.1 ha
  have := isD_iff.1 hb
  rw [dv2]; omega
theorem dayN_bd {y m d : Int} (h : okD y m d) : 0 ≤ dayN y m d ∧ dayN y m d < 2932897 := by
  unfold okD at h
  unfold dayN
  have b1 := mon_bd y (m := m.toNat) (by omega)
  have a1 := ah_mono (y := 1970) (z := y) (by omega)
  have a2 := ah_mono (y := y + 1) (z := 10000) (by omega)
  have s := mon_succ y (m := m.toNat) (by omega)
  have t := mon_mono y (m := m.toNat + 1) (n := 13) (by omega) (by omega)
  rw [mon13] at t
  rw [ah_succ, ah10000] at a2
  have a3 := ah1970
  omega
theorem Parse_no (s : ByteArray) (h : likeL patL (bytesOf s) = false) {k : Nat} (hk : 30 ≤ k) : clock_Parse.f k s = some (0, 3) := by
  unfold clock_Parse.f
  rw [like_f s hk, h]
  simp
theorem Parse_j0 {k : Nat} (n h i s : Int) (b : Bool) (hh : 0 ≤ h ∧ h ≤ 99) (hi : 0 ≤ i ∧ i ≤ 99) (hs : 0 ≤ s ∧ s ≤ 99) (hn : 0 ≤ n ∧ n < 2932897) :
    clock_Parse.j0 (k + 1) n h i s b = some (if b = true then (0, 3) else if n * 86400 + h * 3600 + i * 60 + s > 137438953472 then (0, 5) else (n * 86400 + h * 3600 + i * 60 + s, 0)) := by
  simp only [clock_Parse.j0]
  rw [w64 (x := n * 86400) (by omega), w64 (x := h * 3600) (by omega), w64 (x := i * 60) (by omega), w64 (x := h * 3600 + i * 60) (by omega), w64 (x := h * 3600 + i * 60 + s) (by omega), w64 (by omega), show n * 86400 + (h * 3600 + i * 60 + s) = n * 86400 + h * 3600 + i * 60 + s by omega]
  cases b with
  | true => rfl
  | false => simp only [Bool.false_eq_true, if_false]; split <;> rfl
theorem Parse_yes (s : ByteArray) {y1 y2 y3 y4 m1 m2 d1 d2 h1 h2 i1 i2 s1 s2 : Int} (h : bytesOf s = [y1, y2, y3, y4, 45, m1, m2, 45, d1, d2, 84, h1, h2, 58, i1, i2, 58, s1, s2, 90])
    (hy : isD y1 = true ∧ isD y2 = true ∧ isD y3 = true ∧ isD y4 = true) (hm : isD m1 = true ∧ isD m2 = true) (hd : isD d1 = true ∧ isD d2 = true) (hh : isD h1 = true ∧ isD h2 = true) (hi : isD i1 = true ∧ isD i2 = true) (hs : isD s1 = true ∧ isD s2 = true)
    {k : Nat} (hk : 30 ≤ k) : clock_Parse.f k s = some (parseP (dv 0 [y1, y2, y3, y4]) (dv 0 [m1, m2]) (dv 0 [d1, d2]) (dv 0 [h1, h2]) (dv 0 [i1, i2]) (dv 0 [s1, s2])) := by
  have hz : s.size = 20 := by rw [bts_size, h]; rfl
  have lk : likeL patL (bytesOf s) = true := by
    rw [h]
    simp [likeL, patL, sgn, hy, hm, hd, hh, hi, hs]
  obtain ⟨k, rfl⟩ : ∃ j, k = j + 1 := ⟨k - 1, by omega⟩
  unfold clock_Parse.f
  rw [like_f s hk, lk]
  simp only [Option.bind_some]
  rw [if_pos trivial, if_pos (by omega), if_pos (by omega), number4 (s.extract 0 4) (by rw [bts_extract, h]; rfl) hy.1 hy.2.1 hy.2.2.1 hy.2.2.2 (by omega)]
  simp only [Option.bind_some]
  rw [if_pos (by omega), if_pos (by omega), number2 (s.extract 5 7) (by rw [bts_extract, h]; rfl) hm.1 hm.2 (by omega)]
  simp only [Option.bind_some]
  rw [if_pos (by omega), if_pos (by omega), number2 (s.extract 8 10) (by rw [bts_extract, h]; rfl) hd.1 hd.2 (by omega)]
  simp only [Option.bind_some]
  rw [Days_f _ _ _ (by omega)]
  simp only [Option.bind_some]
  rw [if_pos (by omega), if_pos (by omega), number2 (s.extract 11 13) (by rw [bts_extract, h]; rfl) hh.1 hh.2 (by omega)]
  simp only [Option.bind_some]
  rw [if_pos (by omega), if_pos (by omega), number2 (s.extract 14 16) (by rw [bts_extract, h]; rfl) hi.1 hi.2 (by omega)]
  simp only [Option.bind_some]
  rw [if_pos (by omega), if_pos (by omega), number2 (s.extract 17 19) (by rw [bts_extract, h]; rfl) hs.1 hs.2 (by omega)]
  simp only [Option.bind_some]
  have bh := dv2_bd hh.1 hh.2
  have bi := dv2_bd hi.1 hi.2
  have bs := dv2_bd hs.1 hs.2
  generalize dv 0 [y1, y2, y3, y4] = Y
  generalize dv 0 [m1, m2] = M
  generalize dv 0 [d1, d2] = D
  generalize dv 0 [h1, h2] = H at *
  generalize dv 0 [i1, i2] = I at *
  generalize dv 0 [s1, s2] = S at *
  unfold parseP
  by_cases c : okD Y M D
  · have bn := dayN_bd c
    simp only [if_pos c]
    rw [if_pos trivial]
    by_cases c1 : H > 23
    · rw [if_pos c1, Parse_j0 _ _ _ _ _ bh bi bs bn, if_pos rfl, if_neg (by omega)]
    by_cases c2 : I > 59
    · rw [if_neg c1, if_pos c2, Parse_j0 _ _ _ _ _ bh bi bs bn, if_pos rfl, if_neg (by omega)]
    by_cases c3 : S > 59
    · rw [if_neg c1, if_neg c2, decide_eq_true c3, Parse_j0 _ _ _ _ _ bh bi bs bn, if_pos rfl, if_neg (by omega)]
    · rw [if_neg c1, if_neg c2, decide_eq_false c3, Parse_j0 _ _ _ _ _ bh bi bs bn, if_neg (by simp), if_pos (show okD Y M D ∧ H ≤ 23 ∧ I ≤ 59 ∧ S ≤ 59 from ⟨c, by omega, by omega, by omega⟩)]
  · simp only [if_neg c]
    rw [if_neg (by simp), Parse_j0 _ _ _ _ _ bh bi bs (by omega), if_pos rfl, if_neg (fun h => c h.1)]
-- a time's text, made
def p4 (v : Int) : List Int := [48 + v / 10 / 10 / 10 % 10, 48 + v / 10 / 10 % 10, 48 + v / 10 % 10, 48 + v % 10]
def p2 (v : Int) : List Int := [48 + v / 10 % 10, 48 + v % 10]
def txtL (y m d t : Int) : List Int := p4 y ++ 45 :: (p2 m ++ 45 :: (p2 d ++ 84 :: (p2 (t % 86400 / 3600) ++ 58 :: (p2 (t % 3600 / 60) ++ 58 :: (p2 (t % 60) ++ [90])))))
theorem txt_eq (y m d t : Int) : clock_Print.txt y m d t = txtL y m d t := rfl
theorem txtL_byt (y m d t : Int) : Byt (txtL y m d t) := by
  intro x hx
  simp only [txtL, p4, p2, List.cons_append, List.nil_append, List.mem_cons, List.not_mem_nil, or_false] at hx
  omega
theorem Print_f {t : Int} (h : 0 ≤ t ∧ t ≤ 137438953472) {k : Nat} (hk : 40000 ≤ k) : ∃ y m d, okD y m d ∧ dayN y m d = t / 86400 ∧ clock_Print.f k t = some (strOfNums (txtL y m d t), 0) := by
  obtain ⟨y, m, d, q1, q2, q3⟩ := Date_f (n := t / 86400) (by omega) hk
  refine ⟨y, m, d, q1, q2, ?_⟩
  unfold clock_Print.f
  rw [if_neg (by omega), if_neg (by omega), q3]
  simp only [Option.bind_some]
  have := ml_bd y m.toNat
  unfold okD at q1
  rw [if_pos (by omega), txt_eq]
theorem dig1 {v : Int} : isD (48 + v % 10) = true := isD_iff.2 (by omega)
theorem dvp2 {v : Int} (h : 0 ≤ v ∧ v ≤ 99) : dv 0 [48 + v / 10 % 10, 48 + v % 10] = v := by rw [dv2]; omega
theorem dvp4 {v : Int} (h : 0 ≤ v ∧ v ≤ 9999) : dv 0 [48 + v / 10 / 10 / 10 % 10, 48 + v / 10 / 10 % 10, 48 + v / 10 % 10, 48 + v % 10] = v := by rw [dv4]; omega
theorem parse_of_print {y m d t : Int} (h : 0 ≤ t ∧ t ≤ 137438953472) (q1 : okD y m d) (q2 : dayN y m d = t / 86400) {k : Nat} (hk : 30 ≤ k) : clock_Parse.f k (strOfNums (txtL y m d t)) = some (t, 0) := by
  rw [Parse_yes (strOfNums (txtL y m d t)) (by rw [bts_son (txtL_byt y m d t)]; rfl) ⟨dig1, dig1, dig1, dig1⟩ ⟨dig1, dig1⟩ ⟨dig1, dig1⟩ ⟨dig1, dig1⟩ ⟨dig1, dig1⟩ ⟨dig1, dig1⟩ hk]
  have b := ml_bd y m.toNat
  have q := q1
  unfold okD at q
  rw [dvp4 (by omega), dvp2 (by omega), dvp2 (by omega), dvp2 (by omega), dvp2 (by omega), dvp2 (by omega)]
  unfold parseP
  rw [if_pos ⟨q1, by omega, by omega, by omega⟩, if_neg (by omega), q2]
  congr 2
  omega
-- the reference's parts of a date
theorem rleap_f {y : Int} (h : 0 ≤ y) : larumref04_Leap.f y = some (lp y) := by
  unfold larumref04_Leap.f
  rw [Int.tmod_eq_emod_of_nonneg h, Int.tmod_eq_emod_of_nonneg h, Int.tmod_eq_emod_of_nonneg h]
  have := Int.emod_nonneg y (show (100 : Int) ≠ 0 by decide)
  by_cases c : y % 400 = 0
  · rw [if_pos c]; simp [lp, c]
  · rw [if_neg c]
    by_cases a : y % 4 = 0
    · rw [if_pos a]
      by_cases b : y % 100 = 0
      · simp [lp, a, b, c]
      · have : y % 100 > 0 := by omega
        simp [lp, a, b, c, this]
    · rw [if_neg a]; simp [lp, a, c]
theorem rlength_f {y : Int} (h : 0 ≤ y) {m : Nat} (hm : 1 ≤ m ∧ m ≤ 12) : larumref04_Length.f y (m : Int) = some (ml y m) := by
  have hl := rleap_f h
  have : m = 1 ∨ m = 2 ∨ m = 3 ∨ m = 4 ∨ m = 5 ∨ m = 6 ∨ m = 7 ∨ m = 8 ∨ m = 9 ∨ m = 10 ∨ m = 11 ∨ m = 12 := by omega
  rcases this with rfl | rfl | rfl | rfl | rfl | rfl | rfl | rfl | rfl | rfl | rfl | rfl <;> simp [larumref04_Length.f, ml, hl, rd]
  split <;> rfl
theorem ryear_f {y : Int} (h : 0 ≤ y) : larumref04_Year.f y = some (yl y) := by
  unfold larumref04_Year.f yl
  rw [rleap_f h]
  simp only [Option.bind_some]
  split <;> rfl
theorem RDays_l1 {y : Int} (hy : 1 ≤ y ∧ y ≤ 20000) (M : Nat) (hM : M ≤ 12) : ∀ (f m : Nat) (n : Int) (k : Nat), M - m ≤ f → 1 ≤ m → m ≤ M → -8000000 ≤ n - mon y m → n - mon y m ≤ 8000000 → f + 4 ≤ k →
    larumref04_Days.l1 k y (M : Int) n (m : Int) = some (n + (mon y M - mon y m)) := by
  intro f
  induction f with
  | zero =>
    intro m n k hf hm hM' h1 h2 hk
    obtain ⟨k, rfl⟩ : ∃ j, k = j + 1 := ⟨k - 1, by omega⟩
    obtain rfl : m = M := by omega
    simp only [larumref04_Days.l1]
    rw [if_neg (by omega)]
    congr 1; omega
  | succ f ih =>
    intro m n k hf hm hM' h1 h2 hk
    obtain ⟨k, rfl⟩ : ∃ j, k = j + 1 := ⟨k - 1, by omega⟩
    have b1 := mon_bd y (m := m) (by omega)
    have b2 := ml_bd y m
    by_cases c : m = M
    · obtain rfl := c
      simp only [larumref04_Days.l1]
      rw [if_neg (by omega)]
      congr 1; omega
    · simp only [larumref04_Days.l1]
      have s := mon_succ y hm
      rw [if_pos (by omega), rlength_f (by omega) (by omega)]
      simp only [Option.bind_some]
      rw [w64 (x := n + ml y m) (by omega), w64 (x := (m : Int) + 1) (by omega), show (m : Int) + 1 = ((m + 1 : Nat) : Int) by omega, ih (m + 1) _ k (by omega) (by omega) (by omega) (by omega) (by omega) (by omega)]
      congr 1; omega
theorem RDays_l0 {y : Int} (hy : 1970 ≤ y ∧ y ≤ 9999) (M : Nat) (hM : 1 ≤ M ∧ M ≤ 12) : ∀ (f : Nat) (z n : Int) (k : Nat), y - z ≤ f → 1970 ≤ z → z ≤ y → 0 ≤ n - ah z + ah 1970 → n - ah z + ah 1970 ≤ 31 → f + 30 ≤ k →
    larumref04_Days.l0 k y (M : Int) n z = some (n + (ah y - ah z) + mon y M) := by
  intro f
  induction f with
  | zero =>
    intro z n k hf hz hz' h1 h2 hk
    obtain ⟨k, rfl⟩ : ∃ j, k = j + 1 := ⟨k - 1, by omega⟩
    obtain rfl : z = y := by omega
    have b := ah_bd (y := z) (by omega)
    have b' := ah1970
    have m1 := mon_one z
    simp only [larumref04_Days.l0]
    rw [if_neg (by omega), show (1 : Int) = ((1 : Nat) : Int) from rfl, RDays_l1 (by omega) M (by omega) 12 1 n k (by omega) (by omega) (by omega) (by omega) (by omega) (by omega)]
    congr 1; omega
  | succ f ih =>
    intro z n k hf hz hz' h1 h2 hk
    obtain ⟨k, rfl⟩ : ∃ j, k = j + 1 := ⟨k - 1, by omega⟩
    have b := ah_bd (y := z) (by omega)
    have b' := ah1970
    have m1 := mon_one y
    simp only [larumref04_Days.l0]
    by_cases c : z = y
    · obtain rfl := c
      rw [if_neg (by omega), show (1 : Int) = ((1 : Nat) : Int) from rfl, RDays_l1 (by omega) M (by omega) 12 1 n k (by omega) (by omega) (by omega) (by omega) (by omega) (by omega)]
      congr 1; omega
    · have s := ah_succ z
      have t := yl_le z
      rw [if_pos (by omega), ryear_f (by omega)]
      simp only [Option.bind_some]
      rw [w64 (x := n + yl z) (by omega), w64 (x := z + 1) (by omega), ih (z + 1) _ k (by omega) (by omega) (by omega) (by omega) (by omega) (by omega)]
      congr 1; omega
theorem RDays_f (y m d : Int) {k : Nat} (hk : 10000 ≤ k) : larumref04_Days.f k y m d = some (if okD y m d then dayN y m d else -1) := by
  obtain ⟨k, rfl⟩ : ∃ j, k = j + 1 := ⟨k - 1, by omega⟩
  unfold larumref04_Days.f
  have bad : ∀ x0 x1 x2, larumref04_Days.j0 (k + 1) x0 x1 x2 true = some (-1) := fun _ _ _ => by simp [larumref04_Days.j0]
  by_cases c1 : y < 1970
  · rw [if_pos c1, bad, if_neg (by unfold okD; omega)]
  by_cases c2 : y > 9999
  · rw [if_neg c1, if_pos c2, bad, if_neg (by unfold okD; omega)]
  by_cases c3 : m < 1
  · rw [if_neg c1, if_neg c2, if_pos c3, bad, if_neg (by unfold okD; omega)]
  by_cases c4 : m > 12
  · rw [if_neg c1, if_neg c2, if_neg c3, if_pos c4, bad, if_neg (by unfold okD; omega)]
  by_cases c5 : d < 1
  · rw [if_neg c1, if_neg c2, if_neg c3, if_neg c4, if_pos c5, bad, if_neg (by unfold okD; omega)]
  rw [if_neg c1, if_neg c2, if_neg c3, if_neg c4, if_neg c5]
  obtain ⟨M, rfl⟩ : ∃ M : Nat, m = (M : Int) := ⟨m.toNat, by omega⟩
  rw [rlength_f (by omega) (by omega)]
  simp only [Option.bind_some]
  by_cases c6 : d > ml y M
  · rw [decide_eq_true c6, bad, if_neg (by unfold okD; rw [Int.toNat_natCast]; omega)]
  · have := ml_bd y M
    rw [decide_eq_false c6, if_pos (by unfold okD; rw [Int.toNat_natCast]; omega)]
    simp only [larumref04_Days.j0]
    have b' := ah1970
    rw [if_neg (by simp), w64 (x := d - 1) (by omega), RDays_l0 (by omega) M (by omega) 9000 1970 _ k (by omega) (by omega) (by omega) (by omega) (by omega) (by omega)]
    unfold dayN
    rw [Int.toNat_natCast]
    congr 1; omega
theorem dayN_nonneg {y m d : Int} (h : okD y m d) : 0 ≤ dayN y m d ∧ dayN y m d < 2932897 := by
  unfold okD at h
  unfold dayN
  have b1 := mon_bd y (m := m.toNat) (by omega)
  have a1 := ah_mono (y := 1970) (z := y) (by omega)
  have a2 := ah_mono (y := y + 1) (z := 10000) (by omega)
  have s := mon_succ y (m := m.toNat) (by omega)
  have t := mon_mono y (m := m.toNat + 1) (n := 13) (by omega) (by omega)
  rw [mon13] at t
  rw [ah_succ, ah10000] at a2
  have a3 := ah1970
  omega
theorem awake60 : larumlaw04_awake.f 60 = some true := by decide +kernel
theorem awake_at {k : Nat} (h : 60 ≤ k) : larumlaw04_awake.f k = some true := at_rounds (g := fun k => larumlaw04_awake.f k) (fun k => larumlaw04_awake.mono k) h awake60
theorem i64_bd {a : Int} (h : (Lit.int .i64 a).wf = true) : -9223372036854775808 ≤ a ∧ a ≤ 9223372036854775807 := by
  simpa [Lit.wf, IntKind.min, IntKind.max, IntKind.bits, IntKind.signed] using h
theorem RDigit_eq {c : Int} (h : 0 ≤ c ∧ c ≤ 255) : larumref01_Digit.f c = some (isD c) := by
  have all : ∀ c : Fin 256, larumref01_Digit.f (c.val : Int) = some (isD (c.val : Int)) := by decide +kernel
  have := all ⟨c.toNat, by omega⟩
  rw [show ((⟨c.toNat, by omega⟩ : Fin 256).val : Int) = c from by show ((c.toNat : Nat) : Int) = c; omega] at this
  exact this
theorem value_step (s : ByteArray) (v i : Int) (k : Nat) (h0 : 0 ≤ i) (h1 : i < (s.size : Int)) (hz : s.size ≤ 100) (hv : 0 ≤ v ∧ v ≤ 100000000) : larumref04_value.l0 (k + 1) s v i = if isD (rd (bytesOf s) i) = true then larumref04_value.l0 k s (10 * v + (rd (bytesOf s) i - 48)) (i + 1) else some (-1) := by
  have hb := (bts_byt s).rd i
  simp only [larumref04_value.l0]
  rw [if_pos h1, if_pos h0, bt_rd, RDigit_eq hb]
  simp only [Option.bind_some]
  rw [w64 (x := 10 * v) (by omega), w64 (x := rd (bytesOf s) i) (by omega), w64 (x := 10 * v + rd (bytesOf s) i) (by omega), w64 (x := 10 * v + rd (bytesOf s) i - 48) (by omega), w64 (x := i + 1) (by omega), show 10 * v + rd (bytesOf s) i - 48 = 10 * v + (rd (bytesOf s) i - 48) by omega]
theorem value_end (s : ByteArray) (v i : Int) (k : Nat) (h1 : ¬ i < (s.size : Int)) : larumref04_value.l0 (k + 1) s v i = some v := by
  simp only [larumref04_value.l0]
  rw [if_neg h1]
def val2 (a b : Int) : Int := if isD a = true ∧ isD b = true then dv 0 [a, b] else -1
def val4 (a b c d : Int) : Int := if isD a = true ∧ isD b = true ∧ isD c = true ∧ isD d = true then dv 0 [a, b, c, d] else -1
theorem value2 (s : ByteArray) {a b : Int} (h : bytesOf s = [a, b]) {k : Nat} (hk : 10 ≤ k) : larumref04_value.f k s = some (val2 a b) := by
  have hz : s.size = 2 := by rw [bts_size, h]; rfl
  obtain ⟨k, rfl⟩ : ∃ m, k = m + 3 := ⟨k - 3, by omega⟩
  have r0 : rd (bytesOf s) 0 = a := by rw [h]; rfl
  have r1 : rd (bytesOf s) (0 + 1) = b := by rw [h]; rfl
  unfold larumref04_value.f val2
  rw [value_step s 0 0 (k + 2) (by omega) (by omega) (by omega) (by omega), r0]
  cases ha : isD a with
  | false => simp
  | true =>
    have ha' := isD_iff.1 ha
    rw [if_pos rfl, value_step s _ (0 + 1) (k + 1) (by omega) (by omega) (by omega) (by omega), r1]
    cases hb : isD b with
    | false => simp
    | true =>
      rw [if_pos rfl, value_end s _ _ k (by omega), if_pos ⟨rfl, rfl⟩, dv2]
      congr 1; omega
theorem value4 (s : ByteArray) {a b c d : Int} (h : bytesOf s = [a, b, c, d]) {k : Nat} (hk : 10 ≤ k) : larumref04_value.f k s = some (val4 a b c d) := by
  have hz : s.size = 4 := by rw [bts_size, h]; rfl
  obtain ⟨k, rfl⟩ : ∃ m, k = m + 5 := ⟨k - 5, by omega⟩
  have r0 : rd (bytesOf s) 0 = a := by rw [h]; rfl
  have r1 : rd (bytesOf s) (0 + 1) = b := by rw [h]; rfl
  have r2 : rd (bytesOf s) (0 + 1 + 1) = c := by rw [h]; rfl
  have r3 : rd (bytesOf s) (0 + 1 + 1 + 1) = d := by rw [h]; rfl
  unfold larumref04_value.f val4
  rw [value_step s 0 0 (k + 4) (by omega) (by omega) (by omega) (by omega), r0]
  cases ha : isD a with
  | false => simp
  | true =>
    have ha' := isD_iff.1 ha
    rw [if_pos rfl, value_step s _ (0 + 1) (k + 3) (by omega) (by omega) (by omega) (by omega), r1]
    cases hb : isD b with
    | false => simp
    | true =>
      have hb' := isD_iff.1 hb
      rw [if_pos rfl, value_step s _ (0 + 1 + 1) (k + 2) (by omega) (by omega) (by omega) (by omega), r2]
      cases hc : isD c with
      | false => simp
      | true =>
        have hc' := isD_iff.1 hc
        rw [if_pos rfl, value_step s _ (0 + 1 + 1 + 1) (k + 1) (by omega) (by omega) (by omega) (by omega), r3]
        cases hd : isD d with
        | false => simp
        | true =>
          rw [if_pos rfl, value_end s _ _ k (by omega), if_pos ⟨rfl, rfl, rfl, rfl⟩, dv4]
          congr 1; omega
theorem parse_step (s : ByteArray) (v : List Int) (j k : Nat) (x : Int) (hj : j < 6) (hx : larumref04_value.f k (s.extract (larumref04_Parse.lo j).toNat (larumref04_Parse.hi j).toNat) = some x) : larumref04_Parse.l0 (k + 1) s v j = if x < 0 then some (0, 3) else larumref04_Parse.l0 k s (v ++ [x]) (j + 1) := by
  simp only [larumref04_Parse.l0]
  rw [if_pos hj, hx]
  rfl
theorem val2_no {a b : Int} (h : ¬ (isD a = true ∧ isD b = true)) : val2 a b < 0 := by unfold val2; rw [if_neg h]; decide
theorem val4_no {a b c d : Int} (h : ¬ (isD a = true ∧ isD b = true ∧ isD c = true ∧ isD d = true)) : val4 a b c d < 0 := by unfold val4; rw [if_neg h]; decide
theorem dv4_bd {a b c d : Int} (ha : isD a = true) (hb : isD b = true) (hc : isD c = true) (hd : isD d = true) : 0 ≤ dv 0 [a, b, c, d] ∧ dv 0 [a, b, c, d] ≤ 9999 := by
  have := isD_iff.1 ha
  have := isD_iff.1 hb
  have := isD_iff.1 hc
  have := isD_iff.1 hd
  rw [dv4]; omega
theorem RParse_all (s : ByteArray) {y1 y2 y3 y4 m1 m2 d1 d2 h1 h2 i1 i2 s1 s2 : Int} (h : bytesOf s = [y1, y2, y3, y4, 45, m1, m2, 45, d1, d2, 84, h1, h2, 58, i1, i2, 58, s1, s2, 90]) {k : Nat} (hk : 20000 ≤ k) :
    larumref04_Parse.f k s = some (if (isD y1 = true ∧ isD y2 = true ∧ isD y3 = true ∧ isD y4 = true) ∧ (isD m1 = true ∧ isD m2 = true) ∧ (isD d1 = true ∧ isD d2 = true) ∧ (isD h1 = true ∧ isD h2 = true) ∧ (isD i1 = true ∧ isD i2 = true) ∧ (isD s1 = true ∧ isD s2 = true) then parseP (dv 0 [y1, y2, y3, y4]) (dv 0 [m1, m2]) (dv 0 [d1, d2]) (dv 0 [h1, h2]) (dv 0 [i1, i2]) (dv 0 [s1, s2]) else (0, 3)) := by
  have hz : s.size = 20 := by rw [bts_size, h]; rfl
  obtain ⟨k, rfl⟩ : ∃ m, k = m + 7 := ⟨k - 7, by omega⟩
  unfold larumref04_Parse.f
  rw [if_pos ⟨hz, by rw [bt_rd, h]; rfl, by rw [bt_rd, h]; rfl, by rw [bt_rd, h]; rfl, by rw [bt_rd, h]; rfl, by rw [bt_rd, h]; rfl, by rw [bt_rd, h]; rfl⟩]
  have ex : ∀ a b : Nat, bytesOf (s.extract a b) = ([y1, y2, y3, y4, 45, m1, m2, 45, d1, d2, 84, h1, h2, 58, i1, i2, 58, s1, s2, 90].take b).drop a := fun a b => by rw [bts_extract, h]
  rw [parse_step s [] 0 (k + 6) (val4 y1 y2 y3 y4) (by omega) (value4 _ (ex 0 4) (by omega))]
  by_cases cy : isD y1 = true ∧ isD y2 = true ∧ isD y3 = true ∧ isD y4 = true
  case neg => rw [if_pos (val4_no cy), if_neg (fun h => cy h.1)]
  have by' := dv4_bd cy.1 cy.2.1 cy.2.2.1 cy.2.2.2
  have vy : val4 y1 y2 y3 y4 = dv 0 [y1, y2, y3, y4] := by unfold val4; rw [if_pos cy]
  rw [vy, if_neg (by omega), parse_step s _ 1 (k + 5) (val2 m1 m2) (by omega) (value2 _ (ex 5 7) (by omega))]
  by_cases cm : isD m1 = true ∧ isD m2 = true
  case neg => rw [if_pos (val2_no cm), if_neg (fun h => cm h.2.1)]
  have bm := dv2_bd cm.1 cm.2
  have vm : val2 m1 m2 = dv 0 [m1, m2] := by unfold val2; rw [if_pos cm]
  rw [vm, if_neg (by omega), parse_step s _ 2 (k + 4) (val2 d1 d2) (by omega) (value2 _ (ex 8 10) (by omega))]
  by_cases cd : isD d1 = true ∧ isD d2 = true
  case neg => rw [if_pos (val2_no cd), if_neg (fun h => cd h.2.2.1)]
  have bd := dv2_bd cd.1 cd.2
  have vd : val2 d1 d2 = dv 0 [d1, d2] := by unfold val2; rw [if_pos cd]
  rw [vd, if_neg (by omega), parse_step s _ 3 (k + 3) (val2 h1 h2) (by omega) (value2 _ (ex 11 13) (by omega))]
  by_cases ch : isD h1 = true ∧ isD h2 = true
  case neg => rw [if_pos (val2_no ch), if_neg (fun h => ch h.2.2.2.1)]
  have bh := dv2_bd ch.1 ch.2
  have vh : val2 h1 h2 = dv 0 [h1, h2] := by unfold val2; rw [if_pos ch]
  rw [vh, if_neg (by omega), parse_step s _ 4 (k + 2) (val2 i1 i2) (by omega) (value2 _ (ex 14 16) (by omega))]
  by_cases ci : isD i1 = true ∧ isD i2 = true
  case neg => rw [if_pos (val2_no ci), if_neg (fun h => ci h.2.2.2.2.1)]
  have bi := dv2_bd ci.1 ci.2
  have vi : val2 i1 i2 = dv 0 [i1, i2] := by unfold val2; rw [if_pos ci]
  rw [vi, if_neg (by omega), parse_step s _ 5 (k + 1) (val2 s1 s2) (by omega) (value2 _ (ex 17 19) (by omega))]
  by_cases cs : isD s1 = true ∧ isD s2 = true
  case neg => rw [if_pos (val2_no cs), if_neg (fun h => cs h.2.2.2.2.2)]
  have bs := dv2_bd cs.1 cs.2
  have vs : val2 s1 s2 = dv 0 [s1, s2] := by unfold val2; rw [if_pos cs]
  rw [vs, if_neg (by omega), if_pos ⟨cy, cm, cd, ch, ci, cs⟩]
  generalize dv 0 [y1, y2, y3, y4] = Y at *
  generalize dv 0 [m1, m2] = M at *
  generalize dv 0 [d1, d2] = D at *
  generalize dv 0 [h1, h2] = H at *
  generalize dv 0 [i1, i2] = I at *
  generalize dv 0 [s1, s2] = S at *
  have e : larumref04_Parse.l0 (k + 1) s ([] ++ [Y] ++ [M] ++ [D] ++ [H] ++ [I] ++ [S]) 6 = ((larumref04_Days.f k Y M D).bind fun n => if n < 0 ∨ H > 23 ∨ I > 59 ∨ S > 59 then some (0, 3) else if wrap64 (wrap64 (wrap64 (wrap64 (n * 86400) + wrap64 (H * 3600)) + wrap64 (I * 60)) + S) > 137438953472 then some (0, 5) else some (wrap64 (wrap64 (wrap64 (wrap64 (n * 86400) + wrap64 (H * 3600)) + wrap64 (I * 60)) + S), 0)) := by
    simp only [larumref04_Parse.l0]
    rfl
  rw [e, RDays_f Y M D (by omega)]
  simp only [Option.bind_some]
  unfold parseP
  by_cases c : okD Y M D
  · have bn := dayN_nonneg c
    rw [if_pos c]
    by_cases c2 : H > 23 ∨ I > 59 ∨ S > 59
    · rw [if_pos (.inr c2), if_neg (fun h => by omega)]
    · have c3 : okD Y M D ∧ H ≤ 23 ∧ I ≤ 59 ∧ S ≤ 59 := ⟨c, by omega, by omega, by omega⟩
      rw [if_neg (fun h => by rcases h with h | h; exact absurd h (by omega); exact c2 h)]
      rw [w64 (x := dayN Y M D * 86400) (by omega), w64 (x := H * 3600) (by omega), w64 (x := I * 60) (by omega), w64 (x := dayN Y M D * 86400 + H * 3600) (by omega), w64 (x := dayN Y M D * 86400 + H * 3600 + I * 60) (by omega), w64 (by omega)]
      simp only [if_pos c3]
      split <;> rfl
  · rw [if_neg c, if_pos (.inl (by decide)), if_neg (fun h => c h.1)]
theorem twenty (l : List Int) (h : l.length = 20) : ∃ a b c d e f g i j m n o p q r s t u v w : Int, l = [a, b, c, d, e, f, g, i, j, m, n, o, p, q, r, s, t, u, v, w] := by
  rcases l with _ | ⟨a, _ | ⟨b, _ | ⟨c, _ | ⟨d, _ | ⟨e, _ | ⟨f, _ | ⟨g, _ | ⟨i, _ | ⟨j, _ | ⟨m, _ | ⟨n, _ | ⟨o, _ | ⟨p, _ | ⟨q, _ | ⟨r, _ | ⟨s, _ | ⟨t, _ | ⟨u, _ | ⟨v, _ | ⟨w, _ | ⟨x, l⟩⟩⟩⟩⟩⟩⟩⟩⟩⟩⟩⟩⟩⟩⟩⟩⟩⟩⟩⟩⟩ <;> first | (exact ⟨_, _, _, _, _, _, _, _, _, _, _, _, _, _, _, _, _, _, _, _, rfl⟩) | (simp at h)
theorem both_parse (s : ByteArray) {k : Nat} (hk : 20000 ≤ k) : (∃ r, clock_Parse.f k s = some r ∧ larumref04_Parse.f k s = some r ∧ ((r.2 ≠ 0 ∧ r.1 = 0) ∨ (r.2 = 0 ∧ ∃ y m d, okD y m d ∧ 0 ≤ r.1 ∧ r.1 ≤ 137438953472 ∧ dayN y m d = r.1 / 86400 ∧ bytesOf s = txtL y m d r.1))) := by
  cases hl : likeL patL (bytesOf s) with
  | false =>
    refine ⟨(0, 3), Parse_no s hl (by omega), ?_, .inl ⟨by decide, rfl⟩⟩
    by_cases hc : s.size = 20 ∧ bt s 4 = 45 ∧ bt s 7 = 45 ∧ bt s 10 = 84 ∧ bt s 13 = 58 ∧ bt s 16 = 58 ∧ bt s 19 = 90
    · obtain ⟨a, b, c, d, e, f, g, i, j, m, n, o, p, q, r, s', t, u, v, w, h⟩ := twenty (bytesOf s) (by rw [bytesOf_length]; exact hc.1)
      obtain ⟨_, q1, q2, q3, q4, q5, q6⟩ := hc
      rw [bt_rd, h] at q1 q2 q3 q4 q5 q6
      obtain rfl : e = 45 := q1
      obtain rfl : i = 45 := q2
      obtain rfl : n = 84 := q3
      obtain rfl : q = 58 := q4
      obtain rfl : t = 58 := q5
      obtain rfl : w = 90 := q6
      rw [RParse_all s h hk, if_neg]
      rintro ⟨g1, g2, g3, g4, g5, g6⟩
      rw [h] at hl
      simp [likeL, patL, sgn, g1, g2, g3, g4, g5, g6] at hl
    · unfold larumref04_Parse.f
      rw [if_neg hc]
  | true =>
    obtain ⟨y1, y2, y3, y4, m1, m2, d1, d2, h1, h2, i1, i2, s1, s2, h, gy, gm, gd, gh, gi, gs⟩ := like_split hl
    refine ⟨_, Parse_yes s h gy gm gd gh gi gs (by omega), by rw [RParse_all s h hk, if_pos ⟨gy, gm, gd, gh, gi, gs⟩], ?_⟩
    have by' := dv4_bd gy.1 gy.2.1 gy.2.2.1 gy.2.2.2
    have bm := dv2_bd gm.1 gm.2
    have bd := dv2_bd gd.1 gd.2
    have bh := dv2_bd gh.1 gh.2
    have bi := dv2_bd gi.1 gi.2
    have bs := dv2_bd gs.1 gs.2
    unfold parseP
    by_cases c : okD (dv 0 [y1, y2, y3, y4]) (dv 0 [m1, m2]) (dv 0 [d1, d2]) ∧ dv 0 [h1, h2] ≤ 23 ∧ dv 0 [i1, i2] ≤ 59 ∧ dv 0 [s1, s2] ≤ 59
    · rw [if_pos c]
      have bn := dayN_nonneg c.1
      by_cases c2 : dayN (dv 0 [y1, y2, y3, y4]) (dv 0 [m1, m2]) (dv 0 [d1, d2]) * 86400 + dv 0 [h1, h2] * 3600 + dv 0 [i1, i2] * 60 + dv 0 [s1, s2] > 137438953472
      · rw [if_pos c2]
        exact .inl ⟨by decide, rfl⟩
      · rw [if_neg c2]
        refine .inr ⟨rfl, _, _, _, c.1, by simp only; omega, by simp only; omega, by simp only; omega, ?_⟩
        have e2 : ∀ a b : Int, isD a = true → isD b = true → p2 (dv 0 [a, b]) = [a, b] := by
          intro a b ha hb
          have ha := isD_iff.1 ha
          have hb := isD_iff.1 hb
          unfold p2
          rw [dv2]
          congr 1
          · omega
          · congr 1; omega
        have e4 : p4 (dv 0 [y1, y2, y3, y4]) = [y1, y2, y3, y4] := by
          have a1 := isD_iff.1 gy.1
          have a2 := isD_iff.1 gy.2.1
          have a3 := isD_iff.1 gy.2.2.1
          have a4 := isD_iff.1 gy.2.2.2
          unfold p4
          rw [dv4]
          congr 1
          · omega
          · congr 1
            · omega
            · congr 1
              · omega
              · congr 1; omega
        have t1 : (dayN (dv 0 [y1, y2, y3, y4]) (dv 0 [m1, m2]) (dv 0 [d1, d2]) * 86400 + dv 0 [h1, h2] * 3600 + dv 0 [i1, i2] * 60 + dv 0 [s1, s2]) % 86400 / 3600 = dv 0 [h1, h2] := by omega
        have t2 : (dayN (dv 0 [y1, y2, y3, y4]) (dv 0 [m1, m2]) (dv 0 [d1, d2]) * 86400 + dv 0 [h1, h2] * 3600 + dv 0 [i1, i2] * 60 + dv 0 [s1, s2]) % 3600 / 60 = dv 0 [i1, i2] := by omega
        have t3 : (dayN (dv 0 [y1, y2, y3, y4]) (dv 0 [m1, m2]) (dv 0 [d1, d2]) * 86400 + dv 0 [h1, h2] * 3600 + dv 0 [i1, i2] * 60 + dv 0 [s1, s2]) % 60 = dv 0 [s1, s2] := by omega
        unfold txtL
        simp only
        rw [t1, t2, t3, e4, e2 _ _ gm.1 gm.2, e2 _ _ gd.1 gd.2, e2 _ _ gh.1 gh.2, e2 _ _ gi.1 gi.2, e2 _ _ gs.1 gs.2, h]
        rfl
    · rw [if_neg c]
      exact .inl ⟨by decide, rfl⟩
theorem parse_j0 (s : ByteArray) {k : Nat} (hk : 50000 ≤ k) : larumlaw04_ClockParse.j0 (k + 2) s = some true := by
  obtain ⟨r, h1, h2, h3⟩ := both_parse s (k := k + 1) (by omega)
  simp only [larumlaw04_ClockParse.j0, larumlaw04_ClockParse.j1]
  rw [h1, h2]
  simp only [Option.bind_some]
  rw [if_pos trivial, show (r.1 != r.1) = false by simp, if_neg (by simp)]
  rcases h3 with ⟨h3, _⟩ | ⟨h3, y, m, d, q1, g1, g2, q2, q3⟩
  · rw [if_neg h3, awake_at (by omega)]
    rfl
  · obtain ⟨y', m', d', p1, p2, p3⟩ := Print_f (t := r.1) ⟨g1, g2⟩ (k := k) (by omega)
    obtain ⟨rfl, rfl, rfl⟩ := date_inj p1 q1 (by omega)
    rw [if_pos h3, p3]
    simp only [Option.bind_some]
    rw [if_pos ((tl_iff _ _).2 (by rw [bts_son (txtL_byt _ _ _ _), q3])), if_pos trivial, awake_at (by omega)]
    rfl
theorem ClockParse : larumlaw04_ClockParse.Pure := by
  intro s _
  obtain ⟨k, hk⟩ : ∃ k : Nat, k = 60000 := ⟨_, rfl⟩
  refine ⟨k + 2, ?_⟩
  unfold larumlaw04_ClockParse.f
  by_cases h : (s.size : Int) > 40
  · rw [if_pos h, if_pos (by decide), if_pos (by omega)]
    exact parse_j0 _ (by omega)
  · rw [if_neg h]
    exact parse_j0 _ (by omega)
end Go.Proofs.Ytocbfodaboimoaa.Pure
