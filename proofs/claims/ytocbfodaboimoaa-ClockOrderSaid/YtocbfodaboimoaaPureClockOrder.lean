/- A later time's text is greater by its bytes: for any two times. No condition. -/
import Derived.Test.YtocbfodaboimoaaPClockOrderx3
namespace Go.Proofs.Ytocbfodaboimoaa.Pure
open Go Go.RowKit Go.Proofs.Ytocbfodaboimoaa.PClockOrder Go.Proofs.Ytocbfodaboimoaa.Gp Go.Proofs.YtocbfodaboimoaaW Go.Proofs.YtocbfodaboimoaaW.PrintWords Go.Proofs.YtocbfodaboimoaaW.PrintLast Go.Proofs.YtocbfodaboimoaaW.PrintMore
set_option linter.unusedVariables false
set_option linter.unusedSimpArgs false
-- strings as lists of numbers
def Byt (l : List Int) : Prop := ∀ x ∈ l, 0 ≤ x ∧ x ≤ 255
theorem Byt.rd {l : List Int} (h : Byt l) (i : Int) : 0 ≤ PrintWords.rd l i ∧ PrintWords.rd l i ≤ 255 := by
  unfold PrintWords.rd
  rw [List.getD_eq_getElem?_getD]
  by_cases hi : i.toNat < l.length
  · rw [List.getElem?_eq_getElem hi]; exact h _ (List.getElem_mem hi)
  · rw [List.getElem?_eq_none (by omega)]; decide
theorem Byt.take {l : List Int} (h : Byt l) (n : Nat) : Byt (l.take n) := fun x hx => h x (List.mem_of_mem_take hx)
theorem Byt.drop {l : List Int} (h : Byt l) (n : Nat) : Byt (l.drop n) := fun x hx => h x (List.mem_of_mem_drop hx)
theorem w64 {x : Int} (h : -9223372036854775808 ≤ x ∧ x ≤ 9223372036854775807) : wrap64 x = x := by unfold wrap64; omega
theorem u64w (x : Int) : IntKind.u64.wrap x = x % 18446744073709551616 := by simp [IntKind.wrap, IntKind.bits, IntKind.signed]
theorem wu64 {x : Int} (h : 0 ≤ x ∧ x ≤ 18446744073709551615) : IntKind.u64.wrap x = x := by rw [u64w]; omega
theorem bts_byt (s : ByteArray) : Byt (bytesOf s) := by
  intro x hx
  simp only [bytesOf, List.mem_map] at hx
  obtain ⟨b, _, rfl⟩ := hx
  have := b.toNat_lt
  omega
theorem bts_len (s : ByteArray) : ((bytesOf s).length : Int) = (s.size : Int) := by rw [bytesOf_length]
theorem bt_rd (s : ByteArray) (i : Int) : bt s i = rd (bytesOf s) i := (rd_bytesOf s i).symm
theorem tl (s : ByteArray) : s.toList = s.data.toList := ByteArray.toList_eq s
theorem u8_map_inj : ∀ {a b : List UInt8}, a.map (fun x => (x.toNat : Int)) = b.map (fun x => (x.toNat : Int)) → a = b
  | [], [], _ => rfl
  | [], _ :: _, h => by simp at h
  | _ :: _, [], h => by simp at h
  | x :: a, y :: b, h => by
    simp only [List.map_cons, List.cons.injEq] at h
    rw [u8_map_inj h.2, UInt8.toNat_inj.1 (by omega : x.toNat = y.toNat)]
theorem tl_iff (s t : ByteArray) : s.toList = t.toList ↔ bytesOf s = bytesOf t := by
  rw [tl, tl]
  exact ⟨fun h => by unfold bytesOf; rw [h], fun h => u8_map_inj h⟩
theorem tl_nil (s : ByteArray) : s.toList = ([] : List UInt8) ↔ bytesOf s = [] := by
  rw [tl]
  unfold bytesOf
  rw [List.map_eq_nil_iff]
theorem bts_extract (s : ByteArray) (a b : Nat) : bytesOf (s.extract a b) = ((bytesOf s).take b).drop a := by
  unfold bytesOf
  rw [List.drop_take, ← List.map_drop, ← List.map_take]
  congr 1
  simp [List.drop_take]
theorem bts_extract_to (s : ByteArray) (a : Nat) : bytesOf (s.extract a s.size) = (bytesOf s).drop a := by
  rw [bts_extract, List.take_of_length_le (by rw [bytesOf_length]; omega)]
theorem bts_append (s t : ByteArray) : bytesOf (s ++ t) = bytesOf s ++ bytesOf t := by
  unfold bytesOf
  rw [← List.map_append]
  congr 1
theorem bts_size (s : ByteArray) : s.size = (bytesOf s).length := (bytesOf_length s).symm
theorem drop_rd {l : List Int} {i : Nat} (h : i < l.length) : l.drop i = rd l (i : Int) :: l.drop (i + 1) := by
  rw [List.drop_eq_getElem_cons h]
  unfold rd
  simp [List.getD_eq_getElem?_getD, List.getElem?_eq_getElem h]
theorem rd_cons_zero (a : Int) (l : List Int) : rd (a :: l) 0 = a := rfl
-- a string made of numbers
theorem bts_son {xs : List Int} (h : Byt xs) : bytesOf (strOfNums xs) = xs := by
  unfold bytesOf
  rw [strOfNums_data, List.map_map]
  conv => rhs; rw [← List.map_id xs]
  apply List.map_congr_left
  intro x hx
  have := h x hx
  simp only [Function.comp, id]
  have e : (UInt8.ofNat x.toNat).toNat = x.toNat := by
    rw [UInt8.toNat_ofNat']
    omega
  rw [e]; omega
theorem bts_tl_iff {s t : ByteArray} : s.toList = t.toList ↔ bytesOf s = bytesOf t := tl_iff s t
theorem ext_bts {s t : ByteArray} (h : bytesOf s = bytesOf t) : s = t := by
  have := (tl_iff s t).2 h
  rw [tl, tl] at this
  cases s with | mk a => cases t with | mk b => simp at this; rw [this]
-- dates: years, months, days
def lp (y : Int) : Bool := (y % 4 == 0 && !(y % 100 == 0)) || y % 400 == 0
theorem lp_iff {y : Int} : lp y = true ↔ (y % 4 = 0 ∧ y % 100 ≠ 0) ∨ y % 400 = 0 := by simp [lp]
def yl (y : Int) : Int := if lp y = true then 366 else 365
def ah (y : Int) : Int := (y - 1) * 365 + (y - 1) / 4 - (y - 1) / 100 + (y - 1) / 400
theorem leap_f {y : Int} (h : 0 ≤ y) : clock_leap.f y = some (lp y) := by
  unfold clock_leap.f
  rw [Int.tmod_eq_emod_of_nonneg h, Int.tmod_eq_emod_of_nonneg h, Int.tmod_eq_emod_of_nonneg h]
  by_cases a : y % 4 = 0 <;> by_cases b : y % 100 = 0 <;> by_cases c : y % 400 = 0 <;> simp [lp, a, b, c]
theorem yl_le (y : Int) : 365 ≤ yl y ∧ yl y ≤ 366 := by unfold yl; split <;> omega
theorem ah_succ (y : Int) : ah (y + 1) = ah y + yl y := by
  unfold ah yl
  split
  · rename_i h
    rw [lp_iff] at h
    omega
  · rename_i h
    rw [lp_iff] at h
    omega
theorem ah_mono {y z : Int} (h : y ≤ z) : ah y ≤ ah z := by unfold ah; omega
theorem ahead_f {y : Int} (h : 1 ≤ y ∧ y ≤ 20000) : clock_ahead.f y = some (ah y) := by
  unfold clock_ahead.f ah
  have e : wrap64 (y - 1) = y - 1 := w64 (by omega)
  have e4 : Int.tdiv (y - 1) 4 = (y - 1) / 4 := Int.tdiv_eq_ediv_of_nonneg (by omega)
  have e100 : Int.tdiv (y - 1) 100 = (y - 1) / 100 := Int.tdiv_eq_ediv_of_nonneg (by omega)
  have e400 : Int.tdiv (y - 1) 400 = (y - 1) / 400 := Int.tdiv_eq_ediv_of_nonneg (by omega)
  rw [e, e4, e100, e400]
  have f1 : wrap64 ((y - 1) * 365) = (y - 1) * 365 := w64 (by omega)
  have f2 : wrap64 ((y - 1) / 4) = (y - 1) / 4 := w64 (by omega)
  have f3 : wrap64 ((y - 1) / 100) = (y - 1) / 100 := w64 (by omega)
  have f4 : wrap64 ((y - 1) / 400) = (y - 1) / 400 := w64 (by omega)
  rw [f1, f2, f3, f4]
  rw [w64 (x := (y - 1) * 365 + (y - 1) / 4) (by omega), w64 (x := (y - 1) * 365 + (y - 1) / 4 - (y - 1) / 100) (by omega), w64 (by omega)]
theorem ah1970 : ah 1970 = 719162 := by decide
theorem ah10000 : ah 10000 = 3652059 := by decide
theorem ah1 : ah 1 = 0 := by decide
theorem ah20000 : ah 20000 = 7304484 := by decide
theorem ah_bd {y : Int} (h : 1 ≤ y ∧ y ≤ 20000) : 0 ≤ ah y ∧ ah y ≤ 7304484 := by
  have a := ah_mono h.1
  have b := ah_mono h.2
  rw [ah1] at a
  rw [ah20000] at b
  exact ⟨a, b⟩
def ml (y : Int) (m : Nat) : Int := if m = 2 then (if lp y = true then 29 else 28) else if m = 4 ∨ m = 6 ∨ m = 9 ∨ m = 11 then 30 else 31
theorem ml_bd (y : Int) (m : Nat) : 28 ≤ ml y m ∧ ml y m ≤ 31 := by
  unfold ml
  split
  · split <;> omega
  · split <;> omega
def mon (y : Int) : Nat → Int
  | 0 => 0
  | m + 1 => mon y m + (if m = 0 then 0 else ml y m)
theorem mon_succ (y : Int) {m : Nat} (h : 1 ≤ m) : mon y (m + 1) = mon y m + ml y m := by
  show mon y m + (if m = 0 then 0 else ml y m) = _
  rw [if_neg (by omega)]
theorem mon_one (y : Int) : mon y 1 = 0 := rfl
theorem mon13 (y : Int) : mon y 13 = yl y := by
  cases h : lp y <;> simp [mon, ml, yl, h]
theorem mon_mono (y : Int) {m n : Nat} (h1 : 1 ≤ m) (h : m ≤ n) : mon y m ≤ mon y n := by
  induction n with
  | zero => omega
  | succ n ih =>
    by_cases c : m = n + 1
    · rw [c]; omega
    · have := ih (by omega)
      have := ml_bd y n
      rw [mon_succ y (by omega)]; omega
theorem mon_bd (y : Int) {m : Nat} (h : 1 ≤ m ∧ m ≤ 13) : 0 ≤ mon y m ∧ mon y m ≤ 366 := by
  have a := mon_mono y (Nat.le_refl 1) h.1
  have b := mon_mono y h.1 h.2
  rw [mon13] at b
  have := yl_le y
  rw [mon_one] at a
  omega
theorem length_f {y : Int} (h : 0 ≤ y) {m : Nat} (hm : 1 ≤ m ∧ m ≤ 12) {k : Nat} (hk : 3 ≤ k) : clock_length.f k y (m : Int) = some (ml y m) := by
  obtain ⟨k, rfl⟩ : ∃ j, k = j + 3 := ⟨k - 3, by omega⟩
  have hl := leap_f h
  have : m = 1 ∨ m = 2 ∨ m = 3 ∨ m = 4 ∨ m = 5 ∨ m = 6 ∨ m = 7 ∨ m = 8 ∨ m = 9 ∨ m = 10 ∨ m = 11 ∨ m = 12 := by omega
  rcases this with rfl | rfl | rfl | rfl | rfl | rfl | rfl | rfl | rfl | rfl | rfl | rfl <;> simp [clock_length.f, clock_length.j0, clock_length.j1, ml, hl, wrap64]
  split <;> rfl
def okD (y m d : Int) : Prop := 1970 ≤ y ∧ y ≤ 9999 ∧ 1 ≤ m ∧ m ≤ 12 ∧ 1 ≤ d ∧ d ≤ ml y m.toNat
instance (y m d : Int) : Decidable (okD y m d) := by unfold okD; infer_instance
def dayN (y m d : Int) : Int := ah y - ah 1970 + mon y m.toNat + (d - 1)
theorem Days_l0 {y : Int} (hy : 1 ≤ y ∧ y ≤ 20000) (M : Nat) (hM : M ≤ 12) (d : Int) (hd : 1 ≤ d ∧ d ≤ 31) : ∀ (f m : Nat) (n : Int) (k : Nat), M - m ≤ f → 1 ≤ m → m ≤ M → -8000000 ≤ n - mon y m → n - mon y m ≤ 8000000 → f + 4 ≤ k →
    clock_Days.l0 k y (M : Int) d n (m : Int) = some (n + (mon y M - mon y m) + (d - 1), true) := by
  intro f
  induction f with
  | zero =>
    intro m n k hf hm hM' h1 h2 hk
    obtain ⟨k, rfl⟩ : ∃ j, k = j + 1 := ⟨k - 1, by omega⟩
    obtain rfl : m = M := by omega
    have := mon_bd y (m := m) (by omega)
    simp only [clock_Days.l0]
    rw [if_neg (by omega), w64 (x := d - 1) (by omega), w64 (by omega)]
    congr 2; omega
  | succ f ih =>
    intro m n k hf hm hM' h1 h2 hk
    obtain ⟨k, rfl⟩ : ∃ j, k = j + 1 := ⟨k - 1, by omega⟩
    have b1 := mon_bd y (m := m) (by omega)
    have b2 := ml_bd y m
    by_cases c : m = M
    · obtain rfl := c
      simp only [clock_Days.l0]
      rw [if_neg (by omega), w64 (x := d - 1) (by omega), w64 (by omega)]
      congr 2; omega
    · simp only [clock_Days.l0]
      have s := mon_succ y hm
      rw [if_pos (by omega), length_f (by omega) (by omega) (by omega)]
      simp only [Option.bind_some]
      rw [w64 (x := n + ml y m) (by omega), w64 (x := (m : Int) + 1) (by omega), show (m : Int) + 1 = ((m + 1 : Nat) : Int) by omega, ih (m + 1) _ k (by omega) (by omega) (by omega) (by omega) (by omega) (by omega)]
      congr 2; omega
theorem Days_f (y m d : Int) {k : Nat} (hk : 20 ≤ k) : clock_Days.f k y m d = some (if okD y m d then (dayN y m d, true) else (0, false)) := by
  obtain ⟨k, rfl⟩ : ∃ j, k = j + 1 := ⟨k - 1, by omega⟩
  unfold clock_Days.f
  have bad : ∀ x0 x1 x2, clock_Days.j0 (k + 1) x0 x1 x2 true = some (0, false) := fun _ _ _ => by simp [clock_Days.j0]
  by_cases c1 : y < 1970
  · rw [if_pos c1, bad, if_neg (by unfold okD; omega)]
  by_cases c2 : y > 9999
  · rw [if_neg c1, if_pos c2, bad, if_neg (by unfold okD; omega)]
  by_cases c3 : m < 1
  · rw [if_neg c1, if_neg c2, if_pos c3, bad, if_neg (by unfold okD; omega)]
  by_cases c4 : m > 12
  · rw [if_neg c1, if_neg c2, if_neg c3, if_pos c4, bad, if_neg (by unfold okD; omega)]
  by_cases c5 : d < 1
  · rw [if_neg c1, if_neg c2, if_neg c3, if_neg c4, if_pos c5, bad, if_neg (by unfold okD; omega)]
  rw [if_neg c1, if_neg c2, if_neg c3, if_neg c4, if_neg c5]
  obtain ⟨M, rfl⟩ : ∃ M : Nat, m = (M : Int) := ⟨m.toNat, by omega⟩
  rw [length_f (by omega) (by omega) (by omega)]
  simp only [Option.bind_some]
  by_cases c6 : d > ml y M
  · rw [decide_eq_true c6, bad, if_neg (by unfold okD; rw [Int.toNat_natCast]; omega)]
  · have := ml_bd y M
    have a1 := ah_bd (y := y) (by omega)
    have a3 := ah1970
    rw [decide_eq_false c6, if_pos (by unfold okD; rw [Int.toNat_natCast]; omega)]
    simp only [clock_Days.j0]
    rw [if_neg (by simp), ahead_f (by omega), ahead_f (by omega)]
    simp only [Option.bind_some]
    have m1 := mon_one y
    rw [w64 (by omega), show (1 : Int) = ((1 : Nat) : Int) from rfl, Days_l0 (by omega) M (by omega) d (by omega) 12 1 _ k (by omega) (by omega) (by omega) (by omega) (by omega) (by omega)]
    unfold dayN
    rw [Int.toNat_natCast]
    congr 2; omega
theorem date_lt {y m d y' m' d' : Int} (h : okD y m d) (h' : okD y' m' d') (hl : y < y' ∨ (y = y' ∧ (m < m' ∨ (m = m' ∧ d < d')))) : dayN y m d < dayN y' m' d' := by
  unfold okD at h h'
  unfold dayN
  have b1 := mon_bd y' (m := m'.toNat) (by omega)
  have s := mon_succ y (m := m.toNat) (by omega)
  have t := mon_mono y (m := m.toNat + 1) (n := 13) (by omega) (by omega)
  rw [mon13] at t
  rcases hl with hl | ⟨rfl, hl | ⟨rfl, hl⟩⟩
  · have := ah_mono (y := y + 1) (z := y') (by omega)
    rw [ah_succ] at this
    omega
  · have := mon_mono y (m := m.toNat + 1) (n := m'.toNat) (by omega) (by omega)
    omega
  · omega
theorem date_inj {y m d y' m' d' : Int} (h : okD y m d) (h' : okD y' m' d') (he : dayN y m d = dayN y' m' d') : y = y' ∧ m = m' ∧ d = d' := by
  by_cases c : y < y' ∨ (y = y' ∧ (m < m' ∨ (m = m' ∧ d < d')))
  · have := date_lt h h' c; omega
  · by_cases c' : y' < y ∨ (y' = y ∧ (m' < m ∨ (m' = m ∧ d' < d)))
    · have := date_lt h' h c'; omega
    · omega
theorem Date_l2 {y : Int} (hy : 0 ≤ y) : ∀ (f m : Nat) (left : Int) (k : Nat), 13 - m ≤ f → 1 ≤ m → m ≤ 12 → 0 ≤ left → mon y m + left < yl y → f + 4 ≤ k →
    ∃ (m' : Nat) (l' : Int), 1 ≤ m' ∧ m' ≤ 12 ∧ 0 ≤ l' ∧ l' < ml y m' ∧ mon y m' + l' = mon y m + left ∧ clock_Date.l2 k y left (m : Int) = some (y, (m' : Int), l' + 1, true) := by
  intro f
  induction f with
  | zero => intro m left k hf h1 h2; omega
  | succ f ih =>
    intro m left k hf h1 h2 h3 h4 hk
    obtain ⟨k, rfl⟩ : ∃ j, k = j + 1 := ⟨k - 1, by omega⟩
    have b := mon_bd y (m := m) (by omega)
    have b2 := ml_bd y m
    have b3 := yl_le y
    have s := mon_succ y h1
    simp only [clock_Date.l2]
    rw [length_f hy (by omega) (by omega)]
    simp only [Option.bind_some]
    by_cases c : left ≥ ml y m
    · rw [if_pos c, w64 (x := left - ml y m) (by omega), w64 (x := (m : Int) + 1) (by omega), show (m : Int) + 1 = ((m + 1 : Nat) : Int) by omega]
      have : m + 1 ≤ 12 := by
        by_cases e : m = 12
        · subst e
          rw [show 12 + 1 = 13 from rfl, mon13] at s
          omega
        · omega
      obtain ⟨m', l', q1, q2, q3, q4, q5, q6⟩ := ih (m + 1) (left - ml y m) k (by omega) (by omega) this (by omega) (by omega) (by omega)
      exact ⟨m', l', q1, q2, q3, q4, by omega, q6⟩
    · rw [if_neg c, w64 (by omega)]
      exact ⟨m, left, h1, h2, h3, by omega, rfl, rfl⟩
theorem Date_l1 {all : Int} (h0 : ah 1970 ≤ all) (h9 : all < ah 10000) : ∀ (f : Nat) (y : Int) (k : Nat), 10000 - y ≤ f → 1 ≤ y → ah y ≤ all → f + 30 ≤ k →
    ∃ y' m' d', okD y' m' d' ∧ dayN y' m' d' = all - ah 1970 ∧ clock_Date.l1 k all y = some (y', m', d', true) := by
  intro f
  induction f with
  | zero =>
    intro y k hf h1 h2
    have := ah_mono (y := 10000) (z := y) (by omega)
    omega
  | succ f ih =>
    intro y k hf h1 h2 hk
    obtain ⟨k, rfl⟩ : ∃ j, k = j + 1 := ⟨k - 1, by omega⟩
    have hy : y < 10000 := by
      by_cases c : y < 10000
      · exact c
      · have := ah_mono (y := 10000) (z := y) (by omega); omega
    have b := ah_bd (y := y) (by omega)
    simp only [clock_Date.l1]
    rw [w64 (x := y + 1) (by omega), ahead_f (y := y + 1) (by omega)]
    simp only [Option.bind_some]
    by_cases c : ah (y + 1) ≤ all
    · rw [if_pos c]
      exact ih (y + 1) k (by omega) (by omega) c (by omega)
    · rw [if_neg c, ahead_f (y := y) (by omega)]
      simp only [Option.bind_some]
      have c' : 1970 ≤ y := by
        by_cases e : 1970 ≤ y
        · exact e
        · have := ah_mono (y := y + 1) (z := 1970) (by omega); omega
      have s := ah_succ y
      have m1 := mon_one y
      have a10 := ah10000
      rw [w64 (by omega)]
      obtain ⟨m', l', q1, q2, q3, q4, q5, q6⟩ := Date_l2 (y := y) (by omega) 13 1 (all - ah y) k (by omega) (by omega) (by omega) (by omega) (by omega) (by omega)
      refine ⟨y, m', l' + 1, ⟨c', by omega, by omega, by omega, by omega, by rw [Int.toNat_natCast]; omega⟩, ?_, q6⟩
      unfold dayN
      rw [Int.toNat_natCast]
      omega
theorem Date_l0 {all : Int} (h0 : ah 1970 ≤ all) (h9 : all < ah 10000) : ∀ (f : Nat) (y : Int) (k : Nat), y ≤ f → 1 ≤ y → y ≤ 20000 → f + 10050 ≤ k →
    ∃ y' m' d', okD y' m' d' ∧ dayN y' m' d' = all - ah 1970 ∧ clock_Date.l0 k all y = some (y', m', d', true) := by
  intro f
  induction f with
  | zero => intro y k hf h1; omega
  | succ f ih =>
    intro y k hf h1 h2 hk
    obtain ⟨k, rfl⟩ : ∃ j, k = j + 1 := ⟨k - 1, by omega⟩
    simp only [clock_Date.l0]
    rw [ahead_f (y := y) (by omega)]
    simp only [Option.bind_some]
    by_cases c : ah y > all
    · rw [if_pos c, w64 (by omega)]
      have : y ≠ 1 := by
        rintro rfl
        rw [ah1] at c
        rw [ah1970] at h0
        omega
      exact ih (y - 1) k (by omega) (by omega) (by omega) (by omega)
    · rw [if_neg c]
      exact Date_l1 h0 h9 10000 y k (by omega) h1 (by omega) (by omega)
theorem Date_f {n : Int} (h : 0 ≤ n ∧ n < 2932897) {k : Nat} (hk : 40000 ≤ k) : ∃ y m d, okD y m d ∧ dayN y m d = n ∧ clock_Date.f k n = some (y, m, d, true) := by
  obtain ⟨k, rfl⟩ : ∃ j, k = j + 1 := ⟨k - 1, by omega⟩
  unfold clock_Date.f
  have a10 := ah10000
  have a19 := ah1970
  rw [if_neg (by omega), ahead_f (by omega), ahead_f (by omega)]
  simp only [Option.bind_some]
  rw [w64 (by omega), decide_eq_false (by omega)]
  simp only [clock_Date.j0]
  rw [if_neg (by simp), ahead_f (by omega)]
  simp only [Option.bind_some]
  rw [w64 (x := n + ah 1970) (by omega), w64 (x := (n + ah 1970) * 400) (by omega), Int.tdiv_eq_ediv_of_nonneg (by omega), w64 (x := (n + ah 1970) * 400 / 146097) (by omega), w64 (by omega)]
  obtain ⟨y, m, d, q1, q2, q3⟩ := Date_l0 (all := n + ah 1970) (by omega) (by omega) 20000 ((n + ah 1970) * 400 / 146097 + 1) k (by omega) (by omega) (by omega) (by omega)
  exact ⟨y, m, d, q1, by omega, q3⟩
theorem Date_bad {n : Int} (hn : -9223372036854775808 ≤ n ∧ n ≤ 9223372036854775807) (h : ¬ (0 ≤ n ∧ n < 2932897)) {k : Nat} (hk : 10 ≤ k) : clock_Date.f k n = some (0, 0, 0, false) := by
  obtain ⟨k, rfl⟩ : ∃ j, k = j + 1 := ⟨k - 1, by omega⟩
  have bad : ∀ x0, clock_Date.j0 (k + 1) x0 true = some (0, 0, 0, false) := fun _ => by simp [clock_Date.j0]
  unfold clock_Date.f
  have a10 := ah10000
  have a19 := ah1970
  by_cases c : n < 0
  · rw [if_pos c, bad]
  · rw [if_neg c, ahead_f (by omega), ahead_f (by omega)]
    simp only [Option.bind_some]
    rw [w64 (by omega), decide_eq_true (by omega), bad]
-- a time's text, made
def p4 (v : Int) : List Int := [48 + v / 10 / 10 / 10 % 10, 48 + v / 10 / 10 % 10, 48 + v / 10 % 10, 48 + v % 10]
def p2 (v : Int) : List Int := [48 + v / 10 % 10, 48 + v % 10]
def txtL (y m d t : Int) : List Int := p4 y ++ 45 :: (p2 m ++ 45 :: (p2 d ++ 84 :: (p2 (t % 86400 / 3600) ++ 58 :: (p2 (t % 3600 / 60) ++ 58 :: (p2 (t % 60) ++ [90])))))
theorem txt_eq (y m d t : Int) : clock_Print.txt y m d t = txtL y m d t := rfl
theorem txtL_byt (y m d t : Int) : Byt (txtL y m d t) := by
  intro x hx
  simp only [txtL, p4, p2, List.cons_append, List.nil_append, List.mem_cons, List.not_mem_nil, or_false] at hx
  omega
theorem Print_f {t : Int} (h : 0 ≤ t ∧ t ≤ 137438953472) {k : Nat} (hk : 40000 ≤ k) : ∃ y m d, okD y m d ∧ dayN y m d = t / 86400 ∧ clock_Print.f k t = some (strOfNums (txtL y m d t), 0) := by
  obtain ⟨y, m, d, q1, q2, q3⟩ := Date_f (n := t / 86400) (by omega) hk
  refine ⟨y, m, d, q1, q2, ?_⟩
  unfold clock_Print.f
  rw [if_neg (by omega), if_neg (by omega), q3]
  simp only [Option.bind_some]
  have := ml_bd y m.toNat
  unfold okD at q1
  rw [if_pos (by omega), txt_eq]
theorem awake60 : larumlaw04_awake.f 60 = some true := by decide +kernel
theorem awake_at {k : Nat} (h : 60 ≤ k) : larumlaw04_awake.f k = some true := at_rounds (g := fun k => larumlaw04_awake.f k) (fun k => larumlaw04_awake.mono k) h awake60
theorem i64_bd {a : Int} (h : (Lit.int .i64 a).wf = true) : -9223372036854775808 ≤ a ∧ a ≤ 9223372036854775807 := by
  simpa [Lit.wf, IntKind.min, IntKind.max, IntKind.bits, IntKind.signed] using h
-- order of texts
def lx : List Int → List Int → Bool
  | _, [] => false
  | [], _ :: _ => true
  | a :: x, b :: y => decide (a < b) || (a == b && lx x y)
theorem bl_lx : ∀ (x y : List UInt8), Op.bytesLess x y = lx (x.map fun c => (c.toNat : Int)) (y.map fun c => (c.toNat : Int))
  | x, [] => by cases x <;> simp [Op.bytesLess, lx]
  | [], _ :: _ => by simp [Op.bytesLess, lx]
  | a :: x, b :: y => by
    simp only [Op.bytesLess, lx, List.map_cons]
    rw [bl_lx x y]
    have e1 : decide (a < b) = decide ((a.toNat : Int) < (b.toNat : Int)) := decide_eq_decide.2 (by rw [UInt8.lt_iff_toNat_lt]; omega)
    have e2 : (a == b) = ((a.toNat : Int) == (b.toNat : Int)) := by
      rw [Bool.eq_iff_iff, beq_iff_eq, beq_iff_eq, ← UInt8.toNat_inj]; omega
    rw [e1, e2]
theorem bl_bts (s t : ByteArray) : Op.bytesLess s.toList t.toList = lx (bytesOf s) (bytesOf t) := by
  rw [bl_lx, tl, tl]; rfl
theorem lx_irr : ∀ l, lx l l = false
  | [] => rfl
  | a :: l => by simp [lx, lx_irr l]
theorem lx_asym : ∀ l m, lx l m = true → lx m l = false
  | l, [], h => by cases l <;> simp [lx] at h
  | [], _ :: _, h => rfl
  | a :: l, b :: m, h => by
    simp only [lx, Bool.or_eq_true, decide_eq_true_eq, Bool.and_eq_true, beq_iff_eq] at h
    rcases h with h | ⟨rfl, h⟩
    · have : ¬ b < a := by omega
      have : ¬ b = a := by omega
      simp [lx, *]
    · simp [lx, lx_asym l m h]
theorem lx_app : ∀ l r s, lx (l ++ r) (l ++ s) = lx r s
  | [], _, _ => rfl
  | a :: l, r, s => by
    show lx (a :: (l ++ r)) (a :: (l ++ s)) = _
    simp [lx, lx_app l r s]
theorem lx_cons (a : Int) (r s : List Int) : lx (a :: r) (a :: s) = lx r s := lx_app [a] r s
theorem lx_pre : ∀ (l m r s : List Int), l.length = m.length → lx l m = true → lx (l ++ r) (m ++ s) = true
  | l, [], r, s, _, h => by cases l <;> simp [lx] at h
  | [], _ :: _, r, s, hl, _ => by simp at hl
  | a :: l, b :: m, r, s, hl, h => by
    simp only [lx, Bool.or_eq_true, decide_eq_true_eq, Bool.and_eq_true, beq_iff_eq] at h
    show lx (a :: (l ++ r)) (b :: (m ++ s)) = true
    rcases h with h | ⟨rfl, h⟩
    · simp [lx, h]
    · simp [lx, lx_pre l m r s (by simpa using hl) h]
theorem lxp2 {v w : Int} (h : 0 ≤ v ∧ v < w ∧ w ≤ 99) (r s : List Int) : lx (p2 v ++ r) (p2 w ++ s) = true := by
  refine lx_pre _ _ _ _ rfl ?_
  simp only [p2, lx, Bool.or_eq_true, decide_eq_true_eq, Bool.and_eq_true, beq_iff_eq, Bool.false_eq_true, and_false, or_false]
  omega
theorem lxp4 {v w : Int} (h : 0 ≤ v ∧ v < w ∧ w ≤ 9999) (r s : List Int) : lx (p4 v ++ r) (p4 w ++ s) = true := by
  refine lx_pre _ _ _ _ rfl ?_
  simp only [p4, lx, Bool.or_eq_true, decide_eq_true_eq, Bool.and_eq_true, beq_iff_eq, Bool.false_eq_true, and_false, or_false]
  omega
theorem txt_lt {y m d y' m' d' t u : Int} (q : okD y m d) (q' : okD y' m' d') (e : dayN y m d = t / 86400) (e' : dayN y' m' d' = u / 86400) (h : t < u) : lx (txtL y m d t) (txtL y' m' d' u) = true := by
  have b := ml_bd y m.toNat
  have b' := ml_bd y' m'.toNat
  by_cases c : dayN y m d = dayN y' m' d'
  · obtain ⟨rfl, rfl, rfl⟩ := date_inj q q' c
    unfold txtL
    rw [lx_app, lx_cons, lx_app, lx_cons, lx_app, lx_cons]
    by_cases c1 : t % 86400 / 3600 = u % 86400 / 3600
    · rw [c1, lx_app, lx_cons]
      by_cases c2 : t % 3600 / 60 = u % 3600 / 60
      · rw [c2, lx_app, lx_cons]
        exact lxp2 (by omega) _ _
      · exact lxp2 (by omega) _ _
    · exact lxp2 (by omega) _ _
  · have hl : y < y' ∨ (y = y' ∧ (m < m' ∨ (m = m' ∧ d < d'))) := by
      by_cases g : y < y' ∨ (y = y' ∧ (m < m' ∨ (m = m' ∧ d < d')))
      · exact g
      · exfalso
        by_cases g' : y' < y ∨ (y' = y ∧ (m' < m ∨ (m' = m ∧ d' < d)))
        · have := date_lt q' q g'; omega
        · obtain ⟨rfl, rfl, rfl⟩ : y = y' ∧ m = m' ∧ d = d' := by omega
          exact c rfl
    unfold okD at q q'
    unfold txtL
    rcases hl with hl | ⟨rfl, hl | ⟨rfl, hl⟩⟩
    · exact lxp4 (by omega) _ _
    · rw [lx_app, lx_cons]
      exact lxp2 (by omega) _ _
    · rw [lx_app, lx_cons, lx_app, lx_cons]
      exact lxp2 (by omega) _ _
theorem ClockOrder : larumlaw04_ClockOrder.Pure := by
  intro t u _ _
  refine ⟨50001, ?_⟩
  have bad : larumlaw04_ClockOrder.j0 50001 t u true = some true := by
    simp only [larumlaw04_ClockOrder.j0]
    rw [awake_at (by omega)]
    rfl
  unfold larumlaw04_ClockOrder.f
  by_cases c1 : t < 0
  · rw [if_pos c1, bad]
  by_cases c2 : u < 0
  · rw [if_neg c1, if_pos c2, bad]
  by_cases c3 : t > 137438953472
  · rw [if_neg c1, if_neg c2, if_pos c3, bad]
  by_cases c4 : u > 137438953472
  · rw [if_neg c1, if_neg c2, if_neg c3, decide_eq_true c4, bad]
  rw [if_neg c1, if_neg c2, if_neg c3, decide_eq_false c4]
  obtain ⟨y, m, d, q1, q2, q3⟩ := Print_f (t := t) (by omega) (k := 50000) (by omega)
  obtain ⟨y', m', d', q1', q2', q3'⟩ := Print_f (t := u) (by omega) (k := 50000) (by omega)
  simp only [larumlaw04_ClockOrder.j0]
  rw [if_neg (by simp), q3, q3']
  simp only [Option.bind_some]
  rw [awake_at (by omega), bl_bts, bts_son (txtL_byt _ _ _ _), bts_son (txtL_byt _ _ _ _)]
  have el : ((strOfNums (txtL y m d t)).toList == (strOfNums (txtL y' m' d' u)).toList) = decide (txtL y m d t = txtL y' m' d' u) := by
    rw [Bool.eq_iff_iff, beq_iff_eq, tl_iff, bts_son (txtL_byt _ _ _ _), bts_son (txtL_byt _ _ _ _), decide_eq_true_eq]
  rw [el]
  by_cases g : t < u
  · have h := txt_lt q1 q1' q2 q2' g
    have hne : txtL y m d t ≠ txtL y' m' d' u := by
      intro e
      rw [e, lx_irr] at h
      exact absurd h (by simp)
    have : (t == u) = false := by simp; omega
    simp [h, g, hne, this]
  · by_cases g' : u < t
    · have h := txt_lt q1' q1 q2' q2 g'
      have hne : txtL y m d t ≠ txtL y' m' d' u := by
        intro e
        rw [e, lx_irr] at h
        exact absurd h (by simp)
      have : (t == u) = false := by simp; omega
      simp [lx_asym _ _ h, g, hne, this]
    · obtain rfl : t = u := by omega
      obtain ⟨rfl, rfl, rfl⟩ := date_inj q1 q1' (by omega)
      simp [lx_irr]
end Go.Proofs.Ytocbfodaboimoaa.Pure
