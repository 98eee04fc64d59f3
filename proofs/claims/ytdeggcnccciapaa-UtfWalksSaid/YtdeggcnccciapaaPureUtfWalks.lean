/- Whether a text is runes, where it is none first, and how many there are, is as the chapter says: for any text. No condition. -/
import Derived.Test.YtdeggcnccciapaaPUtfWalksx6
namespace Go.Proofs.Ytdeggcnccciapaa.Pure
open Go Go.RowKit Go.Proofs.Ytdeggcnccciapaa.PUtfWalks Go.Proofs.Ytdeggcnccciapaa.Gp Go.Proofs.YtdeggcnccciapaaW Go.Proofs.YtdeggcnccciapaaW.PrintWords Go.Proofs.YtdeggcnccciapaaW.PrintLast Go.Proofs.YtdeggcnccciapaaW.PrintMore
set_option linter.unusedVariables false
set_option linter.unusedSimpArgs false
-- utf.Next, step by step: what it answers at any bytes
theorem i32_bd {a : Int} (h : (Lit.int .i32 a).wf = true) : -2147483648 ≤ a ∧ a ≤ 2147483647 := by
  simpa [Lit.wf, IntKind.min, IntKind.max, IntKind.bits, IntKind.signed] using h
theorem u8_bd {a : Int} (h : (Lit.int .u8 a).wf = true) : 0 ≤ a ∧ a ≤ 255 := by
  simpa [Lit.wf, IntKind.min, IntKind.max, IntKind.bits, IntKind.signed] using h
theorem awake10 : larumlaw02_awake.f 10 = some true := by decide +kernel
def Byt (l : List Int) : Prop := ∀ x ∈ l, 0 ≤ x ∧ x ≤ 255
theorem Byt.rd {l : List Int} (h : Byt l) (i : Int) : 0 ≤ PrintWords.rd l i ∧ PrintWords.rd l i ≤ 255 := by
  unfold PrintWords.rd
  rw [List.getD_eq_getElem?_getD]
  by_cases hi : i.toNat < l.length
  · rw [List.getElem?_eq_getElem hi]; exact h _ (List.getElem_mem hi)
  · rw [List.getElem?_eq_none (by omega)]; decide
theorem and63 : ∀ c : Fin 256, Go.bits .and .i32 (wrap32 (c.val : Int)) 63 = (c.val : Int) % 64 := by decide +kernel
theorem and63' {c : Int} (h : 0 ≤ c ∧ c ≤ 255) : Go.bits .and .i32 (wrap32 c) 63 = c % 64 := by
  have := and63 ⟨c.toNat, by omega⟩
  simpa [Int.toNat_of_nonneg h.1] using this
theorem an192 : ∀ c : Fin 32, Go.bits .andNot .i32 (wrap32 (192 + (c.val : Int))) 192 = (c.val : Int) := by decide +kernel
theorem an224 : ∀ c : Fin 16, Go.bits .andNot .i32 (wrap32 (224 + (c.val : Int))) 224 = (c.val : Int) := by decide +kernel
theorem an240 : ∀ c : Fin 8, Go.bits .andNot .i32 (wrap32 (240 + (c.val : Int))) 240 = (c.val : Int) := by decide +kernel
theorem an0 : ∀ c : Fin 128, Go.bits .andNot .i32 (wrap32 (c.val : Int)) 0 = (c.val : Int) := by decide +kernel
theorem an192' {c : Int} (h : 192 ≤ c) (h' : c < 224) : Go.bits .andNot .i32 (wrap32 c) 192 = c - 192 := by
  have := an192 ⟨(c - 192).toNat, by omega⟩
  simp only [Int.toNat_of_nonneg (show 0 ≤ c - 192 by omega)] at this
  rwa [show 192 + (c - 192) = c by omega] at this
theorem an224' {c : Int} (h : 224 ≤ c) (h' : c < 240) : Go.bits .andNot .i32 (wrap32 c) 224 = c - 224 := by
  have := an224 ⟨(c - 224).toNat, by omega⟩
  simp only [Int.toNat_of_nonneg (show 0 ≤ c - 224 by omega)] at this
  rwa [show 224 + (c - 224) = c by omega] at this
theorem an240' {c : Int} (h : 240 ≤ c) (h' : c < 248) : Go.bits .andNot .i32 (wrap32 c) 240 = c - 240 := by
  have := an240 ⟨(c - 240).toNat, by omega⟩
  simp only [Int.toNat_of_nonneg (show 0 ≤ c - 240 by omega)] at this
  rwa [show 240 + (c - 240) = c by omega] at this
theorem an0' {c : Int} (h : 0 ≤ c) (h' : c < 128) : Go.bits .andNot .i32 (wrap32 c) 0 = c := by
  have := an0 ⟨c.toNat, by omega⟩
  simpa only [Int.toNat_of_nonneg h] using this
/-- One byte more. -/
theorem more6 {x c : Int} (h : 0 ≤ x ∧ x < 1048576) (hc : 0 ≤ c ∧ c ≤ 255) : Go.bits .or .i32 (wrap32 (x * 64)) (Go.bits .and .i32 (wrap32 c) 63) = 64 * x + c % 64 := by
  rw [and63' hc, show wrap32 (x * 64) = x * 64 by unfold wrap32; omega, i32_or6 (x := x * 64) (y := c % 64) (by omega) (by omega) (by omega) (by omega) (by omega)]
  omega
/-- How many bytes one asks. -/
def want (c : Int) : Int := if c < 128 then 1 else if c < 194 then 0 else if c < 224 then 2 else if c < 240 then 3 else if c < 245 then 4 else 0
theorem wanted_eq (c : Int) : utf_wanted.f c = some (want c) := by
  unfold utf_wanted.f want
  repeat' split
  all_goals first | rfl | omega
theorem lead_eq {n : Int} (h : 1 ≤ n) (h' : n ≤ 4) : utf_lead.f n = some (if n = 1 then 0 else if n = 2 then 192 else if n = 3 then 224 else 240) := by
  have : n = 1 ∨ n = 2 ∨ n = 3 ∨ n = 4 := by omega
  rcases this with rfl | rfl | rfl | rfl <;> rfl
def loB (c : Int) : Int := if c = 224 then 160 else if c = 240 then 144 else 128
def hiB (c : Int) : Int := if c = 237 then 159 else if c = 244 then 143 else 191
/-- Do so many bytes fit? -/
def Fits (l : List Int) (n : Int) : Prop := (1 < n ∧ 1 < (l.length : Int) → loB (rd l 0) ≤ rd l 1 ∧ rd l 1 ≤ hiB (rd l 0)) ∧ (2 < n ∧ 2 < (l.length : Int) → 128 ≤ rd l 2 ∧ rd l 2 ≤ 191) ∧ (3 < n ∧ 3 < (l.length : Int) → 128 ≤ rd l 3 ∧ rd l 3 ≤ 191)
instance (l : List Int) (n : Int) : Decidable (Fits l n) := by unfold Fits; exact inferInstance
theorem wr2 : wrap64 (1 + 1) = 2 := by decide +kernel
theorem wr3 : wrap64 (2 + 1) = 3 := by decide +kernel
theorem wr4 : wrap64 (3 + 1) = 4 := by decide +kernel
theorem fits_l0 {l : List Int} {n lo hi : Int} (hn : n ≤ 4) {k : Nat} : utf_fits.l0 (k + 5) l n lo hi 1 = some (decide ((1 < n ∧ 1 < (l.length : Int) → lo ≤ rd l 1 ∧ rd l 1 ≤ hi) ∧ (2 < n ∧ 2 < (l.length : Int) → 128 ≤ rd l 2 ∧ rd l 2 ≤ 191) ∧ (3 < n ∧ 3 < (l.length : Int) → 128 ≤ rd l 3 ∧ rd l 3 ≤ 191))) := by
  have step : ∀ (k : Nat) (lo hi i : Int), 1 ≤ i → i < n → i < (l.length : Int) → utf_fits.l0 (k + 1) l n lo hi i = if lo ≤ rd l i ∧ rd l i ≤ hi then utf_fits.l0 k l n 128 191 (wrap64 (i + 1)) else some false := by
    intro k lo hi i h1 h2 h3
    simp only [utf_fits.l0]
    rw [if_pos (by unfold mn; split <;> omega), if_pos (by omega), if_pos h3]
    by_cases c1 : rd l i < lo
    · rw [if_pos c1, if_neg (by omega)]
    · rw [if_neg c1]
      by_cases c2 : rd l i > hi
      · rw [if_pos c2, if_neg (by omega)]
      · rw [if_neg c2, if_pos (by omega)]
  have stop : ∀ (k : Nat) (lo hi i : Int), ¬ (i < n ∧ i < (l.length : Int)) → utf_fits.l0 (k + 1) l n lo hi i = some true := by
    intro k lo hi i h1
    simp only [utf_fits.l0]
    rw [if_neg (by unfold mn; split <;> omega)]
  by_cases c1 : 1 < n ∧ 1 < (l.length : Int)
  · rw [step (k + 4) _ _ _ (by omega) c1.1 c1.2, wr2]
    by_cases d1 : lo ≤ rd l 1 ∧ rd l 1 ≤ hi
    · rw [if_pos d1]
      by_cases c2 : 2 < n ∧ 2 < (l.length : Int)
      · rw [step (k + 3) _ _ _ (by omega) c2.1 c2.2, wr3]
        by_cases d2 : 128 ≤ rd l 2 ∧ rd l 2 ≤ 191
        · rw [if_pos d2]
          by_cases c3 : 3 < n ∧ 3 < (l.length : Int)
          · rw [step (k + 2) _ _ _ (by omega) c3.1 c3.2, wr4]
            by_cases d3 : 128 ≤ rd l 3 ∧ rd l 3 ≤ 191
            · rw [if_pos d3, stop (k + 1) _ _ _ (by omega)]
              congr 1; symm; apply decide_eq_true; exact ⟨fun _ => d1, fun _ => d2, fun _ => d3⟩
            · rw [if_neg d3]
              congr 1; symm; apply decide_eq_false; exact fun h => d3 (h.2.2 c3)
          · rw [stop (k + 2) _ _ _ c3]
            congr 1; symm; apply decide_eq_true; exact ⟨fun _ => d1, fun _ => d2, fun h => absurd h c3⟩
        · rw [if_neg d2]
          congr 1; symm; apply decide_eq_false; exact fun h => d2 (h.2.1 c2)
      · rw [stop (k + 3) _ _ _ c2]
        congr 1; symm; apply decide_eq_true; exact ⟨fun _ => d1, fun h => absurd h c2, fun h => absurd ⟨by omega, by omega⟩ c2⟩
    · rw [if_neg d1]
      congr 1; symm; apply decide_eq_false; exact fun h => d1 (h.1 c1)
  · rw [stop (k + 4) _ _ _ c1]
    congr 1; symm; apply decide_eq_true; exact ⟨fun h => absurd h c1, fun h => absurd ⟨by omega, by omega⟩ c1, fun h => absurd ⟨by omega, by omega⟩ c1⟩
theorem fits_eq {l : List Int} {n : Int} (hl : 0 < (l.length : Int)) (hn : n ≤ 4) (k : Nat) : utf_fits.f (k + 5) l n = some (decide (Fits l n)) := by
  unfold utf_fits.f Fits loB hiB
  rw [if_pos hl]
  by_cases c1 : rd l 0 = 224
  · rw [if_pos c1, fits_l0 hn]; simp [c1]
  rw [if_neg c1]
  by_cases c2 : rd l 0 = 237
  · rw [if_pos c2, fits_l0 hn]; simp [c2]
  rw [if_neg c2]
  by_cases c3 : rd l 0 = 240
  · rw [if_pos c3, fits_l0 hn]; simp [c3]
  rw [if_neg c3]
  by_cases c4 : rd l 0 = 244
  · rw [if_pos c4, fits_l0 hn]; simp [c4]
  rw [if_neg c4, fits_l0 hn]; simp [c1, c2, c3, c4]
theorem rd_cut (l : List Int) (n i : Int) (hn : 1 ≤ n) (hl : n ≤ (l.length : Int)) (h0 : 0 ≤ i) (h1 : i < n - 1) : rd ((l.take n.toNat).drop 1) i = rd l (i + 1) := by
  unfold rd
  rw [List.getD_eq_getElem?_getD, List.getD_eq_getElem?_getD, List.getElem?_drop, List.getElem?_take, if_pos (by omega), show 1 + i.toNat = (i + 1).toNat by omega]
theorem cut_len (l : List Int) (n : Int) (hn : 1 ≤ n) (hl : n ≤ (l.length : Int)) : (((l.take n.toNat).drop 1).length : Int) = n - 1 := by
  rw [List.length_drop, List.length_take]; omega
/-- The number that so many bytes say. -/
def num4 (l : List Int) (n : Int) : Int :=
  if n = 1 then rd l 0 else if n = 2 then 64 * (rd l 0 - 192) + rd l 1 % 64
  else if n = 3 then 64 * (64 * (rd l 0 - 224) + rd l 1 % 64) + rd l 2 % 64
  else 64 * (64 * (64 * (rd l 0 - 240) + rd l 1 % 64) + rd l 2 % 64) + rd l 3 % 64
theorem next_l0 {l : List Int} (hb : Byt l) {n : Int} (hn : 1 ≤ n) (hn4 : n ≤ 4) (hl : n ≤ (l.length : Int)) (x : Int) (hx : 0 ≤ x ∧ x < 32) (k : Nat) :
    utf_Next.l0 (k + 5) n x ((l.take n.toNat).drop 1) (((l.take n.toNat).drop 1).length : Int) 0 = some ((if n = 1 then x else if n = 2 then 64 * x + rd l 1 % 64 else if n = 3 then 64 * (64 * x + rd l 1 % 64) + rd l 2 % 64 else 64 * (64 * (64 * x + rd l 1 % 64) + rd l 2 % 64) + rd l 3 % 64), n, 0) := by
  have step : ∀ (k : Nat) (x i : Int), 0 ≤ i → i < n - 1 → 0 ≤ x ∧ x < 1048576 → utf_Next.l0 (k + 1) n x ((l.take n.toNat).drop 1) (((l.take n.toNat).drop 1).length : Int) i = utf_Next.l0 k n (64 * x + rd l (i + 1) % 64) ((l.take n.toNat).drop 1) (((l.take n.toNat).drop 1).length : Int) (wrap64 (i + 1)) := by
    intro k x i h0 h1 hx
    simp only [utf_Next.l0]
    rw [if_pos (by rw [cut_len l n hn hl]; omega), if_pos h0, if_pos (by rw [cut_len l n hn hl]; omega), rd_cut l n i hn hl h0 h1, more6 hx (hb.rd _)]
  have stop : ∀ (k : Nat) (x i : Int), ¬ i < n - 1 → utf_Next.l0 (k + 1) n x ((l.take n.toNat).drop 1) (((l.take n.toNat).drop 1).length : Int) i = some (x, n, 0) := by
    intro k x i h1
    simp only [utf_Next.l0]
    rw [if_neg (by rw [cut_len l n hn hl]; omega)]
  have b1 := hb.rd 1
  have b2 := hb.rd 2
  have b3 := hb.rd 3
  have w1 : wrap64 (0 + 1) = 1 := by decide +kernel
  have hc : n = 1 ∨ n = 2 ∨ n = 3 ∨ n = 4 := by omega
  rcases hc with rfl | rfl | rfl | rfl
  · rw [stop (k + 4) _ _ (by omega)]; rfl
  · rw [step (k + 4) _ _ (by omega) (by omega) (by omega), w1, stop (k + 3) _ _ (by omega)]; rfl
  · rw [step (k + 4) _ _ (by omega) (by omega) (by omega), w1, step (k + 3) _ _ (by omega) (by omega) (by omega), wr2, stop (k + 2) _ _ (by omega)]; rfl
  · rw [step (k + 4) _ _ (by omega) (by omega) (by omega), w1, step (k + 3) _ _ (by omega) (by omega) (by omega), wr2, step (k + 2) _ _ (by omega) (by omega) (by omega), wr3, stop (k + 1) _ _ (by omega)]; rfl
theorem want_or (c : Int) : want c = 0 ∨ (want c = 1 ∧ c < 128) ∨ (want c = 2 ∧ 194 ≤ c ∧ c < 224) ∨ (want c = 3 ∧ 224 ≤ c ∧ c < 240) ∨ (want c = 4 ∧ 240 ≤ c ∧ c < 245) := by
  unfold want
  repeat' split
  all_goals omega
/-- The whole of utf.Next. -/
theorem next_eq {l : List Int} (hb : Byt l) (hl : 0 < (l.length : Int)) (k : Nat) : utf_Next.f (k + 5) l =
    if want (rd l 0) = 0 ∨ ¬ Fits l (want (rd l 0)) then some (0, 0, 3) else if (l.length : Int) < want (rd l 0) then some (0, 0, 11) else some (num4 l (want (rd l 0)), want (rd l 0), 0) := by
  have b0 := hb.rd 0
  have hw := want_or (rd l 0)
  unfold utf_Next.f
  rw [if_neg (by omega), if_pos hl, wanted_eq]
  simp only [Option.bind_some]
  by_cases c0 : want (rd l 0) = 0
  · rw [if_pos c0, if_pos (Or.inl c0)]
  rw [if_neg c0, fits_eq hl (by omega)]
  simp only [Option.bind_some, decide_eq_true_eq]
  by_cases c1 : Fits l (want (rd l 0))
  · rw [if_pos c1, if_neg (show ¬ (want (rd l 0) = 0 ∨ ¬ Fits l (want (rd l 0))) from fun h => h.elim c0 (fun h => h c1))]
    by_cases c2 : (l.length : Int) < want (rd l 0)
    · rw [if_pos c2, if_pos c2]
    · rw [if_neg c2, if_neg c2, lead_eq (by omega) (by omega)]
      simp only [Option.bind_some]
      rw [if_pos (by omega), if_pos (by omega)]
      rcases hw with h | ⟨h, h1⟩ | ⟨h, h1, h2⟩ | ⟨h, h1, h2⟩ | ⟨h, h1, h2⟩
      · exact absurd h c0
      · rw [h] at c2 ⊢
        rw [if_pos rfl, an0' b0.1 h1]
        simp [num4, utf_Next.l0, List.length_drop, List.length_take]
      · rw [h] at c2 ⊢
        rw [if_neg (by omega), if_pos rfl, an192' (by omega) h2, next_l0 hb (by omega) (by omega) (by omega) _ (by omega)]; rfl
      · rw [h] at c2 ⊢
        rw [if_neg (by omega), if_neg (by omega), if_pos rfl, an224' (by omega) h2, next_l0 hb (by omega) (by omega) (by omega) _ (by omega)]; rfl
      · rw [h] at c2 ⊢
        rw [if_neg (by omega), if_neg (by omega), if_neg (by omega), an240' (by omega) (by omega), next_l0 hb (by omega) (by omega) (by omega) _ (by omega)]; rfl
  · rw [if_neg c1, if_pos (Or.inr c1)]
-- a rune's bytes
def IsR (v : Int) : Prop := 0 ≤ v ∧ v ≤ 1114111 ∧ (v < 55296 ∨ 57343 < v)
instance (v : Int) : Decidable (IsR v) := by unfold IsR; exact inferInstance
theorem Is_eq (v : Int) : larumref02_Is.f v = some (decide (IsR v)) := by
  unfold larumref02_Is.f IsR
  repeat' split
  all_goals (congr 1; first | (symm; apply decide_eq_true; omega) | (symm; apply decide_eq_false; omega) | (apply decide_eq_decide.mpr; omega))
def enc (a : Int) : List Int := if a < 128 then [a] else if a < 2048 then [192 + a / 64, 128 + a % 64] else if a < 65536 then [224 + a / 4096, 128 + a / 64 % 64, 128 + a % 64] else [240 + a / 262144, 128 + a / 4096 % 64, 128 + a / 64 % 64, 128 + a % 64]
theorem w64 {x : Int} (h : -9223372036854775808 ≤ x ∧ x ≤ 9223372036854775807) : wrap64 x = x := by unfold wrap64; omega
theorem RPut_eq {a : Int} (h : IsR a) : larumref02_Put.f a = some (enc a) := by
  have h0 : 0 ≤ a := h.1
  have h1 : a ≤ 1114111 := h.2.1
  unfold larumref02_Put.f enc
  rw [Is_eq, decide_eq_true h]
  simp only [Option.bind_some, if_true]
  have e : ∀ n : Int, 0 < n → Int.tdiv a n = a / n := fun n _ => Int.tdiv_eq_ediv_of_nonneg h0
  have e' : ∀ n : Int, 0 < n → Int.tmod a n = a % n := fun n _ => Int.tmod_eq_emod_of_nonneg h0
  by_cases c1 : a < 128
  · rw [if_pos c1, if_pos c1, Int.emod_eq_of_lt h0 (by omega)]
  rw [if_neg c1, if_neg c1, e 64 (by omega), e' 64 (by omega), w64 (x := a / 64) (by omega)]
  by_cases c2 : a < 2048
  · rw [if_pos c2, if_pos c2, w64 (by omega), w64 (by omega), Int.emod_eq_of_lt (by omega) (by omega), Int.emod_eq_of_lt (a := 128 + a % 64) (by omega) (by omega)]
  rw [if_neg c2, if_neg c2, e 4096 (by omega), Int.tmod_eq_emod_of_nonneg (a := a / 64) (by omega), w64 (x := a / 4096) (by omega), w64 (x := 128 + a / 64 % 64) (by omega), w64 (x := 128 + a % 64) (by omega), Int.emod_eq_of_lt (a := 128 + a % 64) (by omega) (by omega), Int.emod_eq_of_lt (a := 128 + a / 64 % 64) (by omega) (by omega)]
  by_cases c3 : a < 65536
  · rw [if_pos c3, if_pos c3, w64 (by omega), Int.emod_eq_of_lt (a := 224 + a / 4096) (by omega) (by omega)]
  rw [if_neg c3, if_neg c3, e 262144 (by omega), Int.tmod_eq_emod_of_nonneg (a := a / 4096) (by omega), w64 (x := a / 262144) (by omega), w64 (x := 240 + a / 262144) (by omega), w64 (x := 128 + a / 4096 % 64) (by omega), Int.emod_eq_of_lt (a := 240 + a / 262144) (by omega) (by omega), Int.emod_eq_of_lt (a := 128 + a / 4096 % 64) (by omega) (by omega)]
-- the reference's Next
theorem toList_eq' (s : ByteArray) : s.toList = s.data.toList := ByteArray.toList_eq s
theorem str_inj {xs ys : List Int} (hx : Byt xs) (hy : Byt ys) : (strOfNums xs).toList = (strOfNums ys).toList ↔ xs = ys := by
  constructor
  · intro h
    rw [toList_eq', toList_eq', strOfNums_data, strOfNums_data] at h
    induction xs generalizing ys with
    | nil => cases ys with
      | nil => rfl
      | cons y ys => simp at h
    | cons x xs ih => cases ys with
      | nil => simp at h
      | cons y ys =>
        simp only [List.map_cons, List.cons.injEq] at h
        have h1 := congrArg UInt8.toNat h.1
        have bx := hx x (by simp)
        have by' := hy y (by simp)
        simp at h1
        rw [Nat.mod_eq_of_lt (by omega), Nat.mod_eq_of_lt (by omega)] at h1
        rw [ih (fun z hz => hx z (by simp [hz])) (fun z hz => hy z (by simp [hz])) h.2, show x = y by omega]
  · rintro rfl; rfl
def val4 (l : List Int) (n : Int) : Int :=
  if n = 1 then rd l 0 else if n = 2 then 64 * (rd l 0 - 192) + rd l 1 - 128
  else if n = 3 then 64 * (64 * (rd l 0 - 224) + rd l 1 - 128) + rd l 2 - 128
  else 64 * (64 * (64 * (rd l 0 - 240) + rd l 1 - 128) + rd l 2 - 128) + rd l 3 - 128
theorem val_step (k : Nat) (l : List Int) (hb : Byt l) (n v i : Int) (hi : 0 ≤ i) (h : i < n) (h4 : n ≤ 4) (hl : n ≤ (l.length : Int)) (hv : -100000000 ≤ v ∧ v ≤ 100000000) :
    larumref02_value.l0 (k + 1) l n v i = larumref02_value.l0 k l n (64 * v + rd l i - 128) (i + 1) := by
  have b := hb.rd i
  simp only [larumref02_value.l0]
  rw [if_pos h, if_pos hi, if_pos (by omega), w64 (x := 64 * v) (by omega), w64 (x := rd l i) (by omega), w64 (x := 64 * v + rd l i) (by omega), w64 (x := 64 * v + rd l i - 128) (by omega), w64 (x := i + 1) (by omega)]
theorem val_stop (k : Nat) (l : List Int) (n v : Int) : larumref02_value.l0 (k + 1) l n v n = some v := by
  simp only [larumref02_value.l0]
  rw [if_neg (by omega)]
theorem value_eq {l : List Int} (hb : Byt l) {n : Int} (hn : 1 ≤ n) (h4 : n ≤ 4) (hl : n ≤ (l.length : Int)) {k : Nat} (hk : 5 ≤ k) : larumref02_value.f k l n = some (val4 l n) := by
  obtain ⟨k, rfl⟩ : ∃ m, k = m + 5 := ⟨k - 5, by omega⟩
  have b0 := hb.rd 0
  have b1 := hb.rd 1
  have b2 := hb.rd 2
  unfold larumref02_value.f
  simp only [Option.bind_some]
  rw [if_pos (by omega), if_pos (by omega), if_pos (by simp; omega)]
  have hc : n = 1 ∨ n = 2 ∨ n = 3 ∨ n = 4 := by omega
  rcases hc with rfl | rfl | rfl | rfl
  · rw [show rd [0, 0, 192, 224, 240] 1 = 0 from rfl, w64 (x := rd l 0) (by omega), w64 (x := rd l 0 - 0) (by omega), val_stop (k + 4)]
    simp [val4]
  · rw [show rd [0, 0, 192, 224, 240] 2 = 192 from rfl, w64 (x := rd l 0) (by omega), w64 (x := rd l 0 - 192) (by omega), val_step (k + 4) l hb _ _ _ (by omega) (by omega) (by omega) hl (by omega), show (1 : Int) + 1 = 2 from rfl, val_stop (k + 3)]
    rfl
  · rw [show rd [0, 0, 192, 224, 240] 3 = 224 from rfl, w64 (x := rd l 0) (by omega), w64 (x := rd l 0 - 224) (by omega), val_step (k + 4) l hb _ _ _ (by omega) (by omega) (by omega) hl (by omega), show (1 : Int) + 1 = 2 from rfl, val_step (k + 3) l hb _ _ _ (by omega) (by omega) (by omega) hl (by omega), show (2 : Int) + 1 = 3 from rfl, val_stop (k + 2)]
    rfl
  · rw [show rd [0, 0, 192, 224, 240] 4 = 240 from rfl, w64 (x := rd l 0) (by omega), w64 (x := rd l 0 - 240) (by omega), val_step (k + 4) l hb _ _ _ (by omega) (by omega) (by omega) hl (by omega), show (1 : Int) + 1 = 2 from rfl, val_step (k + 3) l hb _ _ _ (by omega) (by omega) (by omega) hl (by omega), show (2 : Int) + 1 = 3 from rfl, val_step (k + 2) l hb _ _ _ (by omega) (by omega) (by omega) hl (by omega), show (3 : Int) + 1 = 4 from rfl, val_stop (k + 1)]
    rfl
/-- So many bytes, at least, one by one. -/
theorem take_rd (l : List Int) : ((1 : Int) ≤ l.length → l.take 1 = [rd l 0]) ∧ ((2 : Int) ≤ l.length → l.take 2 = [rd l 0, rd l 1]) ∧ ((3 : Int) ≤ l.length → l.take 3 = [rd l 0, rd l 1, rd l 2]) ∧ ((4 : Int) ≤ l.length → l.take 4 = [rd l 0, rd l 1, rd l 2, rd l 3]) := by
  rcases l with _ | ⟨a, _ | ⟨b, _ | ⟨c, _ | ⟨d, t⟩⟩⟩⟩ <;> simp [rd] <;> omega
theorem Byt.enc {a : Int} (h : IsR a) : Byt (enc a) := by
  have h0 : 0 ≤ a := h.1
  have h1 : a ≤ 1114111 := h.2.1
  unfold Pure.enc Byt
  repeat' split
  all_goals (intro x hx; simp at hx; omega)
theorem Byt.take {l : List Int} (h : Byt l) (n : Nat) : Byt (l.take n) := fun x hx => h x (List.mem_of_mem_take hx)
theorem fits_iff {l : List Int} (hb : Byt l) {n : Int} (hn : 1 ≤ n) (h4 : n ≤ 4) (hl : n ≤ (l.length : Int)) : (IsR (val4 l n) ∧ enc (val4 l n) = l.take n.toNat) ↔ (want (rd l 0) = n ∧ Fits l n) := by
  have b0 := hb.rd 0
  have b1 := hb.rd 1
  have b2 := hb.rd 2
  have b3 := hb.rd 3
  have hw := want_or (rd l 0)
  obtain ⟨t1, t2, t3, t4⟩ := take_rd l
  have hc : n = 1 ∨ n = 2 ∨ n = 3 ∨ n = 4 := by omega
  rcases hc with rfl | rfl | rfl | rfl
  · rw [show (1 : Int).toNat = 1 from rfl, t1 hl]
    simp only [val4, if_true, IsR, Fits]
    constructor
    · rintro ⟨h1, h2⟩
      refine ⟨?_, fun h => absurd h.1 (by omega), fun h => absurd h.1 (by omega), fun h => absurd h.1 (by omega)⟩
      unfold enc at h2
      split at h2
      · unfold want; rw [if_pos (by omega)]
      all_goals (repeat' split at h2) <;> simp at h2
    · rintro ⟨h1, h2⟩
      refine ⟨by omega, ?_⟩
      unfold enc; rw [if_pos (by omega)]
  · rw [show (2 : Int).toNat = 2 from rfl, t2 hl]
    simp only [val4, show ((2 : Int) = 1) = False by simp, if_true, if_false, IsR, Fits]
    constructor
    · rintro ⟨h1, h2⟩
      unfold enc at h2
      split at h2
      · simp at h2
      split at h2
      · simp only [List.cons.injEq, and_true] at h2
        refine ⟨by unfold want; rw [if_neg (by omega), if_neg (by omega), if_pos (by omega)], fun _ => ?_, fun h => absurd h.1 (by omega), fun h => absurd h.1 (by omega)⟩
        unfold loB hiB
        rw [if_neg (by omega), if_neg (by omega), if_neg (by omega), if_neg (by omega)]; omega
      all_goals (repeat' split at h2) <;> simp at h2
    · rintro ⟨h1, h2, _, _⟩
      have h3 := h2 ⟨by omega, by omega⟩
      unfold loB hiB at h3
      rw [if_neg (by omega), if_neg (by omega), if_neg (by omega), if_neg (by omega)] at h3
      refine ⟨by omega, ?_⟩
      unfold enc; rw [if_neg (by omega), if_pos (by omega)]
      simp only [List.cons.injEq, and_true]; omega
  · rw [show (3 : Int).toNat = 3 from rfl, t3 hl]
    simp only [val4, show ((3 : Int) = 1) = False by simp, show ((3 : Int) = 2) = False by simp, if_true, if_false, IsR, Fits]
    constructor
    · rintro ⟨h1, h2⟩
      unfold enc at h2
      split at h2
      · simp at h2
      split at h2
      · simp at h2
      split at h2
      · simp only [List.cons.injEq, and_true] at h2
        refine ⟨by unfold want; rw [if_neg (by omega), if_neg (by omega), if_neg (by omega), if_pos (by omega)], fun _ => ?_, fun _ => by omega, fun h => absurd h.1 (by omega)⟩
        unfold loB hiB
        repeat' split
        all_goals omega
      · simp at h2
    · rintro ⟨h1, h2, h3, _⟩
      have h2 := h2 ⟨by omega, by omega⟩
      have h3 := h3 ⟨by omega, by omega⟩
      unfold loB hiB at h2
      have h5 : 128 ≤ rd l 1 ∧ rd l 1 ≤ 191 ∧ (rd l 0 = 224 → 160 ≤ rd l 1) ∧ (rd l 0 = 237 → rd l 1 ≤ 159) := by
        repeat' split at h2
        all_goals omega
      refine ⟨by omega, ?_⟩
      unfold enc; rw [if_neg (by omega), if_neg (by omega), if_pos (by omega)]
      simp only [List.cons.injEq, and_true]; omega
  · rw [show (4 : Int).toNat = 4 from rfl, t4 hl]
    simp only [val4, show ((4 : Int) = 1) = False by simp, show ((4 : Int) = 2) = False by simp, show ((4 : Int) = 3) = False by simp, if_true, if_false, IsR, Fits]
    constructor
    · rintro ⟨h1, h2⟩
      unfold enc at h2
      split at h2
      · simp at h2
      split at h2
      · simp at h2
      split at h2
      · simp at h2
      simp only [List.cons.injEq, and_true] at h2
      refine ⟨by unfold want; rw [if_neg (by omega), if_neg (by omega), if_neg (by omega), if_neg (by omega), if_pos (by omega)], fun _ => ?_, fun _ => by omega, fun _ => by omega⟩
      unfold loB hiB
      repeat' split
      all_goals omega
    · rintro ⟨h1, h2, h3, h4⟩
      have h2 := h2 ⟨by omega, by omega⟩
      have h3 := h3 ⟨by omega, by omega⟩
      have h4 := h4 ⟨by omega, by omega⟩
      unfold loB hiB at h2
      have h5 : 128 ≤ rd l 1 ∧ rd l 1 ≤ 191 ∧ (rd l 0 = 240 → 144 ≤ rd l 1) ∧ (rd l 0 = 244 → rd l 1 ≤ 143) := by
        repeat' split at h2
        all_goals omega
      refine ⟨by omega, ?_⟩
      unfold enc; rw [if_neg (by omega), if_neg (by omega), if_neg (by omega)]
      simp only [List.cons.injEq, and_true]; omega
theorem val_num {l : List Int} (hb : Byt l) {n : Int} (hn : 1 ≤ n) (h4 : n ≤ 4) (hl : n ≤ (l.length : Int)) (h : want (rd l 0) = n ∧ Fits l n) : val4 l n = num4 l n := by
  obtain ⟨h1, h2, h3, h4'⟩ := h
  have h2' : 1 < n → 128 ≤ rd l 1 ∧ rd l 1 ≤ 191 := fun h => by
    have := h2 ⟨h, by omega⟩
    unfold loB hiB at this
    repeat' split at this
    all_goals omega
  unfold val4 num4
  have hc : n = 1 ∨ n = 2 ∨ n = 3 ∨ n = 4 := by omega
  rcases hc with rfl | rfl | rfl | rfl
  · rfl
  · have := h2' (by omega); simp; omega
  · have := h2' (by omega); have := h3 ⟨by omega, by omega⟩; simp; omega
  · have := h2' (by omega); have := h3 ⟨by omega, by omega⟩; have := h4' ⟨by omega, by omega⟩; simp; omega
/-- One test of the reference, with whatever follows. -/
theorem tst {α : Type} {l : List Int} (hb : Byt l) {n : Int} (hn : 1 ≤ n) (h4 : n ≤ 4) (hl : n ≤ (l.length : Int)) {k : Nat} (hk : 5 ≤ k) (c : List Int) (hc : c = l.take n.toNat) (yes : Int → Option α) (no : Option α) :
    ((larumref02_value.f k l n).bind fun t => (larumref02_Is.f t).bind fun u => if u = true then (larumref02_Put.f t).bind fun p => if (strOfNums p).toList = (strOfNums c).toList then yes t else no else no)
    = if want (rd l 0) = n ∧ Fits l n then yes (num4 l n) else no := by
  rw [value_eq hb hn h4 hl hk]
  simp only [Option.bind_some]
  rw [Is_eq]
  simp only [Option.bind_some, decide_eq_true_eq]
  by_cases h : want (rd l 0) = n ∧ Fits l n
  · have h' := (fits_iff hb hn h4 hl).2 h
    rw [if_pos h, if_pos h'.1, RPut_eq h'.1]
    simp only [Option.bind_some]
    rw [if_pos ((str_inj (Byt.enc h'.1) (by rw [hc]; exact hb.take _)).2 (by rw [hc]; exact h'.2)), val_num hb hn h4 hl h]
  · rw [if_neg h]
    by_cases h1 : IsR (val4 l n)
    · rw [if_pos h1, RPut_eq h1]
      simp only [Option.bind_some]
      rw [if_neg]
      intro h2
      exact h ((fits_iff hb hn h4 hl).1 ⟨h1, by rw [← hc]; exact (str_inj (Byt.enc h1) (by rw [hc]; exact hb.take _)).1 h2⟩)
    · rw [if_neg h1]
-- what may begin
def XS : List Int := [128, 143, 144, 159, 160, 191]
/-- The bytes that are tried. -/
def tried (c : List Int) (n x : Int) : List Int := c ++ x :: List.replicate (n.toNat - c.length - 1) 128
theorem beg_l2 {c : List Int} (hb : Byt c) (hc : 1 ≤ (c.length : Int)) {n : Int} (hn : (c.length : Int) < n) (h4 : n ≤ 4) {x : Int} (hx : 0 ≤ x ∧ x ≤ 255) (i : Int) (k : Nat) (hk : 10 ≤ k) (B : Nat) (r : Bool)
    (hr : ∀ k', B ≤ k' → larumref02_Begins.l1 k' c n XS 6 (wrap64 (i + 1)) = some r) (hB : B + 5 ≤ k) :
    larumref02_Begins.l2 k c n x c (c.length : Int) XS 6 i = some (decide (want (rd (tried c n x) 0) = n ∧ Fits (tried c n x) n) || r) := by
  have fin : ∀ (k' : Nat) (l : List Int), B ≤ k' → 5 ≤ k' → Byt l → (l.length : Int) = n → larumref02_Begins.l2 (k' + 1) c n x l n XS 6 i = some (decide (want (rd l 0) = n ∧ Fits l n) || r) := by
    intro k' l h1 h2 hbl hll
    simp only [larumref02_Begins.l2]
    rw [if_neg (by omega), tst hbl (by omega) h4 (by omega) h2 l (by rw [List.take_of_length_le (by omega)]) (fun _ => some true) (larumref02_Begins.l1 k' c n XS 6 (wrap64 (i + 1))), hr k' h1]
    by_cases h : want (rd l 0) = n ∧ Fits l n
    · rw [if_pos h, decide_eq_true h]; rfl
    · rw [if_neg h, decide_eq_false h]; rfl
  have st1 : ∀ (k' : Nat), larumref02_Begins.l2 (k' + 1) c n x c (c.length : Int) XS 6 i = larumref02_Begins.l2 k' c n x (c ++ [x]) ((c.length : Int) + 1) XS 6 i := by
    intro k'
    simp only [larumref02_Begins.l2]
    rw [if_pos hn, if_pos trivial, if_pos (by omega), w64 (x := (c.length : Int) + 1) (by omega)]
  have st2 : ∀ (k' : Nat) (l : List Int) (j : Int), (c.length : Int) < j → j < n → (l.length : Int) ≤ 10 → larumref02_Begins.l2 (k' + 1) c n x l j XS 6 i = larumref02_Begins.l2 k' c n x (l ++ [128]) (j + 1) XS 6 i := by
    intro k' l j h1 h2 h3
    simp only [larumref02_Begins.l2]
    rw [if_pos h2, if_neg (by omega), if_pos (by omega), w64 (x := j + 1) (by omega)]
  have hbx : Byt (c ++ [x]) := by intro z hz; rcases List.mem_append.1 hz with h | h; exact hb z h; simp at h; rw [h]; exact hx
  have hb1 : ∀ l : List Int, Byt l → Byt (l ++ [128]) := by intro l hl z hz; rcases List.mem_append.1 hz with h | h; exact hl z h; simp at h; rw [h]; decide
  have hd : n = c.length + 1 ∨ n = c.length + 2 ∨ n = c.length + 3 := by omega
  rcases hd with hd | hd | hd
  · have ht : tried c n x = c ++ [x] := by unfold tried; rw [show n.toNat - c.length - 1 = 0 by omega]; rfl
    obtain ⟨m, rfl⟩ : ∃ m, k = m + 2 := ⟨k - 2, by omega⟩
    rw [ht, st1 (m + 1), ← hd]
    exact fin m _ (by omega) (by omega) hbx (by simp; omega)
  · have ht : tried c n x = c ++ [x] ++ [128] := by unfold tried; rw [show n.toNat - c.length - 1 = 1 by omega]; simp
    obtain ⟨m, rfl⟩ : ∃ m, k = m + 3 := ⟨k - 3, by omega⟩
    rw [ht, st1 (m + 2), st2 (m + 1) _ _ (by omega) (by omega) (by simp; omega), show (c.length : Int) + 1 + 1 = n by omega]
    exact fin m _ (by omega) (by omega) (hb1 _ hbx) (by simp; omega)
  · have ht : tried c n x = c ++ [x] ++ [128] ++ [128] := by unfold tried; rw [show n.toNat - c.length - 1 = 2 by omega]; simp
    obtain ⟨m, rfl⟩ : ∃ m, k = m + 4 := ⟨k - 4, by omega⟩
    rw [ht, st1 (m + 3), st2 (m + 2) _ _ (by omega) (by omega) (by simp; omega), st2 (m + 1) _ _ (by omega) (by omega) (by simp; omega), show (c.length : Int) + 1 + 1 + 1 = n by omega]
    exact fin m _ (by omega) (by omega) (hb1 _ (hb1 _ hbx)) (by simp; omega)
theorem beg_l1 {c : List Int} (hb : Byt c) (hc : 1 ≤ (c.length : Int)) {n : Int} (hn : (c.length : Int) < n) (h4 : n ≤ 4) (B : Nat) (r : Bool)
    (hr : ∀ k', B ≤ k' → larumref02_Begins.l0 k' c (wrap64 (n + 1)) = some r) (d : Nat) : ∀ (i : Nat) (k : Nat), i + d = 6 → B + 20 * d + 20 ≤ k →
    larumref02_Begins.l1 k c n XS 6 (i : Int) = some (decide (∃ x ∈ XS.drop i, want (rd (tried c n x) 0) = n ∧ Fits (tried c n x) n) || r) := by
  induction d with
  | zero =>
    intro i k hi hk
    obtain ⟨k, rfl⟩ : ∃ m, k = m + 1 := ⟨k - 1, by omega⟩
    obtain rfl : i = 6 := by omega
    simp only [larumref02_Begins.l1]
    rw [if_neg (by decide), hr k (by omega)]
    simp [XS]
  | succ d ih =>
    intro i k hi hk
    obtain ⟨k, rfl⟩ : ∃ m, k = m + 1 := ⟨k - 1, by omega⟩
    have hlt : i < XS.length := by show i < 6; omega
    have hrd : rd XS (i : Int) = XS[i] := by unfold rd; simp [List.getD_eq_getElem?_getD, List.getElem?_eq_getElem hlt]
    have hx : 0 ≤ XS[i] ∧ XS[i] ≤ 255 := by
      have : ∀ x ∈ XS, 0 ≤ x ∧ x ≤ 255 := by decide
      exact this _ (List.getElem_mem hlt)
    simp only [larumref02_Begins.l1, Option.bind_some]
    rw [if_pos (by omega), if_pos (by omega), if_pos (by show (i : Int) < 6; omega), if_pos (by simp; omega), List.nil_append, hrd]
    rw [beg_l2 hb hc hn h4 hx (i : Int) k (by omega) (B + 20 * d + 20) _ (fun k' hk' => by rw [w64 (x := (i : Int) + 1) (by omega)]; exact ih (i + 1) k' (by omega) hk') (by omega)]
    rw [← Bool.or_assoc]
    congr 2
    rw [Bool.eq_iff_iff, List.drop_eq_getElem_cons (i := i) hlt]
    simp only [Bool.or_eq_true, decide_eq_true_eq, List.mem_cons, exists_eq_or_imp]
theorem beg_l0 {c : List Int} (hb : Byt c) (hc : 1 ≤ (c.length : Int)) {n : Int} (hn : (c.length : Int) < n) (h4 : n ≤ 4) (B : Nat) (r : Bool)
    (hr : ∀ k', B ≤ k' → larumref02_Begins.l0 k' c (wrap64 (n + 1)) = some r) (k : Nat) (hk : B + 150 ≤ k) : larumref02_Begins.l0 k c n = some (decide (∃ x ∈ XS, want (rd (tried c n x) 0) = n ∧ Fits (tried c n x) n) || r) := by
  obtain ⟨k, rfl⟩ : ∃ m, k = m + 1 := ⟨k - 1, by omega⟩
  simp only [larumref02_Begins.l0, Option.bind_some]
  rw [if_pos h4]
  exact beg_l1 hb hc hn h4 B r hr 6 0 k (by omega) (by omega)
theorem beg_end (c : List Int) (k : Nat) (hk : 1 ≤ k) : larumref02_Begins.l0 k c 5 = some false := by
  obtain ⟨k, rfl⟩ : ∃ m, k = m + 1 := ⟨k - 1, by omega⟩
  simp only [larumref02_Begins.l0]
  rw [if_neg (by decide)]
/-- What is tried tells whether the bytes may begin a rune of so many. -/
theorem tried_iff {c : List Int} (hb : Byt c) (hc : 1 ≤ (c.length : Int)) {n : Int} (hn : (c.length : Int) < n) (h4 : n ≤ 4) : (∃ x ∈ XS, want (rd (tried c n x) 0) = n ∧ Fits (tried c n x) n) ↔ (want (rd c 0) = n ∧ Fits c n) := by
  rcases c with _ | ⟨a, _ | ⟨b, _ | ⟨d, _ | ⟨e, t⟩⟩⟩⟩
  · simp at hc
  · have hw := want_or a
    have hd : n = 2 ∨ n = 3 ∨ n = 4 := by simp at hn; omega
    rcases hd with rfl | rfl | rfl
    · simp [tried, XS, Fits, rd, loB, hiB]
      by_cases e1 : a = 224 <;> by_cases e2 : a = 240 <;> by_cases e3 : a = 237 <;> by_cases e4 : a = 244 <;> simp [e1, e2, e3, e4]
    · simp [tried, XS, Fits, rd, loB, hiB, List.replicate]
      by_cases e1 : a = 224 <;> by_cases e2 : a = 240 <;> by_cases e3 : a = 237 <;> by_cases e4 : a = 244 <;> simp [e1, e2, e3, e4]
    · simp [tried, XS, Fits, rd, loB, hiB, List.replicate]
      by_cases e1 : a = 224 <;> by_cases e2 : a = 240 <;> by_cases e3 : a = 237 <;> by_cases e4 : a = 244 <;> simp [e1, e2, e3, e4]
  · have hw := want_or a
    have hd : n = 3 ∨ n = 4 := by simp at hn; omega
    rcases hd with rfl | rfl
    · simp [tried, XS, Fits, rd]
    · simp [tried, XS, Fits, rd, List.replicate]
  · have hw := want_or a
    have hd : n = 4 := by simp at hn; omega
    subst hd
    simp [tried, XS, Fits, rd]
  · simp at hn; omega
theorem begins_eq {c : List Int} (hb : Byt c) (hc : 1 ≤ (c.length : Int)) {k : Nat} (hk : 500 ≤ k) : larumref02_Begins.f k c = some (decide ((c.length : Int) < want (rd c 0) ∧ Fits c (want (rd c 0)))) := by
  have hw := want_or (rd c 0)
  have e5 : wrap64 (4 + 1) = 5 := by decide +kernel
  have e4 : wrap64 (3 + 1) = 4 := by decide +kernel
  have e3 : wrap64 (2 + 1) = 3 := by decide +kernel
  unfold larumref02_Begins.f
  rw [if_neg (by omega)]
  by_cases h3 : (c.length : Int) > 3
  · rw [if_pos h3]
    congr 1; symm; apply decide_eq_false; rintro ⟨h, _⟩; omega
  rw [if_neg h3, w64 (x := (c.length : Int) + 1) (by omega)]
  have s4 : (c.length : Int) < 4 → ∀ k', 151 ≤ k' → larumref02_Begins.l0 k' c 4 = some (decide (want (rd c 0) = 4 ∧ Fits c 4)) := fun h k' hk' => by
    rw [beg_l0 hb hc h (by omega) 1 false (fun k'' h'' => by rw [e5]; exact beg_end c k'' h'') k' (by omega), Bool.or_false]
    congr 1; exact decide_eq_decide.2 (tried_iff hb hc h (by omega))
  have s3 : (c.length : Int) < 3 → ∀ k', 301 ≤ k' → larumref02_Begins.l0 k' c 3 = some (decide (want (rd c 0) = 3 ∧ Fits c 3) || decide (want (rd c 0) = 4 ∧ Fits c 4)) := fun h k' hk' => by
    rw [beg_l0 hb hc h (by omega) 151 _ (fun k'' h'' => by rw [e4]; exact s4 (by omega) k'' h'') k' (by omega)]
    congr 2; exact decide_eq_decide.2 (tried_iff hb hc h (by omega))
  have s2 : (c.length : Int) < 2 → ∀ k', 451 ≤ k' → larumref02_Begins.l0 k' c 2 = some (decide (want (rd c 0) = 2 ∧ Fits c 2) || (decide (want (rd c 0) = 3 ∧ Fits c 3) || decide (want (rd c 0) = 4 ∧ Fits c 4))) := fun h k' hk' => by
    rw [beg_l0 hb hc h (by omega) 301 _ (fun k'' h'' => by rw [e3]; exact s3 (by omega) k'' h'') k' (by omega)]
    congr 2; exact decide_eq_decide.2 (tried_iff hb hc h (by omega))
  have hd : (c.length : Int) = 1 ∨ (c.length : Int) = 2 ∨ (c.length : Int) = 3 := by omega
  rcases hd with hd | hd | hd
  · rw [hd, show (1 : Int) + 1 = 2 from rfl, s2 (by omega) k (by omega)]
    congr 1; rw [Bool.eq_iff_iff]; simp only [Bool.or_eq_true, decide_eq_true_eq]
    rcases hw with h | ⟨h, _⟩ | ⟨h, _⟩ | ⟨h, _⟩ | ⟨h, _⟩ <;> rw [h] <;> simp
  · rw [hd, show (2 : Int) + 1 = 3 from rfl, s3 (by omega) k (by omega)]
    congr 1; rw [Bool.eq_iff_iff]; simp only [Bool.or_eq_true, decide_eq_true_eq]
    rcases hw with h | ⟨h, _⟩ | ⟨h, _⟩ | ⟨h, _⟩ | ⟨h, _⟩ <;> rw [h] <;> simp
  · rw [hd, show (3 : Int) + 1 = 4 from rfl, s4 (by omega) k (by omega)]
    congr 1; rw [Bool.eq_iff_iff]; simp only [decide_eq_true_eq]
    rcases hw with h | ⟨h, _⟩ | ⟨h, _⟩ | ⟨h, _⟩ | ⟨h, _⟩ <;> rw [h] <;> simp
/-- The reference's Next. -/
theorem rnext_eq {l : List Int} (hb : Byt l) (hl : 1 ≤ (l.length : Int)) {k : Nat} (hk : 510 ≤ k) : larumref02_Next.f k l =
    some (if want (rd l 0) = 0 ∨ ¬ Fits l (want (rd l 0)) then (0, 0) else if (l.length : Int) < want (rd l 0) then (0, -1) else (num4 l (want (rd l 0)), want (rd l 0))) := by
  have hw := want_or (rd l 0)
  unfold larumref02_Next.f
  have fin : ∀ k', 500 ≤ k' → ∀ j : Int, ¬ (j ≤ 4 ∧ j ≤ (l.length : Int)) → (∀ n, 1 ≤ n → n < j → ¬ (want (rd l 0) = n ∧ Fits l n)) → 1 ≤ j → larumref02_Next.l0 (k' + 1) l j = some (if want (rd l 0) = 0 ∨ ¬ Fits l (want (rd l 0)) then (0, 0) else if (l.length : Int) < want (rd l 0) then (0, -1) else (num4 l (want (rd l 0)), want (rd l 0))) := by
    intro k' hk' j hj hno h1
    have hb' : larumref02_Next.l0 (k' + 1) l j = (larumref02_Begins.f k' l).bind fun t => if t = true then some (0, -1) else some (0, 0) := by
      simp only [larumref02_Next.l0]
      by_cases h : j ≤ 4
      · rw [if_pos h, if_neg (fun h' => hj ⟨h, h'⟩)]
      · rw [if_neg h]
    rw [hb', begins_eq hb hl hk']
    simp only [Option.bind_some, decide_eq_true_eq]
    by_cases c0 : want (rd l 0) = 0
    · rw [if_pos (Or.inl c0), if_neg (by omega)]
    by_cases c1 : Fits l (want (rd l 0))
    · have hne : ¬ (want (rd l 0) = 0 ∨ ¬ Fits l (want (rd l 0))) := fun h => h.elim c0 (fun h => h c1)
      rw [if_neg hne]
      have hge : j ≤ want (rd l 0) := Int.not_lt.1 (fun h => hno _ (by omega) h ⟨rfl, c1⟩)
      rw [if_pos ⟨by omega, c1⟩, if_pos (by omega)]
    · rw [if_pos (Or.inr c1), if_neg (fun h => c1 h.2)]
  have step : ∀ k', 5 ≤ k' → ∀ n : Int, 1 ≤ n → n ≤ 4 → n ≤ (l.length : Int) → larumref02_Next.l0 (k' + 1) l n = if want (rd l 0) = n ∧ Fits l n then some (num4 l n, n) else larumref02_Next.l0 k' l (n + 1) := by
    intro k' hk' n h1 h4 hn
    simp only [larumref02_Next.l0]
    rw [if_pos h4, if_pos hn, w64 (x := n + 1) (by omega)]
    simp only [if_pos (show 0 ≤ n by omega)]
    exact tst hb h1 h4 hn hk' _ rfl (fun t => some (t, n)) _
  have main : ∀ d : Nat, ∀ k', 505 + d ≤ k' → ∀ j : Int, 1 ≤ j → j + d = 5 → (∀ n, 1 ≤ n → n < j → ¬ (want (rd l 0) = n ∧ Fits l n)) → larumref02_Next.l0 k' l j = some (if want (rd l 0) = 0 ∨ ¬ Fits l (want (rd l 0)) then (0, 0) else if (l.length : Int) < want (rd l 0) then (0, -1) else (num4 l (want (rd l 0)), want (rd l 0))) := by
    intro d
    induction d with
    | zero =>
      intro k' hk' j h1 hj hno
      obtain ⟨k', rfl⟩ : ∃ m, k' = m + 1 := ⟨k' - 1, by omega⟩
      exact fin k' (by omega) j (by omega) hno h1
    | succ d ih =>
      intro k' hk' j h1 hj hno
      obtain ⟨k', rfl⟩ : ∃ m, k' = m + 1 := ⟨k' - 1, by omega⟩
      by_cases hin : j ≤ 4 ∧ j ≤ (l.length : Int)
      · rw [step k' (by omega) j h1 hin.1 hin.2]
        by_cases h : want (rd l 0) = j ∧ Fits l j
        · rw [if_pos h]
          have hf : Fits l (want (rd l 0)) := by rw [h.1]; exact h.2
          rw [if_neg (fun h' => h'.elim (by omega) (fun h' => h' hf)), if_neg (by omega), h.1]
        · rw [if_neg h]
          exact ih k' (by omega) (j + 1) (by omega) (by omega) (fun n hn hlt => if e : n = j then by rw [e]; exact h else hno n hn (by omega))
      · exact fin k' (by omega) j hin hno h1
  exact main 4 k (by omega) 1 (by omega) (by omega) (fun n h1 h2 => by omega)
-- strings as lists of numbers
theorem Byt.drop {l : List Int} (h : Byt l) (n : Nat) : Byt (l.drop n) := fun x hx => h x (List.mem_of_mem_drop hx)
theorem u64w (x : Int) : IntKind.u64.wrap x = x % 18446744073709551616 := by simp [IntKind.wrap, IntKind.bits, IntKind.signed]
theorem wu64 {x : Int} (h : 0 ≤ x ∧ x ≤ 18446744073709551615) : IntKind.u64.wrap x = x := by rw [u64w]; omega
theorem bts_byt (s : ByteArray) : Byt (bytesOf s) := by
  intro x hx
  simp only [bytesOf, List.mem_map] at hx
  obtain ⟨b, _, rfl⟩ := hx
  have := b.toNat_lt
  omega
theorem bts_len (s : ByteArray) : ((bytesOf s).length : Int) = (s.size : Int) := by rw [bytesOf_length]
theorem bt_rd (s : ByteArray) (i : Int) : bt s i = rd (bytesOf s) i := (rd_bytesOf s i).symm
theorem tl (s : ByteArray) : s.toList = s.data.toList := ByteArray.toList_eq s
theorem u8_map_inj : ∀ {a b : List UInt8}, a.map (fun x => (x.toNat : Int)) = b.map (fun x => (x.toNat : Int)) → a = b
  | [], [], _ => rfl
  | [], _ :: _, h => by simp at h
  | _ :: _, [], h => by simp at h
  | x :: a, y :: b, h => by
    simp only [List.map_cons, List.cons.injEq] at h
    rw [u8_map_inj h.2, UInt8.toNat_inj.1 (by omega : x.toNat = y.toNat)]
theorem tl_iff (s t : ByteArray) : s.toList = t.toList ↔ bytesOf s = bytesOf t := by
  rw [tl, tl]
  exact ⟨fun h => by unfold bytesOf; rw [h], fun h => u8_map_inj h⟩
theorem tl_nil (s : ByteArray) : s.toList = ([] : List UInt8) ↔ bytesOf s = [] := by
  rw [tl]
  unfold bytesOf
  rw [List.map_eq_nil_iff]
theorem bts_extract (s : ByteArray) (a b : Nat) : bytesOf (s.extract a b) = ((bytesOf s).take b).drop a := by
  unfold bytesOf
  rw [List.drop_take, ← List.map_drop, ← List.map_take]
  congr 1
  simp [List.drop_take]
theorem bts_extract_to (s : ByteArray) (a : Nat) : bytesOf (s.extract a s.size) = (bytesOf s).drop a := by
  rw [bts_extract, List.take_of_length_le (by rw [bytesOf_length]; omega)]
theorem bts_append (s t : ByteArray) : bytesOf (s ++ t) = bytesOf s ++ bytesOf t := by
  unfold bytesOf
  rw [← List.map_append]
  congr 1
theorem bts_size (s : ByteArray) : s.size = (bytesOf s).length := (bytesOf_length s).symm
theorem drop_rd {l : List Int} {i : Nat} (h : i < l.length) : l.drop i = rd l (i : Int) :: l.drop (i + 1) := by
  rw [List.drop_eq_getElem_cons h]
  unfold rd
  simp [List.getD_eq_getElem?_getD, List.getElem?_eq_getElem h]
theorem rd_cons_zero (a : Int) (l : List Int) : rd (a :: l) 0 = a := rfl
theorem awake_k {k : Nat} (hk : 10 ≤ k) : larumlaw02_awake.f k = some true := at_rounds (g := fun k => larumlaw02_awake.f k) (fun k => larumlaw02_awake.mono k) hk awake10
theorem next_eq' {l : List Int} (hb : Byt l) (hl : 0 < (l.length : Int)) {k : Nat} (hk : 5 ≤ k) : utf_Next.f k l =
    if want (rd l 0) = 0 ∨ ¬ Fits l (want (rd l 0)) then some (0, 0, 3) else if (l.length : Int) < want (rd l 0) then some (0, 0, 11) else some (num4 l (want (rd l 0)), want (rd l 0), 0) := by
  obtain ⟨q, rfl⟩ : ∃ q, k = q + 5 := ⟨k - 5, by omega⟩
  exact next_eq hb hl q
theorem walks (s : ByteArray) (hs : s.size ≤ 60) (d : Nat) : ∀ (i k : Nat) (n : Int), i + d = s.size → d + 600 ≤ k → 0 ≤ n → n ≤ i →
    ∃ r a : Int, utf_walk.l0 k (bytesOf s) (i : Int) n = some (r, a) ∧ larumref02_Walk.l0 k s (i : Int) n = some (r, a) ∧ a ≤ s.size := by
  have hl := bytesOf_length s
  induction d using Nat.strongRecOn with
  | _ d ih =>
    intro i k n hi hk h0 h1
    obtain ⟨k, rfl⟩ : ∃ m, k = m + 1 := ⟨k - 1, by omega⟩
    simp only [utf_walk.l0, larumref02_Walk.l0]
    by_cases c : (i : Int) < (s.size : Int)
    · have hb : Byt ((bytesOf s).drop i) := (bts_byt s).drop i
      have hld : ((bytesOf s).drop i).length = d := by rw [List.length_drop]; omega
      have hw := want_or (rd ((bytesOf s).drop i) 0)
      rw [if_pos (by omega), if_pos (by omega), if_pos (by omega), if_pos c, if_pos (by omega), if_pos (by omega), Int.toNat_natCast, if_pos (by simp; omega), bts_extract_to,
        next_eq' hb (by omega) (by omega), rnext_eq hb (by omega) (by omega)]
      by_cases c0 : want (rd ((bytesOf s).drop i) 0) = 0 ∨ ¬ Fits ((bytesOf s).drop i) (want (rd ((bytesOf s).drop i) 0))
      · rw [if_pos c0, if_pos c0]
        exact ⟨n, i, rfl, rfl, by omega⟩
      rw [if_neg c0, if_neg c0]
      by_cases c1 : (((bytesOf s).drop i).length : Int) < want (rd ((bytesOf s).drop i) 0)
      · rw [if_pos c1, if_pos c1]
        exact ⟨n, i, rfl, rfl, by omega⟩
      rw [if_neg c1, if_neg c1]
      simp only [Option.bind_some]
      have hne : ¬ want (rd ((bytesOf s).drop i) 0) = 0 := fun h => c0 (Or.inl h)
      rw [if_pos trivial, if_neg (by omega), w64 (x := (i : Int) + want (rd ((bytesOf s).drop i) 0)) (by omega), w64 (x := n + 1) (by omega)]
      obtain ⟨m, hm⟩ : ∃ m : Nat, want (rd ((bytesOf s).drop i) 0) = (m : Int) := ⟨(want (rd ((bytesOf s).drop i) 0)).toNat, by omega⟩
      rw [hm] at c1 hne hw ⊢
      rw [show (i : Int) + (m : Int) = ((i + m : Nat) : Int) by omega]
      exact ih (d - m) (by omega) (i + m) k (n + 1) (by omega) (by omega) (by omega) (by omega)
    · rw [if_neg (by omega), if_neg c]
      exact ⟨n, i, rfl, rfl, by omega⟩
theorem short_eq (s : ByteArray) : ∃ t, larumlaw02_short.f s = some t ∧ t.size ≤ 60 := by
  unfold larumlaw02_short.f
  by_cases h : (s.size : Int) > 60
  · exact ⟨_, by rw [if_pos h, if_pos (by decide), if_pos (by omega)], by simp; omega⟩
  · exact ⟨s, by rw [if_neg h], by omega⟩
theorem UtfWalks : larumlaw02_UtfWalks.Pure := by
  intro s _
  obtain ⟨t, ht, hl⟩ := short_eq s
  obtain ⟨r, a, h1, h2, h3⟩ := walks t hl t.size 0 1000 0 (by omega) (by omega) (by omega) (by omega)
  have hw : utf_walk.f 1000 t = some (r, a) := by unfold utf_walk.f; rw [if_pos (by omega)]; exact h1
  have hr : larumref02_Walk.f 1000 t = some (r, a) := by unfold larumref02_Walk.f; exact h2
  refine ⟨1000, ?_⟩
  unfold larumlaw02_UtfWalks.f utf_Bad.f utf_Count.f utf_Valid.f
  rw [ht]
  simp only [Option.bind_some, hw, hr, awake_k (k := 1000) (by decide)]
  by_cases c : a = (t.size : Int)
  · rw [if_pos c]
    simp [c]
  · rw [if_neg c]
    rw [if_pos (show a < (t.size : Int) by omega)]
    simp [c]
end Go.Proofs.Ytdeggcnccciapaa.Pure
