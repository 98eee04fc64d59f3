/- A rune's bytes are as the chapter says, and mean that rune: for any number. No condition. -/
import Derived.Test.YtdeggcnccciapaaPUtfPutx4
namespace Go.Proofs.Ytdeggcnccciapaa.Pure
open Go Go.RowKit Go.Proofs.Ytdeggcnccciapaa.PUtfPut Go.Proofs.YtdeggcnccciapaaW Go.Proofs.YtdeggcnccciapaaW.PrintWords Go.Proofs.YtdeggcnccciapaaW.PrintLast Go.Proofs.YtdeggcnccciapaaW.PrintMore
set_option linter.unusedVariables false
set_option linter.unusedSimpArgs false
-- utf.Next, step by step: what it answers at any bytes
theorem i32_bd {a : Int} (h : (Lit.int .i32 a).wf = true) : -2147483648 ≤ a ∧ a ≤ 2147483647 := by
  simpa [Lit.wf, IntKind.min, IntKind.max, IntKind.bits, IntKind.signed] using h
theorem u8_bd {a : Int} (h : (Lit.int .u8 a).wf = true) : 0 ≤ a ∧ a ≤ 255 := by
  simpa [Lit.wf, IntKind.min, IntKind.max, IntKind.bits, IntKind.signed] using h
theorem awake10 : larumlaw02_awake.f 10 = some true := by decide +kernel
def Byt (l : List Int) : Prop := ∀ x ∈ l, 0 ≤ x ∧ x ≤ 255
theorem Byt.rd {l : List Int} (h : Byt l) (i : Int) : 0 ≤ PrintWords.rd l i ∧ PrintWords.rd l i ≤ 255 := by
  unfold PrintWords.rd
  rw [List.getD_eq_getElem?_getD]
  by_cases hi : i.toNat < l.length
  · rw [List.getElem?_eq_getElem hi]; exact h _ (List.getElem_mem hi)
  · rw [List.getElem?_eq_none (by omega)]; decide
theorem and63 : ∀ c : Fin 256, Go.bits .and .i32 (wrap32 (c.val : Int)) 63 = (c.val : Int) % 64 := by decide +kernel
theorem and63' {c : Int} (h : 0 ≤ c ∧ c ≤ 255) : Go.bits .and .i32 (wrap32 c) 63 = c % 64 := by
  have := and63 ⟨c.toNat, by omega⟩
  simpa [Int.toNat_of_nonneg h.1] using this
theorem an192 : ∀ c : Fin 32, Go.bits .andNot .i32 (wrap32 (192 + (c.val : Int))) 192 = (c.val : Int) := by decide +kernel
theorem an224 : ∀ c : Fin 16, Go.bits .andNot .i32 (wrap32 (224 + (c.val : Int))) 224 = (c.val : Int) := by decide +kernel
theorem an240 : ∀ c : Fin 8, Go.bits .andNot .i32 (wrap32 (240 + (c.val : Int))) 240 = (c.val : Int) := by decide +kernel
theorem an0 : ∀ c : Fin 128, Go.bits .andNot .i32 (wrap32 (c.val : Int)) 0 = (c.val : Int) := by decide +kernel
theorem an192' {c : Int} (h : 192 ≤ c) (h' : c < 224) : Go.bits .andNot .i32 (wrap32 c) 192 = c - 192 := by
  have := an192 ⟨(c - 192).toNat, by omega⟩
  simp only [Int.toNat_of_nonneg (show 0 ≤ c - 192 by omega)] at this
  rwa [show 192 + (c - 192) = c by omega] at this
theorem an224' {c : Int} (h : 224 ≤ c) (h' : c < 240) : Go.bits .andNot .i32 (wrap32 c) 224 = c - 224 := by
  have := an224 ⟨(c - 224).toNat, by omega⟩
  simp only [Int.toNat_of_nonneg (show 0 ≤ c - 224 by omega)] at this
  rwa [show 224 + (c - 224) = c by omega] at this
theorem an240' {c : Int} (h : 240 ≤ c) (h' : c < 248) : Go.bits .andNot .i32 (wrap32 c) 240 = c - 240 := by
  have := an240 ⟨(c - 240).toNat, by omega⟩
  simp only [Int.toNat_of_nonneg (show 0 ≤ c - 240 by omega)] at this
  rwa [show 240 + (c - 240) = c by omega] at this
theorem an0' {c : Int} (h : 0 ≤ c) (h' : c < 128) : Go.bits .andNot .i32 (wrap32 c) 0 = c := by
  have := an0 ⟨c.toNat, by omega⟩
  simpa only [Int.toNat_of_nonneg h] using this
/-- One byte more. -/
theorem more6 {x c : Int} (h : 0 ≤ x ∧ x < 1048576) (hc : 0 ≤ c ∧ c ≤ 255) : Go.bits .or .i32 (wrap32 (x * 64)) (Go.bits .and .i32 (wrap32 c) 63) = 64 * x + c % 64 := by
  rw [and63' hc, show wrap32 (x * 64) = x * 64 by unfold wrap32; omega, i32_or6 (x := x * 64) (y := c % 64) (by omega) (by omega) (by omega) (by omega) (by omega)]
  omega
/-- How many bytes one asks. -/
def want (c : Int) : Int := if c < 128 then 1 else if c < 194 then 0 else if c < 224 then 2 else if c < 240 then 3 else if c < 245 then 4 else 0
theorem wanted_eq (c : Int) : utf_wanted.f c = some (want c) := by
  unfold utf_wanted.f want
  repeat' split
  all_goals first | rfl | omega
theorem lead_eq {n : Int} (h : 1 ≤ n) (h' : n ≤ 4) : utf_lead.f n = some (if n = 1 then 0 else if n = 2 then 192 else if n = 3 then 224 else 240) := by
  have : n = 1 ∨ n = 2 ∨ n = 3 ∨ n = 4 := by omega
  rcases this with rfl | rfl | rfl | rfl <;> rfl
def loB (c : Int) : Int := if c = 224 then 160 else if c = 240 then 144 else 128
def hiB (c : Int) : Int := if c = 237 then 159 else if c = 244 then 143 else 191
/-- Do so many bytes fit? -/
def Fits (l : List Int) (n : Int) : Prop := (1 < n ∧ 1 < (l.length : Int) → loB (rd l 0) ≤ rd l 1 ∧ rd l 1 ≤ hiB (rd l 0)) ∧ (2 < n ∧ 2 < (l.length : Int) → 128 ≤ rd l 2 ∧ rd l 2 ≤ 191) ∧ (3 < n ∧ 3 < (l.length : Int) → 128 ≤ rd l 3 ∧ rd l 3 ≤ 191)
instance (l : List Int) (n : Int) : Decidable (Fits l n) := by unfold Fits; exact inferInstance
theorem wr2 : wrap64 (1 + 1) = 2 := by decide +kernel
theorem wr3 : wrap64 (2 + 1) = 3 := by decide +kernel
theorem wr4 : wrap64 (3 + 1) = 4 := by decide +kernel
theorem fits_l0 {l : List Int} {n lo hi : Int} (hn : n ≤ 4) {k : Nat} : utf_fits.l0 (k + 5) l n lo hi 1 = some (decide ((1 < n ∧ 1 < (l.length : Int) → lo ≤ rd l 1 ∧ rd l 1 ≤ hi) ∧ (2 < n ∧ 2 < (l.length : Int) → 128 ≤ rd l 2 ∧ rd l 2 ≤ 191) ∧ (3 < n ∧ 3 < (l.length : Int) → 128 ≤ rd l 3 ∧ rd l 3 ≤ 191))) := by
  have step : ∀ (k : Nat) (lo hi i : Int), 1 ≤ i → i < n → i < (l.length : Int) → utf_fits.l0 (k + 1) l n lo hi i = if lo ≤ rd l i ∧ rd l i ≤ hi then utf_fits.l0 k l n 128 191 (wrap64 (i + 1)) else some false := by
    intro k lo hi i h1 h2 h3
    simp only [utf_fits.l0]
    rw [if_pos (by unfold mn; split <;> omega), if_pos (by omega), if_pos h3]
    by_cases c1 : rd l i < lo
    · rw [if_pos c1, if_neg (by omega)]
    · rw [if_neg c1]
      by_cases c2 : rd l i > hi
      · rw [if_pos c2, if_neg (by omega)]
      · rw [if_neg c2, if_pos (by omega)]
  have stop : ∀ (k : Nat) (lo hi i : Int), ¬ (i < n ∧ i < (l.length : Int)) → utf_fits.l0 (k + 1) l n lo hi i = some true := by
    intro k lo hi i h1
    simp only [utf_fits.l0]
    rw [if_neg (by unfold mn; split <;> omega)]
  by_cases c1 : 1 < n ∧ 1 < (l.length : Int)
  · rw [step (k + 4) _ _ _ (by omega) c1.1 c1.2, wr2]
    by_cases d1 : lo ≤ rd l 1 ∧ rd l 1 ≤ hi
    · rw [if_pos d1]
      by_cases c2 : 2 < n ∧ 2 < (l.length : Int)
      · rw [step (k + 3) _ _ _ (by omega) c2.1 c2.2, wr3]
        by_cases d2 : 128 ≤ rd l 2 ∧ rd l 2 ≤ 191
        · rw [if_pos d2]
          by_cases c3 : 3 < n ∧ 3 < (l.length : Int)
          · rw [step (k + 2) _ _ _ (by omega) c3.1 c3.2, wr4]
            by_cases d3 : 128 ≤ rd l 3 ∧ rd l 3 ≤ 191
            · rw [if_pos d3, stop (k + 1) _ _ _ (by omega)]
              congr 1; symm; apply decide_eq_true; exact ⟨fun _ => d1, fun _ => d2, fun _ => d3⟩
            · rw [if_neg d3]
              congr 1; symm; apply decide_eq_false; exact fun h => d3 (h.2.2 c3)
          · rw [stop (k + 2) _ _ _ c3]
            congr 1; symm; apply decide_eq_true; exact ⟨fun _ => d1, fun _ => d2, fun h => absurd h c3⟩
        · rw [if_neg d2]
          congr 1; symm; apply decide_eq_false; exact fun h => d2 (h.2.1 c2)
      · rw [stop (k + 3) _ _ _ c2]
        congr 1; symm; apply decide_eq_true; exact ⟨fun _ => d1, fun h => absurd h c2, fun h => absurd ⟨by omega, by omega⟩ c2⟩
    · rw [if_neg d1]
      congr 1; symm; apply decide_eq_false; exact fun h => d1 (h.1 c1)
  · rw [stop (k + 4) _ _ _ c1]
    congr 1; symm; apply decide_eq_true; exact ⟨fun h => absurd h c1, fun h => absurd ⟨by omega, by omega⟩ c1, fun h => absurd ⟨by omega, by omega⟩ c1⟩
theorem fits_eq {l : List Int} {n : Int} (hl : 0 < (l.length : Int)) (hn : n ≤ 4) (k : Nat) : utf_fits.f (k + 5) l n = some (decide (Fits l n)) := by
  unfold utf_fits.f Fits loB hiB
  rw [if_pos hl]
  by_cases c1 : rd l 0 = 224
  · rw [if_pos c1, fits_l0 hn]; simp [c1]
  rw [if_neg c1]
  by_cases c2 : rd l 0 = 237
  · rw [if_pos c2, fits_l0 hn]; simp [c2]
  rw [if_neg c2]
  by_cases c3 : rd l 0 = 240
  · rw [if_pos c3, fits_l0 hn]; simp [c3]
  rw [if_neg c3]
  by_cases c4 : rd l 0 = 244
  · rw [if_pos c4, fits_l0 hn]; simp [c4]
  rw [if_neg c4, fits_l0 hn]; simp [c1, c2, c3, c4]
theorem rd_cut (l : List Int) (n i : Int) (hn : 1 ≤ n) (hl : n ≤ (l.length : Int)) (h0 : 0 ≤ i) (h1 : i < n - 1) : rd ((l.take n.toNat).drop 1) i = rd l (i + 1) := by
  unfold rd
  rw [List.getD_eq_getElem?_getD, List.getD_eq_getElem?_getD, List.getElem?_drop, List.getElem?_take, if_pos (by omega), show 1 + i.toNat = (i + 1).toNat by omega]
theorem cut_len (l : List Int) (n : Int) (hn : 1 ≤ n) (hl : n ≤ (l.length : Int)) : (((l.take n.toNat).drop 1).length : Int) = n - 1 := by
  rw [List.length_drop, List.length_take]; omega
/-- The number that so many bytes say. -/
def num4 (l : List Int) (n : Int) : Int :=
  if n = 1 then rd l 0 else if n = 2 then 64 * (rd l 0 - 192) + rd l 1 % 64
  else if n = 3 then 64 * (64 * (rd l 0 - 224) + rd l 1 % 64) + rd l 2 % 64
  else 64 * (64 * (64 * (rd l 0 - 240) + rd l 1 % 64) + rd l 2 % 64) + rd l 3 % 64
theorem next_l0 {l : List Int} (hb : Byt l) {n : Int} (hn : 1 ≤ n) (hn4 : n ≤ 4) (hl : n ≤ (l.length : Int)) (x : Int) (hx : 0 ≤ x ∧ x < 32) (k : Nat) :
    utf_Next.l0 (k + 5) n x ((l.take n.toNat).drop 1) (((l.take n.toNat).drop 1).length : Int) 0 = some ((if n = 1 then x else if n = 2 then 64 * x + rd l 1 % 64 else if n = 3 then 64 * (64 * x + rd l 1 % 64) + rd l 2 % 64 else 64 * (64 * (64 * x + rd l 1 % 64) + rd l 2 % 64) + rd l 3 % 64), n, 0) := by
  have step : ∀ (k : Nat) (x i : Int), 0 ≤ i → i < n - 1 → 0 ≤ x ∧ x < 1048576 → utf_Next.l0 (k + 1) n x ((l.take n.toNat).drop 1) (((l.take n.toNat).drop 1).length : Int) i = utf_Next.l0 k n (64 * x + rd l (i + 1) % 64) ((l.take n.toNat).drop 1) (((l.take n.toNat).drop 1).length : Int) (wrap64 (i + 1)) := by
    intro k x i h0 h1 hx
    simp only [utf_Next.l0]
    rw [if_pos (by rw [cut_len l n hn hl]; omega), if_pos h0, if_pos (by rw [cut_len l n hn hl]; omega), rd_cut l n i hn hl h0 h1, more6 hx (hb.rd _)]
  have stop : ∀ (k : Nat) (x i : Int), ¬ i < n - 1 → utf_Next.l0 (k + 1) n x ((l.take n.toNat).drop 1) (((l.take n.toNat).drop 1).length : Int) i = some (x, n, 0) := by
    intro k x i h1
    simp only [utf_Next.l0]
    rw [if_neg (by rw [cut_len l n hn hl]; omega)]
  have b1 := hb.rd 1
  have b2 := hb.rd 2
  have b3 := hb.rd 3
  have w1 : wrap64 (0 + 1) = 1 := by decide +kernel
  have hc : n = 1 ∨ n = 2 ∨ n = 3 ∨ n = 4 := by omega
  rcases hc with rfl | rfl | rfl | rfl
  · rw [stop (k + 4) _ _ (by omega)]; rfl
  · rw [step (k + 4) _ _ (by omega) (by omega) (by omega), w1, stop (k + 3) _ _ (by omega)]; rfl
  · rw [step (k + 4) _ _ (by omega) (by omega) (by omega), w1, step (k + 3) _ _ (by omega) (by omega) (by omega), wr2, stop (k + 2) _ _ (by omega)]; rfl
  · rw [step (k + 4) _ _ (by omega) (by omega) (by omega), w1, step (k + 3) _ _ (by omega) (by omega) (by omega), wr2, step (k + 2) _ _ (by omega) (by omega) (by omega), wr3, stop (k + 1) _ _ (by omega)]; rfl
theorem want_or (c : Int) : want c = 0 ∨ (want c = 1 ∧ c < 128) ∨ (want c = 2 ∧ 194 ≤ c ∧ c < 224) ∨ (want c = 3 ∧ 224 ≤ c ∧ c < 240) ∨ (want c = 4 ∧ 240 ≤ c ∧ c < 245) := by
  unfold want
  repeat' split
  all_goals omega
/-- The whole of utf.Next. -/
theorem next_eq {l : List Int} (hb : Byt l) (hl : 0 < (l.length : Int)) (k : Nat) : utf_Next.f (k + 5) l =
    if want (rd l 0) = 0 ∨ ¬ Fits l (want (rd l 0)) then some (0, 0, 3) else if (l.length : Int) < want (rd l 0) then some (0, 0, 11) else some (num4 l (want (rd l 0)), want (rd l 0), 0) := by
  have b0 := hb.rd 0
  have hw := want_or (rd l 0)
  unfold utf_Next.f
  rw [if_neg (by omega), if_pos hl, wanted_eq]
  simp only [Option.bind_some]
  by_cases c0 : want (rd l 0) = 0
  · rw [if_pos c0, if_pos (Or.inl c0)]
  rw [if_neg c0, fits_eq hl (by omega)]
  simp only [Option.bind_some, decide_eq_true_eq]
  by_cases c1 : Fits l (want (rd l 0))
  · rw [if_pos c1, if_neg (show ¬ (want (rd l 0) = 0 ∨ ¬ Fits l (want (rd l 0))) from fun h => h.elim c0 (fun h => h c1))]
    by_cases c2 : (l.length : Int) < want (rd l 0)
    · rw [if_pos c2, if_pos c2]
    · rw [if_neg c2, if_neg c2, lead_eq (by omega) (by omega)]
      simp only [Option.bind_some]
      rw [if_pos (by omega), if_pos (by omega)]
      rcases hw with h | ⟨h, h1⟩ | ⟨h, h1, h2⟩ | ⟨h, h1, h2⟩ | ⟨h, h1, h2⟩
      · exact absurd h c0
      · rw [h] at c2 ⊢
        rw [if_pos rfl, an0' b0.1 h1]
        simp [num4, utf_Next.l0, List.length_drop, List.length_take]
      · rw [h] at c2 ⊢
        rw [if_neg (by omega), if_pos rfl, an192' (by omega) h2, next_l0 hb (by omega) (by omega) (by omega) _ (by omega)]; rfl
      · rw [h] at c2 ⊢
        rw [if_neg (by omega), if_neg (by omega), if_pos rfl, an224' (by omega) h2, next_l0 hb (by omega) (by omega) (by omega) _ (by omega)]; rfl
      · rw [h] at c2 ⊢
        rw [if_neg (by omega), if_neg (by omega), if_neg (by omega), an240' (by omega) (by omega), next_l0 hb (by omega) (by omega) (by omega) _ (by omega)]; rfl
  · rw [if_neg c1, if_pos (Or.inr c1)]
-- a rune's bytes
def IsR (v : Int) : Prop := 0 ≤ v ∧ v ≤ 1114111 ∧ (v < 55296 ∨ 57343 < v)
instance (v : Int) : Decidable (IsR v) := by unfold IsR; exact inferInstance
theorem Is_eq (v : Int) : larumref02_Is.f v = some (decide (IsR v)) := by
  unfold larumref02_Is.f IsR
  repeat' split
  all_goals (congr 1; first | (symm; apply decide_eq_true; omega) | (symm; apply decide_eq_false; omega) | (apply decide_eq_decide.mpr; omega))
def enc (a : Int) : List Int := if a < 128 then [a] else if a < 2048 then [192 + a / 64, 128 + a % 64] else if a < 65536 then [224 + a / 4096, 128 + a / 64 % 64, 128 + a % 64] else [240 + a / 262144, 128 + a / 4096 % 64, 128 + a / 64 % 64, 128 + a % 64]
theorem w64 {x : Int} (h : -9223372036854775808 ≤ x ∧ x ≤ 9223372036854775807) : wrap64 x = x := by unfold wrap64; omega
theorem RPut_eq {a : Int} (h : IsR a) : larumref02_Put.f a = some (enc a) := by
  have h0 : 0 ≤ a := h.1
  have h1 : a ≤ 1114111 := h.2.1
  unfold larumref02_Put.f enc
  rw [Is_eq, decide_eq_true h]
  simp only [Option.bind_some, if_true]
  have e : ∀ n : Int, 0 < n → Int.tdiv a n = a / n := fun n _ => Int.tdiv_eq_ediv_of_nonneg h0
  have e' : ∀ n : Int, 0 < n → Int.tmod a n = a % n := fun n _ => Int.tmod_eq_emod_of_nonneg h0
  by_cases c1 : a < 128
  · rw [if_pos c1, if_pos c1, Int.emod_eq_of_lt h0 (by omega)]
  rw [if_neg c1, if_neg c1, e 64 (by omega), e' 64 (by omega), w64 (x := a / 64) (by omega)]
  by_cases c2 : a < 2048
  · rw [if_pos c2, if_pos c2, w64 (by omega), w64 (by omega), Int.emod_eq_of_lt (by omega) (by omega), Int.emod_eq_of_lt (a := 128 + a % 64) (by omega) (by omega)]
  rw [if_neg c2, if_neg c2, e 4096 (by omega), Int.tmod_eq_emod_of_nonneg (a := a / 64) (by omega), w64 (x := a / 4096) (by omega), w64 (x := 128 + a / 64 % 64) (by omega), w64 (x := 128 + a % 64) (by omega), Int.emod_eq_of_lt (a := 128 + a % 64) (by omega) (by omega), Int.emod_eq_of_lt (a := 128 + a / 64 % 64) (by omega) (by omega)]
  by_cases c3 : a < 65536
  · rw [if_pos c3, if_pos c3, w64 (by omega), Int.emod_eq_of_lt (a := 224 + a / 4096) (by omega) (by omega)]
  rw [if_neg c3, if_neg c3, e 262144 (by omega), Int.tmod_eq_emod_of_nonneg (a := a / 4096) (by omega), w64 (x := a / 262144) (by omega), w64 (x := 240 + a / 262144) (by omega), w64 (x := 128 + a / 4096 % 64) (by omega), Int.emod_eq_of_lt (a := 240 + a / 262144) (by omega) (by omega), Int.emod_eq_of_lt (a := 128 + a / 4096 % 64) (by omega) (by omega)]
theorem is_eq (v : Int) : utf_is.f v = some (decide (IsR v)) := by
  unfold utf_is.f IsR
  repeat' split
  all_goals (congr 1; first | (symm; apply decide_eq_true; omega) | (symm; apply decide_eq_false; omega) | (apply decide_eq_decide.mpr; omega))
theorem a63 {x : Int} (h0 : 0 ≤ x) (h1 : x < 2147483648) : Go.bits .and .i32 x 63 = x % 64 := bits_mask .i32 31 (by decide) wraps_i32 6 (by decide) x h0 h1
theorem foll {x : Int} (h0 : 0 ≤ x) (h1 : x < 2147483648) : (Go.bits .or .i32 128 (Go.bits .and .i32 x 63)) % 256 = 128 + x % 64 := by
  rw [a63 h0 h1, i32_or6 (x := 128) (y := x % 64) (by omega) (by omega) (by omega) (by omega) (by omega)]
  omega
theorem or0 : ∀ c : Fin 128, (Go.bits .or .i32 0 (c.val : Int)) % 256 = (c.val : Int) := by decide +kernel
theorem or192 : ∀ c : Fin 32, (Go.bits .or .i32 192 (c.val : Int)) % 256 = 192 + (c.val : Int) := by decide +kernel
theorem or224 : ∀ c : Fin 16, (Go.bits .or .i32 224 (c.val : Int)) % 256 = 224 + (c.val : Int) := by decide +kernel
theorem or240 : ∀ c : Fin 8, (Go.bits .or .i32 240 (c.val : Int)) % 256 = 240 + (c.val : Int) := by decide +kernel
theorem fin_of {n : Nat} {P : Int → Prop} (h : ∀ c : Fin n, P (c.val : Int)) {x : Int} (h0 : 0 ≤ x) (h1 : x < n) : P x := by
  have := h ⟨x.toNat, by omega⟩
  simpa only [Int.toNat_of_nonneg h0] using this
theorem put_step (k : Nat) (x n : Int) (l : List Int) (i : Int) (h : 0 < i) (hi : i ≤ 4) (h' : i < (l.length : Int)) (hx : 0 ≤ x ∧ x < 2147483648) : utf_Put.l0 (k + 1) x n l i = utf_Put.l0 k (x / 64) n (l.set i.toNat (128 + x % 64)) (i - 1) := by
  simp only [utf_Put.l0]
  rw [if_pos h, if_pos (by omega), if_pos h', foll hx.1 hx.2, w64 (by omega)]
theorem put_stop (k : Nat) (x n : Int) (l : List Int) (hl : 0 < (l.length : Int)) (hn : 1 ≤ n) (hn' : n ≤ 4) : utf_Put.l0 (k + 1) x n l 0 = some (l.set 0 ((Go.bits .or .i32 (if n = 1 then 0 else if n = 2 then 192 else if n = 3 then 224 else 240) x) % 256), 0) := by
  simp only [utf_Put.l0]
  rw [if_neg (by omega), lead_eq hn hn']
  simp only [Option.bind_some]
  rw [if_pos hl]; rfl
theorem put_eq {a : Int} (h : IsR a) : utf_Put.f 10 a = some (enc a, 0) := by
  have h0 : 0 ≤ a := h.1
  have h1 : a ≤ 1114111 := h.2.1
  unfold utf_Put.f
  rw [is_eq, decide_eq_true h]
  simp only [Option.bind_some, if_true]
  unfold utf_width.f enc
  by_cases c3 : a ≥ 65536
  · rw [if_pos c3, if_neg (by omega), if_neg (by omega), if_neg (by omega)]
    simp only [Option.bind_some, show ((1 : Int) + 1 + 1 + 1) = 4 from rfl]
    rw [if_pos (by decide), if_pos (by decide), show wrap64 ((4 : Int) - 1) = 3 by decide +kernel]
    rw [put_step 9 _ _ _ 3 (by omega) (by omega) (by decide) (by omega), put_step 8 _ _ _ _ (by omega) (by omega) (by simp) (by omega), put_step 7 _ _ _ _ (by omega) (by omega) (by simp) (by omega)]
    rw [show (3 : Int) - 1 - 1 - 1 = 0 from rfl, put_stop 6 _ _ _ (by simp) (by decide) (by decide)]
    simp only [show ((4 : Int) = 1) = False from by simp, show ((4 : Int) = 2) = False from by simp, show ((4 : Int) = 3) = False from by simp, if_false]
    rw [show a / 64 / 64 / 64 = a / 262144 by omega, show a / 64 / 64 = a / 4096 by omega, fin_of (P := fun x => (Go.bits .or .i32 240 x) % 256 = 240 + x) or240 (by omega) (by omega)]
    rfl
  rw [if_neg c3]
  by_cases c2 : a ≥ 2048
  · rw [if_pos c2, if_neg (by omega), if_neg (by omega), if_pos (by omega)]
    simp only [Option.bind_some, show ((1 : Int) + 1 + 1) = 3 from rfl]
    rw [if_pos (by decide), if_pos (by decide), show wrap64 ((3 : Int) - 1) = 2 by decide +kernel]
    rw [put_step 9 _ _ _ 2 (by omega) (by omega) (by decide) (by omega), put_step 8 _ _ _ _ (by omega) (by omega) (by simp) (by omega)]
    rw [show (2 : Int) - 1 - 1 = 0 from rfl, put_stop 7 _ _ _ (by simp) (by decide) (by decide)]
    simp only [show ((3 : Int) = 1) = False from by simp, show ((3 : Int) = 2) = False from by simp, if_false, if_true]
    rw [show a / 64 / 64 = a / 4096 by omega, fin_of (P := fun x => (Go.bits .or .i32 224 x) % 256 = 224 + x) or224 (by omega) (by omega)]
    rfl
  rw [if_neg c2]
  by_cases c1 : a ≥ 128
  · rw [if_pos c1, if_neg (by omega), if_pos (by omega)]
    simp only [Option.bind_some, show ((1 : Int) + 1) = 2 from rfl]
    rw [if_pos (by decide), if_pos (by decide), show wrap64 ((2 : Int) - 1) = 1 by decide +kernel]
    rw [put_step 9 _ _ _ 1 (by omega) (by omega) (by decide) (by omega)]
    rw [show (1 : Int) - 1 = 0 from rfl, put_stop 8 _ _ _ (by simp) (by decide) (by decide)]
    simp only [show ((2 : Int) = 1) = False from by simp, if_false, if_true]
    rw [fin_of (P := fun x => (Go.bits .or .i32 192 x) % 256 = 192 + x) or192 (by omega) (by omega)]
    rfl
  rw [if_neg c1, if_pos (by omega)]
  simp only [Option.bind_some]
  rw [if_pos (by decide), if_pos (by decide), show wrap64 ((1 : Int) - 1) = 0 by decide +kernel]
  rw [put_stop 9 _ _ _ (by decide) (by decide) (by decide)]
  simp only [if_true]
  rw [fin_of (P := fun x => (Go.bits .or .i32 0 x) % 256 = x) or0 (by omega) (by omega)]
  rfl
/-- A rune's bytes mean it. -/
theorem next_enc {a : Int} (h : IsR a) : utf_Next.f 10 (enc a) = some (a, ((enc a).length : Int), 0) := by
  have h0 : 0 ≤ a := h.1
  have h1 : a ≤ 1114111 := h.2.1
  have h2 : a < 55296 ∨ 57343 < a := h.2.2
  have hb : Byt (enc a) := by
    unfold enc Byt
    repeat' split
    all_goals (intro x hx; simp at hx; omega)
  have hl : 0 < ((enc a).length : Int) := by
    unfold enc
    repeat' split
    all_goals simp
  rw [next_eq hb hl 5]
  unfold enc
  by_cases c1 : a < 128
  · rw [if_pos c1]
    have hw : want (rd [a] 0) = 1 := by simp [rd, want, c1]
    rw [hw, if_neg (by simp [Fits]), if_neg (by simp)]
    simp [num4, rd]
  rw [if_neg c1]
  by_cases c2 : a < 2048
  · rw [if_pos c2]
    have hw : want (rd [192 + a / 64, 128 + a % 64] 0) = 2 := by
      simp only [rd, want, Int.toNat_zero, List.getD_cons_zero]
      rw [if_neg (by omega), if_neg (by omega), if_pos (by omega)]
    rw [hw, if_neg (by simp [Fits, rd, loB, hiB]; omega), if_neg (by simp)]
    simp [num4, rd]
    omega
  rw [if_neg c2]
  by_cases c3 : a < 65536
  · rw [if_pos c3]
    have hw : want (rd [224 + a / 4096, 128 + a / 64 % 64, 128 + a % 64] 0) = 3 := by
      simp only [rd, want, Int.toNat_zero, List.getD_cons_zero]
      rw [if_neg (by omega), if_neg (by omega), if_neg (by omega), if_pos (by omega)]
    rw [hw, if_neg (by simp [Fits, rd, loB, hiB]; omega), if_neg (by simp)]
    simp [num4, rd]
    omega
  rw [if_neg c3]
  have hw : want (rd [240 + a / 262144, 128 + a / 4096 % 64, 128 + a / 64 % 64, 128 + a % 64] 0) = 4 := by
    simp only [rd, want, Int.toNat_zero, List.getD_cons_zero]
    rw [if_neg (by omega), if_neg (by omega), if_neg (by omega), if_neg (by omega), if_pos (by omega)]
  rw [hw, if_neg (by simp [Fits, rd, loB, hiB]; omega), if_neg (by simp)]
  simp [num4, rd]
  omega
theorem UtfPut : larumlaw02_UtfPut.Pure := by
  intro a w
  obtain ⟨b, b'⟩ := i32_bd w
  refine ⟨10, ?_⟩
  unfold larumlaw02_UtfPut.f
  rw [w64 (x := a) (by omega), Is_eq]
  by_cases h : IsR a
  · rw [put_eq h, decide_eq_true h]
    simp only [Option.bind_some, if_true]
    rw [next_enc h, RPut_eq h, awake10]
    simp
  · rw [decide_eq_false h]
    unfold utf_Put.f
    rw [is_eq, decide_eq_false h, awake10]
    simp
end Go.Proofs.Ytdeggcnccciapaa.Pure
