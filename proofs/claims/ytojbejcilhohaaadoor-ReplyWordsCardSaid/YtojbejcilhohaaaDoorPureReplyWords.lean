/- A status in words, whether a reply of it is bare, and one of it with a body, are as the chapter says: for any status, any body. No condition. -/
import Derived.Test.YtojbejcilhohaaaDoorPReplyWordsx4
namespace Go.Proofs.YtojbejcilhohaaaDoor.Pure
open Go Go.RowKit Go.Proofs.YtojbejcilhohaaaDoor.PReplyWords Go.Proofs.YtojbejcilhohaaaDoor.Gp Go.Proofs.YtojbejcilhohaaaDoorW Go.Proofs.YtojbejcilhohaaaDoorW.PrintWords Go.Proofs.YtojbejcilhohaaaDoorW.PrintLast Go.Proofs.YtojbejcilhohaaaDoorW.PrintMore
set_option linter.unusedVariables false
set_option linter.unusedSimpArgs false
-- strings as lists of numbers
def Byt (l : List Int) : Prop := ∀ x ∈ l, 0 ≤ x ∧ x ≤ 255
theorem Byt.rd {l : List Int} (h : Byt l) (i : Int) : 0 ≤ PrintWords.rd l i ∧ PrintWords.rd l i ≤ 255 := by
  unfold PrintWords.rd
  rw [List.getD_eq_getElem?_getD]
  by_cases hi : i.toNat < l.length
  · rw [List.getElem?_eq_getElem hi]; exact h _ (List.getElem_mem hi)
  · rw [List.getElem?_eq_none (by omega)]; decide
theorem Byt.take {l : List Int} (h : Byt l) (n : Nat) : Byt (l.take n) := fun x hx => h x (List.mem_of_mem_take hx)
theorem Byt.drop {l : List Int} (h : Byt l) (n : Nat) : Byt (l.drop n) := fun x hx => h x (List.mem_of_mem_drop hx)
theorem w64 {x : Int} (h : -9223372036854775808 ≤ x ∧ x ≤ 9223372036854775807) : wrap64 x = x := by unfold wrap64; omega
theorem u64w (x : Int) : IntKind.u64.wrap x = x % 18446744073709551616 := by simp [IntKind.wrap, IntKind.bits, IntKind.signed]
theorem wu64 {x : Int} (h : 0 ≤ x ∧ x ≤ 18446744073709551615) : IntKind.u64.wrap x = x := by rw [u64w]; omega
theorem bts_byt (s : ByteArray) : Byt (bytesOf s) := by
  intro x hx
  simp only [bytesOf, List.mem_map] at hx
  obtain ⟨b, _, rfl⟩ := hx
  have := b.toNat_lt
  omega
theorem bts_len (s : ByteArray) : ((bytesOf s).length : Int) = (s.size : Int) := by rw [bytesOf_length]
theorem bt_rd (s : ByteArray) (i : Int) : bt s i = rd (bytesOf s) i := (rd_bytesOf s i).symm
theorem tl (s : ByteArray) : s.toList = s.data.toList := ByteArray.toList_eq s
theorem u8_map_inj : ∀ {a b : List UInt8}, a.map (fun x => (x.toNat : Int)) = b.map (fun x => (x.toNat : Int)) → a = b
  | [], [], _ => rfl
  | [], _ :: _, h => by simp at h
  | _ :: _, [], h => by simp at h
  | x :: a, y :: b, h => by
    simp only [List.map_cons, List.cons.injEq] at h
    rw [u8_map_inj h.2, UInt8.toNat_inj.1 (by omega : x.toNat = y.toNat)]
theorem tl_iff (s t : ByteArray) : s.toList = t.toList ↔ bytesOf s = bytesOf t := by
  rw [tl, tl]
  exact ⟨fun h => by unfold bytesOf; rw [h], fun h => u8_map_inj h⟩
theorem tl_nil (s : ByteArray) : s.toList = ([] : List UInt8) ↔ bytesOf s = [] := by
  rw [tl]
  unfold bytesOf
  rw [List.map_eq_nil_iff]
theorem bts_extract (s : ByteArray) (a b : Nat) : bytesOf (s.extract a b) = ((bytesOf s).take b).drop a := by
  unfold bytesOf
  rw [List.drop_take, ← List.map_drop, ← List.map_take]
  congr 1
  simp [List.drop_take]
theorem bts_extract_to (s : ByteArray) (a : Nat) : bytesOf (s.extract a s.size) = (bytesOf s).drop a := by
  rw [bts_extract, List.take_of_length_le (by rw [bytesOf_length]; omega)]
theorem bts_append (s t : ByteArray) : bytesOf (s ++ t) = bytesOf s ++ bytesOf t := by
  unfold bytesOf
  rw [← List.map_append]
  congr 1
theorem bts_size (s : ByteArray) : s.size = (bytesOf s).length := (bytesOf_length s).symm
theorem drop_rd {l : List Int} {i : Nat} (h : i < l.length) : l.drop i = rd l (i : Int) :: l.drop (i + 1) := by
  rw [List.drop_eq_getElem_cons h]
  unfold rd
  simp [List.getD_eq_getElem?_getD, List.getElem?_eq_getElem h]
theorem rd_cons_zero (a : Int) (l : List Int) : rd (a :: l) 0 = a := rfl
theorem awake_at : larumlaw13_awake.f 299 = some true := by decide +kernel
theorem rd_mem {l : List Int} {i : Nat} (h : i < l.length) : rd l (i : Int) ∈ l := by
  have := drop_rd h
  exact List.mem_of_mem_drop (i := i) (by rw [this]; simp)
theorem miss (xs : List ByteArray) (ys : List Int) (a : Int) (hy : ys.length ≤ 1000) (h : ∀ y ∈ ys, y ≠ a) : ∀ (f i k : Nat), i + f = ys.length → f < k → larumref13_Reason.l0 k a xs ys (ys.length : Int) (i : Int) = some (⟨#[85, 110, 107, 110, 111, 119, 110]⟩ : ByteArray) := by
  intro f
  induction f with
  | zero =>
    intro i k hi hk
    obtain ⟨k, rfl⟩ : ∃ m, k = m + 1 := ⟨k - 1, by omega⟩
    simp only [larumref13_Reason.l0]
    rw [if_neg (by omega)]
  | succ f ih =>
    intro i k hi hk
    obtain ⟨k, rfl⟩ : ∃ m, k = m + 1 := ⟨k - 1, by omega⟩
    simp only [larumref13_Reason.l0]
    rw [if_pos (by omega), if_pos (by omega), if_pos (by omega), if_neg (h _ (rd_mem (by omega))), w64 (by omega), show ((i : Int) + 1) = ((i + 1 : Nat) : Int) by omega]
    exact ih (i + 1) k (by omega) (by omega)
def codes : List Int := [200, 201, 204, 304, 400, 404, 405, 408, 410, 412, 413, 414, 428, 431, 501, 503, 505, 507]
theorem hit : ∀ a ∈ codes, reply_Reason.f a = larumref13_Reason.f 299 a ∧ (reply_Reason.f a).isSome = true := by decide +kernel
theorem Reason_eq (a : Int) : ∃ t, reply_Reason.f a = some t ∧ larumref13_Reason.f 299 a = some t := by
  by_cases hm : a ∈ codes
  · obtain ⟨h1, h2⟩ := hit a hm
    obtain ⟨t, ht⟩ := Option.isSome_iff_exists.1 h2
    exact ⟨t, ht, by rw [← h1]; exact ht⟩
  · have hn : ∀ y ∈ codes, y ≠ a := fun y hy h => hm (h ▸ hy)
    refine ⟨(⟨#[85, 110, 107, 110, 111, 119, 110]⟩ : ByteArray), ?_, miss _ codes a (by decide) hn 18 0 299 (by decide) (by decide)⟩
    unfold codes at hm
    simp only [List.mem_cons, List.not_mem_nil, or_false, not_or] at hm
    unfold reply_Reason.f
    simp only [hm, if_false]
theorem ReplyWords : larumlaw13_ReplyWords.Pure := by
  intro a s _ _
  refine ⟨300, ?_⟩
  obtain ⟨t, t1, t2⟩ := Reason_eq a
  have hb : ∃ b, reply_Bare.f a = some b ∧ larumref13_Bare.f a = some b := by
    unfold reply_Bare.f larumref13_Bare.f
    by_cases h : a = 204
    · exact ⟨true, by rw [if_pos h], by rw [if_pos h]⟩
    · exact ⟨_, by rw [if_neg h], by rw [if_neg h]⟩
  obtain ⟨b, b1, b2⟩ := hb
  have j : ∀ w : ByteArray, larumlaw13_ReplyWords.j0 300 a w a [] w = some true := by
    intro w
    simp only [larumlaw13_ReplyWords.j0]
    rw [t1]
    simp only [Option.bind_some]
    rw [t2]
    simp only [Option.bind_some]
    rw [if_pos trivial, b1]
    simp only [Option.bind_some]
    rw [b2]
    simp only [Option.bind_some]
    rw [if_pos (by simp), if_pos trivial, if_pos trivial, if_pos (by simp), awake_at]
    rfl
  unfold larumlaw13_ReplyWords.f reply_Of.f
  rw [b1]
  simp only [Option.bind_some]
  cases b with
  | true =>
    rw [if_pos rfl]
    simp only [Option.bind_some]
    rw [b2]
    simp only [Option.bind_some]
    rw [if_pos trivial]
    exact j _
  | false =>
    rw [if_neg (by simp)]
    simp only [Option.bind_some]
    rw [b2]
    simp only [Option.bind_some]
    rw [if_neg (by simp)]
    exact j _
end Go.Proofs.YtojbejcilhohaaaDoor.Pure
