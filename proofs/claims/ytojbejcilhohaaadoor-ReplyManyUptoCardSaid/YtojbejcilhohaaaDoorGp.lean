import Derived.WalkKit
import Derived.Test.YtojbejcilhohaaaDoorWWords
import Derived.Test.YtojbejcilhohaaaDoorWMore
import Derived.Lib.ConvBytes
/-! Small laws of this session's own, for the walks that gp.py writes. -/
namespace Go.Proofs.YtojbejcilhohaaaDoor.Gp
open Go Go.RowKit Go.Proofs.YtojbejcilhohaaaDoorW.PrintWords Go.Proofs.YtojbejcilhohaaaDoorW.PrintMore
set_option linter.unusedSimpArgs false
theorem gp_mksize (a : Array UInt8) : (ByteArray.mk a).size = a.size := rfl
theorem gp_nfn1 {P : Program} (w : World) (d : Nat) (t : TypeId) {a b v} (h : P.underlying t = some (.func a b v)) : (Op.equalIn (d + 1) t .nilFunc .nilFunc).run P w = .ok true w := by
  simp [Op.equalIn, run_underlying h]
theorem gp_nfn2 {P : Program} (w : World) (t : TypeId) {a b v} (h : P.underlying t = some (.func a b v)) : (Op.equal t .nilFunc .nilFunc).run P w = .ok true w := gp_nfn1 w 9999 t h
theorem gp_nfn {P : Program} (w : World) (t : TypeId) {a b v} (h : P.underlying t = some (.func a b v)) : (binOp .neq t .nilFunc .nilFunc).run P w = .ok (.bool false) w := by
  simp only [binOp]
  simp [gp_nfn2 w t h]
theorem gp_nfe {P : Program} (w : World) (t : TypeId) {a b v} (h : P.underlying t = some (.func a b v)) : (binOp .eql t .nilFunc .nilFunc).run P w = .ok (.bool true) w := by
  simp only [binOp]
  simp [gp_nfn2 w t h]
theorem gp_ne (l : List UInt8) : (l != []) = !l.isEmpty := by cases l <;> rfl
theorem gp_bl (a : List UInt8) : ∀ b, (Op.bytesLess a b || a == b) = !(Op.bytesLess b a) := by
  induction a with
  | nil => intro b; cases b <;> simp [Op.bytesLess]
  | cons x a ih =>
    intro b
    cases b with
    | nil => simp [Op.bytesLess]
    | cons y b =>
      have h := ih b
      simp only [Op.bytesLess]
      by_cases h1 : x < y
      · have h2 : ¬ y < x := by rw [UInt8.lt_iff_toNat_lt] at *; omega
        have h4 : ¬ y = x := by rintro rfl; exact absurd h1 (by rw [UInt8.lt_iff_toNat_lt]; omega)
        simp [h1, h2, h4]
      · by_cases h2 : y < x
        · have h3 : ¬ x = y := by rintro rfl; exact absurd h2 (by rw [UInt8.lt_iff_toNat_lt]; omega)
          simp [h1, h2, h3]
        · have h3 : x = y := by
            apply UInt8.toNat_inj.mp
            rw [UInt8.lt_iff_toNat_lt] at *; omega
          subst h3
          simp only [h1, decide_false, Bool.false_or, BEq.rfl, Bool.true_and]
          simpa using h
theorem gp_gtr (t : TypeId) (a b : ByteArray) : binOp .gtr t (.string a) (.string b) = pure (.bool (Op.bytesLess b.toList a.toList)) := by
  have h : binOp .gtr t (.string a) (.string b) = pure (.bool !(Op.bytesLess a.toList b.toList || a.toList == b.toList)) := by simp [binOp, Op.stringOp]
  rw [h, gp_bl, Bool.not_not]
theorem gp_leq (t : TypeId) (a b : ByteArray) : binOp .leq t (.string a) (.string b) = pure (.bool !(Op.bytesLess b.toList a.toList)) := by
  have h : binOp .leq t (.string a) (.string b) = pure (.bool (Op.bytesLess a.toList b.toList || a.toList == b.toList)) := by simp [binOp, Op.stringOp]
  rw [h, gp_bl]
theorem gp_geq (t : TypeId) (a b : ByteArray) : binOp .geq t (.string a) (.string b) = pure (.bool !(Op.bytesLess a.toList b.toList)) := by simp [binOp, Op.stringOp]
section
variable {P : Program} {ops : Array Oper} {rest : List Oper} {o : Oper} {a : Act} {Q : Exit → Act → World → Prop}
/-- []byte(s): a new row that is only read. -/
theorem V_conv {w0 W : World} (base e : Nat) (hgd : o.guard = none) {N : Tmp} (_hd : o.dst = some N) (src dst : TypeId) (x : Operand) (ho : o.op = .convert src dst x) (s : ByteArray) (hx : a.eval x = .string s)
    {u : TypeDesc} (hs : P.underlying src = some u) (hdt : P.underlying dst = some (.slice e)) (he : P.underlying e = some (.int .u8)) {ok : Nat → Prop} (hok : ok W.heap.size) (hsz : s.size ≤ 9223372036854775807) (HB : Below base w0 W) (hbase : base ≤ W.heap.size)
    (h : ∀ v1 w1, Kd.V (Kd.int .u8) e w1 base ok v1 (bytesOf s) → Below base w0 w1 → W.grownBy w1 none → (∃ b, v1.ownBlock = some b ∧ W.heap.size ≤ b) → wpList P ops Q rest (a.put o.dst v1) w1) : wpList P ops Q (o :: rest) a W := by
  have hrun : (execOp a.eval o).run P W = .ok (.value (.slice (some ⟨W.heap.size, 0, none⟩) s.size (grownCap W s.size 0 e))) (Lib.bytesWorld W e s) := by
    have hr := Lib.run_convert_string_bytes (P := P) W src dst e s hs hdt he
    simp [execOp, ho, hx, hr]
  have hbb := bytes_below (Below.refl W.heap.size W) (Nat.le_refl _) e s
  have hc : s.size ≤ grownCap W s.size 0 e := grownCap_ge W s.size 0 e
  refine Kd.event_run hgd hrun (h _ _ ?_ (bytes_below HB hbase e s) ⟨hbb.os, hbb.tape, hbb.output, hbb.size, fun i hi _ => hbb.block i hi⟩ ⟨W.heap.size, by simp [Value.ownBlock], Nat.le_refl _⟩)
  refine ⟨some ⟨W.heap.size, 0, none⟩, grownCap W s.size 0 e, by rw [bytesOf_length], by rw [bytesOf_length]; exact hc, fun W' hW => ?_⟩
  have hlt : W.heap.size < (Lib.bytesWorld W e s).heap.size := by rw [Lib.bytesWorld_size]; omega
  have hh := hW W.heap.size hok hlt
  rw [bytesOf_length]
  refine Kd.C_of_reads (h1 := fun _ => rfl) (d := (0 : Int)) ⟨bytesOf_length s, hsz, fun _ => ⟨_, rfl, fun j hj => ?_⟩⟩
  have h1 := (bytes_reads W e s hsz).2.2 (by omega)
  obtain ⟨ad, had, hcell⟩ := h1
  cases had
  have h2 := hcell j hj
  rw [add_plain] at h2 ⊢
  rw [← h2]
  simp only [World.cell?, hh]
end
/-- internal/bytealg.MaxLen holds some number: what strings.Index and its kin ask of the world. -/
def G (w : World) : Prop := ∃ m, w.cell? ⟨0, 0, none⟩ = some (.int .i64 m)
theorem gsz1 (c : UInt8) : (⟨#[c]⟩ : ByteArray).size = 1 := rfl
theorem G.below {w w' : World} (h : G w) (hb : Below w.heap.size w w') : G w' := by
  obtain ⟨m, hm⟩ := h
  exact ⟨m, (hb.cell (World.block_lt_of_cell? w _ hm)).trans hm⟩
end Go.Proofs.YtojbejcilhohaaaDoor.Gp
