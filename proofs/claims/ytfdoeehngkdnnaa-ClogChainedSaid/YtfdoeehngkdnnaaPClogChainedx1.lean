-- By gp.py, a program of this session: the print of the kit with contracts of this session's own beside it.
import Derived.Test.YtfdoeehngkdnnaaPClogChainedx0
namespace Go.Proofs.Ytfdoeehngkdnnaa.PClogChained
open Go.RowKit Go.Proofs.Ytfdoeehngkdnnaa.Gp Go.Proofs.YtfdoeehngkdnnaaW.PrintWords Go.Proofs.YtfdoeehngkdnnaaW.PrintLast Go.Proofs.YtfdoeehngkdnnaaW.PrintMore
attribute [local go_sem] max2_int min2_int max_two min_two max_three min_three max_four min_four gp_gtr gp_leq gp_geq   -- for this text's walks alone
set_option linter.unusedVariables false
set_option linter.unusedSimpArgs false

/-! ### larumlaw20_ClogChained: function 5 -/
theorem eqA55 (d : Nat) (w : World) (x0 y0 : ByteArray) (x1 y1 : ByteArray) (x2 y2 : Bool) :
    (Op.equalIn (d + 2) 55 (.agg #[.string x0, .string x1, .bool x2]) (.agg #[.string y0, .string y1, .bool y2])).run Try.prog w = .ok (x0.toList == y0.toList && (x1.toList == y1.toList && (x2 == y2))) w := by
  refine eqA_of Try.underlying55 (by kernel_rfl) ?_
  refine eqf_cons (by rfl) (by go_simp; rfl) (by go_simp; rfl) (by go_simp) ?_
  refine eqf_cons (by rfl) (by go_simp; rfl) (by go_simp; rfl) (by go_simp) ?_
  exact eqf_last (by rfl) (by go_simp; rfl) (by go_simp; rfl) (by go_simp)
theorem eqA57 (d : Nat) (w : World) (x0 y0 : Int) (x1 y1 : ByteArray) (x2 y2 : ByteArray) (x3 y3 : Bool) :
    (Op.equalIn (d + 3) 57 (.agg #[.int .i64 x0, .string x1, .string x2, .bool x3]) (.agg #[.int .i64 y0, .string y1, .string y2, .bool y3])).run Try.prog w = .ok (x0 == y0 && ((x1.toList == y1.toList && (x2.toList == y2.toList && (x3 == y3))))) w := by
  refine eqA_of Try.underlying57 (by kernel_rfl) ?_
  refine eqf_cons (by rfl) (by go_simp; rfl) (by go_simp; rfl) (by go_simp) ?_
  exact eqf_last (by rfl) (by go_simp) (by go_simp) (eqA55 (d + 0) w _ _ _ _ _ _)
def Keeps (T : List Nat) (w w' : World) : Prop := ∀ (k : Nat) (cs : Array Value) (t : TypeId), w.heap[k]? = some (.cells cs t (0, 0)) → t ∉ T → w'.heap[k]? = some (.cells cs t (0, 0))
theorem Keeps.refl {T : List Nat} (w : World) : Keeps T w w := fun _ _ _ h _ => h
theorem Keeps.trans {T : List Nat} {a b c : World} (h : Keeps T a b) (h' : Keeps T b c) : Keeps T a c := fun k cs t hk hn => h' k cs t (h k cs t hk hn) hn
theorem Keeps.below {T : List Nat} {w w' : World} (hb : Below w.heap.size w w') : Keeps T w w' := fun _ _ _ hk _ => blk_below hk hb
theorem Keeps.set {T : List Nat} {w : World} {g : Nat} {c : Array Value} {t : TypeId} (h : w.heap[g]? = some (.cells c t (0, 0))) (ht : t ∈ T) (i : Nat) (u : Value) : Keeps T w (w.setCell ⟨g, i, none⟩ u) := fun k cs t' hk hn => blk_far hk (by
  rintro rfl
  rw [h] at hk
  injection hk with hk
  injection hk with _ h2
  exact hn (h2 ▸ ht)) u
theorem Keeps.grown {T : List Nat} {α : Type} {d : Kd α} {e : Nat} {w w' : World} {base : Nat} {ok : Nat → Prop} {v : Value} {xs : List α} (hR : d.R e w base ok v xs) (he : e ∈ T) (hg : w.grownBy w' v.ownBlock) : Keeps T w w' := fun k cs t' hk hn => blk_grown hk hg (Kd.R_ne hR hk (fun e_ => hn (e_ ▸ he)))
theorem Keeps.cells {T : List Nat} {g : Nat} {t : TypeId} (ht : t ∈ T) : ∀ (seg : List Value) (o : Nat) {w : World} {c : Array Value}, w.heap[g]? = some (.cells c t (0, 0)) → Keeps T w (w.setCells g o seg)
  | [], _, w, _, _ => Keeps.refl w
  | u :: r, o, _, _, h => (Keeps.set h ht o u).trans (Keeps.cells ht r (o + 1) (blk_set h o u))
theorem R_keeps {T : List Nat} {α : Type} {d : Kd α} {e : Nat} {w w' : World} {base : Nat} {ok : Nat → Prop} {v : Value} {xs : List α} (h : d.R e w base ok v xs) (hk : Keeps T w w') (ht : ∀ q, q ∈ e :: d.E → q ∉ T) : d.R e w' base ok v xs :=
  Kd.R_mono (Kd.R_move (Kd.R_bound h) (fun k hk' => by
    obtain ⟨_, _, _, q, hq, cells, hc⟩ := hk'
    rw [hc]
    exact hk k cells q hc (ht q hq))) (fun _ hk => hk.1)
def CSt (w : World) (base g : Nat) (L : List S57) (most floor last : Int) : Prop := ∃ v, w.heap[g]? = some (.cells #[v, .int .i64 most, .int .i64 floor, .int .i64 last] 62 (0, 0)) ∧ base ≤ g ∧ Kd.R k57 57 w base (fun _ => True) v L
theorem CSt.below {w w' : World} {base g : Nat} {L : List S57} {most floor last : Int} (h : CSt w base g L most floor last) (hb : Below w.heap.size w w') : CSt w' base g L most floor last := by
  obtain ⟨v, h1, h2, h3⟩ := h
  exact ⟨v, blk_below h1 hb, h2, Kd.R_below h3 hb⟩
theorem CSt.keeps {w w' : World} {base g : Nat} {L : List S57} {most floor last : Int} (h : CSt w base g L most floor last) (hk : Keeps [34, 53] w w') : CSt w' base g L most floor last := by
  obtain ⟨v, h1, h2, h3⟩ := h
  exact ⟨v, hk _ _ _ h1 (by decide), h2, R_keeps h3 hk (by decide)⟩
theorem CSt.base {w : World} {base g : Nat} {L : List S57} {most floor last : Int} (h : CSt w base g L most floor last) : base ≤ w.heap.size := by
  obtain ⟨v, h1, h2, _⟩ := h
  exact Nat.le_trans h2 (Nat.le_of_lt (blk_lt h1))
def RSt (w : World) (base g : Nat) (L : List S53) (most floor last : Int) : Prop := ∃ v, w.heap[g]? = some (.cells #[v, .int .i64 most, .int .i64 floor, .int .i64 last] 34 (0, 0)) ∧ base ≤ g ∧ Kd.R k53 53 w base (fun _ => True) v L
theorem RSt.below {w w' : World} {base g : Nat} {L : List S53} {most floor last : Int} (h : RSt w base g L most floor last) (hb : Below w.heap.size w w') : RSt w' base g L most floor last := by
  obtain ⟨v, h1, h2, h3⟩ := h
  exact ⟨v, blk_below h1 hb, h2, Kd.R_below h3 hb⟩
theorem RSt.keeps {w w' : World} {base g : Nat} {L : List S53} {most floor last : Int} (h : RSt w base g L most floor last) (hk : Keeps [62, 57] w w') : RSt w' base g L most floor last := by
  obtain ⟨v, h1, h2, h3⟩ := h
  exact ⟨v, hk _ _ _ h1 (by decide), h2, R_keeps h3 hk (by decide)⟩
theorem RSt.base {w : World} {base g : Nat} {L : List S53} {most floor last : Int} (h : RSt w base g L most floor last) : base ≤ w.heap.size := by
  obtain ⟨v, h1, h2, _⟩ := h
  exact Nat.le_trans h2 (Nat.le_of_lt (blk_lt h1))
def cIdx (p : S57 → Bool) : List S57 → Int → Int
  | [], _ => -1
  | x :: r, i => if p x = true then i else cIdx p r (i + 1)
theorem rd57_at (xs : List S57) (i : Nat) (h : i < xs.length) : rd_T57 xs (i : Int) = xs[i] := by
  unfold rd_T57
  rw [Int.toNat_natCast, List.getD_eq_getElem?_getD, List.getElem?_eq_getElem h]
  rfl
theorem drop57 (xs : List S57) (i : Nat) (h : i < xs.length) : xs.drop i = rd_T57 xs (i : Int) :: xs.drop (i + 1) := by
  rw [rd57_at xs i h]
  exact List.drop_eq_getElem_cons h
theorem rd53_at (xs : List S53) (i : Nat) (h : i < xs.length) : rd_T53 xs (i : Int) = xs[i] := by
  unfold rd_T53
  rw [Int.toNat_natCast, List.getD_eq_getElem?_getD, List.getElem?_eq_getElem h]
  rfl
theorem take53 (xs : List S53) (i : Nat) (h : i < xs.length) : xs.take (i + 1) = xs.take i ++ [rd_T53 xs (i : Int)] := by
  rw [rd53_at xs i h]
  exact List.take_succ_eq_append_getElem h
theorem take57 (xs : List S57) (i : Nat) (h : i < xs.length) : xs.take (i + 1) = xs.take i ++ [rd_T57 xs (i : Int)] := by
  rw [rd57_at xs i h]
  exact List.take_succ_eq_append_getElem h
def cAb (L : List S57) (rev : Int) : Nat := (L.takeWhile (fun x => !decide (x.f0 > rev))).length
theorem cAb_le (L : List S57) (rev : Int) : cAb L rev ≤ L.length := (List.takeWhile_sublist _).length_le
theorem cIdx_cAb (rev : Int) : ∀ (L : List S57) (i : Nat), (cIdx (fun x => decide (x.f0 > rev)) L (i : Int) < 0 ∧ cAb L rev = L.length) ∨ (¬ cIdx (fun x => decide (x.f0 > rev)) L (i : Int) < 0 ∧ cIdx (fun x => decide (x.f0 > rev)) L (i : Int) = ((i + cAb L rev : Nat) : Int))
  | [], i => .inl ⟨by show (-1 : Int) < 0; decide, rfl⟩
  | x :: r, i => by
    have ih := cIdx_cAb rev r (i + 1)
    unfold cIdx cAb
    cases hx : decide (x.f0 > rev) with
    | true => right; simp [hx]
    | false =>
      simp only [List.takeWhile_cons, hx, Bool.not_false, Bool.false_eq_true, if_false, if_true, List.length_cons]
      rw [show ((i : Int) + 1) = ((i + 1 : Nat) : Int) by omega]
      rcases ih with ⟨h1, h2⟩ | ⟨h1, h2⟩
      · exact .inl ⟨h1, by unfold cAb at h2; omega⟩
      · exact .inr ⟨h1, by unfold cAb at h2; omega⟩
set_option maxHeartbeats 8000000 in
set_option maxRecDepth 100000 in
theorem cl27 (rev : Int) (x : S57) (b : Nat) (w : World) (hc : w.cell? ⟨b, 0, none⟩ = some (.int .i64 rev)) : Calls Try.prog 27 #[.agg #[.int .i64 x.f0, .string x.f1.f0, .string x.f1.f1, .bool x.f1.f2], .pointer (some ⟨b, 0, none⟩)] w fun e w' => e = .returned (.bool (decide (x.f0 > rev))) ∧ Below w.heap.size w w' := by
  have hu57 := Try.underlying57
  have hc2 := ((below_alloc (Below.refl w.heap.size w) (.cells #[.int .i64 x.f0, .string x.f1.f0, .string x.f1.f1, .bool x.f1.f2] 57)).cell (p := ⟨b, 0, none⟩) (World.block_lt_of_cell? _ _ hc)).trans hc
  have hbl : b < w.heap.size := World.block_lt_of_cell? _ _ hc
  have hbn : b ≠ w.heap.size := Nat.ne_of_lt hbl
  go_enter Try.func27, Try.ntmps27
  go_wp2
  go_ret
  exact ⟨by simp, below_alloc (Below.refl _ _) _⟩
set_option maxHeartbeats 8000000 in
set_option maxRecDepth 100000 in
theorem IndexFunc27 (rev : Int) (b : Nat) (A : Option Addr) (c : Nat) (L : List S57) (w : World) (hC : Kd.C k57 w A L.length L) (hc : w.cell? ⟨b, 0, none⟩ = some (.int .i64 rev)) (hlen : L.length ≤ 100000) :
    Calls Try.prog 26 #[.slice A L.length c, .func (.func 27) #[] #[.pointer (some ⟨b, 0, none⟩)]] w fun e w' => e = .returned (.int .i64 (cIdx (fun x => decide (x.f0 > rev)) L 0)) ∧ Below w.heap.size w w' := by
  have hu57 := Try.underlying57
  have hu37 := Try.underlying37
  have HC := Aside0.mk hC
  have HCC := Aside0.mk hc
  have HLEN := Aside0.mk hlen
  clear hC hc hlen
  go_enter Try.func26, Try.ntmps26
  go_wp2
  go_loopg [8] (L.length + 1) (fun kq v8 wr => ∃ i : Nat, v8 = .int .i64 (i : Int) ∧ Aside0 (i + kq = L.length + 1 ∧ i ≤ L.length ∧ cIdx (fun x => decide (x.f0 > rev)) L 0 = cIdx (fun x => decide (x.f0 > rev)) (L.drop i) (i : Int)) ∧ Aside0 (Below w.heap.size w wr))
  case atStart => exact ⟨0, rfl, ⟨by omega, by omega, rfl⟩, ⟨Below.refl _ _⟩⟩
  case round =>
    obtain ⟨i, rfl, HI, HW⟩ := hrel
    cases gk with
    | zero => have := HI.out; omega
    | succ k1 =>
      by_cases c2 : (i : Int) < (L.length : Int)
      · have c2b : decide ((i : Int) < (L.length : Int)) = true := decide_eq_true c2
        have p2 : (0 : Int) ≤ (i : Int) := by omega
        obtain ⟨ad2, e2, hx0, hx1, hx2, hx3⟩ := at_T57 (Kd.C_below HC.out HW.out) (i : Int) p2 c2
        cases e2
        have p2t : ((0 : Int) ≤ (i : Int)) = True := eq_true p2
        have q2t : ((i : Int) < (L.length : Int)) = True := eq_true c2
        have q2n : (i < L.length) = True := eq_true (by omega)
        simp only [Int.toNat_natCast] at hx0 hx1 hx2 hx3
        have hw2 : wrap64 ((i : Int) + 1) = ((i + 1 : Nat) : Int) := by have := HLEN.out; unfold wrap64; omega
        have hd := drop57 L i (by omega)
        obtain ⟨x, hx⟩ : ∃ x, rd_T57 L (i : Int) = x := ⟨_, rfl⟩
        rw [hx] at hx0 hx1 hx2 hx3 hd
        have hcc := (HW.out.cell (p := ⟨b, 0, none⟩) (World.block_lt_of_cell? _ _ HCC.out)).trans HCC.out
        cases hp : decide (x.f0 > rev) with
        | true =>
          go_wp2_with (go_at_call 27; refine (cl27 rev x b _ hcc).mono ?_; rintro e w2 ⟨rfl, hb2⟩; rw [hp])
          go_ret
          have hk := HI.out.2.2
          rw [hd] at hk
          simp only [cIdx, hp, if_true] at hk
          exact ⟨by rw [hk]; rfl, below_step HW.out hb2⟩
        | false =>
          go_wp2_with (go_at_call 27; refine (cl27 rev x b _ hcc).mono ?_; rintro e w2 ⟨rfl, hb2⟩; rw [hp])
          go_roundg k1
          case measure => omega
          case rel =>
            have hk := HI.out.2.2
            rw [hd] at hk
            simp only [cIdx, hp, Bool.false_eq_true, if_false] at hk
            exact ⟨i + 1, by first | rw [hw2] | simp, ⟨by have := HI.out; omega, by omega, by rw [hk]; rfl⟩, ⟨below_step HW.out hb2⟩⟩
      · have c2b : decide ((i : Int) < (L.length : Int)) = false := decide_eq_false c2
        go_wp2
        go_ret
        have hk := HI.out.2.2
        rw [List.drop_of_length_le (by omega)] at hk
        exact ⟨by rw [hk]; rfl, HW.out⟩
set_option maxHeartbeats 8000000 in
set_option maxRecDepth 100000 in
theorem clog_NewS (a : Int) (base : Nat) (w : World) (hbase : base ≤ w.heap.size) : Calls Try.prog 7 #[.int .i64 a] w fun e w' => ∃ g_ : Nat, e = .returned (.pointer (some ⟨g_, 0, none⟩)) ∧ CSt w' base g_ [] (mx a 1) 0 0 ∧ Below w.heap.size w w' := by
  have hu62 := Try.underlying62
  have HBS := Aside0.mk hbase
  clear hbase
  obtain ⟨m, hm⟩ : ∃ m, mx a 1 = m := ⟨_, rfl⟩
  have hm2 : (if a < 1 then 1 else a) = m := hm
  rw [hm]
  clear hm
  go_enter Try.func7, Try.ntmps7
  go_wp2_with (first | ((with_reducible refine gate_dst (N := 6) rfl ?_); refine box_event ?hg (N := 6) ?hd (cs := #[.slice none 0 0, .int .i64 m, .int .i64 0, .int .i64 0]) (t := 62) ?hr ?_; (case hd => rfl); (case hg => rfl); (case hr => first | (go_simp; done) | (go_simp; rfl)); intro gb101 hg w3 hbox hb; have BK := Aside0.mk hbox; have HG := Aside0.mk hg; have HB3 := Aside0.mk hb; clear hb hbox hg))
  go_ret
  exact ⟨_, rfl, ⟨_, BK.out, by rw [HG.out]; exact HBS.out, Kd.R_nil _ _ _ _ _⟩, HB3.out⟩
set_option maxHeartbeats 8000000 in
set_option maxRecDepth 100000 in
theorem clog_Floor (base g : Nat) (L : List S57) (most floor last : Int) (w : World) (h : CSt w base g L most floor last) : Calls Try.prog 10 #[.pointer (some ⟨g, 0, none⟩)] w fun e w' => e = .returned (.int .i64 floor) ∧ Below w.heap.size w w' := by
  have hu62 := Try.underlying62
  have hu57 := Try.underlying57
  have hu37 := Try.underlying37
  have hu23 := Try.underlying23
  have HS := Aside0.mk h
  obtain ⟨v, hb, hg, hR⟩ := h
  obtain ⟨A, c, rfl⟩ := Kd.R_slice hR
  have BK := Aside0.mk hb
  have HG := Aside0.mk hg
  have HR := Aside0.mk hR
  clear hg hR
  have hc0 := blk_cell BK.out 2
  go_enter Try.func10, Try.ntmps10
  go_wp2
  go_ret
  exact ⟨rfl, Below.refl _ _⟩
set_option maxHeartbeats 8000000 in
set_option maxRecDepth 100000 in
theorem clog_Floor.nil_ (w : World) : Calls Try.prog 10 #[.pointer none] w fun e w' => e = .returned (.int .i64 0) ∧ Below w.heap.size w w' := by
  have hu62 := Try.underlying62
  have hu57 := Try.underlying57
  have hu37 := Try.underlying37
  have hu23 := Try.underlying23
  go_enter Try.func10, Try.ntmps10
  go_wp2
  go_ret
  exact ⟨rfl, Below.refl _ _⟩
set_option maxHeartbeats 8000000 in
set_option maxRecDepth 100000 in
theorem clog_Last (base g : Nat) (L : List S57) (most floor last : Int) (w : World) (h : CSt w base g L most floor last) : Calls Try.prog 11 #[.pointer (some ⟨g, 0, none⟩)] w fun e w' => e = .returned (.int .i64 last) ∧ Below w.heap.size w w' := by
  have hu62 := Try.underlying62
  have hu57 := Try.underlying57
  have hu37 := Try.underlying37
  have hu23 := Try.underlying23
  have HS := Aside0.mk h
  obtain ⟨v, hb, hg, hR⟩ := h
  obtain ⟨A, c, rfl⟩ := Kd.R_slice hR
  have BK := Aside0.mk hb
  have HG := Aside0.mk hg
  have HR := Aside0.mk hR
  clear hg hR
  have hc0 := blk_cell BK.out 3
  go_enter Try.func11, Try.ntmps11
  go_wp2
  go_ret
  exact ⟨rfl, Below.refl _ _⟩
set_option maxHeartbeats 8000000 in
set_option maxRecDepth 100000 in
theorem clog_Last.nil_ (w : World) : Calls Try.prog 11 #[.pointer none] w fun e w' => e = .returned (.int .i64 0) ∧ Below w.heap.size w w' := by
  have hu62 := Try.underlying62
  have hu57 := Try.underlying57
  have hu37 := Try.underlying37
  have hu23 := Try.underlying23
  go_enter Try.func11, Try.ntmps11
  go_wp2
  go_ret
  exact ⟨rfl, Below.refl _ _⟩
set_option maxHeartbeats 8000000 in
set_option maxRecDepth 100000 in
theorem clog_Len (base g : Nat) (L : List S57) (most floor last : Int) (w : World) (h : CSt w base g L most floor last) : Calls Try.prog 12 #[.pointer (some ⟨g, 0, none⟩)] w fun e w' => e = .returned (.int .i64 L.length) ∧ Below w.heap.size w w' := by
  have hu62 := Try.underlying62
  have hu57 := Try.underlying57
  have hu37 := Try.underlying37
  have hu23 := Try.underlying23
  have HS := Aside0.mk h
  obtain ⟨v, hb, hg, hR⟩ := h
  obtain ⟨A, c, rfl⟩ := Kd.R_slice hR
  have BK := Aside0.mk hb
  have HG := Aside0.mk hg
  have HR := Aside0.mk hR
  clear hg hR
  have hc0 := blk_cell BK.out 0
  go_enter Try.func12, Try.ntmps12
  go_wp2
  go_ret
  exact ⟨rfl, Below.refl _ _⟩
set_option maxHeartbeats 8000000 in
set_option maxRecDepth 100000 in
theorem clog_Len.nil_ (w : World) : Calls Try.prog 12 #[.pointer none] w fun e w' => e = .returned (.int .i64 0) ∧ Below w.heap.size w w' := by
  have hu62 := Try.underlying62
  have hu57 := Try.underlying57
  have hu37 := Try.underlying37
  have hu23 := Try.underlying23
  go_enter Try.func12, Try.ntmps12
  go_wp2
  go_ret
  exact ⟨rfl, Below.refl _ _⟩
set_option maxHeartbeats 8000000 in
set_option maxRecDepth 100000 in
theorem clog_above (rev : Int) (base g : Nat) (L : List S57) (most floor last : Int) (w : World) (h : CSt w base g L most floor last) (hlen : L.length ≤ 1000) : Calls Try.prog 24 #[.pointer (some ⟨g, 0, none⟩), .int .i64 rev] w fun e w' => e = .returned (.int .i64 (cAb L rev : Int)) ∧ Below w.heap.size w w' := by
  have hu62 := Try.underlying62
  have hu57 := Try.underlying57
  have hu37 := Try.underlying37
  have hu23 := Try.underlying23
  have HS := Aside0.mk h
  obtain ⟨v, hb, hg, hR⟩ := h
  obtain ⟨A, c, rfl⟩ := Kd.R_slice hR
  have BK := Aside0.mk hb
  have HG := Aside0.mk hg
  have HR := Aside0.mk hR
  clear hg hR
  have HLEN := Aside0.mk hlen
  have HAB := cIdx_cAb rev L 0
  have hc0 := blk_cell (blk_alloc BK.out (.cells #[.int .i64 rev] 2)) 0
  have HIX := Aside0.mk (IndexFunc27 rev w.heap.size A c L (w.alloc (.cells #[.int .i64 rev] 2)) (Kd.C_alloc (Kd.R_reads' HR.out).2.2 _) ((blk_cell (blk_new w (.cells #[.int .i64 rev] 2)) 0).trans rfl) (by have := HLEN.out; omega))
  rw [show ((0 : Nat) : Int) = 0 from rfl, Nat.zero_add] at HAB
  generalize cIdx (fun x => decide (x.f0 > rev)) L 0 = k at HAB HIX
  rcases HAB with ⟨hk, he⟩ | ⟨hk, he⟩
  · have hkb : decide (k < 0) = true := decide_eq_true hk
    rw [he]
    go_enter Try.func24, Try.ntmps24
    go_wp2_with (go_at_call 26; refine HIX.out.mono ?_; rintro e w1 ⟨rfl, hb1⟩; have hc1 := blk_cell (blk_below (blk_alloc BK.out (.cells #[.int .i64 rev] 2)) hb1) 0; clear hc0)
    go_ret
    exact ⟨rfl, below_step (below_alloc (Below.refl _ _) _) hb1⟩
  · have hkb : decide (k < 0) = false := decide_eq_false hk
    subst he
    go_enter Try.func24, Try.ntmps24
    go_wp2_with (go_at_call 26; refine HIX.out.mono ?_; rintro e w1 ⟨rfl, hb1⟩)
    go_ret
    exact ⟨rfl, below_step (below_alloc (Below.refl _ _) _) hb1⟩
def cAsked (rev floor last : Int) : Int := if rev < floor then 9 else if rev > last then 1 else 0
set_option maxHeartbeats 8000000 in
set_option maxRecDepth 100000 in
theorem clog_asked (rev : Int) (base g : Nat) (L : List S57) (most floor last : Int) (w : World) (h : CSt w base g L most floor last) : Calls Try.prog 22 #[.pointer (some ⟨g, 0, none⟩), .int .i64 rev] w fun e w' => e = .returned (.int .i64 (cAsked rev floor last)) ∧ Below w.heap.size w w' := by
  have hu62 := Try.underlying62
  have hu57 := Try.underlying57
  have hu37 := Try.underlying37
  have hu23 := Try.underlying23
  have HS := Aside0.mk h
  obtain ⟨v, hb, hg, hR⟩ := h
  obtain ⟨A, c, rfl⟩ := Kd.R_slice hR
  have BK := Aside0.mk hb
  have HG := Aside0.mk hg
  have HR := Aside0.mk hR
  clear hg hR
  have hc2 := blk_cell BK.out 2
  have hc3 := blk_cell BK.out 3
  unfold cAsked
  by_cases h1 : rev < floor
  · have h1b : decide (rev < floor) = true := decide_eq_true h1
    rw [if_pos h1]
    go_enter Try.func22, Try.ntmps22
    go_wp2
    go_ret
    exact ⟨rfl, Below.refl _ _⟩
  · have h1b : decide (rev < floor) = false := decide_eq_false h1
    rw [if_neg h1]
    by_cases h2 : rev > last
    · have h2b : decide (rev > last) = true := decide_eq_true h2
      rw [if_pos h2]
      go_enter Try.func22, Try.ntmps22
      go_wp2
      go_ret
      exact ⟨rfl, Below.refl _ _⟩
    · have h2b : decide (rev > last) = false := decide_eq_false h2
      rw [if_neg h2]
      go_enter Try.func22, Try.ntmps22
      go_wp2
      go_ret
      exact ⟨rfl, Below.refl _ _⟩
set_option maxHeartbeats 8000000 in
set_option maxRecDepth 100000 in
theorem clog_asked.nil_ (rev : Int) (w : World) : Calls Try.prog 22 #[.pointer none, .int .i64 rev] w fun e w' => e = .returned (.int .i64 2) ∧ Below w.heap.size w w' := by
  have hu62 := Try.underlying62
  have hu57 := Try.underlying57
  have hu37 := Try.underlying37
  have hu23 := Try.underlying23
  go_enter Try.func22, Try.ntmps22
  go_wp2
  go_ret
  exact ⟨rfl, Below.refl _ _⟩
theorem nil37 (w : World) (a : Option Addr) (n c : Nat) : (binOp .eql 37 (.slice a n c) (.slice none 0 0)).run Try.prog w = .ok (.bool a.isNone) w := by
  have h1 : ∀ d, (Op.equalIn (d + 1) 37 (.slice a n c) (.slice none 0 0)).run Try.prog w = .ok a.isNone w := by
    intro d
    cases a <;> simp [Op.equalIn, run_underlying Try.underlying37]
  have h2 : (Op.equal 37 (.slice a n c) (.slice none 0 0)).run Try.prog w = .ok a.isNone w := h1 9999
  simp only [binOp]
  simp [h2]
set_option maxHeartbeats 8000000 in
set_option maxRecDepth 100000 in
theorem cloneS (base : Nat) (A : Option Addr) (c : Nat) (L : List S57) (w : World) (hC : Kd.C k57 w A L.length L) (hbase : base ≤ w.heap.size) (hlen : L.length ≤ 100000) : Calls Try.prog 23 #[.slice A L.length c] w fun e w' => ∃ v, e = .returned v ∧ Kd.R k57 57 w' w.heap.size (fun _ => True) v L ∧ Below w.heap.size w w' := by
  have hu57 := Try.underlying57
  have hu37 := Try.underlying37
  have HC := Aside0.mk hC
  have HLEN := Aside0.mk hlen
  clear hC hlen
  cases hA : A with
  | none =>
    subst hA
    have hn : L = [] := by
      cases L with
      | nil => rfl
      | cons y t =>
        obtain ⟨ad, e, _⟩ := at_T57 HC.out 0 (by omega) (by simp only [List.length_cons]; omega)
        cases e
    subst hn
    have hq := nil37 w none 0 c
    rw [Option.isNone_none] at hq
    go_enter Try.func23, Try.ntmps23
    go_wp2
    go_ret
    exact ⟨_, rfl, Kd.R_nil _ _ _ _ _, Below.refl _ _⟩
  | some ad =>
    subst hA
    have hq := nil37 w (some ad) L.length c
    rw [Option.isNone_some] at hq
    go_enter Try.func23, Try.ntmps23
    go_wp2_with (first | ((with_reducible refine gate_dst (N := 5) rfl ?_); refine Kd.R_lit k57 (w0 := w) w.heap.size 57 ?hg (N := 5) ?hd (xs := ([] : List S57)) (inner := []) (ok := fun _ => True) (okp := fun _ => True) ?hr ?hp (fun _ hk => hk) trivial (Below.refl _ _) (Nat.le_refl _) (by simp) ?_; (case hd => rfl); (case hg => rfl); (case hr => first | (go_simp; done) | (go_simp; rfl)); (case hp => exact (Reps.none _ _)); intro v5 w1 ho1 hb1 hg1 hnew1; have HO1 := Aside0.mk ho1; have HB1 := Aside0.mk hb1; clear ho1 hb1 hg1 hnew1) | ((with_reducible refine gate_builtin (b := .append) (xs := #[.tmp 5, .tmp 6]) rfl ?_); at_builtin; refine Kd.R_append_rows k57 (Rr := k57.K w1) (w0 := w) w.heap.size rfl (.tmp 5) (.tmp 6) 37 57 (.agg #[.int .i64 0, .string ⟨#[]⟩, .string ⟨#[]⟩, .bool false]) 48 rfl Try.underlying37 info57 rfl (by decide) (by omega) v5 [] L (some ad) L.length c (fun _ => True) (fun _ => False) rfl rfl HO1.out (Kd.C_below HC.out HB1.out) (fun x cs hx => by obtain rfl := k57_open hx; exact k57_mkM _ _ _ x) (fun _ hk => hk.elim) (fun _ _ => trivial) HB1.out HB1.out.size (by have := HLEN.out; simp only [List.length_nil]; omega) ?_; intro v7 w2 ho2 hb2 hg2 hat2; rw [List.nil_append] at ho2; have HO2 := Aside0.mk ho2; have HB2 := Aside0.mk hb2; clear ho2 hb2 hg2 hat2) | fail)
    go_ret
    exact ⟨_, rfl, HO2.out, HB2.out⟩
theorem cut57 (A : Option Addr) (n c m : Nat) (hm : m ≤ n) : ∃ A' : Option Addr, (∀ W : World, (Instr.slice 37 (.slice A n c) (some (.int .i64 (m : Int))) none none).run Try.prog W = .ok (.slice A' (n - m) (c - m)) W) ∧ ∀ (w : World) (xs : List S57), n = xs.length → n ≤ c → Kd.C k57 w A n xs → Kd.C k57 w A' (xs.drop m).length (xs.drop m) := by
  obtain ⟨i, hi, hz⟩ := Option.map_eq_some_iff.1 info57
  simp only [Prod.mk.injEq] at hz
  refine ⟨if c = m then A else A.map (·.add (m * 4)), fun W => ?_, fun w xs hn hc h => by subst hn; exact Kd.C_drop h hm hc⟩
  have hel : Try.prog.elem 37 = 57 := by simp [Program.elem, Try.underlying37]
  have hu : Try.prog.underlying 37 = some (.slice (Try.prog.elem 37)) := by rw [hel]; exact Try.underlying37
  rw [run_slice_l W 37 A n c hu .i64 (m : Int) (Int.natCast_nonneg _) (by omega), hel]
  simp [sizeOf, typeInfo, hi, hz.2.1, sliced, Result.andThen]
theorem cloneN (n : Nat) (A : Option Addr) (c : Nat) (L : List S57) (w : World) (hn : n = L.length) (hC : Kd.C k57 w A L.length L) (hlen : L.length ≤ 100000) : Calls Try.prog 23 #[.slice A n c] w fun e w' => ∃ v, e = .returned v ∧ Kd.R k57 57 w' w.heap.size (fun _ => True) v L ∧ Below w.heap.size w w' := by
  subst hn
  exact cloneS w.heap.size A c L w hC (Nat.le_refl _) hlen
set_option maxHeartbeats 8000000 in
set_option maxRecDepth 100000 in
theorem clog_Since.no (rev : Int) (base g : Nat) (L : List S57) (most floor last : Int) (w : World) (h : CSt w base g L most floor last) (he : cAsked rev floor last ≠ 0) : Calls Try.prog 14 #[.pointer (some ⟨g, 0, none⟩), .int .i64 rev] w fun e w' => e = .returned (.tuple #[.slice none 0 0, .int .i64 (cAsked rev floor last)]) ∧ Below w.heap.size w w' := by
  have hu62 := Try.underlying62
  have hu57 := Try.underlying57
  have hu37 := Try.underlying37
  have hu23 := Try.underlying23
  have HA := Aside0.mk (clog_asked rev base g L most floor last w h)
  obtain ⟨e0, he0⟩ : ∃ e, cAsked rev floor last = e := ⟨_, rfl⟩
  rw [he0] at HA he ⊢
  clear h he0
  have hne : (e0 == 0) = false := by simpa using he
  have hne2 : (e0 != 0) = true := by simpa using he
  go_enter Try.func14, Try.ntmps14
  go_wp2_with (go_at_call 22; refine HA.out.mono ?_; rintro e w1 ⟨rfl, hb1⟩)
  go_ret2
  exact ⟨rfl, hb1⟩
set_option maxHeartbeats 8000000 in
set_option maxRecDepth 100000 in
theorem clog_Since.nil_ (rev : Int) (w : World) : Calls Try.prog 14 #[.pointer none, .int .i64 rev] w fun e w' => e = .returned (.tuple #[.slice none 0 0, .int .i64 2]) ∧ Below w.heap.size w w' := by
  have hu62 := Try.underlying62
  have hu57 := Try.underlying57
  have hu37 := Try.underlying37
  have hu23 := Try.underlying23
  go_enter Try.func14, Try.ntmps14
  go_wp2_with (go_at_call 22; refine (clog_asked.nil_ rev _).mono ?_; rintro e w1 ⟨rfl, hb1⟩)
  go_ret2
  exact ⟨rfl, hb1⟩
set_option maxHeartbeats 8000000 in
set_option maxRecDepth 100000 in
theorem clog_Since.yes (rev : Int) (base g : Nat) (L : List S57) (most floor last : Int) (w : World) (h : CSt w base g L most floor last) (hlen : L.length ≤ 1000) (he : cAsked rev floor last = 0) : Calls Try.prog 14 #[.pointer (some ⟨g, 0, none⟩), .int .i64 rev] w fun e w' => ∃ v, e = .returned (.tuple #[v, .int .i64 0]) ∧ Kd.R k57 57 w' w.heap.size (fun _ => True) v (L.drop (cAb L rev)) ∧ Below w.heap.size w w' := by
  have hu62 := Try.underlying62
  have hu57 := Try.underlying57
  have hu37 := Try.underlying37
  have hu23 := Try.underlying23
  have HS := Aside0.mk h
  obtain ⟨v, hb, hg, hR⟩ := h
  obtain ⟨A, c, rfl⟩ := Kd.R_slice hR
  have BK := Aside0.mk hb
  have HG := Aside0.mk hg
  have HR := Aside0.mk hR
  clear hg hR
  have HLEN := Aside0.mk hlen
  have HA := Aside0.mk (clog_asked rev base g L most floor last w HS.out)
  rw [he] at HA
  obtain ⟨m, hm⟩ : ∃ m, cAb L rev = m := ⟨_, rfl⟩
  have HML := Aside0.mk (hm ▸ cAb_le L rev : m ≤ L.length)
  have HM := Aside0.mk hm
  rw [hm]
  have HLC := Aside0.mk (Kd.R_reads' HR.out).2.1
  obtain ⟨A2, hcut, HCUT_⟩ := cut57 A L.length c m HML.out
  have HCUT := Aside0.mk HCUT_
  clear HCUT_ hlen he hm
  go_enter Try.func14, Try.ntmps14
  go_upto_region 4 with (go_at_call 22; refine HA.out.mono ?_; rintro e w1 ⟨rfl, hb1⟩; have HS1 := Aside0.mk (CSt.below HS.out hb1); have BK1 := Aside0.mk (blk_below BK.out hb1); have HR1 := Aside0.mk (Kd.R_below HR.out hb1); have HB1 := Aside0.mk hb1; clear hb1 HS BK HR hb)
  have HS := HS1
  have BK := BK1
  have HR := HR1
  clear HS1 BK1 HR1
  refine start_ (n := 11) (S := fun w' => w'.cell? ⟨g, 0, none⟩ = some (.slice A L.length c)) (ds := []) #[false, false, false, false, false, false, false, false, false, false, false] (by kernel_rfl) rfl rfl ((blk_cell BK.out 0).trans rfl) (fun hHeld => ?_)
  have HSd_ := CSt.below HS.out (below_drew (Below.refl _ _))
  have BKd_ := blk_drew BK.out
  have HRd_ := Kd.R_drew HR.out
  have HBd_ := below_drew HB1.out
  clear HS BK HR
  generalize w1.drew = wd at HSd_ BKd_ HRd_ HBd_ hHeld ⊢
  have HSd := Aside0.mk HSd_
  have BKd := Aside0.mk BKd_
  have HRd := Aside0.mk HRd_
  have HBd := Aside0.mk HBd_
  clear HSd_ BKd_ HRd_ HBd_
  refine pure_ (i := 0) (N := some 13) (v := ?_) (a' := ?_) #[true, false, false, false, false, false, false, false, false, false, false] rfl rfl (by kernel_rfl) (fun _ _ _ h => h) (Or.inl ⟨by rfl, ?_⟩) ?_ ?_
  rotate_left
  · intro w'
    go_simp
    with_reducible rfl
  rotate_left
  · simp only [Act.put, List.setIfInBounds_toArray, List.set_cons_zero, List.set_cons_succ, i64_w, i32_w]
    rfl
  refine pure_ (i := 1) (N := some 14) (v := ?_) (a' := ?_) #[true, true, false, false, false, false, false, false, false, false, false] rfl rfl (by kernel_rfl) (fun _ _ _ h => h) (Or.inl ⟨by rfl, ?_⟩) ?_ ?_
  rotate_left
  · intro w'
    go_simp
    with_reducible rfl
  rotate_left
  · simp only [Act.put, List.setIfInBounds_toArray, List.set_cons_zero, List.set_cons_succ, i64_w, i32_w]
    rfl
  refine pure_ (i := 2) (N := some 15) (v := ?_) (a' := ?_) #[true, true, true, false, false, false, false, false, false, false, false] rfl rfl (by kernel_rfl) (fun _ _ _ h => h) (Or.inl ⟨by rfl, ?_⟩) ?_ ?_
  rotate_left
  · intro w'
    go_simp
    with_reducible rfl
  rotate_left
  · simp only [Act.put, List.setIfInBounds_toArray, List.set_cons_zero, List.set_cons_succ, i64_w, i32_w]
    rfl
  refine pure_ (i := 4) (N := some 17) (v := ?_) (a' := ?_) #[true, true, true, false, true, false, false, false, false, false, false] rfl rfl (by kernel_rfl) (fun _ _ _ h => h) (Or.inl ⟨by rfl, ?_⟩) ?_ ?_
  rotate_left
  · intro w'
    go_simp
    with_reducible rfl
  rotate_left
  · simp only [Act.put, List.setIfInBounds_toArray, List.set_cons_zero, List.set_cons_succ, i64_w, i32_w]
    rfl
  refine pure_ (i := 5) (N := some 18) (v := ?_) (a' := ?_) #[true, true, true, false, true, true, false, false, false, false, false] rfl rfl (by kernel_rfl) (fun _ _ _ h => h) (Or.inl ⟨by rfl, ?_⟩) ?_ ?_
  rotate_left
  · intro w'
    go_simp
    with_reducible rfl
  rotate_left
  · simp only [Act.put, List.setIfInBounds_toArray, List.set_cons_zero, List.set_cons_succ, i64_w, i32_w]
    rfl
  refine take_ (i := 3) (N := some 16) (v := ?_) (a' := ?_) #[true, true, true, true, true, true, false, false, false, false, false] rfl rfl (by kernel_rfl) (fun _ _ _ h => h) (Or.inl ⟨by rfl, ?_⟩) hHeld ?_ ?_
  rotate_left
  · intro w' s0
    go_simp
    with_reducible rfl
  rotate_left
  · simp only [Act.put, List.setIfInBounds_toArray, List.set_cons_zero, List.set_cons_succ, i64_w, i32_w]
    rfl
  refine one_ (i := 6) (N := some 19) #[true, true, true, true, true, true, true, false, false, false, false] rfl rfl (by kernel_rfl) (by decide) (fun K hK => ?_)
  refine goes_ Try.func24 (by kernel_rfl) rfl #[.pointer (some ⟨g, 0, none⟩), .int .i64 rev] (by rfl) rfl rfl (by simp only [List.map_toArray, List.map_cons, List.map_nil]; rfl) ?_
  with_reducible refine (clog_above rev base g L most floor last _ HSd.out HLEN.out).mono ?_
  rintro e w3 ⟨rfl, hb3⟩
  refine ⟨_, rfl, ?_⟩
  rw [HM.out]
  have HS3 := Aside0.mk (CSt.below HSd.out hb3)
  have BK3 := Aside0.mk (blk_below BKd.out hb3)
  have HB3 := Aside0.mk hb3
  have HR3 := Aside0.mk (Kd.R_below HRd.out hb3)
  clear hb3
  refine hK.out _ _ ((blk_cell BK3.out 0).trans rfl) (fun hHeld => ?_)
  clear hK K
  refine norm_ (a' := ?_) ?_ ?_
  rotate_left
  · show Act.put _ (some 19) _ = _
    simp only [Act.put, List.setIfInBounds_toArray, List.set_cons_zero, List.set_cons_succ, i64_w, i32_w]
    rfl
  refine pure_ (i := 7) (N := some 20) (v := ?_) (a' := ?_) #[true, true, true, true, true, true, true, true, false, false, false] rfl rfl (by kernel_rfl) (fun _ _ _ h => h) (Or.inl ⟨by rfl, ?_⟩) ?_ ?_
  rotate_left
  · intro w'
    go_simp
    with_reducible rfl
  rotate_left
  · simp only [Act.put, List.setIfInBounds_toArray, List.set_cons_zero, List.set_cons_succ, i64_w, i32_w]
    rfl
  refine one_ (i := 8) (N := some 21) #[true, true, true, true, true, true, true, true, true, false, false] rfl rfl (by kernel_rfl) (by decide) (fun K hK => ?_)
  refine goes_ Try.func23 (by kernel_rfl) rfl #[.slice A2 (L.length - m) (c - m)] (by rfl) rfl rfl (by simp only [List.map_toArray, List.map_cons, List.map_nil]; rfl) ?_
  with_reducible refine (cloneN _ A2 (c - m) (L.drop m) _ (List.length_drop).symm (HCUT.out _ L rfl HLC.out (Kd.R_reads' HR3.out).2.2) (by have := HLEN.out; rw [List.length_drop]; omega)).mono ?_
  rintro e w4 ⟨v4, rfl, hR4, hb4⟩
  refine ⟨_, rfl, ?_⟩
  have HS4 := Aside0.mk (CSt.below HS3.out hb4)
  have BK4 := Aside0.mk (blk_below BK3.out hb4)
  have HB4 := Aside0.mk (below_step HB3.out hb4)
  have HR4 := Aside0.mk (Kd.R_lower hR4 HB3.out.size)
  clear hb4 hR4
  refine hK.out _ _ ((blk_cell BK4.out 0).trans rfl) (fun hHeld => ?_)
  clear hK K
  refine norm_ (a' := ?_) ?_ ?_
  rotate_left
  · show Act.put _ (some 21) _ = _
    simp only [Act.put, List.setIfInBounds_toArray, List.set_cons_zero, List.set_cons_succ, i64_w, i32_w]
    rfl
  refine pure_ (i := 9) (N := some 4) (v := ?_) (a' := ?_) #[true, true, true, true, true, true, true, true, true, true, false] rfl rfl (by kernel_rfl) (fun _ _ _ h => h) (Or.inl ⟨by rfl, ?_⟩) ?_ ?_
  rotate_left
  · intro w'
    go_simp
    with_reducible rfl
  rotate_left
  · simp only [Act.put, List.setIfInBounds_toArray, List.set_cons_zero, List.set_cons_succ, i64_w, i32_w]
    rfl
  refine pure_ (i := 10) (N := some 5) (v := ?_) (a' := ?_) #[true, true, true, true, true, true, true, true, true, true, true] rfl rfl (by kernel_rfl) (fun _ _ _ h => h) (Or.inl ⟨by rfl, ?_⟩) ?_ ?_
  rotate_left
  · intro w'
    go_simp
    with_reducible rfl
  rotate_left
  · simp only [Act.put, List.setIfInBounds_toArray, List.set_cons_zero, List.set_cons_succ, i64_w, i32_w]
    rfl
  refine done_ (by kernel_rfl) ?_
  go_wp2
  go_ret2
  exact ⟨_, rfl, Kd.R_lower HR4.out HBd.out.size, below_step HBd.out HB4.out⟩
theorem below_less {B B' : Nat} {a b : World} (h : Below B' a b) (hB : B ≤ B') : Below B a b := ⟨h.os, h.tape, h.output, h.size, fun i hi => h.block i (Nat.lt_of_lt_of_le hi hB)⟩
set_option maxHeartbeats 8000000 in
set_option maxRecDepth 100000 in
theorem cl25 (key : ByteArray) (x : S55) (b : Nat) (w : World) (hc : w.cell? ⟨b, 0, none⟩ = some (.string key)) : Calls Try.prog 25 #[.agg #[.string x.f0, .string x.f1, .bool x.f2], .pointer (some ⟨b, 0, none⟩)] w fun e w' => e = .returned (.bool (x.f0.toList == key.toList)) ∧ Below w.heap.size w w' := by
  have hu55 := Try.underlying55
  have hc2 := ((below_alloc (Below.refl w.heap.size w) (.cells #[.string x.f0, .string x.f1, .bool x.f2] 55)).cell (p := ⟨b, 0, none⟩) (World.block_lt_of_cell? _ _ hc)).trans hc
  have hbl : b < w.heap.size := World.block_lt_of_cell? _ _ hc
  have hbn : b ≠ w.heap.size := Nat.ne_of_lt hbl
  go_enter Try.func25, Try.ntmps25
  go_wp2
  go_ret
  exact ⟨by simp, below_alloc (Below.refl _ _) _⟩
theorem nf48 (w : World) (b : Nat) : (binOp .eql 48 (.func (.func 25) #[] #[.pointer (some ⟨b, 0, none⟩)]) .nilFunc).run Try.prog w = .ok (.bool false) w := by
  have h1 : ∀ d, (Op.equalIn (d + 1) 48 (.func (.func 25) #[] #[.pointer (some ⟨b, 0, none⟩)]) .nilFunc).run Try.prog w = .ok false w := by
    intro d
    simp [Op.equalIn, run_underlying Try.underlying48]
  have h2 : (Op.equal 48 (.func (.func 25) #[] #[.pointer (some ⟨b, 0, none⟩)]) .nilFunc).run Try.prog w = .ok false w := h1 9999
  simp only [binOp]
  simp [h2]
set_option maxHeartbeats 8000000 in
set_option maxRecDepth 100000 in
theorem clog_fits (key : ByteArray) (w : World) : Calls Try.prog 19 #[.string key] w fun e w' => e = .returned (.func (.func 25) #[] #[.pointer (some ⟨w.heap.size, 0, none⟩)]) ∧ w' = w.alloc (.cells #[.string key] 9) := by
  go_enter Try.func19, Try.ntmps19
  go_wp2
  go_ret
  exact ⟨rfl, rfl⟩
set_option maxHeartbeats 8000000 in
set_option maxRecDepth 100000 in
theorem clog_Next.no (fv : Value) (rev : Int) (base g : Nat) (L : List S57) (most floor last : Int) (w : World) (h : CSt w base g L most floor last) (he : cAsked rev floor last ≠ 0) : Calls Try.prog 18 #[.pointer (some ⟨g, 0, none⟩), .int .i64 rev, fv] w fun e w' => e = .returned (.tuple #[.slice none 0 0, .int .i64 0, .int .i64 (cAsked rev floor last)]) ∧ Below w.heap.size w w' := by
  have hu62 := Try.underlying62
  have hu57 := Try.underlying57
  have hu37 := Try.underlying37
  have hu23 := Try.underlying23
  have HA := Aside0.mk (clog_Since.no rev base g L most floor last w h he)
  obtain ⟨e0, he0⟩ : ∃ e, cAsked rev floor last = e := ⟨_, rfl⟩
  rw [he0] at HA he ⊢
  clear h he0
  have hne : (e0 == 0) = false := by simpa using he
  have hne2 : (e0 != 0) = true := by simpa using he
  go_enter Try.func18, Try.ntmps18
  go_wp2_with (go_at_call 14; refine HA.out.mono ?_; rintro e w1 ⟨rfl, hb1⟩)
  go_ret3
  exact ⟨rfl, hb1⟩
set_option maxHeartbeats 8000000 in
set_option maxRecDepth 100000 in
theorem clog_Next.nil_ (fv : Value) (rev : Int) (w : World) : Calls Try.prog 18 #[.pointer none, .int .i64 rev, fv] w fun e w' => e = .returned (.tuple #[.slice none 0 0, .int .i64 0, .int .i64 2]) ∧ Below w.heap.size w w' := by
  have hu62 := Try.underlying62
  have hu57 := Try.underlying57
  have hu37 := Try.underlying37
  have hu23 := Try.underlying23
  go_enter Try.func18, Try.ntmps18
  go_wp2_with (go_at_call 14; refine (clog_Since.nil_ rev _).mono ?_; rintro e w1 ⟨rfl, hb1⟩)
  go_ret3
  exact ⟨rfl, hb1⟩
set_option maxHeartbeats 8000000 in
set_option maxRecDepth 100000 in
theorem clog_Next.fits (rev : Int) (base g : Nat) (L : List S57) (most floor last : Int) (key : ByteArray) (b : Nat) (w : World) (hcb : w.cell? ⟨b, 0, none⟩ = some (.string key)) (h : CSt w base g L most floor last) (hlen : L.length ≤ 1000) (he : cAsked rev floor last = 0) : Calls Try.prog 18 #[.pointer (some ⟨g, 0, none⟩), .int .i64 rev, .func (.func 25) #[] #[.pointer (some ⟨b, 0, none⟩)]] w fun e w' => ∃ v, e = .returned (.tuple #[v, .int .i64 last, .int .i64 0]) ∧ Kd.R k57 57 w' w.heap.size (fun _ => True) v ((L.drop (cAb L rev)).filter (fun x => x.f1.f0.toList == key.toList)) ∧ Below w.heap.size w w' := by
  have hu62 := Try.underlying62
  have hu57 := Try.underlying57
  have hu37 := Try.underlying37
  have hu23 := Try.underlying23
  have HS := Aside0.mk h
  obtain ⟨v, hb, hg, hR⟩ := h
  obtain ⟨A, c, rfl⟩ := Kd.R_slice hR
  have BK := Aside0.mk hb
  have HG := Aside0.mk hg
  have HR := Aside0.mk hR
  clear hg hR
  have HLEN := Aside0.mk hlen
  have HSI := Aside0.mk (clog_Since.yes rev base g L most floor last w HS.out hlen he)
  have HMLE := Aside0.mk (show (L.drop (cAb L rev)).length ≤ 1000 by rw [List.length_drop]; omega)
  obtain ⟨M, hM⟩ : ∃ M, L.drop (cAb L rev) = M := ⟨_, rfl⟩
  rw [hM] at HSI HMLE
  rw [hM]
  clear hM hlen he hb
  have HCC := Aside0.mk hcb
  clear hcb
  have hq : ∀ w : World, (binOp .eql 48 (.func (.func 25) #[] #[.pointer (some ⟨b, 0, none⟩)]) .nilFunc).run Try.prog w = .ok (.bool false) w := fun w => nf48 w b
  go_enter Try.func18, Try.ntmps18
  go_wp2_with (go_at_call 14; refine HSI.out.mono ?_; rintro e w1 ⟨v1, rfl, hR1, hB1⟩; obtain ⟨A1, c1, rfl⟩ := Kd.R_slice hR1; have HC1 := Aside0.mk (Kd.R_reads' hR1).2.2; have HB1 := Aside0.mk hB1; clear hR1 hB1)
  go_loopg [25, 11] (M.length + 1) (fun kq v25 v11 wr => ∃ i : Nat, v25 = .int .i64 (i : Int) ∧ Kd.R k57 57 wr w1.heap.size (fun _ => True) v11 ((M.take i).filter (fun x => x.f1.f0.toList == key.toList)) ∧ Aside0 (i + kq = M.length + 1 ∧ i ≤ M.length) ∧ Aside0 (Below w1.heap.size w1 wr))
  case atStart => exact ⟨0, rfl, Kd.R_nil _ _ _ _ _, ⟨by omega, by omega⟩, ⟨Below.refl _ _⟩⟩
  case round =>
    obtain ⟨i, rfl, hRo_, HI, HW⟩ := hrel
    obtain ⟨Ao, co, rfl⟩ := Kd.R_slice hRo_
    have HRO := Aside0.mk hRo_
    clear hRo_
    have HOL := Aside0.mk (show ((M.take i).filter (fun x => x.f1.f0.toList == key.toList)).length ≤ 1000 by have := HMLE.out; refine Nat.le_trans (List.length_filter_le _ _) ?_; rw [List.length_take]; omega)
    cases gk with
    | zero => have := HI.out; omega
    | succ k1 =>
      by_cases c2 : (i : Int) < (M.length : Int)
      · have c2b : decide ((i : Int) < (M.length : Int)) = true := decide_eq_true c2
        have p2 : (0 : Int) ≤ (i : Int) := by omega
        obtain ⟨ad2, e2, hx0, hx1, hx2, hx3⟩ := at_T57 (Kd.C_below HC1.out HW.out) (i : Int) p2 c2
        cases e2
        have p2t : ((0 : Int) ≤ (i : Int)) = True := eq_true p2
        have q2t : ((i : Int) < (M.length : Int)) = True := eq_true c2
        have q2n : (i < M.length) = True := eq_true (by omega)
        simp only [Int.toNat_natCast] at hx0 hx1 hx2 hx3
        have hw2 : wrap64 ((i : Int) + 1) = ((i + 1 : Nat) : Int) := by have := HMLE.out; unfold wrap64; omega
        have htk := take57 M i (by omega)
        obtain ⟨x, hx⟩ : ∃ x, rd_T57 M (i : Int) = x := ⟨_, rfl⟩
        rw [hx] at hx0 hx1 hx2 hx3 htk
        clear hx
        have HTK := Aside0.mk htk
        clear htk
        obtain ⟨O, hO⟩ : ∃ O, (M.take i).filter (fun x => x.f1.f0.toList == key.toList) = O := ⟨_, rfl⟩
        rw [hO] at HRO HOL ⊢
        have HO := Aside0.mk hO
        clear hO
        have HAB := Aside0.mk (below_alloc HW.out (.cells #[.int .i64 x.f0, .string x.f1.f0, .string x.f1.f1, .bool x.f1.f2] 57))
        have HRA := Aside0.mk (Kd.R_alloc HRO.out (.cells #[.int .i64 x.f0, .string x.f1.f0, .string x.f1.f1, .bool x.f1.f2] 57))
        by_cases hp : (x.f1.f0.toList == key.toList) = true
        · have hcw := (HW.out.cell (p := ⟨b, 0, none⟩) (World.block_lt_of_cell? _ _ ((HB1.out.cell (p := ⟨b, 0, none⟩) (World.block_lt_of_cell? _ _ HCC.out)).trans HCC.out))).trans ((HB1.out.cell (p := ⟨b, 0, none⟩) (World.block_lt_of_cell? _ _ HCC.out)).trans HCC.out)
          have hcc := ((below_alloc (Below.refl wr.heap.size wr) (.cells #[.int .i64 x.f0, .string x.f1.f0, .string x.f1.f1, .bool x.f1.f2] 57)).cell (p := ⟨b, 0, none⟩) (World.block_lt_of_cell? _ _ hcw)).trans hcw
          clear hcw
          have hp : (x.f1.f0.toList == key.toList) = true := hp
          go_wp2_with (first | (go_at_call 25; refine (cl25 key x.f1 b _ hcc).mono ?_; rintro e w3 ⟨rfl, hb3⟩; rw [hp]; have HRD := Aside0.mk (Kd.R_below HRA.out hb3); have HBD := Aside0.mk (HAB.out.trans (below_less hb3 HAB.out.size)); have hy0 := (blk_cell (blk_below (blk_new wr (.cells #[.int .i64 x.f0, .string x.f1.f0, .string x.f1.f1, .bool x.f1.f2] 57)) hb3) 0).trans rfl; have hy1 := (blk_cell (blk_below (blk_new wr (.cells #[.int .i64 x.f0, .string x.f1.f0, .string x.f1.f1, .bool x.f1.f2] 57)) hb3) 1).trans rfl; have hy2 := (blk_cell (blk_below (blk_new wr (.cells #[.int .i64 x.f0, .string x.f1.f0, .string x.f1.f1, .bool x.f1.f2] 57)) hb3) 2).trans rfl; have hy3 := (blk_cell (blk_below (blk_new wr (.cells #[.int .i64 x.f0, .string x.f1.f0, .string x.f1.f1, .bool x.f1.f2] 57)) hb3) 3).trans rfl; clear hb3) | ((with_reducible refine gate_builtin (b := .append) (xs := #[.tmp 37, .tmp 39]) rfl ?_); at_builtin; refine Kd.R_append k57 (w0 := w1) w1.heap.size rfl (.tmp 37) (.tmp 39) 37 57 (.agg #[.int .i64 0, .string ⟨#[]⟩, .string ⟨#[]⟩, .bool false]) 48 rfl Try.underlying37 info57 rfl (by decide) (by omega) (.slice Ao O.length co) O x [.int .i64 x.f0, .string x.f1.f0, .string x.f1.f1, .bool x.f1.f2] (fun _ => True) (fun _ => False) rfl ?aH (k57_mkM _ _ _ x) (fun _ hk => hk.elim) (fun _ _ => trivial) HRD.out HBD.out HBD.out.size (by have := HOL.out; omega) ?_; (case aH => first | rfl | (go_simp; done) | (go_simp; rfl) | simp); intro v4 w4 ho hbb hg3 hat; have HR4 := Aside0.mk ho; have HB4 := Aside0.mk hbb; clear ho hbb hg3 hat) | fail)
          go_roundg k1
          case measure => omega
          case rel => exact ⟨i + 1, by first | rw [hw2] | simp, by rw [HTK.out, List.filter_append, HO.out, List.filter_cons, if_pos hp, List.filter_nil]; exact HR4.out, ⟨by have := HI.out; omega, by omega⟩, ⟨HB4.out⟩⟩
        · have hcw := (HW.out.cell (p := ⟨b, 0, none⟩) (World.block_lt_of_cell? _ _ ((HB1.out.cell (p := ⟨b, 0, none⟩) (World.block_lt_of_cell? _ _ HCC.out)).trans HCC.out))).trans ((HB1.out.cell (p := ⟨b, 0, none⟩) (World.block_lt_of_cell? _ _ HCC.out)).trans HCC.out)
          have hcc := ((below_alloc (Below.refl wr.heap.size wr) (.cells #[.int .i64 x.f0, .string x.f1.f0, .string x.f1.f1, .bool x.f1.f2] 57)).cell (p := ⟨b, 0, none⟩) (World.block_lt_of_cell? _ _ hcw)).trans hcw
          clear hcw
          have hp : (x.f1.f0.toList == key.toList) = false := by simpa using hp
          go_wp2_with (first | (go_at_call 25; refine (cl25 key x.f1 b _ hcc).mono ?_; rintro e w3 ⟨rfl, hb3⟩; rw [hp]; have HRD := Aside0.mk (Kd.R_below HRA.out hb3); have HBD := Aside0.mk (HAB.out.trans (below_less hb3 HAB.out.size)); have hy0 := (blk_cell (blk_below (blk_new wr (.cells #[.int .i64 x.f0, .string x.f1.f0, .string x.f1.f1, .bool x.f1.f2] 57)) hb3) 0).trans rfl; have hy1 := (blk_cell (blk_below (blk_new wr (.cells #[.int .i64 x.f0, .string x.f1.f0, .string x.f1.f1, .bool x.f1.f2] 57)) hb3) 1).trans rfl; have hy2 := (blk_cell (blk_below (blk_new wr (.cells #[.int .i64 x.f0, .string x.f1.f0, .string x.f1.f1, .bool x.f1.f2] 57)) hb3) 2).trans rfl; have hy3 := (blk_cell (blk_below (blk_new wr (.cells #[.int .i64 x.f0, .string x.f1.f0, .string x.f1.f1, .bool x.f1.f2] 57)) hb3) 3).trans rfl; clear hb3) | fail)
          go_roundg k1
          case measure => omega
          case rel => exact ⟨i + 1, by first | rw [hw2] | simp, by rw [HTK.out, List.filter_append, HO.out, List.filter_cons, if_neg (by rw [hp]; decide), List.filter_nil, List.append_nil]; exact HRD.out, ⟨by have := HI.out; omega, by omega⟩, ⟨HBD.out⟩⟩
      · have c2b : decide ((i : Int) < (M.length : Int)) = false := decide_eq_false c2
        have hi : i = M.length := by have := HI.out; omega
        subst hi
        rw [List.take_length] at HRO
        have BK2 := Aside0.mk (blk_below (blk_below BK.out HB1.out) HW.out)
        go_upto_region 11 with fail
        refine start_ (n := 8) (S := fun w' => w'.cell? ⟨g, 3, none⟩ = some (.int .i64 last)) (ds := []) #[false, false, false, false, false, false, false, false] (by kernel_rfl) rfl rfl ((blk_cell BK2.out 3).trans rfl) (fun hHeld => ?_)
        refine pure_ (i := 0) (N := some 42) (v := ?_) (a' := ?_) #[true, false, false, false, false, false, false, false] rfl rfl (by kernel_rfl) (fun _ _ _ h => h) (Or.inl ⟨by rfl, ?_⟩) ?_ ?_
        rotate_left
        · intro w'
          go_simp
          with_reducible rfl
        rotate_left
        · simp only [Act.put, List.setIfInBounds_toArray, List.set_cons_zero, List.set_cons_succ, i64_w, i32_w]
          rfl
        refine pure_ (i := 1) (N := some 43) (v := ?_) (a' := ?_) #[true, true, false, false, false, false, false, false] rfl rfl (by kernel_rfl) (fun _ _ _ h => h) (Or.inl ⟨by rfl, ?_⟩) ?_ ?_
        rotate_left
        · intro w'
          go_simp
          with_reducible rfl
        rotate_left
        · simp only [Act.put, List.setIfInBounds_toArray, List.set_cons_zero, List.set_cons_succ, i64_w, i32_w]
          rfl
        refine pure_ (i := 2) (N := some 44) (v := ?_) (a' := ?_) #[true, true, true, false, false, false, false, false] rfl rfl (by kernel_rfl) (fun _ _ _ h => h) (Or.inl ⟨by rfl, ?_⟩) ?_ ?_
        rotate_left
        · intro w'
          go_simp
          with_reducible rfl
        rotate_left
        · simp only [Act.put, List.setIfInBounds_toArray, List.set_cons_zero, List.set_cons_succ, i64_w, i32_w]
          rfl
        refine pure_ (i := 3) (N := some 45) (v := ?_) (a' := ?_) #[true, true, true, true, false, false, false, false] rfl rfl (by kernel_rfl) (fun _ _ _ h => h) (Or.inl ⟨by rfl, ?_⟩) ?_ ?_
        rotate_left
        · intro w'
          go_simp
          with_reducible rfl
        rotate_left
        · simp only [Act.put, List.setIfInBounds_toArray, List.set_cons_zero, List.set_cons_succ, i64_w, i32_w]
          rfl
        refine pure_ (i := 5) (N := some 6) (v := ?_) (a' := ?_) #[true, true, true, true, false, true, false, false] rfl rfl (by kernel_rfl) (fun _ _ _ h => h) (Or.inl ⟨by rfl, ?_⟩) ?_ ?_
        rotate_left
        · intro w'
          go_simp
          with_reducible rfl
        rotate_left
        · simp only [Act.put, List.setIfInBounds_toArray, List.set_cons_zero, List.set_cons_succ, i64_w, i32_w]
          rfl
        refine take_ (i := 4) (N := some 46) (v := ?_) (a' := ?_) #[true, true, true, true, true, true, false, false] rfl rfl (by kernel_rfl) (fun _ _ _ h => h) (Or.inl ⟨by rfl, ?_⟩) hHeld ?_ ?_
        rotate_left
        · intro w' s0
          go_simp
          with_reducible rfl
        rotate_left
        · simp only [Act.put, List.setIfInBounds_toArray, List.set_cons_zero, List.set_cons_succ, i64_w, i32_w]
          rfl
        refine pure_ (i := 6) (N := some 7) (v := ?_) (a' := ?_) #[true, true, true, true, true, true, true, false] rfl rfl (by kernel_rfl) (fun _ _ _ h => h) (Or.inl ⟨by rfl, ?_⟩) ?_ ?_
        rotate_left
        · intro w'
          go_simp
          with_reducible rfl
        rotate_left
        · simp only [Act.put, List.setIfInBounds_toArray, List.set_cons_zero, List.set_cons_succ, i64_w, i32_w]
          rfl
        refine pure_ (i := 7) (N := some 8) (v := ?_) (a' := ?_) #[true, true, true, true, true, true, true, true] rfl rfl (by kernel_rfl) (fun _ _ _ h => h) (Or.inl ⟨by rfl, ?_⟩) ?_ ?_
        rotate_left
        · intro w'
          go_simp
          with_reducible rfl
        rotate_left
        · simp only [Act.put, List.setIfInBounds_toArray, List.set_cons_zero, List.set_cons_succ, i64_w, i32_w]
          rfl
        refine done_ (by kernel_rfl) ?_
        go_wp2
        go_ret3
        exact ⟨_, rfl, Kd.R_lower (Kd.R_drew HRO.out) HB1.out.size, below_step HB1.out (below_drew HW.out)⟩
theorem CSt.of {w : World} {base g : Nat} {v : Value} {L : List S57} {most floor last : Int} (h1 : w.heap[g]? = some (.cells #[v, .int .i64 most, .int .i64 floor, .int .i64 last] 62 (0, 0))) (h2 : base ≤ g) (h3 : Kd.R k57 57 w base (fun _ => True) v L) : CSt w base g L most floor last := ⟨v, h1, h2, h3⟩
def cTrim : Nat → Int → List S57 → Int → List S57 × Int
  | 0, _, L, f => (L, f)
  | k + 1, most, L, f => if (L.length : Int) > most then cTrim k most (L.drop (cAb L (rd_T57 L 0).f0)) (rd_T57 L 0).f0 else (L, f)
theorem cAb_pos (L : List S57) (h : 0 < L.length) : 0 < cAb L (rd_T57 L 0).f0 := by
  cases L with
  | nil => simp at h
  | cons y t =>
    have e : rd_T57 (y :: t) 0 = y := rfl
    rw [e]
    unfold cAb
    rw [List.takeWhile_cons, if_pos (by simp)]
    simp
def cPut (rev : Int) (L : List S57) (C : List S55) : List S57 := L ++ C.map (fun x => (⟨rev, x⟩ : S57))
theorem rd55_at (xs : List S55) (i : Nat) (h : i < xs.length) : rd_T55 xs (i : Int) = xs[i] := by
  unfold rd_T55
  rw [Int.toNat_natCast, List.getD_eq_getElem?_getD, List.getElem?_eq_getElem h]
  rfl
theorem take55 (xs : List S55) (i : Nat) (h : i < xs.length) : xs.take (i + 1) = xs.take i ++ [rd_T55 xs (i : Int)] := by
  rw [rd55_at xs i h]
  exact List.take_succ_eq_append_getElem h
theorem cPut_step (rev : Int) (L : List S57) (C : List S55) (i : Nat) (h : i < C.length) : cPut rev L (C.take (i + 1)) = cPut rev L (C.take i) ++ [⟨rev, rd_T55 C (i : Int)⟩] := by
  unfold cPut
  rw [take55 C i h, List.map_append, List.append_assoc]
  rfl
theorem cPut_len (rev : Int) (L : List S57) (C : List S55) : (cPut rev L C).length = L.length + C.length := by unfold cPut; simp
set_option maxHeartbeats 8000000 in
set_option maxRecDepth 100000 in
theorem clog_Add.nil_ (rev : Int) (v : Value) (w : World) : Calls Try.prog 20 #[.pointer none, .int .i64 rev, v] w fun e w' => e = .returned (.int .i64 2) ∧ Below w.heap.size w w' := by
  have hu62 := Try.underlying62
  have hu57 := Try.underlying57
  have hu37 := Try.underlying37
  have hu23 := Try.underlying23
  go_enter Try.func20, Try.ntmps20
  go_wp2
  go_ret
  exact ⟨rfl, Below.refl _ _⟩
set_option maxHeartbeats 8000000 in
set_option maxRecDepth 100000 in
theorem clog_Add.no (rev : Int) (v : Value) (base g : Nat) (L : List S57) (most floor last : Int) (w : World) (h : CSt w base g L most floor last) (hr : rev ≤ last) : Calls Try.prog 20 #[.pointer (some ⟨g, 0, none⟩), .int .i64 rev, v] w fun e w' => e = .returned (.int .i64 1) ∧ Below w.heap.size w w' := by
  have hu62 := Try.underlying62
  have hu57 := Try.underlying57
  have hu37 := Try.underlying37
  have hu23 := Try.underlying23
  have HS := Aside0.mk h
  obtain ⟨v, hb, hg, hR⟩ := h
  obtain ⟨A, c, rfl⟩ := Kd.R_slice hR
  have BK := Aside0.mk hb
  have HG := Aside0.mk hg
  have HR := Aside0.mk hR
  clear hg hR
  have hc3 := blk_cell BK.out 3
  have hc1 : decide (rev ≤ last) = true := decide_eq_true hr
  go_enter Try.func20, Try.ntmps20
  go_wp2
  go_ret
  exact ⟨rfl, Below.refl _ _⟩
theorem Keeps.sub {T T' : List Nat} {w w' : World} (h : Keeps T w w') (hs : ∀ t, t ∈ T → t ∈ T') : Keeps T' w w' := fun k cs t hk hn => h k cs t hk (fun hm => hn (hs t hm))
def KeepsF (F : Nat → Prop) (w w' : World) : Prop := ∀ k, F k → w'.heap[k]? = w.heap[k]?
theorem KeepsF.refl {F : Nat → Prop} (w : World) : KeepsF F w w := fun _ _ => rfl
theorem KeepsF.trans {F : Nat → Prop} {a b c : World} (h : KeepsF F a b) (h' : KeepsF F b c) : KeepsF F a c := fun k hf => (h' k hf).trans (h k hf)
theorem KeepsF.step {F : Nat → Prop} {w a b : World} {g : Nat} (hF : ∀ k, F k → k < w.heap.size ∧ k ≠ g) (h : KeepsF F w a) (hs : w.heap.size ≤ a.heap.size) (hb : Below a.heap.size a b) : KeepsF F w b := fun k hf => (hb.block k (Nat.lt_of_lt_of_le (hF k hf).1 hs)).trans (h k hf)
theorem KeepsF.set {F : Nat → Prop} {w a : World} {g : Nat} (hF : ∀ k, F k → k < w.heap.size ∧ k ≠ g) (h : KeepsF F w a) (j : Nat) (u : Value) : KeepsF F w (a.setCell ⟨g, j, none⟩ u) := fun k hf => (Below.heap_setCell a ⟨g, j, none⟩ u k (hF k hf).2).trans (h k hf)
theorem KeepsF.grown {F : Nat → Prop} {w a b : World} {g : Nat} {α : Type} {d : Kd α} {e : Nat} {base : Nat} {v : Value} {xs : List α} (hF : ∀ k, F k → k < w.heap.size ∧ k ≠ g) (h : KeepsF F w a) (hs : w.heap.size ≤ a.heap.size) (hR : d.R e a base (fun k => ¬ F k) v xs) (hg : a.grownBy b v.ownBlock) : KeepsF F w b := fun k hf => (hg.block k (Nat.lt_of_lt_of_le (hF k hf).1 hs) (fun e_ => hR.1 k e_.symm hf)).trans (h k hf)
theorem R_newF {F : Nat → Prop} {w a b : World} {g : Nat} {α : Type} {d : Kd α} {e : Nat} {v : Value} {xs : List α} (hF : ∀ k, F k → k < w.heap.size ∧ k ≠ g) (hs : w.heap.size ≤ a.heap.size) (hR : d.R e b a.heap.size (fun _ => True) v xs) : d.R e b a.heap.size (fun k => ¬ F k) v xs := Kd.R_mono (Kd.R_bound hR) (fun k hk hf => by have := hk.2.1; have := (hF k hf).1; omega)
def CStF (F : Nat → Prop) (w : World) (base g : Nat) (L : List S57) (most floor last : Int) : Prop := ∃ v, w.heap[g]? = some (.cells #[v, .int .i64 most, .int .i64 floor, .int .i64 last] 62 (0, 0)) ∧ base ≤ g ∧ Kd.R k57 57 w base (fun k => ¬ F k) v L
theorem CStF.c {F : Nat → Prop} {w : World} {base g : Nat} {L : List S57} {most floor last : Int} (h : CStF F w base g L most floor last) : CSt w base g L most floor last := by
  obtain ⟨v, h1, h2, h3⟩ := h
  exact ⟨v, h1, h2, Kd.R_mono h3 (fun _ _ => trivial)⟩
theorem CStF.below {F : Nat → Prop} {w w' : World} {base g : Nat} {L : List S57} {most floor last : Int} (h : CStF F w base g L most floor last) (hb : Below w.heap.size w w') : CStF F w' base g L most floor last := by
  obtain ⟨v, h1, h2, h3⟩ := h
  exact ⟨v, blk_below h1 hb, h2, Kd.R_below h3 hb⟩
theorem CStF.keeps {F : Nat → Prop} {w w' : World} {base g : Nat} {L : List S57} {most floor last : Int} (h : CStF F w base g L most floor last) (hk : Keeps [34, 53] w w') : CStF F w' base g L most floor last := by
  obtain ⟨v, h1, h2, h3⟩ := h
  exact ⟨v, hk _ _ _ h1 (by decide), h2, R_keeps h3 hk (by decide)⟩
set_option maxHeartbeats 8000000 in
set_option maxRecDepth 100000 in
theorem clog_AddF.yes (F : Nat → Prop) (rev : Int) (AC : Option Addr) (cc cb : Nat) (C : List S55) (base g : Nat) (L : List S57) (most floor last : Int) (w : World) (h : CStF F w base g L most floor last) (hF : ∀ k, F k → k < w.heap.size ∧ k ≠ g) (hC : Kd.R k55 55 w cb (fun _ => True) (.slice AC C.length cc) C) (hr : last < rev) (hm1 : 0 < most) (hlen : L.length ≤ 900) (hcl : C.length ≤ 6) :
    Calls Try.prog 20 #[.pointer (some ⟨g, 0, none⟩), .int .i64 rev, .slice AC C.length cc] w fun e w' => e = .returned (.int .i64 0) ∧ CStF F w' base g (cTrim (L.length + C.length + 1) most (cPut rev L C) floor).1 most (cTrim (L.length + C.length + 1) most (cPut rev L C) floor).2 rev ∧ Below base w w' ∧ Keeps [62, 57] w w' ∧ KeepsF F w w' := by
  have HF := Aside0.mk hF
  clear hF
  have hu62 := Try.underlying62
  have hu57 := Try.underlying57
  have hu37 := Try.underlying37
  have hu23 := Try.underlying23
  have hu55 := Try.underlying55
  have hu63 := Try.underlying63
  have HCR := Aside0.mk hC
  have HM1 := Aside0.mk hm1
  have HCL := Aside0.mk hcl
  have HLL := Aside0.mk hlen
  clear hC hm1 hcl hlen
  obtain ⟨T, hT⟩ : ∃ T, cTrim (L.length + C.length + 1) most (cPut rev L C) floor = T := ⟨_, rfl⟩
  rw [hT]
  have HT := Aside0.mk hT
  clear hT
  have HS := Aside0.mk h
  obtain ⟨v, hb, hg, hR⟩ := h
  obtain ⟨A, c, rfl⟩ := Kd.R_slice hR
  have BK := Aside0.mk hb
  have HG := Aside0.mk hg
  have HR := Aside0.mk hR
  clear hg hR
  have hc3 := blk_cell BK.out 3
  have hf3 := blk_frozen BK.out 3
  have hc1 : decide (rev ≤ last) = false := decide_eq_false (by omega)
  go_enter Try.func20, Try.ntmps20
  go_wp2
  have HX0 : CStF F (w.setCell ⟨g, 3, none⟩ (.int .i64 rev)) base g L most floor rev := ⟨_, by simpa using blk_set BK.out 3 (.int .i64 rev), HG.out, Kd.R_set HR.out BK.out (by decide) 3 _⟩
  have HB0 := Below.setCell (Below.refl base w) (p := ⟨g, 3, none⟩) HG.out (.int .i64 rev)
  have HK0 : Keeps [62, 57] w (w.setCell ⟨g, 3, none⟩ (.int .i64 rev)) := Keeps.set BK.out (by decide) 3 _
  have HKFX := Aside0.mk (show KeepsF F w (w.setCell ⟨g, 3, none⟩ (.int .i64 rev)) from KeepsF.set HF.out (KeepsF.refl w) 3 _)
  have HX := Aside0.mk HX0
  have HBX := Aside0.mk HB0
  have HKX := Aside0.mk HK0
  clear HX0 HB0 HK0 hc3 hf3
  clear HS HR BK
  go_loopg [25] (C.length + 1) (fun kq v25 wr => ∃ i : Nat, v25 = .int .i64 (i : Int) ∧ Aside0 (i + kq = C.length + 1 ∧ i ≤ C.length) ∧ Aside0 (CStF F wr base g (cPut rev L (C.take i)) most floor rev) ∧ Aside0 (Below base w wr) ∧ Aside0 (Keeps [62, 57] w wr) ∧ Aside0 (KeepsF F w wr))
  case atStart => exact ⟨0, rfl, ⟨by omega, by omega⟩, ⟨by rw [List.take_zero, show cPut rev L [] = L from List.append_nil L]; exact HX.out⟩, ⟨HBX.out⟩, ⟨HKX.out⟩, ⟨HKFX.out⟩⟩
  case round =>
    clear HX HBX HKX HKFX
    obtain ⟨i, rfl, HI, HX, HW, HKW, HKF⟩ := hrel
    cases gk with
    | zero => have := HI.out; omega
    | succ k1 =>
      by_cases c2 : (i : Int) < (C.length : Int)
      · have c2b : decide ((i : Int) < (C.length : Int)) = true := decide_eq_true c2
        have p2 : (0 : Int) ≤ (i : Int) := by omega
        have HCW := Aside0.mk (R_keeps HCR.out HKW.out (by decide))
        obtain ⟨ad2, e2, hx0, hx1, hx2⟩ := at_T55 (Kd.R_reads' HCW.out).2.2 (i : Int) p2 c2
        cases e2
        have p2t : ((0 : Int) ≤ (i : Int)) = True := eq_true p2
        have q2t : ((i : Int) < (C.length : Int)) = True := eq_true c2
        have q2n : (i < C.length) = True := eq_true (by omega)
        simp only [Int.toNat_natCast] at hx0 hx1 hx2
        have hw2 : wrap64 ((i : Int) + 1) = ((i + 1 : Nat) : Int) := by have := HCL.out; unfold wrap64; omega
        have hst := cPut_step rev L C i (by omega)
        have hml : (cPut rev L (C.take i)).length ≤ 906 := by rw [cPut_len, List.length_take]; have := HCL.out; have := HLL.out; omega
        obtain ⟨x, hx⟩ : ∃ x, rd_T55 C (i : Int) = x := ⟨_, rfl⟩
        rw [hx] at hx0 hx1 hx2 hst
        clear hx
        have HST := Aside0.mk hst
        clear hst
        obtain ⟨M, hM⟩ : ∃ M, cPut rev L (C.take i) = M := ⟨_, rfl⟩
        rw [hM] at hml HX HST
        clear hM
        have HML := Aside0.mk hml
        obtain ⟨v, hb, hg, hR⟩ := HX.out
        obtain ⟨A, c, rfl⟩ := Kd.R_slice hR
        have BK1 := Aside0.mk (blk_alloc hb (.cells #[.string x.f0, .string x.f1, .bool x.f2] 55))
        have HR1 := Aside0.mk (Kd.R_alloc hR (.cells #[.string x.f0, .string x.f1, .bool x.f2] 55))
        have BX1 := Aside0.mk (blk_new wr (.cells #[.string x.f0, .string x.f1, .bool x.f2] 55))
        have HB1 := Aside0.mk (HW.out.trans (below_less (below_alloc (Below.refl wr.heap.size wr) (.cells #[.string x.f0, .string x.f1, .bool x.f2] 55)) (CStF.c HX.out).base))
        have HK1 := Aside0.mk (show Keeps [62, 57] w (wr.alloc (.cells #[.string x.f0, .string x.f1, .bool x.f2] 55)) from HKW.out.trans (Keeps.below (below_alloc (Below.refl wr.heap.size wr) _)))
        have HKF1 := Aside0.mk (show KeepsF F w (wr.alloc (.cells #[.string x.f0, .string x.f1, .bool x.f2] 55)) from KeepsF.step HF.out HKF.out HW.out.size (below_alloc (Below.refl wr.heap.size wr) _))
        clear hb hg hR HX
        go_upto_region 9 with fail
        clear hx0 hx1 hx2
        obtain ⟨b, hb⟩ : ∃ b, wr.heap.size = b := ⟨_, rfl⟩
        rw [hb] at BX1 ⊢
        generalize wr.alloc (.cells #[.string x.f0, .string x.f1, .bool x.f2] 55) = w1 at BK1 HR1 BX1 HB1 HK1 HKF1 ⊢
        refine start_ (n := 13) (S := fun w' => w'.cell? ⟨g, 0, none⟩ = some (.slice A M.length c) ∧ w'.cell? ⟨b, 0, none⟩ = some (.string x.f0) ∧ w'.cell? ⟨b, 1, none⟩ = some (.string x.f1) ∧ w'.cell? ⟨b, 2, none⟩ = some (.bool x.f2)) (ds := [12]) #[false, false, false, false, false, false, false, false, false, false, false, false, false] (by kernel_rfl) rfl rfl ⟨(blk_cell (BK1.out) 0).trans rfl, (blk_cell (BX1.out) 0).trans rfl, (blk_cell (BX1.out) 1).trans rfl, (blk_cell (BX1.out) 2).trans rfl⟩ (fun hHeld => ?_)
        have BKd_ := blk_drew BK1.out
        have BXd_ := blk_drew BX1.out
        have HRd_ := Kd.R_drew HR1.out
        have HBd_ := below_drew HB1.out
        have HKd_ := (show Keeps [62, 57] w w1.drew from HK1.out)
        have HKFd_ := (show KeepsF F w w1.drew from HKF1.out)
        clear BK1 BX1 HR1 HB1 HK1 HKF1
        generalize w1.drew = wd at BKd_ BXd_ HRd_ HBd_ HKd_ HKFd_ hHeld ⊢
        have BKd := Aside0.mk BKd_
        clear BKd_
        have BXd := Aside0.mk BXd_
        clear BXd_
        have HRd := Aside0.mk HRd_
        clear HRd_
        have HBd := Aside0.mk HBd_
        clear HBd_
        have HKd := Aside0.mk HKd_
        clear HKd_
        have HKFd := Aside0.mk HKFd_
        clear HKFd_
        refine pure_ (i := 0) (N := some 29) (v := ?_) (a' := ?_) #[true, false, false, false, false, false, false, false, false, false, false, false, false] rfl rfl (by kernel_rfl) (fun _ _ _ h => h) (Or.inl ⟨by rfl, ?_⟩) ?_ ?_
        rotate_left
        · intro w'
          go_simp
          with_reducible rfl
        rotate_left
        · simp only [Act.put, List.setIfInBounds_toArray, List.set_cons_zero, List.set_cons_succ, i64_w, i32_w]
          rfl
        refine pure_ (i := 1) (N := some 30) (v := ?_) (a' := ?_) #[true, true, false, false, false, false, false, false, false, false, false, false, false] rfl rfl (by kernel_rfl) (fun _ _ _ h => h) (Or.inl ⟨by rfl, ?_⟩) ?_ ?_
        rotate_left
        · intro w'
          go_simp
          with_reducible rfl
        rotate_left
        · simp only [Act.put, List.setIfInBounds_toArray, List.set_cons_zero, List.set_cons_succ, i64_w, i32_w]
          rfl
        refine pure_ (i := 2) (N := some 31) (v := ?_) (a' := ?_) #[true, true, true, false, false, false, false, false, false, false, false, false, false] rfl rfl (by kernel_rfl) (fun _ _ _ h => h) (Or.inl ⟨by rfl, ?_⟩) ?_ ?_
        rotate_left
        · intro w'
          go_simp
          with_reducible rfl
        rotate_left
        · simp only [Act.put, List.setIfInBounds_toArray, List.set_cons_zero, List.set_cons_succ, i64_w, i32_w]
          rfl
        refine pure_ (i := 3) (N := some 32) (v := ?_) (a' := ?_) #[true, true, true, true, false, false, false, false, false, false, false, false, false] rfl rfl (by kernel_rfl) (fun _ _ _ h => h) (Or.inl ⟨by rfl, ?_⟩) ?_ ?_
        rotate_left
        · intro w'
          go_simp
          with_reducible rfl
        rotate_left
        · simp only [Act.put, List.setIfInBounds_toArray, List.set_cons_zero, List.set_cons_succ, i64_w, i32_w]
          rfl
        refine pure_ (i := 5) (N := some 34) (v := ?_) (a' := ?_) #[true, true, true, true, false, true, false, false, false, false, false, false, false] rfl rfl (by kernel_rfl) (fun _ _ _ h => h) (Or.inl ⟨by rfl, ?_⟩) ?_ ?_
        rotate_left
        · intro w'
          go_simp
          with_reducible rfl
        rotate_left
        · simp only [Act.put, List.setIfInBounds_toArray, List.set_cons_zero, List.set_cons_succ, i64_w, i32_w]
          rfl
        refine take_ (i := 4) (N := some 33) (v := ?_) (a' := ?_) #[true, true, true, true, true, true, false, false, false, false, false, false, false] rfl rfl (by kernel_rfl) (fun _ _ _ h => h) (Or.inl ⟨by rfl, ?_⟩) hHeld ?_ ?_
        rotate_left
        · rintro w' ⟨s0, s1, s2, s3⟩
          go_simp
          with_reducible rfl
        rotate_left
        · simp only [Act.put, List.setIfInBounds_toArray, List.set_cons_zero, List.set_cons_succ, i64_w, i32_w]
          rfl
        refine take_ (i := 6) (N := some 35) (v := ?_) (a' := ?_) #[true, true, true, true, true, true, true, false, false, false, false, false, false] rfl rfl (by kernel_rfl) (fun _ _ _ h => h) (Or.inl ⟨by rfl, ?_⟩) hHeld ?_ ?_
        rotate_left
        · rintro w' ⟨s0, s1, s2, s3⟩
          go_simp
          with_reducible rfl
        rotate_left
        · simp only [Act.put, List.setIfInBounds_toArray, List.set_cons_zero, List.set_cons_succ, i64_w, i32_w]
          rfl
        refine pure_ (i := 7) (N := some 36) (v := ?_) (a' := ?_) #[true, true, true, true, true, true, true, true, false, false, false, false, false] rfl rfl (by kernel_rfl) (fun _ _ _ h => h) (Or.inl ⟨by rfl, ?_⟩) ?_ ?_
        rotate_left
        · intro w'
          go_simp
          with_reducible rfl
        rotate_left
        · simp only [Act.put, List.setIfInBounds_toArray, List.set_cons_zero, List.set_cons_succ, i64_w, i32_w]
          rfl
        refine one_ (i := 8) (N := some 37) #[true, true, true, true, true, true, true, true, true, false, false, false, false] rfl rfl (by kernel_rfl) (by decide) (fun K hK => ?_)
        refine value_ (w1 := ?_) (v := ?_) (by rfl) rfl ?_ ?_
        rotate_left 2
        · go_simp
          constructor
          · rfl
          · rfl
        refine hK.out _ _ ⟨(blk_cell (blk_alloc BKd.out _) 0).trans rfl, (blk_cell (blk_alloc BXd.out _) 0).trans rfl, (blk_cell (blk_alloc BXd.out _) 1).trans rfl, (blk_cell (blk_alloc BXd.out _) 2).trans rfl⟩ (fun hHeld => ?_)
        clear hK K
        refine norm_ (a' := ?_) ?_ ?_
        rotate_left
        · show Act.put _ (some 37) _ = _
          simp only [Act.put, List.setIfInBounds_toArray, List.set_cons_zero, List.set_cons_succ, i64_w, i32_w]
          rfl
        refine one_ (i := 9) (N := some 38) #[true, true, true, true, true, true, true, true, true, true, false, false, false] rfl rfl (by kernel_rfl) (by decide) (fun K hK => ?_)
        refine Kd.R_append_step k57 (w0 := w) base (by rfl) (.tmp 33) (.tmp 37) 37 57 (.agg #[.int .i64 0, .string ⟨#[]⟩, .string ⟨#[]⟩, .bool false]) 48 rfl Try.underlying37 info57 rfl (by decide) (by omega) (.slice A M.length c) M (⟨rev, x⟩ : S57) [.int .i64 rev, .string x.f0, .string x.f1, .bool x.f2] (fun k => ¬ F k) (fun _ => False) rfl rfl ?aP (fun _ hk => hk.elim) ?aF ?aO ?aB ?aS ?aL ?_
        (case aP => exact k57_mkM _ _ _ (⟨rev, x⟩ : S57))
        (case aF => exact (fun k hk hf => absurd (HF.out k hf).1 (Nat.not_lt.mpr (Nat.le_trans HBd.out.size hk))))
        (case aO => exact HRd.out)
        (case aB => exact HBd.out)
        (case aS => exact Nat.le_trans HG.out (Nat.le_of_lt (blk_lt BKd.out)))
        (case aL => have := HML.out; omega)
        intro v3 w3 ho hbb hg3 hat
        obtain ⟨A3, c3, rfl⟩ := Kd.R_slice ho
        rw [List.length_append, List.length_singleton] at ho
        have BK3 := Aside0.mk (blk_grown (g := g) BKd.out hg3 (Kd.R_ne HRd.out BKd.out (by decide)))
        have BX3 := Aside0.mk (blk_grown (g := b) BXd.out hg3 (Kd.R_ne HRd.out BXd.out (by decide)))
        have HR3 := Aside0.mk ho
        have HB3 := Aside0.mk hbb
        have HK3 := Aside0.mk (HKd.out.trans (Keeps.grown (T := [62, 57]) HRd.out (by decide) hg3))
        have HKF3 := Aside0.mk (KeepsF.grown HF.out HKFd.out HBd.out.size HRd.out hg3)
        clear ho hbb hg3 hat
        refine hK.out _ _ ⟨(blk_cell (BK3.out) 0).trans rfl, (blk_cell (BX3.out) 0).trans rfl, (blk_cell (BX3.out) 1).trans rfl, (blk_cell (BX3.out) 2).trans rfl⟩ (fun hHeld => ?_)
        clear hK K
        refine norm_ (a' := ?_) ?_ ?_
        rotate_left
        · show Act.put _ (some 38) _ = _
          simp only [Act.put, List.setIfInBounds_toArray, List.set_cons_zero, List.set_cons_succ, i64_w, i32_w]
          rfl
        refine pure_ (i := 10) (N := some 39) (v := ?_) (a' := ?_) #[true, true, true, true, true, true, true, true, true, true, true, false, false] rfl rfl (by kernel_rfl) (fun _ _ _ h => h) (Or.inl ⟨by rfl, ?_⟩) ?_ ?_
        rotate_left
        · intro w'
          go_simp
          with_reducible rfl
        rotate_left
        · simp only [Act.put, List.setIfInBounds_toArray, List.set_cons_zero, List.set_cons_succ, i64_w, i32_w]
          rfl
        refine pure_ (i := 11) (N := some 40) (v := ?_) (a' := ?_) #[true, true, true, true, true, true, true, true, true, true, true, true, false] rfl rfl (by kernel_rfl) (fun _ _ _ h => h) (Or.inl ⟨by rfl, ?_⟩) ?_ ?_
        rotate_left
        · intro w'
          go_simp
          with_reducible rfl
        rotate_left
        · simp only [Act.put, List.setIfInBounds_toArray, List.set_cons_zero, List.set_cons_succ, i64_w, i32_w]
          rfl
        refine last_ (i := 12) (N := none) #[true, true, true, true, true, true, true, true, true, true, true, true, true] rfl rfl (by kernel_rfl) (by decide) (fun K hK => ?_)
        have hs0 := (blk_cell BK3.out 0).trans (rfl : _ = some (Value.slice A M.length c))
        have hsf := blk_frozen BK3.out 0
        refine skip_ (w1 := ?_) (by rfl) rfl ?_ ?_
        rotate_left
        · go_simp
          rfl
        refine hK.out _ _ ?_
        clear hK K
        refine done_ (by kernel_rfl) ?_
        have BK4 := Aside0.mk (show (w3.setCell ⟨g, 0, none⟩ (.slice A3 (M.length + 1) c3)).heap[g]? = some (.cells #[.slice A3 (M.length + 1) c3, .int .i64 most, .int .i64 floor, .int .i64 rev] 62 (0, 0)) by simpa using blk_set BK3.out 0 (.slice A3 (M.length + 1) c3))
        have HR4 := Aside0.mk (Kd.R_set HR3.out BK3.out (by decide) 0 (.slice A3 (M.length + 1) c3))
        have HB4 := Aside0.mk (Below.setCell HB3.out (p := ⟨g, 0, none⟩) HG.out (.slice A3 (M.length + 1) c3))
        have HK4 := Aside0.mk (HK3.out.trans (Keeps.set BK3.out (by decide) 0 (.slice A3 (M.length + 1) c3)))
        have HKF4 := Aside0.mk (KeepsF.set HF.out HKF3.out 0 (.slice A3 (M.length + 1) c3))
        clear hs0 hsf
        go_wp2
        go_roundg k1
        case measure => omega
        case rel => exact ⟨i + 1, by first | rw [hw2] | simp, ⟨by have := HI.out; omega, by omega⟩, ⟨by rw [HST.out]; exact ⟨_, BK4.out, HG.out, HR4.out⟩⟩, ⟨HB4.out⟩, ⟨HK4.out⟩, ⟨HKF4.out⟩⟩
      · have c2b : decide ((i : Int) < (C.length : Int)) = false := decide_eq_false c2
        have hi : i = C.length := by have := HI.out; omega
        subst hi
        rw [List.take_length] at HX
        have HWC := HW
        have HKC := HKW
        have HKFC := HKF
        have HXC := HX
        have hlp := cPut_len rev L C
        obtain ⟨M0, hM0⟩ : ∃ M0, cPut rev L C = M0 := ⟨_, rfl⟩
        rw [hM0] at HXC HT hlp
        have HLP := Aside0.mk hlp
        clear hlp HX HW HKW HKF hM0
        go_wp2
        go_loopg [] (L.length + C.length + 1) (fun kq wr2 => ∃ (M : List S57) (fl : Int), Aside0 (CStF F wr2 base g M most fl rev) ∧ Aside0 (M.length < kq ∧ M.length ≤ 906 ∧ cTrim kq most M fl = T) ∧ Aside0 (Below base w wr2) ∧ Aside0 (Keeps [62, 57] w wr2) ∧ Aside0 (KeepsF F w wr2))
        case atStart => exact ⟨M0, floor, ⟨HXC.out⟩, ⟨by have := HLP.out; omega, by have := HLP.out; have := HLL.out; have := HCL.out; omega, HT.out⟩, ⟨HWC.out⟩, ⟨HKC.out⟩, ⟨HKFC.out⟩⟩
        case round =>
          clear HXC HWC HKC HKFC
          obtain ⟨M, fl, HX, HI, HW, HKW, HKF⟩ := hrel
          cases gk with
          | zero => have := HI.out; omega
          | succ k1 =>
            obtain ⟨v, hb, hg, hR⟩ := HX.out
            obtain ⟨A, c, rfl⟩ := Kd.R_slice hR
            have BK := Aside0.mk hb
            have HR := Aside0.mk hR
            clear hb hg hR
            by_cases cm : (M.length : Int) > most
            · have cmb : decide ((M.length : Int) > most) = true := decide_eq_true cm
              have hpos : 0 < M.length := by have := HM1.out; omega
              obtain ⟨ad2, e2, hx0, hx1, hx2, hx3⟩ := at_T57 (Kd.R_reads' HR.out).2.2 0 (by omega) (by omega)
              cases e2
              rw [show (0 : Int).toNat = 0 from rfl, Nat.zero_mul] at hx0
              have hadd : ad2.add 0 = ad2 := by cases ad2; rfl
              rw [hadd] at hx0
              clear hx1 hx2 hx3
              have q0 : decide ((0 : Int) < (M.length : Int)) = true := decide_eq_true (by omega)
              have q1 : ((0 : Int) < (M.length : Int)) = True := eq_true (by omega)
              have q2 : (0 < M.length) = True := eq_true hpos
              have htr := HI.out.2.2
              unfold cTrim at htr
              rw [if_pos cm] at htr
              have hap := cAb_pos M hpos
              have hal := cAb_le M (rd_T57 M 0).f0
              obtain ⟨f1, hf1⟩ : ∃ f1, (rd_T57 M 0).f0 = f1 := ⟨_, rfl⟩
              rw [hf1] at hx0 htr hap hal
              clear hf1
              obtain ⟨m, hm⟩ : ∃ m, cAb M f1 = m := ⟨_, rfl⟩
              rw [hm] at htr hap hal
              have HM := Aside0.mk hm
              have HTR := Aside0.mk htr
              have HAP := Aside0.mk hap
              have HML := Aside0.mk (show M.length ≤ 906 from HI.out.2.1)
              have HML1 := Aside0.mk (show M.length ≤ 1000 from Nat.le_trans HI.out.2.1 (by omega))
              have HLC := Aside0.mk (Kd.R_reads' HR.out).2.1
              obtain ⟨A2, hcut, HCUT_⟩ := cut57 (some ad2) M.length c m hal
              have HCUT := Aside0.mk HCUT_
              clear HCUT_ htr hap hm hal
              go_upto_region 11 with fail
              refine start_ (n := 10) (S := fun w' => w'.cell? ⟨g, 0, none⟩ = some (.slice (some ad2) M.length c) ∧ w'.cell? ⟨g, 1, none⟩ = some (.int .i64 most)) (ds := []) #[false, false, false, false, false, false, false, false, false, false] (by kernel_rfl) rfl rfl ⟨(blk_cell BK.out 0).trans rfl, (blk_cell BK.out 1).trans rfl⟩ (fun hHeld => ?_)
              refine pure_ (i := 0) (N := some 42) (v := ?_) (a' := ?_) #[true, false, false, false, false, false, false, false, false, false] rfl rfl (by kernel_rfl) (fun _ _ _ h => h) (Or.inl ⟨by rfl, ?_⟩) ?_ ?_
              rotate_left
              · intro w'
                go_simp
                with_reducible rfl
              rotate_left
              · simp only [Act.put, List.setIfInBounds_toArray, List.set_cons_zero, List.set_cons_succ, i64_w, i32_w]
                rfl
              refine pure_ (i := 1) (N := some 43) (v := ?_) (a' := ?_) #[true, true, false, false, false, false, false, false, false, false] rfl rfl (by kernel_rfl) (fun _ _ _ h => h) (Or.inl ⟨by rfl, ?_⟩) ?_ ?_
              rotate_left
              · intro w'
                go_simp
                with_reducible rfl
              rotate_left
              · simp only [Act.put, List.setIfInBounds_toArray, List.set_cons_zero, List.set_cons_succ, i64_w, i32_w]
                rfl
              refine pure_ (i := 2) (N := some 44) (v := ?_) (a' := ?_) #[true, true, true, false, false, false, false, false, false, false] rfl rfl (by kernel_rfl) (fun _ _ _ h => h) (Or.inl ⟨by rfl, ?_⟩) ?_ ?_
              rotate_left
              · intro w'
                go_simp
                with_reducible rfl
              rotate_left
              · simp only [Act.put, List.setIfInBounds_toArray, List.set_cons_zero, List.set_cons_succ, i64_w, i32_w]
                rfl
              refine pure_ (i := 5) (N := some 47) (v := ?_) (a' := ?_) #[true, true, true, false, false, true, false, false, false, false] rfl rfl (by kernel_rfl) (fun _ _ _ h => h) (Or.inl ⟨by rfl, ?_⟩) ?_ ?_
              rotate_left
              · intro w'
                go_simp
                with_reducible rfl
              rotate_left
              · simp only [Act.put, List.setIfInBounds_toArray, List.set_cons_zero, List.set_cons_succ, i64_w, i32_w]
                rfl
              refine pure_ (i := 6) (N := some 48) (v := ?_) (a' := ?_) #[true, true, true, false, false, true, true, false, false, false] rfl rfl (by kernel_rfl) (fun _ _ _ h => h) (Or.inl ⟨by rfl, ?_⟩) ?_ ?_
              rotate_left
              · intro w'
                go_simp
                with_reducible rfl
              rotate_left
              · simp only [Act.put, List.setIfInBounds_toArray, List.set_cons_zero, List.set_cons_succ, i64_w, i32_w]
                rfl
              refine pure_ (i := 7) (N := some 49) (v := ?_) (a' := ?_) #[true, true, true, false, false, true, true, true, false, false] rfl rfl (by kernel_rfl) (fun _ _ _ h => h) (Or.inl ⟨by rfl, ?_⟩) ?_ ?_
              rotate_left
              · intro w'
                go_simp
                with_reducible rfl
              rotate_left
              · simp only [Act.put, List.setIfInBounds_toArray, List.set_cons_zero, List.set_cons_succ, i64_w, i32_w]
                rfl
              refine take_ (i := 3) (N := some 45) (v := ?_) (a' := ?_) #[true, true, true, true, false, true, true, true, false, false] rfl rfl (by kernel_rfl) (fun _ _ _ h => h) (Or.inl ⟨by rfl, ?_⟩) hHeld ?_ ?_
              rotate_left
              · rintro w' ⟨s0, s1⟩
                go_simp
                with_reducible rfl
              rotate_left
              · simp only [Act.put, List.setIfInBounds_toArray, List.set_cons_zero, List.set_cons_succ, i64_w, i32_w]
                rfl
              refine pure_ (i := 4) (N := some 46) (v := ?_) (a' := ?_) #[true, true, true, true, true, true, true, true, false, false] rfl rfl (by kernel_rfl) (fun _ _ _ h => h) (Or.inl ⟨by rfl, ?_⟩) ?_ ?_
              rotate_left
              · intro w'
                go_simp
                with_reducible rfl
              rotate_left
              · simp only [Act.put, List.setIfInBounds_toArray, List.set_cons_zero, List.set_cons_succ, i64_w, i32_w]
                rfl
              refine take_ (i := 8) (N := some 50) (v := ?_) (a' := ?_) #[true, true, true, true, true, true, true, true, true, false] rfl rfl (by kernel_rfl) (fun _ _ _ h => h) (Or.inl ⟨by rfl, ?_⟩) hHeld ?_ ?_
              rotate_left
              · rintro w' ⟨s0, s1⟩
                go_simp
                with_reducible rfl
              rotate_left
              · simp only [Act.put, List.setIfInBounds_toArray, List.set_cons_zero, List.set_cons_succ, i64_w, i32_w]
                rfl
              refine pure_ (i := 9) (N := some 51) (v := ?_) (a' := ?_) #[true, true, true, true, true, true, true, true, true, true] rfl rfl (by kernel_rfl) (fun _ _ _ h => h) (Or.inl ⟨by rfl, ?_⟩) ?_ ?_
              rotate_left
              · intro w'
                go_simp
                with_reducible rfl
              rotate_left
              · simp only [Act.put, List.setIfInBounds_toArray, List.set_cons_zero, List.set_cons_succ, i64_w, i32_w]
                rfl
              refine done_ (by kernel_rfl) ?_
              have hc0 := blk_cell BK.out 0
              have hcc2 := blk_cell BK.out 2
              have hff2 := blk_frozen BK.out 2
              go_upto_region 13 with fail
              have HB2_ : Below base w (wr.setCell ⟨g, 2, none⟩ (.int .i64 f1)).drew := below_drew (Below.setCell HW.out HG.out _)
              have HK2_ : Keeps [62, 57] w (wr.setCell ⟨g, 2, none⟩ (.int .i64 f1)).drew := HKW.out.trans (Keeps.set BK.out (by decide) 2 _)
              have HKF2_ : KeepsF F w (wr.setCell ⟨g, 2, none⟩ (.int .i64 f1)).drew := KeepsF.set HF.out HKF.out 2 _
              have BK2_ : (wr.setCell ⟨g, 2, none⟩ (.int .i64 f1)).drew.heap[g]? = some (.cells #[.slice (some ad2) M.length c, .int .i64 most, .int .i64 f1, .int .i64 rev] 62 (0, 0)) := blk_drew (by simpa using blk_set BK.out 2 (.int .i64 f1))
              have HR2_ : Kd.R k57 57 (wr.setCell ⟨g, 2, none⟩ (.int .i64 f1)).drew base (fun k => ¬ F k) (.slice (some ad2) M.length c) M := Kd.R_drew (Kd.R_set HR.out BK.out (by decide) 2 _)
              clear hc0 hcc2 hff2 hx0
              generalize (wr.setCell ⟨g, 2, none⟩ (.int .i64 f1)).drew = w2 at HB2_ HK2_ BK2_ HR2_ HKF2_ ⊢
              have HKF2 := Aside0.mk HKF2_
              have HB2 := Aside0.mk HB2_
              have HK2 := Aside0.mk HK2_
              have BK2 := Aside0.mk BK2_
              have HR2 := Aside0.mk HR2_
              clear HB2_ HK2_ BK2_ HR2_ HKF2_
              refine start_ (n := 16) (S := fun w' => w'.cell? ⟨g, 0, none⟩ = some (.slice (some ad2) M.length c) ∧ w'.cell? ⟨g, 2, none⟩ = some (.int .i64 f1)) (ds := [15]) #[false, false, false, false, false, false, false, false, false, false, false, false, false, false, false, false] (by kernel_rfl) rfl rfl ⟨(blk_cell BK2.out 0).trans rfl, (blk_cell BK2.out 2).trans rfl⟩ (fun hHeld => ?_)
              have BKd_ := blk_drew BK2.out
              have HRd_ := Kd.R_drew HR2.out
              have HBd_ := below_drew HB2.out
              have HKd_ := (show Keeps [62, 57] w w2.drew from HK2.out)
              have HKFd_ := (show KeepsF F w w2.drew from HKF2.out)
              clear BK2 HR2 HB2 HK2 HKF2
              generalize w2.drew = wd at BKd_ HRd_ HBd_ HKd_ HKFd_ hHeld ⊢
              have BKd := Aside0.mk BKd_
              clear BKd_
              have HRd := Aside0.mk HRd_
              clear HRd_
              have HBd := Aside0.mk HBd_
              clear HBd_
              have HKd := Aside0.mk HKd_
              clear HKd_
              have HKFd := Aside0.mk HKFd_
              clear HKFd_
              refine pure_ (i := 0) (N := some 62) (v := ?_) (a' := ?_) #[true, false, false, false, false, false, false, false, false, false, false, false, false, false, false, false] rfl rfl (by kernel_rfl) (fun _ _ _ h => h) (Or.inl ⟨by rfl, ?_⟩) ?_ ?_
              rotate_left
              · intro w'
                go_simp
                with_reducible rfl
              rotate_left
              · simp only [Act.put, List.setIfInBounds_toArray, List.set_cons_zero, List.set_cons_succ, i64_w, i32_w]
                rfl
              refine pure_ (i := 1) (N := some 63) (v := ?_) (a' := ?_) #[true, true, false, false, false, false, false, false, false, false, false, false, false, false, false, false] rfl rfl (by kernel_rfl) (fun _ _ _ h => h) (Or.inl ⟨by rfl, ?_⟩) ?_ ?_
              rotate_left
              · intro w'
                go_simp
                with_reducible rfl
              rotate_left
              · simp only [Act.put, List.setIfInBounds_toArray, List.set_cons_zero, List.set_cons_succ, i64_w, i32_w]
                rfl
              refine pure_ (i := 2) (N := some 64) (v := ?_) (a' := ?_) #[true, true, true, false, false, false, false, false, false, false, false, false, false, false, false, false] rfl rfl (by kernel_rfl) (fun _ _ _ h => h) (Or.inl ⟨by rfl, ?_⟩) ?_ ?_
              rotate_left
              · intro w'
                go_simp
                with_reducible rfl
              rotate_left
              · simp only [Act.put, List.setIfInBounds_toArray, List.set_cons_zero, List.set_cons_succ, i64_w, i32_w]
                rfl
              refine pure_ (i := 3) (N := some 65) (v := ?_) (a' := ?_) #[true, true, true, true, false, false, false, false, false, false, false, false, false, false, false, false] rfl rfl (by kernel_rfl) (fun _ _ _ h => h) (Or.inl ⟨by rfl, ?_⟩) ?_ ?_
              rotate_left
              · intro w'
                go_simp
                with_reducible rfl
              rotate_left
              · simp only [Act.put, List.setIfInBounds_toArray, List.set_cons_zero, List.set_cons_succ, i64_w, i32_w]
                rfl
              refine pure_ (i := 5) (N := some 67) (v := ?_) (a' := ?_) #[true, true, true, true, false, true, false, false, false, false, false, false, false, false, false, false] rfl rfl (by kernel_rfl) (fun _ _ _ h => h) (Or.inl ⟨by rfl, ?_⟩) ?_ ?_
              rotate_left
              · intro w'
                go_simp
                with_reducible rfl
              rotate_left
              · simp only [Act.put, List.setIfInBounds_toArray, List.set_cons_zero, List.set_cons_succ, i64_w, i32_w]
                rfl
              refine pure_ (i := 6) (N := some 68) (v := ?_) (a' := ?_) #[true, true, true, true, false, true, true, false, false, false, false, false, false, false, false, false] rfl rfl (by kernel_rfl) (fun _ _ _ h => h) (Or.inl ⟨by rfl, ?_⟩) ?_ ?_
              rotate_left
              · intro w'
                go_simp
                with_reducible rfl
              rotate_left
              · simp only [Act.put, List.setIfInBounds_toArray, List.set_cons_zero, List.set_cons_succ, i64_w, i32_w]
                rfl
              refine pure_ (i := 7) (N := some 69) (v := ?_) (a' := ?_) #[true, true, true, true, false, true, true, true, false, false, false, false, false, false, false, false] rfl rfl (by kernel_rfl) (fun _ _ _ h => h) (Or.inl ⟨by rfl, ?_⟩) ?_ ?_
              rotate_left
              · intro w'
                go_simp
                with_reducible rfl
              rotate_left
              · simp only [Act.put, List.setIfInBounds_toArray, List.set_cons_zero, List.set_cons_succ, i64_w, i32_w]
                rfl
              refine pure_ (i := 8) (N := some 70) (v := ?_) (a' := ?_) #[true, true, true, true, false, true, true, true, true, false, false, false, false, false, false, false] rfl rfl (by kernel_rfl) (fun _ _ _ h => h) (Or.inl ⟨by rfl, ?_⟩) ?_ ?_
              rotate_left
              · intro w'
                go_simp
                with_reducible rfl
              rotate_left
              · simp only [Act.put, List.setIfInBounds_toArray, List.set_cons_zero, List.set_cons_succ, i64_w, i32_w]
                rfl
              refine take_ (i := 4) (N := some 66) (v := ?_) (a' := ?_) #[true, true, true, true, true, true, true, true, true, false, false, false, false, false, false, false] rfl rfl (by kernel_rfl) (fun _ _ _ h => h) (Or.inl ⟨by rfl, ?_⟩) hHeld ?_ ?_
              rotate_left
              · rintro w' ⟨s0, s1⟩
                go_simp
                with_reducible rfl
              rotate_left
              · simp only [Act.put, List.setIfInBounds_toArray, List.set_cons_zero, List.set_cons_succ, i64_w, i32_w]
                rfl
              refine take_ (i := 9) (N := some 71) (v := ?_) (a' := ?_) #[true, true, true, true, true, true, true, true, true, true, false, false, false, false, false, false] rfl rfl (by kernel_rfl) (fun _ _ _ h => h) (Or.inl ⟨by rfl, ?_⟩) hHeld ?_ ?_
              rotate_left
              · rintro w' ⟨s0, s1⟩
                go_simp
                with_reducible rfl
              rotate_left
              · simp only [Act.put, List.setIfInBounds_toArray, List.set_cons_zero, List.set_cons_succ, i64_w, i32_w]
                rfl
              refine one_ (i := 10) (N := some 72) #[true, true, true, true, true, true, true, true, true, true, true, false, false, false, false, false] rfl rfl (by kernel_rfl) (by decide) (fun K hK => ?_)
              refine goes_ Try.func24 (by kernel_rfl) rfl #[.pointer (some ⟨g, 0, none⟩), .int .i64 f1] (by rfl) rfl rfl (by simp only [List.map_toArray, List.map_cons, List.map_nil]; rfl) ?_
              with_reducible refine (clog_above f1 base g M most f1 rev _ (CSt.of BKd.out HG.out (Kd.R_mono HRd.out (fun _ _ => trivial))) HML1.out).mono ?_
              rintro e w3 ⟨rfl, hb3⟩
              refine ⟨_, rfl, ?_⟩
              rw [HM.out]
              have BK3 := Aside0.mk (blk_below BKd.out hb3)
              have HB3 := Aside0.mk (HBd.out.trans (below_less hb3 (Nat.le_trans HG.out (Nat.le_of_lt (blk_lt BKd.out)))))
              have HR3 := Aside0.mk (Kd.R_below HRd.out hb3)
              have HK3 := Aside0.mk (HKd.out.trans (Keeps.below hb3))
              have HKF3 := Aside0.mk (KeepsF.step HF.out HKFd.out HBd.out.size hb3)
              clear hb3
              refine hK.out _ _ ⟨(blk_cell BK3.out 0).trans rfl, (blk_cell BK3.out 2).trans rfl⟩ (fun hHeld => ?_)
              clear hK K
              refine norm_ (a' := ?_) ?_ ?_
              rotate_left
              · show Act.put _ (some 72) _ = _
                simp only [Act.put, List.setIfInBounds_toArray, List.set_cons_zero, List.set_cons_succ, i64_w, i32_w]
                rfl
              refine pure_ (i := 11) (N := some 73) (v := ?_) (a' := ?_) #[true, true, true, true, true, true, true, true, true, true, true, true, false, false, false, false] rfl rfl (by kernel_rfl) (fun _ _ _ h => h) (Or.inl ⟨by rfl, ?_⟩) ?_ ?_
              rotate_left
              · intro w'
                go_simp
                with_reducible rfl
              rotate_left
              · simp only [Act.put, List.setIfInBounds_toArray, List.set_cons_zero, List.set_cons_succ, i64_w, i32_w]
                rfl
              refine one_ (i := 12) (N := some 74) #[true, true, true, true, true, true, true, true, true, true, true, true, true, false, false, false] rfl rfl (by kernel_rfl) (by decide) (fun K hK => ?_)
              refine goes_ Try.func23 (by kernel_rfl) rfl #[.slice A2 (M.length - m) (c - m)] (by rfl) rfl rfl (by simp only [List.map_toArray, List.map_cons, List.map_nil]; rfl) ?_
              with_reducible refine (cloneN _ A2 (c - m) (M.drop m) _ (List.length_drop).symm (HCUT.out _ M rfl HLC.out (Kd.R_reads' HR3.out).2.2) (by have := HML.out; rw [List.length_drop]; omega)).mono ?_
              rintro e w4 ⟨v4, rfl, hR4, hb4⟩
              refine ⟨_, rfl, ?_⟩
              obtain ⟨A4, c4, rfl⟩ := Kd.R_slice hR4
              rw [List.length_drop] at hR4
              have BK4 := Aside0.mk (blk_below BK3.out hb4)
              have HB4 := Aside0.mk (HB3.out.trans (below_less hb4 (Nat.le_trans HG.out (Nat.le_of_lt (blk_lt BK3.out)))))
              have HR4 := Aside0.mk (Kd.R_lower (R_newF HF.out HB3.out.size hR4) (Nat.le_trans HG.out (Nat.le_of_lt (blk_lt BK3.out))))
              have HK4 := Aside0.mk (HK3.out.trans (Keeps.below hb4))
              have HKF4 := Aside0.mk (KeepsF.step HF.out HKF3.out HB3.out.size hb4)
              clear hb4 hR4
              refine hK.out _ _ ⟨(blk_cell BK4.out 0).trans rfl, (blk_cell BK4.out 2).trans rfl⟩ (fun hHeld => ?_)
              clear hK K
              refine norm_ (a' := ?_) ?_ ?_
              rotate_left
              · show Act.put _ (some 74) _ = _
                simp only [Act.put, List.setIfInBounds_toArray, List.set_cons_zero, List.set_cons_succ, i64_w, i32_w]
                rfl
              refine pure_ (i := 13) (N := some 75) (v := ?_) (a' := ?_) #[true, true, true, true, true, true, true, true, true, true, true, true, true, true, false, false] rfl rfl (by kernel_rfl) (fun _ _ _ h => h) (Or.inl ⟨by rfl, ?_⟩) ?_ ?_
              rotate_left
              · intro w'
                go_simp
                with_reducible rfl
              rotate_left
              · simp only [Act.put, List.setIfInBounds_toArray, List.set_cons_zero, List.set_cons_succ, i64_w, i32_w]
                rfl
              refine pure_ (i := 14) (N := some 76) (v := ?_) (a' := ?_) #[true, true, true, true, true, true, true, true, true, true, true, true, true, true, true, false] rfl rfl (by kernel_rfl) (fun _ _ _ h => h) (Or.inl ⟨by rfl, ?_⟩) ?_ ?_
              rotate_left
              · intro w'
                go_simp
                with_reducible rfl
              rotate_left
              · simp only [Act.put, List.setIfInBounds_toArray, List.set_cons_zero, List.set_cons_succ, i64_w, i32_w]
                rfl
              refine last_ (i := 15) (N := none) #[true, true, true, true, true, true, true, true, true, true, true, true, true, true, true, true] rfl rfl (by kernel_rfl) (by decide) (fun K hK => ?_)
              have hs0 := (blk_cell BK4.out 0).trans (rfl : _ = some (Value.slice (some ad2) M.length c))
              have hsf := blk_frozen BK4.out 0
              refine skip_ (w1 := ?_) (by rfl) rfl ?_ ?_
              rotate_left
              · go_simp
                rfl
              refine hK.out _ _ ?_
              clear hK K
              refine done_ (by kernel_rfl) ?_
              have BK5 := Aside0.mk (show (w4.setCell ⟨g, 0, none⟩ (.slice A4 (M.length - m) c4)).heap[g]? = some (.cells #[.slice A4 (M.length - m) c4, .int .i64 most, .int .i64 f1, .int .i64 rev] 62 (0, 0)) by simpa using blk_set BK4.out 0 (.slice A4 (M.length - m) c4))
              have HR5 := Aside0.mk (Kd.R_set HR4.out BK4.out (by decide) 0 (.slice A4 (M.length - m) c4))
              have HB5 := Aside0.mk (Below.setCell HB4.out (p := ⟨g, 0, none⟩) HG.out (.slice A4 (M.length - m) c4))
              have HK5 := Aside0.mk (HK4.out.trans (Keeps.set BK4.out (by decide) 0 (.slice A4 (M.length - m) c4)))
              have HKF5 := Aside0.mk (KeepsF.set HF.out HKF4.out 0 (.slice A4 (M.length - m) c4))
              clear hs0 hsf
              go_wp2
              go_roundg k1
              case measure => omega
              case rel => exact ⟨M.drop m, f1, ⟨⟨_, BK5.out, HG.out, HR5.out⟩⟩, ⟨by have := HI.out; have := HAP.out; rw [List.length_drop]; omega, by have := HI.out; rw [List.length_drop]; omega, HTR.out⟩, ⟨HB5.out⟩, ⟨HK5.out⟩, ⟨HKF5.out⟩⟩
            · have cmb : decide ((M.length : Int) > most) = false := decide_eq_false cm
              have htr := HI.out.2.2
              unfold cTrim at htr
              rw [if_neg cm] at htr
              subst htr
              go_upto_region 11 with fail
              refine start_ (n := 10) (S := fun w' => w'.cell? ⟨g, 0, none⟩ = some (.slice A M.length c) ∧ w'.cell? ⟨g, 1, none⟩ = some (.int .i64 most)) (ds := []) #[false, false, false, false, false, false, false, false, false, false] (by kernel_rfl) rfl rfl ⟨(blk_cell BK.out 0).trans rfl, (blk_cell BK.out 1).trans rfl⟩ (fun hHeld => ?_)
              refine pure_ (i := 0) (N := some 42) (v := ?_) (a' := ?_) #[true, false, false, false, false, false, false, false, false, false] rfl rfl (by kernel_rfl) (fun _ _ _ h => h) (Or.inl ⟨by rfl, ?_⟩) ?_ ?_
              rotate_left
              · intro w'
                go_simp
                with_reducible rfl
              rotate_left
              · simp only [Act.put, List.setIfInBounds_toArray, List.set_cons_zero, List.set_cons_succ, i64_w, i32_w]
                rfl
              refine pure_ (i := 1) (N := some 43) (v := ?_) (a' := ?_) #[true, true, false, false, false, false, false, false, false, false] rfl rfl (by kernel_rfl) (fun _ _ _ h => h) (Or.inl ⟨by rfl, ?_⟩) ?_ ?_
              rotate_left
              · intro w'
                go_simp
                with_reducible rfl
              rotate_left
              · simp only [Act.put, List.setIfInBounds_toArray, List.set_cons_zero, List.set_cons_succ, i64_w, i32_w]
                rfl
              refine pure_ (i := 2) (N := some 44) (v := ?_) (a' := ?_) #[true, true, true, false, false, false, false, false, false, false] rfl rfl (by kernel_rfl) (fun _ _ _ h => h) (Or.inl ⟨by rfl, ?_⟩) ?_ ?_
              rotate_left
              · intro w'
                go_simp
                with_reducible rfl
              rotate_left
              · simp only [Act.put, List.setIfInBounds_toArray, List.set_cons_zero, List.set_cons_succ, i64_w, i32_w]
                rfl
              refine pure_ (i := 5) (N := some 47) (v := ?_) (a' := ?_) #[true, true, true, false, false, true, false, false, false, false] rfl rfl (by kernel_rfl) (fun _ _ _ h => h) (Or.inl ⟨by rfl, ?_⟩) ?_ ?_
              rotate_left
              · intro w'
                go_simp
                with_reducible rfl
              rotate_left
              · simp only [Act.put, List.setIfInBounds_toArray, List.set_cons_zero, List.set_cons_succ, i64_w, i32_w]
                rfl
              refine pure_ (i := 6) (N := some 48) (v := ?_) (a' := ?_) #[true, true, true, false, false, true, true, false, false, false] rfl rfl (by kernel_rfl) (fun _ _ _ h => h) (Or.inl ⟨by rfl, ?_⟩) ?_ ?_
              rotate_left
              · intro w'
                go_simp
                with_reducible rfl
              rotate_left
              · simp only [Act.put, List.setIfInBounds_toArray, List.set_cons_zero, List.set_cons_succ, i64_w, i32_w]
                rfl
              refine pure_ (i := 7) (N := some 49) (v := ?_) (a' := ?_) #[true, true, true, false, false, true, true, true, false, false] rfl rfl (by kernel_rfl) (fun _ _ _ h => h) (Or.inl ⟨by rfl, ?_⟩) ?_ ?_
              rotate_left
              · intro w'
                go_simp
                with_reducible rfl
              rotate_left
              · simp only [Act.put, List.setIfInBounds_toArray, List.set_cons_zero, List.set_cons_succ, i64_w, i32_w]
                rfl
              refine take_ (i := 3) (N := some 45) (v := ?_) (a' := ?_) #[true, true, true, true, false, true, true, true, false, false] rfl rfl (by kernel_rfl) (fun _ _ _ h => h) (Or.inl ⟨by rfl, ?_⟩) hHeld ?_ ?_
              rotate_left
              · rintro w' ⟨s0, s1⟩
                go_simp
                with_reducible rfl
              rotate_left
              · simp only [Act.put, List.setIfInBounds_toArray, List.set_cons_zero, List.set_cons_succ, i64_w, i32_w]
                rfl
              refine pure_ (i := 4) (N := some 46) (v := ?_) (a' := ?_) #[true, true, true, true, true, true, true, true, false, false] rfl rfl (by kernel_rfl) (fun _ _ _ h => h) (Or.inl ⟨by rfl, ?_⟩) ?_ ?_
              rotate_left
              · intro w'
                go_simp
                with_reducible rfl
              rotate_left
              · simp only [Act.put, List.setIfInBounds_toArray, List.set_cons_zero, List.set_cons_succ, i64_w, i32_w]
                rfl
              refine take_ (i := 8) (N := some 50) (v := ?_) (a' := ?_) #[true, true, true, true, true, true, true, true, true, false] rfl rfl (by kernel_rfl) (fun _ _ _ h => h) (Or.inl ⟨by rfl, ?_⟩) hHeld ?_ ?_
              rotate_left
              · rintro w' ⟨s0, s1⟩
                go_simp
                with_reducible rfl
              rotate_left
              · simp only [Act.put, List.setIfInBounds_toArray, List.set_cons_zero, List.set_cons_succ, i64_w, i32_w]
                rfl
              refine pure_ (i := 9) (N := some 51) (v := ?_) (a' := ?_) #[true, true, true, true, true, true, true, true, true, true] rfl rfl (by kernel_rfl) (fun _ _ _ h => h) (Or.inl ⟨by rfl, ?_⟩) ?_ ?_
              rotate_left
              · intro w'
                go_simp
                with_reducible rfl
              rotate_left
              · simp only [Act.put, List.setIfInBounds_toArray, List.set_cons_zero, List.set_cons_succ, i64_w, i32_w]
                rfl
              refine done_ (by kernel_rfl) ?_
              go_wp2
              go_ret
              exact ⟨rfl, ⟨_, blk_drew BK.out, HG.out, Kd.R_drew HR.out⟩, below_drew HW.out, HKW.out, HKF.out⟩
theorem clog_AddN (nn : Nat) (rev : Int) (AC : Option Addr) (cc cb : Nat) (C : List S55) (base g : Nat) (L : List S57) (most floor last : Int) (w : World) (hn : nn = C.length) (h : CSt w base g L most floor last) (hC : Kd.R k55 55 w cb (fun _ => True) (.slice AC C.length cc) C) (hr : last < rev) (hm1 : 0 < most) (hlen : L.length ≤ 900) (hcl : C.length ≤ 6) :
    Calls Try.prog 20 #[.pointer (some ⟨g, 0, none⟩), .int .i64 rev, .slice AC nn cc] w fun e w' => e = .returned (.int .i64 0) ∧ CSt w' base g (cTrim (L.length + C.length + 1) most (cPut rev L C) floor).1 most (cTrim (L.length + C.length + 1) most (cPut rev L C) floor).2 rev ∧ Below base w w' ∧ Keeps [62, 57] w w' := by
  subst hn
  obtain ⟨v, h1, h2, h3⟩ := h
  refine (clog_AddF.yes (fun _ => False) rev AC cc cb C base g L most floor last w ⟨v, h1, h2, Kd.R_mono h3 (fun _ _ => id)⟩ (fun _ hf => hf.elim) hC hr hm1 hlen hcl).mono ?_
  rintro e w' ⟨he, hs, hb, hk, _⟩
  exact ⟨he, CStF.c hs, hb, hk⟩
def awS : S55 := ⟨⟨#[97]⟩, ⟨#[]⟩, false⟩
def awL : Nat → List S57
  | 0 => []
  | 1 => [⟨1, awS⟩]
  | 2 => [⟨1, awS⟩, ⟨2, awS⟩]
  | _ => [⟨2, awS⟩, ⟨3, awS⟩]
def awF : Nat → Int
  | 0 => 0
  | 1 => 0
  | 2 => 0
  | _ => 1
theorem aw_step (i : Nat) (h : i < 3) : cTrim ((awL i).length + [awS].length + 1) 2 (cPut (((i + 1 : Nat) : Int)) (awL i) [awS]) (awF i) = (awL (i + 1), awF (i + 1)) := by
  rcases i with _ | _ | _ | i
  · rfl
  · rfl
  · rfl
  · omega
theorem aw_reps (w : World) (base : Nat) (ok : Nat → Prop) : Reps (k55.M w base ok) k55.sz [awS] [.string ⟨#[97]⟩, .string ⟨#[]⟩, .bool false] := by
  refine ⟨rfl, fun j p hj => ?_⟩
  rcases j with _ | j
  · simp at hj
    subst hj
    exact k55_mkM w base ok awS
  · simp at hj
theorem awL_len (i : Nat) : (awL i).length ≤ 2 := by rcases i with _ | _ | _ | i <;> simp [awL]
set_option maxHeartbeats 8000000 in
set_option maxRecDepth 100000 in
theorem law_awake (w : World) : Calls Try.prog 17 #[] w fun e w' => e = .returned (.bool true) ∧ Below w.heap.size w w' := by
  have hu55 := Try.underlying55
  have hu63 := Try.underlying63
  have hu23 := Try.underlying23
  have HN := Aside0.mk (clog_NewS 2 w.heap.size w (Nat.le_refl _))
  rw [show mx 2 1 = 2 from rfl] at HN
  go_enter Try.func17, Try.ntmps17
  go_wp2_with (first | (go_at_call 7; refine HN.out.mono ?_; rintro e w1 ⟨g, rfl, hP, hb⟩; have HP0 := Aside0.mk (show CSt w1 w.heap.size g (awL 0) 2 (awF 0) 0 from hP); have HB0 := Aside0.mk hb; clear hP hb) | fail)
  go_loopg [2] 4 (fun kq v2 wr => ∃ (i : Nat), v2 = .int .i64 ((i + 1 : Nat) : Int) ∧ Aside0 (i + kq = 4 ∧ i ≤ 3) ∧ Aside0 (CSt wr w.heap.size g (awL i) 2 (awF i) (i : Int)) ∧ Aside0 (Below w.heap.size w wr))
  case atStart => exact ⟨0, rfl, ⟨by omega, by omega⟩, ⟨HP0.out⟩, ⟨HB0.out⟩⟩
  case round =>
    clear HP0 HB0 HN
    obtain ⟨i, rfl, HI, HP, HW⟩ := hrel
    cases gk with
    | zero => have := HI.out; omega
    | succ k1 =>
      by_cases c2 : ((i + 1 : Nat) : Int) ≤ 3
      · have c2b : decide (((i + 1 : Nat) : Int) ≤ 3) = true := decide_eq_true c2
        have hi3 : i < 3 := by omega
        have hw2 : wrap64 (((i + 1 : Nat) : Int) + 1) = ((i + 1 + 1 : Nat) : Int) := by unfold wrap64; omega
        obtain ⟨rv, hrv⟩ : ∃ rv, ((i + 1 : Nat) : Int) = rv := ⟨_, rfl⟩
        rw [hrv] at c2b hw2 ⊢
        have hst := aw_step i hi3
        rw [hrv] at hst
        have HST := Aside0.mk hst
        have HRV := Aside0.mk hrv
        clear hst hrv c2
        go_wp2_with (first | ((with_reducible refine gate_dst (N := 15) rfl ?_); refine Kd.R_lit k55 (w0 := wr) wr.heap.size 55 ?hg (N := 15) ?hd (xs := [awS]) (inner := [.string ⟨#[97]⟩, .string ⟨#[]⟩, .bool false]) (ok := fun _ => True) (okp := fun _ => True) ?hr ?hp (fun _ hk => hk) trivial (Below.refl _ _) (Nat.le_refl _) (by simp) ?_; (case hd => rfl); (case hg => rfl); (case hr => first | (go_simp; done) | (go_simp; rfl)); (case hp => exact aw_reps _ _ _); intro v15 w2 ho2 hb2 hg2 hnew2; obtain ⟨A15, c15, rfl⟩ := Kd.R_slice ho2; have HO2 := Aside0.mk ho2; have HP2 := Aside0.mk (HP.out.below hb2); have HB2 := Aside0.mk (below_step HW.out hb2); clear ho2 hb2 hg2 hnew2) | (go_at_call 20; refine (clog_AddN _ rv A15 c15 _ [awS] w.heap.size g (awL i) 2 (awF i) (i : Int) _ (by rfl) HP2.out HO2.out (by have := HRV.out; omega) (by decide) (by have := awL_len i; omega) (by simp)).mono ?_; rintro e w3 ⟨rfl, h3, hb3, _⟩; rw [HST.out] at h3; have HP3 := Aside0.mk h3; have HB3 := Aside0.mk (HB2.out.trans hb3); clear h3 hb3) | fail)
        go_roundg k1
        case measure => omega
        case rel => exact ⟨i + 1, by first | rw [hw2] | simp, ⟨by have := HI.out; omega, by omega⟩, ⟨HRV.out ▸ HP3.out⟩, ⟨HB3.out⟩⟩
      · have c2b : decide (((i + 1 : Nat) : Int) ≤ 3) = false := decide_eq_false c2
        have hi : i = 3 := by have := HI.out; omega
        subst hi
        have hl2 : ((awL 3).drop (cAb (awL 3) 1)).length = 2 := rfl
        have HL2 := Aside0.mk hl2
        clear hl2
        go_wp2_with (first | (go_at_call 14; refine (clog_Since.no 0 w.heap.size g (awL 3) 2 (awF 3) 3 _ HP.out (by decide)).mono ?_; rintro e w3 ⟨rfl, hb3⟩; have HP3 := Aside0.mk (HP.out.below hb3); have HB3 := Aside0.mk (below_step HW.out hb3); rw [show cAsked 0 (awF 3) 3 = 9 from rfl]; clear hb3 HP) | (go_at_call 14; refine (clog_Since.yes 1 w.heap.size g (awL 3) 2 (awF 3) 3 _ HP3.out (by decide) (by decide)).mono ?_; rintro e w4 ⟨v4, rfl, hR4, hb4⟩; obtain ⟨A4, c4, rfl⟩ := Kd.R_slice hR4; rw [HL2.out]; have HP4 := Aside0.mk (HP3.out.below hb4); have HB4 := Aside0.mk (below_step HB3.out hb4); clear hR4 hb4 HP3) | (go_at_call 10; refine (clog_Floor w.heap.size g (awL 3) 2 (awF 3) 3 _ HP4.out).mono ?_; rintro e w5 ⟨rfl, hb5⟩; rw [show awF 3 = 1 from rfl]; have HB5 := Aside0.mk (below_step HB4.out hb5); clear hb5) | fail)
        go_ret
        exact ⟨rfl, HB5.out⟩
set_option maxHeartbeats 8000000 in
set_option maxRecDepth 100000 in
theorem ref_NewS (a : Int) (base : Nat) (w : World) (hbase : base ≤ w.heap.size) : Calls Try.prog 8 #[.int .i64 a] w fun e w' => ∃ g_ : Nat, e = .returned (.pointer (some ⟨g_, 0, none⟩)) ∧ RSt w' base g_ [] (mx a 1) 0 0 ∧ Below w.heap.size w w' := by
  have hu34 := Try.underlying34
  have HBS := Aside0.mk hbase
  clear hbase
  by_cases h1 : a < 1
  · have h1b : decide (a < 1) = true := decide_eq_true h1
    rw [show mx a 1 = 1 from if_pos h1]
    go_enter Try.func8, Try.ntmps8
    go_wp2_with (first | ((with_reducible refine gate_dst (N := 7) rfl ?_); refine box_event ?hg (N := 7) ?hd (cs := #[.slice none 0 0, .int .i64 1, .int .i64 0, .int .i64 0]) (t := 34) ?hr ?_; (case hd => rfl); (case hg => rfl); (case hr => first | (go_simp; done) | (go_simp; rfl)); intro gb101 hg w3 hbox hb; have BK := Aside0.mk hbox; have HG := Aside0.mk hg; have HB3 := Aside0.mk hb; clear hb hbox hg))
    go_ret
    exact ⟨_, rfl, ⟨_, BK.out, by rw [HG.out]; exact HBS.out, Kd.R_nil _ _ _ _ _⟩, HB3.out⟩
  · have h1b : decide (a < 1) = false := decide_eq_false h1
    rw [show mx a 1 = a from if_neg h1]
    go_enter Try.func8, Try.ntmps8
    go_wp2_with (first | ((with_reducible refine gate_dst (N := 7) rfl ?_); refine box_event ?hg (N := 7) ?hd (cs := #[.slice none 0 0, .int .i64 a, .int .i64 0, .int .i64 0]) (t := 34) ?hr ?_; (case hd => rfl); (case hg => rfl); (case hr => first | (go_simp; done) | (go_simp; rfl)); intro gb101 hg w3 hbox hb; have BK := Aside0.mk hbox; have HG := Aside0.mk hg; have HB3 := Aside0.mk hb; clear hb hbox hg))
    go_ret
    exact ⟨_, rfl, ⟨_, BK.out, by rw [HG.out]; exact HBS.out, Kd.R_nil _ _ _ _ _⟩, HB3.out⟩
def rAb (L : List S53) (rev : Int) : List S53 := L.filter (fun x => decide (x.f0 > rev))
set_option maxHeartbeats 8000000 in
set_option maxRecDepth 100000 in
theorem ref_Above (rev : Int) (base g : Nat) (L : List S53) (most floor last : Int) (w : World) (h : RSt w base g L most floor last) (hlen : L.length ≤ 1000) : Calls Try.prog 13 #[.pointer (some ⟨g, 0, none⟩), .int .i64 rev] w fun e w' => ∃ v, e = .returned v ∧ Kd.R k53 53 w' w.heap.size (fun _ => True) v (rAb L rev) ∧ Below w.heap.size w w' := by
  have hu34 := Try.underlying34
  have hu53 := Try.underlying53
  have hu32 := Try.underlying32
  have hu25 := Try.underlying25
  have HS := Aside0.mk h
  obtain ⟨v, hb, hg, hR⟩ := h
  obtain ⟨A, c, rfl⟩ := Kd.R_slice hR
  have BK := Aside0.mk hb
  have HG := Aside0.mk hg
  have HR := Aside0.mk hR
  clear hg hR
  have HLEN := Aside0.mk hlen
  clear hlen
  have hc0 := blk_cell BK.out 0
  go_enter Try.func13, Try.ntmps13
  go_wp2
  clear hc0
  go_loopg [13, 5] (L.length + 1) (fun kq v13 v5 wr => ∃ i : Nat, v13 = .int .i64 (i : Int) ∧ Kd.R k53 53 wr w.heap.size (fun _ => True) v5 (rAb (L.take i) rev) ∧ Aside0 (i + kq = L.length + 1 ∧ i ≤ L.length) ∧ Aside0 (Below w.heap.size w wr))
  case atStart => exact ⟨0, rfl, Kd.R_nil _ _ _ _ _, ⟨by omega, by omega⟩, ⟨Below.refl _ _⟩⟩
  case round =>
    obtain ⟨i, rfl, hRo_, HI, HW⟩ := hrel
    obtain ⟨Ao, co, rfl⟩ := Kd.R_slice hRo_
    have HRO := Aside0.mk hRo_
    clear hRo_
    have HOL := Aside0.mk (show (rAb (L.take i) rev).length ≤ 1000 by have := HLEN.out; refine Nat.le_trans (List.length_filter_le _ _) ?_; rw [List.length_take]; omega)
    cases gk with
    | zero => have := HI.out; omega
    | succ k1 =>
      by_cases c2 : (i : Int) < (L.length : Int)
      · have c2b : decide ((i : Int) < (L.length : Int)) = true := decide_eq_true c2
        have p2 : (0 : Int) ≤ (i : Int) := by omega
        obtain ⟨ad2, e2, hx0, hx1, hx2, hx3⟩ := at_T53 (Kd.C_below (Kd.R_reads' HR.out).2.2 HW.out) (i : Int) p2 c2
        cases e2
        have p2t : ((0 : Int) ≤ (i : Int)) = True := eq_true p2
        have q2t : ((i : Int) < (L.length : Int)) = True := eq_true c2
        have q2n : (i < L.length) = True := eq_true (by omega)
        simp only [Int.toNat_natCast] at hx0 hx1 hx2 hx3
        have hw2 : wrap64 ((i : Int) + 1) = ((i + 1 : Nat) : Int) := by have := HLEN.out; unfold wrap64; omega
        have htk := take53 L i (by omega)
        obtain ⟨x, hx⟩ : ∃ x, rd_T53 L (i : Int) = x := ⟨_, rfl⟩
        rw [hx] at hx0 hx1 hx2 hx3 htk
        clear hx
        have HTK := Aside0.mk htk
        clear htk
        obtain ⟨O, hO⟩ : ∃ O, rAb (L.take i) rev = O := ⟨_, rfl⟩
        rw [hO] at HRO HOL ⊢
        unfold rAb at hO
        have HO := Aside0.mk hO
        clear hO
        have HBD := Aside0.mk (below_alloc HW.out (.cells #[.int .i64 x.f0, .string x.f1.f0, .string x.f1.f1, .bool x.f1.f2] 53))
        have HRD := Aside0.mk (Kd.R_alloc HRO.out (.cells #[.int .i64 x.f0, .string x.f1.f0, .string x.f1.f1, .bool x.f1.f2] 53))
        cases hp : decide (x.f0 > rev) with
        | true =>
          go_wp2_with (first | ((with_reducible refine gate_builtin (b := .append) (xs := #[.tmp 21, .tmp 23]) rfl ?_); at_builtin; refine Kd.R_append k53 (w0 := w) w.heap.size rfl (.tmp 21) (.tmp 23) 32 53 (.agg #[.int .i64 0, .string ⟨#[]⟩, .string ⟨#[]⟩, .bool false]) 48 rfl Try.underlying32 info53 rfl (by decide) (by omega) (.slice Ao O.length co) O x [.int .i64 x.f0, .string x.f1.f0, .string x.f1.f1, .bool x.f1.f2] (fun _ => True) (fun _ => False) rfl ?aH (k53_mkM _ _ _ x) (fun _ hk => hk.elim) (fun _ _ => trivial) HRD.out HBD.out HBD.out.size (by have := HOL.out; omega) ?_; (case aH => first | rfl | (go_simp; done) | (go_simp; rfl) | simp); intro v4 w4 ho hbb hg3 hat; have HR4 := Aside0.mk ho; have HB4 := Aside0.mk hbb; clear ho hbb hg3 hat) | fail)
          go_roundg k1
          case measure => omega
          case rel => exact ⟨i + 1, by first | rw [hw2] | simp, by unfold rAb; rw [HTK.out, List.filter_append, HO.out, List.filter_cons, if_pos hp, List.filter_nil]; exact HR4.out, ⟨by have := HI.out; omega, by omega⟩, ⟨HB4.out⟩⟩
        | false =>
          go_wp2_with fail
          go_roundg k1
          case measure => omega
          case rel => exact ⟨i + 1, by first | rw [hw2] | simp, by unfold rAb; rw [HTK.out, List.filter_append, HO.out, List.filter_cons, if_neg (by rw [hp]; decide), List.filter_nil, List.append_nil]; exact HRD.out, ⟨by have := HI.out; omega, by omega⟩, ⟨HBD.out⟩⟩
      · have c2b : decide ((i : Int) < (L.length : Int)) = false := decide_eq_false c2
        have hi : i = L.length := by have := HI.out; omega
        subst hi
        rw [List.take_length] at HRO
        go_wp2
        go_ret
        exact ⟨_, rfl, HRO.out, HW.out⟩
def rTrim : Nat → Int → List S53 → Int → Int
  | 0, _, _, f => f
  | k + 1, most, L, f => if ((rAb L f).length : Int) > most then rTrim k most L (rd_T53 (rAb L f) 0).f0 else f
theorem RSt.of {w : World} {base g : Nat} {v : Value} {L : List S53} {most floor last : Int} (h1 : w.heap[g]? = some (.cells #[v, .int .i64 most, .int .i64 floor, .int .i64 last] 34 (0, 0))) (h2 : base ≤ g) (h3 : Kd.R k53 53 w base (fun _ => True) v L) : RSt w base g L most floor last := ⟨v, h1, h2, h3⟩
def rPut (rev : Int) (L : List S53) (C : List S51) : List S53 := L ++ C.map (fun x => (⟨rev, x⟩ : S53))
theorem rd51_at (xs : List S51) (i : Nat) (h : i < xs.length) : rd_T51 xs (i : Int) = xs[i] := by
  unfold rd_T51
  rw [Int.toNat_natCast, List.getD_eq_getElem?_getD, List.getElem?_eq_getElem h]
  rfl
theorem take51 (xs : List S51) (i : Nat) (h : i < xs.length) : xs.take (i + 1) = xs.take i ++ [rd_T51 xs (i : Int)] := by
  rw [rd51_at xs i h]
  exact List.take_succ_eq_append_getElem h
theorem rPut_step (rev : Int) (L : List S53) (C : List S51) (i : Nat) (h : i < C.length) : rPut rev L (C.take (i + 1)) = rPut rev L (C.take i) ++ [⟨rev, rd_T51 C (i : Int)⟩] := by
  unfold rPut
  rw [take51 C i h, List.map_append, List.append_assoc]
  rfl
theorem rPut_len (rev : Int) (L : List S53) (C : List S51) : (rPut rev L C).length = L.length + C.length := by unfold rPut; simp
theorem rAb_le (L : List S53) (f : Int) : (rAb L f).length ≤ L.length := List.length_filter_le _ _
theorem rAb_less (L : List S53) (f : Int) (h : 0 < (rAb L f).length) : (rAb L (rd_T53 (rAb L f) 0).f0).length < (rAb L f).length := by
  have hr : rd_T53 (rAb L f) ((0 : Nat) : Int) = (rAb L f)[0] := rd53_at _ 0 h
  rw [show (0 : Int) = ((0 : Nat) : Int) from rfl, hr]
  obtain ⟨x, hx⟩ : ∃ x, (rAb L f)[0] = x := ⟨_, rfl⟩
  have hm : x ∈ rAb L f := hx ▸ List.getElem_mem h
  rw [hx]
  have hf : x.f0 > f := by simpa using (List.mem_filter.mp hm).2
  have e : rAb L x.f0 = (rAb L f).filter (fun y => decide (y.f0 > x.f0)) := by
    unfold rAb
    rw [List.filter_filter]
    refine List.filter_congr (fun y _ => ?_)
    by_cases h1 : y.f0 > x.f0
    · have h2 : y.f0 > f := by omega
      simp [h1, h2]
    · simp [h1]
  rw [e]
  refine Nat.lt_of_le_of_ne (List.length_filter_le _ _) (fun he => ?_)
  have := List.length_filter_eq_length_iff.mp he x hm
  simp at this
set_option maxHeartbeats 8000000 in
set_option maxRecDepth 100000 in
theorem ref_Add.no (rev : Int) (v : Value) (base g : Nat) (L : List S53) (most floor last : Int) (w : World) (h : RSt w base g L most floor last) (hr : rev ≤ last) : Calls Try.prog 21 #[.pointer (some ⟨g, 0, none⟩), .int .i64 rev, v] w fun e w' => e = .returned (.int .i64 1) ∧ Below w.heap.size w w' := by
  have hu34 := Try.underlying34
  have hu53 := Try.underlying53
  have hu32 := Try.underlying32
  have hu25 := Try.underlying25
  have HS := Aside0.mk h
  obtain ⟨v, hb, hg, hR⟩ := h
  obtain ⟨A, c, rfl⟩ := Kd.R_slice hR
  have BK := Aside0.mk hb
  have HG := Aside0.mk hg
  have HR := Aside0.mk hR
  clear hg hR
  have hc3 := blk_cell BK.out 3
  have hc1 : decide (rev ≤ last) = true := decide_eq_true hr
  go_enter Try.func21, Try.ntmps21
  go_wp2
  go_ret
  exact ⟨rfl, Below.refl _ _⟩
set_option maxHeartbeats 8000000 in
set_option maxRecDepth 100000 in
theorem ref_Add.yes (rev : Int) (AC : Option Addr) (cc cb : Nat) (C : List S51) (base g : Nat) (L : List S53) (most floor last : Int) (w : World) (h : RSt w base g L most floor last) (hC : Kd.R k51 51 w cb (fun _ => True) (.slice AC C.length cc) C) (hr : last < rev) (hm1 : 0 < most) (hlen : L.length ≤ 900) (hcl : C.length ≤ 6) :
    Calls Try.prog 21 #[.pointer (some ⟨g, 0, none⟩), .int .i64 rev, .slice AC C.length cc] w fun e w' => e = .returned (.int .i64 0) ∧ RSt w' base g (rPut rev L C) most (rTrim ((rAb (rPut rev L C) floor).length + 1) most (rPut rev L C) floor) rev ∧ Below base w w' ∧ Keeps [34, 53] w w' := by
  have hu34 := Try.underlying34
  have hu53 := Try.underlying53
  have hu32 := Try.underlying32
  have hu25 := Try.underlying25
  have hu51 := Try.underlying51
  have hu27 := Try.underlying27
  have HCR := Aside0.mk hC
  have HM1 := Aside0.mk hm1
  have HCL := Aside0.mk hcl
  have HLL := Aside0.mk hlen
  clear hC hm1 hcl hlen
  obtain ⟨M, hM0⟩ : ∃ M, rPut rev L C = M := ⟨_, rfl⟩
  rw [hM0]
  have HM0 := Aside0.mk hM0
  clear hM0
  obtain ⟨T, hT⟩ : ∃ T, rTrim ((rAb M floor).length + 1) most M floor = T := ⟨_, rfl⟩
  rw [hT]
  have HT := Aside0.mk hT
  clear hT
  have HS := Aside0.mk h
  obtain ⟨v, hb, hg, hR⟩ := h
  obtain ⟨A, c, rfl⟩ := Kd.R_slice hR
  have BK := Aside0.mk hb
  have HG := Aside0.mk hg
  have HR := Aside0.mk hR
  clear hg hR
  have hc3 := blk_cell BK.out 3
  have hf3 := blk_frozen BK.out 3
  have hc1 : decide (rev ≤ last) = false := decide_eq_false (by omega)
  go_enter Try.func21, Try.ntmps21
  go_wp2
  have HX0 : RSt (w.setCell ⟨g, 3, none⟩ (.int .i64 rev)) base g L most floor rev := ⟨_, by simpa using blk_set BK.out 3 (.int .i64 rev), HG.out, Kd.R_set HR.out BK.out (by decide) 3 _⟩
  have HB0 := Below.setCell (Below.refl base w) (p := ⟨g, 3, none⟩) HG.out (.int .i64 rev)
  have HK0 : Keeps [34, 53] w (w.setCell ⟨g, 3, none⟩ (.int .i64 rev)) := Keeps.set BK.out (by decide) 3 _
  have HX := Aside0.mk HX0
  have HBX := Aside0.mk HB0
  have HKX := Aside0.mk HK0
  clear HX0 HB0 HK0 hc3 hf3
  clear HS HR BK
  go_loopg [21] (C.length + 1) (fun kq v21 wr => ∃ i : Nat, v21 = .int .i64 (i : Int) ∧ Aside0 (i + kq = C.length + 1 ∧ i ≤ C.length) ∧ Aside0 (RSt wr base g (rPut rev L (C.take i)) most floor rev) ∧ Aside0 (Below base w wr) ∧ Aside0 (Keeps [34, 53] w wr))
  case atStart => exact ⟨0, rfl, ⟨by omega, by omega⟩, ⟨by rw [List.take_zero, show rPut rev L [] = L from List.append_nil L]; exact HX.out⟩, ⟨HBX.out⟩, ⟨HKX.out⟩⟩
  case round =>
    clear HX HBX HKX
    obtain ⟨i, rfl, HI, HX, HW, HKW⟩ := hrel
    cases gk with
    | zero => have := HI.out; omega
    | succ k1 =>
      by_cases c2 : (i : Int) < (C.length : Int)
      · have c2b : decide ((i : Int) < (C.length : Int)) = true := decide_eq_true c2
        have p2 : (0 : Int) ≤ (i : Int) := by omega
        have HCW := Aside0.mk (R_keeps HCR.out HKW.out (by decide))
        obtain ⟨ad2, e2, hx0, hx1, hx2⟩ := at_T51 (Kd.R_reads' HCW.out).2.2 (i : Int) p2 c2
        cases e2
        have p2t : ((0 : Int) ≤ (i : Int)) = True := eq_true p2
        have q2t : ((i : Int) < (C.length : Int)) = True := eq_true c2
        have q2n : (i < C.length) = True := eq_true (by omega)
        simp only [Int.toNat_natCast] at hx0 hx1 hx2
        have hw2 : wrap64 ((i : Int) + 1) = ((i + 1 : Nat) : Int) := by have := HCL.out; unfold wrap64; omega
        have hst := rPut_step rev L C i (by omega)
        have hml : (rPut rev L (C.take i)).length ≤ 906 := by rw [rPut_len, List.length_take]; have := HCL.out; have := HLL.out; omega
        obtain ⟨x, hx⟩ : ∃ x, rd_T51 C (i : Int) = x := ⟨_, rfl⟩
        rw [hx] at hx0 hx1 hx2 hst
        clear hx
        have HST := Aside0.mk hst
        clear hst
        obtain ⟨M, hM⟩ : ∃ M, rPut rev L (C.take i) = M := ⟨_, rfl⟩
        rw [hM] at hml HX HST
        clear hM
        have HML := Aside0.mk hml
        obtain ⟨v, hb, hg, hR⟩ := HX.out
        obtain ⟨A, c, rfl⟩ := Kd.R_slice hR
        have BK1 := Aside0.mk (blk_alloc hb (.cells #[.string x.f0, .string x.f1, .bool x.f2] 51))
        have HR1 := Aside0.mk (Kd.R_alloc hR (.cells #[.string x.f0, .string x.f1, .bool x.f2] 51))
        have BX1 := Aside0.mk (blk_new wr (.cells #[.string x.f0, .string x.f1, .bool x.f2] 51))
        have HB1 := Aside0.mk (HW.out.trans (below_less (below_alloc (Below.refl wr.heap.size wr) (.cells #[.string x.f0, .string x.f1, .bool x.f2] 51)) HX.out.base))
        have HK1 := Aside0.mk (show Keeps [34, 53] w (wr.alloc (.cells #[.string x.f0, .string x.f1, .bool x.f2] 51)) from HKW.out.trans (Keeps.below (below_alloc (Below.refl wr.heap.size wr) _)))
        clear hb hg hR HX
        go_upto_region 7 with fail
        clear hx0 hx1 hx2
        obtain ⟨b, hb⟩ : ∃ b, wr.heap.size = b := ⟨_, rfl⟩
        rw [hb] at BX1 ⊢
        generalize wr.alloc (.cells #[.string x.f0, .string x.f1, .bool x.f2] 51) = w1 at BK1 HR1 BX1 HB1 HK1 ⊢
        refine start_ (n := 13) (S := fun w' => w'.cell? ⟨g, 0, none⟩ = some (.slice A M.length c) ∧ w'.cell? ⟨b, 0, none⟩ = some (.string x.f0) ∧ w'.cell? ⟨b, 1, none⟩ = some (.string x.f1) ∧ w'.cell? ⟨b, 2, none⟩ = some (.bool x.f2)) (ds := [12]) #[false, false, false, false, false, false, false, false, false, false, false, false, false] (by kernel_rfl) rfl rfl ⟨(blk_cell (BK1.out) 0).trans rfl, (blk_cell (BX1.out) 0).trans rfl, (blk_cell (BX1.out) 1).trans rfl, (blk_cell (BX1.out) 2).trans rfl⟩ (fun hHeld => ?_)
        have BKd_ := blk_drew BK1.out
        have BXd_ := blk_drew BX1.out
        have HRd_ := Kd.R_drew HR1.out
        have HBd_ := below_drew HB1.out
        have HKd_ := (show Keeps [34, 53] w w1.drew from HK1.out)
        clear BK1 BX1 HR1 HB1 HK1
        generalize w1.drew = wd at BKd_ BXd_ HRd_ HBd_ HKd_ hHeld ⊢
        have BKd := Aside0.mk BKd_
        clear BKd_
        have BXd := Aside0.mk BXd_
        clear BXd_
        have HRd := Aside0.mk HRd_
        clear HRd_
        have HBd := Aside0.mk HBd_
        clear HBd_
        have HKd := Aside0.mk HKd_
        clear HKd_
        refine pure_ (i := 0) (N := some 25) (v := ?_) (a' := ?_) #[true, false, false, false, false, false, false, false, false, false, false, false, false] rfl rfl (by kernel_rfl) (fun _ _ _ h => h) (Or.inl ⟨by rfl, ?_⟩) ?_ ?_
        rotate_left
        · intro w'
          go_simp
          with_reducible rfl
        rotate_left
        · simp only [Act.put, List.setIfInBounds_toArray, List.set_cons_zero, List.set_cons_succ, i64_w, i32_w]
          rfl
        refine pure_ (i := 1) (N := some 26) (v := ?_) (a' := ?_) #[true, true, false, false, false, false, false, false, false, false, false, false, false] rfl rfl (by kernel_rfl) (fun _ _ _ h => h) (Or.inl ⟨by rfl, ?_⟩) ?_ ?_
        rotate_left
        · intro w'
          go_simp
          with_reducible rfl
        rotate_left
        · simp only [Act.put, List.setIfInBounds_toArray, List.set_cons_zero, List.set_cons_succ, i64_w, i32_w]
          rfl
        refine pure_ (i := 2) (N := some 27) (v := ?_) (a' := ?_) #[true, true, true, false, false, false, false, false, false, false, false, false, false] rfl rfl (by kernel_rfl) (fun _ _ _ h => h) (Or.inl ⟨by rfl, ?_⟩) ?_ ?_
        rotate_left
        · intro w'
          go_simp
          with_reducible rfl
        rotate_left
        · simp only [Act.put, List.setIfInBounds_toArray, List.set_cons_zero, List.set_cons_succ, i64_w, i32_w]
          rfl
        refine pure_ (i := 3) (N := some 28) (v := ?_) (a' := ?_) #[true, true, true, true, false, false, false, false, false, false, false, false, false] rfl rfl (by kernel_rfl) (fun _ _ _ h => h) (Or.inl ⟨by rfl, ?_⟩) ?_ ?_
        rotate_left
        · intro w'
          go_simp
          with_reducible rfl
        rotate_left
        · simp only [Act.put, List.setIfInBounds_toArray, List.set_cons_zero, List.set_cons_succ, i64_w, i32_w]
          rfl
        refine pure_ (i := 5) (N := some 30) (v := ?_) (a' := ?_) #[true, true, true, true, false, true, false, false, false, false, false, false, false] rfl rfl (by kernel_rfl) (fun _ _ _ h => h) (Or.inl ⟨by rfl, ?_⟩) ?_ ?_
        rotate_left
        · intro w'
          go_simp
          with_reducible rfl
        rotate_left
        · simp only [Act.put, List.setIfInBounds_toArray, List.set_cons_zero, List.set_cons_succ, i64_w, i32_w]
          rfl
        refine take_ (i := 4) (N := some 29) (v := ?_) (a' := ?_) #[true, true, true, true, true, true, false, false, false, false, false, false, false] rfl rfl (by kernel_rfl) (fun _ _ _ h => h) (Or.inl ⟨by rfl, ?_⟩) hHeld ?_ ?_
        rotate_left
        · rintro w' ⟨s0, s1, s2, s3⟩
          go_simp
          with_reducible rfl
        rotate_left
        · simp only [Act.put, List.setIfInBounds_toArray, List.set_cons_zero, List.set_cons_succ, i64_w, i32_w]
          rfl
        refine take_ (i := 6) (N := some 31) (v := ?_) (a' := ?_) #[true, true, true, true, true, true, true, false, false, false, false, false, false] rfl rfl (by kernel_rfl) (fun _ _ _ h => h) (Or.inl ⟨by rfl, ?_⟩) hHeld ?_ ?_
        rotate_left
        · rintro w' ⟨s0, s1, s2, s3⟩
          go_simp
          with_reducible rfl
        rotate_left
        · simp only [Act.put, List.setIfInBounds_toArray, List.set_cons_zero, List.set_cons_succ, i64_w, i32_w]
          rfl
        refine pure_ (i := 7) (N := some 32) (v := ?_) (a' := ?_) #[true, true, true, true, true, true, true, true, false, false, false, false, false] rfl rfl (by kernel_rfl) (fun _ _ _ h => h) (Or.inl ⟨by rfl, ?_⟩) ?_ ?_
        rotate_left
        · intro w'
          go_simp
          with_reducible rfl
        rotate_left
        · simp only [Act.put, List.setIfInBounds_toArray, List.set_cons_zero, List.set_cons_succ, i64_w, i32_w]
          rfl
        refine one_ (i := 8) (N := some 33) #[true, true, true, true, true, true, true, true, true, false, false, false, false] rfl rfl (by kernel_rfl) (by decide) (fun K hK => ?_)
        refine value_ (w1 := ?_) (v := ?_) (by rfl) rfl ?_ ?_
        rotate_left 2
        · go_simp
          constructor
          · rfl
          · rfl
        refine hK.out _ _ ⟨(blk_cell (blk_alloc BKd.out _) 0).trans rfl, (blk_cell (blk_alloc BXd.out _) 0).trans rfl, (blk_cell (blk_alloc BXd.out _) 1).trans rfl, (blk_cell (blk_alloc BXd.out _) 2).trans rfl⟩ (fun hHeld => ?_)
        clear hK K
        refine norm_ (a' := ?_) ?_ ?_
        rotate_left
        · show Act.put _ (some 33) _ = _
          simp only [Act.put, List.setIfInBounds_toArray, List.set_cons_zero, List.set_cons_succ, i64_w, i32_w]
          rfl
        refine one_ (i := 9) (N := some 34) #[true, true, true, true, true, true, true, true, true, true, false, false, false] rfl rfl (by kernel_rfl) (by decide) (fun K hK => ?_)
        refine Kd.R_append_step k53 (w0 := w) base (by rfl) (.tmp 29) (.tmp 33) 32 53 (.agg #[.int .i64 0, .string ⟨#[]⟩, .string ⟨#[]⟩, .bool false]) 48 rfl Try.underlying32 info53 rfl (by decide) (by omega) (.slice A M.length c) M (⟨rev, x⟩ : S53) [.int .i64 rev, .string x.f0, .string x.f1, .bool x.f2] (fun _ => True) (fun _ => False) rfl rfl ?aP (fun _ hk => hk.elim) ?aF ?aO ?aB ?aS ?aL ?_
        (case aP => exact k53_mkM _ _ _ (⟨rev, x⟩ : S53))
        (case aF => exact (fun _ _ => trivial))
        (case aO => exact HRd.out)
        (case aB => exact HBd.out)
        (case aS => exact Nat.le_trans HG.out (Nat.le_of_lt (blk_lt BKd.out)))
        (case aL => have := HML.out; omega)
        intro v3 w3 ho hbb hg3 hat
        obtain ⟨A3, c3, rfl⟩ := Kd.R_slice ho
        rw [List.length_append, List.length_singleton] at ho
        have BK3 := Aside0.mk (blk_grown (g := g) BKd.out hg3 (Kd.R_ne HRd.out BKd.out (by decide)))
        have BX3 := Aside0.mk (blk_grown (g := b) BXd.out hg3 (Kd.R_ne HRd.out BXd.out (by decide)))
        have HR3 := Aside0.mk ho
        have HB3 := Aside0.mk hbb
        have HK3 := Aside0.mk (HKd.out.trans (Keeps.grown (T := [34, 53]) HRd.out (by decide) hg3))
        clear ho hbb hg3 hat
        refine hK.out _ _ ⟨(blk_cell (BK3.out) 0).trans rfl, (blk_cell (BX3.out) 0).trans rfl, (blk_cell (BX3.out) 1).trans rfl, (blk_cell (BX3.out) 2).trans rfl⟩ (fun hHeld => ?_)
        clear hK K
        refine norm_ (a' := ?_) ?_ ?_
        rotate_left
        · show Act.put _ (some 34) _ = _
          simp only [Act.put, List.setIfInBounds_toArray, List.set_cons_zero, List.set_cons_succ, i64_w, i32_w]
          rfl
        refine pure_ (i := 10) (N := some 35) (v := ?_) (a' := ?_) #[true, true, true, true, true, true, true, true, true, true, true, false, false] rfl rfl (by kernel_rfl) (fun _ _ _ h => h) (Or.inl ⟨by rfl, ?_⟩) ?_ ?_
        rotate_left
        · intro w'
          go_simp
          with_reducible rfl
        rotate_left
        · simp only [Act.put, List.setIfInBounds_toArray, List.set_cons_zero, List.set_cons_succ, i64_w, i32_w]
          rfl
        refine pure_ (i := 11) (N := some 36) (v := ?_) (a' := ?_) #[true, true, true, true, true, true, true, true, true, true, true, true, false] rfl rfl (by kernel_rfl) (fun _ _ _ h => h) (Or.inl ⟨by rfl, ?_⟩) ?_ ?_
        rotate_left
        · intro w'
          go_simp
          with_reducible rfl
        rotate_left
        · simp only [Act.put, List.setIfInBounds_toArray, List.set_cons_zero, List.set_cons_succ, i64_w, i32_w]
          rfl
        refine last_ (i := 12) (N := none) #[true, true, true, true, true, true, true, true, true, true, true, true, true] rfl rfl (by kernel_rfl) (by decide) (fun K hK => ?_)
        have hs0 := (blk_cell BK3.out 0).trans (rfl : _ = some (Value.slice A M.length c))
        have hsf := blk_frozen BK3.out 0
        refine skip_ (w1 := ?_) (by rfl) rfl ?_ ?_
        rotate_left
        · go_simp
          rfl
        refine hK.out _ _ ?_
        clear hK K
        refine done_ (by kernel_rfl) ?_
        have BK4 := Aside0.mk (show (w3.setCell ⟨g, 0, none⟩ (.slice A3 (M.length + 1) c3)).heap[g]? = some (.cells #[.slice A3 (M.length + 1) c3, .int .i64 most, .int .i64 floor, .int .i64 rev] 34 (0, 0)) by simpa using blk_set BK3.out 0 (.slice A3 (M.length + 1) c3))
        have HR4 := Aside0.mk (Kd.R_set HR3.out BK3.out (by decide) 0 (.slice A3 (M.length + 1) c3))
        have HB4 := Aside0.mk (Below.setCell HB3.out (p := ⟨g, 0, none⟩) HG.out (.slice A3 (M.length + 1) c3))
        have HK4 := Aside0.mk (HK3.out.trans (Keeps.set BK3.out (by decide) 0 (.slice A3 (M.length + 1) c3)))
        clear hs0 hsf
        go_wp2
        go_roundg k1
        case measure => omega
        case rel => exact ⟨i + 1, by first | rw [hw2] | simp, ⟨by have := HI.out; omega, by omega⟩, ⟨by rw [HST.out]; exact ⟨_, BK4.out, HG.out, HR4.out⟩⟩, ⟨HB4.out⟩, ⟨HK4.out⟩⟩
      · have c2b : decide ((i : Int) < (C.length : Int)) = false := decide_eq_false c2
        have hi : i = C.length := by have := HI.out; omega
        subst hi
        rw [List.take_length] at HX
        have HWC := HW
        have HKC := HKW
        have HXC := HX
        have hlp := rPut_len rev L C
        rw [HM0.out] at HXC hlp
        have HML := Aside0.mk (show M.length ≤ 1000 by have := HLL.out; have := HCL.out; omega)
        clear hlp HX HW HKW
        go_wp2
        go_loopg [] ((rAb M floor).length + 1) (fun kq wr2 => ∃ (fl : Int), Aside0 (RSt wr2 base g M most fl rev) ∧ Aside0 ((rAb M fl).length < kq ∧ rTrim kq most M fl = T) ∧ Aside0 (Below base w wr2) ∧ Aside0 (Keeps [34, 53] w wr2))
        case atStart => exact ⟨floor, ⟨HXC.out⟩, ⟨by omega, HT.out⟩, ⟨HWC.out⟩, ⟨HKC.out⟩⟩
        case round =>
          clear HXC HWC HKC
          obtain ⟨fl, HX, HI, HW, HKW⟩ := hrel
          cases gk with
          | zero => have := HI.out; omega
          | succ k1 =>
            obtain ⟨v, hb, hg, hR⟩ := HX.out
            obtain ⟨A, c, rfl⟩ := Kd.R_slice hR
            have BK := Aside0.mk hb
            have HR := Aside0.mk hR
            clear hb hg hR HX
            have htr := HI.out.2
            unfold rTrim at htr
            have hls := rAb_less M fl
            have hrl := rAb_le M fl
            obtain ⟨n, hn⟩ : ∃ n, (rAb M fl).length = n := ⟨_, rfl⟩
            rw [hn] at htr hls hrl HI
            have HN := Aside0.mk hn
            clear hn
            by_cases cm : (n : Int) > most
            · have cmb : decide ((n : Int) > most) = true := decide_eq_true cm
              rw [if_pos cm] at htr
              have hpos : 0 < n := by have := HM1.out; omega
              have q0 : decide ((0 : Int) < (n : Int)) = true := decide_eq_true (by omega)
              have q1 : ((0 : Int) < (n : Int)) = True := eq_true (by omega)
              have q2 : (0 < n) = True := eq_true hpos
              have HTR := Aside0.mk htr
              have HLS := Aside0.mk (hls hpos)
              have HPOS := Aside0.mk hpos
              clear htr hls hrl
              go_upto_region 9 with fail
              refine start_ (n := 12) (S := fun w' => w'.cell? ⟨g, 1, none⟩ = some (.int .i64 most) ∧ w'.cell? ⟨g, 2, none⟩ = some (.int .i64 fl)) (ds := []) #[false, false, false, false, false, false, false, false, false, false, false, false] (by kernel_rfl) rfl rfl ⟨(blk_cell BK.out 1).trans rfl, (blk_cell BK.out 2).trans rfl⟩ (fun hHeld => ?_)
              have BKd_ := blk_drew BK.out
              have HRd_ := Kd.R_drew HR.out
              have HBd_ := below_drew HW.out
              have HKd_ := (show Keeps [34, 53] w wr.drew from HKW.out)
              clear BK HR HW HKW
              generalize wr.drew = wd at BKd_ HRd_ HBd_ HKd_ hHeld ⊢
              have BKd := Aside0.mk BKd_
              clear BKd_
              have HRd := Aside0.mk HRd_
              clear HRd_
              have HBd := Aside0.mk HBd_
              clear HBd_
              have HKd := Aside0.mk HKd_
              clear HKd_
              refine pure_ (i := 0) (N := some 38) (v := ?_) (a' := ?_) #[true, false, false, false, false, false, false, false, false, false, false, false] rfl rfl (by kernel_rfl) (fun _ _ _ h => h) (Or.inl ⟨by rfl, ?_⟩) ?_ ?_
              rotate_left
              · intro w'
                go_simp
                with_reducible rfl
              rotate_left
              · simp only [Act.put, List.setIfInBounds_toArray, List.set_cons_zero, List.set_cons_succ, i64_w, i32_w]
                rfl
              refine pure_ (i := 1) (N := some 39) (v := ?_) (a' := ?_) #[true, true, false, false, false, false, false, false, false, false, false, false] rfl rfl (by kernel_rfl) (fun _ _ _ h => h) (Or.inl ⟨by rfl, ?_⟩) ?_ ?_
              rotate_left
              · intro w'
                go_simp
                with_reducible rfl
              rotate_left
              · simp only [Act.put, List.setIfInBounds_toArray, List.set_cons_zero, List.set_cons_succ, i64_w, i32_w]
                rfl
              refine pure_ (i := 2) (N := some 40) (v := ?_) (a' := ?_) #[true, true, true, false, false, false, false, false, false, false, false, false] rfl rfl (by kernel_rfl) (fun _ _ _ h => h) (Or.inl ⟨by rfl, ?_⟩) ?_ ?_
              rotate_left
              · intro w'
                go_simp
                with_reducible rfl
              rotate_left
              · simp only [Act.put, List.setIfInBounds_toArray, List.set_cons_zero, List.set_cons_succ, i64_w, i32_w]
                rfl
              refine pure_ (i := 3) (N := some 41) (v := ?_) (a' := ?_) #[true, true, true, true, false, false, false, false, false, false, false, false] rfl rfl (by kernel_rfl) (fun _ _ _ h => h) (Or.inl ⟨by rfl, ?_⟩) ?_ ?_
              rotate_left
              · intro w'
                go_simp
                with_reducible rfl
              rotate_left
              · simp only [Act.put, List.setIfInBounds_toArray, List.set_cons_zero, List.set_cons_succ, i64_w, i32_w]
                rfl
              refine pure_ (i := 7) (N := some 45) (v := ?_) (a' := ?_) #[true, true, true, true, false, false, false, true, false, false, false, false] rfl rfl (by kernel_rfl) (fun _ _ _ h => h) (Or.inl ⟨by rfl, ?_⟩) ?_ ?_
              rotate_left
              · intro w'
                go_simp
                with_reducible rfl
              rotate_left
              · simp only [Act.put, List.setIfInBounds_toArray, List.set_cons_zero, List.set_cons_succ, i64_w, i32_w]
                rfl
              refine pure_ (i := 8) (N := some 46) (v := ?_) (a' := ?_) #[true, true, true, true, false, false, false, true, true, false, false, false] rfl rfl (by kernel_rfl) (fun _ _ _ h => h) (Or.inl ⟨by rfl, ?_⟩) ?_ ?_
              rotate_left
              · intro w'
                go_simp
                with_reducible rfl
              rotate_left
              · simp only [Act.put, List.setIfInBounds_toArray, List.set_cons_zero, List.set_cons_succ, i64_w, i32_w]
                rfl
              refine pure_ (i := 9) (N := some 47) (v := ?_) (a' := ?_) #[true, true, true, true, false, false, false, true, true, true, false, false] rfl rfl (by kernel_rfl) (fun _ _ _ h => h) (Or.inl ⟨by rfl, ?_⟩) ?_ ?_
              rotate_left
              · intro w'
                go_simp
                with_reducible rfl
              rotate_left
              · simp only [Act.put, List.setIfInBounds_toArray, List.set_cons_zero, List.set_cons_succ, i64_w, i32_w]
                rfl
              refine take_ (i := 4) (N := some 42) (v := ?_) (a' := ?_) #[true, true, true, true, true, false, false, true, true, true, false, false] rfl rfl (by kernel_rfl) (fun _ _ _ h => h) (Or.inl ⟨by rfl, ?_⟩) hHeld ?_ ?_
              rotate_left
              · rintro w' ⟨s0, s1⟩
                go_simp
                with_reducible rfl
              rotate_left
              · simp only [Act.put, List.setIfInBounds_toArray, List.set_cons_zero, List.set_cons_succ, i64_w, i32_w]
                rfl
              refine take_ (i := 10) (N := some 48) (v := ?_) (a' := ?_) #[true, true, true, true, true, false, false, true, true, true, true, false] rfl rfl (by kernel_rfl) (fun _ _ _ h => h) (Or.inl ⟨by rfl, ?_⟩) hHeld ?_ ?_
              rotate_left
              · rintro w' ⟨s0, s1⟩
                go_simp
                with_reducible rfl
              rotate_left
              · simp only [Act.put, List.setIfInBounds_toArray, List.set_cons_zero, List.set_cons_succ, i64_w, i32_w]
                rfl
              refine one_ (i := 5) (N := some 43) #[true, true, true, true, true, true, false, true, true, true, true, false] rfl rfl (by kernel_rfl) (by decide) (fun K hK => ?_)
              refine goes_ Try.func13 (by kernel_rfl) rfl #[.pointer (some ⟨g, 0, none⟩), .int .i64 fl] (by rfl) rfl rfl (by simp only [List.map_toArray, List.map_cons, List.map_nil]; rfl) ?_
              with_reducible refine (ref_Above fl base g M most fl rev _ (RSt.of BKd.out HG.out HRd.out) HML.out).mono ?_
              rintro e w3 ⟨v3, rfl, hR3, hb3⟩
              refine ⟨_, rfl, ?_⟩
              obtain ⟨A3, c3, rfl⟩ := Kd.R_slice hR3
              rw [HN.out]
              have BK3 := Aside0.mk (blk_below BKd.out hb3)
              have HB3 := Aside0.mk (HBd.out.trans (below_less hb3 (Nat.le_trans HG.out (Nat.le_of_lt (blk_lt BKd.out)))))
              have HR3 := Aside0.mk (Kd.R_below HRd.out hb3)
              have HK3 := Aside0.mk (HKd.out.trans (Keeps.below hb3))
              clear hb3 hR3
              refine hK.out _ _ ⟨(blk_cell BK3.out 1).trans rfl, (blk_cell BK3.out 2).trans rfl⟩ (fun hHeld => ?_)
              clear hK K
              refine norm_ (a' := ?_) ?_ ?_
              rotate_left
              · show Act.put _ (some 43) _ = _
                simp only [Act.put, List.setIfInBounds_toArray, List.set_cons_zero, List.set_cons_succ, i64_w, i32_w]
                rfl
              refine pure_ (i := 6) (N := some 44) (v := ?_) (a' := ?_) #[true, true, true, true, true, true, true, true, true, true, true, false] rfl rfl (by kernel_rfl) (fun _ _ _ h => h) (Or.inl ⟨by rfl, ?_⟩) ?_ ?_
              rotate_left
              · intro w'
                go_simp
                with_reducible rfl
              rotate_left
              · simp only [Act.put, List.setIfInBounds_toArray, List.set_cons_zero, List.set_cons_succ, i64_w, i32_w]
                rfl
              refine pure_ (i := 11) (N := some 49) (v := ?_) (a' := ?_) #[true, true, true, true, true, true, true, true, true, true, true, true] rfl rfl (by kernel_rfl) (fun _ _ _ h => h) (Or.inl ⟨by rfl, ?_⟩) ?_ ?_
              rotate_left
              · intro w'
                go_simp
                with_reducible rfl
              rotate_left
              · simp only [Act.put, List.setIfInBounds_toArray, List.set_cons_zero, List.set_cons_succ, i64_w, i32_w]
                rfl
              refine done_ (by kernel_rfl) ?_
              have HBK := Aside0.mk (Nat.le_trans HG.out (Nat.le_of_lt (blk_lt BK3.out)))
              have hcc2 := blk_cell BK3.out 2
              clear BKd HRd HBd HKd
              go_wp2_with (first | (go_at_call 13; refine (ref_Above fl base g M most fl rev _ (RSt.of BK3.out HG.out HR3.out) HML.out).mono ?_; rintro e w4 ⟨v4, rfl, hR4, hb4⟩; obtain ⟨A4, c4, rfl⟩ := Kd.R_slice hR4; obtain ⟨ad4, e4, hy0, hy1, hy2, hy3⟩ := at_T53 (Kd.R_reads' hR4).2.2 0 (by omega) (by have := HPOS.out; have := HN.out; omega); cases e4; rw [show (0 : Int).toNat = 0 from rfl, Nat.zero_mul, show ad4.add 0 = ad4 by cases ad4; rfl] at hy0; rw [HN.out]; clear hy1 hy2 hy3 hcc2 hR4; have BK4 := Aside0.mk (blk_below BK3.out hb4); have HR4 := Aside0.mk (Kd.R_below HR3.out hb4); have HB4 := Aside0.mk (HB3.out.trans (below_less hb4 HBK.out)); have HK4 := Aside0.mk (HK3.out.trans (Keeps.below hb4)); clear hb4; have hcc2 := blk_cell BK4.out 2; have hff2 := blk_frozen BK4.out 2) | fail)
              go_roundg k1
              case measure => omega
              case rel => exact ⟨_, ⟨⟨_, by simpa using blk_set BK4.out 2 (.int .i64 (rd_T53 (rAb M fl) 0).f0), HG.out, Kd.R_set HR4.out BK4.out (by decide) 2 _⟩⟩, ⟨by have := HI.out.1; have := HLS.out; omega, HTR.out⟩, ⟨Below.setCell HB4.out (p := ⟨g, 2, none⟩) HG.out _⟩, ⟨HK4.out.trans (Keeps.set BK4.out (by decide) 2 _)⟩⟩
            · have cmb : decide ((n : Int) > most) = false := decide_eq_false cm
              rw [if_neg cm] at htr
              subst htr
              clear hls hrl
              go_upto_region 9 with fail
              refine start_ (n := 12) (S := fun w' => w'.cell? ⟨g, 1, none⟩ = some (.int .i64 most) ∧ w'.cell? ⟨g, 2, none⟩ = some (.int .i64 fl)) (ds := []) #[false, false, false, false, false, false, false, false, false, false, false, false] (by kernel_rfl) rfl rfl ⟨(blk_cell BK.out 1).trans rfl, (blk_cell BK.out 2).trans rfl⟩ (fun hHeld => ?_)
              have BKd_ := blk_drew BK.out
              have HRd_ := Kd.R_drew HR.out
              have HBd_ := below_drew HW.out
              have HKd_ := (show Keeps [34, 53] w wr.drew from HKW.out)
              clear BK HR HW HKW
              generalize wr.drew = wd at BKd_ HRd_ HBd_ HKd_ hHeld ⊢
              have BKd := Aside0.mk BKd_
              clear BKd_
              have HRd := Aside0.mk HRd_
              clear HRd_
              have HBd := Aside0.mk HBd_
              clear HBd_
              have HKd := Aside0.mk HKd_
              clear HKd_
              refine pure_ (i := 0) (N := some 38) (v := ?_) (a' := ?_) #[true, false, false, false, false, false, false, false, false, false, false, false] rfl rfl (by kernel_rfl) (fun _ _ _ h => h) (Or.inl ⟨by rfl, ?_⟩) ?_ ?_
              rotate_left
              · intro w'
                go_simp
                with_reducible rfl
              rotate_left
              · simp only [Act.put, List.setIfInBounds_toArray, List.set_cons_zero, List.set_cons_succ, i64_w, i32_w]
                rfl
              refine pure_ (i := 1) (N := some 39) (v := ?_) (a' := ?_) #[true, true, false, false, false, false, false, false, false, false, false, false] rfl rfl (by kernel_rfl) (fun _ _ _ h => h) (Or.inl ⟨by rfl, ?_⟩) ?_ ?_
              rotate_left
              · intro w'
                go_simp
                with_reducible rfl
              rotate_left
              · simp only [Act.put, List.setIfInBounds_toArray, List.set_cons_zero, List.set_cons_succ, i64_w, i32_w]
                rfl
              refine pure_ (i := 2) (N := some 40) (v := ?_) (a' := ?_) #[true, true, true, false, false, false, false, false, false, false, false, false] rfl rfl (by kernel_rfl) (fun _ _ _ h => h) (Or.inl ⟨by rfl, ?_⟩) ?_ ?_
              rotate_left
              · intro w'
                go_simp
                with_reducible rfl
              rotate_left
              · simp only [Act.put, List.setIfInBounds_toArray, List.set_cons_zero, List.set_cons_succ, i64_w, i32_w]
                rfl
              refine pure_ (i := 3) (N := some 41) (v := ?_) (a' := ?_) #[true, true, true, true, false, false, false, false, false, false, false, false] rfl rfl (by kernel_rfl) (fun _ _ _ h => h) (Or.inl ⟨by rfl, ?_⟩) ?_ ?_
              rotate_left
              · intro w'
                go_simp
                with_reducible rfl
              rotate_left
              · simp only [Act.put, List.setIfInBounds_toArray, List.set_cons_zero, List.set_cons_succ, i64_w, i32_w]
                rfl
              refine pure_ (i := 7) (N := some 45) (v := ?_) (a' := ?_) #[true, true, true, true, false, false, false, true, false, false, false, false] rfl rfl (by kernel_rfl) (fun _ _ _ h => h) (Or.inl ⟨by rfl, ?_⟩) ?_ ?_
              rotate_left
              · intro w'
                go_simp
                with_reducible rfl
              rotate_left
              · simp only [Act.put, List.setIfInBounds_toArray, List.set_cons_zero, List.set_cons_succ, i64_w, i32_w]
                rfl
              refine pure_ (i := 8) (N := some 46) (v := ?_) (a' := ?_) #[true, true, true, true, false, false, false, true, true, false, false, false] rfl rfl (by kernel_rfl) (fun _ _ _ h => h) (Or.inl ⟨by rfl, ?_⟩) ?_ ?_
              rotate_left
              · intro w'
                go_simp
                with_reducible rfl
              rotate_left
              · simp only [Act.put, List.setIfInBounds_toArray, List.set_cons_zero, List.set_cons_succ, i64_w, i32_w]
                rfl
              refine pure_ (i := 9) (N := some 47) (v := ?_) (a' := ?_) #[true, true, true, true, false, false, false, true, true, true, false, false] rfl rfl (by kernel_rfl) (fun _ _ _ h => h) (Or.inl ⟨by rfl, ?_⟩) ?_ ?_
              rotate_left
              · intro w'
                go_simp
                with_reducible rfl
              rotate_left
              · simp only [Act.put, List.setIfInBounds_toArray, List.set_cons_zero, List.set_cons_succ, i64_w, i32_w]
                rfl
              refine take_ (i := 4) (N := some 42) (v := ?_) (a' := ?_) #[true, true, true, true, true, false, false, true, true, true, false, false] rfl rfl (by kernel_rfl) (fun _ _ _ h => h) (Or.inl ⟨by rfl, ?_⟩) hHeld ?_ ?_
              rotate_left
              · rintro w' ⟨s0, s1⟩
                go_simp
                with_reducible rfl
              rotate_left
              · simp only [Act.put, List.setIfInBounds_toArray, List.set_cons_zero, List.set_cons_succ, i64_w, i32_w]
                rfl
              refine take_ (i := 10) (N := some 48) (v := ?_) (a' := ?_) #[true, true, true, true, true, false, false, true, true, true, true, false] rfl rfl (by kernel_rfl) (fun _ _ _ h => h) (Or.inl ⟨by rfl, ?_⟩) hHeld ?_ ?_
              rotate_left
              · rintro w' ⟨s0, s1⟩
                go_simp
                with_reducible rfl
              rotate_left
              · simp only [Act.put, List.setIfInBounds_toArray, List.set_cons_zero, List.set_cons_succ, i64_w, i32_w]
                rfl
              refine one_ (i := 5) (N := some 43) #[true, true, true, true, true, true, false, true, true, true, true, false] rfl rfl (by kernel_rfl) (by decide) (fun K hK => ?_)
              refine goes_ Try.func13 (by kernel_rfl) rfl #[.pointer (some ⟨g, 0, none⟩), .int .i64 fl] (by rfl) rfl rfl (by simp only [List.map_toArray, List.map_cons, List.map_nil]; rfl) ?_
              with_reducible refine (ref_Above fl base g M most fl rev _ (RSt.of BKd.out HG.out HRd.out) HML.out).mono ?_
              rintro e w3 ⟨v3, rfl, hR3, hb3⟩
              refine ⟨_, rfl, ?_⟩
              obtain ⟨A3, c3, rfl⟩ := Kd.R_slice hR3
              rw [HN.out]
              have BK3 := Aside0.mk (blk_below BKd.out hb3)
              have HB3 := Aside0.mk (HBd.out.trans (below_less hb3 (Nat.le_trans HG.out (Nat.le_of_lt (blk_lt BKd.out)))))
              have HR3 := Aside0.mk (Kd.R_below HRd.out hb3)
              have HK3 := Aside0.mk (HKd.out.trans (Keeps.below hb3))
              clear hb3 hR3
              refine hK.out _ _ ⟨(blk_cell BK3.out 1).trans rfl, (blk_cell BK3.out 2).trans rfl⟩ (fun hHeld => ?_)
              clear hK K
              refine norm_ (a' := ?_) ?_ ?_
              rotate_left
              · show Act.put _ (some 43) _ = _
                simp only [Act.put, List.setIfInBounds_toArray, List.set_cons_zero, List.set_cons_succ, i64_w, i32_w]
                rfl
              refine pure_ (i := 6) (N := some 44) (v := ?_) (a' := ?_) #[true, true, true, true, true, true, true, true, true, true, true, false] rfl rfl (by kernel_rfl) (fun _ _ _ h => h) (Or.inl ⟨by rfl, ?_⟩) ?_ ?_
              rotate_left
              · intro w'
                go_simp
                with_reducible rfl
              rotate_left
              · simp only [Act.put, List.setIfInBounds_toArray, List.set_cons_zero, List.set_cons_succ, i64_w, i32_w]
                rfl
              refine pure_ (i := 11) (N := some 49) (v := ?_) (a' := ?_) #[true, true, true, true, true, true, true, true, true, true, true, true] rfl rfl (by kernel_rfl) (fun _ _ _ h => h) (Or.inl ⟨by rfl, ?_⟩) ?_ ?_
              rotate_left
              · intro w'
                go_simp
                with_reducible rfl
              rotate_left
              · simp only [Act.put, List.setIfInBounds_toArray, List.set_cons_zero, List.set_cons_succ, i64_w, i32_w]
                rfl
              refine done_ (by kernel_rfl) ?_
              go_wp2
              go_ret
              exact ⟨rfl, ⟨_, BK3.out, HG.out, HR3.out⟩, HB3.out, HK3.out⟩
def c55 (x : S51) : S55 := ⟨x.f0, x.f1, x.f2⟩
def c57 (x : S53) : S57 := ⟨x.f0, c55 x.f1⟩
def Srt (L : List S53) : Prop := L.Pairwise (fun x y => x.f0 ≤ y.f0)
theorem drop_cAb (r : Int) : ∀ (L : List S53), Srt L → (L.map c57).drop (cAb (L.map c57) r) = (rAb L r).map c57
  | [], _ => rfl
  | x :: t, h => by
    have ht : Srt t := (List.pairwise_cons.mp h).2
    have ih := drop_cAb r t ht
    unfold cAb rAb at *
    rw [List.map_cons, List.takeWhile_cons, List.filter_cons]
    by_cases hx : x.f0 > r
    · have hxb : decide (x.f0 > r) = true := decide_eq_true hx
      have hall : t.filter (fun y => decide (y.f0 > r)) = t := by
        rw [List.filter_eq_self]
        intro y hy
        have := (List.pairwise_cons.mp h).1 y hy
        exact decide_eq_true (by omega)
      have e : (!decide ((c57 x).f0 > r)) = false := by show (!decide (x.f0 > r)) = false; rw [hxb]; rfl
      rw [e, if_pos hxb, hall]
      rfl
    · have hxb : decide (x.f0 > r) = false := decide_eq_false hx
      have e : (!decide ((c57 x).f0 > r)) = true := by show (!decide (x.f0 > r)) = true; rw [hxb]; rfl
      rw [e, if_pos rfl, if_neg (by rw [hxb]; decide)]
      exact ih
theorem rAb_rAb (L : List S53) (f r : Int) (h : f ≤ r) : rAb (rAb L f) r = rAb L r := by
  unfold rAb
  rw [List.filter_filter]
  refine List.filter_congr (fun y _ => ?_)
  by_cases h1 : y.f0 > r
  · have h2 : y.f0 > f := by omega
    simp [h1, h2]
  · simp [h1]
theorem rAb_srt {L : List S53} (h : Srt L) (f : Int) : Srt (rAb L f) := List.Pairwise.filter _ h
theorem drop_ab (L : List S53) (h : Srt L) (f r : Int) (hf : f ≤ r) : ((rAb L f).map c57).drop (cAb ((rAb L f).map c57) r) = (rAb L r).map c57 := by
  rw [drop_cAb r _ (rAb_srt h f), rAb_rAb L f r hf]
theorem rd57_map (L : List S53) : (rd_T57 (L.map c57) 0).f0 = (rd_T53 L 0).f0 := by cases L <;> rfl
theorem rd53_in (L : List S53) (f : Int) (h : 0 < (rAb L f).length) : (rd_T53 (rAb L f) 0).f0 > f ∧ rd_T53 (rAb L f) 0 ∈ L := by
  have hr : rd_T53 (rAb L f) ((0 : Nat) : Int) = (rAb L f)[0] := rd53_at _ 0 h
  rw [show (0 : Int) = ((0 : Nat) : Int) from rfl, hr]
  have hm := List.getElem_mem h
  have := List.mem_filter.mp hm
  exact ⟨by simpa using this.2, this.1⟩
theorem trim_eq (most : Int) (hm : 0 < most) (L : List S53) (hs : Srt L) : ∀ (k : Nat) (f : Int), cTrim k most ((rAb L f).map c57) f = ((rAb L (rTrim k most L f)).map c57, rTrim k most L f)
  | 0, _ => rfl
  | k + 1, f => by
    unfold cTrim rTrim
    rw [List.length_map]
    by_cases h : ((rAb L f).length : Int) > most
    · rw [if_pos h, if_pos h, rd57_map]
      have hin := rd53_in L f (by omega)
      rw [drop_ab L hs f _ (by omega)]
      exact trim_eq most hm L hs k _
    · rw [if_neg h, if_neg h]
theorem trim_le (most : Int) (hm : 0 < most) (L : List S53) (b : Int) (hb : ∀ x ∈ L, x.f0 ≤ b) : ∀ (k : Nat) (f : Int), f ≤ b → f ≤ rTrim k most L f ∧ rTrim k most L f ≤ b
  | 0, f, h => ⟨Int.le_refl _, h⟩
  | k + 1, f, h => by
    unfold rTrim
    by_cases hc : ((rAb L f).length : Int) > most
    · rw [if_pos hc]
      have hin := rd53_in L f (by omega)
      have ih := trim_le most hm L b hb k _ (hb _ hin.2)
      omega
    · rw [if_neg hc]; exact ⟨Int.le_refl _, h⟩
structure CInv (n : Nat) (L : List S53) (most floor last : Int) : Prop where
  srt : Srt L
  le : ∀ x ∈ L, x.f0 ≤ last
  fl : floor ≤ last
  f0 : 0 ≤ floor
  mo : 0 < most
  len : L.length ≤ 6 * n
  la : last ≤ 8 * n
theorem rPut_ab (rv floor : Int) (L : List S53) (C : List S51) (h : floor < rv) : (rAb (rPut rv L C) floor).map c57 = cPut rv ((rAb L floor).map c57) (C.map c55) := by
  unfold rPut cPut rAb
  rw [List.filter_append, List.map_append, List.map_map]
  congr 1
  rw [List.filter_eq_self.mpr (by
    intro x hx
    obtain ⟨y, _, rfl⟩ := List.mem_map.mp hx
    exact decide_eq_true h), List.map_map]
  rfl
theorem CInv.put {n : Nat} {L : List S53} {most floor last : Int} (h : CInv n L most floor last) (rv : Int) (C : List S51) (h1 : last < rv) (h2 : rv ≤ last + 8) (hC : C.length ≤ 6) (k : Nat) : CInv (n + 1) (rPut rv L C) most (rTrim k most (rPut rv L C) floor) rv := by
  have hb : ∀ x ∈ rPut rv L C, x.f0 ≤ rv := by
    intro x hx
    unfold rPut at hx
    rcases List.mem_append.mp hx with hx | hx
    · have := h.le x hx; omega
    · obtain ⟨y, _, rfl⟩ := List.mem_map.mp hx; exact Int.le_refl _
  have ht := trim_le most h.mo _ rv hb k floor (by have := h.fl; omega)
  refine ⟨?_, hb, ht.2, by have := h.f0; omega, h.mo, by rw [rPut_len]; have := h.len; omega, by have := h.la; omega⟩
  unfold Srt rPut
  rw [List.pairwise_append]
  refine ⟨h.srt, ?_, ?_⟩
  · rw [List.pairwise_map]
    exact List.pairwise_of_forall (fun _ _ => Int.le_refl _)
  · intro a ha b hb
    obtain ⟨y, _, rfl⟩ := List.mem_map.mp hb
    have := h.le a ha
    show a.f0 ≤ rv
    omega
theorem CInv.weak {n : Nat} {L : List S53} {most floor last : Int} (h : CInv n L most floor last) : CInv (n + 1) L most floor last := ⟨h.srt, h.le, h.fl, h.f0, h.mo, by have := h.len; omega, by have := h.la; omega⟩
def Cs (w : World) (base g g2 n : Nat) (L : List S53) (most floor last : Int) : Prop := CSt w base g ((rAb L floor).map c57) most floor last ∧ RSt w base g2 L most floor last ∧ CInv n L most floor last
theorem Cs.below {w w' : World} {base g g2 n : Nat} {L : List S53} {most floor last : Int} (h : Cs w base g g2 n L most floor last) (hb : Below w.heap.size w w') : Cs w' base g g2 n L most floor last := ⟨h.1.below hb, h.2.1.below hb, h.2.2⟩
theorem add_rv (last st : Int) (h0 : 0 ≤ last) (h1 : last ≤ 1000) : wrap64 (last + st.tmod 9) = last + st.tmod 9 ∧ last + st.tmod 9 ≤ last + 8 := by
  have h2 := Int.tmod_lt_of_pos st (show (0 : Int) < 9 by decide)
  have h3 : -9 < st.tmod 9 := by
    have := Int.tmod_lt_of_pos (-st) (show (0 : Int) < 9 by decide)
    rw [Int.neg_tmod] at this
    omega
  unfold wrap64
  omega
theorem six_step (L : List S51) (i : Nat) (h : i < L.length) : (L.take 6).take (i + 1) = if i < 6 then (L.take 6).take i ++ [rd_T51 L (i : Int)] else (L.take 6).take i := by
  split
  · rename_i h6
    rw [List.take_take, List.take_take, Nat.min_eq_left (by omega), Nat.min_eq_left (by omega)]
    exact take51 L i h
  · rw [List.take_take, List.take_take, Nat.min_eq_right (by omega), Nat.min_eq_right (by omega)]
theorem six_all (L : List S51) : (L.take 6).take L.length = L.take 6 := by
  rw [List.take_take]
  by_cases h : L.length ≤ 6
  · rw [Nat.min_eq_left h, List.take_length, List.take_of_length_le h]
  · rw [Nat.min_eq_right (by omega)]
theorem six_len (L : List S51) (i : Nat) : ((L.take 6).take i).length ≤ 6 := by rw [List.length_take, List.length_take]; omega
theorem put_eq (rv most floor : Int) (hm : 0 < most) (L : List S53) (S : List S51) (hf : floor < rv) (hs : Srt (rPut rv L S)) : cTrim (((rAb L floor).map c57).length + (S.map c55).length + 1) most (cPut rv ((rAb L floor).map c57) (S.map c55)) floor = ((rAb (rPut rv L S) (rTrim ((rAb (rPut rv L S) floor).length + 1) most (rPut rv L S) floor)).map c57, rTrim ((rAb (rPut rv L S) floor).length + 1) most (rPut rv L S) floor) := by
  have e := rPut_ab rv floor L S hf
  have el := congrArg List.length e
  rw [List.length_map, cPut_len] at el
  rw [← el, ← e]
  exact trim_eq most hm _ hs _ _
def addSt (n : Nat) (L : List S53) (most floor last st : Int) (O : List S51) : List S53 × Int × Int := if last + st.tmod 9 ≤ last then (L, floor, last) else (rPut (last + st.tmod 9) L (O.take 6), rTrim ((rAb (rPut (last + st.tmod 9) L (O.take 6)) floor).length + 1) most (rPut (last + st.tmod 9) L (O.take 6)) floor, last + st.tmod 9)
theorem cell_same {w w' : World} {p : Addr} {u : Value} (hb : w'.heap[p.block]? = w.heap[p.block]?) (hc : w.cell? p = some u) : w'.cell? p = some u := by
  rw [← hc]
  unfold World.cell?
  simp only [hb]
theorem clog_AddFN (F : Nat → Prop) (nn : Nat) (rev : Int) (AC : Option Addr) (cc cb : Nat) (C : List S55) (base g : Nat) (L : List S57) (most floor last : Int) (w : World) (hn : nn = C.length) (h : CStF F w base g L most floor last) (hF : ∀ k, F k → k < w.heap.size ∧ k ≠ g) (hC : Kd.R k55 55 w cb (fun _ => True) (.slice AC C.length cc) C) (hr : last < rev) (hm1 : 0 < most) (hlen : L.length ≤ 900) (hcl : C.length ≤ 6) :
    Calls Try.prog 20 #[.pointer (some ⟨g, 0, none⟩), .int .i64 rev, .slice AC nn cc] w fun e w' => e = .returned (.int .i64 0) ∧ CStF F w' base g (cTrim (L.length + C.length + 1) most (cPut rev L C) floor).1 most (cTrim (L.length + C.length + 1) most (cPut rev L C) floor).2 rev ∧ Below base w w' ∧ Keeps [62, 57] w w' ∧ KeepsF F w w' := by
  subst hn
  exact clog_AddF.yes F rev AC cc cb C base g L most floor last w h hF hC hr hm1 hlen hcl
theorem KeepsF.typed {F : Nat → Prop} {w a b : World} (hFT : ∀ k, F k → ∃ cs, w.heap[k]? = some (.cells cs 57 (0, 0))) (h : KeepsF F w a) (hk : Keeps [34, 53] a b) : KeepsF F w b := fun k hf => by
  obtain ⟨cs, hc⟩ := hFT k hf
  rw [hc]
  exact hk k cs 57 ((h k hf).trans hc) (by decide)
def CsF (F : Nat → Prop) (w : World) (base g g2 n : Nat) (L : List S53) (most floor last : Int) : Prop := CStF F w base g ((rAb L floor).map c57) most floor last ∧ RSt w base g2 L most floor last ∧ CInv n L most floor last
theorem CsF.below {F : Nat → Prop} {w w' : World} {base g g2 n : Nat} {L : List S53} {most floor last : Int} (h : CsF F w base g g2 n L most floor last) (hb : Below w.heap.size w w') : CsF F w' base g g2 n L most floor last := ⟨h.1.below hb, h.2.1.below hb, h.2.2⟩
theorem CsF.cs {F : Nat → Prop} {w : World} {base g g2 n : Nat} {L : List S53} {most floor last : Int} (h : CsF F w base g g2 n L most floor last) : Cs w base g g2 n L most floor last := ⟨h.1.c, h.2.1, h.2.2⟩
theorem Cs.toF {F : Nat → Prop} {w : World} {base g g2 n : Nat} {L : List S53} {most floor last : Int} (h : Cs w base g g2 n L most floor last) (hF : ∀ k, F k → w.heap.size ≤ k) : CsF F w base g g2 n L most floor last := by
  obtain ⟨⟨v, h1, h2, h3⟩, h4, h5⟩ := h
  exact ⟨⟨v, h1, h2, Kd.R_mono (Kd.R_bound h3) (fun k hk hf => by have := hk.2.2.1; have := hF k hf; omega)⟩, h4, h5⟩
theorem Cs.gl {w : World} {base g g2 n : Nat} {L : List S53} {most floor last : Int} (h : Cs w base g g2 n L most floor last) : g < w.heap.size := by
  obtain ⟨⟨v, h1, _, _⟩, _⟩ := h
  exact blk_lt h1
theorem C57_keep {w w' : World} {A : Option Addr} {n : Nat} {xs : List S57} (h : Kd.C k57 w A n xs) (hk : ∀ ad, 0 < n → A = some ad → w'.heap[ad.block]? = w.heap[ad.block]?) : Kd.C k57 w' A n xs := by
  refine ⟨h.1, h.2.1, fun hp => ?_⟩
  obtain ⟨ad, e, hc⟩ := h.2.2 hp
  refine ⟨ad, e, fun j p hj => ?_⟩
  obtain ⟨c, h1, h2, h3⟩ := hc j p hj
  refine ⟨c, h1, ?_, fun i u hi => ?_⟩
  · have := k57_open h2
    subst this
    exact k57_mk w' p
  · have hb := hk ad hp e
    have hc := h3 i u hi
    have hbl : (ad.add (j * k57.sz + i)).block = ad.block := by unfold Addr.add; split <;> rfl
    rw [← hbl] at hb
    exact cell_same hb hc
def XF (A : Option Addr) (n : Nat) : Nat → Prop := fun k => 0 < n ∧ ∃ ad, A = some ad ∧ ad.block = k
theorem XF.of {w : World} {b : Nat} {A : Option Addr} {n c : Nat} {xs : List S57} (h : Kd.R k57 57 w b (fun _ => True) (.slice A n c) xs) : (∀ k, XF A n k → b ≤ k ∧ k < w.heap.size) ∧ (∀ k, XF A n k → ∃ cs, w.heap[k]? = some (.cells cs 57 (0, 0))) := by
  have hn := (Kd.R_reads' h).1
  constructor
  · rintro k ⟨hp, ad, e, hk⟩
    obtain ⟨g, cap, he, h1, h2, _⟩ := Kd.R_form h (by omega)
    injection he with e1 _ _
    rw [e] at e1
    injection e1 with e1
    subst e1
    exact ⟨hk ▸ h1, hk ▸ h2⟩
  · rintro k ⟨hp, ad, e, hk⟩
    obtain ⟨g, cap, he, h1, h2, cells, hc⟩ := Kd.R_form h (by omega)
    injection he with e1 _ _
    rw [e] at e1
    injection e1 with e1
    subst e1
    exact ⟨cells, hk ▸ hc⟩
def Ext (L1 : List S53) (fl1 la1 : Int) (L2 : List S53) (fl2 la2 : Int) : Prop := (∃ N, L2 = L1 ++ N ∧ ∀ x ∈ N, la1 < x.f0) ∧ la1 ≤ la2 ∧ fl1 ≤ fl2
theorem Ext.refl (L : List S53) (fl la : Int) : Ext L fl la L fl la := ⟨⟨[], by simp, by simp⟩, Int.le_refl _, Int.le_refl _⟩
theorem Ext.add {L1 : List S53} {fl1 la1 : Int} {n : Nat} {L2 : List S53} {most fl2 la2 : Int} (h : Ext L1 fl1 la1 L2 fl2 la2) (hi : CInv n L2 most fl2 la2) (st : Int) (O : List S51) : Ext L1 fl1 la1 (addSt n L2 most fl2 la2 st O).1 (addSt n L2 most fl2 la2 st O).2.1 (addSt n L2 most fl2 la2 st O).2.2 := by
  unfold addSt
  by_cases hc : la2 + st.tmod 9 ≤ la2
  · rw [if_pos hc]; exact h
  · rw [if_neg hc]
    obtain ⟨⟨N, rfl, hN⟩, h1, h2⟩ := h
    have hrv := add_rv la2 st (by have := hi.f0; have := hi.fl; omega)
    refine ⟨⟨N ++ (O.take 6).map (fun x => (⟨la2 + st.tmod 9, x⟩ : S53)), by unfold rPut; rw [List.append_assoc], ?_⟩, by show la1 ≤ la2 + st.tmod 9; omega, ?_⟩
    · intro x hx
      rcases List.mem_append.mp hx with hx | hx
      · exact hN x hx
      · obtain ⟨y, _, rfl⟩ := List.mem_map.mp hx
        show la1 < la2 + st.tmod 9
        omega
    · have hle := (trim_le most hi.mo (rPut (la2 + st.tmod 9) (L1 ++ N) (O.take 6)) (la2 + st.tmod 9) (by
        intro x hx
        unfold rPut at hx
        rcases List.mem_append.mp hx with hx | hx
        · have := hi.le x hx; omega
        · obtain ⟨y, _, rfl⟩ := List.mem_map.mp hx; exact Int.le_refl _) ((rAb (rPut (la2 + st.tmod 9) (L1 ++ N) (O.take 6)) fl2).length + 1) fl2 (by have := hi.fl; omega)).1
      exact Int.le_trans h2 hle
theorem asked_9 {rev la1 fl2 la2 : Int} (h : rev ≤ la1) (h2 : la1 ≤ la2) (hne : cAsked rev fl2 la2 ≠ 0) : cAsked rev fl2 la2 = 9 := by
  unfold cAsked at *
  by_cases h1 : rev < fl2
  · rw [if_pos h1]
  · rw [if_neg h1, if_neg (by omega)] at hne; exact absurd rfl hne
theorem asked_le {rev fl la : Int} (h : cAsked rev fl la = 0) : rev ≤ la := by
  unfold cAsked at h
  by_cases h1 : rev < fl
  · rw [if_pos h1] at h; exact absurd h (by decide)
  · rw [if_neg h1] at h
    by_cases h2 : rev > la
    · rw [if_pos h2] at h; exact absurd h (by decide)
    · omega
theorem chain_eq {L1 : List S53} {fl1 la1 : Int} {L2 : List S53} {fl2 la2 : Int} (h : Ext L1 fl1 la1 L2 fl2 la2) (hl : ∀ x ∈ L1, x.f0 ≤ la1) (rev : Int) (hr : rev ≤ la1) : rAb L2 rev = rAb L1 rev ++ rAb L2 la1 := by
  obtain ⟨⟨N, rfl, hN⟩, _, _⟩ := h
  unfold rAb
  rw [List.filter_append, List.filter_append]
  have e1 : L1.filter (fun x => decide (x.f0 > la1)) = [] := List.filter_eq_nil_iff.mpr (fun x hx => by have := hl x hx; simp; omega)
  have e2 : N.filter (fun x => decide (x.f0 > la1)) = N := List.filter_eq_self.mpr (fun x hx => decide_eq_true (hN x hx))
  have e3 : N.filter (fun x => decide (x.f0 > rev)) = N := List.filter_eq_self.mpr (fun x hx => decide_eq_true (by have := hN x hx; omega))
  rw [e1, e2, e3, List.nil_append]
def kF (key : ByteArray) (L : List S53) : List S57 := (L.map c57).filter (fun x => x.f1.f0.toList == key.toList)
theorem kF_app (key : ByteArray) (A B : List S53) : kF key (A ++ B) = kF key A ++ kF key B := by unfold kF; rw [List.map_append, List.filter_append]
theorem kF_len (key : ByteArray) (L : List S53) : (kF key L).length ≤ L.length := by unfold kF; refine Nat.le_trans (List.length_filter_le _ _) ?_; rw [List.length_map]; exact Nat.le_refl _
theorem istep {i n k m : Nat} (h : i + (k + 1) = m + 1 ∧ i ≤ m ∧ n ≤ 12 ∧ n ≤ i) (c : (i : Int) < (m : Int)) (c12 : i < 12) : (i + 1) + k = m + 1 ∧ i + 1 ≤ m ∧ n + 1 ≤ 12 ∧ n + 1 ≤ i + 1 := by omega
theorem istep0 {i n k m : Nat} (h : i + (k + 1) = m + 1 ∧ i ≤ m ∧ n ≤ 12 ∧ n ≤ i) (c : (i : Int) < (m : Int)) : (i + 1) + k = m + 1 ∧ i + 1 ≤ m ∧ n ≤ 12 ∧ n ≤ i + 1 := by omega
theorem jstepA {i n k m : Nat} (h : i + (k + 1) = m + 1 ∧ i ≤ m ∧ n ≤ 24 ∧ n ≤ 12 + i) (c : (i : Int) < (m : Int)) (c12 : i < 12) : (i + 1) + k = m + 1 ∧ i + 1 ≤ m ∧ n + 1 ≤ 24 ∧ n + 1 ≤ 12 + (i + 1) := by omega
theorem jstepB {i n k m : Nat} (h : i + (k + 1) = m + 1 ∧ i ≤ m ∧ n ≤ 24 ∧ n ≤ 12 + i) (c : (i : Int) < (m : Int)) : (i + 1) + k = m + 1 ∧ i + 1 ≤ m ∧ n ≤ 24 ∧ n ≤ 12 + (i + 1) := by omega
theorem clog_NextAny (rev : Int) (base g : Nat) (L : List S57) (most floor last : Int) (key : ByteArray) (b : Nat) (w : World) (hcb : w.cell? ⟨b, 0, none⟩ = some (.string key)) (h : CSt w base g L most floor last) (hlen : L.length ≤ 1000) : Calls Try.prog 18 #[.pointer (some ⟨g, 0, none⟩), .int .i64 rev, .func (.func 25) #[] #[.pointer (some ⟨b, 0, none⟩)]] w fun e w' => ∃ v t f, e = .returned (.tuple #[v, .int .i64 t, .int .i64 f]) ∧ Below w.heap.size w w' := by
  by_cases he : cAsked rev floor last = 0
  · refine (clog_Next.fits rev base g L most floor last key b w hcb h hlen he).mono ?_
    rintro e w' ⟨v, rfl, _, hb⟩
    exact ⟨v, _, _, rfl, hb⟩
  · refine (clog_Next.no _ rev base g L most floor last w h he).mono ?_
    rintro e w' ⟨rfl, hb⟩
    exact ⟨_, _, _, rfl, hb⟩
set_option maxHeartbeats 8000000 in
set_option maxRecDepth 100000 in
theorem law_addF (F : Nat → Prop) (base g g2 n : Nat) (st : Int) (AL : Option Addr) (cL : Nat) (O : List S51) (L : List S53) (most floor last : Int) (w : World) (h : CsF F w base g g2 n L most floor last) (hF : ∀ k, F k → k < w.heap.size ∧ k ≠ g) (hFT : ∀ k, F k → ∃ cs, w.heap[k]? = some (.cells cs 57 (0, 0))) (hn : n ≤ 60) (hO : Kd.C k51 w AL O.length O) (hol : O.length ≤ 9223372036854775807) :
    Calls Try.prog 9 #[.pointer (some ⟨g, 0, none⟩), .pointer (some ⟨g2, 0, none⟩), .agg #[.int .i64 st, .slice AL O.length cL]] w fun e w' => e = .returned (.bool true) ∧ CsF F w' base g g2 (n + 1) (addSt n L most floor last st O).1 most (addSt n L most floor last st O).2.1 (addSt n L most floor last st O).2.2 ∧ Below base w w' ∧ KeepsF F w w' := by
  have HF := Aside0.mk hF
  have HFT := Aside0.mk hFT
  clear hF hFT
  have hu29 := Try.underlying29
  have hu51 := Try.underlying51
  have hu55 := Try.underlying55
  have hu27 := Try.underlying27
  have hu34 := Try.underlying34
  have hu25 := Try.underlying25
  have HBASE := Aside0.mk h.1.c.base
  have HI0 := h.2.2
  have HINV := Aside0.mk HI0
  have hrv := add_rv last st (by have := HI0.f0; have := HI0.fl; omega) (by have := HI0.la; omega)
  have HH := Aside0.mk h
  have HO := Aside0.mk hO
  have HOLN := Aside0.mk hol
  have HNN := Aside0.mk hn
  clear h hO hol HI0 hn
  unfold addSt
  obtain ⟨rv, hrv0⟩ : ∃ rv, last + st.tmod 9 = rv := ⟨_, rfl⟩
  rw [hrv0] at hrv ⊢
  have hwv : wrap64 (last + st.tmod 9) = rv := by rw [hrv0]; exact hrv.1
  have HRV := Aside0.mk hrv.2
  clear hrv hrv0
  obtain ⟨S6, hS6⟩ : ∃ S, O.take 6 = S := ⟨_, rfl⟩
  have HS6 := Aside0.mk hS6
  rw [hS6]
  clear hS6
  obtain ⟨RS, hRS⟩ : ∃ R, (if rv ≤ last then (L, floor, last) else (rPut rv L S6, rTrim ((rAb (rPut rv L S6) floor).length + 1) most (rPut rv L S6) floor, rv)) = R := ⟨_, rfl⟩
  rw [hRS]
  have HRS := Aside0.mk hRS
  clear hRS
  go_enter Try.func9, Try.ntmps9
  go_wp2
  have hBW := below_alloc (Below.refl w.heap.size w) (.cells #[.int .i64 st, .slice AL O.length cL] 29)
  have HB1 := Aside0.mk hBW
  have BB0 := blk_new w (.cells #[.int .i64 st, .slice AL O.length cL] 29)
  have HO1 := Aside0.mk (Kd.C_below HO.out hBW)
  obtain ⟨b, hb⟩ : ∃ b, w.heap.size = b := ⟨_, rfl⟩
  clear hBW
  rw [hb] at BB0 ⊢
  have BB1 := Aside0.mk BB0
  clear BB0
  obtain ⟨w1, hw1⟩ : ∃ w1, w.alloc (.cells #[.int .i64 st, .slice AL O.length cL] 29) = w1 := ⟨_, rfl⟩
  rw [hw1] at HB1 BB1 HO1 ⊢
  clear hw1
  go_loopg [15, 7, 8] (O.length + 1) (fun kq v15 v7 v8 wr => ∃ (i : Nat), v15 = .int .i64 (i : Int) ∧ Kd.R k55 55 wr w1.heap.size (fun _ => True) v7 ((S6.take i).map c55) ∧ Kd.R k51 51 wr w1.heap.size (fun _ => True) v8 (S6.take i) ∧ Aside0 (i + kq = O.length + 1 ∧ i ≤ O.length) ∧ Aside0 (Below w1.heap.size w1 wr))
  case atStart => exact ⟨0, rfl, Kd.R_nil _ _ _ _ _, Kd.R_nil _ _ _ _ _, ⟨by omega, by omega⟩, ⟨Below.refl _ _⟩⟩
  case round =>
    obtain ⟨i, rfl, hRc, hRw, HI, HW⟩ := hrel
    obtain ⟨Ac, cc, rfl⟩ := Kd.R_slice hRc
    obtain ⟨Aw, cw, rfl⟩ := Kd.R_slice hRw
    have HRC := Aside0.mk hRc
    have HRW := Aside0.mk hRw
    clear hRc hRw
    cases gk with
    | zero => have := HI.out; omega
    | succ k1 =>
      by_cases c2 : (i : Int) < (O.length : Int)
      · have c2b : decide ((i : Int) < (O.length : Int)) = true := decide_eq_true c2
        have p2 : (0 : Int) ≤ (i : Int) := by omega
        obtain ⟨ad2, e2, hx0, hx1, hx2⟩ := at_T51 (Kd.C_below HO1.out HW.out) (i : Int) p2 c2
        cases e2
        have p2t : ((0 : Int) ≤ (i : Int)) = True := eq_true p2
        have q2t : ((i : Int) < (O.length : Int)) = True := eq_true c2
        have q2n : (i < O.length) = True := eq_true (by omega)
        simp only [Int.toNat_natCast] at hx0 hx1 hx2
        have hw2 : wrap64 ((i : Int) + 1) = ((i + 1 : Nat) : Int) := by have := HOLN.out; unfold wrap64; omega
        have hst := six_step O i (by omega)
        rw [HS6.out] at hst
        have hol6 := six_len O i
        rw [HS6.out] at hol6
        obtain ⟨x, hx⟩ : ∃ x, rd_T51 O (i : Int) = x := ⟨_, rfl⟩
        rw [hx] at hx0 hx1 hx2 hst
        clear hx
        obtain ⟨OO, hOO⟩ : ∃ OO, S6.take i = OO := ⟨_, rfl⟩
        rw [hOO] at hst hol6 HRC HRW ⊢
        have HST := Aside0.mk hst
        have HOL := Aside0.mk hol6
        clear hst hol6 hOO
        have hbx := blk_new wr (.cells #[.string x.f0, .string x.f1, .bool x.f2] 51)
        obtain ⟨bx, hbx2⟩ : ∃ bx, wr.heap.size = bx := ⟨_, rfl⟩
        have HBD := Aside0.mk (below_alloc HW.out (.cells #[.string x.f0, .string x.f1, .bool x.f2] 51))
        have HCD := Aside0.mk (Kd.R_alloc HRC.out (.cells #[.string x.f0, .string x.f1, .bool x.f2] 51))
        have HWD := Aside0.mk (Kd.R_alloc HRW.out (.cells #[.string x.f0, .string x.f1, .bool x.f2] 51))
        by_cases h6 : i < 6
        · have h6b : decide ((i : Int) < 6) = true := decide_eq_true (by omega)
          rw [if_pos h6] at HST
          rw [hbx2] at hbx
          have BXD := Aside0.mk hbx
          clear hbx
          go_wp2_with (first | ((with_reducible refine gate_builtin (b := .append) (xs := #[.tmp 22, .tmp 30]) rfl ?_); at_builtin; refine Kd.R_append k55 (w0 := w1) w1.heap.size rfl (.tmp 22) (.tmp 30) 63 55 (.agg #[.string ⟨#[]⟩, .string ⟨#[]⟩, .bool false]) 40 rfl Try.underlying63 info55 rfl (by decide) (by omega) (.slice Ac (OO.map c55).length cc) (OO.map c55) (c55 x) [.string x.f0, .string x.f1, .bool x.f2] (fun _ => True) (fun _ => False) rfl ?aH (k55_mkM _ _ _ (c55 x)) (fun _ hk => hk.elim) (fun _ _ => trivial) HCD.out HBD.out HBD.out.size (by have := HOL.out; rw [List.length_map]; omega) ?_; (case aH => first | rfl | (go_simp; done) | (go_simp; rfl) | simp); intro v4 w4 ho hbb hg3 hat; obtain ⟨A4, c4, rfl⟩ := Kd.R_slice ho; have HC4 := Aside0.mk ho; have HB4 := Aside0.mk hbb; have HW4 := Aside0.mk (R_keeps HWD.out (Keeps.grown (T := [55]) HCD.out (by decide) hg3) (by decide)); have BX4 := Aside0.mk (blk_grown (g := bx) BXD.out hg3 (Kd.R_ne HCD.out BXD.out (by decide))); clear ho hbb hg3 hat; have hy0 := blk_cell BX4.out 0; have hy1 := blk_cell BX4.out 1; have hy2 := blk_cell BX4.out 2) | ((with_reducible refine gate_builtin (b := .append) (xs := #[.tmp 32, .tmp 34]) rfl ?_); at_builtin; refine Kd.R_append k51 (w0 := w1) w1.heap.size rfl (.tmp 32) (.tmp 34) 27 51 (.agg #[.string ⟨#[]⟩, .string ⟨#[]⟩, .bool false]) 40 rfl Try.underlying27 info51 rfl (by decide) (by omega) (.slice Aw OO.length cw) OO x [.string x.f0, .string x.f1, .bool x.f2] (fun _ => True) (fun _ => False) rfl ?aH (k51_mkM _ _ _ x) (fun _ hk => hk.elim) (fun _ _ => trivial) HW4.out HB4.out HB4.out.size (by have := HOL.out; omega) ?_; (case aH => first | rfl | (go_simp; done) | (go_simp; rfl) | simp); intro v5 w5 ho hbb hg3 hat; obtain ⟨A5, c5, rfl⟩ := Kd.R_slice ho; have HW5 := Aside0.mk ho; have HB5 := Aside0.mk hbb; have HC5 := Aside0.mk (R_keeps HC4.out (Keeps.grown (T := [51]) HW4.out (by decide) hg3) (by decide)); clear ho hbb hg3 hat hy0 hy1 hy2) | fail)
          go_roundg k1
          case measure => omega
          case rel => exact ⟨i + 1, by first | rw [hw2] | simp, by rw [HST.out, List.map_append]; have q := HC5.out; rw [List.length_append, List.length_map, List.length_singleton] at q; exact q, by rw [HST.out]; have q := HW5.out; rw [List.length_append, List.length_singleton] at q; exact q, ⟨by have := HI.out; omega, by omega⟩, ⟨HB5.out⟩⟩
        · have h6b : decide ((i : Int) < 6) = false := decide_eq_false (by omega)
          rw [if_neg h6] at HST
          clear hbx hbx2
          go_wp2_with fail
          go_roundg k1
          case measure => omega
          case rel => exact ⟨i + 1, by first | rw [hw2] | simp, by rw [HST.out]; have q := HCD.out; rw [List.length_map] at q; exact q, by rw [HST.out]; exact HWD.out, ⟨by have := HI.out; omega, by omega⟩, ⟨HBD.out⟩⟩
      · have c2b : decide ((i : Int) < (O.length : Int)) = false := decide_eq_false c2
        have hi : i = O.length := by have := HI.out; omega
        subst hi
        have hsa := six_all O
        rw [HS6.out] at hsa
        rw [hsa] at HRC HRW ⊢
        have HX := Aside0.mk ((HH.out.below HB1.out).below HW.out)
        obtain ⟨vg, hbg, _, _⟩ := HX.out.2.1
        have BG := Aside0.mk hbg
        have BB := Aside0.mk (blk_below BB1.out HW.out)
        have HWW := Aside0.mk (HB1.out.trans (below_less HW.out HB1.out.size))
        clear hbg hsa HW
        go_upto_region 10 with fail
        refine start_ (n := 9) (S := fun w' => w'.cell? ⟨g2, 3, none⟩ = some (.int .i64 last) ∧ w'.cell? ⟨b, 0, none⟩ = some (.int .i64 st)) (ds := []) #[false, false, false, false, false, false, false, false, false] (by kernel_rfl) rfl rfl ⟨(blk_cell BG.out 3).trans rfl, (blk_cell BB.out 0).trans rfl⟩ (fun hHeld => ?_)
        have HXd_ := HX.out.below (below_drew (Below.refl _ _))
        have HRCd_ := Kd.R_drew HRC.out
        have HRWd_ := Kd.R_drew HRW.out
        have HWd_ := below_drew HWW.out
        have BGd_ := blk_drew BG.out
        have BBd_ := blk_drew BB.out
        clear HX HRC HRW HWW BG BB
        generalize wr.drew = wd at HXd_ HRCd_ HRWd_ HWd_ BGd_ BBd_ hHeld ⊢
        have HXd := Aside0.mk HXd_
        clear HXd_
        have HRCd := Aside0.mk HRCd_
        clear HRCd_
        have HRWd := Aside0.mk HRWd_
        clear HRWd_
        have HWd := Aside0.mk HWd_
        clear HWd_
        have BGd := Aside0.mk BGd_
        clear BGd_
        have BBd := Aside0.mk BBd_
        clear BBd_
        refine pure_ (i := 0) (N := some 37) (v := ?_) (a' := ?_) #[true, false, false, false, false, false, false, false, false] rfl rfl (by kernel_rfl) (fun _ _ _ h => h) (Or.inl ⟨by rfl, ?_⟩) ?_ ?_
        rotate_left
        · intro w'
          go_simp
          with_reducible rfl
        rotate_left
        · simp only [Act.put, List.setIfInBounds_toArray, List.set_cons_zero, List.set_cons_succ, i64_w, i32_w]
          rfl
        refine pure_ (i := 1) (N := some 38) (v := ?_) (a' := ?_) #[true, true, false, false, false, false, false, false, false] rfl rfl (by kernel_rfl) (fun _ _ _ h => h) (Or.inl ⟨by rfl, ?_⟩) ?_ ?_
        rotate_left
        · intro w'
          go_simp
          with_reducible rfl
        rotate_left
        · simp only [Act.put, List.setIfInBounds_toArray, List.set_cons_zero, List.set_cons_succ, i64_w, i32_w]
          rfl
        refine pure_ (i := 2) (N := some 39) (v := ?_) (a' := ?_) #[true, true, true, false, false, false, false, false, false] rfl rfl (by kernel_rfl) (fun _ _ _ h => h) (Or.inl ⟨by rfl, ?_⟩) ?_ ?_
        rotate_left
        · intro w'
          go_simp
          with_reducible rfl
        rotate_left
        · simp only [Act.put, List.setIfInBounds_toArray, List.set_cons_zero, List.set_cons_succ, i64_w, i32_w]
          rfl
        refine pure_ (i := 4) (N := some 41) (v := ?_) (a' := ?_) #[true, true, true, false, true, false, false, false, false] rfl rfl (by kernel_rfl) (fun _ _ _ h => h) (Or.inl ⟨by rfl, ?_⟩) ?_ ?_
        rotate_left
        · intro w'
          go_simp
          with_reducible rfl
        rotate_left
        · simp only [Act.put, List.setIfInBounds_toArray, List.set_cons_zero, List.set_cons_succ, i64_w, i32_w]
          rfl
        refine take_ (i := 3) (N := some 40) (v := ?_) (a' := ?_) #[true, true, true, true, true, false, false, false, false] rfl rfl (by kernel_rfl) (fun _ _ _ h => h) (Or.inl ⟨by rfl, ?_⟩) hHeld ?_ ?_
        rotate_left
        · rintro w' ⟨s0, s1⟩
          go_simp
          with_reducible rfl
        rotate_left
        · simp only [Act.put, List.setIfInBounds_toArray, List.set_cons_zero, List.set_cons_succ, i64_w, i32_w]
          rfl
        refine take_ (i := 5) (N := some 42) (v := ?_) (a' := ?_) #[true, true, true, true, true, true, false, false, false] rfl rfl (by kernel_rfl) (fun _ _ _ h => h) (Or.inl ⟨by rfl, ?_⟩) hHeld ?_ ?_
        rotate_left
        · rintro w' ⟨s0, s1⟩
          go_simp
          with_reducible rfl
        rotate_left
        · simp only [Act.put, List.setIfInBounds_toArray, List.set_cons_zero, List.set_cons_succ, i64_w, i32_w]
          rfl
        refine pure_ (i := 6) (N := some 43) (v := ?_) (a' := ?_) #[true, true, true, true, true, true, true, false, false] rfl rfl (by kernel_rfl) (fun _ _ _ h => h) (Or.inl ⟨by rfl, ?_⟩) ?_ ?_
        rotate_left
        · intro w'
          go_simp
          with_reducible rfl
        rotate_left
        · simp only [Act.put, List.setIfInBounds_toArray, List.set_cons_zero, List.set_cons_succ, i64_w, i32_w]
          rfl
        refine pure_ (i := 7) (N := some 44) (v := ?_) (a' := ?_) #[true, true, true, true, true, true, true, true, false] rfl rfl (by kernel_rfl) (fun _ _ _ h => h) (Or.inl ⟨by rfl, ?_⟩) ?_ ?_
        rotate_left
        · intro w'
          go_simp
          with_reducible rfl
        rotate_left
        · simp only [Act.put, List.setIfInBounds_toArray, List.set_cons_zero, List.set_cons_succ, i64_w, i32_w]
          rfl
        refine pure_ (i := 8) (N := some 11) (v := ?_) (a' := ?_) #[true, true, true, true, true, true, true, true, true] rfl rfl (by kernel_rfl) (fun _ _ _ h => h) (Or.inl ⟨by rfl, ?_⟩) ?_ ?_
        rotate_left
        · intro w'
          go_simp
          with_reducible rfl
        rotate_left
        · simp only [Act.put, List.setIfInBounds_toArray, List.set_cons_zero, List.set_cons_succ, i64_w, i32_w]
          rfl
        refine done_ (by kernel_rfl) ?_
        by_cases hle : rv ≤ last
        · have hrs := HRS.out
          rw [if_pos hle] at hrs
          subst hrs
          go_wp2_with (first | (go_at_call 20; refine (clog_Add.no rv _ base g _ most floor last _ HXd.out.1.c hle).mono ?_; rintro e w3 ⟨rfl, hb3⟩; have HX3 := Aside0.mk (HXd.out.below hb3); have HB3 := Aside0.mk (below_step HWd.out hb3); clear hb3) | (go_at_call 21; refine (ref_Add.no rv _ base g2 L most floor last _ HX3.out.2.1 hle).mono ?_; rintro e w4 ⟨rfl, hb4⟩; have HX4 := Aside0.mk (HX3.out.below hb4); have HB4 := Aside0.mk (below_step HB3.out hb4); clear hb4) | fail)
          go_ret
          exact ⟨rfl, ⟨HX4.out.1, HX4.out.2.1, HX4.out.2.2.weak⟩, below_less HB4.out (hb ▸ HBASE.out), fun k hf => HB4.out.block k (HF.out k hf).1⟩
        · have hrs := HRS.out
          rw [if_neg hle] at hrs
          subst hrs
          have hlt : last < rv := by omega
          have hpi := HINV.out.put rv S6 hlt HRV.out (by have := six_len O O.length; rw [six_all, HS6.out] at this; exact this) ((rAb (rPut rv L S6) floor).length + 1)
          have hpe := put_eq rv most floor HINV.out.mo L S6 (by have := HINV.out.fl; omega) hpi.srt
          have HPI := Aside0.mk hpi
          have HLA := Aside0.mk (show ((rAb L floor).map c57).length ≤ 900 by rw [List.length_map]; have := rAb_le L floor; have := HINV.out.len; have := HNN.out; omega)
          have HLA2 := Aside0.mk (show L.length ≤ 900 by have := HINV.out.len; have := HNN.out; omega)
          have HS6L := Aside0.mk (show S6.length ≤ 6 by have := six_len O O.length; rw [six_all, HS6.out] at this; exact this)
          obtain ⟨FV, hF⟩ : ∃ FV, rTrim ((rAb (rPut rv L S6) floor).length + 1) most (rPut rv L S6) floor = FV := ⟨_, rfl⟩
          rw [hF] at hpe HPI
          have HPE := Aside0.mk hpe
          have HFF := Aside0.mk hF
          clear hpi hpe hF
          go_wp2_with (first | (go_at_call 20; refine (clog_AddFN F _ rv Ac cc w1.heap.size (S6.map c55) base g _ most floor last _ (List.length_map ..).symm HXd.out.1 (fun k hf => ⟨Nat.lt_of_lt_of_le (HF.out k hf).1 HWd.out.size, (HF.out k hf).2⟩) HRCd.out hlt HINV.out.mo HLA.out (by rw [List.length_map]; exact HS6L.out)).mono ?_; rintro e w3 ⟨rfl, hX3, hb3, hk3, hkf3⟩; rw [HPE.out] at hX3; have HKF3 := Aside0.mk (KeepsF.trans (fun k hf => HWd.out.block k (HF.out k hf).1) hkf3); have HX3 := Aside0.mk hX3; have HY3 := Aside0.mk (HXd.out.2.1.keeps hk3); have HRW3 := Aside0.mk (R_keeps HRWd.out hk3 (by decide)); have HB3 := Aside0.mk ((below_less HWd.out (hb ▸ HBASE.out)).trans hb3); clear hb3 hX3 hk3 hkf3) | (go_at_call 21; refine (ref_Add.yes rv Aw cw w1.heap.size S6 base g2 L most floor last _ HY3.out HRW3.out hlt HINV.out.mo HLA2.out HS6L.out).mono ?_; rintro e w4 ⟨rfl, hX4, hb4, hk4⟩; have HY4 := Aside0.mk hX4; have HX4 := Aside0.mk (HX3.out.keeps hk4); have HB4 := Aside0.mk (HB3.out.trans hb4); have HKF4 := Aside0.mk (KeepsF.typed HFT.out HKF3.out hk4); clear hb4 hk4 hX4) | fail)
          go_ret
          rw [HFF.out]
          exact ⟨rfl, ⟨HX4.out, HFF.out ▸ HY4.out, HPI.out⟩, HB4.out, HKF4.out⟩
theorem law_add (base g g2 n : Nat) (st : Int) (AL : Option Addr) (cL : Nat) (O : List S51) (L : List S53) (most floor last : Int) (w : World) (h : Cs w base g g2 n L most floor last) (hn : n ≤ 60) (hO : Kd.C k51 w AL O.length O) (hol : O.length ≤ 9223372036854775807) :
    Calls Try.prog 9 #[.pointer (some ⟨g, 0, none⟩), .pointer (some ⟨g2, 0, none⟩), .agg #[.int .i64 st, .slice AL O.length cL]] w fun e w' => e = .returned (.bool true) ∧ Cs w' base g g2 (n + 1) (addSt n L most floor last st O).1 most (addSt n L most floor last st O).2.1 (addSt n L most floor last st O).2.2 ∧ Below base w w' ∧ KeepsF (fun _ => False) w w' := by
  refine (law_addF (fun _ => False) base g g2 n st AL cL O L most floor last w (Cs.toF h (fun _ hf => hf.elim)) (fun _ hf => hf.elim) (fun _ hf => hf.elim) hn hO hol).mono ?_
  rintro e w' ⟨he, hs, hb, hk⟩
  exact ⟨he, hs.cs, hb, hk⟩
theorem Cs.c {w : World} {base g g2 n : Nat} {L : List S53} {most floor last : Int} (h : Cs w base g g2 n L most floor last) : CSt w base g ((rAb L floor).map c57) most floor last := h.1
theorem Cs.r {w : World} {base g g2 n : Nat} {L : List S53} {most floor last : Int} (h : Cs w base g g2 n L most floor last) : RSt w base g2 L most floor last := h.2.1
theorem Cs.i {w : World} {base g g2 n : Nat} {L : List S53} {most floor last : Int} (h : Cs w base g g2 n L most floor last) : CInv n L most floor last := h.2.2
theorem Cs.len {w : World} {base g g2 n : Nat} {L : List S53} {most floor last : Int} (h : Cs w base g g2 n L most floor last) (hn : n ≤ 60) : L.length ≤ 360 := by have := h.2.2.len; omega
theorem Cs.len2 {w : World} {base g g2 n : Nat} {L : List S53} {most floor last : Int} (h : Cs w base g g2 n L most floor last) (hn : n ≤ 60) : ((rAb L floor).map c57).length ≤ 360 := by rw [List.length_map]; have := h.len hn; have := rAb_le L floor; omega
theorem rsl {α : Type} {d : Kd α} {e : Nat} {w : World} {base : Nat} {ok : Nat → Prop} {v : Value} {xs : List α} (h : d.R e w base ok v xs) : ∃ A n c, v = .slice A n c := by
  obtain ⟨A, c, h⟩ := Kd.R_slice h
  exact ⟨A, _, c, h⟩
theorem RSt.cell2 {w : World} {base g : Nat} {L : List S53} {most floor last : Int} (h : RSt w base g L most floor last) : w.cell? ⟨g, 2, none⟩ = some (.int .i64 floor) := by
  obtain ⟨v, hb, _, _⟩ := h
  exact (blk_cell hb 2).trans rfl
theorem RSt.cell3 {w : World} {base g : Nat} {L : List S53} {most floor last : Int} (h : RSt w base g L most floor last) : w.cell? ⟨g, 3, none⟩ = some (.int .i64 last) := by
  obtain ⟨v, hb, _, _⟩ := h
  exact (blk_cell hb 3).trans rfl
theorem mx_pos (a : Int) : 0 < mx a 1 := by unfold mx; split <;> omega
theorem Cs.first {w : World} {base g g2 : Nat} {most : Int} (hm : 0 < most) (h1 : CSt w base g [] most 0 0) (h2 : RSt w base g2 [] most 0 0) : Cs w base g g2 0 [] most 0 0 := ⟨h1, h2, ⟨List.Pairwise.nil, by simp, by omega, by omega, hm, by simp, by omega⟩⟩
theorem asked_floor {n : Nat} {L : List S53} {most floor last : Int} (h : CInv n L most floor last) : cAsked floor floor last = 0 := by unfold cAsked; rw [if_neg (by omega), if_neg (by have := h.fl; omega)]
theorem asked_ge {rev floor last : Int} (h : cAsked rev floor last = 0) : floor ≤ rev := by
  unfold cAsked at h
  by_cases h1 : rev < floor
  · rw [if_pos h1] at h; exact absurd h (by decide)
  · omega
theorem jstep1 {j k m : Nat} (h : j + (k + 1) = m + 1 ∧ j ≤ m) (cj : (j : Int) < (m : Int)) : (j + 1) + k = m + 1 ∧ j + 1 ≤ m := by omega
theorem filt_map (key : ByteArray) (M : List S53) : (M.map c57).filter (fun x => x.f1.f0.toList == key.toList) = (M.filter (fun x => x.f1.f0.toList == key.toList)).map c57 := by
  rw [List.filter_map]
  rfl
attribute [local go_sem high] eqA57
theorem rn {w : World} {b : Nat} {A : Option Addr} {n c : Nat} {xs : List S57} (h : Kd.R k57 57 w b (fun _ => True) (.slice A n c) xs) : n = xs.length := (Kd.R_reads' h).1
theorem rc {w : World} {b : Nat} {A : Option Addr} {n c : Nat} {xs : List S57} (h : Kd.R k57 57 w b (fun _ => True) (.slice A n c) xs) : Kd.C k57 w A n xs := by
  have e := (Kd.R_reads' h).1
  subst e
  exact (Kd.R_reads' h).2.2
theorem kF_eq (key : ByteArray) (L : List S53) : (L.map c57).filter (fun x => x.f1.f0.toList == key.toList) = kF key L := rfl
theorem clen {Z X Y : List S57} {n3 n5 n7 : Nat} (h : Z = X ++ Y) (h3 : n3 = X.length) (h5 : n5 = Y.length) (h7 : n7 = Z.length) (hx : n3 ≤ 360) (hy : Y.length ≤ 360) : wrap64 ((n3 : Int) + (n5 : Int)) = (n7 : Int) ∧ n7 ≤ 720 ∧ n7 = n3 + n5 := by
  have e : n7 = n3 + n5 := by rw [h7, h, List.length_append, h3, h5]
  refine ⟨?_, by omega, e⟩
  unfold wrap64
  omega
theorem jwrap {n7 j : Nat} (h : n7 ≤ 720) (d : (j : Int) < (n7 : Int)) : wrap64 ((j : Int) + 1) = ((j + 1 : Nat) : Int) := by unfold wrap64; omega
theorem jsub {n7 n3 j : Nat} (h : n7 ≤ 720) (d : (j : Int) < (n7 : Int)) (d3 : ¬ (j : Int) < (n3 : Int)) : wrap64 ((j : Int) - (n3 : Int)) = ((j - n3 : Nat) : Int) := by unfold wrap64; omega
theorem jlt {n7 n3 n5 j : Nat} (h : n7 = n3 + n5) (d : (j : Int) < (n7 : Int)) (d3 : ¬ (j : Int) < (n3 : Int)) : ((j - n3 : Nat) : Int) < (n5 : Int) := by omega
theorem chain_rd {Z X Y : List S57} {n3 n5 n7 : Nat} (h : Z = X ++ Y) (h3 : n3 = X.length) (h5 : n5 = Y.length) (h7 : n7 = Z.length) {j : Nat} (hj : j < n7) : (j < n3 → rd_T57 Z (j : Int) = rd_T57 X (j : Int)) ∧ (n3 ≤ j → rd_T57 Z (j : Int) = rd_T57 Y ((j - n3 : Nat) : Int)) := by
  subst h h3
  constructor
  · intro h
    rw [rd57_at _ j (by omega), rd57_at _ j h, List.getElem_append_left h]
  · intro h
    rw [List.length_append] at h7
    rw [rd57_at _ j (by rw [List.length_append]; omega), rd57_at _ (j - X.length) (by omega), List.getElem_append_right h]
set_option maxHeartbeats 8000000 in
set_option maxRecDepth 100000 in
theorem larumlaw20_ClogChained.callsS (A0 : Option Addr) (c0 : Nat) (l0 : List S29) (A1 : Option Addr) (c1 : Nat) (l1 : List S29) (a2 : Int) (a3 : ByteArray) (w : World) (hr0 : Kd.C k29 w A0 l0.length l0) (hr1 : Kd.C k29 w A1 l1.length l1) :
    Calls Try.prog 5 #[.slice A0 l0.length c0, .slice A1 l1.length c1, .int .i64 a2, .string a3] w fun e w' => e = .returned (.bool true) ∧ Below w.heap.size w w' := by
  have hu29 := Try.underlying29
  have hu22 := Try.underlying22
  have hu34 := Try.underlying34
  have hu25 := Try.underlying25
  have hu57 := Try.underlying57
  have hu37 := Try.underlying37
  have HC0 := Aside0.mk hr0
  have HC1 := Aside0.mk hr1
  clear hr0 hr1
  go_enter Try.func5, Try.ntmps5
  go_wp2_with (first | (go_at_call 7; refine (clog_NewS 60 w.heap.size _ (Nat.le_refl _)).mono ?_; rintro e w1 ⟨g, rfl, hP, hb⟩; have HP0 := Aside0.mk hP; have HB0 := Aside0.mk hb; clear hP hb) | (go_at_call 8; refine (ref_NewS 60 w.heap.size _ HB0.out.size).mono ?_; rintro e w2 ⟨g2, rfl, hR, hb⟩; have HX0 := Aside0.mk (Cs.first (mx_pos 60) (HP0.out.below hb) hR); have HB0' := Aside0.mk (below_step HB0.out hb); clear hR hb) | fail)
  rw [show mx 60 1 = 60 from rfl] at HX0
  obtain ⟨most, hmost⟩ : ∃ m : Int, 60 = m := ⟨_, rfl⟩
  rw [hmost] at HX0
  clear HP0 hmost
  go_loopg [29] (l0.length + 1) (fun kq v30 wr => ∃ (i n : Nat) (L : List S53) (floor last : Int), v30 = .int .i64 (i : Int) ∧ Aside0 (i + kq = l0.length + 1 ∧ i ≤ l0.length ∧ n ≤ 12 ∧ n ≤ i) ∧ Aside0 (Cs wr w.heap.size g g2 n L most floor last) ∧ Aside0 (Below w.heap.size w wr))
  case atStart => exact ⟨0, 0, [], 0, 0, rfl, ⟨by omega, by omega, by omega, by omega⟩, ⟨HX0.out⟩, ⟨HB0'.out⟩⟩
  case round =>
    clear HX0 HB0 HB0'
    obtain ⟨i, n, L, floor, last, rfl, HI, HX, HW⟩ := hrel
    cases gk with
    | zero => have := HI.out; omega
    | succ k1 =>
      by_cases c2 : (i : Int) < (l0.length : Int)
      · have c2b : decide ((i : Int) < (l0.length : Int)) = true := decide_eq_true c2
        have p2 : (0 : Int) ≤ (i : Int) := by omega
        obtain ⟨ad2, AO, cO, e2, hx0, hx1, hlc, hO_⟩ := at_T29 (Kd.C_below HC0.out HW.out) (i : Int) p2 c2
        cases e2
        have p2t : ((0 : Int) ≤ (i : Int)) = True := eq_true p2
        have q2t : ((i : Int) < (l0.length : Int)) = True := eq_true c2
        have q2n : (i < l0.length) = True := eq_true (by omega)
        simp only [Int.toNat_natCast] at hx0 hx1 hlc hO_
        have hw2 : wrap64 ((i : Int) + 1) = ((i + 1 : Nat) : Int) := by have := HC0.out.2.1; unfold wrap64; omega
        obtain ⟨x, hx⟩ : ∃ x, rd_T29 l0 (i : Int) = x := ⟨_, rfl⟩
        rw [hx] at hx0 hx1 hlc hO_
        clear hx hlc
        have HX1 := Aside0.mk (HX.out.below (below_alloc (Below.refl _ _) (.cells #[.int .i64 x.f0, .slice AO x.f1.length cO] 29)))
        have HB1 := Aside0.mk (below_alloc HW.out (.cells #[.int .i64 x.f0, .slice AO x.f1.length cO] 29))
        have HO1 := Aside0.mk (Kd.C_alloc hO_ (.cells #[.int .i64 x.f0, .slice AO x.f1.length cO] 29))
        have HOL1 := Aside0.mk (show x.f1.length ≤ 9223372036854775807 from hO_.2.1)
        have HI60 := Aside0.mk (show n ≤ 60 by have := HI.out; omega)
        by_cases c25 : i < 12
        · have c25b : decide ((i : Int) < 12) = true := decide_eq_true (by omega)
          have HST := Aside0.mk (istep HI.out c2 c25)
          obtain ⟨⟨L2, fl2, la2⟩, hAS⟩ : ∃ R, addSt n L most floor last x.f0 x.f1 = R := ⟨_, rfl⟩
          have HAS := Aside0.mk hAS
          clear hAS hO_ HX
          go_wp2_with (first | (go_at_call 9; with_reducible refine (law_add w.heap.size g g2 n x.f0 AO cO x.f1 L most floor last _ HX1.out HI60.out HO1.out HOL1.out).mono ?_; rintro e w4 ⟨rfl, hX3, hb3, hk3⟩; rw [HAS.out] at hX3; dsimp only at hX3; have HX3 := Aside0.mk hX3; have HB3 := Aside0.mk (HB1.out.trans hb3); have HK3 := Aside0.mk hk3; have HS4 := Aside0.mk hb3.size; clear hX3 hb3 hk3) | fail)
          go_roundg k1
          case measure => exact Nat.lt_succ_self _
          case rel => exact ⟨i + 1, n + 1, L2, fl2, la2, by first | rw [hw2] | simp, ⟨HST.out⟩, ⟨HX3.out⟩, ⟨HB3.out⟩⟩
        · have c25b : decide ((i : Int) < 12) = false := decide_eq_false (by omega)
          have HST := Aside0.mk (istep0 HI.out c2)
          clear hO_
          go_wp2_with fail
          go_roundg k1
          case measure => exact Nat.lt_succ_self _
          case rel => exact ⟨i + 1, n, L, floor, last, by first | rw [hw2] | simp, ⟨HST.out⟩, ⟨HX1.out⟩, ⟨HB1.out⟩⟩
      · have c2b : decide ((i : Int) < (l0.length : Int)) = false := decide_eq_false c2
        have HN12 := Aside0.mk (show n ≤ 12 by have := HI.out; omega)
        clear HI
        by_cases hE : cAsked a2 floor last = 0
        · have hn12 := HN12.out
          obtain ⟨L1, hL1⟩ : ∃ X, X = L := ⟨_, rfl⟩
          subst hL1
          obtain ⟨fl1, hfl1⟩ : ∃ X, X = floor := ⟨_, rfl⟩
          subst hfl1
          obtain ⟨la1, hla1⟩ : ∃ X, X = last := ⟨_, rfl⟩
          subst hla1
          obtain ⟨m1, hm1⟩ : ∃ X, X = n := ⟨_, rfl⟩
          subst hm1
          have HE := Aside0.mk hE
          have HX2 := HX
          have HB2 := HW
          have HL2 := Aside0.mk (Nat.le_trans (HX2.out.len2 (show m1 ≤ 60 by omega)) (show 360 ≤ 1000 by omega))
          have HLL := Aside0.mk (HX2.out.len (show m1 ≤ 60 by omega))
          have HD1 := Aside0.mk (drop_ab L1 HX2.out.i.srt fl1 a2 (asked_ge hE))
          have HRL := Aside0.mk (asked_le hE)
          have HLE := Aside0.mk HX2.out.i.le
          clear hn12
          go_wp2_with (first | (go_at_call 19; with_reducible refine (clog_fits a3 wr).mono ?_; rintro e wff ⟨rfl, hwf⟩; have hbf := below_alloc (Below.refl wr.heap.size wr) (.cells #[.string a3] 9); have hkf := (show (wr.alloc (.cells #[.string a3] 9)).cell? ⟨wr.heap.size, 0, none⟩ = some (.string a3) from (blk_cell (blk_new wr (.cells #[.string a3] 9)) 0).trans rfl); rw [← hwf] at hbf hkf; clear hwf; have HKEYf := Aside0.mk hkf; have HBFf := Aside0.mk hbf; have HXf := Aside0.mk (HX2.out.below hbf); have HBf := Aside0.mk (HB2.out.trans (below_less hbf (Cs.c HX2.out).base)); clear hkf hbf) | (go_at_call 18; with_reducible refine (clog_Next.fits a2 w.heap.size g _ most fl1 la1 a3 _ _ HKEYf.out HXf.out.c HL2.out HE.out).mono ?_; rintro e w3 ⟨v3, rfl, hR3, hb3⟩; rw [HD1.out, kF_eq] at hR3; obtain ⟨A3, n3, c3, rfl⟩ := rsl hR3; have HR3 := Aside0.mk hR3; have HBF3 := Aside0.mk hb3; have HX3 := Aside0.mk (HXf.out.below hb3); have HB3 := Aside0.mk (HBf.out.trans (below_less hb3 HXf.out.c.base)); clear hR3 hb3) | fail)
          have hxf := XF.of HR3.out
          have HF := Aside0.mk (show ∀ k, XF A3 n3 k → k < w3.heap.size ∧ k ≠ g from fun k hf => ⟨(hxf.1 k hf).2, fun e => by have := (hxf.1 k hf).1; have := HXf.out.gl; omega⟩)
          have HFT := Aside0.mk hxf.2
          have HX3F := Aside0.mk ((Cs.toF HXf.out (fun k hf => (hxf.1 k hf).1)).below HBF3.out)
          clear hxf HX2 HB2 HX HW HKEYf HBFf HXf HBf HBF3 HX3 HL2 HD1
          go_loopg [52] (l1.length + 1) (fun kq v30 wr => ∃ (i n : Nat) (L : List S53) (floor last : Int), v30 = .int .i64 (i : Int) ∧ Aside0 (i + kq = l1.length + 1 ∧ i ≤ l1.length ∧ n ≤ 24 ∧ n ≤ 12 + i) ∧ Aside0 (CsF (XF A3 n3) wr w.heap.size g g2 n L most floor last) ∧ Aside0 (Below w.heap.size w wr) ∧ Aside0 (KeepsF (XF A3 n3) w3 wr) ∧ Aside0 (w3.heap.size ≤ wr.heap.size) ∧ Aside0 (Ext L1 fl1 la1 L floor last))
          case atStart => exact ⟨0, m1, L1, fl1, la1, rfl, ⟨by omega, by omega, by have := HN12.out; omega, by have := HN12.out; omega⟩, ⟨HX3F.out⟩, ⟨HB3.out⟩, ⟨KeepsF.refl w3⟩, ⟨Nat.le_refl _⟩, ⟨Ext.refl _ _ _⟩⟩
          case round =>
            clear HX3F HB3 HE HN12
            obtain ⟨i, n, L, floor, last, rfl, HI, HX, HW, HKF, HSZ, HE2⟩ := hrel
            cases gk with
            | zero => have := HI.out; omega
            | succ k2 =>
              by_cases c2 : (i : Int) < (l1.length : Int)
              · have c2b : decide ((i : Int) < (l1.length : Int)) = true := decide_eq_true c2
                have p2 : (0 : Int) ≤ (i : Int) := by omega
                obtain ⟨ad2, AO, cO, e2, hx0, hx1, hlc, hO_⟩ := at_T29 (Kd.C_below HC1.out HW.out) (i : Int) p2 c2
                cases e2
                have p2t : ((0 : Int) ≤ (i : Int)) = True := eq_true p2
                have q2t : ((i : Int) < (l1.length : Int)) = True := eq_true c2
                have q2n : (i < l1.length) = True := eq_true (by omega)
                simp only [Int.toNat_natCast] at hx0 hx1 hlc hO_
                have hw2 : wrap64 ((i : Int) + 1) = ((i + 1 : Nat) : Int) := by have := HC1.out.2.1; unfold wrap64; omega
                obtain ⟨x, hx⟩ : ∃ x, rd_T29 l1 (i : Int) = x := ⟨_, rfl⟩
                rw [hx] at hx0 hx1 hlc hO_
                clear hx hlc
                have HX1 := Aside0.mk (HX.out.below (below_alloc (Below.refl _ _) (.cells #[.int .i64 x.f0, .slice AO x.f1.length cO] 29)))
                have HB1 := Aside0.mk (below_alloc HW.out (.cells #[.int .i64 x.f0, .slice AO x.f1.length cO] 29))
                have HO1 := Aside0.mk (Kd.C_alloc hO_ (.cells #[.int .i64 x.f0, .slice AO x.f1.length cO] 29))
                have HOL1 := Aside0.mk (show x.f1.length ≤ 9223372036854775807 from hO_.2.1)
                have HI60 := Aside0.mk (show n ≤ 60 by have := HI.out; omega)
                have HKA := Aside0.mk (show KeepsF (XF A3 n3) w3 (wr.alloc (.cells #[.int .i64 x.f0, .slice AO x.f1.length cO] 29)) from KeepsF.step HF.out HKF.out HSZ.out (below_alloc (Below.refl wr.heap.size wr) _))
                have HSA := Aside0.mk (show w3.heap.size ≤ (wr.alloc (.cells #[.int .i64 x.f0, .slice AO x.f1.length cO] 29)).heap.size from Nat.le_trans HSZ.out (below_alloc (Below.refl wr.heap.size wr) (.cells #[.int .i64 x.f0, .slice AO x.f1.length cO] 29)).size)
                have HF1 := Aside0.mk (show ∀ k, XF A3 n3 k → k < (wr.alloc (.cells #[.int .i64 x.f0, .slice AO x.f1.length cO] 29)).heap.size ∧ k ≠ g from fun k hf => ⟨Nat.lt_of_lt_of_le (HF.out k hf).1 HSA.out, (HF.out k hf).2⟩)
                have HFT1 := Aside0.mk (show ∀ k, XF A3 n3 k → ∃ cs, (wr.alloc (.cells #[.int .i64 x.f0, .slice AO x.f1.length cO] 29)).heap[k]? = some (.cells cs 57 (0, 0)) from fun k hf => by obtain ⟨cs, hc⟩ := HFT.out k hf; exact ⟨cs, (HKA.out k hf).trans hc⟩)
                have HEA := Aside0.mk (HE2.out.add HX.out.2.2 x.f0 x.f1)
                by_cases c25 : i < 12
                · have c25b : decide ((i : Int) < 12) = true := decide_eq_true (by omega)
                  have HST := Aside0.mk (jstepA HI.out c2 c25)
                  obtain ⟨⟨L2, fl2, la2⟩, hAS⟩ : ∃ R, addSt n L most floor last x.f0 x.f1 = R := ⟨_, rfl⟩
                  have HAS := Aside0.mk hAS
                  rw [hAS] at HEA
                  dsimp only at HEA
                  clear hAS hO_ HX
                  go_wp2_with (first | (go_at_call 9; with_reducible refine (law_addF (XF A3 n3) w.heap.size g g2 n x.f0 AO cO x.f1 L most floor last _ HX1.out HF1.out HFT1.out HI60.out HO1.out HOL1.out).mono ?_; rintro e w4 ⟨rfl, hX3, hb3, hk3⟩; rw [HAS.out] at hX3; dsimp only at hX3; have HX3 := Aside0.mk hX3; have HB3 := Aside0.mk (HB1.out.trans hb3); have HK3 := Aside0.mk hk3; have HS4 := Aside0.mk hb3.size; clear hX3 hb3 hk3) | fail)
                  go_roundg k2
                  case measure => exact Nat.lt_succ_self _
                  case rel => exact ⟨i + 1, n + 1, L2, fl2, la2, by first | rw [hw2] | simp, ⟨HST.out⟩, ⟨HX3.out⟩, ⟨HB3.out⟩, ⟨HKA.out.trans HK3.out⟩, ⟨Nat.le_trans HSA.out HS4.out⟩, ⟨HEA.out⟩⟩
                · have c25b : decide ((i : Int) < 12) = false := decide_eq_false (by omega)
                  have HST := Aside0.mk (jstepB HI.out c2)
                  clear hO_
                  go_wp2_with fail
                  go_roundg k2
                  case measure => exact Nat.lt_succ_self _
                  case rel => exact ⟨i + 1, n, L, floor, last, by first | rw [hw2] | simp, ⟨HST.out⟩, ⟨HX1.out⟩, ⟨HB1.out⟩, ⟨HKA.out⟩, ⟨HSA.out⟩, ⟨HE2.out⟩⟩
              · have c2b : decide ((i : Int) < (l1.length : Int)) = false := decide_eq_false c2
                have HI60 := Aside0.mk (show n ≤ 60 by have := HI.out; omega)
                have HXC := Aside0.mk HX.out.cs
                have HL2 := Aside0.mk (Nat.le_trans (HXC.out.len2 HI60.out) (show 360 ≤ 1000 by omega))
                have HLL2 := Aside0.mk (HXC.out.len HI60.out)
                have HN3 := Aside0.mk (Kd.R_reads' HR3.out).1
                have HCX := Aside0.mk (show Kd.C k57 wr A3 n3 (kF a3 (rAb L1 a2)) by rw [HN3.out]; exact C57_keep (Kd.R_reads' HR3.out).2.2 (fun ad hp e => HKF.out ad.block ⟨by rw [HN3.out]; exact hp, ad, e, rfl⟩))
                clear HI HX HKF HSZ HF HFT HR3
                have HX4 := HXC
                have HB4 := HW
                by_cases hf : cAsked la1 floor last = 0
                · have HQ := Aside0.mk hf
                  have HD2 := Aside0.mk (drop_ab L HX4.out.i.srt floor la1 (asked_ge hf))
                  by_cases hg : cAsked a2 floor last = 0
                  · have HG := Aside0.mk hg
                    have HD3 := Aside0.mk (drop_ab L HX4.out.i.srt floor a2 (asked_ge hg))
                    have HCH := Aside0.mk (show kF a3 (rAb L a2) = kF a3 (rAb L1 a2) ++ kF a3 (rAb L la1) by rw [chain_eq HE2.out HLE.out a2 HRL.out, kF_app])
                    have hX := HN3.out
                    have hXl := Nat.le_trans (kF_len a3 (rAb L1 a2)) (rAb_le L1 a2)
                    have hXl2 := Nat.le_trans hXl HLL.out
                    rw [← hX] at hXl2
                    have HXL := Aside0.mk hXl2
                    clear hX hXl hXl2
                    go_upto_region 17 with (first | (go_at_call 19; with_reducible refine (clog_fits a3 wr).mono ?_; rintro e wfs ⟨rfl, hwf⟩; have hbf := below_alloc (Below.refl wr.heap.size wr) (.cells #[.string a3] 9); have hkf := (show (wr.alloc (.cells #[.string a3] 9)).cell? ⟨wr.heap.size, 0, none⟩ = some (.string a3) from (blk_cell (blk_new wr (.cells #[.string a3] 9)) 0).trans rfl); rw [← hwf] at hbf hkf; clear hwf; have HKEYs := Aside0.mk hkf; have HBFs := Aside0.mk hbf; have HXs := Aside0.mk (HX4.out.below hbf); have HBs := Aside0.mk (HB4.out.trans (below_less hbf (Cs.c HX4.out).base)); clear hkf hbf) | (go_at_call 18; with_reducible refine (clog_Next.fits la1 w.heap.size g _ most floor last a3 _ _ HKEYs.out HXs.out.c HL2.out HQ.out).mono ?_; rintro e w5 ⟨v5, rfl, hR5, hb5⟩; rw [HD2.out, kF_eq] at hR5; obtain ⟨A5, n5, c5, rfl⟩ := rsl hR5; have HN5 := Aside0.mk (rn hR5); have HCR5 := Aside0.mk (rc hR5); have HBF5 := Aside0.mk hb5; have HX5 := Aside0.mk (HXs.out.below hb5); have HB5 := Aside0.mk (HBs.out.trans (below_less hb5 HXs.out.c.base)); clear hR5 hb5) | (go_at_call 19; with_reducible refine (clog_fits a3 w5).mono ?_; rintro e wft ⟨rfl, hwf⟩; have hbf := below_alloc (Below.refl w5.heap.size w5) (.cells #[.string a3] 9); have hkf := (show (w5.alloc (.cells #[.string a3] 9)).cell? ⟨w5.heap.size, 0, none⟩ = some (.string a3) from (blk_cell (blk_new w5 (.cells #[.string a3] 9)) 0).trans rfl); rw [← hwf] at hbf hkf; clear hwf; have HKEYt := Aside0.mk hkf; have HBFt := Aside0.mk hbf; have HXt := Aside0.mk (HX5.out.below hbf); have HBt := Aside0.mk (HB5.out.trans (below_less hbf (Cs.c HX5.out).base)); clear hkf hbf) | (go_at_call 18; with_reducible refine (clog_Next.fits a2 w.heap.size g _ most floor last a3 _ _ HKEYt.out HXt.out.c HL2.out HG.out).mono ?_; rintro e w7 ⟨v7, rfl, hR7, hb7⟩; rw [HD3.out, kF_eq] at hR7; obtain ⟨A7, n7, c7, rfl⟩ := rsl hR7; have HN7 := Aside0.mk (rn hR7); have HCR7 := Aside0.mk (rc hR7); have HBF7 := Aside0.mk hb7; have HX7 := Aside0.mk (HXt.out.below hb7); have HB7 := Aside0.mk (HBt.out.trans (below_less hb7 HXt.out.c.base)); clear hR7 hb7) | fail)
                    have hcl := clen HCH.out HN3.out HN5.out HN7.out HXL.out (Nat.le_trans (Nat.le_trans (kF_len a3 (rAb L la1)) (rAb_le L la1)) HLL2.out)
                    have HCL := Aside0.mk hcl
                    have hlen : wrap64 ((n3 : Int) + (n5 : Int)) = (n7 : Int) := hcl.1
                    clear hcl
                    go_wp2
                    have HCY := Aside0.mk (Kd.C_below (Kd.C_below HCR5.out HBFt.out) HBF7.out)
                    have HCXs := Aside0.mk (Kd.C_below (Kd.C_below (Kd.C_below (Kd.C_below HCX.out HBFs.out) HBF5.out) HBFt.out) HBF7.out)
                    clear hlen
                    go_loopg [120] (n7 + 1) (fun kq v120 wq => ∃ j : Nat, v120 = .int .i64 (j : Int) ∧ Aside0 (j + kq = n7 + 1 ∧ j ≤ n7) ∧ Aside0 (Below w7.heap.size w7 wq))
                    case atStart => exact ⟨0, rfl, ⟨by omega, by omega⟩, ⟨Below.refl _ _⟩⟩
                    case round =>
                      obtain ⟨j, rfl, HJ, HQW⟩ := hrel
                      cases gk with
                      | zero => have := HJ.out; omega
                      | succ k3 =>
                        by_cases d2 : (j : Int) < (n7 : Int)
                        · have d2b : decide ((j : Int) < (n7 : Int)) = true := decide_eq_true d2
                          have HJS := Aside0.mk (jstep1 HJ.out d2)
                          have hw3 := jwrap HCL.out.2.1 d2
                          have e2p : (0 : Int) ≤ (j : Int) := Int.natCast_nonneg j
                          obtain ⟨adz, ez, hz0, hz1, hz2, hz3⟩ := at_T57 (Kd.C_below HCR7.out HQW.out) (j : Int) e2p d2
                          cases ez
                          have e2t : ((0 : Int) ≤ (j : Int)) = True := eq_true e2p
                          have f2t : ((j : Int) < (n7 : Int)) = True := eq_true d2
                          have d2n : j < n7 := Int.ofNat_lt.mp d2
                          have f2n : (j < n7) = True := eq_true d2n
                          simp only [Int.toNat_natCast] at hz0 hz1 hz2 hz3
                          have hzw := chain_rd HCH.out HN3.out HN5.out HN7.out d2n
                          obtain ⟨x, hx⟩ : ∃ x, rd_T57 (kF a3 (rAb L a2)) (j : Int) = x := ⟨_, rfl⟩
                          rw [hx] at hz0 hz1 hz2 hz3 hzw
                          clear hx
                          by_cases d3 : (j : Int) < (n3 : Int)
                          · have d3b : decide ((j : Int) < (n3 : Int)) = true := decide_eq_true d3
                            have d3c : decide ((j : Int) ≥ (n3 : Int)) = false := decide_eq_false (Int.not_le.mpr d3)
                            have d3d : decide ((n3 : Int) ≤ (j : Int)) = false := d3c
                            have d3e : decide (n3 ≤ j) = false := decide_eq_false (Nat.not_le.mpr (Int.ofNat_lt.mp d3))
                            have d3f : decide (j < n3) = true := decide_eq_true (Int.ofNat_lt.mp d3)
                            obtain ⟨adx, ex, hx0, hx1, hx2, hx3⟩ := at_T57 (Kd.C_below HCXs.out HQW.out) (j : Int) e2p d3
                            cases ex
                            have f3t : ((j : Int) < (n3 : Int)) = True := eq_true d3
                            have f3n : (j < n3) = True := eq_true (Int.ofNat_lt.mp d3)
                            simp only [Int.toNat_natCast] at hx0 hx1 hx2 hx3
                            have hzx := hzw.1 (Int.ofNat_lt.mp d3)
                            rw [← hzx] at hx0 hx1 hx2 hx3
                            clear hzw hzx
                            go_upto_region 24 with fail
                            refine start_ (n := 35) (S := fun w' => w'.cell? (adz.add (j * 4)) = some (.int .i64 x.f0) ∧ w'.cell? ⟨(adz.add (j * 4)).block, (adz.add (j * 4)).off + 1, none⟩ = some (.string x.f1.f0) ∧ w'.cell? ⟨(adz.add (j * 4)).block, (adz.add (j * 4)).off + 2, none⟩ = some (.string x.f1.f1) ∧ w'.cell? ⟨(adz.add (j * 4)).block, (adz.add (j * 4)).off + 3, none⟩ = some (.bool x.f1.f2) ∧ w'.cell? (adx.add (j * 4)) = some (.int .i64 x.f0) ∧ w'.cell? ⟨(adx.add (j * 4)).block, (adx.add (j * 4)).off + 1, none⟩ = some (.string x.f1.f0) ∧ w'.cell? ⟨(adx.add (j * 4)).block, (adx.add (j * 4)).off + 2, none⟩ = some (.string x.f1.f1) ∧ w'.cell? ⟨(adx.add (j * 4)).block, (adx.add (j * 4)).off + 3, none⟩ = some (.bool x.f1.f2)) (ds := []) #[false, false, false, false, false, false, false, false, false, false, false, false, false, false, false, false, false, false, false, false, false, false, false, false, false, false, false, false, false, false, false, false, false, false, false] (by kernel_rfl) rfl rfl ⟨hz0, hz1, hz2, hz3, hx0, hx1, hx2, hx3⟩ (fun hHeld => ?_)
                            refine pure_ (i := 0) (N := some 123) (v := ?_) (a' := ?_) #[true, false, false, false, false, false, false, false, false, false, false, false, false, false, false, false, false, false, false, false, false, false, false, false, false, false, false, false, false, false, false, false, false, false, false] rfl rfl (by kernel_rfl) (fun _ _ _ h => h) (Or.inl ⟨by rfl, ?_⟩) ?_ ?_
                            rotate_left
                            · intro w'
                              go_simp
                              with_reducible rfl
                            rotate_left
                            · simp only [Act.put, List.setIfInBounds_toArray, List.set_cons_zero, List.set_cons_succ, i64_w, i32_w]
                              rfl
                            refine pure_ (i := 1) (N := some 124) (v := ?_) (a' := ?_) #[true, true, false, false, false, false, false, false, false, false, false, false, false, false, false, false, false, false, false, false, false, false, false, false, false, false, false, false, false, false, false, false, false, false, false] rfl rfl (by kernel_rfl) (fun _ _ _ h => h) (Or.inl ⟨by rfl, ?_⟩) ?_ ?_
                            rotate_left
                            · intro w'
                              go_simp
                              with_reducible rfl
                            rotate_left
                            · simp only [Act.put, List.setIfInBounds_toArray, List.set_cons_zero, List.set_cons_succ, i64_w, i32_w]
                              rfl
                            refine pure_ (i := 2) (N := some 125) (v := ?_) (a' := ?_) #[true, true, true, false, false, false, false, false, false, false, false, false, false, false, false, false, false, false, false, false, false, false, false, false, false, false, false, false, false, false, false, false, false, false, false] rfl rfl (by kernel_rfl) (fun _ _ _ h => h) (Or.inl ⟨by rfl, ?_⟩) ?_ ?_
                            rotate_left
                            · intro w'
                              go_simp
                              with_reducible rfl
                            rotate_left
                            · simp only [Act.put, List.setIfInBounds_toArray, List.set_cons_zero, List.set_cons_succ, i64_w, i32_w]
                              rfl
                            refine pure_ (i := 3) (N := some 126) (v := ?_) (a' := ?_) #[true, true, true, true, false, false, false, false, false, false, false, false, false, false, false, false, false, false, false, false, false, false, false, false, false, false, false, false, false, false, false, false, false, false, false] rfl rfl (by kernel_rfl) (fun _ _ _ h => h) (Or.inl ⟨by rfl, ?_⟩) ?_ ?_
                            rotate_left
                            · intro w'
                              go_simp
                              with_reducible rfl
                            rotate_left
                            · simp only [Act.put, List.setIfInBounds_toArray, List.set_cons_zero, List.set_cons_succ, i64_w, i32_w]
                              rfl
                            refine pure_ (i := 4) (N := some 127) (v := ?_) (a' := ?_) #[true, true, true, true, true, false, false, false, false, false, false, false, false, false, false, false, false, false, false, false, false, false, false, false, false, false, false, false, false, false, false, false, false, false, false] rfl rfl (by kernel_rfl) (fun _ _ _ h => h) (Or.inl ⟨by rfl, ?_⟩) ?_ ?_
                            rotate_left
                            · intro w'
                              go_simp
                              with_reducible rfl
                            rotate_left
                            · simp only [Act.put, List.setIfInBounds_toArray, List.set_cons_zero, List.set_cons_succ, i64_w, i32_w]
                              rfl
                            refine pure_ (i := 5) (N := some 128) (v := ?_) (a' := ?_) #[true, true, true, true, true, true, false, false, false, false, false, false, false, false, false, false, false, false, false, false, false, false, false, false, false, false, false, false, false, false, false, false, false, false, false] rfl rfl (by kernel_rfl) (fun _ _ _ h => h) (Or.inl ⟨by rfl, ?_⟩) ?_ ?_
                            rotate_left
                            · intro w'
                              go_simp
                              with_reducible rfl
                            rotate_left
                            · simp only [Act.put, List.setIfInBounds_toArray, List.set_cons_zero, List.set_cons_succ, i64_w, i32_w]
                              rfl
                            refine pure_ (i := 6) (N := some 129) (v := ?_) (a' := ?_) #[true, true, true, true, true, true, true, false, false, false, false, false, false, false, false, false, false, false, false, false, false, false, false, false, false, false, false, false, false, false, false, false, false, false, false] rfl rfl (by kernel_rfl) (fun _ _ _ h => h) (Or.inl ⟨by rfl, ?_⟩) ?_ ?_
                            rotate_left
                            · intro w'
                              go_simp
                              with_reducible rfl
                            rotate_left
                            · simp only [Act.put, List.setIfInBounds_toArray, List.set_cons_zero, List.set_cons_succ, i64_w, i32_w]
                              rfl
                            refine pure_ (i := 7) (N := some 130) (v := ?_) (a' := ?_) #[true, true, true, true, true, true, true, true, false, false, false, false, false, false, false, false, false, false, false, false, false, false, false, false, false, false, false, false, false, false, false, false, false, false, false] rfl rfl (by kernel_rfl) (fun _ _ _ h => h) (Or.inl ⟨by rfl, ?_⟩) ?_ ?_
                            rotate_left
                            · intro w'
                              go_simp
                              with_reducible rfl
                            rotate_left
                            · simp only [Act.put, List.setIfInBounds_toArray, List.set_cons_zero, List.set_cons_succ, i64_w, i32_w]
                              rfl
                            refine pure_ (i := 9) (N := some 132) (v := ?_) (a' := ?_) #[true, true, true, true, true, true, true, true, false, true, false, false, false, false, false, false, false, false, false, false, false, false, false, false, false, false, false, false, false, false, false, false, false, false, false] rfl rfl (by kernel_rfl) (fun _ _ _ h => h) (Or.inl ⟨by rfl, ?_⟩) ?_ ?_
                            rotate_left
                            · intro w'
                              go_simp
                              with_reducible rfl
                            rotate_left
                            · simp only [Act.put, List.setIfInBounds_toArray, List.set_cons_zero, List.set_cons_succ, i64_w, i32_w]
                              rfl
                            refine pure_ (i := 10) (N := some 133) (v := ?_) (a' := ?_) #[true, true, true, true, true, true, true, true, false, true, true, false, false, false, false, false, false, false, false, false, false, false, false, false, false, false, false, false, false, false, false, false, false, false, false] rfl rfl (by kernel_rfl) (fun _ _ _ h => h) (Or.inl ⟨by rfl, ?_⟩) ?_ ?_
                            rotate_left
                            · intro w'
                              go_simp
                              with_reducible rfl
                            rotate_left
                            · simp only [Act.put, List.setIfInBounds_toArray, List.set_cons_zero, List.set_cons_succ, i64_w, i32_w]
                              rfl
                            refine pure_ (i := 11) (N := some 134) (v := ?_) (a' := ?_) #[true, true, true, true, true, true, true, true, false, true, true, true, false, false, false, false, false, false, false, false, false, false, false, false, false, false, false, false, false, false, false, false, false, false, false] rfl rfl (by kernel_rfl) (fun _ _ _ h => h) (Or.inl ⟨by rfl, ?_⟩) ?_ ?_
                            rotate_left
                            · intro w'
                              go_simp
                              with_reducible rfl
                            rotate_left
                            · simp only [Act.put, List.setIfInBounds_toArray, List.set_cons_zero, List.set_cons_succ, i64_w, i32_w]
                              rfl
                            refine take_ (i := 8) (N := some 131) (v := ?_) (a' := ?_) #[true, true, true, true, true, true, true, true, true, true, true, true, false, false, false, false, false, false, false, false, false, false, false, false, false, false, false, false, false, false, false, false, false, false, false] rfl rfl (by kernel_rfl) (fun _ _ _ h => h) (Or.inl ⟨by rfl, ?_⟩) hHeld ?_ ?_
                            rotate_left
                            · rintro w' ⟨s0, s1, s2, s3, s4, s5, s6, s7⟩
                              go_simp
                              with_reducible rfl
                            rotate_left
                            · simp only [Act.put, List.setIfInBounds_toArray, List.set_cons_zero, List.set_cons_succ, i64_w, i32_w]
                              rfl
                            refine take_ (i := 12) (N := some 135) (v := ?_) (a' := ?_) #[true, true, true, true, true, true, true, true, true, true, true, true, true, false, false, false, false, false, false, false, false, false, false, false, false, false, false, false, false, false, false, false, false, false, false] rfl rfl (by kernel_rfl) (fun _ _ _ h => h) (Or.inl ⟨by rfl, ?_⟩) hHeld ?_ ?_
                            rotate_left
                            · rintro w' ⟨s0, s1, s2, s3, s4, s5, s6, s7⟩
                              go_simp
                              with_reducible rfl
                            rotate_left
                            · simp only [Act.put, List.setIfInBounds_toArray, List.set_cons_zero, List.set_cons_succ, i64_w, i32_w]
                              rfl
                            refine pure_ (i := 13) (N := some 136) (v := ?_) (a' := ?_) #[true, true, true, true, true, true, true, true, true, true, true, true, true, true, false, false, false, false, false, false, false, false, false, false, false, false, false, false, false, false, false, false, false, false, false] rfl rfl (by kernel_rfl) (fun _ _ _ h => h) (Or.inl ⟨by rfl, ?_⟩) ?_ ?_
                            rotate_left
                            · intro w'
                              go_simp
                              with_reducible rfl
                            rotate_left
                            · simp only [Act.put, List.setIfInBounds_toArray, List.set_cons_zero, List.set_cons_succ, i64_w, i32_w]
                              rfl
                            refine pure_ (i := 14) (N := some 137) (v := ?_) (a' := ?_) #[true, true, true, true, true, true, true, true, true, true, true, true, true, true, true, false, false, false, false, false, false, false, false, false, false, false, false, false, false, false, false, false, false, false, false] rfl rfl (by kernel_rfl) (fun _ _ _ h => h) (Or.inl ⟨by rfl, ?_⟩) ?_ ?_
                            rotate_left
                            · intro w'
                              go_simp
                              with_reducible rfl
                            rotate_left
                            · simp only [Act.put, List.setIfInBounds_toArray, List.set_cons_zero, List.set_cons_succ, i64_w, i32_w]
                              rfl
                            refine pure_ (i := 15) (N := some 138) (v := ?_) (a' := ?_) #[true, true, true, true, true, true, true, true, true, true, true, true, true, true, true, true, false, false, false, false, false, false, false, false, false, false, false, false, false, false, false, false, false, false, false] rfl rfl (by kernel_rfl) (fun _ _ _ h => h) (Or.inl ⟨by rfl, ?_⟩) ?_ ?_
                            rotate_left
                            · intro w'
                              go_simp
                              with_reducible rfl
                            rotate_left
                            · simp only [Act.put, List.setIfInBounds_toArray, List.set_cons_zero, List.set_cons_succ, i64_w, i32_w]
                              rfl
                            refine pure_ (i := 16) (N := some 139) (v := ?_) (a' := ?_) #[true, true, true, true, true, true, true, true, true, true, true, true, true, true, true, true, true, false, false, false, false, false, false, false, false, false, false, false, false, false, false, false, false, false, false] rfl rfl (by kernel_rfl) (fun _ _ _ h => h) (Or.inl ⟨by rfl, ?_⟩) ?_ ?_
                            rotate_left
                            · intro w'
                              go_simp
                              with_reducible rfl
                            rotate_left
                            · simp only [Act.put, List.setIfInBounds_toArray, List.set_cons_zero, List.set_cons_succ, i64_w, i32_w]
                              rfl
                            refine pure_ (i := 17) (N := some 140) (v := ?_) (a' := ?_) #[true, true, true, true, true, true, true, true, true, true, true, true, true, true, true, true, true, true, false, false, false, false, false, false, false, false, false, false, false, false, false, false, false, false, false] rfl rfl (by kernel_rfl) (fun _ _ _ h => h) (Or.inl ⟨by rfl, ?_⟩) ?_ ?_
                            rotate_left
                            · intro w'
                              go_simp
                              with_reducible rfl
                            rotate_left
                            · simp only [Act.put, List.setIfInBounds_toArray, List.set_cons_zero, List.set_cons_succ, i64_w, i32_w]
                              rfl
                            refine pure_ (i := 18) (N := some 141) (v := ?_) (a' := ?_) #[true, true, true, true, true, true, true, true, true, true, true, true, true, true, true, true, true, true, true, false, false, false, false, false, false, false, false, false, false, false, false, false, false, false, false] rfl rfl (by kernel_rfl) (fun _ _ _ h => h) (Or.inl ⟨by rfl, ?_⟩) ?_ ?_
                            rotate_left
                            · intro w'
                              go_simp
                              with_reducible rfl
                            rotate_left
                            · simp only [Act.put, List.setIfInBounds_toArray, List.set_cons_zero, List.set_cons_succ, i64_w, i32_w]
                              rfl
                            refine pure_ (i := 19) (N := some 142) (v := ?_) (a' := ?_) #[true, true, true, true, true, true, true, true, true, true, true, true, true, true, true, true, true, true, true, true, false, false, false, false, false, false, false, false, false, false, false, false, false, false, false] rfl rfl (by kernel_rfl) (fun _ _ _ h => h) (Or.inl ⟨by rfl, ?_⟩) ?_ ?_
                            rotate_left
                            · intro w'
                              go_simp
                              with_reducible rfl
                            rotate_left
                            · simp only [Act.put, List.setIfInBounds_toArray, List.set_cons_zero, List.set_cons_succ, i64_w, i32_w]
                              rfl
                            refine pure_ (i := 20) (N := some 143) (v := ?_) (a' := ?_) #[true, true, true, true, true, true, true, true, true, true, true, true, true, true, true, true, true, true, true, true, true, false, false, false, false, false, false, false, false, false, false, false, false, false, false] rfl rfl (by kernel_rfl) (fun _ _ _ h => h) (Or.inl ⟨by rfl, ?_⟩) ?_ ?_
                            rotate_left
                            · intro w'
                              go_simp
                              with_reducible rfl
                            rotate_left
                            · simp only [Act.put, List.setIfInBounds_toArray, List.set_cons_zero, List.set_cons_succ, i64_w, i32_w]
                              rfl
                            refine pure_ (i := 21) (N := some 144) (v := undef) (a' := ?_) #[true, true, true, true, true, true, true, true, true, true, true, true, true, true, true, true, true, true, true, true, true, true, false, false, false, false, false, false, false, false, false, false, false, false, false] rfl rfl (by kernel_rfl) (fun _ _ _ h => h) (Or.inr ⟨by rfl, rfl⟩) ?_ ?_
                            rotate_left
                            · simp only [Act.put, List.setIfInBounds_toArray, List.set_cons_zero, List.set_cons_succ, i64_w, i32_w]
                              rfl
                            refine pure_ (i := 22) (N := some 145) (v := undef) (a' := ?_) #[true, true, true, true, true, true, true, true, true, true, true, true, true, true, true, true, true, true, true, true, true, true, true, false, false, false, false, false, false, false, false, false, false, false, false] rfl rfl (by kernel_rfl) (fun _ _ _ h => h) (Or.inr ⟨by rfl, rfl⟩) ?_ ?_
                            rotate_left
                            · simp only [Act.put, List.setIfInBounds_toArray, List.set_cons_zero, List.set_cons_succ, i64_w, i32_w]
                              rfl
                            refine pure_ (i := 23) (N := some 146) (v := undef) (a' := ?_) #[true, true, true, true, true, true, true, true, true, true, true, true, true, true, true, true, true, true, true, true, true, true, true, true, false, false, false, false, false, false, false, false, false, false, false] rfl rfl (by kernel_rfl) (fun _ _ _ h => h) (Or.inr ⟨by rfl, rfl⟩) ?_ ?_
                            rotate_left
                            · simp only [Act.put, List.setIfInBounds_toArray, List.set_cons_zero, List.set_cons_succ, i64_w, i32_w]
                              rfl
                            refine pure_ (i := 24) (N := some 147) (v := undef) (a' := ?_) #[true, true, true, true, true, true, true, true, true, true, true, true, true, true, true, true, true, true, true, true, true, true, true, true, true, false, false, false, false, false, false, false, false, false, false] rfl rfl (by kernel_rfl) (fun _ _ _ h => h) (Or.inr ⟨by rfl, rfl⟩) ?_ ?_
                            rotate_left
                            · simp only [Act.put, List.setIfInBounds_toArray, List.set_cons_zero, List.set_cons_succ, i64_w, i32_w]
                              rfl
                            refine pure_ (i := 25) (N := some 148) (v := undef) (a' := ?_) #[true, true, true, true, true, true, true, true, true, true, true, true, true, true, true, true, true, true, true, true, true, true, true, true, true, true, false, false, false, false, false, false, false, false, false] rfl rfl (by kernel_rfl) (fun _ _ _ h => h) (Or.inr ⟨by rfl, rfl⟩) ?_ ?_
                            rotate_left
                            · simp only [Act.put, List.setIfInBounds_toArray, List.set_cons_zero, List.set_cons_succ, i64_w, i32_w]
                              rfl
                            refine pure_ (i := 26) (N := some 149) (v := undef) (a' := ?_) #[true, true, true, true, true, true, true, true, true, true, true, true, true, true, true, true, true, true, true, true, true, true, true, true, true, true, true, false, false, false, false, false, false, false, false] rfl rfl (by kernel_rfl) (fun _ _ _ h => h) (Or.inr ⟨by rfl, rfl⟩) ?_ ?_
                            rotate_left
                            · simp only [Act.put, List.setIfInBounds_toArray, List.set_cons_zero, List.set_cons_succ, i64_w, i32_w]
                              rfl
                            refine pure_ (i := 27) (N := some 150) (v := undef) (a' := ?_) #[true, true, true, true, true, true, true, true, true, true, true, true, true, true, true, true, true, true, true, true, true, true, true, true, true, true, true, true, false, false, false, false, false, false, false] rfl rfl (by kernel_rfl) (fun _ _ _ h => h) (Or.inr ⟨by rfl, rfl⟩) ?_ ?_
                            rotate_left
                            · simp only [Act.put, List.setIfInBounds_toArray, List.set_cons_zero, List.set_cons_succ, i64_w, i32_w]
                              rfl
                            refine pure_ (i := 28) (N := some 151) (v := undef) (a' := ?_) #[true, true, true, true, true, true, true, true, true, true, true, true, true, true, true, true, true, true, true, true, true, true, true, true, true, true, true, true, true, false, false, false, false, false, false] rfl rfl (by kernel_rfl) (fun _ _ _ h => h) (Or.inr ⟨by rfl, rfl⟩) ?_ ?_
                            rotate_left
                            · simp only [Act.put, List.setIfInBounds_toArray, List.set_cons_zero, List.set_cons_succ, i64_w, i32_w]
                              rfl
                            refine pure_ (i := 29) (N := some 152) (v := undef) (a' := ?_) #[true, true, true, true, true, true, true, true, true, true, true, true, true, true, true, true, true, true, true, true, true, true, true, true, true, true, true, true, true, true, false, false, false, false, false] rfl rfl (by kernel_rfl) (fun _ _ _ h => h) (Or.inr ⟨by rfl, rfl⟩) ?_ ?_
                            rotate_left
                            · simp only [Act.put, List.setIfInBounds_toArray, List.set_cons_zero, List.set_cons_succ, i64_w, i32_w]
                              rfl
                            refine pure_ (i := 30) (N := some 153) (v := undef) (a' := ?_) #[true, true, true, true, true, true, true, true, true, true, true, true, true, true, true, true, true, true, true, true, true, true, true, true, true, true, true, true, true, true, true, false, false, false, false] rfl rfl (by kernel_rfl) (fun _ _ _ h => h) (Or.inr ⟨by rfl, rfl⟩) ?_ ?_
                            rotate_left
                            · simp only [Act.put, List.setIfInBounds_toArray, List.set_cons_zero, List.set_cons_succ, i64_w, i32_w]
                              rfl
                            refine pure_ (i := 31) (N := some 154) (v := undef) (a' := ?_) #[true, true, true, true, true, true, true, true, true, true, true, true, true, true, true, true, true, true, true, true, true, true, true, true, true, true, true, true, true, true, true, true, false, false, false] rfl rfl (by kernel_rfl) (fun _ _ _ h => h) (Or.inr ⟨by rfl, rfl⟩) ?_ ?_
                            rotate_left
                            · simp only [Act.put, List.setIfInBounds_toArray, List.set_cons_zero, List.set_cons_succ, i64_w, i32_w]
                              rfl
                            refine pure_ (i := 32) (N := some 155) (v := undef) (a' := ?_) #[true, true, true, true, true, true, true, true, true, true, true, true, true, true, true, true, true, true, true, true, true, true, true, true, true, true, true, true, true, true, true, true, true, false, false] rfl rfl (by kernel_rfl) (fun _ _ _ h => h) (Or.inr ⟨by rfl, rfl⟩) ?_ ?_
                            rotate_left
                            · simp only [Act.put, List.setIfInBounds_toArray, List.set_cons_zero, List.set_cons_succ, i64_w, i32_w]
                              rfl
                            refine pure_ (i := 33) (N := some 156) (v := ?_) (a' := ?_) #[true, true, true, true, true, true, true, true, true, true, true, true, true, true, true, true, true, true, true, true, true, true, true, true, true, true, true, true, true, true, true, true, true, true, false] rfl rfl (by kernel_rfl) (fun _ _ _ h => h) (Or.inl ⟨by rfl, ?_⟩) ?_ ?_
                            rotate_left
                            · intro w'
                              go_simp
                              with_reducible rfl
                            rotate_left
                            · simp only [Act.put, List.setIfInBounds_toArray, List.set_cons_zero, List.set_cons_succ, i64_w, i32_w]
                              rfl
                            refine pure_ (i := 34) (N := some 157) (v := ?_) (a' := ?_) #[true, true, true, true, true, true, true, true, true, true, true, true, true, true, true, true, true, true, true, true, true, true, true, true, true, true, true, true, true, true, true, true, true, true, true] rfl rfl (by kernel_rfl) (fun _ _ _ h => h) (Or.inl ⟨by rfl, ?_⟩) ?_ ?_
                            rotate_left
                            · intro w'
                              go_simp
                              with_reducible rfl
                            rotate_left
                            · simp only [Act.put, List.setIfInBounds_toArray, List.set_cons_zero, List.set_cons_succ, i64_w, i32_w]
                              rfl
                            refine done_ (by kernel_rfl) ?_
                            go_wp2
                            go_roundg k3
                            case measure => exact Nat.lt_succ_self _
                            case rel => exact ⟨j + 1, by first | rw [hw3] | simp, ⟨HJS.out⟩, ⟨below_drew HQW.out⟩⟩
                          · have d3b : decide ((j : Int) < (n3 : Int)) = false := decide_eq_false d3
                            have d3c : decide ((j : Int) ≥ (n3 : Int)) = true := decide_eq_true (Int.not_lt.mp d3)
                            have d3d : decide ((n3 : Int) ≤ (j : Int)) = true := d3c
                            have d3e : decide (n3 ≤ j) = true := decide_eq_true (Int.ofNat_le.mp (Int.not_lt.mp d3))
                            have d3f : decide (j < n3) = false := decide_eq_false (Nat.not_lt.mpr (Int.ofNat_le.mp (Int.not_lt.mp d3)))
                            have hsub : wrap64 ((j : Int) - (n3 : Int)) = ((j - n3 : Nat) : Int) := jsub HCL.out.2.1 d2 d3
                            have g1 : ((j - n3 : Nat) : Int) < (n5 : Int) := jlt HCL.out.2.2 d2 d3
                            obtain ⟨ady, ey, hx0, hx1, hx2, hx3⟩ := at_T57 (Kd.C_below HCY.out HQW.out) ((j - n3 : Nat) : Int) (Int.natCast_nonneg _) g1
                            cases ey
                            have f3p : ((0 : Int) ≤ ((j - n3 : Nat) : Int)) = True := eq_true (Int.natCast_nonneg _)
                            have f3t : (((j - n3 : Nat) : Int) < (n5 : Int)) = True := eq_true g1
                            have f3n : (j - n3 < n5) = True := eq_true (Int.ofNat_lt.mp g1)
                            simp only [Int.toNat_natCast] at hx0 hx1 hx2 hx3
                            have hzx := hzw.2 (Int.ofNat_le.mp (Int.not_lt.mp d3))
                            rw [← hzx] at hx0 hx1 hx2 hx3
                            clear hzw hzx
                            go_upto_region 24 with fail
                            refine start_ (n := 35) (S := fun w' => w'.cell? (adz.add (j * 4)) = some (.int .i64 x.f0) ∧ w'.cell? ⟨(adz.add (j * 4)).block, (adz.add (j * 4)).off + 1, none⟩ = some (.string x.f1.f0) ∧ w'.cell? ⟨(adz.add (j * 4)).block, (adz.add (j * 4)).off + 2, none⟩ = some (.string x.f1.f1) ∧ w'.cell? ⟨(adz.add (j * 4)).block, (adz.add (j * 4)).off + 3, none⟩ = some (.bool x.f1.f2) ∧ w'.cell? (ady.add ((j - n3) * 4)) = some (.int .i64 x.f0) ∧ w'.cell? ⟨(ady.add ((j - n3) * 4)).block, (ady.add ((j - n3) * 4)).off + 1, none⟩ = some (.string x.f1.f0) ∧ w'.cell? ⟨(ady.add ((j - n3) * 4)).block, (ady.add ((j - n3) * 4)).off + 2, none⟩ = some (.string x.f1.f1) ∧ w'.cell? ⟨(ady.add ((j - n3) * 4)).block, (ady.add ((j - n3) * 4)).off + 3, none⟩ = some (.bool x.f1.f2)) (ds := []) #[false, false, false, false, false, false, false, false, false, false, false, false, false, false, false, false, false, false, false, false, false, false, false, false, false, false, false, false, false, false, false, false, false, false, false] (by kernel_rfl) rfl rfl ⟨hz0, hz1, hz2, hz3, hx0, hx1, hx2, hx3⟩ (fun hHeld => ?_)
                            refine pure_ (i := 0) (N := some 123) (v := ?_) (a' := ?_) #[true, false, false, false, false, false, false, false, false, false, false, false, false, false, false, false, false, false, false, false, false, false, false, false, false, false, false, false, false, false, false, false, false, false, false] rfl rfl (by kernel_rfl) (fun _ _ _ h => h) (Or.inl ⟨by rfl, ?_⟩) ?_ ?_
                            rotate_left
                            · intro w'
                              go_simp
                              with_reducible rfl
                            rotate_left
                            · simp only [Act.put, List.setIfInBounds_toArray, List.set_cons_zero, List.set_cons_succ, i64_w, i32_w]
                              rfl
                            refine pure_ (i := 1) (N := some 124) (v := ?_) (a' := ?_) #[true, true, false, false, false, false, false, false, false, false, false, false, false, false, false, false, false, false, false, false, false, false, false, false, false, false, false, false, false, false, false, false, false, false, false] rfl rfl (by kernel_rfl) (fun _ _ _ h => h) (Or.inl ⟨by rfl, ?_⟩) ?_ ?_
                            rotate_left
                            · intro w'
                              go_simp
                              with_reducible rfl
                            rotate_left
                            · simp only [Act.put, List.setIfInBounds_toArray, List.set_cons_zero, List.set_cons_succ, i64_w, i32_w]
                              rfl
                            refine pure_ (i := 2) (N := some 125) (v := ?_) (a' := ?_) #[true, true, true, false, false, false, false, false, false, false, false, false, false, false, false, false, false, false, false, false, false, false, false, false, false, false, false, false, false, false, false, false, false, false, false] rfl rfl (by kernel_rfl) (fun _ _ _ h => h) (Or.inl ⟨by rfl, ?_⟩) ?_ ?_
                            rotate_left
                            · intro w'
                              go_simp
                              with_reducible rfl
                            rotate_left
                            · simp only [Act.put, List.setIfInBounds_toArray, List.set_cons_zero, List.set_cons_succ, i64_w, i32_w]
                              rfl
                            refine pure_ (i := 3) (N := some 126) (v := ?_) (a' := ?_) #[true, true, true, true, false, false, false, false, false, false, false, false, false, false, false, false, false, false, false, false, false, false, false, false, false, false, false, false, false, false, false, false, false, false, false] rfl rfl (by kernel_rfl) (fun _ _ _ h => h) (Or.inl ⟨by rfl, ?_⟩) ?_ ?_
                            rotate_left
                            · intro w'
                              go_simp
                              with_reducible rfl
                            rotate_left
                            · simp only [Act.put, List.setIfInBounds_toArray, List.set_cons_zero, List.set_cons_succ, i64_w, i32_w]
                              rfl
                            refine pure_ (i := 4) (N := some 127) (v := ?_) (a' := ?_) #[true, true, true, true, true, false, false, false, false, false, false, false, false, false, false, false, false, false, false, false, false, false, false, false, false, false, false, false, false, false, false, false, false, false, false] rfl rfl (by kernel_rfl) (fun _ _ _ h => h) (Or.inl ⟨by rfl, ?_⟩) ?_ ?_
                            rotate_left
                            · intro w'
                              go_simp
                              with_reducible rfl
                            rotate_left
                            · simp only [Act.put, List.setIfInBounds_toArray, List.set_cons_zero, List.set_cons_succ, i64_w, i32_w]
                              rfl
                            refine pure_ (i := 5) (N := some 128) (v := undef) (a' := ?_) #[true, true, true, true, true, true, false, false, false, false, false, false, false, false, false, false, false, false, false, false, false, false, false, false, false, false, false, false, false, false, false, false, false, false, false] rfl rfl (by kernel_rfl) (fun _ _ _ h => h) (Or.inr ⟨by rfl, rfl⟩) ?_ ?_
                            rotate_left
                            · simp only [Act.put, List.setIfInBounds_toArray, List.set_cons_zero, List.set_cons_succ, i64_w, i32_w]
                              rfl
                            refine pure_ (i := 6) (N := some 129) (v := undef) (a' := ?_) #[true, true, true, true, true, true, true, false, false, false, false, false, false, false, false, false, false, false, false, false, false, false, false, false, false, false, false, false, false, false, false, false, false, false, false] rfl rfl (by kernel_rfl) (fun _ _ _ h => h) (Or.inr ⟨by rfl, rfl⟩) ?_ ?_
                            rotate_left
                            · simp only [Act.put, List.setIfInBounds_toArray, List.set_cons_zero, List.set_cons_succ, i64_w, i32_w]
                              rfl
                            refine pure_ (i := 7) (N := some 130) (v := undef) (a' := ?_) #[true, true, true, true, true, true, true, true, false, false, false, false, false, false, false, false, false, false, false, false, false, false, false, false, false, false, false, false, false, false, false, false, false, false, false] rfl rfl (by kernel_rfl) (fun _ _ _ h => h) (Or.inr ⟨by rfl, rfl⟩) ?_ ?_
                            rotate_left
                            · simp only [Act.put, List.setIfInBounds_toArray, List.set_cons_zero, List.set_cons_succ, i64_w, i32_w]
                              rfl
                            refine pure_ (i := 8) (N := some 131) (v := undef) (a' := ?_) #[true, true, true, true, true, true, true, true, true, false, false, false, false, false, false, false, false, false, false, false, false, false, false, false, false, false, false, false, false, false, false, false, false, false, false] rfl rfl (by kernel_rfl) (fun _ _ _ h => h) (Or.inr ⟨by rfl, rfl⟩) ?_ ?_
                            rotate_left
                            · simp only [Act.put, List.setIfInBounds_toArray, List.set_cons_zero, List.set_cons_succ, i64_w, i32_w]
                              rfl
                            refine pure_ (i := 9) (N := some 132) (v := undef) (a' := ?_) #[true, true, true, true, true, true, true, true, true, true, false, false, false, false, false, false, false, false, false, false, false, false, false, false, false, false, false, false, false, false, false, false, false, false, false] rfl rfl (by kernel_rfl) (fun _ _ _ h => h) (Or.inr ⟨by rfl, rfl⟩) ?_ ?_
                            rotate_left
                            · simp only [Act.put, List.setIfInBounds_toArray, List.set_cons_zero, List.set_cons_succ, i64_w, i32_w]
                              rfl
                            refine pure_ (i := 10) (N := some 133) (v := undef) (a' := ?_) #[true, true, true, true, true, true, true, true, true, true, true, false, false, false, false, false, false, false, false, false, false, false, false, false, false, false, false, false, false, false, false, false, false, false, false] rfl rfl (by kernel_rfl) (fun _ _ _ h => h) (Or.inr ⟨by rfl, rfl⟩) ?_ ?_
                            rotate_left
                            · simp only [Act.put, List.setIfInBounds_toArray, List.set_cons_zero, List.set_cons_succ, i64_w, i32_w]
                              rfl
                            refine pure_ (i := 11) (N := some 134) (v := undef) (a' := ?_) #[true, true, true, true, true, true, true, true, true, true, true, true, false, false, false, false, false, false, false, false, false, false, false, false, false, false, false, false, false, false, false, false, false, false, false] rfl rfl (by kernel_rfl) (fun _ _ _ h => h) (Or.inr ⟨by rfl, rfl⟩) ?_ ?_
                            rotate_left
                            · simp only [Act.put, List.setIfInBounds_toArray, List.set_cons_zero, List.set_cons_succ, i64_w, i32_w]
                              rfl
                            refine pure_ (i := 12) (N := some 135) (v := undef) (a' := ?_) #[true, true, true, true, true, true, true, true, true, true, true, true, true, false, false, false, false, false, false, false, false, false, false, false, false, false, false, false, false, false, false, false, false, false, false] rfl rfl (by kernel_rfl) (fun _ _ _ h => h) (Or.inr ⟨by rfl, rfl⟩) ?_ ?_
                            rotate_left
                            · simp only [Act.put, List.setIfInBounds_toArray, List.set_cons_zero, List.set_cons_succ, i64_w, i32_w]
                              rfl
                            refine pure_ (i := 13) (N := some 136) (v := undef) (a' := ?_) #[true, true, true, true, true, true, true, true, true, true, true, true, true, true, false, false, false, false, false, false, false, false, false, false, false, false, false, false, false, false, false, false, false, false, false] rfl rfl (by kernel_rfl) (fun _ _ _ h => h) (Or.inr ⟨by rfl, rfl⟩) ?_ ?_
                            rotate_left
                            · simp only [Act.put, List.setIfInBounds_toArray, List.set_cons_zero, List.set_cons_succ, i64_w, i32_w]
                              rfl
                            refine pure_ (i := 14) (N := some 137) (v := ?_) (a' := ?_) #[true, true, true, true, true, true, true, true, true, true, true, true, true, true, true, false, false, false, false, false, false, false, false, false, false, false, false, false, false, false, false, false, false, false, false] rfl rfl (by kernel_rfl) (fun _ _ _ h => h) (Or.inl ⟨by rfl, ?_⟩) ?_ ?_
                            rotate_left
                            · intro w'
                              go_simp
                              with_reducible rfl
                            rotate_left
                            · simp only [Act.put, List.setIfInBounds_toArray, List.set_cons_zero, List.set_cons_succ, i64_w, i32_w]
                              rfl
                            refine pure_ (i := 15) (N := some 138) (v := ?_) (a' := ?_) #[true, true, true, true, true, true, true, true, true, true, true, true, true, true, true, true, false, false, false, false, false, false, false, false, false, false, false, false, false, false, false, false, false, false, false] rfl rfl (by kernel_rfl) (fun _ _ _ h => h) (Or.inl ⟨by rfl, ?_⟩) ?_ ?_
                            rotate_left
                            · intro w'
                              go_simp
                              with_reducible rfl
                            rotate_left
                            · simp only [Act.put, List.setIfInBounds_toArray, List.set_cons_zero, List.set_cons_succ, i64_w, i32_w]
                              rfl
                            refine pure_ (i := 16) (N := some 139) (v := ?_) (a' := ?_) #[true, true, true, true, true, true, true, true, true, true, true, true, true, true, true, true, true, false, false, false, false, false, false, false, false, false, false, false, false, false, false, false, false, false, false] rfl rfl (by kernel_rfl) (fun _ _ _ h => h) (Or.inl ⟨by rfl, ?_⟩) ?_ ?_
                            rotate_left
                            · intro w'
                              go_simp
                              with_reducible rfl
                            rotate_left
                            · simp only [Act.put, List.setIfInBounds_toArray, List.set_cons_zero, List.set_cons_succ, i64_w, i32_w]
                              rfl
                            refine pure_ (i := 17) (N := some 140) (v := ?_) (a' := ?_) #[true, true, true, true, true, true, true, true, true, true, true, true, true, true, true, true, true, true, false, false, false, false, false, false, false, false, false, false, false, false, false, false, false, false, false] rfl rfl (by kernel_rfl) (fun _ _ _ h => h) (Or.inl ⟨by rfl, ?_⟩) ?_ ?_
                            rotate_left
                            · intro w'
                              go_simp
                              with_reducible rfl
                            rotate_left
                            · simp only [Act.put, List.setIfInBounds_toArray, List.set_cons_zero, List.set_cons_succ, i64_w, i32_w]
                              rfl
                            refine pure_ (i := 18) (N := some 141) (v := ?_) (a' := ?_) #[true, true, true, true, true, true, true, true, true, true, true, true, true, true, true, true, true, true, true, false, false, false, false, false, false, false, false, false, false, false, false, false, false, false, false] rfl rfl (by kernel_rfl) (fun _ _ _ h => h) (Or.inl ⟨by rfl, ?_⟩) ?_ ?_
                            rotate_left
                            · intro w'
                              go_simp
                              with_reducible rfl
                            rotate_left
                            · simp only [Act.put, List.setIfInBounds_toArray, List.set_cons_zero, List.set_cons_succ, i64_w, i32_w]
                              rfl
                            refine pure_ (i := 19) (N := some 142) (v := ?_) (a' := ?_) #[true, true, true, true, true, true, true, true, true, true, true, true, true, true, true, true, true, true, true, true, false, false, false, false, false, false, false, false, false, false, false, false, false, false, false] rfl rfl (by kernel_rfl) (fun _ _ _ h => h) (Or.inl ⟨by rfl, ?_⟩) ?_ ?_
                            rotate_left
                            · intro w'
                              go_simp
                              with_reducible rfl
                            rotate_left
                            · simp only [Act.put, List.setIfInBounds_toArray, List.set_cons_zero, List.set_cons_succ, i64_w, i32_w]
                              rfl
                            refine pure_ (i := 20) (N := some 143) (v := ?_) (a' := ?_) #[true, true, true, true, true, true, true, true, true, true, true, true, true, true, true, true, true, true, true, true, true, false, false, false, false, false, false, false, false, false, false, false, false, false, false] rfl rfl (by kernel_rfl) (fun _ _ _ h => h) (Or.inl ⟨by rfl, ?_⟩) ?_ ?_
                            rotate_left
                            · intro w'
                              go_simp
                              with_reducible rfl
                            rotate_left
                            · simp only [Act.put, List.setIfInBounds_toArray, List.set_cons_zero, List.set_cons_succ, i64_w, i32_w]
                              rfl
                            refine pure_ (i := 21) (N := some 144) (v := ?_) (a' := ?_) #[true, true, true, true, true, true, true, true, true, true, true, true, true, true, true, true, true, true, true, true, true, true, false, false, false, false, false, false, false, false, false, false, false, false, false] rfl rfl (by kernel_rfl) (fun _ _ _ h => h) (Or.inl ⟨by rfl, ?_⟩) ?_ ?_
                            rotate_left
                            · intro w'
                              go_simp
                              with_reducible rfl
                            rotate_left
                            · simp only [Act.put, List.setIfInBounds_toArray, List.set_cons_zero, List.set_cons_succ, i64_w, i32_w]
                              rfl
                            refine pure_ (i := 22) (N := some 145) (v := ?_) (a' := ?_) #[true, true, true, true, true, true, true, true, true, true, true, true, true, true, true, true, true, true, true, true, true, true, true, false, false, false, false, false, false, false, false, false, false, false, false] rfl rfl (by kernel_rfl) (fun _ _ _ h => h) (Or.inl ⟨by rfl, ?_⟩) ?_ ?_
                            rotate_left
                            · intro w'
                              go_simp
                              with_reducible rfl
                            rotate_left
                            · simp only [Act.put, List.setIfInBounds_toArray, List.set_cons_zero, List.set_cons_succ, i64_w, i32_w]
                              rfl
                            refine pure_ (i := 23) (N := some 146) (v := ?_) (a' := ?_) #[true, true, true, true, true, true, true, true, true, true, true, true, true, true, true, true, true, true, true, true, true, true, true, true, false, false, false, false, false, false, false, false, false, false, false] rfl rfl (by kernel_rfl) (fun _ _ _ h => h) (Or.inl ⟨by rfl, ?_⟩) ?_ ?_
                            rotate_left
                            · intro w'
                              go_simp
                              with_reducible rfl
                            rotate_left
                            · simp only [Act.put, List.setIfInBounds_toArray, List.set_cons_zero, List.set_cons_succ, i64_w, i32_w]
                              rfl
                            refine pure_ (i := 25) (N := some 148) (v := ?_) (a' := ?_) #[true, true, true, true, true, true, true, true, true, true, true, true, true, true, true, true, true, true, true, true, true, true, true, true, false, true, false, false, false, false, false, false, false, false, false] rfl rfl (by kernel_rfl) (fun _ _ _ h => h) (Or.inl ⟨by rfl, ?_⟩) ?_ ?_
                            rotate_left
                            · intro w'
                              go_simp
                              with_reducible rfl
                            rotate_left
                            · simp only [Act.put, List.setIfInBounds_toArray, List.set_cons_zero, List.set_cons_succ, i64_w, i32_w]
                              rfl
                            refine pure_ (i := 26) (N := some 149) (v := ?_) (a' := ?_) #[true, true, true, true, true, true, true, true, true, true, true, true, true, true, true, true, true, true, true, true, true, true, true, true, false, true, true, false, false, false, false, false, false, false, false] rfl rfl (by kernel_rfl) (fun _ _ _ h => h) (Or.inl ⟨by rfl, ?_⟩) ?_ ?_
                            rotate_left
                            · intro w'
                              go_simp
                              with_reducible rfl
                            rotate_left
                            · simp only [Act.put, List.setIfInBounds_toArray, List.set_cons_zero, List.set_cons_succ, i64_w, i32_w]
                              rfl
                            refine pure_ (i := 27) (N := some 150) (v := ?_) (a' := ?_) #[true, true, true, true, true, true, true, true, true, true, true, true, true, true, true, true, true, true, true, true, true, true, true, true, false, true, true, true, false, false, false, false, false, false, false] rfl rfl (by kernel_rfl) (fun _ _ _ h => h) (Or.inl ⟨by rfl, ?_⟩) ?_ ?_
                            rotate_left
                            · intro w'
                              go_simp
                              with_reducible rfl
                            rotate_left
                            · simp only [Act.put, List.setIfInBounds_toArray, List.set_cons_zero, List.set_cons_succ, i64_w, i32_w]
                              rfl
                            refine pure_ (i := 28) (N := some 151) (v := ?_) (a' := ?_) #[true, true, true, true, true, true, true, true, true, true, true, true, true, true, true, true, true, true, true, true, true, true, true, true, false, true, true, true, true, false, false, false, false, false, false] rfl rfl (by kernel_rfl) (fun _ _ _ h => h) (Or.inl ⟨by rfl, ?_⟩) ?_ ?_
                            rotate_left
                            · intro w'
                              go_simp
                              with_reducible rfl
                            rotate_left
                            · simp only [Act.put, List.setIfInBounds_toArray, List.set_cons_zero, List.set_cons_succ, i64_w, i32_w]
                              rfl
                            refine pure_ (i := 29) (N := some 152) (v := ?_) (a' := ?_) #[true, true, true, true, true, true, true, true, true, true, true, true, true, true, true, true, true, true, true, true, true, true, true, true, false, true, true, true, true, true, false, false, false, false, false] rfl rfl (by kernel_rfl) (fun _ _ _ h => h) (Or.inl ⟨by rfl, ?_⟩) ?_ ?_
                            rotate_left
                            · intro w'
                              go_simp
                              with_reducible rfl
                            rotate_left
                            · simp only [Act.put, List.setIfInBounds_toArray, List.set_cons_zero, List.set_cons_succ, i64_w, i32_w]
                              rfl
                            refine pure_ (i := 30) (N := some 153) (v := ?_) (a' := ?_) #[true, true, true, true, true, true, true, true, true, true, true, true, true, true, true, true, true, true, true, true, true, true, true, true, false, true, true, true, true, true, true, false, false, false, false] rfl rfl (by kernel_rfl) (fun _ _ _ h => h) (Or.inl ⟨by rfl, ?_⟩) ?_ ?_
                            rotate_left
                            · intro w'
                              go_simp
                              with_reducible rfl
                            rotate_left
                            · simp only [Act.put, List.setIfInBounds_toArray, List.set_cons_zero, List.set_cons_succ, i64_w, i32_w]
                              rfl
                            refine take_ (i := 24) (N := some 147) (v := ?_) (a' := ?_) #[true, true, true, true, true, true, true, true, true, true, true, true, true, true, true, true, true, true, true, true, true, true, true, true, true, true, true, true, true, true, true, false, false, false, false] rfl rfl (by kernel_rfl) (fun _ _ _ h => h) (Or.inl ⟨by rfl, ?_⟩) hHeld ?_ ?_
                            rotate_left
                            · rintro w' ⟨s0, s1, s2, s3, s4, s5, s6, s7⟩
                              go_simp
                              with_reducible rfl
                            rotate_left
                            · simp only [Act.put, List.setIfInBounds_toArray, List.set_cons_zero, List.set_cons_succ, i64_w, i32_w]
                              rfl
                            refine take_ (i := 31) (N := some 154) (v := ?_) (a' := ?_) #[true, true, true, true, true, true, true, true, true, true, true, true, true, true, true, true, true, true, true, true, true, true, true, true, true, true, true, true, true, true, true, true, false, false, false] rfl rfl (by kernel_rfl) (fun _ _ _ h => h) (Or.inl ⟨by rfl, ?_⟩) hHeld ?_ ?_
                            rotate_left
                            · rintro w' ⟨s0, s1, s2, s3, s4, s5, s6, s7⟩
                              go_simp
                              with_reducible rfl
                            rotate_left
                            · simp only [Act.put, List.setIfInBounds_toArray, List.set_cons_zero, List.set_cons_succ, i64_w, i32_w]
                              rfl
                            refine pure_ (i := 32) (N := some 155) (v := ?_) (a' := ?_) #[true, true, true, true, true, true, true, true, true, true, true, true, true, true, true, true, true, true, true, true, true, true, true, true, true, true, true, true, true, true, true, true, true, false, false] rfl rfl (by kernel_rfl) (fun _ _ _ h => h) (Or.inl ⟨by rfl, ?_⟩) ?_ ?_
                            rotate_left
                            · intro w'
                              go_simp
                              with_reducible rfl
                            rotate_left
                            · simp only [Act.put, List.setIfInBounds_toArray, List.set_cons_zero, List.set_cons_succ, i64_w, i32_w]
                              rfl
                            refine pure_ (i := 33) (N := some 156) (v := ?_) (a' := ?_) #[true, true, true, true, true, true, true, true, true, true, true, true, true, true, true, true, true, true, true, true, true, true, true, true, true, true, true, true, true, true, true, true, true, true, false] rfl rfl (by kernel_rfl) (fun _ _ _ h => h) (Or.inl ⟨by rfl, ?_⟩) ?_ ?_
                            rotate_left
                            · intro w'
                              go_simp
                              with_reducible rfl
                            rotate_left
                            · simp only [Act.put, List.setIfInBounds_toArray, List.set_cons_zero, List.set_cons_succ, i64_w, i32_w]
                              rfl
                            refine pure_ (i := 34) (N := some 157) (v := ?_) (a' := ?_) #[true, true, true, true, true, true, true, true, true, true, true, true, true, true, true, true, true, true, true, true, true, true, true, true, true, true, true, true, true, true, true, true, true, true, true] rfl rfl (by kernel_rfl) (fun _ _ _ h => h) (Or.inl ⟨by rfl, ?_⟩) ?_ ?_
                            rotate_left
                            · intro w'
                              go_simp
                              with_reducible rfl
                            rotate_left
                            · simp only [Act.put, List.setIfInBounds_toArray, List.set_cons_zero, List.set_cons_succ, i64_w, i32_w]
                              rfl
                            refine done_ (by kernel_rfl) ?_
                            go_wp2
                            go_roundg k3
                            case measure => exact Nat.lt_succ_self _
                            case rel => exact ⟨j + 1, by first | rw [hw3] | simp, ⟨HJS.out⟩, ⟨below_drew HQW.out⟩⟩
                        · have d2b : decide ((j : Int) < (n7 : Int)) = false := decide_eq_false d2
                          have HBQ := Aside0.mk (HB7.out.trans (below_less HQW.out HX7.out.c.base))
                          go_wp2_with (first | (go_at_call 17; with_reducible refine (law_awake _).mono ?_; rintro e w9 ⟨rfl, hb9⟩; have HB9 := Aside0.mk (below_step HBQ.out hb9); clear hb9) | fail)
                          go_ret
                          exact ⟨rfl, HB9.out⟩
                  · have hg9 := asked_9 HRL.out HE2.out.2.1 hg
                    have HG := Aside0.mk hg
                    have HG9 := Aside0.mk hg9
                    clear hg9
                    go_wp2_with (first | (go_at_call 19; with_reducible refine (clog_fits a3 wr).mono ?_; rintro e wfs ⟨rfl, hwf⟩; have hbf := below_alloc (Below.refl wr.heap.size wr) (.cells #[.string a3] 9); have hkf := (show (wr.alloc (.cells #[.string a3] 9)).cell? ⟨wr.heap.size, 0, none⟩ = some (.string a3) from (blk_cell (blk_new wr (.cells #[.string a3] 9)) 0).trans rfl); rw [← hwf] at hbf hkf; clear hwf; have HKEYs := Aside0.mk hkf; have HBFs := Aside0.mk hbf; have HXs := Aside0.mk (HX4.out.below hbf); have HBs := Aside0.mk (HB4.out.trans (below_less hbf (Cs.c HX4.out).base)); clear hkf hbf) | (go_at_call 18; with_reducible refine (clog_Next.fits la1 w.heap.size g _ most floor last a3 _ _ HKEYs.out HXs.out.c HL2.out HQ.out).mono ?_; rintro e w5 ⟨v5, rfl, hR5, hb5⟩; rw [HD2.out, kF_eq] at hR5; obtain ⟨A5, n5, c5, rfl⟩ := rsl hR5; have HN5 := Aside0.mk (rn hR5); have HCR5 := Aside0.mk (rc hR5); have HBF5 := Aside0.mk hb5; have HX5 := Aside0.mk (HXs.out.below hb5); have HB5 := Aside0.mk (HBs.out.trans (below_less hb5 HXs.out.c.base)); clear hR5 hb5) | (go_at_call 19; with_reducible refine (clog_fits a3 w5).mono ?_; rintro e wft ⟨rfl, hwf⟩; have hbf := below_alloc (Below.refl w5.heap.size w5) (.cells #[.string a3] 9); have hkf := (show (w5.alloc (.cells #[.string a3] 9)).cell? ⟨w5.heap.size, 0, none⟩ = some (.string a3) from (blk_cell (blk_new w5 (.cells #[.string a3] 9)) 0).trans rfl); rw [← hwf] at hbf hkf; clear hwf; have HKEYt := Aside0.mk hkf; have HBFt := Aside0.mk hbf; have HXt := Aside0.mk (HX5.out.below hbf); have HBt := Aside0.mk (HB5.out.trans (below_less hbf (Cs.c HX5.out).base)); clear hkf hbf) | (go_at_call 18; with_reducible refine (clog_Next.no _ a2 w.heap.size g _ most floor last _ HXt.out.c HG.out).mono ?_; rintro e w7 ⟨rfl, hb7⟩; rw [HG9.out]; have HX7 := Aside0.mk (HXt.out.below hb7); have HB7 := Aside0.mk (HBt.out.trans (below_less hb7 HXt.out.c.base)); clear hb7) | (go_at_call 17; with_reducible refine (law_awake _).mono ?_; rintro e w9 ⟨rfl, hb9⟩; have HB9 := Aside0.mk (below_step HB7.out hb9); clear hb9) | fail)
                    go_ret
                    exact ⟨rfl, HB9.out⟩
                · have hf9 := asked_9 (Int.le_refl _) HE2.out.2.1 hf
                  have HQ := Aside0.mk hf
                  have HF9 := Aside0.mk hf9
                  clear hf9
                  go_wp2_with (first | (go_at_call 19; with_reducible refine (clog_fits a3 wr).mono ?_; rintro e wfs ⟨rfl, hwf⟩; have hbf := below_alloc (Below.refl wr.heap.size wr) (.cells #[.string a3] 9); have hkf := (show (wr.alloc (.cells #[.string a3] 9)).cell? ⟨wr.heap.size, 0, none⟩ = some (.string a3) from (blk_cell (blk_new wr (.cells #[.string a3] 9)) 0).trans rfl); rw [← hwf] at hbf hkf; clear hwf; have HKEYs := Aside0.mk hkf; have HBFs := Aside0.mk hbf; have HXs := Aside0.mk (HX4.out.below hbf); have HBs := Aside0.mk (HB4.out.trans (below_less hbf (Cs.c HX4.out).base)); clear hkf hbf) | (go_at_call 18; with_reducible refine (clog_Next.no _ la1 w.heap.size g _ most floor last _ HXs.out.c HQ.out).mono ?_; rintro e w5 ⟨rfl, hb5⟩; rw [HF9.out]; have HX5 := Aside0.mk (HXs.out.below hb5); have HB5 := Aside0.mk (HBs.out.trans (below_less hb5 HXs.out.c.base)); clear hb5) | (go_at_call 19; with_reducible refine (clog_fits a3 w5).mono ?_; rintro e wft ⟨rfl, hwf⟩; have hbf := below_alloc (Below.refl w5.heap.size w5) (.cells #[.string a3] 9); have hkf := (show (w5.alloc (.cells #[.string a3] 9)).cell? ⟨w5.heap.size, 0, none⟩ = some (.string a3) from (blk_cell (blk_new w5 (.cells #[.string a3] 9)) 0).trans rfl); rw [← hwf] at hbf hkf; clear hwf; have HKEYt := Aside0.mk hkf; have HBFt := Aside0.mk hbf; have HXt := Aside0.mk (HX5.out.below hbf); have HBt := Aside0.mk (HB5.out.trans (below_less hbf (Cs.c HX5.out).base)); clear hkf hbf) | (go_at_call 18; with_reducible refine (clog_NextAny a2 w.heap.size g _ most floor last a3 _ _ HKEYt.out HXt.out.c HL2.out).mono ?_; rintro e w7 ⟨v7, t7, f7, rfl, hb7⟩; have HX7 := Aside0.mk (HXt.out.below hb7); have HB7 := Aside0.mk (HBt.out.trans (below_less hb7 HXt.out.c.base)); clear hb7) | (go_at_call 17; with_reducible refine (law_awake _).mono ?_; rintro e w9 ⟨rfl, hb9⟩; have HB9 := Aside0.mk (below_step HB7.out hb9); clear hb9) | fail)
                  go_ret
                  exact ⟨rfl, HB9.out⟩
        · obtain ⟨E0, hE0⟩ : ∃ E, cAsked a2 floor last = E := ⟨_, rfl⟩
          have HE := Aside0.mk hE
          have HE0 := Aside0.mk hE0
          rw [hE0] at hE
          have hne : (E0 == 0) = false := by simpa using hE
          have hne2 : (E0 != 0) = true := by simpa using hE
          clear hE0
          have HX2 := HX
          have HB2 := HW
          go_wp2_with (first | (go_at_call 19; with_reducible refine (clog_fits a3 wr).mono ?_; rintro e wff ⟨rfl, hwf⟩; have hbf := below_alloc (Below.refl wr.heap.size wr) (.cells #[.string a3] 9); have hkf := (show (wr.alloc (.cells #[.string a3] 9)).cell? ⟨wr.heap.size, 0, none⟩ = some (.string a3) from (blk_cell (blk_new wr (.cells #[.string a3] 9)) 0).trans rfl); rw [← hwf] at hbf hkf; clear hwf; have HKEYf := Aside0.mk hkf; have HBFf := Aside0.mk hbf; have HXf := Aside0.mk (HX2.out.below hbf); have HBf := Aside0.mk (HB2.out.trans (below_less hbf (Cs.c HX2.out).base)); clear hkf hbf) | (go_at_call 18; with_reducible refine (clog_Next.no _ a2 w.heap.size g _ most floor last _ HXf.out.c HE.out).mono ?_; rintro e w3 ⟨rfl, hb3⟩; rw [HE0.out]; have HX3 := Aside0.mk (HXf.out.below hb3); have HB3 := Aside0.mk (HBf.out.trans (below_less hb3 HXf.out.c.base)); clear hb3) | fail)
          clear HX2 HB2 HX HW HKEYf HBFf HXf HBf
          go_loopg [52] (l1.length + 1) (fun kq v30 wr => ∃ (i n : Nat) (L : List S53) (floor last : Int), v30 = .int .i64 (i : Int) ∧ Aside0 (i + kq = l1.length + 1 ∧ i ≤ l1.length ∧ n ≤ 24 ∧ n ≤ 12 + i) ∧ Aside0 (Cs wr w.heap.size g g2 n L most floor last) ∧ Aside0 (Below w.heap.size w wr))
          case atStart => exact ⟨0, n, L, floor, last, rfl, ⟨by omega, by omega, by have := HN12.out; omega, by have := HN12.out; omega⟩, ⟨HX3.out⟩, ⟨HB3.out⟩⟩
          case round =>
            clear HX3 HB3 HE HE0
            clear HN12
            obtain ⟨i, n, L, floor, last, rfl, HI, HX, HW⟩ := hrel
            cases gk with
            | zero => have := HI.out; omega
            | succ k2 =>
              by_cases c2 : (i : Int) < (l1.length : Int)
              · have c2b : decide ((i : Int) < (l1.length : Int)) = true := decide_eq_true c2
                have p2 : (0 : Int) ≤ (i : Int) := by omega
                obtain ⟨ad2, AO, cO, e2, hx0, hx1, hlc, hO_⟩ := at_T29 (Kd.C_below HC1.out HW.out) (i : Int) p2 c2
                cases e2
                have p2t : ((0 : Int) ≤ (i : Int)) = True := eq_true p2
                have q2t : ((i : Int) < (l1.length : Int)) = True := eq_true c2
                have q2n : (i < l1.length) = True := eq_true (by omega)
                simp only [Int.toNat_natCast] at hx0 hx1 hlc hO_
                have hw2 : wrap64 ((i : Int) + 1) = ((i + 1 : Nat) : Int) := by have := HC1.out.2.1; unfold wrap64; omega
                obtain ⟨x, hx⟩ : ∃ x, rd_T29 l1 (i : Int) = x := ⟨_, rfl⟩
                rw [hx] at hx0 hx1 hlc hO_
                clear hx hlc
                have HX1 := Aside0.mk (HX.out.below (below_alloc (Below.refl _ _) (.cells #[.int .i64 x.f0, .slice AO x.f1.length cO] 29)))
                have HB1 := Aside0.mk (below_alloc HW.out (.cells #[.int .i64 x.f0, .slice AO x.f1.length cO] 29))
                have HO1 := Aside0.mk (Kd.C_alloc hO_ (.cells #[.int .i64 x.f0, .slice AO x.f1.length cO] 29))
                have HOL1 := Aside0.mk (show x.f1.length ≤ 9223372036854775807 from hO_.2.1)
                have HI60 := Aside0.mk (show n ≤ 60 by have := HI.out; omega)
                by_cases c25 : i < 12
                · have c25b : decide ((i : Int) < 12) = true := decide_eq_true (by omega)
                  have HST := Aside0.mk (jstepA HI.out c2 c25)
                  obtain ⟨⟨L2, fl2, la2⟩, hAS⟩ : ∃ R, addSt n L most floor last x.f0 x.f1 = R := ⟨_, rfl⟩
                  have HAS := Aside0.mk hAS
                  clear hAS hO_ HX
                  go_wp2_with (first | (go_at_call 9; with_reducible refine (law_add w.heap.size g g2 n x.f0 AO cO x.f1 L most floor last _ HX1.out HI60.out HO1.out HOL1.out).mono ?_; rintro e w4 ⟨rfl, hX3, hb3, hk3⟩; rw [HAS.out] at hX3; dsimp only at hX3; have HX3 := Aside0.mk hX3; have HB3 := Aside0.mk (HB1.out.trans hb3); have HK3 := Aside0.mk hk3; have HS4 := Aside0.mk hb3.size; clear hX3 hb3 hk3) | fail)
                  go_roundg k2
                  case measure => exact Nat.lt_succ_self _
                  case rel => exact ⟨i + 1, n + 1, L2, fl2, la2, by first | rw [hw2] | simp, ⟨HST.out⟩, ⟨HX3.out⟩, ⟨HB3.out⟩⟩
                · have c25b : decide ((i : Int) < 12) = false := decide_eq_false (by omega)
                  have HST := Aside0.mk (jstepB HI.out c2)
                  clear hO_
                  go_wp2_with fail
                  go_roundg k2
                  case measure => exact Nat.lt_succ_self _
                  case rel => exact ⟨i + 1, n, L, floor, last, by first | rw [hw2] | simp, ⟨HST.out⟩, ⟨HX1.out⟩, ⟨HB1.out⟩⟩
              · have c2b : decide ((i : Int) < (l1.length : Int)) = false := decide_eq_false c2
                have HI60 := Aside0.mk (show n ≤ 60 by have := HI.out; omega)
                have HL2 := Aside0.mk (Nat.le_trans (HX.out.len2 HI60.out) (show 360 ≤ 1000 by omega))
                clear HI
                have HX4 := HX
                have HB4 := HW
                go_wp2_with (first | (go_at_call 19; with_reducible refine (clog_fits a3 wr).mono ?_; rintro e wfs ⟨rfl, hwf⟩; have hbf := below_alloc (Below.refl wr.heap.size wr) (.cells #[.string a3] 9); have hkf := (show (wr.alloc (.cells #[.string a3] 9)).cell? ⟨wr.heap.size, 0, none⟩ = some (.string a3) from (blk_cell (blk_new wr (.cells #[.string a3] 9)) 0).trans rfl); rw [← hwf] at hbf hkf; clear hwf; have HKEYs := Aside0.mk hkf; have HBFs := Aside0.mk hbf; have HXs := Aside0.mk (HX4.out.below hbf); have HBs := Aside0.mk (HB4.out.trans (below_less hbf (Cs.c HX4.out).base)); clear hkf hbf) | (go_at_call 18; with_reducible refine (clog_NextAny 0 w.heap.size g _ most floor last a3 _ _ HKEYs.out HXs.out.c HL2.out).mono ?_; rintro e w5 ⟨v5, t5, f5, rfl, hb5⟩; have HX5 := Aside0.mk (HXs.out.below hb5); have HB5 := Aside0.mk (HBs.out.trans (below_less hb5 HXs.out.c.base)); clear hb5) | (go_at_call 19; with_reducible refine (clog_fits a3 w5).mono ?_; rintro e wft ⟨rfl, hwf⟩; have hbf := below_alloc (Below.refl w5.heap.size w5) (.cells #[.string a3] 9); have hkf := (show (w5.alloc (.cells #[.string a3] 9)).cell? ⟨w5.heap.size, 0, none⟩ = some (.string a3) from (blk_cell (blk_new w5 (.cells #[.string a3] 9)) 0).trans rfl); rw [← hwf] at hbf hkf; clear hwf; have HKEYt := Aside0.mk hkf; have HBFt := Aside0.mk hbf; have HXt := Aside0.mk (HX5.out.below hbf); have HBt := Aside0.mk (HB5.out.trans (below_less hbf (Cs.c HX5.out).base)); clear hkf hbf) | (go_at_call 18; with_reducible refine (clog_NextAny a2 w.heap.size g _ most floor last a3 _ _ HKEYt.out HXt.out.c HL2.out).mono ?_; rintro e w7 ⟨v7, t7, f7, rfl, hb7⟩; have HX7 := Aside0.mk (HXt.out.below hb7); have HB7 := Aside0.mk (HBt.out.trans (below_less hb7 HXt.out.c.base)); clear hb7) | (go_at_call 17; with_reducible refine (law_awake _).mono ?_; rintro e w9 ⟨rfl, hb9⟩; have HB9 := Aside0.mk (below_step HB7.out hb9); clear hb9) | fail)
                go_ret
                exact ⟨rfl, HB9.out⟩
def larumlaw20_ClogChained.f (k : Nat) (l0 : List (S29)) (l1 : List (S29)) (a2 : Int) (a3 : ByteArray) : Option (Bool) := some true
def larumlaw20_ClogChained.Pure : Prop := ∀ (l0 : List (S29)) (l1 : List (S29)) (a2 : Int) (a3 : ByteArray), ∃ k, larumlaw20_ClogChained.f k l0 l1 a2 a3 = some true
theorem larumlaw20_ClogChained.walk (P : larumlaw20_ClogChained.Pure) (A0 : Option Addr) (c0 : Nat) (l0 : List (S29)) (A1 : Option Addr) (c1 : Nat) (l1 : List (S29)) (a2 : Int) (a3 : ByteArray) (w : World) (hr0 : Kd.C k29 w A0 l0.length l0) (hc0 : l0.length ≤ c0) (hm0 : l0.length ≤ 9223372036854775807) {QH : Prop} (hg0 : QH) (hr1 : Kd.C k29 w A1 l1.length l1) (hc1 : l1.length ≤ c1) (hm1 : l1.length ≤ 9223372036854775807) {QG : Prop} (hg1 : QG) (w2 : (Lit.int .i64 a2).wf = true) {QS : Prop} (w3 : QS) :
    Calls Try.prog 5 #[.slice A0 l0.length c0, .slice A1 l1.length c1, .int .i64 a2, .string a3] w fun e w' => e = .returned (.bool true) ∧ Below w.heap.size w w' := larumlaw20_ClogChained.callsS A0 c0 l0 A1 c1 l1 a2 a3 w hr0 hr1


end Go.Proofs.Ytfdoeehngkdnnaa.PClogChained
