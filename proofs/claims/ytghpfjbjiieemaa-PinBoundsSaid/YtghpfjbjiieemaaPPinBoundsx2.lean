-- By gp.py, a program of this session: the print of the kit with contracts of this session's own beside it.
import Derived.Test.YtghpfjbjiieemaaPPinBoundsx0
namespace Go.Proofs.Ytghpfjbjiieemaa.PPinBounds
open Go.RowKit Go.Proofs.Ytghpfjbjiieemaa.Gp Go.Proofs.YtghpfjbjiieemaaW.PrintWords Go.Proofs.YtghpfjbjiieemaaW.PrintLast Go.Proofs.YtghpfjbjiieemaaW.PrintMore
attribute [local go_sem] max2_int min2_int max_two min_two max_three min_three max_four min_four gp_gtr gp_leq gp_geq   -- for this text's walks alone
set_option linter.unusedVariables false
set_option linter.unusedSimpArgs false

/-! ### larumlaw21_PinBounds: function 4 -/
def Keeps (T : List Nat) (w w' : World) : Prop := ∀ (k : Nat) (cs : Array Value) (t : TypeId), w.heap[k]? = some (.cells cs t (0, 0)) → t ∉ T → w'.heap[k]? = some (.cells cs t (0, 0))
theorem Keeps.refl {T : List Nat} (w : World) : Keeps T w w := fun _ _ _ h _ => h
theorem Keeps.trans {T : List Nat} {a b c : World} (h : Keeps T a b) (h' : Keeps T b c) : Keeps T a c := fun k cs t hk hn => h' k cs t (h k cs t hk hn) hn
theorem Keeps.below {T : List Nat} {w w' : World} (hb : Below w.heap.size w w') : Keeps T w w' := fun _ _ _ hk _ => blk_below hk hb
theorem Keeps.set {T : List Nat} {w : World} {g : Nat} {c : Array Value} {t : TypeId} (h : w.heap[g]? = some (.cells c t (0, 0))) (ht : t ∈ T) (i : Nat) (u : Value) : Keeps T w (w.setCell ⟨g, i, none⟩ u) := fun k cs t' hk hn => blk_far hk (by
  rintro rfl
  rw [h] at hk
  injection hk with hk
  injection hk with _ h2
  exact hn (h2 ▸ ht)) u
theorem Keeps.grown {T : List Nat} {α : Type} {d : Kd α} {e : Nat} {w w' : World} {base : Nat} {ok : Nat → Prop} {v : Value} {xs : List α} (hR : d.R e w base ok v xs) (he : e ∈ T) (hg : w.grownBy w' v.ownBlock) : Keeps T w w' := fun k cs t' hk hn => blk_grown hk hg (Kd.R_ne hR hk (fun e_ => hn (e_ ▸ he)))
theorem Keeps.cells {T : List Nat} {g : Nat} {t : TypeId} (ht : t ∈ T) : ∀ (seg : List Value) (o : Nat) {w : World} {c : Array Value}, w.heap[g]? = some (.cells c t (0, 0)) → Keeps T w (w.setCells g o seg)
  | [], _, w, _, _ => Keeps.refl w
  | u :: r, o, _, _, h => (Keeps.set h ht o u).trans (Keeps.cells ht r (o + 1) (blk_set h o u))
theorem R_keeps {T : List Nat} {α : Type} {d : Kd α} {e : Nat} {w w' : World} {base : Nat} {ok : Nat → Prop} {v : Value} {xs : List α} (h : d.R e w base ok v xs) (hk : Keeps T w w') (ht : ∀ q, q ∈ e :: d.E → q ∉ T) : d.R e w' base ok v xs :=
  Kd.R_mono (Kd.R_move (Kd.R_bound h) (fun k hk' => by
    obtain ⟨_, _, _, q, hq, cells, hc⟩ := hk'
    rw [hc]
    exact hk k cells q hc (ht q hq))) (fun _ hk => hk.1)
def PinSt (w : World) (base g : Nat) (L : List S52) (most last : Int) : Prop := ∃ v, w.heap[g]? = some (.cells #[v, .int .i64 most, .int .i64 last] 48 (0, 0)) ∧ base ≤ g ∧ Kd.R k52 52 w base (fun _ => True) v L
theorem PinSt.below {w w' : World} {base g : Nat} {L : List S52} {most last : Int} (h : PinSt w base g L most last) (hb : Below w.heap.size w w') : PinSt w' base g L most last := by
  obtain ⟨v, h1, h2, h3⟩ := h
  exact ⟨v, blk_below h1 hb, h2, Kd.R_below h3 hb⟩
theorem PinSt.keeps {w w' : World} {base g : Nat} {L : List S52} {most last : Int} (h : PinSt w base g L most last) (hk : Keeps [38, 50] w w') : PinSt w' base g L most last := by
  obtain ⟨v, h1, h2, h3⟩ := h
  exact ⟨v, hk _ _ _ h1 (by decide), h2, R_keeps h3 hk (by decide)⟩
def pinIdx (p : S52 → Bool) : List S52 → Int → Int
  | [], _ => -1
  | x :: r, i => if p x = true then i else pinIdx p r (i + 1)
theorem rd52_at (xs : List S52) (i : Nat) (h : i < xs.length) : rd_T52 xs (i : Int) = xs[i] := by
  unfold rd_T52
  rw [Int.toNat_natCast, List.getD_eq_getElem?_getD, List.getElem?_eq_getElem h]
  rfl
theorem drop52 (xs : List S52) (i : Nat) (h : i < xs.length) : xs.drop i = rd_T52 xs (i : Int) :: xs.drop (i + 1) := by
  rw [rd52_at xs i h]
  exact List.drop_eq_getElem_cons h
set_option maxHeartbeats 8000000 in
set_option maxRecDepth 100000 in
theorem pin_cl30 (id_ : Int) (x : S52) (b : Nat) (w : World) (hc : w.cell? ⟨b, 0, none⟩ = some (.int .i64 id_)) : Calls Try.prog 30 #[.agg #[.int .i64 x.f0, .int .i64 x.f1, .int .i64 x.f2], .pointer (some ⟨b, 0, none⟩)] w fun e w' => e = .returned (.bool (x.f0 == id_)) ∧ Below w.heap.size w w' := by
  have hu52 := Try.underlying52
  have hc2 := ((below_alloc (Below.refl w.heap.size w) (.cells #[.int .i64 x.f0, .int .i64 x.f1, .int .i64 x.f2] 52)).cell (p := ⟨b, 0, none⟩) (World.block_lt_of_cell? _ _ hc)).trans hc
  have hbl : b < w.heap.size := World.block_lt_of_cell? _ _ hc
  have hbn : b ≠ w.heap.size := Nat.ne_of_lt hbl
  go_enter Try.func30, Try.ntmps30
  go_wp2
  go_ret
  exact ⟨by simp, below_alloc (Below.refl _ _) _⟩
set_option maxHeartbeats 8000000 in
set_option maxRecDepth 100000 in
theorem pin_IndexFunc30 (id_ : Int) (b : Nat) (A : Option Addr) (c : Nat) (L : List S52) (w : World) (hC : Kd.C k52 w A L.length L) (hc : w.cell? ⟨b, 0, none⟩ = some (.int .i64 id_)) (hlen : L.length ≤ 100000) :
    Calls Try.prog 29 #[.slice A L.length c, .func (.func 30) #[] #[.pointer (some ⟨b, 0, none⟩)]] w fun e w' => e = .returned (.int .i64 (pinIdx (fun x => x.f0 == id_) L 0)) ∧ Below w.heap.size w w' := by
  have hu52 := Try.underlying52
  have hu46 := Try.underlying46
  have HC := Aside0.mk hC
  have HCC := Aside0.mk hc
  have HLEN := Aside0.mk hlen
  clear hC hc hlen
  go_enter Try.func29, Try.ntmps29
  go_wp2
  go_loopg [8] (L.length + 1) (fun kq v8 wr => ∃ i : Nat, v8 = .int .i64 (i : Int) ∧ Aside0 (i + kq = L.length + 1 ∧ i ≤ L.length ∧ pinIdx (fun x => x.f0 == id_) L 0 = pinIdx (fun x => x.f0 == id_) (L.drop i) (i : Int)) ∧ Aside0 (Below w.heap.size w wr))
  case atStart => exact ⟨0, rfl, ⟨by omega, by omega, rfl⟩, ⟨Below.refl _ _⟩⟩
  case round =>
    obtain ⟨i, rfl, HI, HW⟩ := hrel
    cases gk with
    | zero => have := HI.out; omega
    | succ k1 =>
      by_cases c2 : (i : Int) < (L.length : Int)
      · have c2b : decide ((i : Int) < (L.length : Int)) = true := decide_eq_true c2
        have p2 : (0 : Int) ≤ (i : Int) := by omega
        obtain ⟨ad2, e2, hx0, hx1, hx2⟩ := at_T52 (Kd.C_below HC.out HW.out) (i : Int) p2 c2
        cases e2
        have p2t : ((0 : Int) ≤ (i : Int)) = True := eq_true p2
        have q2t : ((i : Int) < (L.length : Int)) = True := eq_true c2
        have q2n : (i < L.length) = True := eq_true (by omega)
        simp only [Int.toNat_natCast] at hx0 hx1 hx2
        have hw2 : wrap64 ((i : Int) + 1) = ((i + 1 : Nat) : Int) := by have := HLEN.out; unfold wrap64; omega
        have hd := drop52 L i (by omega)
        obtain ⟨x, hx⟩ : ∃ x, rd_T52 L (i : Int) = x := ⟨_, rfl⟩
        rw [hx] at hx0 hx1 hx2 hd
        have hcc := (HW.out.cell (p := ⟨b, 0, none⟩) (World.block_lt_of_cell? _ _ HCC.out)).trans HCC.out
        cases hp : (x.f0 == id_) with
        | true =>
          go_wp2_with (go_at_call 30; refine (pin_cl30 id_ x b _ hcc).mono ?_; rintro e w2 ⟨rfl, hb2⟩; rw [hp])
          go_ret
          have hk := HI.out.2.2
          rw [hd] at hk
          simp only [pinIdx, hp, if_true] at hk
          exact ⟨by rw [hk]; rfl, below_step HW.out hb2⟩
        | false =>
          go_wp2_with (go_at_call 30; refine (pin_cl30 id_ x b _ hcc).mono ?_; rintro e w2 ⟨rfl, hb2⟩; rw [hp])
          go_roundg k1
          case measure => omega
          case rel =>
            have hk := HI.out.2.2
            rw [hd] at hk
            simp only [pinIdx, hp, Bool.false_eq_true, if_false] at hk
            exact ⟨i + 1, by first | rw [hw2] | simp, ⟨by have := HI.out; omega, by omega, by rw [hk]; rfl⟩, ⟨below_step HW.out hb2⟩⟩
      · have c2b : decide ((i : Int) < (L.length : Int)) = false := decide_eq_false c2
        go_wp2
        go_ret
        have hk := HI.out.2.2
        rw [List.drop_of_length_le (by omega)] at hk
        exact ⟨by rw [hk]; rfl, HW.out⟩
set_option maxHeartbeats 8000000 in
set_option maxRecDepth 100000 in
theorem pin_cl27 (id_ : Int) (x : S52) (b : Nat) (w : World) (hc : w.cell? ⟨b, 0, none⟩ = some (.int .i64 id_)) : Calls Try.prog 27 #[.agg #[.int .i64 x.f0, .int .i64 x.f1, .int .i64 x.f2], .pointer (some ⟨b, 0, none⟩)] w fun e w' => e = .returned (.bool (x.f0 == id_)) ∧ Below w.heap.size w w' := by
  have hu52 := Try.underlying52
  have hc2 := ((below_alloc (Below.refl w.heap.size w) (.cells #[.int .i64 x.f0, .int .i64 x.f1, .int .i64 x.f2] 52)).cell (p := ⟨b, 0, none⟩) (World.block_lt_of_cell? _ _ hc)).trans hc
  have hbl : b < w.heap.size := World.block_lt_of_cell? _ _ hc
  have hbn : b ≠ w.heap.size := Nat.ne_of_lt hbl
  go_enter Try.func27, Try.ntmps27
  go_wp2
  go_ret
  exact ⟨by simp, below_alloc (Below.refl _ _) _⟩
set_option maxHeartbeats 8000000 in
set_option maxRecDepth 100000 in
theorem pin_IndexFunc27 (id_ : Int) (b : Nat) (A : Option Addr) (c : Nat) (L : List S52) (w : World) (hC : Kd.C k52 w A L.length L) (hc : w.cell? ⟨b, 0, none⟩ = some (.int .i64 id_)) (hlen : L.length ≤ 100000) :
    Calls Try.prog 29 #[.slice A L.length c, .func (.func 27) #[] #[.pointer (some ⟨b, 0, none⟩)]] w fun e w' => e = .returned (.int .i64 (pinIdx (fun x => x.f0 == id_) L 0)) ∧ Below w.heap.size w w' := by
  have hu52 := Try.underlying52
  have hu46 := Try.underlying46
  have HC := Aside0.mk hC
  have HCC := Aside0.mk hc
  have HLEN := Aside0.mk hlen
  clear hC hc hlen
  go_enter Try.func29, Try.ntmps29
  go_wp2
  go_loopg [8] (L.length + 1) (fun kq v8 wr => ∃ i : Nat, v8 = .int .i64 (i : Int) ∧ Aside0 (i + kq = L.length + 1 ∧ i ≤ L.length ∧ pinIdx (fun x => x.f0 == id_) L 0 = pinIdx (fun x => x.f0 == id_) (L.drop i) (i : Int)) ∧ Aside0 (Below w.heap.size w wr))
  case atStart => exact ⟨0, rfl, ⟨by omega, by omega, rfl⟩, ⟨Below.refl _ _⟩⟩
  case round =>
    obtain ⟨i, rfl, HI, HW⟩ := hrel
    cases gk with
    | zero => have := HI.out; omega
    | succ k1 =>
      by_cases c2 : (i : Int) < (L.length : Int)
      · have c2b : decide ((i : Int) < (L.length : Int)) = true := decide_eq_true c2
        have p2 : (0 : Int) ≤ (i : Int) := by omega
        obtain ⟨ad2, e2, hx0, hx1, hx2⟩ := at_T52 (Kd.C_below HC.out HW.out) (i : Int) p2 c2
        cases e2
        have p2t : ((0 : Int) ≤ (i : Int)) = True := eq_true p2
        have q2t : ((i : Int) < (L.length : Int)) = True := eq_true c2
        have q2n : (i < L.length) = True := eq_true (by omega)
        simp only [Int.toNat_natCast] at hx0 hx1 hx2
        have hw2 : wrap64 ((i : Int) + 1) = ((i + 1 : Nat) : Int) := by have := HLEN.out; unfold wrap64; omega
        have hd := drop52 L i (by omega)
        obtain ⟨x, hx⟩ : ∃ x, rd_T52 L (i : Int) = x := ⟨_, rfl⟩
        rw [hx] at hx0 hx1 hx2 hd
        have hcc := (HW.out.cell (p := ⟨b, 0, none⟩) (World.block_lt_of_cell? _ _ HCC.out)).trans HCC.out
        cases hp : (x.f0 == id_) with
        | true =>
          go_wp2_with (go_at_call 27; refine (pin_cl27 id_ x b _ hcc).mono ?_; rintro e w2 ⟨rfl, hb2⟩; rw [hp])
          go_ret
          have hk := HI.out.2.2
          rw [hd] at hk
          simp only [pinIdx, hp, if_true] at hk
          exact ⟨by rw [hk]; rfl, below_step HW.out hb2⟩
        | false =>
          go_wp2_with (go_at_call 27; refine (pin_cl27 id_ x b _ hcc).mono ?_; rintro e w2 ⟨rfl, hb2⟩; rw [hp])
          go_roundg k1
          case measure => omega
          case rel =>
            have hk := HI.out.2.2
            rw [hd] at hk
            simp only [pinIdx, hp, Bool.false_eq_true, if_false] at hk
            exact ⟨i + 1, by first | rw [hw2] | simp, ⟨by have := HI.out; omega, by omega, by rw [hk]; rfl⟩, ⟨below_step HW.out hb2⟩⟩
      · have c2b : decide ((i : Int) < (L.length : Int)) = false := decide_eq_false c2
        go_wp2
        go_ret
        have hk := HI.out.2.2
        rw [List.drop_of_length_le (by omega)] at hk
        exact ⟨by rw [hk]; rfl, HW.out⟩
set_option maxHeartbeats 8000000 in
set_option maxRecDepth 100000 in
theorem pin_cl28 (id_ : Int) (x : S52) (b : Nat) (w : World) (hc : w.cell? ⟨b, 0, none⟩ = some (.int .i64 id_)) : Calls Try.prog 28 #[.agg #[.int .i64 x.f0, .int .i64 x.f1, .int .i64 x.f2], .pointer (some ⟨b, 0, none⟩)] w fun e w' => e = .returned (.bool (decide (x.f2 ≤ id_))) ∧ Below w.heap.size w w' := by
  have hu52 := Try.underlying52
  have hc2 := ((below_alloc (Below.refl w.heap.size w) (.cells #[.int .i64 x.f0, .int .i64 x.f1, .int .i64 x.f2] 52)).cell (p := ⟨b, 0, none⟩) (World.block_lt_of_cell? _ _ hc)).trans hc
  have hbl : b < w.heap.size := World.block_lt_of_cell? _ _ hc
  have hbn : b ≠ w.heap.size := Nat.ne_of_lt hbl
  go_enter Try.func28, Try.ntmps28
  go_wp2
  go_ret
  exact ⟨by simp, below_alloc (Below.refl _ _) _⟩
set_option maxHeartbeats 8000000 in
set_option maxRecDepth 100000 in
theorem pin_IndexFunc28 (id_ : Int) (b : Nat) (A : Option Addr) (c : Nat) (L : List S52) (w : World) (hC : Kd.C k52 w A L.length L) (hc : w.cell? ⟨b, 0, none⟩ = some (.int .i64 id_)) (hlen : L.length ≤ 100000) :
    Calls Try.prog 29 #[.slice A L.length c, .func (.func 28) #[] #[.pointer (some ⟨b, 0, none⟩)]] w fun e w' => e = .returned (.int .i64 (pinIdx (fun x => decide (x.f2 ≤ id_)) L 0)) ∧ Below w.heap.size w w' := by
  have hu52 := Try.underlying52
  have hu46 := Try.underlying46
  have HC := Aside0.mk hC
  have HCC := Aside0.mk hc
  have HLEN := Aside0.mk hlen
  clear hC hc hlen
  go_enter Try.func29, Try.ntmps29
  go_wp2
  go_loopg [8] (L.length + 1) (fun kq v8 wr => ∃ i : Nat, v8 = .int .i64 (i : Int) ∧ Aside0 (i + kq = L.length + 1 ∧ i ≤ L.length ∧ pinIdx (fun x => decide (x.f2 ≤ id_)) L 0 = pinIdx (fun x => decide (x.f2 ≤ id_)) (L.drop i) (i : Int)) ∧ Aside0 (Below w.heap.size w wr))
  case atStart => exact ⟨0, rfl, ⟨by omega, by omega, rfl⟩, ⟨Below.refl _ _⟩⟩
  case round =>
    obtain ⟨i, rfl, HI, HW⟩ := hrel
    cases gk with
    | zero => have := HI.out; omega
    | succ k1 =>
      by_cases c2 : (i : Int) < (L.length : Int)
      · have c2b : decide ((i : Int) < (L.length : Int)) = true := decide_eq_true c2
        have p2 : (0 : Int) ≤ (i : Int) := by omega
        obtain ⟨ad2, e2, hx0, hx1, hx2⟩ := at_T52 (Kd.C_below HC.out HW.out) (i : Int) p2 c2
        cases e2
        have p2t : ((0 : Int) ≤ (i : Int)) = True := eq_true p2
        have q2t : ((i : Int) < (L.length : Int)) = True := eq_true c2
        have q2n : (i < L.length) = True := eq_true (by omega)
        simp only [Int.toNat_natCast] at hx0 hx1 hx2
        have hw2 : wrap64 ((i : Int) + 1) = ((i + 1 : Nat) : Int) := by have := HLEN.out; unfold wrap64; omega
        have hd := drop52 L i (by omega)
        obtain ⟨x, hx⟩ : ∃ x, rd_T52 L (i : Int) = x := ⟨_, rfl⟩
        rw [hx] at hx0 hx1 hx2 hd
        have hcc := (HW.out.cell (p := ⟨b, 0, none⟩) (World.block_lt_of_cell? _ _ HCC.out)).trans HCC.out
        cases hp : (decide (x.f2 ≤ id_)) with
        | true =>
          go_wp2_with (go_at_call 28; refine (pin_cl28 id_ x b _ hcc).mono ?_; rintro e w2 ⟨rfl, hb2⟩; rw [hp])
          go_ret
          have hk := HI.out.2.2
          rw [hd] at hk
          simp only [pinIdx, hp, if_true] at hk
          exact ⟨by rw [hk]; rfl, below_step HW.out hb2⟩
        | false =>
          go_wp2_with (go_at_call 28; refine (pin_cl28 id_ x b _ hcc).mono ?_; rintro e w2 ⟨rfl, hb2⟩; rw [hp])
          go_roundg k1
          case measure => omega
          case rel =>
            have hk := HI.out.2.2
            rw [hd] at hk
            simp only [pinIdx, hp, Bool.false_eq_true, if_false] at hk
            exact ⟨i + 1, by first | rw [hw2] | simp, ⟨by have := HI.out; omega, by omega, by rw [hk]; rfl⟩, ⟨below_step HW.out hb2⟩⟩
      · have c2b : decide ((i : Int) < (L.length : Int)) = false := decide_eq_false c2
        go_wp2
        go_ret
        have hk := HI.out.2.2
        rw [List.drop_of_length_le (by omega)] at hk
        exact ⟨by rw [hk]; rfl, HW.out⟩
set_option maxHeartbeats 8000000 in
set_option maxRecDepth 100000 in
theorem pin_New.callsS (a : Int) (base : Nat) (w : World) (hbase : base ≤ w.heap.size) : Calls Try.prog 6 #[.int .i64 a] w fun e w' => ∃ g_ : Nat, e = .returned (.pointer (some ⟨g_, 0, none⟩)) ∧ PinSt w' base g_ [] (mx a 1) 0 ∧ Below w.heap.size w w' := by
  have hu48 := Try.underlying48
  have HBS := Aside0.mk hbase
  clear hbase
  obtain ⟨m, hm⟩ : ∃ m, mx a 1 = m := ⟨_, rfl⟩
  have hm2 : (if a < 1 then 1 else a) = m := hm
  rw [hm]
  clear hm
  go_enter Try.func6, Try.ntmps6
  go_wp2_with (first | ((with_reducible refine gate_dst (N := 6) rfl ?_); refine box_event ?hg (N := 6) ?hd (cs := #[.slice none 0 0, .int .i64 m, .int .i64 0]) (t := 48) ?hr ?_; (case hd => rfl); (case hg => rfl); (case hr => first | (go_simp; done) | (go_simp; rfl)); intro gb101 hg w3 hbox hb; have BK := Aside0.mk hbox; have HG := Aside0.mk hg; have HB3 := Aside0.mk hb; clear hb hbox hg))
  go_ret
  exact ⟨_, rfl, ⟨_, BK.out, by rw [HG.out]; exact HBS.out, Kd.R_nil _ _ _ _ _⟩, HB3.out⟩
set_option maxHeartbeats 8000000 in
set_option maxRecDepth 100000 in
theorem pin_Len.callsS (base g : Nat) (L : List S52) (most last : Int) (w : World) (h : PinSt w base g L most last) : Calls Try.prog 9 #[.pointer (some ⟨g, 0, none⟩)] w fun e w' => e = .returned (.int .i64 L.length) ∧ Below w.heap.size w w' := by
  have hu48 := Try.underlying48
  have hu52 := Try.underlying52
  have hu46 := Try.underlying46
  have hu23 := Try.underlying23
  have HS := Aside0.mk h
  obtain ⟨v, hb, hg, hR⟩ := h
  obtain ⟨A, c, rfl⟩ := Kd.R_slice hR
  have BK := Aside0.mk hb
  have HG := Aside0.mk hg
  have HR := Aside0.mk hR
  clear hg hR
  have hc0 := blk_cell BK.out 0
  go_enter Try.func9, Try.ntmps9
  go_wp2
  go_ret
  exact ⟨rfl, Below.refl _ _⟩
set_option maxHeartbeats 8000000 in
set_option maxRecDepth 100000 in
theorem pin_find.callsS (id_ : Int) (base g : Nat) (L : List S52) (most last : Int) (w : World) (h : PinSt w base g L most last) (hlen : L.length ≤ 1000) : Calls Try.prog 24 #[.pointer (some ⟨g, 0, none⟩), .int .i64 id_] w fun e w' => e = .returned (.int .i64 (pinIdx (fun x => x.f0 == id_) L 0)) ∧ Below w.heap.size w w' := by
  have hu48 := Try.underlying48
  have hu52 := Try.underlying52
  have hu46 := Try.underlying46
  have hu23 := Try.underlying23
  have HS := Aside0.mk h
  obtain ⟨v, hb, hg, hR⟩ := h
  obtain ⟨A, c, rfl⟩ := Kd.R_slice hR
  have BK := Aside0.mk hb
  have HG := Aside0.mk hg
  have HR := Aside0.mk hR
  clear hg hR
  have HLEN := Aside0.mk hlen
  have hc0 := blk_cell (blk_alloc BK.out (.cells #[.int .i64 id_] 2)) 0
  go_enter Try.func24, Try.ntmps24
  go_wp2_with (go_at_call 29; refine (pin_IndexFunc30 id_ w.heap.size A c L _ (Kd.C_alloc (Kd.R_reads' HR.out).2.2 _) ((blk_cell (blk_new w (.cells #[.int .i64 id_] 2)) 0).trans rfl) (by have := HLEN.out; omega)).mono ?_; rintro e w1 ⟨rfl, hb1⟩)
  go_ret
  exact ⟨rfl, below_step (below_alloc (Below.refl _ _) _) hb1⟩
theorem pinIdx_lt (p : S52 → Bool) : ∀ (L : List S52) (i : Int), pinIdx p L i = -1 ∨ (i ≤ pinIdx p L i ∧ pinIdx p L i < i + L.length)
  | [], _ => .inl rfl
  | x :: r, i => by
    unfold pinIdx
    by_cases h : p x = true
    · rw [if_pos h]; right; simp only [List.length_cons]; omega
    · rw [if_neg h]
      rcases pinIdx_lt p r (i + 1) with h1 | h1
      · exact .inl h1
      · right; simp only [List.length_cons]; omega
set_option maxHeartbeats 8000000 in
set_option maxRecDepth 100000 in
theorem pin_Rev.callsS (id_ : Int) (base g : Nat) (L : List S52) (most last : Int) (w : World) (h : PinSt w base g L most last) (hlen : L.length ≤ 1000) : Calls Try.prog 11 #[.pointer (some ⟨g, 0, none⟩), .int .i64 id_] w fun e w' => e = .returned (.tuple #[.int .i64 (if pinIdx (fun x => x.f0 == id_) L 0 < 0 then 0 else (rd_T52 L (pinIdx (fun x => x.f0 == id_) L 0)).f1), .bool (!decide (pinIdx (fun x => x.f0 == id_) L 0 < 0))]) ∧ Below w.heap.size w w' := by
  have hu48 := Try.underlying48
  have hu52 := Try.underlying52
  have hu46 := Try.underlying46
  have hu23 := Try.underlying23
  have HS := Aside0.mk h
  obtain ⟨v, hb, hg, hR⟩ := h
  obtain ⟨A, c, rfl⟩ := Kd.R_slice hR
  have BK := Aside0.mk hb
  have HG := Aside0.mk hg
  have HR := Aside0.mk hR
  clear hg hR
  have hlt := pinIdx_lt (fun x => x.f0 == id_) L 0
  have hfind := pin_find.callsS id_ base g L most last w HS.out hlen
  generalize pinIdx (fun x => x.f0 == id_) L 0 = k at hlt hfind ⊢
  have HF := Aside0.mk hfind
  have HLT := Aside0.mk hlt
  clear hfind hlt
  by_cases hk : k < 0
  · have hkb : decide (k < 0) = true := decide_eq_true hk
    rw [if_pos hk, hkb]
    go_enter Try.func11, Try.ntmps11
    go_wp2_with (go_at_call 24; refine HF.out.mono ?_; rintro e w1 ⟨rfl, hb1⟩)
    go_ret2
    exact ⟨rfl, hb1⟩
  · have hkb : decide (k < 0) = false := decide_eq_false hk
    rw [if_neg hk, hkb]
    have p2 : (0 : Int) ≤ k := by omega
    have c2 : k < (L.length : Int) := by have := HLT.out; omega
    have p2t : ((0 : Int) ≤ k) = True := eq_true p2
    have q2t : (k < (L.length : Int)) = True := eq_true c2
    have q2n : (k.toNat < L.length) = True := eq_true (by omega)
    obtain ⟨ad2, e2, hx0_, hx1_, hx2_⟩ := at_T52 (Kd.R_reads' HR.out).2.2 k p2 c2
    cases e2
    have HX := Aside0.mk hx1_
    clear hx0_ hx1_ hx2_
    go_enter Try.func11, Try.ntmps11
    go_wp2_with (go_at_call 24; refine HF.out.mono ?_; rintro e w1 ⟨rfl, hb1⟩; have hx1 := (hb1.cell (World.block_lt_of_cell? _ _ HX.out)).trans HX.out; have hc0 := blk_cell (blk_below BK.out hb1) 0)
    go_ret2
    exact ⟨rfl, hb1⟩
set_option maxHeartbeats 8000000 in
set_option maxRecDepth 100000 in
theorem pin_Add.bad (base g : Nat) (L : List S52) (most last rev until_ : Int) (w : World) (h : PinSt w base g L most last) (hr : rev < 0) :
    Calls Try.prog 16 #[.pointer (some ⟨g, 0, none⟩), .int .i64 rev, .int .i64 until_] w fun e w' => e = .returned (.tuple #[.int .i64 0, .int .i64 1]) ∧ Below w.heap.size w w' := by
  have hu48 := Try.underlying48
  have hu52 := Try.underlying52
  have hu46 := Try.underlying46
  have hu23 := Try.underlying23
  have HS := Aside0.mk h
  obtain ⟨v, hb, hg, hR⟩ := h
  obtain ⟨A, c, rfl⟩ := Kd.R_slice hR
  have BK := Aside0.mk hb
  have HG := Aside0.mk hg
  have HR := Aside0.mk hR
  clear hg hR
  have hc1 : decide (rev < 0) = true := decide_eq_true hr
  go_enter Try.func16, Try.ntmps16
  go_wp2
  go_ret2
  exact ⟨rfl, Below.refl _ _⟩
set_option maxHeartbeats 8000000 in
set_option maxRecDepth 100000 in
theorem pin_Add.full (base g : Nat) (L : List S52) (most last rev until_ : Int) (w : World) (h : PinSt w base g L most last) (hr : 0 ≤ rev) (hl : most ≤ (L.length : Int)) :
    Calls Try.prog 16 #[.pointer (some ⟨g, 0, none⟩), .int .i64 rev, .int .i64 until_] w fun e w' => e = .returned (.tuple #[.int .i64 0, .int .i64 7]) ∧ Below w.heap.size w w' := by
  have hu48 := Try.underlying48
  have hu52 := Try.underlying52
  have hu46 := Try.underlying46
  have hu23 := Try.underlying23
  have HS := Aside0.mk h
  obtain ⟨v, hb, hg, hR⟩ := h
  obtain ⟨A, c, rfl⟩ := Kd.R_slice hR
  have BK := Aside0.mk hb
  have HG := Aside0.mk hg
  have HR := Aside0.mk hR
  clear hg hR
  have hc1 : decide (rev < 0) = false := decide_eq_false (by omega)
  have hc2 : decide ((L.length : Int) ≥ most) = true := decide_eq_true (by omega)
  go_enter Try.func16, Try.ntmps16
  go_upto_region 5 with fail
  refine start_ (n := 11) (S := fun w' => w'.cell? ⟨g, 0, none⟩ = some (.slice A L.length c) ∧ w'.cell? ⟨g, 1, none⟩ = some (.int .i64 most)) (ds := []) #[false, false, false, false, false, false, false, false, false, false, false] (by kernel_rfl) rfl rfl ⟨(blk_cell hb 0).trans rfl, (blk_cell hb 1).trans rfl⟩ (fun hHeld => ?_)
  refine pure_ (i := 0) (N := some 15) (v := ?_) (a' := ?_) #[true, false, false, false, false, false, false, false, false, false, false] rfl rfl (by kernel_rfl) (fun _ _ _ h => h) (Or.inl ⟨by rfl, ?_⟩) ?_ ?_
  rotate_left
  · intro w'
    go_simp
    with_reducible rfl
  rotate_left
  · simp only [Act.put, List.setIfInBounds_toArray, List.set_cons_zero, List.set_cons_succ, i64_w, i32_w]
    rfl
  refine pure_ (i := 1) (N := some 16) (v := ?_) (a' := ?_) #[true, true, false, false, false, false, false, false, false, false, false] rfl rfl (by kernel_rfl) (fun _ _ _ h => h) (Or.inl ⟨by rfl, ?_⟩) ?_ ?_
  rotate_left
  · intro w'
    go_simp
    with_reducible rfl
  rotate_left
  · simp only [Act.put, List.setIfInBounds_toArray, List.set_cons_zero, List.set_cons_succ, i64_w, i32_w]
    rfl
  refine pure_ (i := 2) (N := some 17) (v := ?_) (a' := ?_) #[true, true, true, false, false, false, false, false, false, false, false] rfl rfl (by kernel_rfl) (fun _ _ _ h => h) (Or.inl ⟨by rfl, ?_⟩) ?_ ?_
  rotate_left
  · intro w'
    go_simp
    with_reducible rfl
  rotate_left
  · simp only [Act.put, List.setIfInBounds_toArray, List.set_cons_zero, List.set_cons_succ, i64_w, i32_w]
    rfl
  refine pure_ (i := 5) (N := some 20) (v := ?_) (a' := ?_) #[true, true, true, false, false, true, false, false, false, false, false] rfl rfl (by kernel_rfl) (fun _ _ _ h => h) (Or.inl ⟨by rfl, ?_⟩) ?_ ?_
  rotate_left
  · intro w'
    go_simp
    with_reducible rfl
  rotate_left
  · simp only [Act.put, List.setIfInBounds_toArray, List.set_cons_zero, List.set_cons_succ, i64_w, i32_w]
    rfl
  refine pure_ (i := 6) (N := some 21) (v := ?_) (a' := ?_) #[true, true, true, false, false, true, true, false, false, false, false] rfl rfl (by kernel_rfl) (fun _ _ _ h => h) (Or.inl ⟨by rfl, ?_⟩) ?_ ?_
  rotate_left
  · intro w'
    go_simp
    with_reducible rfl
  rotate_left
  · simp only [Act.put, List.setIfInBounds_toArray, List.set_cons_zero, List.set_cons_succ, i64_w, i32_w]
    rfl
  refine pure_ (i := 7) (N := some 22) (v := ?_) (a' := ?_) #[true, true, true, false, false, true, true, true, false, false, false] rfl rfl (by kernel_rfl) (fun _ _ _ h => h) (Or.inl ⟨by rfl, ?_⟩) ?_ ?_
  rotate_left
  · intro w'
    go_simp
    with_reducible rfl
  rotate_left
  · simp only [Act.put, List.setIfInBounds_toArray, List.set_cons_zero, List.set_cons_succ, i64_w, i32_w]
    rfl
  refine take_ (i := 3) (N := some 18) (v := ?_) (a' := ?_) #[true, true, true, true, false, true, true, true, false, false, false] rfl rfl (by kernel_rfl) (fun _ _ _ h => h) (Or.inl ⟨by rfl, ?_⟩) hHeld ?_ ?_
  rotate_left
  · rintro w' ⟨s0, s1⟩
    go_simp
    with_reducible rfl
  rotate_left
  · simp only [Act.put, List.setIfInBounds_toArray, List.set_cons_zero, List.set_cons_succ, i64_w, i32_w]
    rfl
  refine pure_ (i := 4) (N := some 19) (v := ?_) (a' := ?_) #[true, true, true, true, true, true, true, true, false, false, false] rfl rfl (by kernel_rfl) (fun _ _ _ h => h) (Or.inl ⟨by rfl, ?_⟩) ?_ ?_
  rotate_left
  · intro w'
    go_simp
    with_reducible rfl
  rotate_left
  · simp only [Act.put, List.setIfInBounds_toArray, List.set_cons_zero, List.set_cons_succ, i64_w, i32_w]
    rfl
  refine take_ (i := 8) (N := some 23) (v := ?_) (a' := ?_) #[true, true, true, true, true, true, true, true, true, false, false] rfl rfl (by kernel_rfl) (fun _ _ _ h => h) (Or.inl ⟨by rfl, ?_⟩) hHeld ?_ ?_
  rotate_left
  · rintro w' ⟨s0, s1⟩
    go_simp
    with_reducible rfl
  rotate_left
  · simp only [Act.put, List.setIfInBounds_toArray, List.set_cons_zero, List.set_cons_succ, i64_w, i32_w]
    rfl
  refine pure_ (i := 9) (N := some 24) (v := ?_) (a' := ?_) #[true, true, true, true, true, true, true, true, true, true, false] rfl rfl (by kernel_rfl) (fun _ _ _ h => h) (Or.inl ⟨by rfl, ?_⟩) ?_ ?_
  rotate_left
  · intro w'
    go_simp
    with_reducible rfl
  rotate_left
  · simp only [Act.put, List.setIfInBounds_toArray, List.set_cons_zero, List.set_cons_succ, i64_w, i32_w]
    rfl
  refine pure_ (i := 10) (N := some 14) (v := ?_) (a' := ?_) #[true, true, true, true, true, true, true, true, true, true, true] rfl rfl (by kernel_rfl) (fun _ _ _ h => h) (Or.inl ⟨by rfl, ?_⟩) ?_ ?_
  rotate_left
  · intro w'
    go_simp
    with_reducible rfl
  rotate_left
  · simp only [Act.put, List.setIfInBounds_toArray, List.set_cons_zero, List.set_cons_succ, i64_w, i32_w]
    rfl
  refine done_ (by kernel_rfl) ?_
  go_wp2
  go_ret2
  exact ⟨rfl, below_drew (Below.refl _ _)⟩
set_option maxHeartbeats 8000000 in
set_option maxRecDepth 100000 in
theorem pin_Add.callsS (base g : Nat) (L : List S52) (most last rev until_ : Int) (w : World) (h : PinSt w base g L most last) (hr : 0 ≤ rev) (hl : (L.length : Int) < most) (hlast : -1 ≤ last ∧ last ≤ 1000000) (hlen : L.length ≤ 1000) :
    Calls Try.prog 16 #[.pointer (some ⟨g, 0, none⟩), .int .i64 rev, .int .i64 until_] w fun e w' => e = .returned (.tuple #[.int .i64 (last + 1), .int .i64 0]) ∧ PinSt w' base g (L ++ [⟨last + 1, rev, until_⟩]) most (last + 1) ∧ Below base w w' ∧ Keeps [48, 52] w w' := by
  have hu48 := Try.underlying48
  have hu52 := Try.underlying52
  have hu46 := Try.underlying46
  have hu23 := Try.underlying23
  have HS := Aside0.mk h
  obtain ⟨v, hb, hg, hR⟩ := h
  obtain ⟨A, c, rfl⟩ := Kd.R_slice hR
  have BK := Aside0.mk hb
  have HG := Aside0.mk hg
  have HR := Aside0.mk hR
  clear hg hR
  have HLEN := Aside0.mk hlen
  have hc1 : decide (rev < 0) = false := decide_eq_false (by omega)
  have hc2 : decide ((L.length : Int) ≥ most) = false := decide_eq_false (by omega)
  have hw1 : wrap64 (last + 1) = last + 1 := by unfold wrap64; omega
  clear hlen
  go_enter Try.func16, Try.ntmps16
  go_upto_region 5 with fail
  refine start_ (n := 11) (S := fun w' => w'.cell? ⟨g, 0, none⟩ = some (.slice A L.length c) ∧ w'.cell? ⟨g, 1, none⟩ = some (.int .i64 most)) (ds := []) #[false, false, false, false, false, false, false, false, false, false, false] (by kernel_rfl) rfl rfl ⟨(blk_cell hb 0).trans rfl, (blk_cell hb 1).trans rfl⟩ (fun hHeld => ?_)
  refine pure_ (i := 0) (N := some 15) (v := ?_) (a' := ?_) #[true, false, false, false, false, false, false, false, false, false, false] rfl rfl (by kernel_rfl) (fun _ _ _ h => h) (Or.inl ⟨by rfl, ?_⟩) ?_ ?_
  rotate_left
  · intro w'
    go_simp
    with_reducible rfl
  rotate_left
  · simp only [Act.put, List.setIfInBounds_toArray, List.set_cons_zero, List.set_cons_succ, i64_w, i32_w]
    rfl
  refine pure_ (i := 1) (N := some 16) (v := ?_) (a' := ?_) #[true, true, false, false, false, false, false, false, false, false, false] rfl rfl (by kernel_rfl) (fun _ _ _ h => h) (Or.inl ⟨by rfl, ?_⟩) ?_ ?_
  rotate_left
  · intro w'
    go_simp
    with_reducible rfl
  rotate_left
  · simp only [Act.put, List.setIfInBounds_toArray, List.set_cons_zero, List.set_cons_succ, i64_w, i32_w]
    rfl
  refine pure_ (i := 2) (N := some 17) (v := ?_) (a' := ?_) #[true, true, true, false, false, false, false, false, false, false, false] rfl rfl (by kernel_rfl) (fun _ _ _ h => h) (Or.inl ⟨by rfl, ?_⟩) ?_ ?_
  rotate_left
  · intro w'
    go_simp
    with_reducible rfl
  rotate_left
  · simp only [Act.put, List.setIfInBounds_toArray, List.set_cons_zero, List.set_cons_succ, i64_w, i32_w]
    rfl
  refine pure_ (i := 5) (N := some 20) (v := ?_) (a' := ?_) #[true, true, true, false, false, true, false, false, false, false, false] rfl rfl (by kernel_rfl) (fun _ _ _ h => h) (Or.inl ⟨by rfl, ?_⟩) ?_ ?_
  rotate_left
  · intro w'
    go_simp
    with_reducible rfl
  rotate_left
  · simp only [Act.put, List.setIfInBounds_toArray, List.set_cons_zero, List.set_cons_succ, i64_w, i32_w]
    rfl
  refine pure_ (i := 6) (N := some 21) (v := ?_) (a' := ?_) #[true, true, true, false, false, true, true, false, false, false, false] rfl rfl (by kernel_rfl) (fun _ _ _ h => h) (Or.inl ⟨by rfl, ?_⟩) ?_ ?_
  rotate_left
  · intro w'
    go_simp
    with_reducible rfl
  rotate_left
  · simp only [Act.put, List.setIfInBounds_toArray, List.set_cons_zero, List.set_cons_succ, i64_w, i32_w]
    rfl
  refine pure_ (i := 7) (N := some 22) (v := ?_) (a' := ?_) #[true, true, true, false, false, true, true, true, false, false, false] rfl rfl (by kernel_rfl) (fun _ _ _ h => h) (Or.inl ⟨by rfl, ?_⟩) ?_ ?_
  rotate_left
  · intro w'
    go_simp
    with_reducible rfl
  rotate_left
  · simp only [Act.put, List.setIfInBounds_toArray, List.set_cons_zero, List.set_cons_succ, i64_w, i32_w]
    rfl
  refine take_ (i := 3) (N := some 18) (v := ?_) (a' := ?_) #[true, true, true, true, false, true, true, true, false, false, false] rfl rfl (by kernel_rfl) (fun _ _ _ h => h) (Or.inl ⟨by rfl, ?_⟩) hHeld ?_ ?_
  rotate_left
  · rintro w' ⟨s0, s1⟩
    go_simp
    with_reducible rfl
  rotate_left
  · simp only [Act.put, List.setIfInBounds_toArray, List.set_cons_zero, List.set_cons_succ, i64_w, i32_w]
    rfl
  refine pure_ (i := 4) (N := some 19) (v := ?_) (a' := ?_) #[true, true, true, true, true, true, true, true, false, false, false] rfl rfl (by kernel_rfl) (fun _ _ _ h => h) (Or.inl ⟨by rfl, ?_⟩) ?_ ?_
  rotate_left
  · intro w'
    go_simp
    with_reducible rfl
  rotate_left
  · simp only [Act.put, List.setIfInBounds_toArray, List.set_cons_zero, List.set_cons_succ, i64_w, i32_w]
    rfl
  refine take_ (i := 8) (N := some 23) (v := ?_) (a' := ?_) #[true, true, true, true, true, true, true, true, true, false, false] rfl rfl (by kernel_rfl) (fun _ _ _ h => h) (Or.inl ⟨by rfl, ?_⟩) hHeld ?_ ?_
  rotate_left
  · rintro w' ⟨s0, s1⟩
    go_simp
    with_reducible rfl
  rotate_left
  · simp only [Act.put, List.setIfInBounds_toArray, List.set_cons_zero, List.set_cons_succ, i64_w, i32_w]
    rfl
  refine pure_ (i := 9) (N := some 24) (v := ?_) (a' := ?_) #[true, true, true, true, true, true, true, true, true, true, false] rfl rfl (by kernel_rfl) (fun _ _ _ h => h) (Or.inl ⟨by rfl, ?_⟩) ?_ ?_
  rotate_left
  · intro w'
    go_simp
    with_reducible rfl
  rotate_left
  · simp only [Act.put, List.setIfInBounds_toArray, List.set_cons_zero, List.set_cons_succ, i64_w, i32_w]
    rfl
  refine pure_ (i := 10) (N := some 14) (v := ?_) (a' := ?_) #[true, true, true, true, true, true, true, true, true, true, true] rfl rfl (by kernel_rfl) (fun _ _ _ h => h) (Or.inl ⟨by rfl, ?_⟩) ?_ ?_
  rotate_left
  · intro w'
    go_simp
    with_reducible rfl
  rotate_left
  · simp only [Act.put, List.setIfInBounds_toArray, List.set_cons_zero, List.set_cons_succ, i64_w, i32_w]
    rfl
  refine done_ (by kernel_rfl) ?_
  have hc0 := blk_cell BK.out 0
  have hcc2 := blk_cell BK.out 2
  have hf2 := blk_frozen BK.out 2
  go_upto_region 8 with fail
  have HB2_ : Below base w (w.setCell ⟨g, 2, none⟩ (.int .i64 (last + 1))).drew := below_drew (Below.setCell (Below.refl _ _) HG.out _)
  have HK2_ : Keeps [48, 52] w (w.setCell ⟨g, 2, none⟩ (.int .i64 (last + 1))).drew := Keeps.set BK.out (by decide) 2 _
  have BK2_ : (w.setCell ⟨g, 2, none⟩ (.int .i64 (last + 1))).drew.heap[g]? = some (.cells #[.slice A L.length c, .int .i64 most, .int .i64 (last + 1)] 48 (0, 0)) := blk_drew (by simpa using blk_set BK.out 2 (.int .i64 (last + 1)))
  have HR2_ : Kd.R k52 52 (w.setCell ⟨g, 2, none⟩ (.int .i64 (last + 1))).drew base (fun _ => True) (.slice A L.length c) L := Kd.R_drew (Kd.R_set HR.out BK.out (by decide) 2 _)
  clear hc0 hcc2 hf2
  generalize (w.setCell ⟨g, 2, none⟩ (.int .i64 (last + 1))).drew = w2 at HB2_ HK2_ BK2_ HR2_ ⊢
  have HB2 := Aside0.mk HB2_
  have HK2 := Aside0.mk HK2_
  have BK2 := Aside0.mk BK2_
  have HR2 := Aside0.mk HR2_
  clear HB2_ HK2_ BK2_ HR2_
  refine start_ (n := 17) (S := fun w' => w'.cell? ⟨g, 0, none⟩ = some (.slice A L.length c) ∧ w'.cell? ⟨g, 2, none⟩ = some (.int .i64 (last + 1))) (ds := [16]) #[false, false, false, false, false, false, false, false, false, false, false, false, false, false, false, false, false] (by kernel_rfl) rfl rfl ⟨(blk_cell BK2.out 0).trans rfl, (blk_cell BK2.out 2).trans rfl⟩ (fun hHeld => ?_)
  have BK2d_ := blk_drew BK2.out
  have HR2d_ := Kd.R_drew HR2.out
  have HB2d_ := below_drew HB2.out
  have HK2d_ : Keeps [48, 52] w w2.drew := HK2.out
  clear BK2 HR2 HB2 HK2
  generalize w2.drew = w2d at BK2d_ HR2d_ HB2d_ HK2d_ hHeld ⊢
  have BK2d := Aside0.mk BK2d_
  have HR2d := Aside0.mk HR2d_
  have HB2d := Aside0.mk HB2d_
  have HK2d := Aside0.mk HK2d_
  clear BK2d_ HR2d_ HB2d_ HK2d_
  refine pure_ (i := 0) (N := some 32) (v := ?_) (a' := ?_) #[true, false, false, false, false, false, false, false, false, false, false, false, false, false, false, false, false] rfl rfl (by kernel_rfl) (fun _ _ _ h => h) (Or.inl ⟨by rfl, ?_⟩) ?_ ?_
  rotate_left
  · intro w'
    go_simp
    with_reducible rfl
  rotate_left
  · simp only [Act.put, List.setIfInBounds_toArray, List.set_cons_zero, List.set_cons_succ, i64_w, i32_w]
    rfl
  refine pure_ (i := 1) (N := some 33) (v := ?_) (a' := ?_) #[true, true, false, false, false, false, false, false, false, false, false, false, false, false, false, false, false] rfl rfl (by kernel_rfl) (fun _ _ _ h => h) (Or.inl ⟨by rfl, ?_⟩) ?_ ?_
  rotate_left
  · intro w'
    go_simp
    with_reducible rfl
  rotate_left
  · simp only [Act.put, List.setIfInBounds_toArray, List.set_cons_zero, List.set_cons_succ, i64_w, i32_w]
    rfl
  refine pure_ (i := 2) (N := some 34) (v := ?_) (a' := ?_) #[true, true, true, false, false, false, false, false, false, false, false, false, false, false, false, false, false] rfl rfl (by kernel_rfl) (fun _ _ _ h => h) (Or.inl ⟨by rfl, ?_⟩) ?_ ?_
  rotate_left
  · intro w'
    go_simp
    with_reducible rfl
  rotate_left
  · simp only [Act.put, List.setIfInBounds_toArray, List.set_cons_zero, List.set_cons_succ, i64_w, i32_w]
    rfl
  refine pure_ (i := 3) (N := some 35) (v := ?_) (a' := ?_) #[true, true, true, true, false, false, false, false, false, false, false, false, false, false, false, false, false] rfl rfl (by kernel_rfl) (fun _ _ _ h => h) (Or.inl ⟨by rfl, ?_⟩) ?_ ?_
  rotate_left
  · intro w'
    go_simp
    with_reducible rfl
  rotate_left
  · simp only [Act.put, List.setIfInBounds_toArray, List.set_cons_zero, List.set_cons_succ, i64_w, i32_w]
    rfl
  refine pure_ (i := 5) (N := some 37) (v := ?_) (a' := ?_) #[true, true, true, true, false, true, false, false, false, false, false, false, false, false, false, false, false] rfl rfl (by kernel_rfl) (fun _ _ _ h => h) (Or.inl ⟨by rfl, ?_⟩) ?_ ?_
  rotate_left
  · intro w'
    go_simp
    with_reducible rfl
  rotate_left
  · simp only [Act.put, List.setIfInBounds_toArray, List.set_cons_zero, List.set_cons_succ, i64_w, i32_w]
    rfl
  refine pure_ (i := 6) (N := some 38) (v := ?_) (a' := ?_) #[true, true, true, true, false, true, true, false, false, false, false, false, false, false, false, false, false] rfl rfl (by kernel_rfl) (fun _ _ _ h => h) (Or.inl ⟨by rfl, ?_⟩) ?_ ?_
  rotate_left
  · intro w'
    go_simp
    with_reducible rfl
  rotate_left
  · simp only [Act.put, List.setIfInBounds_toArray, List.set_cons_zero, List.set_cons_succ, i64_w, i32_w]
    rfl
  refine pure_ (i := 7) (N := some 39) (v := ?_) (a' := ?_) #[true, true, true, true, false, true, true, true, false, false, false, false, false, false, false, false, false] rfl rfl (by kernel_rfl) (fun _ _ _ h => h) (Or.inl ⟨by rfl, ?_⟩) ?_ ?_
  rotate_left
  · intro w'
    go_simp
    with_reducible rfl
  rotate_left
  · simp only [Act.put, List.setIfInBounds_toArray, List.set_cons_zero, List.set_cons_succ, i64_w, i32_w]
    rfl
  refine pure_ (i := 9) (N := some 41) (v := ?_) (a' := ?_) #[true, true, true, true, false, true, true, true, false, true, false, false, false, false, false, false, false] rfl rfl (by kernel_rfl) (fun _ _ _ h => h) (Or.inl ⟨by rfl, ?_⟩) ?_ ?_
  rotate_left
  · intro w'
    go_simp
    with_reducible rfl
  rotate_left
  · simp only [Act.put, List.setIfInBounds_toArray, List.set_cons_zero, List.set_cons_succ, i64_w, i32_w]
    rfl
  refine pure_ (i := 10) (N := some 42) (v := ?_) (a' := ?_) #[true, true, true, true, false, true, true, true, false, true, true, false, false, false, false, false, false] rfl rfl (by kernel_rfl) (fun _ _ _ h => h) (Or.inl ⟨by rfl, ?_⟩) ?_ ?_
  rotate_left
  · intro w'
    go_simp
    with_reducible rfl
  rotate_left
  · simp only [Act.put, List.setIfInBounds_toArray, List.set_cons_zero, List.set_cons_succ, i64_w, i32_w]
    rfl
  refine take_ (i := 4) (N := some 36) (v := ?_) (a' := ?_) #[true, true, true, true, true, true, true, true, false, true, true, false, false, false, false, false, false] rfl rfl (by kernel_rfl) (fun _ _ _ h => h) (Or.inl ⟨by rfl, ?_⟩) hHeld ?_ ?_
  rotate_left
  · rintro w' ⟨s0, s1⟩
    go_simp
    with_reducible rfl
  rotate_left
  · simp only [Act.put, List.setIfInBounds_toArray, List.set_cons_zero, List.set_cons_succ, i64_w, i32_w]
    rfl
  refine take_ (i := 8) (N := some 40) (v := ?_) (a' := ?_) #[true, true, true, true, true, true, true, true, true, true, true, false, false, false, false, false, false] rfl rfl (by kernel_rfl) (fun _ _ _ h => h) (Or.inl ⟨by rfl, ?_⟩) hHeld ?_ ?_
  rotate_left
  · rintro w' ⟨s0, s1⟩
    go_simp
    with_reducible rfl
  rotate_left
  · simp only [Act.put, List.setIfInBounds_toArray, List.set_cons_zero, List.set_cons_succ, i64_w, i32_w]
    rfl
  refine pure_ (i := 11) (N := some 43) (v := ?_) (a' := ?_) #[true, true, true, true, true, true, true, true, true, true, true, true, false, false, false, false, false] rfl rfl (by kernel_rfl) (fun _ _ _ h => h) (Or.inl ⟨by rfl, ?_⟩) ?_ ?_
  rotate_left
  · intro w'
    go_simp
    with_reducible rfl
  rotate_left
  · simp only [Act.put, List.setIfInBounds_toArray, List.set_cons_zero, List.set_cons_succ, i64_w, i32_w]
    rfl
  refine one_ (i := 12) (N := some 44) #[true, true, true, true, true, true, true, true, true, true, true, true, true, false, false, false, false] rfl rfl (by kernel_rfl) (by decide) (fun K hK => ?_)
  refine value_ (w1 := ?_) (v := ?_) (by rfl) rfl ?_ ?_
  rotate_left 2
  · go_simp
    constructor
    · rfl
    · rfl
  refine hK.out _ _ ⟨(blk_cell (blk_alloc BK2d.out _) 0).trans rfl, (blk_cell (blk_alloc BK2d.out _) 2).trans rfl⟩ (fun hHeld => ?_)
  clear hK K
  refine norm_ (a' := ?_) ?_ ?_
  rotate_left
  · show Act.put _ (some 44) _ = _
    simp only [Act.put, List.setIfInBounds_toArray, List.set_cons_zero, List.set_cons_succ, i64_w, i32_w]
    rfl
  refine one_ (i := 13) (N := some 45) #[true, true, true, true, true, true, true, true, true, true, true, true, true, true, false, false, false] rfl rfl (by kernel_rfl) (by decide) (fun K hK => ?_)
  refine Kd.R_append_step k52 (w0 := w) base (by rfl) (.tmp 36) (.tmp 44) 46 52 (.agg #[.int .i64 0, .int .i64 0, .int .i64 0]) 24 rfl Try.underlying46 info52 rfl (by decide) (by omega) (.slice A L.length c) L (⟨last + 1, rev, until_⟩ : S52) [.int .i64 (last + 1), .int .i64 rev, .int .i64 until_] (fun _ => True) (fun _ => False) rfl rfl ?aP (fun _ hk => hk.elim) ?aF ?aO ?aB ?aS ?aL ?_
  (case aP => exact k52_mkM _ _ _ (⟨last + 1, rev, until_⟩ : S52))
  (case aF => exact (fun _ _ => trivial))
  (case aO => exact HR2d.out)
  (case aB => exact HB2d.out)
  (case aS => exact Nat.le_trans HG.out (Nat.le_of_lt (blk_lt BK2d.out)))
  (case aL => have := HLEN.out; omega)
  intro v3 w3 ho hbb hg3 hat
  obtain ⟨A3, c3, rfl⟩ := Kd.R_slice ho
  rw [List.length_append, List.length_singleton] at ho
  have BK3 := Aside0.mk (blk_grown (g := g) BK2d.out hg3 (Kd.R_ne HR2d.out BK2d.out (by decide)))
  have HR3 := Aside0.mk ho
  have HB3 := Aside0.mk hbb
  have HK3 := Aside0.mk (HK2d.out.trans (Keeps.grown (T := [48, 52]) HR2d.out (by decide) hg3))
  clear ho hbb hg3 hat
  refine hK.out _ _ ⟨(blk_cell BK3.out 0).trans rfl, (blk_cell BK3.out 2).trans rfl⟩ (fun hHeld => ?_)
  clear hK K
  refine norm_ (a' := ?_) ?_ ?_
  rotate_left
  · show Act.put _ (some 45) _ = _
    simp only [Act.put, List.setIfInBounds_toArray, List.set_cons_zero, List.set_cons_succ, i64_w, i32_w]
    rfl
  refine pure_ (i := 14) (N := some 46) (v := ?_) (a' := ?_) #[true, true, true, true, true, true, true, true, true, true, true, true, true, true, true, false, false] rfl rfl (by kernel_rfl) (fun _ _ _ h => h) (Or.inl ⟨by rfl, ?_⟩) ?_ ?_
  rotate_left
  · intro w'
    go_simp
    with_reducible rfl
  rotate_left
  · simp only [Act.put, List.setIfInBounds_toArray, List.set_cons_zero, List.set_cons_succ, i64_w, i32_w]
    rfl
  refine pure_ (i := 15) (N := some 47) (v := ?_) (a' := ?_) #[true, true, true, true, true, true, true, true, true, true, true, true, true, true, true, true, false] rfl rfl (by kernel_rfl) (fun _ _ _ h => h) (Or.inl ⟨by rfl, ?_⟩) ?_ ?_
  rotate_left
  · intro w'
    go_simp
    with_reducible rfl
  rotate_left
  · simp only [Act.put, List.setIfInBounds_toArray, List.set_cons_zero, List.set_cons_succ, i64_w, i32_w]
    rfl
  refine last_ (i := 16) (N := none) #[true, true, true, true, true, true, true, true, true, true, true, true, true, true, true, true, true] rfl rfl (by kernel_rfl) (by decide) (fun K hK => ?_)
  have hs0 := (blk_cell BK3.out 0).trans (rfl : _ = some (Value.slice A L.length c))
  have hsf := blk_frozen BK3.out 0
  refine skip_ (w1 := ?_) (by rfl) rfl ?_ ?_
  rotate_left
  · go_simp
    rfl
  refine hK.out _ _ ?_
  clear hK K
  refine done_ (by kernel_rfl) ?_
  have BK4 := Aside0.mk (show (w3.setCell ⟨g, 0, none⟩ (.slice A3 (L.length + 1) c3)).heap[g]? = some (.cells #[.slice A3 (L.length + 1) c3, .int .i64 most, .int .i64 (last + 1)] 48 (0, 0)) by simpa using blk_set BK3.out 0 (.slice A3 (L.length + 1) c3))
  have HR4 := Aside0.mk (Kd.R_set HR3.out BK3.out (by decide) 0 (.slice A3 (L.length + 1) c3))
  have HB4 := Aside0.mk (Below.setCell HB3.out (p := ⟨g, 0, none⟩) HG.out (.slice A3 (L.length + 1) c3))
  have HK4 := Aside0.mk (HK3.out.trans (Keeps.set BK3.out (by decide) 0 (.slice A3 (L.length + 1) c3)))
  clear hs0 hsf
  have hc5 := blk_cell BK4.out 2
  go_wp2_with fail
  go_ret2
  exact ⟨rfl, ⟨_, BK4.out, HG.out, HR4.out⟩, HB4.out, HK4.out⟩
theorem below_less {B B' : Nat} {a b : World} (h : Below B' a b) (hB : B ≤ B') : Below B a b := ⟨h.os, h.tape, h.output, h.size, fun i hi => h.block i (Nat.lt_of_lt_of_le hi hB)⟩
theorem add0 (g n : Nat) : (⟨g, 0, none⟩ : Addr).add n = ⟨g, n, none⟩ := by unfold Addr.add; split <;> simp_all
theorem cells_tail {g t m : Nat} : ∀ (seg : List Value) (o : Nat) (w : World) (cur : Array Value), w.heap[g]? = some (.cells cur t (0, 0)) → m ≤ o → ∃ cur', (w.setCells g o seg).heap[g]? = some (.cells cur' t (0, 0)) ∧ cur'.size = cur.size ∧ cur'.toList.take m = cur.toList.take m
  | [], _, _, cur, h, _ => ⟨cur, h, rfl, rfl⟩
  | u :: r, o, w, cur, h, hm => by
    obtain ⟨cur', h1, h2, h3⟩ := cells_tail (m := m) r (o + 1) _ _ (blk_set h o u) (by omega)
    refine ⟨cur', h1, by rw [h2]; simp, ?_⟩
    rw [h3, Array.toList_setIfInBounds, List.take_set_of_le hm]
theorem R52_tail {w : World} {base g n cap : Nat} {xs : List S52} (h : Kd.R k52 52 w base (fun _ => True) (.slice (some ⟨g, 0, none⟩) n cap) xs) (o : Nat) (seg : List Value) (ho : xs.length * 3 ≤ o) : Kd.R k52 52 (w.setCells g o seg) base (fun _ => True) (.slice (some ⟨g, 0, none⟩) n cap) xs := by
  obtain ⟨hok, inner, ⟨hl, hown⟩, hr⟩ := h
  refine ⟨fun _ _ => trivial, OwnRow.imp_ (R := fun p c => c = [.int .i64 p.f0, .int .i64 p.f1, .int .i64 p.f2]) ⟨inner, ⟨hl, ?_⟩, ⟨hr.1, fun j p hj => k52_openM (hr.2 j p hj)⟩⟩ (fun p c hc => by rw [hc]; exact k52_mkM _ _ _ _)⟩
  rcases hown with ⟨hv, _⟩ | ⟨g', cap', cur, hv, hb, hh, hnc, hcm, hcs, htk⟩
  · cases hv
  · injection hv with ha h2 h3
    injection ha with ha
    injection ha with hg
    subst hg
    subst h3
    obtain ⟨cur', q1, q2, q3⟩ := cells_tail (m := xs.length * 3) seg o w cur hh ho
    exact .inr ⟨g, cap, cur', by rw [h2], hb, q1, hnc, hcm, by rw [q2]; exact hcs, by rw [show xs.length * k52.sz = xs.length * 3 from rfl, q3]; exact htk⟩
theorem R52_cells {w : World} {base g n cap : Nat} {xs : List S52} (h : Kd.R k52 52 w base (fun _ => True) (.slice (some ⟨g, 0, none⟩) n cap) xs) : ∃ cur, w.heap[g]? = some (.cells cur 52 (0, 0)) ∧ cur.size = cap * 3 ∧ n = xs.length ∧ n ≤ cap := by
  have hn := (Kd.R_reads' h).1
  have hnc := (Kd.R_reads' h).2.1
  obtain ⟨hok, inner, ⟨hl, hown⟩, hr⟩ := h
  rcases hown with ⟨hv, _⟩ | ⟨g', cap', cur, hv, hb, hh, _, hcm, hcs, htk⟩
  · cases hv
  · injection hv with ha h2 h3
    injection ha with ha
    injection ha with hg
    subst hg
    subst h3
    exact ⟨cur, hh, hcs, hn, hnc⟩
theorem clear52 (w : World) (g o m c : Nat) (cur : Array Value) (h : w.heap[g]? = some (.cells cur 52 (0, 0))) (hm : 0 < m) (hfit : o + m * 3 ≤ cur.size) :
    ∃ seg, ∀ ty, (Builtin.clear_ #[46] ty #[.slice (some ⟨g, o, none⟩) m c]).run Try.prog w = .ok (.tuple #[]) (w.setCells g o seg) := by
  refine ⟨(Builtin.zeroCells #[.int .i64 0, .int .i64 0, .int .i64 0] m).toList, fun ty => ?_⟩
  have hlen : (Builtin.zeroCells #[Value.int .i64 0, .int .i64 0, .int .i64 0] m).toList.length = m * 3 := by simp [Builtin.zeroCells]
  have hone : ∀ v ∈ (Builtin.zeroCells #[Value.int .i64 0, .int .i64 0, .int .i64 0] m).toList, v.oneCell' = true := by
    intro v hv
    simp only [Builtin.zeroCells, Array.toList_map, List.mem_map] at hv
    obtain ⟨i, _, rfl⟩ := hv
    have : i % 3 < 3 := Nat.mod_lt _ (by omega)
    show (#[Value.int .i64 0, .int .i64 0, .int .i64 0][i % 3]!).oneCell' = true
    rcases (show i % 3 = 0 ∨ i % 3 = 1 ∨ i % 3 = 2 by omega) with h | h | h <;> rw [h] <;> rfl
  have hst := run_storeCells_cells (P := Try.prog) g o _ 0 w (fun j hj => by rw [hlen] at hj; rw [blk_cell h]; simp; omega) (fun j _ => blk_frozen h _) hone
  simp only [Nat.add_zero] at hst
  obtain ⟨q, rfl⟩ : ∃ q, m = q + 1 := ⟨m - 1, by omega⟩
  simp [Builtin.clear_, run_underlying Try.underlying46, Try.zeroValue52, Value.cells, hst]
theorem at52R {w : World} {base : Nat} {A : Option Addr} {n c : Nat} {L : List S52} (HR : Kd.R k52 52 w base (fun _ => True) (.slice A n c) L) (i : Int) (h0 : 0 ≤ i) (h1 : i < (L.length : Int)) :
    ∃ ad g, A = some ad ∧ ad = ⟨g, 0, none⟩ ∧ w.cell? (ad.add (i.toNat * 3)) = some (.int .i64 (rd_T52 L i).f0) ∧ w.cell? ⟨(ad.add (i.toNat * 3)).block, (ad.add (i.toNat * 3)).off + 1, none⟩ = some (.int .i64 (rd_T52 L i).f1) ∧ w.cell? ⟨(ad.add (i.toNat * 3)).block, (ad.add (i.toNat * 3)).off + 2, none⟩ = some (.int .i64 (rd_T52 L i).f2) ∧
      w.frozen? ⟨(ad.add (i.toNat * 3)).block, (ad.add (i.toNat * 3)).off + 2, none⟩ = false := by
  obtain ⟨g, cap, he, _, _, cells, hh⟩ := Kd.R_form HR (by omega)
  injection he with e1 e2 e3
  subst e1
  obtain ⟨ad2, e2', hx0, hx1, hx2⟩ := at_T52 (Kd.R_reads' HR).2.2 i h0 h1
  injection e2' with e2'
  subst e2'
  refine ⟨_, g, rfl, rfl, hx0, hx1, hx2, ?_⟩
  rw [add0]
  exact blk_frozen hh _
theorem set52_2 {w : World} {base : Nat} {ad : Addr} {g n c : Nat} {L : List S52} (HR : Kd.R k52 52 w base (fun _ => True) (.slice (some ad) n c) L) (he : ad = ⟨g, 0, none⟩) (i : Int) (h0 : 0 ≤ i) (h1 : i < (L.length : Int)) (u : Int) :
    Kd.R k52 52 (w.setCell ⟨(ad.add (i.toNat * 3)).block, (ad.add (i.toNat * 3)).off + 2, none⟩ (.int .i64 u)) base (fun _ => True) (.slice (some ad) n c) (L.set i.toNat ⟨(rd_T52 L i).f0, (rd_T52 L i).f1, u⟩) ∧ w.grownBy (w.setCell ⟨(ad.add (i.toNat * 3)).block, (ad.add (i.toNat * 3)).off + 2, none⟩ (.int .i64 u)) (some g) := by
  subst he
  rw [add0]
  have hn := (Kd.R_reads' HR).1
  obtain ⟨cs, hcl, hM, hcc, _⟩ := Kd.R_elem HR z52 i h0 (by omega)
  have hcs := k52_openM hM
  subst hcs
  exact Kd.R_seg HR i h0 (by omega) (seg := [.int .i64 u]) (j := 2) hcl hcc (by show 2 + 1 ≤ 3; omega) (x' := ⟨(rd_T52 L i).f0, (rd_T52 L i).f1, u⟩) (okp := fun _ => False) (k52_mkM _ _ _ _) (fun _ h => h.elim)
set_option maxHeartbeats 8000000 in
set_option maxRecDepth 100000 in
theorem pin_Keep.callsS (id_ until_ : Int) (base g : Nat) (L : List S52) (most last : Int) (w : World) (h : PinSt w base g L most last) (hlen : L.length ≤ 1000) (hk : ¬ pinIdx (fun x => x.f0 == id_) L 0 < 0) : Calls Try.prog 17 #[.pointer (some ⟨g, 0, none⟩), .int .i64 id_, .int .i64 until_] w fun e w' => e = .returned (.bool true) ∧
    PinSt w' base g (L.set (pinIdx (fun x => x.f0 == id_) L 0).toNat ⟨(rd_T52 L (pinIdx (fun x => x.f0 == id_) L 0)).f0, (rd_T52 L (pinIdx (fun x => x.f0 == id_) L 0)).f1, mx (rd_T52 L (pinIdx (fun x => x.f0 == id_) L 0)).f2 until_⟩) most last ∧ Below base w w' ∧ Keeps [48, 52] w w' := by
  have hu48 := Try.underlying48
  have hu52 := Try.underlying52
  have hu46 := Try.underlying46
  have hu23 := Try.underlying23
  have HS := Aside0.mk h
  obtain ⟨v, hb, hg, hR⟩ := h
  obtain ⟨A, c, rfl⟩ := Kd.R_slice hR
  have BK := Aside0.mk hb
  have HG := Aside0.mk hg
  have HR := Aside0.mk hR
  clear hg hR
  have hlt := pinIdx_lt (fun x => x.f0 == id_) L 0
  have hfind := pin_find.callsS id_ base g L most last w HS.out hlen
  generalize pinIdx (fun x => x.f0 == id_) L 0 = k at hlt hfind hk ⊢
  have HF := Aside0.mk hfind
  have HLT := Aside0.mk hlt
  clear hfind hlt
  have hkb : decide (k < 0) = false := decide_eq_false hk
  have p2 : (0 : Int) ≤ k := by omega
  have c2 : k < (L.length : Int) := by have := HLT.out; omega
  have P2 := Aside0.mk p2
  have C2 := Aside0.mk c2
  have p2t : ((0 : Int) ≤ k) = True := eq_true p2
  have q2t : (k < (L.length : Int)) = True := eq_true c2
  have q2n : (k.toNat < L.length) = True := eq_true (by omega)
  obtain ⟨ad2, gR, e2, hg2, _, _, hx2_, hfz_⟩ := at52R HR.out k p2 c2
  cases e2
  have HX := Aside0.mk hx2_
  have HF2 := Aside0.mk hfz_
  have HG2 := Aside0.mk hg2
  clear hx2_ hfz_ hg2
  obtain ⟨mv, hmv⟩ : ∃ m, mx (rd_T52 L k).f2 until_ = m := ⟨_, rfl⟩
  rw [hmv]
  have hm2 : (if (rd_T52 L k).f2 < until_ then until_ else (rd_T52 L k).f2) = mv := hmv
  clear hmv
  have HBB := Aside0.mk (Nat.le_trans HG.out (Nat.le_of_lt (blk_lt BK.out)))
  go_enter Try.func17, Try.ntmps17
  go_upto_region 4 with (go_at_call 24; refine HF.out.mono ?_; rintro e w1 ⟨rfl, hb1⟩; have BK1 := Aside0.mk (blk_below BK.out hb1); have HR1 := Aside0.mk (Kd.R_below HR.out hb1); have HX2 := Aside0.mk ((hb1.cell (World.block_lt_of_cell? _ _ HX.out)).trans HX.out); have HB1 := Aside0.mk hb1; clear hb1)
  have HFZ := Aside0.mk (show w1.frozen? ⟨(ad2.add (k.toNat * 3)).block, (ad2.add (k.toNat * 3)).off + 2, none⟩ = false from by
    obtain ⟨ad3, g3, e3, _, _, _, _, hfz3⟩ := at52R HR1.out k P2.out C2.out
    injection e3 with e3
    rw [e3]; exact hfz3)
  refine start_ (n := 18) (S := fun w' => w'.cell? ⟨g, 0, none⟩ = some (.slice (some ad2) L.length c) ∧ w'.cell? ⟨(ad2.add (k.toNat * 3)).block, (ad2.add (k.toNat * 3)).off + 2, none⟩ = some (.int .i64 (rd_T52 L k).f2)) (ds := [17]) #[false, false, false, false, false, false, false, false, false, false, false, false, false, false, false, false, false, false] (by kernel_rfl) rfl rfl ⟨(blk_cell BK1.out 0).trans rfl, HX2.out⟩ (fun hHeld => ?_)
  refine pure_ (i := 0) (N := some 13) (v := ?_) (a' := ?_) #[true, false, false, false, false, false, false, false, false, false, false, false, false, false, false, false, false, false] rfl rfl (by kernel_rfl) (fun _ _ _ h => h) (Or.inl ⟨by rfl, ?_⟩) ?_ ?_
  rotate_left
  · intro w'
    go_simp
    with_reducible rfl
  rotate_left
  · simp only [Act.put, List.setIfInBounds_toArray, List.set_cons_zero, List.set_cons_succ, i64_w, i32_w]
    rfl
  refine pure_ (i := 1) (N := some 14) (v := ?_) (a' := ?_) #[true, true, false, false, false, false, false, false, false, false, false, false, false, false, false, false, false, false] rfl rfl (by kernel_rfl) (fun _ _ _ h => h) (Or.inl ⟨by rfl, ?_⟩) ?_ ?_
  rotate_left
  · intro w'
    go_simp
    with_reducible rfl
  rotate_left
  · simp only [Act.put, List.setIfInBounds_toArray, List.set_cons_zero, List.set_cons_succ, i64_w, i32_w]
    rfl
  refine pure_ (i := 2) (N := some 15) (v := ?_) (a' := ?_) #[true, true, true, false, false, false, false, false, false, false, false, false, false, false, false, false, false, false] rfl rfl (by kernel_rfl) (fun _ _ _ h => h) (Or.inl ⟨by rfl, ?_⟩) ?_ ?_
  rotate_left
  · intro w'
    go_simp
    with_reducible rfl
  rotate_left
  · simp only [Act.put, List.setIfInBounds_toArray, List.set_cons_zero, List.set_cons_succ, i64_w, i32_w]
    rfl
  refine pure_ (i := 4) (N := some 17) (v := ?_) (a' := ?_) #[true, true, true, false, true, false, false, false, false, false, false, false, false, false, false, false, false, false] rfl rfl (by kernel_rfl) (fun _ _ _ h => h) (Or.inl ⟨by rfl, ?_⟩) ?_ ?_
  rotate_left
  · intro w'
    go_simp
    with_reducible rfl
  rotate_left
  · simp only [Act.put, List.setIfInBounds_toArray, List.set_cons_zero, List.set_cons_succ, i64_w, i32_w]
    rfl
  refine pure_ (i := 5) (N := some 18) (v := ?_) (a' := ?_) #[true, true, true, false, true, true, false, false, false, false, false, false, false, false, false, false, false, false] rfl rfl (by kernel_rfl) (fun _ _ _ h => h) (Or.inl ⟨by rfl, ?_⟩) ?_ ?_
  rotate_left
  · intro w'
    go_simp
    with_reducible rfl
  rotate_left
  · simp only [Act.put, List.setIfInBounds_toArray, List.set_cons_zero, List.set_cons_succ, i64_w, i32_w]
    rfl
  refine pure_ (i := 6) (N := some 19) (v := ?_) (a' := ?_) #[true, true, true, false, true, true, true, false, false, false, false, false, false, false, false, false, false, false] rfl rfl (by kernel_rfl) (fun _ _ _ h => h) (Or.inl ⟨by rfl, ?_⟩) ?_ ?_
  rotate_left
  · intro w'
    go_simp
    with_reducible rfl
  rotate_left
  · simp only [Act.put, List.setIfInBounds_toArray, List.set_cons_zero, List.set_cons_succ, i64_w, i32_w]
    rfl
  refine pure_ (i := 7) (N := some 20) (v := ?_) (a' := ?_) #[true, true, true, false, true, true, true, true, false, false, false, false, false, false, false, false, false, false] rfl rfl (by kernel_rfl) (fun _ _ _ h => h) (Or.inl ⟨by rfl, ?_⟩) ?_ ?_
  rotate_left
  · intro w'
    go_simp
    with_reducible rfl
  rotate_left
  · simp only [Act.put, List.setIfInBounds_toArray, List.set_cons_zero, List.set_cons_succ, i64_w, i32_w]
    rfl
  refine pure_ (i := 9) (N := some 22) (v := ?_) (a' := ?_) #[true, true, true, false, true, true, true, true, false, true, false, false, false, false, false, false, false, false] rfl rfl (by kernel_rfl) (fun _ _ _ h => h) (Or.inl ⟨by rfl, ?_⟩) ?_ ?_
  rotate_left
  · intro w'
    go_simp
    with_reducible rfl
  rotate_left
  · simp only [Act.put, List.setIfInBounds_toArray, List.set_cons_zero, List.set_cons_succ, i64_w, i32_w]
    rfl
  refine pure_ (i := 13) (N := some 26) (v := ?_) (a' := ?_) #[true, true, true, false, true, true, true, true, false, true, false, false, false, true, false, false, false, false] rfl rfl (by kernel_rfl) (fun _ _ _ h => h) (Or.inl ⟨by rfl, ?_⟩) ?_ ?_
  rotate_left
  · intro w'
    go_simp
    with_reducible rfl
  rotate_left
  · simp only [Act.put, List.setIfInBounds_toArray, List.set_cons_zero, List.set_cons_succ, i64_w, i32_w]
    rfl
  refine take_ (i := 3) (N := some 16) (v := ?_) (a' := ?_) #[true, true, true, true, true, true, true, true, false, true, false, false, false, true, false, false, false, false] rfl rfl (by kernel_rfl) (fun _ _ _ h => h) (Or.inl ⟨by rfl, ?_⟩) hHeld ?_ ?_
  rotate_left
  · rintro w' ⟨s0, s1⟩
    go_simp
    with_reducible rfl
  rotate_left
  · simp only [Act.put, List.setIfInBounds_toArray, List.set_cons_zero, List.set_cons_succ, i64_w, i32_w]
    rfl
  refine take_ (i := 8) (N := some 21) (v := ?_) (a' := ?_) #[true, true, true, true, true, true, true, true, true, true, false, false, false, true, false, false, false, false] rfl rfl (by kernel_rfl) (fun _ _ _ h => h) (Or.inl ⟨by rfl, ?_⟩) hHeld ?_ ?_
  rotate_left
  · rintro w' ⟨s0, s1⟩
    go_simp
    with_reducible rfl
  rotate_left
  · simp only [Act.put, List.setIfInBounds_toArray, List.set_cons_zero, List.set_cons_succ, i64_w, i32_w]
    rfl
  refine pure_ (i := 10) (N := some 23) (v := ?_) (a' := ?_) #[true, true, true, true, true, true, true, true, true, true, true, false, false, true, false, false, false, false] rfl rfl (by kernel_rfl) (fun _ _ _ h => h) (Or.inl ⟨by rfl, ?_⟩) ?_ ?_
  rotate_left
  · intro w'
    go_simp
    with_reducible rfl
  rotate_left
  · simp only [Act.put, List.setIfInBounds_toArray, List.set_cons_zero, List.set_cons_succ, i64_w, i32_w]
    rfl
  refine pure_ (i := 11) (N := some 24) (v := ?_) (a' := ?_) #[true, true, true, true, true, true, true, true, true, true, true, true, false, true, false, false, false, false] rfl rfl (by kernel_rfl) (fun _ _ _ h => h) (Or.inl ⟨by rfl, ?_⟩) ?_ ?_
  rotate_left
  · intro w'
    go_simp
    with_reducible rfl
  rotate_left
  · simp only [Act.put, List.setIfInBounds_toArray, List.set_cons_zero, List.set_cons_succ, i64_w, i32_w]
    rfl
  refine take_ (i := 12) (N := some 25) (v := ?_) (a' := ?_) #[true, true, true, true, true, true, true, true, true, true, true, true, true, true, false, false, false, false] rfl rfl (by kernel_rfl) (fun _ _ _ h => h) (Or.inl ⟨by rfl, ?_⟩) hHeld ?_ ?_
  rotate_left
  · rintro w' ⟨s0, s1⟩
    go_simp
    with_reducible rfl
  rotate_left
  · simp only [Act.put, List.setIfInBounds_toArray, List.set_cons_zero, List.set_cons_succ, i64_w, i32_w]
    rfl
  refine pure_ (i := 14) (N := some 27) (v := ?_) (a' := ?_) #[true, true, true, true, true, true, true, true, true, true, true, true, true, true, true, false, false, false] rfl rfl (by kernel_rfl) (fun _ _ _ h => h) (Or.inl ⟨by rfl, ?_⟩) ?_ ?_
  rotate_left
  · intro w'
    go_simp
    with_reducible rfl
  rotate_left
  · simp only [Act.put, List.setIfInBounds_toArray, List.set_cons_zero, List.set_cons_succ, i64_w, i32_w]
    rfl
  refine pure_ (i := 15) (N := some 28) (v := ?_) (a' := ?_) #[true, true, true, true, true, true, true, true, true, true, true, true, true, true, true, true, false, false] rfl rfl (by kernel_rfl) (fun _ _ _ h => h) (Or.inl ⟨by rfl, ?_⟩) ?_ ?_
  rotate_left
  · intro w'
    go_simp
    with_reducible rfl
  rotate_left
  · simp only [Act.put, List.setIfInBounds_toArray, List.set_cons_zero, List.set_cons_succ, i64_w, i32_w]
    rfl
  refine pure_ (i := 16) (N := some 29) (v := ?_) (a' := ?_) #[true, true, true, true, true, true, true, true, true, true, true, true, true, true, true, true, true, false] rfl rfl (by kernel_rfl) (fun _ _ _ h => h) (Or.inl ⟨by rfl, ?_⟩) ?_ ?_
  rotate_left
  · intro w'
    go_simp
    with_reducible rfl
  rotate_left
  · simp only [Act.put, List.setIfInBounds_toArray, List.set_cons_zero, List.set_cons_succ, i64_w, i32_w]
    rfl
  refine last_ (i := 17) (N := none) #[true, true, true, true, true, true, true, true, true, true, true, true, true, true, true, true, true, true] rfl rfl (by kernel_rfl) (by decide) (fun K hK => ?_)
  have hs0 := hHeld.2
  have hsf : (World.drew w1).frozen? ⟨(ad2.add (k.toNat * 3)).block, (ad2.add (k.toNat * 3)).off + 2, none⟩ = false := HFZ.out
  refine skip_ (w1 := ?_) (by rfl) rfl ?_ ?_
  rotate_left
  · go_simp
    rfl
  refine hK.out _ _ ?_
  clear hK K
  refine done_ (by kernel_rfl) ?_
  have HQ := Aside0.mk (set52_2 HR1.out HG2.out k P2.out C2.out mv)
  have hgR : ad2.block = gR := by rw [HG2.out]
  have HK := Aside0.mk (Keeps.grown (T := [48, 52]) HR1.out (by decide) (show w1.grownBy _ (Value.slice (some ad2) L.length c).ownBlock from by show w1.grownBy _ (some ad2.block); rw [hgR]; exact HQ.out.2))
  go_wp2_with fail
  go_ret
  refine ⟨rfl, ⟨_, blk_drew (blk_grown BK1.out HQ.out.2 (by have := Kd.R_ne HR1.out BK1.out (by decide); rw [show (Value.slice (some ad2) L.length c).ownBlock = some ad2.block from rfl, hgR] at this; exact this)), HG.out, Kd.R_drew HQ.out.1⟩, ?_, ?_⟩
  · exact below_drew (Below.setCell (below_less HB1.out HBB.out) (by show base ≤ (ad2.add _).block; rw [HG2.out, add0]; exact Kd.R_base HR1.out gR (by rw [← hgR]; rfl)) _)
  · exact (Keeps.below HB1.out).trans HK.out
theorem below_cells {base g : Nat} (hg : base ≤ g) : ∀ (seg : List Value) (o : Nat) {w : World}, Below base w (w.setCells g o seg)
  | [], _, w => Below.refl _ _
  | u :: r, o, w => (Below.setCell (Below.refl base w) (p := ⟨g, o, none⟩) hg u).trans (below_cells hg r (o + 1))
theorem pinIdx_take (p : S52 → Bool) : ∀ (L : List S52) (i : Int) (k : Nat), pinIdx p L i = i + k → 0 ≤ i → k < L.length ∧ (L.take (k + 1)).filter (fun x => !p x) = L.take k
  | [], i, k, h, h0 => by simp only [pinIdx] at h; omega
  | x :: r, i, k, h, h0 => by
    unfold pinIdx at h
    by_cases hp : p x = true
    · rw [if_pos hp] at h
      obtain rfl : k = 0 := by omega
      simp [hp]
    · rw [if_neg hp] at h
      rcases pinIdx_lt p r (i + 1) with h1 | h1
      · omega
      · obtain ⟨k, rfl⟩ : ∃ m, k = m + 1 := ⟨k - 1, by omega⟩
        obtain ⟨i1, i2⟩ := pinIdx_take p r (i + 1) k (by omega) (by omega)
        refine ⟨by simp; omega, ?_⟩
        rw [List.take_succ_cons, List.filter_cons, if_pos (by simpa using hp), i2, List.take_succ_cons]
theorem pinIdx_none (p : S52 → Bool) : ∀ (L : List S52) (i : Int), 0 ≤ i → pinIdx p L i = -1 → L.filter (fun x => !p x) = L
  | [], _, _, _ => rfl
  | x :: r, i, h0, h => by
    unfold pinIdx at h
    by_cases hp : p x = true
    · rw [if_pos hp] at h; omega
    · rw [if_neg hp] at h
      rw [List.filter_cons, if_pos (by simpa using hp), pinIdx_none p r (i + 1) (by omega) h]
theorem take_set52 (Y : List S52) (i : Nat) (x : S52) (h : i < Y.length) : (Y.set i x).take (i + 1) = Y.take i ++ [x] := by
  rw [List.take_succ_eq_append_getElem (by rw [List.length_set]; exact h), List.take_set_of_le (Nat.le_refl _), List.getElem_set_self]
theorem drop_set52 (Y : List S52) (i j : Nat) (x : S52) (h : i < j) : (Y.set i x).drop j = Y.drop j := List.drop_set_of_lt h
theorem filt_succ (p : S52 → Bool) (L : List S52) (j : Nat) (h : j < L.length) : (L.take (j + 1)).filter (fun x => !p x) = (L.take j).filter (fun x => !p x) ++ if p (rd_T52 L (j : Int)) = true then [] else [rd_T52 L (j : Int)] := by
  rw [List.take_succ_eq_append_getElem h, List.filter_append, rd52_at L j h]
  congr 1
  by_cases hp : p L[j] = true <;> simp [hp]
set_option maxHeartbeats 8000000 in
set_option maxRecDepth 100000 in
theorem pin_DeleteFunc27 (id_ : Int) (b : Nat) (A : Option Addr) (c : Nat) (L : List S52) (base : Nat) (w : World) (HR0 : Kd.R k52 52 w base (fun _ => True) (.slice A L.length c) L) (hc : w.cell? ⟨b, 0, none⟩ = some (.int .i64 id_)) (hb2 : ∃ cs, w.heap[b]? = some (.cells cs 2 (0, 0))) (hbb : base ≤ w.heap.size) (hlen : L.length ≤ 1000) :
    Calls Try.prog 31 #[.slice A L.length c, .func (.func 27) #[] #[.pointer (some ⟨b, 0, none⟩)]] w fun e w' => ∃ v, e = .returned v ∧ Kd.R k52 52 w' base (fun _ => True) v (L.filter (fun x => !(fun x => x.f0 == id_) x)) ∧ Below base w w' ∧ Keeps [52] w w' := by
  have hu52 := Try.underlying52
  have hu46 := Try.underlying46
  have HR := Aside0.mk HR0
  have HCC := Aside0.mk hc
  have HBB := Aside0.mk hbb
  have HB2 := Aside0.mk hb2
  have HLEN := Aside0.mk hlen
  have HIX := Aside0.mk (pin_IndexFunc27 id_ b A c L w (Kd.R_reads' HR0).2.2 hc (by omega))
  clear HR0 hc hbb hb2 hlen
  rcases pinIdx_lt (fun x => x.f0 == id_) L 0 with hk | hk
  · have hnone := pinIdx_none (fun x => x.f0 == id_) L 0 (by omega) hk
    rw [hk] at HIX
    rw [hnone]
    go_enter Try.func31, Try.ntmps31
    go_wp2_with (go_at_call 29; refine HIX.out.mono ?_; rintro e w1 ⟨rfl, hb1⟩)
    go_ret
    exact ⟨_, rfl, Kd.R_below HR.out hb1, below_less hb1 HBB.out, Keeps.below hb1⟩
  · obtain ⟨k, hkk⟩ : ∃ k : Nat, pinIdx (fun x => x.f0 == id_) L 0 = (k : Int) := ⟨(pinIdx (fun x => x.f0 == id_) L 0).toNat, by omega⟩
    have htake := pinIdx_take (fun x => x.f0 == id_) L 0 k (by omega) (by omega)
    rw [hkk] at HIX
    have HT := Aside0.mk htake
    clear htake hk hkk
    have hkL : k < L.length := HT.out.1
    obtain ⟨gR, cap, he, _, _, _⟩ := Kd.R_form HR.out (by omega)
    injection he with e1 e2 e3
    subst e1
    subst e3
    have hw1 : wrap64 ((k : Int) + 1) = ((k + 1 : Nat) : Int) := by have := HLEN.out; unfold wrap64; omega
    have hkn : ((k : Int) == -1) = false := by rw [beq_eq_false_iff_ne]; omega
    go_enter Try.func31, Try.ntmps31
    go_wp2_with (go_at_call 29; refine HIX.out.mono ?_; rintro e w1 ⟨rfl, hb1⟩; have HB1 := Aside0.mk hb1; clear hb1)
    go_loopg [6, 5] (L.length + 1) (fun kq v6 v5 wr => ∃ (j i : Nat) (Y : List S52), v6 = .int .i64 (j : Int) ∧ v5 = .int .i64 (i : Int) ∧ Aside0 (j + kq = L.length + 1 + k + 1 ∧ i < j ∧ j ≤ L.length ∧ Y.length = L.length ∧ Y.take i = (L.take j).filter (fun x => !(fun x => x.f0 == id_) x) ∧ Y.drop j = L.drop j) ∧ Aside0 (Kd.R k52 52 wr base (fun _ => True) (.slice (some ⟨gR, 0, none⟩) L.length c) Y) ∧ Aside0 (Below base w1 wr) ∧ Aside0 (Keeps [52] w1 wr))
    case atStart => exact ⟨k + 1, k, L, by first | rw [hw1] | simp, rfl, ⟨by omega, by omega, by omega, rfl, HT.out.2.symm, rfl⟩, ⟨Kd.R_below HR.out HB1.out⟩, ⟨Below.refl _ _⟩, ⟨Keeps.refl _⟩⟩
    case round =>
      obtain ⟨j, i, Y, rfl, rfl, HI, HY, HW, HK⟩ := hrel
      clear hw1
      cases gk with
      | zero => have := HI.out; omega
      | succ k1 =>
        have HWW := Aside0.mk (Nat.le_trans HBB.out (Nat.le_trans HB1.out.size HW.out.size))
        by_cases c2 : (j : Int) < (L.length : Int)
        · have c2b : decide ((j : Int) < (L.length : Int)) = true := decide_eq_true c2
          have p2 : (0 : Int) ≤ (j : Int) := by omega
          obtain ⟨ad2, g2, e2, hg2, hx0, hx1, hx2, _⟩ := at52R HY.out (j : Int) p2 (by have := HI.out; omega)
          cases e2
          have p2t : ((0 : Int) ≤ (j : Int)) = True := eq_true p2
          have q2t : ((j : Int) < (L.length : Int)) = True := eq_true c2
          have q2n : (j < L.length) = True := eq_true (by omega)
          have p3t : ((0 : Int) ≤ (i : Int)) = True := eq_true (by omega)
          have q3t : ((i : Int) < (L.length : Int)) = True := eq_true (by have := HI.out; omega)
          have q3n : (i < L.length) = True := eq_true (by have := HI.out; omega)
          cases hg2
          rw [add0] at hx0 hx1 hx2
          dsimp only at hx0 hx1 hx2
          simp only [Int.toNat_natCast] at hx0 hx1 hx2
          have hw2 : wrap64 ((j : Int) + 1) = ((j + 1 : Nat) : Int) := by have := HLEN.out; unfold wrap64; omega
          have hw3 : wrap64 ((i : Int) + 1) = ((i + 1 : Nat) : Int) := by have := HLEN.out; have := HI.out; unfold wrap64; omega
          have hd : Y.drop (j + 1) = L.drop (j + 1) ∧ rd_T52 Y (j : Int) = rd_T52 L (j : Int) := by
            have h1 := drop52 Y j (by have := HI.out; omega)
            have h2 := drop52 L j (by omega)
            rw [HI.out.2.2.2.2.2, h2] at h1
            injection h1 with h3 h4
            exact ⟨h4.symm, h3.symm⟩
          have HD := Aside0.mk hd
          rw [hd.2] at hx0 hx1 hx2
          clear hd
          have hf := filt_succ (fun x => x.f0 == id_) L j (by omega)
          obtain ⟨x, hx⟩ : ∃ x, rd_T52 L (j : Int) = x := ⟨_, rfl⟩
          rw [hx] at hx0 hx1 hx2 hf
          have HF := Aside0.mk hf
          clear hf
          obtain ⟨csb, hcsb⟩ := HB2.out
          have hcb := (blk_cell hcsb 0).symm.trans HCC.out
          have hcc : (wr.alloc (.cells #[.int .i64 x.f0, .int .i64 x.f1, .int .i64 x.f2] 52)).cell? ⟨b, 0, none⟩ = some (.int .i64 id_) := (blk_cell (blk_alloc (HK.out _ _ _ (blk_below hcsb HB1.out) (by decide)) _) 0).trans hcb
          have HCA := Aside0.mk hcc
          clear hcc hcb
          cases hp : ((fun x => x.f0 == id_) x) with
          | true =>
            go_wp2_with (go_at_call 27; refine (pin_cl27 id_ x b _ HCA.out).mono ?_; rintro e w2 ⟨rfl, hb3⟩; rw [show (x.f0 == id_) = true from hp])
            go_roundg k1
            case measure => omega
            case rel =>
              have h := HF.out
              rw [hp, if_pos rfl, List.append_nil] at h
              exact ⟨j + 1, i, Y, by first | rw [hw2] | simp, rfl, ⟨by have := HI.out; omega, by have := HI.out; omega, by omega, HI.out.2.2.2.1, by rw [h]; exact HI.out.2.2.2.2.1, HD.out.1⟩, ⟨Kd.R_below (Kd.R_alloc HY.out _) hb3⟩, ⟨HW.out.trans (below_less (below_step (below_alloc (Below.refl _ _) _) hb3) HWW.out)⟩, ⟨HK.out.trans ((Keeps.below (below_alloc (Below.refl _ _) _)).trans (Keeps.below hb3))⟩⟩
          | false =>
            go_wp2_with (first | (go_at_call 27; refine (pin_cl27 id_ x b _ HCA.out).mono ?_; rintro e w2 ⟨rfl, hb3⟩; rw [show (x.f0 == id_) = false from hp]; have hbl := blk_below (blk_new wr (.cells #[.int .i64 x.f0, .int .i64 x.f1, .int .i64 x.f2] 52)) hb3; have hy0 := blk_cell hbl 0; have hy1 := blk_cell hbl 1; have hy2 := blk_cell hbl 2; have HY2 := Aside0.mk (Kd.R_below (Kd.R_alloc HY.out _) hb3); have HW2 := Aside0.mk (HW.out.trans (below_less (below_step (below_alloc (Below.refl _ _) _) hb3) HWW.out)); have HK2 := Aside0.mk (HK.out.trans ((Keeps.below (below_alloc (Below.refl _ _) _)).trans (Keeps.below hb3))); obtain ⟨cs, hcl, hM, hcell, -⟩ := Kd.R_elem HY2.out z52 (i : Int) (by omega) (by have := HI.out; omega); have HCL := Aside0.mk hcl; have HCE := Aside0.mk hcell; clear hcl hM hcell) | ((with_reducible refine gate_ (.store 52 (.tmp 33) (.tmp 32)) rfl ?_); refine Kd.R_store k52 (w0 := w1) base rfl rfl 52 (.tmp 33) (.tmp 32) rfl 52 (i : Int) 0 Y x (.agg #[.int .i64 x.f0, .int .i64 x.f1, .int .i64 x.f2]) [.int .i64 x.f0, .int .i64 x.f1, .int .i64 x.f2] cs (fun _ => True) (fun _ => False) rfl (by show i * 3 = (i : Int).toNat * 3 + 0; omega) rfl rfl (by kernel_rfl) (by intro q hq; simp only [List.mem_cons, List.not_mem_nil, or_false] at hq; rcases hq with rfl | rfl | rfl <;> rfl) HY2.out (by omega) (by have := HI.out; omega) HCL.out HCE.out (by show 0 + 3 ≤ 3; omega) (by rw [List.take_zero, List.nil_append, List.drop_of_length_le (by rw [HCL.out]; show 3 ≤ 0 + 3; omega), List.append_nil]; exact k52_mkM _ _ _ _) (fun _ h => h.elim) HW2.out ?_; intro w3 hR3 hB3 hG3; have HY3 := Aside0.mk hR3; have HW3 := Aside0.mk hB3; have HK3 := Aside0.mk (HK2.out.trans (Keeps.grown (T := [52]) HY2.out (by decide) hG3)); clear hR3 hB3 hG3))
            go_roundg k1
            case measure => omega
            case rel =>
              have h := HF.out
              rw [hp, if_neg (by simp)] at h
              exact ⟨j + 1, i + 1, Y.set i x, by first | rw [hw2] | simp, by first | rw [hw3] | simp, ⟨by have := HI.out; omega, by have := HI.out; omega, by omega, by rw [List.length_set]; exact HI.out.2.2.2.1, by rw [h, take_set52 Y i x (by have := HI.out; omega), HI.out.2.2.2.2.1], by rw [drop_set52 Y i (j + 1) x (by have := HI.out; omega)]; exact HD.out.1⟩, ⟨HY3.out⟩, ⟨HW3.out⟩, ⟨HK3.out⟩⟩
        · have c2b : decide ((j : Int) < (L.length : Int)) = false := decide_eq_false c2
          obtain ⟨cur, hcur, hcz, -, hcap⟩ := R52_cells HY.out
          obtain ⟨seg, hclr⟩ := clear52 wr gR (i * 3) (L.length - i) (c - i) cur hcur (by have := HI.out; omega) (by have := HI.out; rw [hcz]; omega)
          have i1 : ((0 : Int) ≤ (i : Int)) = True := eq_true (by omega)
          have i2 : ((i : Int) ≤ (L.length : Int)) = True := eq_true (by have := HI.out; omega)
          have i3 : (i ≤ L.length) = True := eq_true (by have := HI.out; omega)
          have i4 : (i ≤ c) = True := eq_true (by have := HI.out; omega)
          have i5 : ((i : Int) ≤ (c : Int)) = True := eq_true (by have := HI.out; omega)
          have i6 : (L.length ≤ c) = True := eq_true hcap
          have i8 : (c = i) = False := eq_false (by have := HI.out; omega)
          have i7 : ((L.length : Int) ≤ (c : Int)) = True := eq_true (by omega)
          go_wp2
          go_ret
          have hj : j = L.length := by have := HI.out; omega
          have hti : (Y.take i).length = i := by rw [List.length_take]; have := HI.out; omega
          have hY := Kd.R_take (m := i) HY.out (by have := HI.out; omega)
          have hE : L.filter (fun x => !(fun x => x.f0 == id_) x) = Y.take i := by
            have h := HI.out.2.2.2.2.1
            rw [hj, List.take_length] at h
            exact h.symm
          rw [hE]
          exact ⟨_, rfl, R52_tail hY (i * 3) seg (by rw [hti]; omega), (below_less HB1.out HBB.out).trans (HW.out.trans (below_cells (Kd.R_base HY.out gR rfl) seg (i * 3))), (Keeps.below HB1.out).trans (HK.out.trans (Keeps.cells (by decide) seg (i * 3) hcur))⟩
set_option maxHeartbeats 8000000 in
set_option maxRecDepth 100000 in
theorem pin_DeleteFunc28 (id_ : Int) (b : Nat) (A : Option Addr) (c : Nat) (L : List S52) (base : Nat) (w : World) (HR0 : Kd.R k52 52 w base (fun _ => True) (.slice A L.length c) L) (hc : w.cell? ⟨b, 0, none⟩ = some (.int .i64 id_)) (hb2 : ∃ cs, w.heap[b]? = some (.cells cs 2 (0, 0))) (hbb : base ≤ w.heap.size) (hlen : L.length ≤ 1000) :
    Calls Try.prog 31 #[.slice A L.length c, .func (.func 28) #[] #[.pointer (some ⟨b, 0, none⟩)]] w fun e w' => ∃ v, e = .returned v ∧ Kd.R k52 52 w' base (fun _ => True) v (L.filter (fun x => !(fun x => decide (x.f2 ≤ id_)) x)) ∧ Below base w w' ∧ Keeps [52] w w' := by
  have hu52 := Try.underlying52
  have hu46 := Try.underlying46
  have HR := Aside0.mk HR0
  have HCC := Aside0.mk hc
  have HBB := Aside0.mk hbb
  have HB2 := Aside0.mk hb2
  have HLEN := Aside0.mk hlen
  have HIX := Aside0.mk (pin_IndexFunc28 id_ b A c L w (Kd.R_reads' HR0).2.2 hc (by omega))
  clear HR0 hc hbb hb2 hlen
  rcases pinIdx_lt (fun x => decide (x.f2 ≤ id_)) L 0 with hk | hk
  · have hnone := pinIdx_none (fun x => decide (x.f2 ≤ id_)) L 0 (by omega) hk
    rw [hk] at HIX
    rw [hnone]
    go_enter Try.func31, Try.ntmps31
    go_wp2_with (go_at_call 29; refine HIX.out.mono ?_; rintro e w1 ⟨rfl, hb1⟩)
    go_ret
    exact ⟨_, rfl, Kd.R_below HR.out hb1, below_less hb1 HBB.out, Keeps.below hb1⟩
  · obtain ⟨k, hkk⟩ : ∃ k : Nat, pinIdx (fun x => decide (x.f2 ≤ id_)) L 0 = (k : Int) := ⟨(pinIdx (fun x => decide (x.f2 ≤ id_)) L 0).toNat, by omega⟩
    have htake := pinIdx_take (fun x => decide (x.f2 ≤ id_)) L 0 k (by omega) (by omega)
    rw [hkk] at HIX
    have HT := Aside0.mk htake
    clear htake hk hkk
    have hkL : k < L.length := HT.out.1
    obtain ⟨gR, cap, he, _, _, _⟩ := Kd.R_form HR.out (by omega)
    injection he with e1 e2 e3
    subst e1
    subst e3
    have hw1 : wrap64 ((k : Int) + 1) = ((k + 1 : Nat) : Int) := by have := HLEN.out; unfold wrap64; omega
    have hkn : ((k : Int) == -1) = false := by rw [beq_eq_false_iff_ne]; omega
    go_enter Try.func31, Try.ntmps31
    go_wp2_with (go_at_call 29; refine HIX.out.mono ?_; rintro e w1 ⟨rfl, hb1⟩; have HB1 := Aside0.mk hb1; clear hb1)
    go_loopg [6, 5] (L.length + 1) (fun kq v6 v5 wr => ∃ (j i : Nat) (Y : List S52), v6 = .int .i64 (j : Int) ∧ v5 = .int .i64 (i : Int) ∧ Aside0 (j + kq = L.length + 1 + k + 1 ∧ i < j ∧ j ≤ L.length ∧ Y.length = L.length ∧ Y.take i = (L.take j).filter (fun x => !(fun x => decide (x.f2 ≤ id_)) x) ∧ Y.drop j = L.drop j) ∧ Aside0 (Kd.R k52 52 wr base (fun _ => True) (.slice (some ⟨gR, 0, none⟩) L.length c) Y) ∧ Aside0 (Below base w1 wr) ∧ Aside0 (Keeps [52] w1 wr))
    case atStart => exact ⟨k + 1, k, L, by first | rw [hw1] | simp, rfl, ⟨by omega, by omega, by omega, rfl, HT.out.2.symm, rfl⟩, ⟨Kd.R_below HR.out HB1.out⟩, ⟨Below.refl _ _⟩, ⟨Keeps.refl _⟩⟩
    case round =>
      obtain ⟨j, i, Y, rfl, rfl, HI, HY, HW, HK⟩ := hrel
      clear hw1
      cases gk with
      | zero => have := HI.out; omega
      | succ k1 =>
        have HWW := Aside0.mk (Nat.le_trans HBB.out (Nat.le_trans HB1.out.size HW.out.size))
        by_cases c2 : (j : Int) < (L.length : Int)
        · have c2b : decide ((j : Int) < (L.length : Int)) = true := decide_eq_true c2
          have p2 : (0 : Int) ≤ (j : Int) := by omega
          obtain ⟨ad2, g2, e2, hg2, hx0, hx1, hx2, _⟩ := at52R HY.out (j : Int) p2 (by have := HI.out; omega)
          cases e2
          have p2t : ((0 : Int) ≤ (j : Int)) = True := eq_true p2
          have q2t : ((j : Int) < (L.length : Int)) = True := eq_true c2
          have q2n : (j < L.length) = True := eq_true (by omega)
          have p3t : ((0 : Int) ≤ (i : Int)) = True := eq_true (by omega)
          have q3t : ((i : Int) < (L.length : Int)) = True := eq_true (by have := HI.out; omega)
          have q3n : (i < L.length) = True := eq_true (by have := HI.out; omega)
          cases hg2
          rw [add0] at hx0 hx1 hx2
          dsimp only at hx0 hx1 hx2
          simp only [Int.toNat_natCast] at hx0 hx1 hx2
          have hw2 : wrap64 ((j : Int) + 1) = ((j + 1 : Nat) : Int) := by have := HLEN.out; unfold wrap64; omega
          have hw3 : wrap64 ((i : Int) + 1) = ((i + 1 : Nat) : Int) := by have := HLEN.out; have := HI.out; unfold wrap64; omega
          have hd : Y.drop (j + 1) = L.drop (j + 1) ∧ rd_T52 Y (j : Int) = rd_T52 L (j : Int) := by
            have h1 := drop52 Y j (by have := HI.out; omega)
            have h2 := drop52 L j (by omega)
            rw [HI.out.2.2.2.2.2, h2] at h1
            injection h1 with h3 h4
            exact ⟨h4.symm, h3.symm⟩
          have HD := Aside0.mk hd
          rw [hd.2] at hx0 hx1 hx2
          clear hd
          have hf := filt_succ (fun x => decide (x.f2 ≤ id_)) L j (by omega)
          obtain ⟨x, hx⟩ : ∃ x, rd_T52 L (j : Int) = x := ⟨_, rfl⟩
          rw [hx] at hx0 hx1 hx2 hf
          have HF := Aside0.mk hf
          clear hf
          obtain ⟨csb, hcsb⟩ := HB2.out
          have hcb := (blk_cell hcsb 0).symm.trans HCC.out
          have hcc : (wr.alloc (.cells #[.int .i64 x.f0, .int .i64 x.f1, .int .i64 x.f2] 52)).cell? ⟨b, 0, none⟩ = some (.int .i64 id_) := (blk_cell (blk_alloc (HK.out _ _ _ (blk_below hcsb HB1.out) (by decide)) _) 0).trans hcb
          have HCA := Aside0.mk hcc
          clear hcc hcb
          cases hp : ((fun x => decide (x.f2 ≤ id_)) x) with
          | true =>
            go_wp2_with (go_at_call 28; refine (pin_cl28 id_ x b _ HCA.out).mono ?_; rintro e w2 ⟨rfl, hb3⟩; rw [show (decide (x.f2 ≤ id_)) = true from hp])
            go_roundg k1
            case measure => omega
            case rel =>
              have h := HF.out
              rw [hp, if_pos rfl, List.append_nil] at h
              exact ⟨j + 1, i, Y, by first | rw [hw2] | simp, rfl, ⟨by have := HI.out; omega, by have := HI.out; omega, by omega, HI.out.2.2.2.1, by rw [h]; exact HI.out.2.2.2.2.1, HD.out.1⟩, ⟨Kd.R_below (Kd.R_alloc HY.out _) hb3⟩, ⟨HW.out.trans (below_less (below_step (below_alloc (Below.refl _ _) _) hb3) HWW.out)⟩, ⟨HK.out.trans ((Keeps.below (below_alloc (Below.refl _ _) _)).trans (Keeps.below hb3))⟩⟩
          | false =>
            go_wp2_with (first | (go_at_call 28; refine (pin_cl28 id_ x b _ HCA.out).mono ?_; rintro e w2 ⟨rfl, hb3⟩; rw [show (decide (x.f2 ≤ id_)) = false from hp]; have hbl := blk_below (blk_new wr (.cells #[.int .i64 x.f0, .int .i64 x.f1, .int .i64 x.f2] 52)) hb3; have hy0 := blk_cell hbl 0; have hy1 := blk_cell hbl 1; have hy2 := blk_cell hbl 2; have HY2 := Aside0.mk (Kd.R_below (Kd.R_alloc HY.out _) hb3); have HW2 := Aside0.mk (HW.out.trans (below_less (below_step (below_alloc (Below.refl _ _) _) hb3) HWW.out)); have HK2 := Aside0.mk (HK.out.trans ((Keeps.below (below_alloc (Below.refl _ _) _)).trans (Keeps.below hb3))); obtain ⟨cs, hcl, hM, hcell, -⟩ := Kd.R_elem HY2.out z52 (i : Int) (by omega) (by have := HI.out; omega); have HCL := Aside0.mk hcl; have HCE := Aside0.mk hcell; clear hcl hM hcell) | ((with_reducible refine gate_ (.store 52 (.tmp 33) (.tmp 32)) rfl ?_); refine Kd.R_store k52 (w0 := w1) base rfl rfl 52 (.tmp 33) (.tmp 32) rfl 52 (i : Int) 0 Y x (.agg #[.int .i64 x.f0, .int .i64 x.f1, .int .i64 x.f2]) [.int .i64 x.f0, .int .i64 x.f1, .int .i64 x.f2] cs (fun _ => True) (fun _ => False) rfl (by show i * 3 = (i : Int).toNat * 3 + 0; omega) rfl rfl (by kernel_rfl) (by intro q hq; simp only [List.mem_cons, List.not_mem_nil, or_false] at hq; rcases hq with rfl | rfl | rfl <;> rfl) HY2.out (by omega) (by have := HI.out; omega) HCL.out HCE.out (by show 0 + 3 ≤ 3; omega) (by rw [List.take_zero, List.nil_append, List.drop_of_length_le (by rw [HCL.out]; show 3 ≤ 0 + 3; omega), List.append_nil]; exact k52_mkM _ _ _ _) (fun _ h => h.elim) HW2.out ?_; intro w3 hR3 hB3 hG3; have HY3 := Aside0.mk hR3; have HW3 := Aside0.mk hB3; have HK3 := Aside0.mk (HK2.out.trans (Keeps.grown (T := [52]) HY2.out (by decide) hG3)); clear hR3 hB3 hG3))
            go_roundg k1
            case measure => omega
            case rel =>
              have h := HF.out
              rw [hp, if_neg (by simp)] at h
              exact ⟨j + 1, i + 1, Y.set i x, by first | rw [hw2] | simp, by first | rw [hw3] | simp, ⟨by have := HI.out; omega, by have := HI.out; omega, by omega, by rw [List.length_set]; exact HI.out.2.2.2.1, by rw [h, take_set52 Y i x (by have := HI.out; omega), HI.out.2.2.2.2.1], by rw [drop_set52 Y i (j + 1) x (by have := HI.out; omega)]; exact HD.out.1⟩, ⟨HY3.out⟩, ⟨HW3.out⟩, ⟨HK3.out⟩⟩
        · have c2b : decide ((j : Int) < (L.length : Int)) = false := decide_eq_false c2
          obtain ⟨cur, hcur, hcz, -, hcap⟩ := R52_cells HY.out
          obtain ⟨seg, hclr⟩ := clear52 wr gR (i * 3) (L.length - i) (c - i) cur hcur (by have := HI.out; omega) (by have := HI.out; rw [hcz]; omega)
          have i1 : ((0 : Int) ≤ (i : Int)) = True := eq_true (by omega)
          have i2 : ((i : Int) ≤ (L.length : Int)) = True := eq_true (by have := HI.out; omega)
          have i3 : (i ≤ L.length) = True := eq_true (by have := HI.out; omega)
          have i4 : (i ≤ c) = True := eq_true (by have := HI.out; omega)
          have i5 : ((i : Int) ≤ (c : Int)) = True := eq_true (by have := HI.out; omega)
          have i6 : (L.length ≤ c) = True := eq_true hcap
          have i8 : (c = i) = False := eq_false (by have := HI.out; omega)
          have i7 : ((L.length : Int) ≤ (c : Int)) = True := eq_true (by omega)
          go_wp2
          go_ret
          have hj : j = L.length := by have := HI.out; omega
          have hti : (Y.take i).length = i := by rw [List.length_take]; have := HI.out; omega
          have hY := Kd.R_take (m := i) HY.out (by have := HI.out; omega)
          have hE : L.filter (fun x => !(fun x => decide (x.f2 ≤ id_)) x) = Y.take i := by
            have h := HI.out.2.2.2.2.1
            rw [hj, List.take_length] at h
            exact h.symm
          rw [hE]
          exact ⟨_, rfl, R52_tail hY (i * 3) seg (by rw [hti]; omega), (below_less HB1.out HBB.out).trans (HW.out.trans (below_cells (Kd.R_base HY.out gR rfl) seg (i * 3))), (Keeps.below HB1.out).trans (HK.out.trans (Keeps.cells (by decide) seg (i * 3) hcur))⟩
theorem Keeps.weak {w w2 : World} (h : Keeps [52] w w2) : Keeps [48, 52] w w2 := fun k cs t hk hn => h k cs t hk (fun hm => hn (List.mem_cons_of_mem _ hm))
set_option maxHeartbeats 8000000 in
set_option maxRecDepth 100000 in
theorem pin_without27 (id_ : Int) (b : Nat) (base g : Nat) (L : List S52) (most last : Int) (w : World) (h : PinSt w base g L most last) (hc : w.cell? ⟨b, 0, none⟩ = some (.int .i64 id_)) (hb2 : ∃ cs, w.heap[b]? = some (.cells cs 2 (0, 0))) (hlen : L.length ≤ 1000) :
    Calls Try.prog 26 #[.pointer (some ⟨g, 0, none⟩), .func (.func 27) #[] #[.pointer (some ⟨b, 0, none⟩)]] w fun e w' => e = .returned (.int .i64 ((L.length : Int) - ((L.filter (fun x => !(fun x => x.f0 == id_) x)).length : Int))) ∧ PinSt w' base g (L.filter (fun x => !(fun x => x.f0 == id_) x)) most last ∧ Below base w w' ∧ Keeps [48, 52] w w' := by
  have hu48 := Try.underlying48
  have hu52 := Try.underlying52
  have hu46 := Try.underlying46
  have hu23 := Try.underlying23
  have HS := Aside0.mk h
  obtain ⟨v, hb, hg, hR⟩ := h
  obtain ⟨A, c, rfl⟩ := Kd.R_slice hR
  have BK := Aside0.mk hb
  have HG := Aside0.mk hg
  have HR := Aside0.mk hR
  clear hg hR
  have hdel := pin_DeleteFunc27 id_ b A c L base w HR.out hc hb2 (Nat.le_trans HG.out (Nat.le_of_lt (blk_lt BK.out))) hlen
  have hfl : (L.filter (fun x => !(fun x => x.f0 == id_) x)).length ≤ L.length := List.length_filter_le _ _
  generalize (L.filter (fun x => !(fun x => x.f0 == id_) x)) = M at hdel hfl ⊢
  have HD := Aside0.mk hdel
  clear hdel hc hb2
  have hw1 : wrap64 ((L.length : Int) - (M.length : Int)) = (L.length : Int) - (M.length : Int) := by unfold wrap64; omega
  have hc0 := blk_cell BK.out 0
  go_enter Try.func26, Try.ntmps26
  go_wp2_with fail
  refine HD.out.mono ?_
  rintro e w1 ⟨v1, rfl, hR1, hB1, hK1⟩
  obtain ⟨A1, c1, rfl⟩ := Kd.R_slice hR1
  have HR1 := Aside0.mk hR1
  have HB1 := Aside0.mk hB1
  have HK1 := Aside0.mk (Keeps.weak hK1)
  have BK1 := Aside0.mk (hK1 _ _ _ BK.out (by decide))
  clear hc0 hR1 hB1 hK1
  have hc0 := blk_cell BK1.out 0
  have hf0 := blk_frozen BK1.out 0
  go_wp2_with fail
  go_ret
  exact ⟨rfl, ⟨_, by simpa using blk_set BK1.out 0 (.slice A1 M.length c1), HG.out, Kd.R_set HR1.out BK1.out (by decide) 0 _⟩, Below.setCell HB1.out (p := ⟨g, 0, none⟩) HG.out _, HK1.out.trans (Keeps.set BK1.out (by decide) 0 _)⟩
set_option maxHeartbeats 8000000 in
set_option maxRecDepth 100000 in
theorem pin_Drop.callsS (id_ : Int) (base g : Nat) (L : List S52) (most last : Int) (w : World) (h : PinSt w base g L most last) (hlen : L.length ≤ 1000) :
    Calls Try.prog 18 #[.pointer (some ⟨g, 0, none⟩), .int .i64 id_] w fun e w' => e = .returned (.bool (decide ((L.filter (fun x => !(fun x => x.f0 == id_) x)).length < L.length))) ∧ PinSt w' base g (L.filter (fun x => !(fun x => x.f0 == id_) x)) most last ∧ Below base w w' ∧ Keeps [48, 52] w w' := by
  have hbase : base ≤ w.heap.size := by obtain ⟨_, hb, hg, _⟩ := h; exact Nat.le_trans hg (Nat.le_of_lt (blk_lt hb))
  have hnew := blk_new w (.cells #[.int .i64 id_] 2)
  have hwo := pin_without27 id_ w.heap.size base g L most last (w.alloc (.cells #[.int .i64 id_] 2)) (h.below (below_alloc (Below.refl _ _) _)) ((blk_cell hnew 0).trans rfl) ⟨_, hnew⟩ hlen
  generalize (L.filter (fun x => !(fun x => x.f0 == id_) x)) = M at hwo ⊢
  have HWO := Aside0.mk hwo
  have HBS := Aside0.mk hbase
  clear hwo h hnew hbase hlen
  go_enter Try.func18, Try.ntmps18
  go_wp2_with (go_at_call 26; refine HWO.out.mono ?_; rintro e w1 ⟨rfl, h1, h2, h3⟩)
  go_ret
  exact ⟨rfl, h1, (below_less (below_alloc (Below.refl w.heap.size w) _) HBS.out).trans h2, (Keeps.below (below_alloc (Below.refl _ _) _)).trans h3⟩
set_option maxHeartbeats 8000000 in
set_option maxRecDepth 100000 in
theorem pin_without28 (id_ : Int) (b : Nat) (base g : Nat) (L : List S52) (most last : Int) (w : World) (h : PinSt w base g L most last) (hc : w.cell? ⟨b, 0, none⟩ = some (.int .i64 id_)) (hb2 : ∃ cs, w.heap[b]? = some (.cells cs 2 (0, 0))) (hlen : L.length ≤ 1000) :
    Calls Try.prog 26 #[.pointer (some ⟨g, 0, none⟩), .func (.func 28) #[] #[.pointer (some ⟨b, 0, none⟩)]] w fun e w' => e = .returned (.int .i64 ((L.length : Int) - ((L.filter (fun x => !(fun x => decide (x.f2 ≤ id_)) x)).length : Int))) ∧ PinSt w' base g (L.filter (fun x => !(fun x => decide (x.f2 ≤ id_)) x)) most last ∧ Below base w w' ∧ Keeps [48, 52] w w' := by
  have hu48 := Try.underlying48
  have hu52 := Try.underlying52
  have hu46 := Try.underlying46
  have hu23 := Try.underlying23
  have HS := Aside0.mk h
  obtain ⟨v, hb, hg, hR⟩ := h
  obtain ⟨A, c, rfl⟩ := Kd.R_slice hR
  have BK := Aside0.mk hb
  have HG := Aside0.mk hg
  have HR := Aside0.mk hR
  clear hg hR
  have hdel := pin_DeleteFunc28 id_ b A c L base w HR.out hc hb2 (Nat.le_trans HG.out (Nat.le_of_lt (blk_lt BK.out))) hlen
  have hfl : (L.filter (fun x => !(fun x => decide (x.f2 ≤ id_)) x)).length ≤ L.length := List.length_filter_le _ _
  generalize (L.filter (fun x => !(fun x => decide (x.f2 ≤ id_)) x)) = M at hdel hfl ⊢
  have HD := Aside0.mk hdel
  clear hdel hc hb2
  have hw1 : wrap64 ((L.length : Int) - (M.length : Int)) = (L.length : Int) - (M.length : Int) := by unfold wrap64; omega
  have hc0 := blk_cell BK.out 0
  go_enter Try.func26, Try.ntmps26
  go_wp2_with fail
  refine HD.out.mono ?_
  rintro e w1 ⟨v1, rfl, hR1, hB1, hK1⟩
  obtain ⟨A1, c1, rfl⟩ := Kd.R_slice hR1
  have HR1 := Aside0.mk hR1
  have HB1 := Aside0.mk hB1
  have HK1 := Aside0.mk (Keeps.weak hK1)
  have BK1 := Aside0.mk (hK1 _ _ _ BK.out (by decide))
  clear hc0 hR1 hB1 hK1
  have hc0 := blk_cell BK1.out 0
  have hf0 := blk_frozen BK1.out 0
  go_wp2_with fail
  go_ret
  exact ⟨rfl, ⟨_, by simpa using blk_set BK1.out 0 (.slice A1 M.length c1), HG.out, Kd.R_set HR1.out BK1.out (by decide) 0 _⟩, Below.setCell HB1.out (p := ⟨g, 0, none⟩) HG.out _, HK1.out.trans (Keeps.set BK1.out (by decide) 0 _)⟩
set_option maxHeartbeats 8000000 in
set_option maxRecDepth 100000 in
theorem pin_Expire.callsS (id_ : Int) (base g : Nat) (L : List S52) (most last : Int) (w : World) (h : PinSt w base g L most last) (hlen : L.length ≤ 1000) :
    Calls Try.prog 19 #[.pointer (some ⟨g, 0, none⟩), .int .i64 id_] w fun e w' => e = .returned (.int .i64 ((L.length : Int) - ((L.filter (fun x => !(fun x => decide (x.f2 ≤ id_)) x)).length : Int))) ∧ PinSt w' base g (L.filter (fun x => !(fun x => decide (x.f2 ≤ id_)) x)) most last ∧ Below base w w' ∧ Keeps [48, 52] w w' := by
  have hbase : base ≤ w.heap.size := by obtain ⟨_, hb, hg, _⟩ := h; exact Nat.le_trans hg (Nat.le_of_lt (blk_lt hb))
  have hnew := blk_new w (.cells #[.int .i64 id_] 2)
  have hwo := pin_without28 id_ w.heap.size base g L most last (w.alloc (.cells #[.int .i64 id_] 2)) (h.below (below_alloc (Below.refl _ _) _)) ((blk_cell hnew 0).trans rfl) ⟨_, hnew⟩ hlen
  generalize (L.filter (fun x => !(fun x => decide (x.f2 ≤ id_)) x)) = M at hwo ⊢
  have HWO := Aside0.mk hwo
  have HBS := Aside0.mk hbase
  clear hwo h hnew hbase hlen
  go_enter Try.func19, Try.ntmps19
  go_wp2_with (go_at_call 26; refine HWO.out.mono ?_; rintro e w1 ⟨rfl, h1, h2, h3⟩)
  go_ret
  exact ⟨rfl, h1, (below_less (below_alloc (Below.refl w.heap.size w) _) HBS.out).trans h2, (Keeps.below (below_alloc (Below.refl _ _) _)).trans h3⟩
def pinLow (L : List S52) (r : Int) : Int := L.foldl (fun r x => if x.f1 < r then x.f1 else r) r
theorem pinLow_step (L : List S52) (r : Int) (i : Nat) (h : i < L.length) : pinLow (L.take (i + 1)) r = if (rd_T52 L (i : Int)).f1 < pinLow (L.take i) r then (rd_T52 L (i : Int)).f1 else pinLow (L.take i) r := by
  rw [rd52_at L i h]
  unfold pinLow
  rw [List.take_succ_eq_append_getElem h, List.foldl_append]
  rfl
set_option maxHeartbeats 8000000 in
set_option maxRecDepth 100000 in
theorem pin_Least.none_ (base g : Nat) (L : List S52) (most last : Int) (w : World) (h : PinSt w base g L most last) (hne : L.length = 0) : Calls Try.prog 13 #[.pointer (some ⟨g, 0, none⟩)] w fun e w' => e = .returned (.tuple #[.int .i64 0, .bool false]) ∧ Below w.heap.size w w' := by
  have hu23 := Try.underlying23
  have HS := Aside0.mk h
  clear h
  have hz : ((L.length : Int) == 0) = true := by rw [hne]; rfl
  go_enter Try.func13, Try.ntmps13
  go_wp2_with (go_at_call 9; refine (pin_Len.callsS base g L most last _ HS.out).mono ?_; rintro e w1 ⟨rfl, hb1⟩)
  go_ret2
  exact ⟨rfl, hb1⟩
set_option maxHeartbeats 8000000 in
set_option maxRecDepth 100000 in
theorem pin_Least.callsS (base g : Nat) (L : List S52) (most last : Int) (w : World) (h : PinSt w base g L most last) (hne : 0 < L.length) (hlen : L.length ≤ 1000) : Calls Try.prog 13 #[.pointer (some ⟨g, 0, none⟩)] w fun e w' => e = .returned (.tuple #[.int .i64 (pinLow L (rd_T52 L 0).f1), .bool true]) ∧ Below w.heap.size w w' := by
  have hu23 := Try.underlying23
  have hu48 := Try.underlying48
  have hu46 := Try.underlying46
  have hu52 := Try.underlying52
  have HS := Aside0.mk h
  obtain ⟨v, hb, hg, hR⟩ := h
  obtain ⟨A, c, rfl⟩ := Kd.R_slice hR
  have HR := Aside0.mk hR
  have HLEN := Aside0.mk hlen
  have HNE := Aside0.mk hne
  have BK := Aside0.mk hb
  clear hR hlen hne
  have hz : ((L.length : Int) == 0) = false := by have := HNE.out; rw [beq_eq_false_iff_ne]; omega
  go_enter Try.func13, Try.ntmps13
  go_upto_region 3 with (go_at_call 9; refine (pin_Len.callsS base g L most last _ HS.out).mono ?_; rintro e w1 ⟨rfl, hb1⟩; have BK1 := Aside0.mk (blk_below BK.out hb1); have HR1 := Aside0.mk (Kd.R_below HR.out hb1); have HB1 := Aside0.mk hb1; clear hb1)
  have p0 : (0 : Int) ≤ 0 := by omega
  have q0 : (0 : Int) < (L.length : Int) := by have := HNE.out; omega
  obtain ⟨ad, e0, hx0, hx1, hx2⟩ := at_T52 (Kd.R_reads' HR1.out).2.2 0 p0 q0
  cases e0
  have q1 : ((0 : Int) < (L.length : Int)) = True := eq_true q0
  have q2 : (0 < L.length) = True := eq_true HNE.out
  simp only [show (0 : Int).toNat = 0 from rfl, Nat.zero_mul, Nat.reduceMul, Nat.reduceEqDiff, Go.Addr.add, ↓reduceIte, Nat.add_zero] at hx0 hx1 hx2
  have hc0 := blk_cell BK1.out 0
  go_wp2
  clear hx0 hx1 hx2 q2
  go_loopg [22, 4] (L.length + 1) (fun kq v22 v4 wr => ∃ i : Nat, v22 = .int .i64 (i : Int) ∧ v4 = .int .i64 (pinLow (L.take i) (rd_T52 L 0).f1) ∧ Aside0 (i + kq = L.length + 1 ∧ i ≤ L.length) ∧ Aside0 (Below w1.heap.size w1 wr))
  case atStart => exact ⟨0, rfl, rfl, ⟨by omega, by omega⟩, ⟨Below.refl _ _⟩⟩
  case round =>
    obtain ⟨i, rfl, rfl, HI, HW⟩ := hrel
    cases gk with
    | zero => have := HI.out; omega
    | succ k1 =>
      clear hc0
      by_cases c2 : (i : Int) < (L.length : Int)
      · have c2b : decide ((i : Int) < (L.length : Int)) = true := decide_eq_true c2
        have p2 : (0 : Int) ≤ (i : Int) := by omega
        obtain ⟨ad2, e2, hx0, hx1, hx2⟩ := at_T52 (Kd.R_reads' (Kd.R_below HR1.out HW.out)).2.2 (i : Int) p2 c2
        cases e2
        have p2t : ((0 : Int) ≤ (i : Int)) = True := eq_true p2
        have q2t : ((i : Int) < (L.length : Int)) = True := eq_true c2
        have q2n : (i < L.length) = True := eq_true (by omega)
        simp only [Int.toNat_natCast] at hx0 hx1 hx2
        have hw2 : wrap64 ((i : Int) + 1) = ((i + 1 : Nat) : Int) := by have := HLEN.out; unfold wrap64; omega
        by_cases c3 : (rd_T52 L (i : Int)).f1 < pinLow (L.take i) (rd_T52 L 0).f1
        · go_wp2
          go_roundg k1
          case measure => omega
          case rel => exact ⟨i + 1, by first | rw [hw2] | simp, by rw [pinLow_step L _ i (by omega), if_pos c3], ⟨by have := HI.out; omega⟩, ⟨below_alloc HW.out _⟩⟩
        · go_wp2
          go_roundg k1
          case measure => omega
          case rel => exact ⟨i + 1, by first | rw [hw2] | simp, by rw [pinLow_step L _ i (by omega), if_neg (by omega)], ⟨by have := HI.out; omega⟩, ⟨below_alloc HW.out _⟩⟩
      · have c2b : decide ((i : Int) < (L.length : Int)) = false := decide_eq_false c2
        go_wp2
        go_ret2
        have hi : i = L.length := by have := HI.out; omega
        subst hi
        rw [List.take_length]
        exact ⟨rfl, below_step HB1.out HW.out⟩

def RefSt (w : World) (base g : Nat) (L : List S50) (most : Int) : Prop := ∃ v, w.heap[g]? = some (.cells #[v, .int .i64 most] 38 (0, 0)) ∧ base ≤ g ∧ Kd.R k50 50 w base (fun _ => True) v L
theorem RefSt.below {w w' : World} {base g : Nat} {L : List S50} {most : Int} (h : RefSt w base g L most) (hb : Below w.heap.size w w') : RefSt w' base g L most := by
  obtain ⟨v, h1, h2, h3⟩ := h
  exact ⟨v, blk_below h1 hb, h2, Kd.R_below h3 hb⟩
theorem RefSt.keeps {w w' : World} {base g : Nat} {L : List S50} {most : Int} (h : RefSt w base g L most) (hk : Keeps [48, 52] w w') : RefSt w' base g L most := by
  obtain ⟨v, h1, h2, h3⟩ := h
  exact ⟨v, hk _ _ _ h1 (by decide), h2, R_keeps h3 hk (by decide)⟩
theorem rd50_at (xs : List S50) (i : Nat) (h : i < xs.length) : rd_T50 xs (i : Int) = xs[i] := by
  unfold rd_T50
  rw [Int.toNat_natCast, List.getD_eq_getElem?_getD, List.getElem?_eq_getElem h]
  rfl
theorem take50 (xs : List S50) (i : Nat) (h : i < xs.length) : xs.take (i + 1) = xs.take i ++ [rd_T50 xs (i : Int)] := by
  rw [rd50_at xs i h]
  exact List.take_succ_eq_append_getElem h
theorem at50C {w : World} {base : Nat} {A : Option Addr} {n c : Nat} {L : List S50} (HR : Kd.R k50 50 w base (fun _ => True) (.slice A n c) L) (i : Nat) (h1 : i < L.length) :
    ∃ g, A = some ⟨g, 0, none⟩ ∧ w.cell? ⟨g, i * 3, none⟩ = some (.int .i64 (rd_T50 L (i : Int)).f0) ∧ w.cell? ⟨g, i * 3 + 1, none⟩ = some (.int .i64 (rd_T50 L (i : Int)).f1) ∧ w.cell? ⟨g, i * 3 + 2, none⟩ = some (.bool (rd_T50 L (i : Int)).f2) ∧ (∀ j, w.frozen? ⟨g, j, none⟩ = false) := by
  obtain ⟨g, cap, he, _, _, cells, hh⟩ := Kd.R_form HR (by omega)
  injection he with e1 e2 e3
  subst e1
  obtain ⟨ad2, e2', hx0, hx1, hx2⟩ := at_T50 (Kd.R_reads' HR).2.2 (i : Int) (by omega) (by omega)
  injection e2' with e2'
  subst e2'
  rw [add0] at hx0 hx1 hx2
  dsimp only at hx0 hx1 hx2
  rw [Int.toNat_natCast] at hx0 hx1 hx2
  exact ⟨g, rfl, hx0, hx1, hx2, fun j => blk_frozen hh j⟩
theorem set50_1 {w : World} {base : Nat} {g n c : Nat} {L : List S50} (HR : Kd.R k50 50 w base (fun _ => True) (.slice (some ⟨g, 0, none⟩) n c) L) (i : Nat) (h1 : i < L.length) (u : Int) :
    Kd.R k50 50 (w.setCell ⟨g, i * 3 + 1, none⟩ (.int .i64 u)) base (fun _ => True) (.slice (some ⟨g, 0, none⟩) n c) (L.set i ⟨(rd_T50 L (i : Int)).f0, u, (rd_T50 L (i : Int)).f2⟩) ∧ w.grownBy (w.setCell ⟨g, i * 3 + 1, none⟩ (.int .i64 u)) (some g) := by
  have hn := (Kd.R_reads' HR).1
  obtain ⟨cs, hcl, hM, hcc, _⟩ := Kd.R_elem HR z50 (i : Int) (by omega) (by omega)
  have hcs := k50_openM hM
  subst hcs
  exact Kd.R_seg HR (i : Int) (by omega) (by omega) (seg := [.int .i64 u]) (j := 1) hcl hcc (by show 1 + 1 ≤ 3; omega) (x' := ⟨(rd_T50 L (i : Int)).f0, u, (rd_T50 L (i : Int)).f2⟩) (okp := fun _ => False) (k50_mkM _ _ _ _) (fun _ h => h.elim)
theorem set50_2 {w : World} {base : Nat} {g n c : Nat} {L : List S50} (HR : Kd.R k50 50 w base (fun _ => True) (.slice (some ⟨g, 0, none⟩) n c) L) (i : Nat) (h1 : i < L.length) (u : Bool) :
    Kd.R k50 50 (w.setCell ⟨g, i * 3 + 2, none⟩ (.bool u)) base (fun _ => True) (.slice (some ⟨g, 0, none⟩) n c) (L.set i ⟨(rd_T50 L (i : Int)).f0, (rd_T50 L (i : Int)).f1, u⟩) ∧ w.grownBy (w.setCell ⟨g, i * 3 + 2, none⟩ (.bool u)) (some g) := by
  have hn := (Kd.R_reads' HR).1
  obtain ⟨cs, hcl, hM, hcc, _⟩ := Kd.R_elem HR z50 (i : Int) (by omega) (by omega)
  have hcs := k50_openM hM
  subst hcs
  exact Kd.R_seg HR (i : Int) (by omega) (by omega) (seg := [.bool u]) (j := 2) hcl hcc (by show 2 + 1 ≤ 3; omega) (x' := ⟨(rd_T50 L (i : Int)).f0, (rd_T50 L (i : Int)).f1, u⟩) (okp := fun _ => False) (k50_mkM _ _ _ _) (fun _ h => h.elim)
def refLen (L : List S50) : Nat := (L.filter (fun x => x.f2)).length
theorem refLen_le (L : List S50) : refLen L ≤ L.length := List.length_filter_le _ _
theorem refLen_step (L : List S50) (i : Nat) (h : i < L.length) : refLen (L.take (i + 1)) = refLen (L.take i) + if (rd_T50 L (i : Int)).f2 = true then 1 else 0 := by
  rw [take50 L i h]
  unfold refLen
  rw [List.filter_append, List.length_append]
  congr 1
  cases hp : (rd_T50 L (i : Int)).f2 <;> simp [hp]
set_option maxHeartbeats 8000000 in
set_option maxRecDepth 100000 in
theorem ref_New.callsS (a : Int) (base : Nat) (w : World) (hbase : base ≤ w.heap.size) : Calls Try.prog 7 #[.int .i64 a] w fun e w' => ∃ g_ : Nat, e = .returned (.pointer (some ⟨g_, 0, none⟩)) ∧ RefSt w' base g_ [] (mx a 1) ∧ Below w.heap.size w w' := by
  have hu38 := Try.underlying38
  have HBS := Aside0.mk hbase
  clear hbase
  by_cases ha : a < 1
  · rw [show mx a 1 = 1 from if_pos ha]
    have hab : decide (a < 1) = true := decide_eq_true ha
    go_enter Try.func7, Try.ntmps7
    go_wp2_with (first | ((with_reducible refine gate_dst (N := 7) rfl ?_); refine box_event ?hg (N := 7) ?hd (cs := #[.slice none 0 0, .int .i64 1]) (t := 38) ?hr ?_; (case hd => rfl); (case hg => rfl); (case hr => first | (go_simp; done) | (go_simp; rfl)); intro gb101 hg w3 hbox hb; have BK := Aside0.mk hbox; have HG := Aside0.mk hg; have HB3 := Aside0.mk hb; clear hb hbox hg))
    go_ret
    exact ⟨_, rfl, ⟨_, BK.out, by rw [HG.out]; exact HBS.out, Kd.R_nil _ _ _ _ _⟩, HB3.out⟩
  · rw [show mx a 1 = a from if_neg ha]
    have hab : decide (a < 1) = false := decide_eq_false ha
    go_enter Try.func7, Try.ntmps7
    go_wp2_with (first | ((with_reducible refine gate_dst (N := 7) rfl ?_); refine box_event ?hg (N := 7) ?hd (cs := #[.slice none 0 0, .int .i64 a]) (t := 38) ?hr ?_; (case hd => rfl); (case hg => rfl); (case hr => first | (go_simp; done) | (go_simp; rfl)); intro gb101 hg w3 hbox hb; have BK := Aside0.mk hbox; have HG := Aside0.mk hg; have HB3 := Aside0.mk hb; clear hb hbox hg))
    go_ret
    exact ⟨_, rfl, ⟨_, BK.out, by rw [HG.out]; exact HBS.out, Kd.R_nil _ _ _ _ _⟩, HB3.out⟩
set_option maxHeartbeats 8000000 in
set_option maxRecDepth 100000 in
theorem ref_Len.callsS (base g : Nat) (L : List S50) (most : Int) (w : World) (h : RefSt w base g L most) (hlen : L.length ≤ 1000) : Calls Try.prog 10 #[.pointer (some ⟨g, 0, none⟩)] w fun e w' => e = .returned (.int .i64 (refLen L : Int)) ∧ Below w.heap.size w w' := by
  have hu38 := Try.underlying38
  have hu50 := Try.underlying50
  have hu36 := Try.underlying36
  have hu25 := Try.underlying25
  have HS := Aside0.mk h
  obtain ⟨v, hb, hg, hR⟩ := h
  obtain ⟨A, c, rfl⟩ := Kd.R_slice hR
  have BK := Aside0.mk hb
  have HG := Aside0.mk hg
  have HR := Aside0.mk hR
  have HLEN := Aside0.mk hlen
  clear hg hR hlen
  have hc0 := blk_cell BK.out 0
  go_enter Try.func10, Try.ntmps10
  go_wp2
  clear hc0
  go_loopg [11, 3] (L.length + 1) (fun kq v11 v3 wr => ∃ i : Nat, v11 = .int .i64 (i : Int) ∧ v3 = .int .i64 (refLen (L.take i) : Int) ∧ Aside0 (i + kq = L.length + 1 ∧ i ≤ L.length) ∧ Aside0 (Below w.heap.size w wr))
  case atStart => exact ⟨0, rfl, rfl, ⟨by omega, by omega⟩, ⟨Below.refl _ _⟩⟩
  case round =>
    obtain ⟨i, rfl, rfl, HI, HW⟩ := hrel
    cases gk with
    | zero => have := HI.out; omega
    | succ k1 =>
      by_cases c2 : (i : Int) < (L.length : Int)
      · skip
        have c2b : decide ((i : Int) < (L.length : Int)) = true := decide_eq_true c2
        have q2n : (i < L.length) = True := eq_true (by omega)
        have p2t : ((0 : Int) ≤ (i : Int)) = True := eq_true (by omega)
        have q2t : ((i : Int) < (L.length : Int)) = True := eq_true c2
        have hw2 : wrap64 ((i : Int) + 1) = ((i + 1 : Nat) : Int) := by have := HLEN.out; unfold wrap64; omega
        obtain ⟨gR, e2, hx0, hx1, hx2, _⟩ := at50C (Kd.R_below HR.out HW.out) i (by omega)
        cases e2
        have hs := refLen_step L i (by omega)
        have hr := refLen_le (L.take i)
        rw [List.length_take] at hr
        have hw3 : wrap64 ((refLen (L.take i) : Int) + 1) = ((refLen (L.take i) + 1 : Nat) : Int) := by have := HLEN.out; unfold wrap64; omega
        obtain ⟨n, hn⟩ : ∃ n, refLen (L.take i) = n := ⟨_, rfl⟩
        rw [hn] at hw3 hs ⊢
        clear hr hn
        cases hp : (rd_T50 L (i : Int)).f2 with
        | true =>
          rw [hp] at hx2 hs
          go_wp2
          go_roundg k1
          case measure => omega
          case rel => exact ⟨i + 1, by first | rw [hw2] | simp, by rw [hs]; first | rw [hw3] | simp, ⟨by have := HI.out; omega, by omega⟩, ⟨below_alloc HW.out _⟩⟩
        | false =>
          rw [hp] at hx2 hs
          go_wp2
          go_roundg k1
          case measure => omega
          case rel => exact ⟨i + 1, by first | rw [hw2] | simp, by rw [hs]; first | rfl | simp, ⟨by have := HI.out; omega, by omega⟩, ⟨below_alloc HW.out _⟩⟩
      · have c2b : decide ((i : Int) < (L.length : Int)) = false := decide_eq_false c2
        have hi : i = L.length := by have := HI.out; omega
        subst hi
        rw [List.take_length]
        go_wp2
        go_ret
        exact ⟨rfl, HW.out⟩
set_option maxHeartbeats 8000000 in
set_option maxRecDepth 100000 in
theorem ref_Add.bad (base g : Nat) (rev until_ : Int) (w : World) (hr : rev < 0) : Calls Try.prog 20 #[.pointer (some ⟨g, 0, none⟩), .int .i64 rev, .int .i64 until_] w fun e w' => e = .returned (.tuple #[.int .i64 0, .int .i64 1]) ∧ Below w.heap.size w w' := by
  have hc1 : decide (rev < 0) = true := decide_eq_true hr
  go_enter Try.func20, Try.ntmps20
  go_wp2
  go_ret2
  exact ⟨rfl, Below.refl _ _⟩
set_option maxHeartbeats 8000000 in
set_option maxRecDepth 100000 in
theorem ref_Add.full (base g : Nat) (L : List S50) (most rev until_ : Int) (w : World) (h : RefSt w base g L most) (hlen : L.length ≤ 1000) (hr : 0 ≤ rev) (hl : most ≤ (refLen L : Int)) :
    Calls Try.prog 20 #[.pointer (some ⟨g, 0, none⟩), .int .i64 rev, .int .i64 until_] w fun e w' => e = .returned (.tuple #[.int .i64 0, .int .i64 7]) ∧ Below w.heap.size w w' := by
  have hu38 := Try.underlying38
  have hu50 := Try.underlying50
  have hu36 := Try.underlying36
  have hu25 := Try.underlying25
  have HS := Aside0.mk h
  obtain ⟨v, hb, hg, hR⟩ := h
  obtain ⟨A, c, rfl⟩ := Kd.R_slice hR
  have BK := Aside0.mk hb
  have HG := Aside0.mk hg
  have HR := Aside0.mk hR
  have HLEN := Aside0.mk hlen
  clear hg hR hlen
  have hc1 : decide (rev < 0) = false := decide_eq_false (by omega)
  have hc2 : decide ((refLen L : Int) ≥ most) = true := decide_eq_true (by omega)
  go_enter Try.func20, Try.ntmps20
  go_upto_region 3 with fail
  refine start_ (n := 7) (S := fun w' => w'.cell? ⟨g, 1, none⟩ = some (.int .i64 most)) (ds := []) #[false, false, false, false, false, false, false] (by kernel_rfl) rfl rfl ((blk_cell BK.out 1).trans rfl) (fun hHeld => ?_)
  refine pure_ (i := 0) (N := some 10) (v := ?_) (a' := ?_) #[true, false, false, false, false, false, false] rfl rfl (by kernel_rfl) (fun _ _ _ h => h) (Or.inl ⟨by rfl, ?_⟩) ?_ ?_
  rotate_left
  · intro w'
    go_simp
    with_reducible rfl
  rotate_left
  · simp only [Act.put, List.setIfInBounds_toArray, List.set_cons_zero, List.set_cons_succ, i64_w, i32_w]
    rfl
  refine pure_ (i := 2) (N := some 12) (v := ?_) (a' := ?_) #[true, false, true, false, false, false, false] rfl rfl (by kernel_rfl) (fun _ _ _ h => h) (Or.inl ⟨by rfl, ?_⟩) ?_ ?_
  rotate_left
  · intro w'
    go_simp
    with_reducible rfl
  rotate_left
  · simp only [Act.put, List.setIfInBounds_toArray, List.set_cons_zero, List.set_cons_succ, i64_w, i32_w]
    rfl
  refine pure_ (i := 3) (N := some 13) (v := ?_) (a' := ?_) #[true, false, true, true, false, false, false] rfl rfl (by kernel_rfl) (fun _ _ _ h => h) (Or.inl ⟨by rfl, ?_⟩) ?_ ?_
  rotate_left
  · intro w'
    go_simp
    with_reducible rfl
  rotate_left
  · simp only [Act.put, List.setIfInBounds_toArray, List.set_cons_zero, List.set_cons_succ, i64_w, i32_w]
    rfl
  refine pure_ (i := 4) (N := some 14) (v := ?_) (a' := ?_) #[true, false, true, true, true, false, false] rfl rfl (by kernel_rfl) (fun _ _ _ h => h) (Or.inl ⟨by rfl, ?_⟩) ?_ ?_
  rotate_left
  · intro w'
    go_simp
    with_reducible rfl
  rotate_left
  · simp only [Act.put, List.setIfInBounds_toArray, List.set_cons_zero, List.set_cons_succ, i64_w, i32_w]
    rfl
  refine take_ (i := 5) (N := some 15) (v := ?_) (a' := ?_) #[true, false, true, true, true, true, false] rfl rfl (by kernel_rfl) (fun _ _ _ h => h) (Or.inl ⟨by rfl, ?_⟩) hHeld ?_ ?_
  rotate_left
  · intro w' s0
    go_simp
    with_reducible rfl
  rotate_left
  · simp only [Act.put, List.setIfInBounds_toArray, List.set_cons_zero, List.set_cons_succ, i64_w, i32_w]
    rfl
  refine one_ (i := 1) (N := some 11) #[true, true, true, true, true, true, false] rfl rfl (by kernel_rfl) (by decide) (fun K hK => ?_)
  refine goes_ Try.func10 (by kernel_rfl) rfl #[.pointer (some ⟨g, 0, none⟩)] (by rfl) rfl rfl (by simp only [List.map_toArray, List.map_cons, List.map_nil]; rfl) ?_
  with_reducible refine (ref_Len.callsS base g L most _ (HS.out.below (below_drew (Below.refl _ _))) HLEN.out).mono ?_
  rintro e w3 ⟨rfl, hb3⟩
  refine ⟨_, rfl, ?_⟩
  have BK3 := Aside0.mk (blk_below (blk_drew BK.out) hb3)
  have HB3 := Aside0.mk hb3
  refine hK.out _ _ ((blk_cell BK3.out 1).trans rfl) (fun hHeld => ?_)
  clear hK K
  refine norm_ (a' := ?_) ?_ ?_
  rotate_left
  · show Act.put _ (some 11) _ = _
    simp only [Act.put, List.setIfInBounds_toArray, List.set_cons_zero, List.set_cons_succ, i64_w, i32_w]
    rfl
  refine pure_ (i := 6) (N := some 16) (v := ?_) (a' := ?_) #[true, true, true, true, true, true, true] rfl rfl (by kernel_rfl) (fun _ _ _ h => h) (Or.inl ⟨by rfl, ?_⟩) ?_ ?_
  rotate_left
  · intro w'
    go_simp
    with_reducible rfl
  rotate_left
  · simp only [Act.put, List.setIfInBounds_toArray, List.set_cons_zero, List.set_cons_succ, i64_w, i32_w]
    rfl
  refine done_ (by kernel_rfl) ?_
  go_wp2
  go_ret2
  exact ⟨rfl, (below_drew (Below.refl w.heap.size w)).trans HB3.out⟩
set_option maxHeartbeats 8000000 in
set_option maxRecDepth 100000 in
theorem ref_Add.callsS (base g : Nat) (L : List S50) (most rev until_ : Int) (w : World) (h : RefSt w base g L most) (hlen : L.length ≤ 1000) (hr : 0 ≤ rev) (hl : (refLen L : Int) < most) :
    Calls Try.prog 20 #[.pointer (some ⟨g, 0, none⟩), .int .i64 rev, .int .i64 until_] w fun e w' => e = .returned (.tuple #[.int .i64 ((L.length + 1 : Nat) : Int), .int .i64 0]) ∧ RefSt w' base g (L ++ [⟨rev, until_, true⟩]) most ∧ Below base w w' ∧ Keeps [38, 50] w w' := by
  have hu38 := Try.underlying38
  have hu50 := Try.underlying50
  have hu36 := Try.underlying36
  have hu25 := Try.underlying25
  have HS := Aside0.mk h
  obtain ⟨v, hb, hg, hR⟩ := h
  obtain ⟨A, c, rfl⟩ := Kd.R_slice hR
  have BK := Aside0.mk hb
  have HG := Aside0.mk hg
  have HR := Aside0.mk hR
  have HLEN := Aside0.mk hlen
  clear hg hR hlen
  have hc1 : decide (rev < 0) = false := decide_eq_false (by omega)
  have hc2 : decide ((refLen L : Int) ≥ most) = false := decide_eq_false (by omega)
  go_enter Try.func20, Try.ntmps20
  go_upto_region 3 with fail
  refine start_ (n := 7) (S := fun w' => w'.cell? ⟨g, 1, none⟩ = some (.int .i64 most)) (ds := []) #[false, false, false, false, false, false, false] (by kernel_rfl) rfl rfl ((blk_cell BK.out 1).trans rfl) (fun hHeld => ?_)
  refine pure_ (i := 0) (N := some 10) (v := ?_) (a' := ?_) #[true, false, false, false, false, false, false] rfl rfl (by kernel_rfl) (fun _ _ _ h => h) (Or.inl ⟨by rfl, ?_⟩) ?_ ?_
  rotate_left
  · intro w'
    go_simp
    with_reducible rfl
  rotate_left
  · simp only [Act.put, List.setIfInBounds_toArray, List.set_cons_zero, List.set_cons_succ, i64_w, i32_w]
    rfl
  refine pure_ (i := 2) (N := some 12) (v := ?_) (a' := ?_) #[true, false, true, false, false, false, false] rfl rfl (by kernel_rfl) (fun _ _ _ h => h) (Or.inl ⟨by rfl, ?_⟩) ?_ ?_
  rotate_left
  · intro w'
    go_simp
    with_reducible rfl
  rotate_left
  · simp only [Act.put, List.setIfInBounds_toArray, List.set_cons_zero, List.set_cons_succ, i64_w, i32_w]
    rfl
  refine pure_ (i := 3) (N := some 13) (v := ?_) (a' := ?_) #[true, false, true, true, false, false, false] rfl rfl (by kernel_rfl) (fun _ _ _ h => h) (Or.inl ⟨by rfl, ?_⟩) ?_ ?_
  rotate_left
  · intro w'
    go_simp
    with_reducible rfl
  rotate_left
  · simp only [Act.put, List.setIfInBounds_toArray, List.set_cons_zero, List.set_cons_succ, i64_w, i32_w]
    rfl
  refine pure_ (i := 4) (N := some 14) (v := ?_) (a' := ?_) #[true, false, true, true, true, false, false] rfl rfl (by kernel_rfl) (fun _ _ _ h => h) (Or.inl ⟨by rfl, ?_⟩) ?_ ?_
  rotate_left
  · intro w'
    go_simp
    with_reducible rfl
  rotate_left
  · simp only [Act.put, List.setIfInBounds_toArray, List.set_cons_zero, List.set_cons_succ, i64_w, i32_w]
    rfl
  refine take_ (i := 5) (N := some 15) (v := ?_) (a' := ?_) #[true, false, true, true, true, true, false] rfl rfl (by kernel_rfl) (fun _ _ _ h => h) (Or.inl ⟨by rfl, ?_⟩) hHeld ?_ ?_
  rotate_left
  · intro w' s0
    go_simp
    with_reducible rfl
  rotate_left
  · simp only [Act.put, List.setIfInBounds_toArray, List.set_cons_zero, List.set_cons_succ, i64_w, i32_w]
    rfl
  refine one_ (i := 1) (N := some 11) #[true, true, true, true, true, true, false] rfl rfl (by kernel_rfl) (by decide) (fun K hK => ?_)
  refine goes_ Try.func10 (by kernel_rfl) rfl #[.pointer (some ⟨g, 0, none⟩)] (by rfl) rfl rfl (by simp only [List.map_toArray, List.map_cons, List.map_nil]; rfl) ?_
  with_reducible refine (ref_Len.callsS base g L most _ (HS.out.below (below_drew (Below.refl _ _))) HLEN.out).mono ?_
  rintro e w3 ⟨rfl, hb3⟩
  refine ⟨_, rfl, ?_⟩
  have BK3 := Aside0.mk (blk_below (blk_drew BK.out) hb3)
  have HB3 := Aside0.mk hb3
  refine hK.out _ _ ((blk_cell BK3.out 1).trans rfl) (fun hHeld => ?_)
  clear hK K
  refine norm_ (a' := ?_) ?_ ?_
  rotate_left
  · show Act.put _ (some 11) _ = _
    simp only [Act.put, List.setIfInBounds_toArray, List.set_cons_zero, List.set_cons_succ, i64_w, i32_w]
    rfl
  refine pure_ (i := 6) (N := some 16) (v := ?_) (a' := ?_) #[true, true, true, true, true, true, true] rfl rfl (by kernel_rfl) (fun _ _ _ h => h) (Or.inl ⟨by rfl, ?_⟩) ?_ ?_
  rotate_left
  · intro w'
    go_simp
    with_reducible rfl
  rotate_left
  · simp only [Act.put, List.setIfInBounds_toArray, List.set_cons_zero, List.set_cons_succ, i64_w, i32_w]
    rfl
  refine done_ (by kernel_rfl) ?_
  have HR3 := Aside0.mk (Kd.R_below (Kd.R_drew HR.out) HB3.out)
  have HBB := Aside0.mk (Nat.le_trans HG.out (Nat.le_of_lt (blk_lt BK.out)))
  have HB4 := Aside0.mk (below_less ((below_drew (Below.refl w.heap.size w)).trans HB3.out) HBB.out)
  have HK3 := Aside0.mk (show Keeps [38, 50] w w3 from (Keeps.below (below_drew (Below.refl w.heap.size w))).trans (Keeps.below HB3.out))
  clear HB3
  have hc0 := blk_cell BK3.out 0
  have hf0 := blk_frozen BK3.out 0
  go_wp2_with (first | ((with_reducible refine gate_builtin (b := .append) (xs := #[.tmp 21, .tmp 25]) rfl ?_); at_builtin; refine Kd.R_append k50 (w0 := w) base rfl (.tmp 21) (.tmp 25) 36 50 (.agg #[.int .i64 0, .int .i64 0, .bool false]) 24 rfl Try.underlying36 info50 rfl (by decide) (by omega) (.slice A L.length c) L (⟨rev, until_, true⟩ : S50) [.int .i64 rev, .int .i64 until_, .bool true] (fun _ => True) (fun _ => False) rfl rfl ?aP (fun _ hk => hk.elim) ?aF ?aO ?aB ?aS ?aL ?_; (case aP => exact k50_mkM _ _ _ (⟨rev, until_, true⟩ : S50)); (case aF => exact (fun _ _ => trivial)); (case aO => exact HR3.out); (case aB => exact HB4.out); (case aS => exact Nat.le_trans HG.out (Nat.le_of_lt (blk_lt BK3.out))); (case aL => have := HLEN.out; omega); intro v4 w4 ho hbb hg3 hat; obtain ⟨A3, c3, rfl⟩ := Kd.R_slice ho; rw [List.length_append, List.length_singleton] at ho; have BK4 := Aside0.mk (blk_grown (g := g) BK3.out hg3 (Kd.R_ne HR3.out BK3.out (by decide))); have HR4 := Aside0.mk ho; have HB5 := Aside0.mk hbb; have HK4 := Aside0.mk (HK3.out.trans (Keeps.grown (T := [38, 50]) HR3.out (by decide) hg3)); clear ho hbb hg3 hat hc0 hf0; have hc0 := blk_cell BK4.out 0; have hf0 := blk_frozen BK4.out 0))
  go_ret2
  have hset := blk_set BK4.out 0 (.slice A3 (L.length + 1) c3)
  exact ⟨by first | rfl | simp, ⟨_, by simpa using hset, HG.out, Kd.R_set HR4.out BK4.out (by decide) 0 _⟩, Below.setCell HB5.out (p := ⟨g, 0, none⟩) HG.out _, HK4.out.trans (Keeps.set BK4.out (by decide) 0 _)⟩
def rHeld (L : List S50) (id_ : Int) : Bool := decide (1 ≤ id_) && decide (id_ ≤ (L.length : Int)) && (rd_T50 L (id_ - 1)).f2
theorem rHeld_some {L : List S50} {id_ : Int} (h : rHeld L id_ = true) : ∃ m : Nat, id_ = (m : Int) + 1 ∧ m < L.length ∧ (rd_T50 L (m : Int)).f2 = true := by
  unfold rHeld at h
  simp only [Bool.and_eq_true, decide_eq_true_eq] at h
  obtain ⟨⟨h1, h2⟩, h3⟩ := h
  refine ⟨(id_ - 1).toNat, by omega, by omega, ?_⟩
  rw [show ((id_ - 1).toNat : Int) = id_ - 1 by omega]
  exact h3
set_option maxHeartbeats 8000000 in
set_option maxRecDepth 100000 in
theorem ref_Held.callsS (id_ : Int) (base g : Nat) (L : List S50) (most : Int) (w : World) (h : RefSt w base g L most) (hlen : L.length ≤ 1000) : Calls Try.prog 25 #[.pointer (some ⟨g, 0, none⟩), .int .i64 id_] w fun e w' => e = .returned (.bool (rHeld L id_)) ∧ Below w.heap.size w w' := by
  have hu38 := Try.underlying38
  have hu50 := Try.underlying50
  have hu36 := Try.underlying36
  have hu25 := Try.underlying25
  have HS := Aside0.mk h
  obtain ⟨v, hb, hg, hR⟩ := h
  obtain ⟨A, c, rfl⟩ := Kd.R_slice hR
  have BK := Aside0.mk hb
  have HG := Aside0.mk hg
  have HR := Aside0.mk hR
  have HLEN := Aside0.mk hlen
  clear hg hR hlen
  by_cases h1 : 1 ≤ id_
  · by_cases h2 : id_ ≤ (L.length : Int)
    · obtain ⟨m, rfl⟩ : ∃ m : Nat, id_ = (m : Int) + 1 := ⟨(id_ - 1).toNat, by omega⟩
      have hm : m < L.length := by omega
      have hres : rHeld L ((m : Int) + 1) = (rd_T50 L (m : Int)).f2 := by
        unfold rHeld
        rw [show (m : Int) + 1 - 1 = (m : Int) by omega]
        simp [h1, h2]
      rw [hres]
      obtain ⟨gR, e2, hx0, hx1, hx2, _⟩ := at50C HR.out m hm
      cases e2
      have hm1 : (1 : Int) ≤ (m : Int) + 1 := by omega
      have d1 : decide ((m : Int) + 1 ≥ 1) = true := decide_eq_true (by omega)
      have d2 : decide ((m : Int) + 1 ≤ (L.length : Int)) = true := decide_eq_true (by omega)
      have hwa : wrap64 ((m : Int) + 1 - 1) = (m : Int) := by have := HLEN.out; unfold wrap64; omega
      have hwb : wrap64 (m : Int) = (m : Int) := by have := HLEN.out; unfold wrap64; omega
      have hss : (m : Int) + 1 - 1 = (m : Int) := by omega
      have p2t : ((0 : Int) ≤ (m : Int)) = True := eq_true (by omega)
      have q2t : ((m : Int) < (L.length : Int)) = True := eq_true (by omega)
      have q2n : (m < L.length) = True := eq_true hm
      have hc0 := blk_cell BK.out 0
      go_enter Try.func25, Try.ntmps25
      go_wp2
      go_ret
      exact ⟨rfl, Below.refl _ _⟩
    · have hres : rHeld L id_ = false := by unfold rHeld; simp [h2]
      rw [hres]
      have d1 : decide (id_ ≥ 1) = true := decide_eq_true h1
      have d2 : decide (id_ ≤ (L.length : Int)) = false := decide_eq_false h2
      have hc0 := blk_cell BK.out 0
      go_enter Try.func25, Try.ntmps25
      go_wp2
      go_ret
      exact ⟨rfl, Below.refl _ _⟩
  · have hres : rHeld L id_ = false := by unfold rHeld; simp [h1]
    rw [hres]
    have d1 : decide (id_ ≥ 1) = false := decide_eq_false h1
    go_enter Try.func25, Try.ntmps25
    go_wp2
    go_ret
    exact ⟨rfl, Below.refl _ _⟩
set_option maxHeartbeats 8000000 in
set_option maxRecDepth 100000 in
theorem ref_Rev.callsS (id_ : Int) (base g : Nat) (L : List S50) (most : Int) (w : World) (h : RefSt w base g L most) (hlen : L.length ≤ 1000) : Calls Try.prog 12 #[.pointer (some ⟨g, 0, none⟩), .int .i64 id_] w fun e w' => e = .returned (.tuple #[.int .i64 (if rHeld L id_ = true then (rd_T50 L (id_ - 1)).f0 else 0), .bool (rHeld L id_)]) ∧ Below w.heap.size w w' := by
  have hu38 := Try.underlying38
  have hu50 := Try.underlying50
  have hu36 := Try.underlying36
  have hu25 := Try.underlying25
  have HS := Aside0.mk h
  obtain ⟨v, hb, hg, hR⟩ := h
  obtain ⟨A, c, rfl⟩ := Kd.R_slice hR
  have BK := Aside0.mk hb
  have HG := Aside0.mk hg
  have HR := Aside0.mk hR
  have HLEN := Aside0.mk hlen
  clear hg hR hlen
  have HH := Aside0.mk (ref_Held.callsS id_ base g L most w HS.out HLEN.out)
  cases hh : rHeld L id_ with
  | false =>
    rw [hh] at HH
    rw [if_neg (by simp)]
    go_enter Try.func12, Try.ntmps12
    go_wp2_with (go_at_call 25; refine HH.out.mono ?_; rintro e w1 ⟨rfl, hb1⟩)
    go_ret2
    exact ⟨rfl, hb1⟩
  | true =>
    rw [hh] at HH
    rw [if_pos rfl]
    obtain ⟨m, rfl, hm, _⟩ := rHeld_some hh
    rw [show (m : Int) + 1 - 1 = (m : Int) by omega]
    obtain ⟨gR, e2, _, _, _, _⟩ := at50C HR.out m hm
    cases e2
    have hm1 : (1 : Int) ≤ (m : Int) + 1 := by omega
    have d1 : decide ((m : Int) + 1 ≥ 1) = true := decide_eq_true (by omega)
    have d2 : decide ((m : Int) + 1 ≤ (L.length : Int)) = true := decide_eq_true (by omega)
    have hwa : wrap64 ((m : Int) + 1 - 1) = (m : Int) := by have := HLEN.out; unfold wrap64; omega
    have hwb : wrap64 (m : Int) = (m : Int) := by have := HLEN.out; unfold wrap64; omega
    have hss : (m : Int) + 1 - 1 = (m : Int) := by omega
    have p2t : ((0 : Int) ≤ (m : Int)) = True := eq_true (by omega)
    have q2t : ((m : Int) < (L.length : Int)) = True := eq_true (by omega)
    have q2n : (m < L.length) = True := eq_true hm
    go_enter Try.func12, Try.ntmps12
    go_wp2_with (go_at_call 25; refine HH.out.mono ?_; rintro e w1 ⟨rfl, hb1⟩; obtain ⟨gR', e2, hx0, hx1, hx2, _⟩ := at50C (Kd.R_below HR.out hb1) m hm; cases e2; have hc0 := blk_cell (blk_below BK.out hb1) 0)
    go_ret2
    exact ⟨rfl, hb1⟩
set_option maxHeartbeats 8000000 in
set_option maxRecDepth 100000 in
theorem ref_Drop.no (id_ : Int) (base g : Nat) (L : List S50) (most : Int) (w : World) (h : RefSt w base g L most) (hlen : L.length ≤ 1000) (hh : rHeld L id_ = false) : Calls Try.prog 22 #[.pointer (some ⟨g, 0, none⟩), .int .i64 id_] w fun e w' => e = .returned (.bool false) ∧ Below w.heap.size w w' := by
  have HH := Aside0.mk (ref_Held.callsS id_ base g L most w h hlen)
  rw [hh] at HH
  clear h hlen
  go_enter Try.func22, Try.ntmps22
  go_wp2_with (go_at_call 25; refine HH.out.mono ?_; rintro e w1 ⟨rfl, hb1⟩)
  go_ret
  exact ⟨rfl, hb1⟩
set_option maxHeartbeats 8000000 in
set_option maxRecDepth 100000 in
theorem ref_Drop.yes (m : Nat) (base g : Nat) (L : List S50) (most : Int) (w : World) (h : RefSt w base g L most) (hlen : L.length ≤ 1000) (hm : m < L.length) (hh : rHeld L ((m : Int) + 1) = true) : Calls Try.prog 22 #[.pointer (some ⟨g, 0, none⟩), .int .i64 ((m : Int) + 1)] w fun e w' => e = .returned (.bool true) ∧ RefSt w' base g (L.set m ⟨(rd_T50 L (m : Int)).f0, (rd_T50 L (m : Int)).f1, false⟩) most ∧ Below base w w' ∧ Keeps [38, 50] w w' := by
  have hu38 := Try.underlying38
  have hu50 := Try.underlying50
  have hu36 := Try.underlying36
  have hu25 := Try.underlying25
  have HS := Aside0.mk h
  obtain ⟨v, hb, hg, hR⟩ := h
  obtain ⟨A, c, rfl⟩ := Kd.R_slice hR
  have BK := Aside0.mk hb
  have HG := Aside0.mk hg
  have HR := Aside0.mk hR
  have HLEN := Aside0.mk hlen
  clear hg hR hlen
  have HH := Aside0.mk (ref_Held.callsS ((m : Int) + 1) base g L most w HS.out HLEN.out)
  rw [hh] at HH
  have HBB := Aside0.mk (Nat.le_trans HG.out (Nat.le_of_lt (blk_lt BK.out)))
  have HM := Aside0.mk hm
  obtain ⟨gR, e2, _, _, _, _⟩ := at50C HR.out m hm
  cases e2
  have hm1 : (1 : Int) ≤ (m : Int) + 1 := by omega
  have d1 : decide ((m : Int) + 1 ≥ 1) = true := decide_eq_true (by omega)
  have d2 : decide ((m : Int) + 1 ≤ (L.length : Int)) = true := decide_eq_true (by omega)
  have hwa : wrap64 ((m : Int) + 1 - 1) = (m : Int) := by have := HLEN.out; unfold wrap64; omega
  have hwb : wrap64 (m : Int) = (m : Int) := by have := HLEN.out; unfold wrap64; omega
  have hss : (m : Int) + 1 - 1 = (m : Int) := by omega
  have p2t : ((0 : Int) ≤ (m : Int)) = True := eq_true (by omega)
  have q2t : ((m : Int) < (L.length : Int)) = True := eq_true (by omega)
  have q2n : (m < L.length) = True := eq_true hm
  go_enter Try.func22, Try.ntmps22
  go_wp2_with (go_at_call 25; refine HH.out.mono ?_; rintro e w1 ⟨rfl, hb1⟩; obtain ⟨gR', e2, hx0, hx1, hx2, hfz⟩ := at50C (Kd.R_below HR.out hb1) m hm; cases e2; have hc0 := blk_cell (blk_below BK.out hb1) 0; have hfz2 := hfz (m * 3 + 2); have HB1 := Aside0.mk hb1; clear hb1 hfz)
  go_ret
  have hq := set50_2 (Kd.R_below HR.out HB1.out) m HM.out false
  have hR1 := Kd.R_below HR.out HB1.out
  exact ⟨rfl, ⟨_, blk_grown (blk_below BK.out HB1.out) hq.2 (Kd.R_ne hR1 (blk_below BK.out HB1.out) (by decide)), HG.out, hq.1⟩, Below.setCell (below_less HB1.out HBB.out) (p := ⟨gR, m * 3 + 2, none⟩) (Kd.R_base hR1 gR rfl) _, (Keeps.below HB1.out).trans (Keeps.grown (T := [38, 50]) hR1 (by decide) hq.2)⟩
set_option maxHeartbeats 8000000 in
set_option maxRecDepth 100000 in
theorem ref_Keep.no (id_ until_ : Int) (base g : Nat) (L : List S50) (most : Int) (w : World) (h : RefSt w base g L most) (hlen : L.length ≤ 1000) (hh : rHeld L id_ = false) : Calls Try.prog 21 #[.pointer (some ⟨g, 0, none⟩), .int .i64 id_, .int .i64 until_] w fun e w' => e = .returned (.bool false) ∧ Below w.heap.size w w' := by
  have HH := Aside0.mk (ref_Held.callsS id_ base g L most w h hlen)
  rw [hh] at HH
  clear h hlen
  go_enter Try.func21, Try.ntmps21
  go_wp2_with (go_at_call 25; refine HH.out.mono ?_; rintro e w1 ⟨rfl, hb1⟩)
  go_ret
  exact ⟨rfl, hb1⟩
set_option maxHeartbeats 8000000 in
set_option maxRecDepth 100000 in
theorem ref_Keep.yes (m : Nat) (until_ : Int) (base g : Nat) (L : List S50) (most : Int) (w : World) (h : RefSt w base g L most) (hlen : L.length ≤ 1000) (hm : m < L.length) (hh : rHeld L ((m : Int) + 1) = true) : Calls Try.prog 21 #[.pointer (some ⟨g, 0, none⟩), .int .i64 ((m : Int) + 1), .int .i64 until_] w fun e w' => e = .returned (.bool true) ∧ RefSt w' base g (L.set m ⟨(rd_T50 L (m : Int)).f0, mx (rd_T50 L (m : Int)).f1 until_, (rd_T50 L (m : Int)).f2⟩) most ∧ Below base w w' ∧ Keeps [38, 50] w w' := by
  have hu38 := Try.underlying38
  have hu50 := Try.underlying50
  have hu36 := Try.underlying36
  have hu25 := Try.underlying25
  have HS := Aside0.mk h
  obtain ⟨v, hb, hg, hR⟩ := h
  obtain ⟨A, c, rfl⟩ := Kd.R_slice hR
  have BK := Aside0.mk hb
  have HG := Aside0.mk hg
  have HR := Aside0.mk hR
  have HLEN := Aside0.mk hlen
  clear hg hR hlen
  have HH := Aside0.mk (ref_Held.callsS ((m : Int) + 1) base g L most w HS.out HLEN.out)
  rw [hh] at HH
  have HBB := Aside0.mk (Nat.le_trans HG.out (Nat.le_of_lt (blk_lt BK.out)))
  have HM := Aside0.mk hm
  obtain ⟨gR, e2, _, _, _, _⟩ := at50C HR.out m hm
  cases e2
  have hm1 : (1 : Int) ≤ (m : Int) + 1 := by omega
  have d1 : decide ((m : Int) + 1 ≥ 1) = true := decide_eq_true (by omega)
  have d2 : decide ((m : Int) + 1 ≤ (L.length : Int)) = true := decide_eq_true (by omega)
  have hwa : wrap64 ((m : Int) + 1 - 1) = (m : Int) := by have := HLEN.out; unfold wrap64; omega
  have hwb : wrap64 (m : Int) = (m : Int) := by have := HLEN.out; unfold wrap64; omega
  have hss : (m : Int) + 1 - 1 = (m : Int) := by omega
  have p2t : ((0 : Int) ≤ (m : Int)) = True := eq_true (by omega)
  have q2t : ((m : Int) < (L.length : Int)) = True := eq_true (by omega)
  have q2n : (m < L.length) = True := eq_true hm
  by_cases hu : (rd_T50 L (m : Int)).f1 < until_
  · have d3 : decide ((rd_T50 L (m : Int)).f1 < until_) = true := decide_eq_true hu
    rw [show mx (rd_T50 L (m : Int)).f1 until_ = until_ from if_pos hu]
    go_enter Try.func21, Try.ntmps21
    go_wp2_with (go_at_call 25; refine HH.out.mono ?_; rintro e w1 ⟨rfl, hb1⟩; obtain ⟨gR', e2, hx0, hx1, hx2, hfz⟩ := at50C (Kd.R_below HR.out hb1) m hm; cases e2; have hc0 := blk_cell (blk_below BK.out hb1) 0; have hfz2 := hfz (m * 3 + 1); have HB1 := Aside0.mk hb1; clear hb1 hfz)
    go_ret
    have hq := set50_1 (Kd.R_below HR.out HB1.out) m HM.out until_
    have hR1 := Kd.R_below HR.out HB1.out
    exact ⟨rfl, ⟨_, blk_grown (blk_below BK.out HB1.out) hq.2 (Kd.R_ne hR1 (blk_below BK.out HB1.out) (by decide)), HG.out, hq.1⟩, Below.setCell (below_less HB1.out HBB.out) (p := ⟨gR, m * 3 + 1, none⟩) (Kd.R_base hR1 gR rfl) _, (Keeps.below HB1.out).trans (Keeps.grown (T := [38, 50]) hR1 (by decide) hq.2)⟩
  · have d3 : decide ((rd_T50 L (m : Int)).f1 < until_) = false := decide_eq_false hu
    rw [show mx (rd_T50 L (m : Int)).f1 until_ = (rd_T50 L (m : Int)).f1 from if_neg hu]
    have hset : L.set m ⟨(rd_T50 L (m : Int)).f0, (rd_T50 L (m : Int)).f1, (rd_T50 L (m : Int)).f2⟩ = L := by
      rw [rd50_at L m hm]
      exact List.set_getElem_self hm
    rw [hset]
    go_enter Try.func21, Try.ntmps21
    go_wp2_with (go_at_call 25; refine HH.out.mono ?_; rintro e w1 ⟨rfl, hb1⟩; obtain ⟨gR', e2, hx0, hx1, hx2, hfz⟩ := at50C (Kd.R_below HR.out hb1) m hm; cases e2; have hc0 := blk_cell (blk_below BK.out hb1) 0; have HB1 := Aside0.mk hb1; clear hb1 hfz)
    go_ret
    exact ⟨rfl, HS.out.below HB1.out, below_less HB1.out HBB.out, Keeps.below HB1.out⟩
def rExp (now : Int) (x : S50) : S50 := if (x.f2 && decide (x.f1 ≤ now)) = true then ⟨x.f0, x.f1, false⟩ else x
def rExpAt (now : Int) (L : List S50) (i : Nat) : List S50 := (L.take i).map (rExp now) ++ L.drop i
def rExpN (now : Int) (L : List S50) : Nat := (L.filter (fun x => x.f2 && decide (x.f1 ≤ now))).length
theorem rExpAt_len (now : Int) (L : List S50) (i : Nat) (h : i ≤ L.length) : (rExpAt now L i).length = L.length := by
  unfold rExpAt
  rw [List.length_append, List.length_map, List.length_take, List.length_drop]
  omega
theorem rExpAt_rd (now : Int) (L : List S50) (i : Nat) (h : i < L.length) : rd_T50 (rExpAt now L i) (i : Int) = rd_T50 L (i : Int) := by
  rw [rd50_at _ i (by rw [rExpAt_len now L i (by omega)]; exact h), rd50_at L i h]
  unfold rExpAt
  rw [List.getElem_append_right (by rw [List.length_map, List.length_take]; omega), List.getElem_drop]
  congr 1
  rw [List.length_map, List.length_take]
  omega
theorem rExpAt_step (now : Int) (L : List S50) (i : Nat) (h : i < L.length) : (rExpAt now L i).set i (rExp now (rd_T50 L (i : Int))) = rExpAt now L (i + 1) := by
  unfold rExpAt
  rw [List.set_append_right _ _ (by rw [List.length_map, List.length_take]; omega), List.length_map, List.length_take, show i - min i L.length = 0 by omega, List.drop_eq_getElem_cons h, List.set_cons_zero, take50 L i h, List.map_append, List.append_assoc]
  rfl
theorem rExpAt_same (now : Int) (L : List S50) (i : Nat) (h : i < L.length) (hs : rExp now (rd_T50 L (i : Int)) = rd_T50 L (i : Int)) : rExpAt now L i = rExpAt now L (i + 1) := by
  rw [← rExpAt_step now L i h, hs, ← rExpAt_rd now L i h, rd50_at _ i (by rw [rExpAt_len now L i (by omega)]; exact h)]
  exact (List.set_getElem_self _).symm
theorem rExpN_le (now : Int) (L : List S50) : rExpN now L ≤ L.length := List.length_filter_le _ _
theorem rExpN_step (now : Int) (L : List S50) (i : Nat) (h : i < L.length) : rExpN now (L.take (i + 1)) = rExpN now (L.take i) + if ((rd_T50 L (i : Int)).f2 && decide ((rd_T50 L (i : Int)).f1 ≤ now)) = true then 1 else 0 := by
  rw [take50 L i h]
  unfold rExpN
  rw [List.filter_append, List.length_append]
  congr 1
  cases hp : ((rd_T50 L (i : Int)).f2 && decide ((rd_T50 L (i : Int)).f1 ≤ now)) <;> simp [hp]
def rLeast (L : List S50) : Int × Bool := L.foldl (fun r x => if (x.f2 && (!r.2 || decide (x.f0 < r.1))) = true then (x.f0, true) else r) (0, false)
theorem rLeast_step (L : List S50) (i : Nat) (h : i < L.length) : rLeast (L.take (i + 1)) = if ((rd_T50 L (i : Int)).f2 && (!(rLeast (L.take i)).2 || decide ((rd_T50 L (i : Int)).f0 < (rLeast (L.take i)).1))) = true then ((rd_T50 L (i : Int)).f0, true) else rLeast (L.take i) := by
  rw [take50 L i h]
  unfold rLeast
  rw [List.foldl_append]
  rfl
set_option maxHeartbeats 8000000 in
set_option maxRecDepth 100000 in
theorem ref_Expire.callsS (now : Int) (base g : Nat) (L : List S50) (most : Int) (w : World) (h : RefSt w base g L most) (hlen : L.length ≤ 1000) : Calls Try.prog 23 #[.pointer (some ⟨g, 0, none⟩), .int .i64 now] w fun e w' => e = .returned (.int .i64 (rExpN now L : Int)) ∧ RefSt w' base g (L.map (rExp now)) most ∧ Below base w w' ∧ Keeps [38, 50] w w' := by
  have hu38 := Try.underlying38
  have hu50 := Try.underlying50
  have hu36 := Try.underlying36
  have hu25 := Try.underlying25
  have HS := Aside0.mk h
  obtain ⟨v, hb, hg, hR⟩ := h
  obtain ⟨A, c, rfl⟩ := Kd.R_slice hR
  have BK := Aside0.mk hb
  have HG := Aside0.mk hg
  have HR := Aside0.mk hR
  have HLEN := Aside0.mk hlen
  clear hg hR hlen
  have hc0 := blk_cell BK.out 0
  go_enter Try.func23, Try.ntmps23
  go_wp2
  clear hc0
  go_loopg [12, 5] (L.length + 1) (fun kq v12 v5 wr => ∃ i : Nat, v12 = .int .i64 (i : Int) ∧ v5 = .int .i64 (rExpN now (L.take i) : Int) ∧ Aside0 (i + kq = L.length + 1 ∧ i ≤ L.length) ∧ Aside0 (Kd.R k50 50 wr base (fun _ => True) (.slice A L.length c) (rExpAt now L i)) ∧ Aside0 (Below base w wr) ∧ Aside0 (Keeps [50] w wr))
  case atStart => exact ⟨0, rfl, rfl, ⟨by omega, by omega⟩, ⟨by unfold rExpAt; exact HR.out⟩, ⟨Below.refl _ _⟩, ⟨Keeps.refl _⟩⟩
  case round =>
    obtain ⟨i, rfl, rfl, HI, HY, HW, HK⟩ := hrel
    cases gk with
    | zero => have := HI.out; omega
    | succ k1 =>
      have BKr := Aside0.mk (HK.out _ _ _ BK.out (by decide))
      by_cases c2 : (i : Int) < (L.length : Int)
      · skip
        have c2b : decide ((i : Int) < (L.length : Int)) = true := decide_eq_true c2
        have q2n : (i < L.length) = True := eq_true (by omega)
        have p2t : ((0 : Int) ≤ (i : Int)) = True := eq_true (by omega)
        have q2t : ((i : Int) < (L.length : Int)) = True := eq_true c2
        have hw2 : wrap64 ((i : Int) + 1) = ((i + 1 : Nat) : Int) := by have := HLEN.out; unfold wrap64; omega
        have hil : i < L.length := by omega
        obtain ⟨gR, e2, hx0, hx1, hx2, hfz⟩ := at50C HY.out i (by rw [rExpAt_len now L i (by omega)]; exact hil)
        cases e2
        rw [rExpAt_rd now L i hil] at hx0 hx1 hx2
        have hs := rExpN_step now L i hil
        have hle := rExpN_le now (L.take i)
        rw [List.length_take] at hle
        have hw3 : wrap64 ((rExpN now (L.take i) : Int) + 1) = ((rExpN now (L.take i) + 1 : Nat) : Int) := by have := HLEN.out; unfold wrap64; omega
        obtain ⟨n, hn⟩ : ∃ n, rExpN now (L.take i) = n := ⟨_, rfl⟩
        rw [hn] at hw3 hs ⊢
        clear hn hle
        have HST := Aside0.mk (rExpAt_step now L i hil)
        have HSA := Aside0.mk (rExpAt_same now L i hil)
        have HRD := Aside0.mk (rExpAt_rd now L i hil)
        have HIL := Aside0.mk hil
        clear hil
        obtain ⟨x, hx⟩ : ∃ x, rd_T50 L (i : Int) = x := ⟨_, rfl⟩
        rw [hx] at hx0 hx1 hx2 hs HST HSA HRD
        have hc0 := blk_cell BKr.out 0
        cases h2 : x.f2 with
        | false =>
          rw [h2] at hx2 hs
          rw [if_neg (by simp)] at hs
          go_wp2
          go_roundg k1
          case measure => omega
          case rel => exact ⟨i + 1, by first | rw [hw2] | simp, by rw [hs]; rfl, ⟨by have := HI.out; omega, by omega⟩, ⟨by rw [← HSA.out (by unfold rExp; rw [h2]; rfl)]; exact HY.out⟩, ⟨HW.out⟩, ⟨HK.out⟩⟩
        | true =>
          rw [h2] at hx2 hs
          by_cases hn : x.f1 ≤ now
          · have d1 : decide (x.f1 ≤ now) = true := decide_eq_true hn
            rw [d1, if_pos (by rfl)] at hs
            have hfz2 := hfz (i * 3 + 2)
            clear hfz
            go_wp2
            go_roundg k1
            case measure => omega
            case rel =>
              have hq := set50_2 HY.out i (by rw [rExpAt_len now L i (by have := HIL.out; omega)]; exact HIL.out) false
              rw [HRD.out, show (⟨x.f0, x.f1, false⟩ : S50) = rExp now x by unfold rExp; rw [h2, d1]; rfl, HST.out] at hq
              exact ⟨i + 1, by first | rw [hw2] | simp, by rw [hs]; first | rw [hw3] | simp, ⟨by have := HI.out; omega, by omega⟩, ⟨hq.1⟩, ⟨Below.setCell HW.out (p := ⟨gR, i * 3 + 2, none⟩) (Kd.R_base HY.out gR rfl) _⟩, ⟨HK.out.trans (Keeps.grown (T := [50]) HY.out (by decide) hq.2)⟩⟩
          · have d1 : decide (x.f1 ≤ now) = false := decide_eq_false hn
            rw [d1, if_neg (by simp)] at hs
            go_wp2
            go_roundg k1
            case measure => omega
            case rel => exact ⟨i + 1, by first | rw [hw2] | simp, by rw [hs]; rfl, ⟨by have := HI.out; omega, by omega⟩, ⟨by rw [← HSA.out (by unfold rExp; rw [h2, d1]; rfl)]; exact HY.out⟩, ⟨HW.out⟩, ⟨HK.out⟩⟩
      · have c2b : decide ((i : Int) < (L.length : Int)) = false := decide_eq_false c2
        have hi : i = L.length := by have := HI.out; omega
        subst hi
        rw [List.take_length]
        go_wp2
        go_ret
        have hY := HY.out
        unfold rExpAt at hY
        rw [List.take_length, List.drop_length, List.append_nil] at hY
        exact ⟨rfl, ⟨_, BKr.out, HG.out, hY⟩, HW.out, fun k cs t hk hn => HK.out k cs t hk (fun hm => hn (List.mem_cons_of_mem _ hm))⟩
set_option maxHeartbeats 8000000 in
set_option maxRecDepth 100000 in
theorem ref_Least.callsS (base g : Nat) (L : List S50) (most : Int) (w : World) (h : RefSt w base g L most) (hlen : L.length ≤ 1000) : Calls Try.prog 14 #[.pointer (some ⟨g, 0, none⟩)] w fun e w' => e = .returned (.tuple #[.int .i64 (rLeast L).1, .bool (rLeast L).2]) ∧ Below w.heap.size w w' := by
  have hu38 := Try.underlying38
  have hu50 := Try.underlying50
  have hu36 := Try.underlying36
  have hu25 := Try.underlying25
  have HS := Aside0.mk h
  obtain ⟨v, hb, hg, hR⟩ := h
  obtain ⟨A, c, rfl⟩ := Kd.R_slice hR
  have BK := Aside0.mk hb
  have HG := Aside0.mk hg
  have HR := Aside0.mk hR
  have HLEN := Aside0.mk hlen
  clear hg hR hlen
  have hc0 := blk_cell BK.out 0
  go_enter Try.func14, Try.ntmps14
  go_wp2
  clear hc0
  go_loopg [13, 4, 5] (L.length + 1) (fun kq v13 v4 v5 wr => ∃ i : Nat, v13 = .int .i64 (i : Int) ∧ v4 = .int .i64 (rLeast (L.take i)).1 ∧ v5 = .bool (rLeast (L.take i)).2 ∧ Aside0 (i + kq = L.length + 1 ∧ i ≤ L.length) ∧ Aside0 (Below w.heap.size w wr))
  case atStart => exact ⟨0, rfl, rfl, rfl, ⟨by omega, by omega⟩, ⟨Below.refl _ _⟩⟩
  case round =>
    obtain ⟨i, rfl, rfl, rfl, HI, HW⟩ := hrel
    cases gk with
    | zero => have := HI.out; omega
    | succ k1 =>
      by_cases c2 : (i : Int) < (L.length : Int)
      · skip
        have c2b : decide ((i : Int) < (L.length : Int)) = true := decide_eq_true c2
        have q2n : (i < L.length) = True := eq_true (by omega)
        have p2t : ((0 : Int) ≤ (i : Int)) = True := eq_true (by omega)
        have q2t : ((i : Int) < (L.length : Int)) = True := eq_true c2
        have hw2 : wrap64 ((i : Int) + 1) = ((i + 1 : Nat) : Int) := by have := HLEN.out; unfold wrap64; omega
        obtain ⟨gR, e2, hx0, hx1, hx2, _⟩ := at50C (Kd.R_below HR.out HW.out) i (by omega)
        cases e2
        have hs := rLeast_step L i (by omega)
        obtain ⟨x, hx⟩ : ∃ x, rd_T50 L (i : Int) = x := ⟨_, rfl⟩
        obtain ⟨⟨v, ok⟩, hr⟩ : ∃ r, rLeast (L.take i) = r := ⟨_, rfl⟩
        rw [hx] at hx0 hx1 hx2 hs
        rw [hr] at hs ⊢
        clear hr hx
        cases h2 : x.f2 with
        | false =>
          rw [h2] at hx2 hs
          rw [if_neg (by simp)] at hs
          go_wp2
          go_roundg k1
          case measure => omega
          case rel => exact ⟨i + 1, by first | rw [hw2] | simp, by rw [hs], by rw [hs], ⟨by have := HI.out; omega, by omega⟩, ⟨below_alloc HW.out _⟩⟩
        | true =>
          rw [h2] at hx2 hs
          cases ok with
          | false =>
            rw [if_pos (by simp)] at hs
            go_wp2
            go_roundg k1
            case measure => omega
            case rel => exact ⟨i + 1, by first | rw [hw2] | simp, by rw [hs], by rw [hs], ⟨by have := HI.out; omega, by omega⟩, ⟨below_alloc HW.out _⟩⟩
          | true =>
            by_cases h3 : x.f0 < v
            · have d3 : decide (x.f0 < v) = true := decide_eq_true h3
              rw [if_pos (by simp [h3])] at hs
              go_wp2
              go_roundg k1
              case measure => omega
              case rel => exact ⟨i + 1, by first | rw [hw2] | simp, by rw [hs], by rw [hs], ⟨by have := HI.out; omega, by omega⟩, ⟨below_alloc HW.out _⟩⟩
            · have d3 : decide (x.f0 < v) = false := decide_eq_false h3
              rw [if_neg (by simp; omega)] at hs
              go_wp2
              go_roundg k1
              case measure => omega
              case rel => exact ⟨i + 1, by first | rw [hw2] | simp, by rw [hs], by rw [hs], ⟨by have := HI.out; omega, by omega⟩, ⟨below_alloc HW.out _⟩⟩
      · have c2b : decide ((i : Int) < (L.length : Int)) = false := decide_eq_false c2
        have hi : i = L.length := by have := HI.out; omega
        subst hi
        rw [List.take_length]
        go_wp2
        go_ret2
        exact ⟨rfl, HW.out⟩
def heldL : Nat → List S50 → List S52
  | _, [] => []
  | n, x :: r => if x.f2 = true then ⟨(n : Int) + 1, x.f0, x.f1⟩ :: heldL (n + 1) r else heldL (n + 1) r
theorem heldL_len : ∀ (n : Nat) (L : List S50), (heldL n L).length = refLen L
  | _, [] => rfl
  | n, x :: r => by
    have ih := heldL_len (n + 1) r
    unfold refLen at ih ⊢
    unfold heldL
    cases h : x.f2 <;> simp [h, ih]
theorem heldL_app : ∀ (n : Nat) (L : List S50) (a u : Int), heldL n (L ++ [⟨a, u, true⟩]) = heldL n L ++ [⟨((n + L.length : Nat) : Int) + 1, a, u⟩]
  | n, [], a, u => by simp [heldL]
  | n, x :: r, a, u => by
    have ih := heldL_app (n + 1) r a u
    rw [show n + 1 + r.length = n + (x :: r).length by simp; omega] at ih
    rw [List.cons_append]
    unfold heldL
    cases h : x.f2
    · rw [if_neg (by simp), if_neg (by simp), ih]
    · rw [if_pos rfl, if_pos rfl, ih, List.cons_append]
theorem heldL_mem : ∀ (n : Nat) (L : List S50) (x : S52), x ∈ heldL n L → ∃ (m : Nat) (y : S50), L[m]? = some y ∧ y.f2 = true ∧ x = ⟨((n + m : Nat) : Int) + 1, y.f0, y.f1⟩
  | _, [], x, h => by cases h
  | n, y :: r, x, h => by
    unfold heldL at h
    cases hy : y.f2
    · rw [hy, if_neg (by simp)] at h
      obtain ⟨m, z, h1, h2, h3⟩ := heldL_mem (n + 1) r x h
      exact ⟨m + 1, z, h1, h2, by rw [h3, show n + 1 + m = n + (m + 1) by omega]⟩
    · rw [hy, if_pos rfl] at h
      rcases List.mem_cons.1 h with h | h
      · exact ⟨0, y, rfl, hy, by rw [h]; rfl⟩
      · obtain ⟨m, z, h1, h2, h3⟩ := heldL_mem (n + 1) r x h
        exact ⟨m + 1, z, h1, h2, by rw [h3, show n + 1 + m = n + (m + 1) by omega]⟩
theorem idx_no (id_ : Int) : ∀ (L : List S52) (i : Int), (∀ x ∈ L, x.f0 ≠ id_) → pinIdx (fun x => x.f0 == id_) L i = -1 ∧ L.filter (fun x => !(fun x : S52 => x.f0 == id_) x) = L
  | [], _, _ => ⟨rfl, rfl⟩
  | x :: r, i, h => by
    have hx : (x.f0 == id_) = false := beq_eq_false_iff_ne.2 (h x (by simp))
    obtain ⟨h1, h2⟩ := idx_no id_ r (i + 1) (fun y hy => h y (List.mem_cons_of_mem _ hy))
    refine ⟨?_, ?_⟩
    · unfold pinIdx
      rw [if_neg (by simp [hx]), h1]
    · rw [List.filter_cons, if_pos (by simp [hx]), h2]
theorem idx_yes : ∀ (L : List S50) (n m : Nat) (i : Int) (x : S50), L[m]? = some x → x.f2 = true →
    ∃ j : Nat, pinIdx (fun z => z.f0 == ((n + m : Nat) : Int) + 1) (heldL n L) i = i + j ∧ (heldL n L)[j]? = some ⟨((n + m : Nat) : Int) + 1, x.f0, x.f1⟩ ∧ (∀ a u, (heldL n L).set j ⟨((n + m : Nat) : Int) + 1, a, u⟩ = heldL n (L.set m ⟨a, u, true⟩)) ∧
      (∀ a u, (heldL n L).filter (fun z => !(fun z : S52 => z.f0 == ((n + m : Nat) : Int) + 1) z) = heldL n (L.set m ⟨a, u, false⟩))
  | [], _, _, _, _, h, _ => by simp at h
  | y :: r, n, 0, i, x, h, h2 => by
    obtain rfl : y = x := by simpa using h
    have e : heldL n (y :: r) = ⟨(n : Int) + 1, y.f0, y.f1⟩ :: heldL (n + 1) r := by simp only [heldL]; rw [if_pos h2]
    refine ⟨0, ?_, ?_, ?_, ?_⟩
    · rw [e]; unfold pinIdx; simp
    · rw [e]; simp
    · intro a u; rw [e]; simp [heldL]
    · intro a u
      rw [e]
      have hn := (idx_no ((n : Int) + 1) (heldL (n + 1) r) 0 (fun z hz => by
        obtain ⟨m, w, _, _, h3⟩ := heldL_mem _ _ _ hz
        rw [h3]
        show ((n + 1 + m : Nat) : Int) + 1 ≠ (n : Int) + 1
        omega)).2
      rw [List.filter_cons, if_neg (by simp)]
      simp only [Nat.add_zero]
      rw [hn]
      simp [heldL]
  | y :: r, n, m + 1, i, x, h, h2 => by
    have hcast : n + (m + 1) = n + 1 + m := by omega
    cases hy : y.f2 with
    | false =>
      obtain ⟨j, h3, h4, h5, h6⟩ := idx_yes r (n + 1) m i x (by simpa using h) h2
      have e : ∀ t, heldL n (y :: t) = heldL (n + 1) t := fun t => by simp only [heldL]; rw [hy, if_neg (by simp)]
      rw [hcast, e]
      exact ⟨j, h3, h4, fun a u => by rw [h5, List.set_cons_succ, e], fun a u => by rw [h6 a u, List.set_cons_succ, e]⟩
    | true =>
      obtain ⟨j, h3, h4, h5, h6⟩ := idx_yes r (n + 1) m (i + 1) x (by simpa using h) h2
      have e : ∀ t, heldL n (y :: t) = ⟨(n : Int) + 1, y.f0, y.f1⟩ :: heldL (n + 1) t := fun t => by simp only [heldL]; rw [if_pos hy]
      have hne : (((n : Int) + 1) == ((n + 1 + m : Nat) : Int) + 1) = false := beq_eq_false_iff_ne.2 (by omega)
      rw [hcast, e]
      refine ⟨j + 1, ?_, by rw [List.getElem?_cons_succ]; exact h4, fun a u => by rw [List.set_cons_succ, h5, List.set_cons_succ, e], fun a u => ?_⟩
      · unfold pinIdx
        rw [if_neg (by simp only [hne]; simp), h3]
        omega
      · rw [List.filter_cons, if_pos (by simp only [hne]; rfl), h6 a u, List.set_cons_succ, e]
theorem held_exp (now : Int) : ∀ (n : Nat) (L : List S50), (heldL n L).filter (fun x => !(fun x : S52 => decide (x.f2 ≤ now)) x) = heldL n (L.map (rExp now))
  | _, [] => rfl
  | n, x :: r => by
    have ih := held_exp now (n + 1) r
    rw [List.map_cons]
    cases h : x.f2 with
    | false =>
      have e : rExp now x = x := by unfold rExp; rw [h]; rfl
      rw [e]
      simp only [heldL]
      rw [h, if_neg (by simp), if_neg (by simp), ih]
    | true =>
      by_cases hn : x.f1 ≤ now
      · have d : decide (x.f1 ≤ now) = true := decide_eq_true hn
        have e : rExp now x = ⟨x.f0, x.f1, false⟩ := by unfold rExp; rw [h, d]; rfl
        rw [e]
        simp only [heldL]
        rw [if_pos h, if_neg (by simp), List.filter_cons, if_neg (by simp [d]), ih]
      · have d : decide (x.f1 ≤ now) = false := decide_eq_false hn
        have e : rExp now x = x := by unfold rExp; rw [h, d]; rfl
        rw [e]
        simp only [heldL]
        rw [if_pos h, if_pos h, List.filter_cons, if_pos (by simp [d]), ih]
theorem exp_count (now : Int) : ∀ (L : List S50), refLen (L.map (rExp now)) + rExpN now L = refLen L
  | [] => rfl
  | x :: r => by
    have ih := exp_count now r
    unfold refLen rExpN at ih ⊢
    rw [List.map_cons]
    cases h : x.f2 with
    | false =>
      have e : rExp now x = x := by unfold rExp; rw [h]; rfl
      rw [e]
      simp only [List.filter_cons, h, Bool.false_and, Bool.false_eq_true, if_false]
      exact ih
    | true =>
      by_cases hn : x.f1 ≤ now
      · have d : decide (x.f1 ≤ now) = true := decide_eq_true hn
        have e : rExp now x = ⟨x.f0, x.f1, false⟩ := by unfold rExp; rw [h, d]; rfl
        rw [e]
        simp only [List.filter_cons, h, d, Bool.and_self, Bool.false_eq_true, if_false, if_true, List.length_cons]
        omega
      · have d : decide (x.f1 ≤ now) = false := decide_eq_false hn
        have e : rExp now x = x := by unfold rExp; rw [h, d]; rfl
        rw [e]
        simp only [List.filter_cons, h, d, Bool.and_false, Bool.false_eq_true, if_false, if_true, List.length_cons]
        omega
def lowG (r : Int × Bool) (y : S52) : Int × Bool := if (!r.2 || decide (y.f1 < r.1)) = true then (y.f1, true) else r
theorem least_fold : ∀ (n : Nat) (L : List S50) (r : Int × Bool), L.foldl (fun r x => if (x.f2 && (!r.2 || decide (x.f0 < r.1))) = true then (x.f0, true) else r) r = (heldL n L).foldl lowG r
  | _, [], _ => rfl
  | n, x :: t, r => by
    rw [List.foldl_cons, least_fold (n + 1) t]
    simp only [heldL]
    cases h : x.f2 with
    | false => rw [if_neg (by simp), if_neg (by simp)]
    | true => rw [if_pos rfl, List.foldl_cons, Bool.true_and]; rfl
theorem low_fold : ∀ (L : List S52) (v : Int), L.foldl lowG (v, true) = (pinLow L v, true)
  | [], _ => rfl
  | x :: t, v => by
    rw [List.foldl_cons]
    unfold pinLow
    rw [List.foldl_cons]
    unfold lowG
    by_cases h : x.f1 < v
    · rw [if_pos (by simp [h]), if_pos h]; exact low_fold t x.f1
    · rw [if_neg (by simp; omega), if_neg h]; exact low_fold t v
theorem least_eq (L : List S50) : rLeast L = if (heldL 0 L).length = 0 then (0, false) else (pinLow (heldL 0 L) (rd_T52 (heldL 0 L) 0).f1, true) := by
  unfold rLeast
  rw [least_fold 0 L]
  cases h : heldL 0 L with
  | nil => rfl
  | cons x t =>
    rw [if_neg (by simp), List.foldl_cons]
    have e1 : lowG (0, false) x = (x.f1, true) := by unfold lowG; simp
    have e2 : (rd_T52 (x :: t) 0).f1 = x.f1 := rfl
    rw [e1, low_fold, e2]
    have e3 : pinLow (x :: t) x.f1 = pinLow t x.f1 := by
      unfold pinLow
      rw [List.foldl_cons, if_neg (by omega)]
    rw [e3]
theorem held_dec (L : List S50) (id_ : Int) : (rHeld L id_ = true ∧ ∃ (m : Nat) (x : S50), id_ = ((0 + m : Nat) : Int) + 1 ∧ L[m]? = some x ∧ x.f2 = true ∧ rd_T50 L (id_ - 1) = x ∧ m < L.length) ∨ (rHeld L id_ = false ∧ ∀ x ∈ heldL 0 L, x.f0 ≠ id_) := by
  cases h : rHeld L id_ with
  | true =>
    obtain ⟨m, h1, h2, h3⟩ := rHeld_some h
    rw [rd50_at L m h2] at h3
    exact .inl ⟨rfl, m, L[m], by rw [Nat.zero_add]; exact h1, List.getElem?_eq_getElem h2, h3, by rw [h1, show (m : Int) + 1 - 1 = (m : Int) by omega, rd50_at L m h2], h2⟩
  | false =>
    refine .inr ⟨rfl, fun x hx he => ?_⟩
    obtain ⟨m, y, h1, h2, h3⟩ := heldL_mem 0 L x hx
    have hm : m < L.length := (List.getElem?_eq_some_iff.1 h1).1
    have hy : L[m] = y := (List.getElem?_eq_some_iff.1 h1).2
    rw [h3] at he
    have he2 : id_ = (m : Int) + 1 := by rw [← he]; simp
    unfold rHeld at h
    rw [he2, show (m : Int) + 1 - 1 = (m : Int) by omega, rd50_at L m hm, hy, h2, decide_eq_true (by omega), decide_eq_true (by omega)] at h
    cases h
def kept (L : List S50) (id_ until_ : Int) : List S50 := if rHeld L id_ = true then L.set (id_ - 1).toNat ⟨(rd_T50 L (id_ - 1)).f0, mx (rd_T50 L (id_ - 1)).f1 until_, true⟩ else L
def dropped (L : List S50) (id_ : Int) : List S50 := if rHeld L id_ = true then L.set (id_ - 1).toNat ⟨(rd_T50 L (id_ - 1)).f0, (rd_T50 L (id_ - 1)).f1, false⟩ else L
def addRes (L : List S50) (rev most : Int) : Int × Int := if rev < 0 then (0, 1) else if most ≤ (refLen L : Int) then (0, 7) else (((L.length + 1 : Nat) : Int), 0)
def added (L : List S50) (rev until_ most : Int) : List S50 := if rev < 0 then L else if most ≤ (refLen L : Int) then L else L ++ [⟨rev, until_, true⟩]
def PSt (w : World) (base g : Nat) (L : List S50) (most : Int) : Prop := PinSt w base g (heldL 0 L) most (L.length : Int)
theorem PSt.base {w : World} {base g : Nat} {L : List S50} {most : Int} (h : PSt w base g L most) : base ≤ w.heap.size := by
  obtain ⟨_, hb, hg, _⟩ := h
  exact Nat.le_trans hg (Nat.le_of_lt (blk_lt hb))
theorem RefSt.base {w : World} {base g : Nat} {L : List S50} {most : Int} (h : RefSt w base g L most) : base ≤ w.heap.size := by
  obtain ⟨_, hb, hg, _⟩ := h
  exact Nat.le_trans hg (Nat.le_of_lt (blk_lt hb))
theorem heldL_le (L : List S50) (h : L.length ≤ 1000) : (heldL 0 L).length ≤ 1000 := by rw [heldL_len]; exact Nat.le_trans (refLen_le L) h
theorem pin_AddR (base g : Nat) (L : List S50) (most rev until_ : Int) (w : World) (h : PSt w base g L most) (hlen : L.length ≤ 900) : Calls Try.prog 16 #[.pointer (some ⟨g, 0, none⟩), .int .i64 rev, .int .i64 until_] w fun e w' => e = .returned (.tuple #[.int .i64 (addRes L rev most).1, .int .i64 (addRes L rev most).2]) ∧ PSt w' base g (added L rev until_ most) most ∧ Below base w w' ∧ Keeps [48, 52] w w' := by
  have hb := h.base
  unfold addRes added
  by_cases h1 : rev < 0
  · rw [if_pos h1, if_pos h1]
    refine (pin_Add.bad base g _ most _ rev until_ w h h1).mono ?_
    rintro e w' ⟨rfl, hw⟩
    exact ⟨rfl, PinSt.below h hw, below_less hw hb, Keeps.below hw⟩
  · rw [if_neg h1, if_neg h1]
    by_cases h2 : most ≤ (refLen L : Int)
    · rw [if_pos h2, if_pos h2]
      refine (pin_Add.full base g _ most _ rev until_ w h (by omega) (by rw [heldL_len]; exact h2)).mono ?_
      rintro e w' ⟨rfl, hw⟩
      exact ⟨rfl, PinSt.below h hw, below_less hw hb, Keeps.below hw⟩
    · rw [if_neg h2, if_neg h2]
      refine (pin_Add.callsS base g _ most _ rev until_ w h (by omega) (by rw [heldL_len]; omega) (by omega) (heldL_le L (by omega))).mono ?_
      rintro e w' ⟨rfl, h3, h4, h5⟩
      refine ⟨rfl, ?_, h4, h5⟩
      unfold PSt
      rw [heldL_app, List.length_append]
      simpa using h3
theorem ref_AddR (base g : Nat) (L : List S50) (most rev until_ : Int) (w : World) (h : RefSt w base g L most) (hlen : L.length ≤ 900) : Calls Try.prog 20 #[.pointer (some ⟨g, 0, none⟩), .int .i64 rev, .int .i64 until_] w fun e w' => e = .returned (.tuple #[.int .i64 (addRes L rev most).1, .int .i64 (addRes L rev most).2]) ∧ RefSt w' base g (added L rev until_ most) most ∧ Below base w w' ∧ Keeps [38, 50] w w' := by
  have hb := h.base
  unfold addRes added
  by_cases h1 : rev < 0
  · rw [if_pos h1, if_pos h1]
    refine (ref_Add.bad base g rev until_ w h1).mono ?_
    rintro e w' ⟨rfl, hw⟩
    exact ⟨rfl, h.below hw, below_less hw hb, Keeps.below hw⟩
  · rw [if_neg h1, if_neg h1]
    by_cases h2 : most ≤ (refLen L : Int)
    · rw [if_pos h2, if_pos h2]
      refine (ref_Add.full base g L most rev until_ w h (by omega) (by omega) h2).mono ?_
      rintro e w' ⟨rfl, hw⟩
      exact ⟨rfl, h.below hw, below_less hw hb, Keeps.below hw⟩
    · rw [if_neg h2, if_neg h2]
      refine (ref_Add.callsS base g L most rev until_ w h (by omega) (by omega) (by omega)).mono ?_
      rintro e w' ⟨rfl, h3, h4, h5⟩
      exact ⟨rfl, h3, h4, h5⟩
theorem ref_KeepR (id_ until_ : Int) (base g : Nat) (L : List S50) (most : Int) (w : World) (h : RefSt w base g L most) (hlen : L.length ≤ 900) : Calls Try.prog 21 #[.pointer (some ⟨g, 0, none⟩), .int .i64 id_, .int .i64 until_] w fun e w' => e = .returned (.bool (rHeld L id_)) ∧ RefSt w' base g (kept L id_ until_) most ∧ Below base w w' ∧ Keeps [38, 50] w w' := by
  have hb := h.base
  unfold kept
  rcases held_dec L id_ with ⟨h1, m, x, h2, h3, h4, h5, h6⟩ | ⟨h1, _⟩
  · rw [if_pos h1]
    have e : (id_ - 1).toNat = m := by omega
    have e2 : id_ = (m : Int) + 1 := by omega
    have e3 : rd_T50 L (m : Int) = x := by rw [← h5, e2, show (m : Int) + 1 - 1 = (m : Int) by omega]
    rw [e, h5, h1]
    rw [e2] at h1 ⊢
    refine (ref_Keep.yes m until_ base g L most w h (by omega) h6 h1).mono ?_
    rintro e w' ⟨rfl, h3, h4', h5⟩
    rw [e3, h4] at h3
    exact ⟨rfl, h3, h4', h5⟩
  · rw [if_neg (by rw [h1]; simp), h1]
    refine (ref_Keep.no id_ until_ base g L most w h (by omega) h1).mono ?_
    rintro e w' ⟨rfl, hw⟩
    exact ⟨rfl, h.below hw, below_less hw hb, Keeps.below hw⟩
theorem ref_DropR (id_ : Int) (base g : Nat) (L : List S50) (most : Int) (w : World) (h : RefSt w base g L most) (hlen : L.length ≤ 900) : Calls Try.prog 22 #[.pointer (some ⟨g, 0, none⟩), .int .i64 id_] w fun e w' => e = .returned (.bool (rHeld L id_)) ∧ RefSt w' base g (dropped L id_) most ∧ Below base w w' ∧ Keeps [38, 50] w w' := by
  have hb := h.base
  unfold dropped
  rcases held_dec L id_ with ⟨h1, m, x, h2, h3, h4, h5, h6⟩ | ⟨h1, _⟩
  · rw [if_pos h1]
    have e : (id_ - 1).toNat = m := by omega
    have e2 : id_ = (m : Int) + 1 := by omega
    have e3 : rd_T50 L (m : Int) = x := by rw [← h5, e2, show (m : Int) + 1 - 1 = (m : Int) by omega]
    rw [e, h5, h1]
    rw [e2] at h1 ⊢
    refine (ref_Drop.yes m base g L most w h (by omega) h6 h1).mono ?_
    rintro e w' ⟨rfl, h3, h4', h5⟩
    rw [e3] at h3
    exact ⟨rfl, h3, h4', h5⟩
  · rw [if_neg (by rw [h1]; simp), h1]
    refine (ref_Drop.no id_ base g L most w h (by omega) h1).mono ?_
    rintro e w' ⟨rfl, hw⟩
    exact ⟨rfl, h.below hw, below_less hw hb, Keeps.below hw⟩
theorem held_found {L : List S50} {id_ : Int} {m : Nat} {x : S50} (h2 : id_ = ((0 + m : Nat) : Int) + 1) (h3 : L[m]? = some x) (h4 : x.f2 = true) : ∃ j : Nat, pinIdx (fun z => z.f0 == id_) (heldL 0 L) 0 = (j : Int) ∧ rd_T52 (heldL 0 L) (j : Int) = ⟨id_, x.f0, x.f1⟩ ∧ (∀ a u, (heldL 0 L).set j ⟨id_, a, u⟩ = heldL 0 (L.set m ⟨a, u, true⟩)) ∧ (∀ a u, (heldL 0 L).filter (fun z => !(fun z : S52 => z.f0 == id_) z) = heldL 0 (L.set m ⟨a, u, false⟩)) := by
  subst h2
  obtain ⟨j, h5, h6, h7, h8⟩ := idx_yes L 0 m 0 x h3 h4
  obtain ⟨hj, hj2⟩ := List.getElem?_eq_some_iff.1 h6
  exact ⟨j, by rw [h5]; omega, by rw [rd52_at _ j hj, hj2], h7, h8⟩
set_option maxHeartbeats 8000000 in
set_option maxRecDepth 100000 in
theorem pin_Keep.no (id_ until_ : Int) (base g : Nat) (L : List S52) (most last : Int) (w : World) (h : PinSt w base g L most last) (hlen : L.length ≤ 1000) (hk : pinIdx (fun x => x.f0 == id_) L 0 = -1) : Calls Try.prog 17 #[.pointer (some ⟨g, 0, none⟩), .int .i64 id_, .int .i64 until_] w fun e w' => e = .returned (.bool false) ∧ Below w.heap.size w w' := by
  have hfind := pin_find.callsS id_ base g L most last w h hlen
  rw [hk] at hfind
  have HF := Aside0.mk hfind
  clear hfind h hk
  go_enter Try.func17, Try.ntmps17
  go_wp2_with (go_at_call 24; refine HF.out.mono ?_; rintro e w1 ⟨rfl, hb1⟩)
  go_ret
  exact ⟨rfl, hb1⟩
theorem pin_KeepR (id_ until_ : Int) (base g : Nat) (L : List S50) (most : Int) (w : World) (h : PSt w base g L most) (hlen : L.length ≤ 900) : Calls Try.prog 17 #[.pointer (some ⟨g, 0, none⟩), .int .i64 id_, .int .i64 until_] w fun e w' => e = .returned (.bool (rHeld L id_)) ∧ PSt w' base g (kept L id_ until_) most ∧ Below base w w' ∧ Keeps [48, 52] w w' := by
  have hb := h.base
  unfold kept
  rcases held_dec L id_ with ⟨h1, m, x, h2, h3, h4, h5, h6⟩ | ⟨h1, hno⟩
  · rw [if_pos h1]
    obtain ⟨j, q1, q2, q3, _⟩ := held_found h2 h3 h4
    have e : (id_ - 1).toNat = m := by omega
    rw [e, h5, h1]
    refine (pin_Keep.callsS id_ until_ base g (heldL 0 L) most _ w h (heldL_le L (by omega)) (by rw [q1]; omega)).mono ?_
    rintro e w' ⟨rfl, h3', h4', h5'⟩
    rw [q1, q2, Int.toNat_natCast, q3] at h3'
    refine ⟨rfl, ?_, h4', h5'⟩
    unfold PSt
    rw [List.length_set]
    exact h3'
  · rw [if_neg (by rw [h1]; simp), h1]
    refine (pin_Keep.no id_ until_ base g _ most _ w h (heldL_le L (by omega)) (idx_no id_ _ 0 hno).1).mono ?_
    rintro e w' ⟨rfl, hw⟩
    exact ⟨rfl, PinSt.below h hw, below_less hw hb, Keeps.below hw⟩
theorem pin_DropR (id_ : Int) (base g : Nat) (L : List S50) (most : Int) (w : World) (h : PSt w base g L most) (hlen : L.length ≤ 900) : Calls Try.prog 18 #[.pointer (some ⟨g, 0, none⟩), .int .i64 id_] w fun e w' => e = .returned (.bool (rHeld L id_)) ∧ PSt w' base g (dropped L id_) most ∧ Below base w w' ∧ Keeps [48, 52] w w' := by
  have hc := pin_Drop.callsS id_ base g (heldL 0 L) most _ w h (heldL_le L (by omega))
  unfold dropped
  rcases held_dec L id_ with ⟨h1, m, x, h2, h3, h4, h5, h6⟩ | ⟨h1, hno⟩
  · rw [if_pos h1]
    obtain ⟨j, q1, q2, q3, q4⟩ := held_found h2 h3 h4
    have e : (id_ - 1).toNat = m := by omega
    rw [e, h5, h1]
    rw [q4 x.f0 x.f1] at hc
    refine hc.mono ?_
    rintro e w' ⟨rfl, h3', h4', h5'⟩
    have hl : (heldL 0 (L.set m ⟨x.f0, x.f1, false⟩)).length < (heldL 0 L).length := by
      rw [heldL_len, heldL_len]
      obtain ⟨hm, hx⟩ := List.getElem?_eq_some_iff.1 h3
      unfold refLen
      rw [List.set_eq_take_append_cons_drop, if_pos hm]
      conv => rhs; rw [← List.take_append_drop m L, List.drop_eq_getElem_cons hm, hx]
      simp [h4]
    refine ⟨by rw [decide_eq_true hl], ?_, h4', h5'⟩
    unfold PSt
    rw [List.length_set]
    exact h3'
  · rw [if_neg (by rw [h1]; simp), h1]
    rw [(idx_no id_ _ 0 hno).2] at hc
    refine hc.mono ?_
    rintro e w' ⟨rfl, h3', h4', h5'⟩
    exact ⟨by rw [decide_eq_false (by omega)], h3', h4', h5'⟩
theorem pin_ExpireR (now : Int) (base g : Nat) (L : List S50) (most : Int) (w : World) (h : PSt w base g L most) (hlen : L.length ≤ 900) : Calls Try.prog 19 #[.pointer (some ⟨g, 0, none⟩), .int .i64 now] w fun e w' => e = .returned (.int .i64 (rExpN now L : Int)) ∧ PSt w' base g (L.map (rExp now)) most ∧ Below base w w' ∧ Keeps [48, 52] w w' := by
  have hc := pin_Expire.callsS now base g (heldL 0 L) most _ w h (heldL_le L (by omega))
  rw [held_exp now 0 L, heldL_len, heldL_len] at hc
  have hn := exp_count now L
  refine hc.mono ?_
  rintro e w' ⟨rfl, h3', h4', h5'⟩
  refine ⟨by rw [show (refLen L : Int) - (refLen (L.map (rExp now)) : Int) = (rExpN now L : Int) by omega], ?_, h4', h5'⟩
  unfold PSt
  rw [List.length_map]
  exact h3'
theorem pin_LenR (base g : Nat) (L : List S50) (most : Int) (w : World) (h : PSt w base g L most) : Calls Try.prog 9 #[.pointer (some ⟨g, 0, none⟩)] w fun e w' => e = .returned (.int .i64 (refLen L : Int)) ∧ Below w.heap.size w w' := by
  have hc := pin_Len.callsS base g _ most _ w h
  rw [heldL_len] at hc
  exact hc
theorem pin_LeastR (base g : Nat) (L : List S50) (most : Int) (w : World) (h : PSt w base g L most) (hlen : L.length ≤ 900) : Calls Try.prog 13 #[.pointer (some ⟨g, 0, none⟩)] w fun e w' => e = .returned (.tuple #[.int .i64 (rLeast L).1, .bool (rLeast L).2]) ∧ Below w.heap.size w w' := by
  rw [least_eq]
  by_cases h0 : (heldL 0 L).length = 0
  · rw [if_pos h0]
    exact pin_Least.none_ base g _ most _ w h h0
  · rw [if_neg h0]
    exact pin_Least.callsS base g _ most _ w h (by omega) (heldL_le L (by omega))
def revOf (L : List S50) (id_ : Int) : Int := if rHeld L id_ = true then (rd_T50 L (id_ - 1)).f0 else 0
theorem pin_RevR (id_ : Int) (base g : Nat) (L : List S50) (most : Int) (w : World) (h : PSt w base g L most) (hlen : L.length ≤ 900) : Calls Try.prog 11 #[.pointer (some ⟨g, 0, none⟩), .int .i64 id_] w fun e w' => e = .returned (.tuple #[.int .i64 (revOf L id_), .bool (rHeld L id_)]) ∧ Below w.heap.size w w' := by
  have hc := pin_Rev.callsS id_ base g _ most _ w h (heldL_le L (by omega))
  unfold revOf
  rcases held_dec L id_ with ⟨h1, m, x, h2, h3, h4, h5, h6⟩ | ⟨h1, hno⟩
  · obtain ⟨j, q1, q2, _, _⟩ := held_found h2 h3 h4
    rw [q1, q2, if_neg (by omega), decide_eq_false (by omega)] at hc
    rw [if_pos h1, h5, h1]
    exact hc
  · rw [(idx_no id_ _ 0 hno).1, if_pos (by omega), decide_eq_true (by omega)] at hc
    rw [if_neg (by rw [h1]; simp), h1]
    exact hc
theorem ref_RevR (id_ : Int) (base g : Nat) (L : List S50) (most : Int) (w : World) (h : RefSt w base g L most) (hlen : L.length ≤ 900) : Calls Try.prog 12 #[.pointer (some ⟨g, 0, none⟩), .int .i64 id_] w fun e w' => e = .returned (.tuple #[.int .i64 (revOf L id_), .bool (rHeld L id_)]) ∧ Below w.heap.size w w' := ref_Rev.callsS id_ base g L most w h (by omega)
theorem PSt.below {w w' : World} {base g : Nat} {L : List S50} {most : Int} (h : PSt w base g L most) (hb : Below w.heap.size w w') : PSt w' base g L most := PinSt.below h hb
theorem PSt.keeps {w w' : World} {base g : Nat} {L : List S50} {most : Int} (h : PSt w base g L most) (hk : Keeps [38, 50] w w') : PSt w' base g L most := PinSt.keeps h hk
theorem ref_ExpireR (now : Int) (base g : Nat) (L : List S50) (most : Int) (w : World) (h : RefSt w base g L most) (hlen : L.length ≤ 900) : Calls Try.prog 23 #[.pointer (some ⟨g, 0, none⟩), .int .i64 now] w fun e w' => e = .returned (.int .i64 (rExpN now L : Int)) ∧ RefSt w' base g (L.map (rExp now)) most ∧ Below base w w' ∧ Keeps [38, 50] w w' := ref_Expire.callsS now base g L most w h (by omega)
def stepL (k a u most : Int) (L : List S50) : List S50 := if k = 0 ∨ k = 1 ∨ k = 2 then added L a u most else if k = 3 then kept L a u else if k = 4 then dropped L a else if k = 5 then L.map (rExp u) else L
theorem stepL_len (k a u most : Int) (L : List S50) : (stepL k a u most L).length ≤ L.length + 1 := by
  unfold stepL added kept dropped
  split
  · split
    · omega
    · split
      · omega
      · rw [List.length_append]; simp
  · split
    · split <;> simp
    · split
      · split <;> simp
      · split <;> simp
set_option maxHeartbeats 8000000 in
set_option maxRecDepth 100000 in
theorem step_Keep (base g g2 : Nat) (k a u : Int) (L : List S50) (most : Int) (w : World) (hP : PSt w base g L most) (hR : RefSt w base g2 L most) (hlen : L.length ≤ 900) (hk : k = 3) : Calls Try.prog 8 #[.pointer (some ⟨g, 0, none⟩), .pointer (some ⟨g2, 0, none⟩), .agg #[.int .i64 k, .int .i64 a, .int .i64 u]] w fun e w' => e = .returned (.bool true) ∧ PSt w' base g (kept L a u) most ∧ RefSt w' base g2 (kept L a u) most ∧ Below base w w' := by
  have hu28 := Try.underlying28
  have HP := Aside0.mk hP
  have HR := Aside0.mk hR
  have HLEN := Aside0.mk hlen
  have HBB := Aside0.mk hP.base
  clear hP hR hlen
  subst hk
  go_enter Try.func8, Try.ntmps8
  go_upto_region 9 with fail
  have BK1 := Aside0.mk (blk_new w (.cells #[.int .i64 3, .int .i64 a, .int .i64 u] 28))
  have HP1 := Aside0.mk (PSt.below HP.out (below_alloc (Below.refl _ _) (.cells #[.int .i64 3, .int .i64 a, .int .i64 u] 28)))
  have HR1 := Aside0.mk (RefSt.below HR.out (below_alloc (Below.refl _ _) (.cells #[.int .i64 3, .int .i64 a, .int .i64 u] 28)))
  have HB1 := Aside0.mk (below_less (below_alloc (Below.refl w.heap.size w) (.cells #[.int .i64 3, .int .i64 a, .int .i64 u] 28)) HBB.out)
  obtain ⟨b, hb⟩ : ∃ b, w.heap.size = b := ⟨_, rfl⟩
  rw [hb] at BK1 ⊢
  refine start_ (n := 14) (S := fun w' => w'.cell? ⟨b, 1, none⟩ = some (.int .i64 a) ∧ w'.cell? ⟨b, 2, none⟩ = some (.int .i64 u)) (ds := []) #[false, false, false, false, false, false, false, false, false, false, false, false, false, false] (by kernel_rfl) rfl rfl ⟨(blk_cell BK1.out 1).trans rfl, (blk_cell BK1.out 2).trans rfl⟩ (fun hHeld => ?_)
  have HPd_ := PSt.below HP1.out (below_drew (Below.refl _ _))
  have HRd_ := RefSt.below HR1.out (below_drew (Below.refl _ _))
  have BKd_ := blk_drew BK1.out
  have HBd_ := below_drew HB1.out
  clear HP1 HR1 BK1 HB1
  generalize (World.alloc w (.cells #[.int .i64 3, .int .i64 a, .int .i64 u] 28)).drew = w2 at HPd_ HRd_ BKd_ HBd_ hHeld ⊢
  have HPd := Aside0.mk HPd_
  have HRd := Aside0.mk HRd_
  have BKd := Aside0.mk BKd_
  have HBd := Aside0.mk HBd_
  clear HPd_ HRd_ BKd_ HBd_
  refine pure_ (i := 0) (N := some 45) (v := ?_) (a' := ?_) #[true, false, false, false, false, false, false, false, false, false, false, false, false, false] rfl rfl (by kernel_rfl) (fun _ _ _ h => h) (Or.inl ⟨by rfl, ?_⟩) ?_ ?_
  rotate_left
  · intro w'
    go_simp
    with_reducible rfl
  rotate_left
  · simp only [Act.put, List.setIfInBounds_toArray, List.set_cons_zero, List.set_cons_succ, i64_w, i32_w]
    rfl
  refine pure_ (i := 1) (N := some 46) (v := ?_) (a' := ?_) #[true, true, false, false, false, false, false, false, false, false, false, false, false, false] rfl rfl (by kernel_rfl) (fun _ _ _ h => h) (Or.inl ⟨by rfl, ?_⟩) ?_ ?_
  rotate_left
  · intro w'
    go_simp
    with_reducible rfl
  rotate_left
  · simp only [Act.put, List.setIfInBounds_toArray, List.set_cons_zero, List.set_cons_succ, i64_w, i32_w]
    rfl
  refine pure_ (i := 3) (N := some 48) (v := ?_) (a' := ?_) #[true, true, false, true, false, false, false, false, false, false, false, false, false, false] rfl rfl (by kernel_rfl) (fun _ _ _ h => h) (Or.inl ⟨by rfl, ?_⟩) ?_ ?_
  rotate_left
  · intro w'
    go_simp
    with_reducible rfl
  rotate_left
  · simp only [Act.put, List.setIfInBounds_toArray, List.set_cons_zero, List.set_cons_succ, i64_w, i32_w]
    rfl
  refine pure_ (i := 6) (N := some 51) (v := ?_) (a' := ?_) #[true, true, false, true, false, false, true, false, false, false, false, false, false, false] rfl rfl (by kernel_rfl) (fun _ _ _ h => h) (Or.inl ⟨by rfl, ?_⟩) ?_ ?_
  rotate_left
  · intro w'
    go_simp
    with_reducible rfl
  rotate_left
  · simp only [Act.put, List.setIfInBounds_toArray, List.set_cons_zero, List.set_cons_succ, i64_w, i32_w]
    rfl
  refine pure_ (i := 7) (N := some 52) (v := ?_) (a' := ?_) #[true, true, false, true, false, false, true, true, false, false, false, false, false, false] rfl rfl (by kernel_rfl) (fun _ _ _ h => h) (Or.inl ⟨by rfl, ?_⟩) ?_ ?_
  rotate_left
  · intro w'
    go_simp
    with_reducible rfl
  rotate_left
  · simp only [Act.put, List.setIfInBounds_toArray, List.set_cons_zero, List.set_cons_succ, i64_w, i32_w]
    rfl
  refine pure_ (i := 9) (N := some 54) (v := ?_) (a' := ?_) #[true, true, false, true, false, false, true, true, false, true, false, false, false, false] rfl rfl (by kernel_rfl) (fun _ _ _ h => h) (Or.inl ⟨by rfl, ?_⟩) ?_ ?_
  rotate_left
  · intro w'
    go_simp
    with_reducible rfl
  rotate_left
  · simp only [Act.put, List.setIfInBounds_toArray, List.set_cons_zero, List.set_cons_succ, i64_w, i32_w]
    rfl
  refine take_ (i := 2) (N := some 47) (v := ?_) (a' := ?_) #[true, true, true, true, false, false, true, true, false, true, false, false, false, false] rfl rfl (by kernel_rfl) (fun _ _ _ h => h) (Or.inl ⟨by rfl, ?_⟩) hHeld ?_ ?_
  rotate_left
  · rintro w' ⟨s0, s1⟩
    go_simp
    with_reducible rfl
  rotate_left
  · simp only [Act.put, List.setIfInBounds_toArray, List.set_cons_zero, List.set_cons_succ, i64_w, i32_w]
    rfl
  refine take_ (i := 4) (N := some 49) (v := ?_) (a' := ?_) #[true, true, true, true, true, false, true, true, false, true, false, false, false, false] rfl rfl (by kernel_rfl) (fun _ _ _ h => h) (Or.inl ⟨by rfl, ?_⟩) hHeld ?_ ?_
  rotate_left
  · rintro w' ⟨s0, s1⟩
    go_simp
    with_reducible rfl
  rotate_left
  · simp only [Act.put, List.setIfInBounds_toArray, List.set_cons_zero, List.set_cons_succ, i64_w, i32_w]
    rfl
  refine take_ (i := 8) (N := some 53) (v := ?_) (a' := ?_) #[true, true, true, true, true, false, true, true, true, true, false, false, false, false] rfl rfl (by kernel_rfl) (fun _ _ _ h => h) (Or.inl ⟨by rfl, ?_⟩) hHeld ?_ ?_
  rotate_left
  · rintro w' ⟨s0, s1⟩
    go_simp
    with_reducible rfl
  rotate_left
  · simp only [Act.put, List.setIfInBounds_toArray, List.set_cons_zero, List.set_cons_succ, i64_w, i32_w]
    rfl
  refine take_ (i := 10) (N := some 55) (v := ?_) (a' := ?_) #[true, true, true, true, true, false, true, true, true, true, true, false, false, false] rfl rfl (by kernel_rfl) (fun _ _ _ h => h) (Or.inl ⟨by rfl, ?_⟩) hHeld ?_ ?_
  rotate_left
  · rintro w' ⟨s0, s1⟩
    go_simp
    with_reducible rfl
  rotate_left
  · simp only [Act.put, List.setIfInBounds_toArray, List.set_cons_zero, List.set_cons_succ, i64_w, i32_w]
    rfl
  refine one_ (i := 5) (N := some 50) #[true, true, true, true, true, true, true, true, true, true, true, false, false, false] rfl rfl (by kernel_rfl) (by decide) (fun K hK => ?_)
  refine goes_ Try.func17 (by kernel_rfl) rfl #[.pointer (some ⟨g, 0, none⟩), .int .i64 a, .int .i64 u] (by rfl) rfl rfl (by simp only [List.map_toArray, List.map_cons, List.map_nil]; rfl) ?_
  with_reducible refine (pin_KeepR a u base g L most _ HPd.out HLEN.out).mono ?_
  rintro e w3 ⟨rfl, hP3, hB3, hK3⟩
  refine ⟨_, rfl, ?_⟩
  have HP3 := Aside0.mk hP3
  have HR3 := Aside0.mk (RefSt.keeps HRd.out hK3)
  have BK3 := Aside0.mk (hK3 _ _ _ BKd.out (by decide))
  have HB3 := Aside0.mk (HBd.out.trans hB3)
  clear hP3 hB3 hK3
  refine hK.out _ _ ⟨(blk_cell BK3.out 1).trans rfl, (blk_cell BK3.out 2).trans rfl⟩ (fun hHeld => ?_)
  clear hK K
  refine norm_ (a' := ?_) ?_ ?_
  rotate_left
  · show Act.put _ (some 50) _ = _
    simp only [Act.put, List.setIfInBounds_toArray, List.set_cons_zero, List.set_cons_succ, i64_w, i32_w]
    rfl
  refine one_ (i := 11) (N := some 56) #[true, true, true, true, true, true, true, true, true, true, true, true, false, false] rfl rfl (by kernel_rfl) (by decide) (fun K hK => ?_)
  refine goes_ Try.func21 (by kernel_rfl) rfl #[.pointer (some ⟨g2, 0, none⟩), .int .i64 a, .int .i64 u] (by rfl) rfl rfl (by simp only [List.map_toArray, List.map_cons, List.map_nil]; rfl) ?_
  with_reducible refine (ref_KeepR a u base g2 L most _ HR3.out HLEN.out).mono ?_
  rintro e w4 ⟨rfl, hR4, hB4, hK4⟩
  refine ⟨_, rfl, ?_⟩
  have HR4 := Aside0.mk hR4
  have HP4 := Aside0.mk (PSt.keeps HP3.out hK4)
  have BK4 := Aside0.mk (hK4 _ _ _ BK3.out (by decide))
  have HB4 := Aside0.mk (HB3.out.trans hB4)
  clear hR4 hB4 hK4
  refine hK.out _ _ ⟨(blk_cell BK4.out 1).trans rfl, (blk_cell BK4.out 2).trans rfl⟩ (fun hHeld => ?_)
  clear hK K
  refine norm_ (a' := ?_) ?_ ?_
  rotate_left
  · show Act.put _ (some 56) _ = _
    simp only [Act.put, List.setIfInBounds_toArray, List.set_cons_zero, List.set_cons_succ, i64_w, i32_w]
    rfl
  refine pure_ (i := 12) (N := some 57) (v := ?_) (a' := ?_) #[true, true, true, true, true, true, true, true, true, true, true, true, true, false] rfl rfl (by kernel_rfl) (fun _ _ _ h => h) (Or.inl ⟨by rfl, ?_⟩) ?_ ?_
  rotate_left
  · intro w'
    go_simp
    with_reducible rfl
  rotate_left
  · simp only [Act.put, List.setIfInBounds_toArray, List.set_cons_zero, List.set_cons_succ, i64_w, i32_w]
    rfl
  refine pure_ (i := 13) (N := some 6) (v := ?_) (a' := ?_) #[true, true, true, true, true, true, true, true, true, true, true, true, true, true] rfl rfl (by kernel_rfl) (fun _ _ _ h => h) (Or.inl ⟨by rfl, ?_⟩) ?_ ?_
  rotate_left
  · intro w'
    go_simp
    with_reducible rfl
  rotate_left
  · simp only [Act.put, List.setIfInBounds_toArray, List.set_cons_zero, List.set_cons_succ, i64_w, i32_w]
    rfl
  refine done_ (by kernel_rfl) ?_
  go_wp2
  go_ret
  exact ⟨by simp, HP4.out, HR4.out, HB4.out⟩
set_option maxHeartbeats 8000000 in
set_option maxRecDepth 100000 in
theorem step_Drop (base g g2 : Nat) (k a u : Int) (L : List S50) (most : Int) (w : World) (hP : PSt w base g L most) (hR : RefSt w base g2 L most) (hlen : L.length ≤ 900) (hk : k = 4) : Calls Try.prog 8 #[.pointer (some ⟨g, 0, none⟩), .pointer (some ⟨g2, 0, none⟩), .agg #[.int .i64 k, .int .i64 a, .int .i64 u]] w fun e w' => e = .returned (.bool true) ∧ PSt w' base g (dropped L a) most ∧ RefSt w' base g2 (dropped L a) most ∧ Below base w w' := by
  have hu28 := Try.underlying28
  have HP := Aside0.mk hP
  have HR := Aside0.mk hR
  have HLEN := Aside0.mk hlen
  have HBB := Aside0.mk hP.base
  clear hP hR hlen
  subst hk
  go_enter Try.func8, Try.ntmps8
  go_upto_region 11 with fail
  have BK1 := Aside0.mk (blk_new w (.cells #[.int .i64 4, .int .i64 a, .int .i64 u] 28))
  have HP1 := Aside0.mk (PSt.below HP.out (below_alloc (Below.refl _ _) (.cells #[.int .i64 4, .int .i64 a, .int .i64 u] 28)))
  have HR1 := Aside0.mk (RefSt.below HR.out (below_alloc (Below.refl _ _) (.cells #[.int .i64 4, .int .i64 a, .int .i64 u] 28)))
  have HB1 := Aside0.mk (below_less (below_alloc (Below.refl w.heap.size w) (.cells #[.int .i64 4, .int .i64 a, .int .i64 u] 28)) HBB.out)
  obtain ⟨b, hb⟩ : ∃ b, w.heap.size = b := ⟨_, rfl⟩
  rw [hb] at BK1 ⊢
  refine start_ (n := 10) (S := fun w' => w'.cell? ⟨b, 1, none⟩ = some (.int .i64 a)) (ds := []) #[false, false, false, false, false, false, false, false, false, false] (by kernel_rfl) rfl rfl ((blk_cell BK1.out 1).trans rfl) (fun hHeld => ?_)
  have HPd_ := PSt.below HP1.out (below_drew (Below.refl _ _))
  have HRd_ := RefSt.below HR1.out (below_drew (Below.refl _ _))
  have BKd_ := blk_drew BK1.out
  have HBd_ := below_drew HB1.out
  clear HP1 HR1 BK1 HB1
  generalize (World.alloc w (.cells #[.int .i64 4, .int .i64 a, .int .i64 u] 28)).drew = w2 at HPd_ HRd_ BKd_ HBd_ hHeld ⊢
  have HPd := Aside0.mk HPd_
  have HRd := Aside0.mk HRd_
  have BKd := Aside0.mk BKd_
  have HBd := Aside0.mk HBd_
  clear HPd_ HRd_ BKd_ HBd_
  refine pure_ (i := 0) (N := some 60) (v := ?_) (a' := ?_) #[true, false, false, false, false, false, false, false, false, false] rfl rfl (by kernel_rfl) (fun _ _ _ h => h) (Or.inl ⟨by rfl, ?_⟩) ?_ ?_
  rotate_left
  · intro w'
    go_simp
    with_reducible rfl
  rotate_left
  · simp only [Act.put, List.setIfInBounds_toArray, List.set_cons_zero, List.set_cons_succ, i64_w, i32_w]
    rfl
  refine pure_ (i := 1) (N := some 61) (v := ?_) (a' := ?_) #[true, true, false, false, false, false, false, false, false, false] rfl rfl (by kernel_rfl) (fun _ _ _ h => h) (Or.inl ⟨by rfl, ?_⟩) ?_ ?_
  rotate_left
  · intro w'
    go_simp
    with_reducible rfl
  rotate_left
  · simp only [Act.put, List.setIfInBounds_toArray, List.set_cons_zero, List.set_cons_succ, i64_w, i32_w]
    rfl
  refine pure_ (i := 4) (N := some 64) (v := ?_) (a' := ?_) #[true, true, false, false, true, false, false, false, false, false] rfl rfl (by kernel_rfl) (fun _ _ _ h => h) (Or.inl ⟨by rfl, ?_⟩) ?_ ?_
  rotate_left
  · intro w'
    go_simp
    with_reducible rfl
  rotate_left
  · simp only [Act.put, List.setIfInBounds_toArray, List.set_cons_zero, List.set_cons_succ, i64_w, i32_w]
    rfl
  refine pure_ (i := 5) (N := some 65) (v := ?_) (a' := ?_) #[true, true, false, false, true, true, false, false, false, false] rfl rfl (by kernel_rfl) (fun _ _ _ h => h) (Or.inl ⟨by rfl, ?_⟩) ?_ ?_
  rotate_left
  · intro w'
    go_simp
    with_reducible rfl
  rotate_left
  · simp only [Act.put, List.setIfInBounds_toArray, List.set_cons_zero, List.set_cons_succ, i64_w, i32_w]
    rfl
  refine take_ (i := 2) (N := some 62) (v := ?_) (a' := ?_) #[true, true, true, false, true, true, false, false, false, false] rfl rfl (by kernel_rfl) (fun _ _ _ h => h) (Or.inl ⟨by rfl, ?_⟩) hHeld ?_ ?_
  rotate_left
  · intro w' s0
    go_simp
    with_reducible rfl
  rotate_left
  · simp only [Act.put, List.setIfInBounds_toArray, List.set_cons_zero, List.set_cons_succ, i64_w, i32_w]
    rfl
  refine take_ (i := 6) (N := some 66) (v := ?_) (a' := ?_) #[true, true, true, false, true, true, true, false, false, false] rfl rfl (by kernel_rfl) (fun _ _ _ h => h) (Or.inl ⟨by rfl, ?_⟩) hHeld ?_ ?_
  rotate_left
  · intro w' s0
    go_simp
    with_reducible rfl
  rotate_left
  · simp only [Act.put, List.setIfInBounds_toArray, List.set_cons_zero, List.set_cons_succ, i64_w, i32_w]
    rfl
  refine one_ (i := 3) (N := some 63) #[true, true, true, true, true, true, true, false, false, false] rfl rfl (by kernel_rfl) (by decide) (fun K hK => ?_)
  refine goes_ Try.func18 (by kernel_rfl) rfl #[.pointer (some ⟨g, 0, none⟩), .int .i64 a] (by rfl) rfl rfl (by simp only [List.map_toArray, List.map_cons, List.map_nil]; rfl) ?_
  with_reducible refine (pin_DropR a base g L most _ HPd.out HLEN.out).mono ?_
  rintro e w3 ⟨rfl, hP3, hB3, hK3⟩
  refine ⟨_, rfl, ?_⟩
  have HP3 := Aside0.mk hP3
  have HR3 := Aside0.mk (RefSt.keeps HRd.out hK3)
  have BK3 := Aside0.mk (hK3 _ _ _ BKd.out (by decide))
  have HB3 := Aside0.mk (HBd.out.trans hB3)
  clear hP3 hB3 hK3
  refine hK.out _ _ ((blk_cell BK3.out 1).trans rfl) (fun hHeld => ?_)
  clear hK K
  refine norm_ (a' := ?_) ?_ ?_
  rotate_left
  · show Act.put _ (some 63) _ = _
    simp only [Act.put, List.setIfInBounds_toArray, List.set_cons_zero, List.set_cons_succ, i64_w, i32_w]
    rfl
  refine one_ (i := 7) (N := some 67) #[true, true, true, true, true, true, true, true, false, false] rfl rfl (by kernel_rfl) (by decide) (fun K hK => ?_)
  refine goes_ Try.func22 (by kernel_rfl) rfl #[.pointer (some ⟨g2, 0, none⟩), .int .i64 a] (by rfl) rfl rfl (by simp only [List.map_toArray, List.map_cons, List.map_nil]; rfl) ?_
  with_reducible refine (ref_DropR a base g2 L most _ HR3.out HLEN.out).mono ?_
  rintro e w4 ⟨rfl, hR4, hB4, hK4⟩
  refine ⟨_, rfl, ?_⟩
  have HR4 := Aside0.mk hR4
  have HP4 := Aside0.mk (PSt.keeps HP3.out hK4)
  have BK4 := Aside0.mk (hK4 _ _ _ BK3.out (by decide))
  have HB4 := Aside0.mk (HB3.out.trans hB4)
  clear hR4 hB4 hK4
  refine hK.out _ _ ((blk_cell BK4.out 1).trans rfl) (fun hHeld => ?_)
  clear hK K
  refine norm_ (a' := ?_) ?_ ?_
  rotate_left
  · show Act.put _ (some 67) _ = _
    simp only [Act.put, List.setIfInBounds_toArray, List.set_cons_zero, List.set_cons_succ, i64_w, i32_w]
    rfl
  refine pure_ (i := 8) (N := some 68) (v := ?_) (a' := ?_) #[true, true, true, true, true, true, true, true, true, false] rfl rfl (by kernel_rfl) (fun _ _ _ h => h) (Or.inl ⟨by rfl, ?_⟩) ?_ ?_
  rotate_left
  · intro w'
    go_simp
    with_reducible rfl
  rotate_left
  · simp only [Act.put, List.setIfInBounds_toArray, List.set_cons_zero, List.set_cons_succ, i64_w, i32_w]
    rfl
  refine pure_ (i := 9) (N := some 6) (v := ?_) (a' := ?_) #[true, true, true, true, true, true, true, true, true, true] rfl rfl (by kernel_rfl) (fun _ _ _ h => h) (Or.inl ⟨by rfl, ?_⟩) ?_ ?_
  rotate_left
  · intro w'
    go_simp
    with_reducible rfl
  rotate_left
  · simp only [Act.put, List.setIfInBounds_toArray, List.set_cons_zero, List.set_cons_succ, i64_w, i32_w]
    rfl
  refine done_ (by kernel_rfl) ?_
  go_wp2
  go_ret
  exact ⟨by simp, HP4.out, HR4.out, HB4.out⟩
set_option maxHeartbeats 8000000 in
set_option maxRecDepth 100000 in
theorem step_Expire (base g g2 : Nat) (k a u : Int) (L : List S50) (most : Int) (w : World) (hP : PSt w base g L most) (hR : RefSt w base g2 L most) (hlen : L.length ≤ 900) (hk : k = 5) : Calls Try.prog 8 #[.pointer (some ⟨g, 0, none⟩), .pointer (some ⟨g2, 0, none⟩), .agg #[.int .i64 k, .int .i64 a, .int .i64 u]] w fun e w' => e = .returned (.bool true) ∧ PSt w' base g (L.map (rExp u)) most ∧ RefSt w' base g2 (L.map (rExp u)) most ∧ Below base w w' := by
  have hu28 := Try.underlying28
  have HP := Aside0.mk hP
  have HR := Aside0.mk hR
  have HLEN := Aside0.mk hlen
  have HBB := Aside0.mk hP.base
  clear hP hR hlen
  subst hk
  go_enter Try.func8, Try.ntmps8
  go_upto_region 13 with fail
  have BK1 := Aside0.mk (blk_new w (.cells #[.int .i64 5, .int .i64 a, .int .i64 u] 28))
  have HP1 := Aside0.mk (PSt.below HP.out (below_alloc (Below.refl _ _) (.cells #[.int .i64 5, .int .i64 a, .int .i64 u] 28)))
  have HR1 := Aside0.mk (RefSt.below HR.out (below_alloc (Below.refl _ _) (.cells #[.int .i64 5, .int .i64 a, .int .i64 u] 28)))
  have HB1 := Aside0.mk (below_less (below_alloc (Below.refl w.heap.size w) (.cells #[.int .i64 5, .int .i64 a, .int .i64 u] 28)) HBB.out)
  obtain ⟨b, hb⟩ : ∃ b, w.heap.size = b := ⟨_, rfl⟩
  rw [hb] at BK1 ⊢
  refine start_ (n := 10) (S := fun w' => w'.cell? ⟨b, 2, none⟩ = some (.int .i64 u)) (ds := []) #[false, false, false, false, false, false, false, false, false, false] (by kernel_rfl) rfl rfl ((blk_cell BK1.out 2).trans rfl) (fun hHeld => ?_)
  have HPd_ := PSt.below HP1.out (below_drew (Below.refl _ _))
  have HRd_ := RefSt.below HR1.out (below_drew (Below.refl _ _))
  have BKd_ := blk_drew BK1.out
  have HBd_ := below_drew HB1.out
  clear HP1 HR1 BK1 HB1
  generalize (World.alloc w (.cells #[.int .i64 5, .int .i64 a, .int .i64 u] 28)).drew = w2 at HPd_ HRd_ BKd_ HBd_ hHeld ⊢
  have HPd := Aside0.mk HPd_
  have HRd := Aside0.mk HRd_
  have BKd := Aside0.mk BKd_
  have HBd := Aside0.mk HBd_
  clear HPd_ HRd_ BKd_ HBd_
  refine pure_ (i := 0) (N := some 71) (v := ?_) (a' := ?_) #[true, false, false, false, false, false, false, false, false, false] rfl rfl (by kernel_rfl) (fun _ _ _ h => h) (Or.inl ⟨by rfl, ?_⟩) ?_ ?_
  rotate_left
  · intro w'
    go_simp
    with_reducible rfl
  rotate_left
  · simp only [Act.put, List.setIfInBounds_toArray, List.set_cons_zero, List.set_cons_succ, i64_w, i32_w]
    rfl
  refine pure_ (i := 1) (N := some 72) (v := ?_) (a' := ?_) #[true, true, false, false, false, false, false, false, false, false] rfl rfl (by kernel_rfl) (fun _ _ _ h => h) (Or.inl ⟨by rfl, ?_⟩) ?_ ?_
  rotate_left
  · intro w'
    go_simp
    with_reducible rfl
  rotate_left
  · simp only [Act.put, List.setIfInBounds_toArray, List.set_cons_zero, List.set_cons_succ, i64_w, i32_w]
    rfl
  refine pure_ (i := 4) (N := some 75) (v := ?_) (a' := ?_) #[true, true, false, false, true, false, false, false, false, false] rfl rfl (by kernel_rfl) (fun _ _ _ h => h) (Or.inl ⟨by rfl, ?_⟩) ?_ ?_
  rotate_left
  · intro w'
    go_simp
    with_reducible rfl
  rotate_left
  · simp only [Act.put, List.setIfInBounds_toArray, List.set_cons_zero, List.set_cons_succ, i64_w, i32_w]
    rfl
  refine pure_ (i := 5) (N := some 76) (v := ?_) (a' := ?_) #[true, true, false, false, true, true, false, false, false, false] rfl rfl (by kernel_rfl) (fun _ _ _ h => h) (Or.inl ⟨by rfl, ?_⟩) ?_ ?_
  rotate_left
  · intro w'
    go_simp
    with_reducible rfl
  rotate_left
  · simp only [Act.put, List.setIfInBounds_toArray, List.set_cons_zero, List.set_cons_succ, i64_w, i32_w]
    rfl
  refine take_ (i := 2) (N := some 73) (v := ?_) (a' := ?_) #[true, true, true, false, true, true, false, false, false, false] rfl rfl (by kernel_rfl) (fun _ _ _ h => h) (Or.inl ⟨by rfl, ?_⟩) hHeld ?_ ?_
  rotate_left
  · intro w' s0
    go_simp
    with_reducible rfl
  rotate_left
  · simp only [Act.put, List.setIfInBounds_toArray, List.set_cons_zero, List.set_cons_succ, i64_w, i32_w]
    rfl
  refine take_ (i := 6) (N := some 77) (v := ?_) (a' := ?_) #[true, true, true, false, true, true, true, false, false, false] rfl rfl (by kernel_rfl) (fun _ _ _ h => h) (Or.inl ⟨by rfl, ?_⟩) hHeld ?_ ?_
  rotate_left
  · intro w' s0
    go_simp
    with_reducible rfl
  rotate_left
  · simp only [Act.put, List.setIfInBounds_toArray, List.set_cons_zero, List.set_cons_succ, i64_w, i32_w]
    rfl
  refine one_ (i := 3) (N := some 74) #[true, true, true, true, true, true, true, false, false, false] rfl rfl (by kernel_rfl) (by decide) (fun K hK => ?_)
  refine goes_ Try.func19 (by kernel_rfl) rfl #[.pointer (some ⟨g, 0, none⟩), .int .i64 u] (by rfl) rfl rfl (by simp only [List.map_toArray, List.map_cons, List.map_nil]; rfl) ?_
  with_reducible refine (pin_ExpireR u base g L most _ HPd.out HLEN.out).mono ?_
  rintro e w3 ⟨rfl, hP3, hB3, hK3⟩
  refine ⟨_, rfl, ?_⟩
  have HP3 := Aside0.mk hP3
  have HR3 := Aside0.mk (RefSt.keeps HRd.out hK3)
  have BK3 := Aside0.mk (hK3 _ _ _ BKd.out (by decide))
  have HB3 := Aside0.mk (HBd.out.trans hB3)
  clear hP3 hB3 hK3
  refine hK.out _ _ ((blk_cell BK3.out 2).trans rfl) (fun hHeld => ?_)
  clear hK K
  refine norm_ (a' := ?_) ?_ ?_
  rotate_left
  · show Act.put _ (some 74) _ = _
    simp only [Act.put, List.setIfInBounds_toArray, List.set_cons_zero, List.set_cons_succ, i64_w, i32_w]
    rfl
  refine one_ (i := 7) (N := some 78) #[true, true, true, true, true, true, true, true, false, false] rfl rfl (by kernel_rfl) (by decide) (fun K hK => ?_)
  refine goes_ Try.func23 (by kernel_rfl) rfl #[.pointer (some ⟨g2, 0, none⟩), .int .i64 u] (by rfl) rfl rfl (by simp only [List.map_toArray, List.map_cons, List.map_nil]; rfl) ?_
  with_reducible refine (ref_ExpireR u base g2 L most _ HR3.out HLEN.out).mono ?_
  rintro e w4 ⟨rfl, hR4, hB4, hK4⟩
  refine ⟨_, rfl, ?_⟩
  have HR4 := Aside0.mk hR4
  have HP4 := Aside0.mk (PSt.keeps HP3.out hK4)
  have BK4 := Aside0.mk (hK4 _ _ _ BK3.out (by decide))
  have HB4 := Aside0.mk (HB3.out.trans hB4)
  clear hR4 hB4 hK4
  refine hK.out _ _ ((blk_cell BK4.out 2).trans rfl) (fun hHeld => ?_)
  clear hK K
  refine norm_ (a' := ?_) ?_ ?_
  rotate_left
  · show Act.put _ (some 78) _ = _
    simp only [Act.put, List.setIfInBounds_toArray, List.set_cons_zero, List.set_cons_succ, i64_w, i32_w]
    rfl
  refine pure_ (i := 8) (N := some 79) (v := ?_) (a' := ?_) #[true, true, true, true, true, true, true, true, true, false] rfl rfl (by kernel_rfl) (fun _ _ _ h => h) (Or.inl ⟨by rfl, ?_⟩) ?_ ?_
  rotate_left
  · intro w'
    go_simp
    with_reducible rfl
  rotate_left
  · simp only [Act.put, List.setIfInBounds_toArray, List.set_cons_zero, List.set_cons_succ, i64_w, i32_w]
    rfl
  refine pure_ (i := 9) (N := some 6) (v := ?_) (a' := ?_) #[true, true, true, true, true, true, true, true, true, true] rfl rfl (by kernel_rfl) (fun _ _ _ h => h) (Or.inl ⟨by rfl, ?_⟩) ?_ ?_
  rotate_left
  · intro w'
    go_simp
    with_reducible rfl
  rotate_left
  · simp only [Act.put, List.setIfInBounds_toArray, List.set_cons_zero, List.set_cons_succ, i64_w, i32_w]
    rfl
  refine done_ (by kernel_rfl) ?_
  go_wp2
  go_ret
  exact ⟨by simp, HP4.out, HR4.out, HB4.out⟩
set_option maxHeartbeats 8000000 in
set_option maxRecDepth 100000 in
theorem step_Else (base g g2 : Nat) (k a u : Int) (L : List S50) (most : Int) (w : World) (hP : PSt w base g L most) (hR : RefSt w base g2 L most) (hlen : L.length ≤ 900) (hk : ∀ j : Int, j = 0 ∨ j = 1 ∨ j = 2 ∨ j = 3 ∨ j = 4 ∨ j = 5 → k ≠ j) : Calls Try.prog 8 #[.pointer (some ⟨g, 0, none⟩), .pointer (some ⟨g2, 0, none⟩), .agg #[.int .i64 k, .int .i64 a, .int .i64 u]] w fun e w' => e = .returned (.bool true) ∧ PSt w' base g (L) most ∧ RefSt w' base g2 (L) most ∧ Below base w w' := by
  have hu28 := Try.underlying28
  have HP := Aside0.mk hP
  have HR := Aside0.mk hR
  have HLEN := Aside0.mk hlen
  have HBB := Aside0.mk hP.base
  clear hP hR hlen
  have hk0 : (k == 0) = false := beq_eq_false_iff_ne.2 (hk 0 (by simp))
  have hk1 : (k == 1) = false := beq_eq_false_iff_ne.2 (hk 1 (by simp))
  have hk2 : (k == 2) = false := beq_eq_false_iff_ne.2 (hk 2 (by simp))
  have hk3 : (k == 3) = false := beq_eq_false_iff_ne.2 (hk 3 (by simp))
  have hk4 : (k == 4) = false := beq_eq_false_iff_ne.2 (hk 4 (by simp))
  have hk5 : (k == 5) = false := beq_eq_false_iff_ne.2 (hk 5 (by simp))
  go_enter Try.func8, Try.ntmps8
  go_wp2
  go_ret
  exact ⟨rfl, PSt.below HP.out (below_alloc (Below.refl _ _) _), RefSt.below HR.out (below_alloc (Below.refl _ _) _), below_less (below_alloc (Below.refl w.heap.size w) _) HBB.out⟩
set_option maxHeartbeats 8000000 in
set_option maxRecDepth 100000 in
theorem step_Add0 (base g g2 : Nat) (k a u : Int) (L : List S50) (most : Int) (w : World) (hP : PSt w base g L most) (hR : RefSt w base g2 L most) (hlen : L.length ≤ 900) (hk : k = 0) : Calls Try.prog 8 #[.pointer (some ⟨g, 0, none⟩), .pointer (some ⟨g2, 0, none⟩), .agg #[.int .i64 k, .int .i64 a, .int .i64 u]] w fun e w' => e = .returned (.bool true) ∧ PSt w' base g (added L a u most) most ∧ RefSt w' base g2 (added L a u most) most ∧ Below base w w' := by
  have hu28 := Try.underlying28
  have HP := Aside0.mk hP
  have HR := Aside0.mk hR
  have HLEN := Aside0.mk hlen
  have HBB := Aside0.mk hP.base
  clear hP hR hlen
  subst hk
  obtain ⟨r1, hr1⟩ : ∃ r, (addRes L a most).1 = r := ⟨_, rfl⟩
  obtain ⟨r2, hr2⟩ : ∃ r, (addRes L a most).2 = r := ⟨_, rfl⟩
  have BK1 := Aside0.mk (blk_new w (.cells #[.int .i64 0, .int .i64 a, .int .i64 u] 28))
  have HP1 := Aside0.mk (PSt.below HP.out (below_alloc (Below.refl _ _) (.cells #[.int .i64 0, .int .i64 a, .int .i64 u] 28)))
  have HR1 := Aside0.mk (RefSt.below HR.out (below_alloc (Below.refl _ _) (.cells #[.int .i64 0, .int .i64 a, .int .i64 u] 28)))
  have HB1 := Aside0.mk (below_less (below_alloc (Below.refl w.heap.size w) (.cells #[.int .i64 0, .int .i64 a, .int .i64 u] 28)) HBB.out)
  have hc1 := blk_cell BK1.out 1
  have hc2 := blk_cell BK1.out 2
  go_enter Try.func8, Try.ntmps8
  go_wp2_with (first | (go_at_call 16; refine (pin_AddR base g L most a u _ HP1.out HLEN.out).mono ?_; rintro e w3 ⟨rfl, hP3, hB3, hK3⟩; have HP3 := Aside0.mk hP3; have HR3 := Aside0.mk (RefSt.keeps HR1.out hK3); have BK3 := Aside0.mk (hK3 _ _ _ BK1.out (by decide)); have HB3 := Aside0.mk (HB1.out.trans hB3); clear hP3 hB3 hK3 hc1 hc2; have hc1 := blk_cell BK3.out 1; have hc2 := blk_cell BK3.out 2) | (go_at_call 20; refine (ref_AddR base g2 L most a u _ HR3.out HLEN.out).mono ?_; rintro e w4 ⟨rfl, hR4, hB4, hK4⟩; have HR4 := Aside0.mk hR4; have HP4 := Aside0.mk (PSt.keeps HP3.out hK4); have HB4 := Aside0.mk (HB3.out.trans hB4); clear hR4 hB4 hK4))
  go_ret
  exact ⟨by simp, HP4.out, HR4.out, HB4.out⟩
set_option maxHeartbeats 8000000 in
set_option maxRecDepth 100000 in
theorem step_Add1 (base g g2 : Nat) (k a u : Int) (L : List S50) (most : Int) (w : World) (hP : PSt w base g L most) (hR : RefSt w base g2 L most) (hlen : L.length ≤ 900) (hk : k = 1) : Calls Try.prog 8 #[.pointer (some ⟨g, 0, none⟩), .pointer (some ⟨g2, 0, none⟩), .agg #[.int .i64 k, .int .i64 a, .int .i64 u]] w fun e w' => e = .returned (.bool true) ∧ PSt w' base g (added L a u most) most ∧ RefSt w' base g2 (added L a u most) most ∧ Below base w w' := by
  have hu28 := Try.underlying28
  have HP := Aside0.mk hP
  have HR := Aside0.mk hR
  have HLEN := Aside0.mk hlen
  have HBB := Aside0.mk hP.base
  clear hP hR hlen
  subst hk
  obtain ⟨r1, hr1⟩ : ∃ r, (addRes L a most).1 = r := ⟨_, rfl⟩
  obtain ⟨r2, hr2⟩ : ∃ r, (addRes L a most).2 = r := ⟨_, rfl⟩
  have BK1 := Aside0.mk (blk_new w (.cells #[.int .i64 1, .int .i64 a, .int .i64 u] 28))
  have HP1 := Aside0.mk (PSt.below HP.out (below_alloc (Below.refl _ _) (.cells #[.int .i64 1, .int .i64 a, .int .i64 u] 28)))
  have HR1 := Aside0.mk (RefSt.below HR.out (below_alloc (Below.refl _ _) (.cells #[.int .i64 1, .int .i64 a, .int .i64 u] 28)))
  have HB1 := Aside0.mk (below_less (below_alloc (Below.refl w.heap.size w) (.cells #[.int .i64 1, .int .i64 a, .int .i64 u] 28)) HBB.out)
  have hc1 := blk_cell BK1.out 1
  have hc2 := blk_cell BK1.out 2
  go_enter Try.func8, Try.ntmps8
  go_wp2_with (first | (go_at_call 16; refine (pin_AddR base g L most a u _ HP1.out HLEN.out).mono ?_; rintro e w3 ⟨rfl, hP3, hB3, hK3⟩; have HP3 := Aside0.mk hP3; have HR3 := Aside0.mk (RefSt.keeps HR1.out hK3); have BK3 := Aside0.mk (hK3 _ _ _ BK1.out (by decide)); have HB3 := Aside0.mk (HB1.out.trans hB3); clear hP3 hB3 hK3 hc1 hc2; have hc1 := blk_cell BK3.out 1; have hc2 := blk_cell BK3.out 2) | (go_at_call 20; refine (ref_AddR base g2 L most a u _ HR3.out HLEN.out).mono ?_; rintro e w4 ⟨rfl, hR4, hB4, hK4⟩; have HR4 := Aside0.mk hR4; have HP4 := Aside0.mk (PSt.keeps HP3.out hK4); have HB4 := Aside0.mk (HB3.out.trans hB4); clear hR4 hB4 hK4))
  go_ret
  exact ⟨by simp, HP4.out, HR4.out, HB4.out⟩
set_option maxHeartbeats 8000000 in
set_option maxRecDepth 100000 in
theorem step_Add2 (base g g2 : Nat) (k a u : Int) (L : List S50) (most : Int) (w : World) (hP : PSt w base g L most) (hR : RefSt w base g2 L most) (hlen : L.length ≤ 900) (hk : k = 2) : Calls Try.prog 8 #[.pointer (some ⟨g, 0, none⟩), .pointer (some ⟨g2, 0, none⟩), .agg #[.int .i64 k, .int .i64 a, .int .i64 u]] w fun e w' => e = .returned (.bool true) ∧ PSt w' base g (added L a u most) most ∧ RefSt w' base g2 (added L a u most) most ∧ Below base w w' := by
  have hu28 := Try.underlying28
  have HP := Aside0.mk hP
  have HR := Aside0.mk hR
  have HLEN := Aside0.mk hlen
  have HBB := Aside0.mk hP.base
  clear hP hR hlen
  subst hk
  obtain ⟨r1, hr1⟩ : ∃ r, (addRes L a most).1 = r := ⟨_, rfl⟩
  obtain ⟨r2, hr2⟩ : ∃ r, (addRes L a most).2 = r := ⟨_, rfl⟩
  have BK1 := Aside0.mk (blk_new w (.cells #[.int .i64 2, .int .i64 a, .int .i64 u] 28))
  have HP1 := Aside0.mk (PSt.below HP.out (below_alloc (Below.refl _ _) (.cells #[.int .i64 2, .int .i64 a, .int .i64 u] 28)))
  have HR1 := Aside0.mk (RefSt.below HR.out (below_alloc (Below.refl _ _) (.cells #[.int .i64 2, .int .i64 a, .int .i64 u] 28)))
  have HB1 := Aside0.mk (below_less (below_alloc (Below.refl w.heap.size w) (.cells #[.int .i64 2, .int .i64 a, .int .i64 u] 28)) HBB.out)
  have hc1 := blk_cell BK1.out 1
  have hc2 := blk_cell BK1.out 2
  go_enter Try.func8, Try.ntmps8
  go_wp2_with (first | (go_at_call 16; refine (pin_AddR base g L most a u _ HP1.out HLEN.out).mono ?_; rintro e w3 ⟨rfl, hP3, hB3, hK3⟩; have HP3 := Aside0.mk hP3; have HR3 := Aside0.mk (RefSt.keeps HR1.out hK3); have BK3 := Aside0.mk (hK3 _ _ _ BK1.out (by decide)); have HB3 := Aside0.mk (HB1.out.trans hB3); clear hP3 hB3 hK3 hc1 hc2; have hc1 := blk_cell BK3.out 1; have hc2 := blk_cell BK3.out 2) | (go_at_call 20; refine (ref_AddR base g2 L most a u _ HR3.out HLEN.out).mono ?_; rintro e w4 ⟨rfl, hR4, hB4, hK4⟩; have HR4 := Aside0.mk hR4; have HP4 := Aside0.mk (PSt.keeps HP3.out hK4); have HB4 := Aside0.mk (HB3.out.trans hB4); clear hR4 hB4 hK4))
  go_ret
  exact ⟨by simp, HP4.out, HR4.out, HB4.out⟩
theorem step_all (base g g2 : Nat) (k a u : Int) (L : List S50) (most : Int) (w : World) (hP : PSt w base g L most) (hR : RefSt w base g2 L most) (hlen : L.length ≤ 900) : Calls Try.prog 8 #[.pointer (some ⟨g, 0, none⟩), .pointer (some ⟨g2, 0, none⟩), .agg #[.int .i64 k, .int .i64 a, .int .i64 u]] w fun e w' => e = .returned (.bool true) ∧ PSt w' base g (stepL k a u most L) most ∧ RefSt w' base g2 (stepL k a u most L) most ∧ Below base w w' := by
  unfold stepL
  by_cases h0 : k = 0
  · rw [if_pos (.inl h0)]; exact step_Add0 base g g2 k a u L most w hP hR hlen h0
  by_cases h1 : k = 1
  · rw [if_pos (.inr (.inl h1))]; exact step_Add1 base g g2 k a u L most w hP hR hlen h1
  by_cases h2 : k = 2
  · rw [if_pos (.inr (.inr h2))]; exact step_Add2 base g g2 k a u L most w hP hR hlen h2
  rw [if_neg (by omega)]
  by_cases h3 : k = 3
  · rw [if_pos h3]; exact step_Keep base g g2 k a u L most w hP hR hlen h3
  rw [if_neg h3]
  by_cases h4 : k = 4
  · rw [if_pos h4]; exact step_Drop base g g2 k a u L most w hP hR hlen h4
  rw [if_neg h4]
  by_cases h5 : k = 5
  · rw [if_pos h5]; exact step_Expire base g g2 k a u L most w hP hR hlen h5
  rw [if_neg h5]
  exact step_Else base g g2 k a u L most w hP hR hlen (by intro j hj; omega)
set_option maxHeartbeats 8000000 in
set_option maxRecDepth 100000 in
theorem pin_awake.callsS (w : World) : Calls Try.prog 15 #[] w fun e w' => e = .returned (.bool true) ∧ Below w.heap.size w w' := by
  have hu23 := Try.underlying23
  go_enter Try.func15, Try.ntmps15
  go_wp2_with fail
  refine (pin_New.callsS 4 w.heap.size _ (Nat.le_refl _)).mono ?_
  rintro e w1 ⟨g, rfl, h1, b1⟩
  rw [show mx 4 1 = 4 from rfl] at h1
  go_wp2_with fail
  refine (pin_Add.callsS _ g [] 4 0 5 10 _ h1 (by omega) (by simp) (by omega) (by simp)).mono ?_
  rintro e w2 ⟨rfl, h2, b2, _⟩
  go_wp2_with fail
  refine (pin_Add.callsS _ g _ 4 (0 + 1) 3 10 _ h2 (by omega) (by simp) (by omega) (by simp)).mono ?_
  rintro e w3 ⟨rfl, h3, b3, _⟩
  go_wp2_with fail
  refine (pin_Least.callsS _ g _ 4 (0 + 1 + 1) _ h3 (by simp) (by simp)).mono ?_
  rintro e w4 ⟨rfl, b4⟩
  have hlow : pinLow (([] : List S52) ++ [⟨0 + 1, 5, 10⟩] ++ [⟨0 + 1 + 1, 3, 10⟩]) (rd_T52 (([] : List S52) ++ [⟨0 + 1, 5, 10⟩] ++ [⟨0 + 1 + 1, 3, 10⟩]) 0).f1 = 3 := by decide
  rw [hlow]
  go_wp2_with fail
  go_ret
  exact ⟨rfl, below_step ((b1.trans b2).trans b3) b4⟩
theorem len_set_le : ∀ (L : List S50) (m : Nat) (x : S50), (∀ y, L[m]? = some y → x.f2 = true → y.f2 = true) → refLen (L.set m x) ≤ refLen L
  | [], _, _, _ => Nat.le_refl _
  | y :: t, 0, x, h => by
    have := h y rfl
    unfold refLen
    rw [List.set_cons_zero, List.filter_cons, List.filter_cons]
    cases hx : x.f2 with
    | true => rw [this hx]; exact Nat.le_refl _
    | false => cases y.f2 <;> simp
  | y :: t, m + 1, x, h => by
    have ih := len_set_le t m x (fun z hz => h z (by simpa using hz))
    unfold refLen at *
    rw [List.set_cons_succ, List.filter_cons, List.filter_cons]
    cases y.f2 <;> simp <;> omega
theorem stepL_most (k a u most : Int) (L : List S50) (h : (refLen L : Int) ≤ most) : (refLen (stepL k a u most L) : Int) ≤ most := by
  unfold stepL
  split
  · unfold added
    split
    · exact h
    · split
      · exact h
      · have : refLen (L ++ [⟨a, u, true⟩]) = refLen L + 1 := by unfold refLen; simp
        omega
  · split
    · unfold kept
      split
      · rename_i hk
        rcases held_dec L a with ⟨_, m, x, h2, h3, h4, h5, h6⟩ | ⟨h1, _⟩
        · have : (a - 1).toNat = m := by omega
          rw [this]
          have := len_set_le L m ⟨(rd_T50 L (a - 1)).f0, mx (rd_T50 L (a - 1)).f1 u, true⟩ (fun y hy _ => by rw [h3] at hy; injection hy with hy; exact hy ▸ h4)
          omega
        · rw [h1] at hk; exact absurd hk (by decide)
      · exact h
    · split
      · unfold dropped
        split
        · have := len_set_le L (a - 1).toNat ⟨(rd_T50 L (a - 1)).f0, (rd_T50 L (a - 1)).f1, false⟩ (fun y _ h => absurd h (by simp))
          omega
        · exact h
      · split
        · have := exp_count u L
          omega
        · exact h
theorem least_has (L : List S50) : (rLeast L).2 = decide ((refLen L : Int) > 0) := by
  rw [least_eq, heldL_len]
  split
  · rename_i h; rw [h]; rfl
  · exact (decide_eq_true (by omega)).symm
theorem pinLow_le : ∀ (L : List S52) (r : Int), pinLow L r ≤ r ∧ ∀ x ∈ L, pinLow L r ≤ x.f1
  | [], r => ⟨Int.le_refl _, by simp⟩
  | y :: t, r => by
    have ih := pinLow_le t (if y.f1 < r then y.f1 else r)
    have e : pinLow (y :: t) r = pinLow t (if y.f1 < r then y.f1 else r) := rfl
    rw [e]
    constructor
    · have := ih.1; split at this <;> omega
    · intro x hx
      rcases List.mem_cons.mp hx with rfl | hx
      · have := ih.1; split at this <;> omega
      · exact ih.2 x hx
theorem heldL_in : ∀ (n : Nat) (L : List S50) (m : Nat) (x : S50), L[m]? = some x → x.f2 = true → ∃ y ∈ heldL n L, y.f1 = x.f0
  | _, [], m, x, h, _ => by simp at h
  | n, z :: t, 0, x, h, hx => by
    simp at h
    subst h
    exact ⟨⟨(n : Int) + 1, z.f0, z.f1⟩, by simp [heldL, hx], rfl⟩
  | n, z :: t, m + 1, x, h, hx => by
    obtain ⟨y, hy, e⟩ := heldL_in (n + 1) t m x (by simpa using h) hx
    refine ⟨y, ?_, e⟩
    unfold heldL
    split
    · exact List.mem_cons_of_mem _ hy
    · exact hy
theorem least_low (L : List S50) (id_ : Int) (h : rHeld L id_ = true) : (rLeast L).1 ≤ revOf L id_ := by
  rcases held_dec L id_ with ⟨_, m, x, h2, h3, h4, h5, h6⟩ | ⟨h1, _⟩
  · obtain ⟨y, hy, e⟩ := heldL_in 0 L m x h3 h4
    unfold revOf
    rw [if_pos h, h5, ← e, least_eq]
    split
    · rename_i h0
      rw [List.length_eq_zero_iff.mp h0] at hy
      exact absurd hy (by simp)
    · exact (pinLow_le _ _).2 y hy
  · rw [h1] at h; exact absurd h (by decide)
theorem jstep {j k m : Nat} (h : j + (k + 1) = m + 2 ∧ 1 ≤ j ∧ j ≤ m + 1) (cj : (j : Int) ≤ (m : Int)) : (j + 1) + k = m + 2 ∧ 1 ≤ j + 1 ∧ j + 1 ≤ m + 1 := by omega
theorem most8 (a0 : Int) (w0 : (Lit.int .u8 a0).wf = true) : 1 ≤ wrap64 (1 + (wrap64 a0).tmod 8) ∧ wrap64 (1 + (wrap64 a0).tmod 8) ≤ 8 := by
  have h : 0 ≤ a0 ∧ a0 ≤ 255 := by
    simp [Lit.wf, IntKind.min, IntKind.max, IntKind.signed, IntKind.bits] at w0
    omega
  have e : wrap64 a0 = a0 := by unfold wrap64; omega
  rw [e, Int.tmod_eq_emod_of_nonneg h.1]
  have := Int.emod_nonneg a0 (show (8 : Int) ≠ 0 by decide)
  have := Int.emod_lt_of_pos a0 (show (0 : Int) < 8 by decide)
  unfold wrap64
  omega
set_option maxHeartbeats 8000000 in
set_option maxRecDepth 100000 in
theorem larumlaw21_PinBounds.callsS (a0 : Int) (A1 : Option Addr) (c1 : Nat) (l1 : List S28) (w : World) (w0 : (Lit.int .u8 a0).wf = true) (hr1 : Kd.C k28 w A1 l1.length l1) (hm1 : l1.length ≤ 9223372036854775807) :
    Calls Try.prog 4 #[.int .u8 a0, .slice A1 l1.length c1] w fun e w' => e = .returned (.bool true) ∧ Below w.heap.size w w' := by
  have hu28 := Try.underlying28
  have hu22 := Try.underlying22
  have HC := Aside0.mk hr1
  have HM := Aside0.mk hm1
  have HMO := Aside0.mk (most8 a0 w0)
  clear hr1 hm1
  obtain ⟨most, hmost⟩ : ∃ m, wrap64 (1 + (wrap64 a0).tmod 8) = m := ⟨_, rfl⟩
  rw [hmost] at HMO
  have hmx : mx most 1 = most := by unfold mx; have := HMO.out; split <;> omega
  have HN := Aside0.mk (pin_New.callsS most w.heap.size w (Nat.le_refl _))
  rw [hmx] at HN
  go_enter Try.func4, Try.ntmps4
  go_wp2_with (first | (go_at_call 6; rw [hmost]; refine HN.out.mono ?_; rintro e w1 ⟨g, rfl, hP, hb⟩; have HP0 := Aside0.mk (show PSt w1 w.heap.size g [] most from hP); have HB0 := Aside0.mk hb; clear hP hb) | (go_at_call 7; refine (ref_New.callsS most w.heap.size _ HB0.out.size).mono ?_; rintro e w2 ⟨g2, rfl, hR, hb⟩; rw [hmx] at hR; have HR1 := Aside0.mk hR; have HP1 := Aside0.mk (PSt.below HP0.out hb); have HB1 := Aside0.mk (below_step HB0.out hb); clear hR hb))
  go_loopg [25] (l1.length + 1) (fun kq v25 wr => ∃ (i : Nat) (L : List S50), v25 = .int .i64 (i : Int) ∧ Aside0 (i + kq = l1.length + 1 ∧ i ≤ l1.length ∧ L.length ≤ i ∧ (refLen L : Int) ≤ most) ∧ Aside0 (PSt wr w.heap.size g L most) ∧ Aside0 (RefSt wr w.heap.size g2 L most) ∧ Aside0 (Below w.heap.size w wr))
  case atStart => exact ⟨0, [], rfl, ⟨by omega, by omega, by simp, by have := HMO.out; have : refLen [] = 0 := rfl; omega⟩, ⟨HP1.out⟩, ⟨HR1.out⟩, ⟨HB1.out⟩⟩
  case round =>
    clear HP0 HB0 HP1 HR1 HB1 HN
    obtain ⟨i, L, rfl, HI, HP, HR, HW⟩ := hrel
    cases gk with
    | zero => have := HI.out; omega
    | succ k1 =>
      by_cases c2 : (i : Int) < (l1.length : Int)
      · have c2b : decide ((i : Int) < (l1.length : Int)) = true := decide_eq_true c2
        have p2 : (0 : Int) ≤ (i : Int) := by omega
        obtain ⟨ad2, e2, hx0, hx1, hx2⟩ := at_T28 (Kd.C_below HC.out HW.out) (i : Int) p2 c2
        cases e2
        have p2t : ((0 : Int) ≤ (i : Int)) = True := eq_true p2
        have q2t : ((i : Int) < (l1.length : Int)) = True := eq_true c2
        have q2n : (i < l1.length) = True := eq_true (by omega)
        simp only [Int.toNat_natCast] at hx0 hx1 hx2
        have hw2 : wrap64 ((i : Int) + 1) = ((i + 1 : Nat) : Int) := by have := HM.out; unfold wrap64; omega
        obtain ⟨x, hx⟩ : ∃ x, rd_T28 l1 (i : Int) = x := ⟨_, rfl⟩
        rw [hx] at hx0 hx1 hx2
        clear hx
        by_cases c40 : (i : Int) ≥ 40
        · have c40b : decide ((i : Int) ≥ 40) = true := decide_eq_true c40
          go_wp2_with (go_at_call 15; refine (pin_awake.callsS _).mono ?_; rintro e w9 ⟨rfl, hb9⟩)
          go_ret
          exact ⟨rfl, below_step (below_alloc HW.out _) hb9⟩
        · have c40b : decide ((i : Int) ≥ 40) = false := decide_eq_false c40
          have HP1 := Aside0.mk (PSt.below HP.out (below_alloc (Below.refl _ _) (.cells #[.int .i64 x.f0, .int .i64 x.f1, .int .i64 x.f2] 28)))
          have HR1 := Aside0.mk (RefSt.below HR.out (below_alloc (Below.refl _ _) (.cells #[.int .i64 x.f0, .int .i64 x.f1, .int .i64 x.f2] 28)))
          have HB1 := Aside0.mk (below_alloc HW.out (.cells #[.int .i64 x.f0, .int .i64 x.f1, .int .i64 x.f2] 28))
          have HLL := Aside0.mk (show L.length ≤ 39 by have := HI.out; omega)
          have HSL := Aside0.mk (stepL_len x.f0 x.f1 x.f2 most L)
          have HS := Aside0.mk (step_all w.heap.size g g2 x.f0 x.f1 x.f2 L most _ HP1.out HR1.out (by have := HLL.out; omega))
          have HMS := Aside0.mk (stepL_most x.f0 x.f1 x.f2 most L HI.out.2.2.2)
          obtain ⟨M, hM⟩ : ∃ M, stepL x.f0 x.f1 x.f2 most L = M := ⟨_, rfl⟩
          rw [hM] at HSL HS HMS
          clear hM
          have HML := Aside0.mk (show M.length ≤ 900 by have := HLL.out; have := HSL.out; omega)
          have HLH := Aside0.mk (least_has M)
          have HLO := Aside0.mk (least_low M)
          obtain ⟨⟨lv, lk⟩, hlv⟩ : ∃ r, rLeast M = r := ⟨_, rfl⟩
          rw [hlv] at HLH HLO
          obtain ⟨rl, hrl⟩ : ∃ r, refLen M = r := ⟨_, rfl⟩
          rw [hrl] at HLH HMS
          have hlk : decide ((rl : Int) > 0) = lk := HLH.out.symm
          have hlk2 : decide (0 < rl) = lk := by rw [← hlk]; exact decide_eq_decide.mpr (by omega)
          have hlk3 : decide ((0 : Int) < (rl : Int)) = lk := hlk
          have hgt : decide ((rl : Int) > most) = false := decide_eq_false (by have := HMS.out; omega)
          have hgt2 : decide (most < (rl : Int)) = false := hgt
          go_wp2_with (first | (go_at_call 8; refine HS.out.mono ?_; rintro e w3 ⟨rfl, hP, hR, hb⟩; have HP3 := Aside0.mk hP; have HR3 := Aside0.mk hR; have HB3 := Aside0.mk (HB1.out.trans hb); clear hP hR hb) | (go_at_call 13; refine (pin_LeastR w.heap.size g M most _ HP3.out HML.out).mono ?_; rintro e w8 ⟨rfl, hb8⟩; rw [hlv]; have HP8 := Aside0.mk (PSt.below HP3.out hb8); have HR8 := Aside0.mk (RefSt.below HR3.out hb8); have HB8 := Aside0.mk (HB3.out.trans (below_less hb8 HP3.out.base)); clear hb8) | (go_at_call 9; refine (pin_LenR w.heap.size g M most _ HP8.out).mono ?_; rintro e w4 ⟨rfl, hb4⟩; rw [hrl]; have HP4 := Aside0.mk (PSt.below HP8.out hb4); have HR4 := Aside0.mk (RefSt.below HR8.out hb4); have HB4 := Aside0.mk (HB8.out.trans (below_less hb4 HP8.out.base)); clear hb4) | (go_at_call 9; refine (pin_LenR w.heap.size g M most _ HP4.out).mono ?_; rintro e w5 ⟨rfl, hb5⟩; rw [hrl]; have HP5 := Aside0.mk (PSt.below HP4.out hb5); have HR5 := Aside0.mk (RefSt.below HR4.out hb5); have HB5 := Aside0.mk (HB4.out.trans (below_less hb5 HP4.out.base)); clear hb5) | fail)
          have HB6 := HB5
          obtain ⟨rv1, hbk, hg2, hR2⟩ := HR5.out
          obtain ⟨A2, c22, rfl⟩ := Kd.R_slice hR2
          have BK2 := Aside0.mk hbk
          clear hbk hg2 hR2
          clear HP3 HR3 HB3 HP8 HR8 HB8 HP4 HR4 HB4 HP1 HR1 HB1 HP HR
          go_loopg [12] (M.length + 1) (fun kq v12 wr2 => ∃ (j : Nat), v12 = .int .i64 (j : Int) ∧ Aside0 (j + kq = M.length + 2 ∧ 1 ≤ j ∧ j ≤ M.length + 1) ∧ Aside0 (Below w5.heap.size w5 wr2))
          case atStart => exact ⟨1, rfl, ⟨by omega, by omega, by omega⟩, ⟨Below.refl _ _⟩⟩
          case round =>
            obtain ⟨j, rfl, HJ, HW2⟩ := hrel
            have hc20 := blk_cell (blk_below BK2.out HW2.out) 0
            cases gk with
            | zero => have := HJ.out; omega
            | succ k2 =>
              by_cases cj : (j : Int) ≤ (M.length : Int)
              · have cjb : decide ((j : Int) ≤ (M.length : Int)) = true := decide_eq_true cj
                have hwj : wrap64 ((j : Int) + 1) = ((j + 1 : Nat) : Int) := by have := HML.out; unfold wrap64; omega
                have HP6 := Aside0.mk (PSt.below HP5.out HW2.out)
                cases hrh : rHeld M (j : Int) with
                | true =>
                  have hlo : decide (revOf M (j : Int) < lv) = false := decide_eq_false (by have := HLO.out (j : Int) hrh; omega)
                  go_wp2_with (go_at_call 11; refine (pin_RevR (j : Int) w.heap.size g M most _ HP6.out HML.out).mono ?_; rintro e w6 ⟨rfl, hb6⟩; rw [hrh])
                  go_roundg k2
                  case measure => omega
                  case rel => exact ⟨j + 1, by rw [hwj], ⟨jstep HJ.out cj⟩, ⟨below_step HW2.out hb6⟩⟩
                | false =>
                  go_wp2_with (go_at_call 11; refine (pin_RevR (j : Int) w.heap.size g M most _ HP6.out HML.out).mono ?_; rintro e w6 ⟨rfl, hb6⟩; rw [hrh])
                  go_roundg k2
                  case measure => omega
                  case rel => exact ⟨j + 1, by rw [hwj], ⟨jstep HJ.out cj⟩, ⟨below_step HW2.out hb6⟩⟩
              · have cjb : decide ((j : Int) ≤ (M.length : Int)) = false := decide_eq_false cj
                go_wp2
                go_roundg k1
                case measure => omega
                case rel => exact ⟨i + 1, M, by first | rw [hw2] | simp, ⟨by have := HI.out; omega, by omega, by have := HSL.out; have := HI.out; omega, by have := HMS.out; omega⟩, ⟨PSt.below HP5.out HW2.out⟩, ⟨RefSt.below HR5.out HW2.out⟩, ⟨HB5.out.trans (below_less HW2.out HP5.out.base)⟩⟩
      · have c2b : decide ((i : Int) < (l1.length : Int)) = false := decide_eq_false c2
        go_wp2_with (go_at_call 15; refine (pin_awake.callsS _).mono ?_; rintro e w9 ⟨rfl, hb9⟩)
        go_ret
        exact ⟨rfl, below_step HW.out hb9⟩
def larumlaw21_PinBounds.f (k : Nat) (a0 : Int) (l1 : List (S28)) : Option (Bool) := some true
def larumlaw21_PinBounds.Pure : Prop := ∀ (a0 : Int) (l1 : List (S28)), (Lit.int .u8 a0).wf = true → l1.length ≤ 9223372036854775807 → (∀ x ∈ l1, (((Lit.int .i64 x.f0).wf = true) ∧ ((Lit.int .i64 x.f1).wf = true) ∧ ((Lit.int .i64 x.f2).wf = true))) → ∃ k, larumlaw21_PinBounds.f k a0 l1 = some true
theorem larumlaw21_PinBounds.walk (P : larumlaw21_PinBounds.Pure) (a0 : Int) (A1 : Option Addr) (c1 : Nat) (l1 : List (S28)) (w : World) (w0 : (Lit.int .u8 a0).wf = true) (hr1 : Kd.C k28 w A1 l1.length l1) (hc1 : l1.length ≤ c1) (hm1 : l1.length ≤ 9223372036854775807) (hg1 : ∀ x ∈ l1, (((Lit.int .i64 x.f0).wf = true) ∧ ((Lit.int .i64 x.f1).wf = true) ∧ ((Lit.int .i64 x.f2).wf = true))) :
    Calls Try.prog 4 #[.int .u8 a0, .slice A1 l1.length c1] w fun e w' => e = .returned (.bool true) ∧ Below w.heap.size w w' := larumlaw21_PinBounds.callsS a0 A1 c1 l1 w w0 hr1 hm1


end Go.Proofs.Ytghpfjbjiieemaa.PPinBounds
