-- By gp.py, a program of this session: the print of the kit with contracts of this session's own beside it.
import Derived.Test.YtmdfgndndfggeaaPDeskParsex0
import Derived.Test.YtmdfgndndfggeaaPDeskParsex2
namespace Go.Proofs.Ytmdfgndndfggeaa.PDeskParse
open Go.RowKit Go.Proofs.Ytmdfgndndfggeaa.Gp Go.Proofs.YtmdfgndndfggeaaW.PrintWords Go.Proofs.YtmdfgndndfggeaaW.PrintLast Go.Proofs.YtmdfgndndfggeaaW.PrintMore
attribute [local go_sem] max2_int min2_int max_two min_two max_three min_three max_four min_four gp_gtr gp_leq gp_geq   -- for this text's walks alone
set_option linter.unusedVariables false
set_option linter.unusedSimpArgs false

/-! ### desk_Line: function 13 -/
set_option maxHeartbeats 8000000 in
set_option maxRecDepth 100000 in
theorem desk_Line.has (s : ByteArray) (c : UInt8) (b : Nat) (w : World) (hc : w.cell? ⟨b, 0, none⟩ = some (.string s)) : Calls Try.prog 25 #[.string ⟨#[c]⟩, .pointer (some ⟨b, 0, none⟩)] w fun e w' => e = .returned (.bool (decide (0 ≤ Lib.indexByte s.data.toList c))) ∧ w' = w := by
  go_enter Try.func25, Try.ntmps25
  go_wp2_with (go_at_call 26; refine (Try.strings_Contains_one s c _).mono ?_; rintro e w1 ⟨rfl, rfl⟩)
  go_ret
  exact ⟨rfl, rfl⟩
theorem desk_Line.belowIter {B : Nat} {a b : World} (h : Below B a b) {it : Nat} (hi : B ≤ it) (s : ByteArray) (p : Nat) : Below B a (b.iterAt it s p) := by
  refine ⟨h.os, h.tape, h.output, ?_, fun i hlt => ?_⟩
  · have := h.size
    simpa [World.iterAt] using this
  · rw [← h.block i hlt]
    have hne : it ≠ i := by omega
    simp [World.iterAt, Array.getElem?_setIfInBounds, hne]
def desk_Line.piece (k : Nat) (conn : Int) (text : ByteArray) (n : Int) (c : UInt8) : Option ByteArray := if c = 99 then num_Print.f k conn else if c = 110 then num_Print.f k n else desk_Quoted.f k text
def desk_Line.go (k : Nat) (conn : Int) (text : ByteArray) (n : Int) : List UInt8 → ByteArray → Option ByteArray
  | [], acc => some acc
  | c :: r, acc => (desk_Line.piece k conn text n c).bind fun p => if acc.size + 1 + p.size ≤ 100000000 then desk_Line.go k conn text n r ((acc ++ (⟨#[32]⟩ : ByteArray)) ++ p) else none
def desk_Line.ok (signs : ByteArray) (conn : Int) (text : ByteArray) (n : Int) : Bool := (decide (0 ≤ Lib.indexByte signs.data.toList 99) || decide (conn = 0)) && (decide (0 ≤ Lib.indexByte signs.data.toList 110) || decide (n = 0)) && (decide (0 ≤ Lib.indexByte signs.data.toList 116) || decide (text.toList = []))
def desk_Line.f (k : Nat) (kind conn : Int) (text : ByteArray) (n : Int) : Option (ByteArray × Int) := (desk_form.f kind).bind fun ws => if ws.1.toList ≠ [] ∧ desk_Line.ok ws.2 conn text n = true ∧ ws.1.size ≤ 1000 then (desk_Line.go k conn text n ws.2.data.toList ws.1).map (fun r => (r, 0)) else if ws.1.toList = [] ∨ desk_Line.ok ws.2 conn text n = false then some ((⟨#[]⟩ : ByteArray), 1) else none
theorem desk_Line.less {B B' : Nat} {a b : World} (h : Below B' a b) (hB : B ≤ B') : Below B a b := ⟨h.os, h.tape, h.output, h.size, fun i hi => h.block i (Nat.lt_of_lt_of_le hi hB)⟩
theorem desk_Line.drop_ (s : ByteArray) (p : Nat) (h : p < s.size) : s.data.toList.drop p = (s[p]'h) :: s.data.toList.drop (p + 1) := List.drop_eq_getElem_cons (by rw [Array.length_toList]; exact h)
theorem desk_Line.asc_of (s : ByteArray) (h : s.data.toList.all (fun c => decide (c.toNat < 128)) = true) (p : Nat) (hp : p < s.size) : (s[p]'hp).toNat < 128 := by
  have := List.all_eq_true.mp h (s[p]'hp) (List.mem_of_getElem (i := p) (h := by rw [Array.length_toList]; exact hp) rfl)
  exact of_decide_eq_true this
theorem desk_Line.asc {kind : Int} {word signs : ByteArray} (h : desk_form.f kind = some (word, signs)) : ∀ p (hp : p < signs.size), (signs[p]'hp).toNat < 128 := by
  apply desk_Line.asc_of
  unfold desk_form.f at h
  repeat' split at h
  all_goals (injection h with h; injection h with h1 h2; subst h2; decide)
theorem desk_Line.mono_p : ∀ k conn text n c, LeO (desk_Line.piece k conn text n c) (desk_Line.piece (k + 1) conn text n c) := by
  intro k conn text n c
  unfold desk_Line.piece
  repeat' first
    | (with_reducible exact num_Print.mono _ _)
    | (with_reducible exact desk_Quoted.mono _ _)
    | (with_reducible refine LeO.ite ?_ ?_)
    | exact num_Print.mono _ _
    | exact desk_Quoted.mono _ _
    | refine LeO.ite ?_ ?_
theorem desk_Line.mono_g (k : Nat) (conn : Int) (text : ByteArray) (n : Int) : ∀ l acc, LeO (desk_Line.go k conn text n l acc) (desk_Line.go (k + 1) conn text n l acc)
  | [], acc => LeO.refl _
  | c :: r, acc => LeO.bind (desk_Line.mono_p k conn text n c) (fun p => LeO.ite (desk_Line.mono_g k conn text n r _) (LeO.none _))
theorem desk_Line.mono : ∀ kind conn text n k, LeO (desk_Line.f k kind conn text n) (desk_Line.f (k + 1) kind conn text n) := by
  intro kind conn text n k r h
  unfold desk_Line.f at *
  obtain ⟨ws, h1, h2⟩ := Option.bind_eq_some_iff.mp h
  refine Option.bind_eq_some_iff.mpr ⟨ws, h1, ?_⟩
  by_cases hc : ws.1.toList ≠ [] ∧ desk_Line.ok ws.2 conn text n = true ∧ ws.1.size ≤ 1000
  · rw [if_pos hc] at h2 ⊢
    obtain ⟨x, hx, e⟩ := Option.map_eq_some_iff.mp h2
    exact Option.map_eq_some_iff.mpr ⟨x, desk_Line.mono_g k conn text n _ _ x hx, e⟩
  · rw [if_neg hc] at h2 ⊢
    exact h2
set_option maxHeartbeats 8000000 in
set_option maxRecDepth 100000 in
theorem desk_Line.calls (k : Nat) (kind conn : Int) (text : ByteArray) (n : Int) (r1 : ByteArray) (r2 : Int) (w : World) (h : desk_Line.f k kind conn text n = some (r1, r2)) :
    Calls Try.prog 13 #[.agg #[.int .i64 kind, .int .i64 conn, .string text, .int .i64 n]] w fun e w' => e = .returned (.tuple #[.string r1, .int .i64 r2]) ∧ Below w.heap.size w w' := by
  have hu30 := Try.underlying30
  unfold desk_Line.f at h
  obtain ⟨⟨word, signs⟩, hform, h⟩ := Option.bind_eq_some_iff.mp h
  have HFORM := Aside0.mk hform
  have HAS := Aside0.mk (desk_Line.asc hform)
  clear hform
  by_cases hg : word.toList ≠ [] ∧ desk_Line.ok signs conn text n = true ∧ word.size ≤ 1000
  · rw [if_pos hg] at h
    obtain ⟨rr, hgo, e⟩ := Option.map_eq_some_iff.mp h
    injection e with e1 e2
    subst e1 e2
    clear h
    have HGO := Aside0.mk hgo
    clear hgo
    obtain ⟨hw0, hok, hws⟩ := hg
    have HWS := Aside0.mk hws
    have hwe : (word.toList == ([] : List UInt8)) = false := by simpa using hw0
    have hwi : word.toList.isEmpty = false := by simpa using hw0
    unfold desk_Line.ok at hok
    obtain ⟨h1, hh1⟩ : ∃ b, decide (0 ≤ Lib.indexByte signs.data.toList 99) = b := ⟨_, rfl⟩
    obtain ⟨h2, hh2⟩ : ∃ b, decide (0 ≤ Lib.indexByte signs.data.toList 110) = b := ⟨_, rfl⟩
    obtain ⟨h3, hh3⟩ : ∃ b, decide (0 ≤ Lib.indexByte signs.data.toList 116) = b := ⟨_, rfl⟩
    rw [hh1, hh2, hh3] at hok
    have HH1 := Aside0.mk hh1
    have HH2 := Aside0.mk hh2
    have HH3 := Aside0.mk hh3
    clear hh1 hh2 hh3
    simp only [Bool.and_eq_true, Bool.or_eq_true, decide_eq_true_eq] at hok
    obtain ⟨⟨hq1, hq2⟩, hq3⟩ := hok
    cases h1 with
    | true =>
      clear hq1
      cases h2 with
      | true =>
        clear hq2
        cases h3 with
        | true =>
          clear hq3
          go_enter Try.func13, Try.ntmps13
          go_upto_region 3 with (first | (go_at_call 24; with_reducible refine (desk_form.calls kind word signs _ HFORM.out).mono ?_; rintro e w1 ⟨rfl, ⟨nd, rfl⟩⟩) | fail)
          have BX0 := blk_below (blk_new w (.cells #[.int .i64 kind, .int .i64 conn, .string text, .int .i64 n] 30)) (pw_below_drewN (Below.refl _ _) nd)
          have BX1 := blk_alloc BX0 (.cells #[.string signs] 9)
          have BS1 := blk_new ((w.alloc (.cells #[.int .i64 kind, .int .i64 conn, .string text, .int .i64 n] 30)).drewN nd) (.cells #[.string signs] 9)
          have HB1 := below_alloc (pw_below_drewN (below_alloc (Below.refl w.heap.size w) (.cells #[.int .i64 kind, .int .i64 conn, .string text, .int .i64 n] 30)) nd) (.cells #[.string signs] 9)
          rw [show ((w.alloc (.cells #[.int .i64 kind, .int .i64 conn, .string text, .int .i64 n] 30)).drewN nd).heap.size = w.heap.size + 1 by simp] at BS1
          obtain ⟨b0, hb0⟩ : ∃ b, w.heap.size = b := ⟨_, rfl⟩
          obtain ⟨b1, hb1⟩ : ∃ b, w.heap.size + 1 = b := ⟨_, rfl⟩
          rw [hb0] at BX0 BX1
          rw [hb1] at BS1
          rw [hb1, hb0]
          generalize ((w.alloc (.cells #[.int .i64 kind, .int .i64 conn, .string text, .int .i64 n] 30)).drewN nd).alloc (.cells #[.string signs] 9) = ws at BX1 BS1 HB1 ⊢
          have BX := Aside0.mk BX1
          have BS := Aside0.mk BS1
          have HB := Aside0.mk HB1
          clear BX0 BX1 BS1 HB1
          have hcs := (blk_cell BS.out 0).trans rfl
          have hk0 := (blk_cell BX.out 0).trans rfl
          have hk1 := (blk_cell BX.out 1).trans rfl
          have hk2 := (blk_cell BX.out 2).trans rfl
          have hk3 := (blk_cell BX.out 3).trans rfl
          go_upto_region 5 with (first | (go_at_call 25; with_reducible refine (desk_Line.has signs 99 b1 _ hcs).mono ?_; rintro e wq ⟨rfl, hwq⟩; rw [hwq, HH1.out]; clear hwq) | (go_at_call 25; with_reducible refine (desk_Line.has signs 110 b1 _ hcs).mono ?_; rintro e wq ⟨rfl, hwq⟩; rw [hwq, HH2.out]; clear hwq) | (go_at_call 25; with_reducible refine (desk_Line.has signs 116 b1 _ hcs).mono ?_; rintro e wq ⟨rfl, hwq⟩; rw [hwq, HH3.out]; clear hwq) | fail)
          go_wp2
          have hit := World.iter_heap ws signs 0
          have hbi : Below ws.heap.size ws (ws.iter signs 0) := below_alloc (Below.refl ws.heap.size ws) (.stringIter signs 0)
          obtain ⟨it, hitn⟩ : ∃ it, ws.heap.size = it := ⟨_, rfl⟩
          have HIT0 := Aside0.mk hit
          have HBI := Aside0.mk hbi
          clear hit hbi
          rw [hitn]
          go_loopg [4] (signs.size + 1) (fun kq v4 wr => ∃ (p : Nat) (acc : ByteArray), v4 = .string acc ∧ Aside0 (p + kq = signs.size + 1 ∧ p ≤ signs.size) ∧ Aside0 (desk_Line.go k conn text n (signs.data.toList.drop p) acc = some rr) ∧ Aside0 (wr.heap[it]? = some (.stringIter signs p)) ∧ Aside0 (Below ws.heap.size ws wr))
          case atStart => exact ⟨0, word, rfl, ⟨by omega, by omega⟩, HGO, ⟨hitn ▸ HIT0.out⟩, HBI⟩
          case round =>
            clear HIT0 HBI HGO hcs hk0 hk1 hk2 hk3
            obtain ⟨p, acc, rfl, HI, HA, HH, HW⟩ := hrel
            cases gk with
            | zero => have := HI.out; omega
            | succ kk =>
              by_cases cp : p < signs.size
              · have hnx : ∀ ty, (Instr.next (.pointer (some ⟨it, 0, none⟩)) true ty).run Try.prog wr = .ok (.tuple #[.bool true, .int .i64 p, .int .i32 (signs[p]'cp).toNat]) (wr.iterAt it signs (p + 1)) := fun ty => Lib.run_next_ascii_at wr it signs p ty HH.out cp (HAS.out p cp)
                have hit2 := Lib.iterAt_heap wr it signs p (p + 1) HH.out
                have HB2 := Aside0.mk (desk_Line.belowIter HW.out (Nat.le_of_eq hitn) signs (p + 1))
                have HIT2 := Aside0.mk hit2
                clear hit2
                have hk1 := (blk_cell (blk_below BX.out HB2.out) 1).trans rfl
                have hk2 := (blk_cell (blk_below BX.out HB2.out) 2).trans rfl
                have hk3 := (blk_cell (blk_below BX.out HB2.out) 3).trans rfl
                have hgo := HA.out
                rw [desk_Line.drop_ signs p cp] at hgo
                obtain ⟨c, hc⟩ : ∃ c, signs[p]'cp = c := ⟨_, rfl⟩
                rw [hc] at hnx hgo
                clear hc
                unfold desk_Line.go at hgo
                obtain ⟨pc, hpc, hgo⟩ := Option.bind_eq_some_iff.mp hgo
                by_cases hsz : acc.size + 1 + pc.size ≤ 100000000
                · rw [if_pos hsz] at hgo
                  have HG2 := Aside0.mk hgo
                  have hz1 : acc.size + 1 ≤ 9223372036854775807 := by omega
                  have hz2 : acc.size + 1 + pc.size ≤ 9223372036854775807 := by omega
                  clear hgo
                  by_cases e1 : c = 99
                  · subst e1
                    have HPR := Aside0.mk (show num_Print.f k conn = some pc by simpa [desk_Line.piece] using hpc)
                    rw [show (((99 : UInt8).toNat : Nat) : Int) = 99 from rfl] at hnx
                    clear hpc
                    go_wp2_with (first | (go_at_call 27; with_reducible refine (num_Print.calls k conn pc _ HPR.out).mono ?_; rintro e w3 ⟨rfl, ⟨nd2, rfl⟩⟩) | fail)
                    go_roundg kk
                    case measure => omega
                    case rel => exact ⟨p + 1, _, rfl, ⟨by have := HI.out; omega, by omega⟩, HG2, ⟨HIT2.out⟩, ⟨pw_below_drewN HB2.out nd2⟩⟩
                  · by_cases e2 : c = 110
                    · subst e2
                      have HPR := Aside0.mk (show num_Print.f k n = some pc by simpa [desk_Line.piece] using hpc)
                      rw [show (((110 : UInt8).toNat : Nat) : Int) = 110 from rfl] at hnx
                      clear hpc
                      go_wp2_with (first | (go_at_call 27; with_reducible refine (num_Print.calls k n pc _ HPR.out).mono ?_; rintro e w3 ⟨rfl, ⟨nd2, rfl⟩⟩) | fail)
                      go_roundg kk
                      case measure => omega
                      case rel => exact ⟨p + 1, _, rfl, ⟨by have := HI.out; omega, by omega⟩, HG2, ⟨HIT2.out⟩, ⟨pw_below_drewN HB2.out nd2⟩⟩
                    · have HPR := Aside0.mk (show desk_Quoted.f k text = some pc by unfold desk_Line.piece at hpc; rw [if_neg e1, if_neg e2] at hpc; exact hpc)
                      have hr1 : ((c.toNat : Int) == 99) = false := by
                        refine beq_eq_false_iff_ne.mpr (fun hh => e1 (UInt8.toNat_inj.mp ?_))
                        show c.toNat = 99
                        omega
                      have hr2 : ((c.toNat : Int) == 110) = false := by
                        refine beq_eq_false_iff_ne.mpr (fun hh => e2 (UInt8.toNat_inj.mp ?_))
                        show c.toNat = 110
                        omega
                      clear hpc
                      obtain ⟨rn, hrn⟩ : ∃ r : Int, (c.toNat : Int) = r := ⟨_, rfl⟩
                      rw [hrn] at hnx hr1 hr2
                      clear hrn
                      go_wp2_with (first | (go_at_call 7; with_reducible refine (desk_Quoted.calls k text pc _ HPR.out).mono ?_; rintro e w3 ⟨rfl, hb3⟩) | fail)
                      go_roundg kk
                      case measure => omega
                      case rel => exact ⟨p + 1, _, rfl, ⟨by have := HI.out; omega, by omega⟩, HG2, ⟨(hb3.block it (Array.getElem?_eq_some_iff.1 HIT2.out).1).trans HIT2.out⟩, ⟨HB2.out.trans (desk_Line.less hb3 HB2.out.size)⟩⟩
                · rw [if_neg hsz] at hgo
                  cases hgo
              · have hnx : ∀ ty, (Instr.next (.pointer (some ⟨it, 0, none⟩)) true ty).run Try.prog wr = .ok (.tuple #[.bool false]) wr := fun ty => Lib.run_next_end_at wr it signs p ty HH.out cp
                have hgo := HA.out
                rw [List.drop_of_length_le (by rw [Array.length_toList]; exact Nat.le_of_not_lt cp)] at hgo
                unfold desk_Line.go at hgo
                injection hgo with hgo
                subst hgo
                go_wp2
                go_ret2
                exact ⟨rfl, HB.out.trans (desk_Line.less HW.out HB.out.size)⟩
        | false =>
          have HQ2 := hq3.resolve_left (by decide)
          have hb3 : (text.toList == ([] : List UInt8)) = true := by simp [HQ2]
          have hb3' : text.toList.isEmpty = true := by simp [HQ2]
          have hb3'' : (text.toList != ([] : List UInt8)) = false := by simp [HQ2]
          clear HQ2 hq3
          go_enter Try.func13, Try.ntmps13
          go_upto_region 3 with (first | (go_at_call 24; with_reducible refine (desk_form.calls kind word signs _ HFORM.out).mono ?_; rintro e w1 ⟨rfl, ⟨nd, rfl⟩⟩) | fail)
          have BX0 := blk_below (blk_new w (.cells #[.int .i64 kind, .int .i64 conn, .string text, .int .i64 n] 30)) (pw_below_drewN (Below.refl _ _) nd)
          have BX1 := blk_alloc BX0 (.cells #[.string signs] 9)
          have BS1 := blk_new ((w.alloc (.cells #[.int .i64 kind, .int .i64 conn, .string text, .int .i64 n] 30)).drewN nd) (.cells #[.string signs] 9)
          have HB1 := below_alloc (pw_below_drewN (below_alloc (Below.refl w.heap.size w) (.cells #[.int .i64 kind, .int .i64 conn, .string text, .int .i64 n] 30)) nd) (.cells #[.string signs] 9)
          rw [show ((w.alloc (.cells #[.int .i64 kind, .int .i64 conn, .string text, .int .i64 n] 30)).drewN nd).heap.size = w.heap.size + 1 by simp] at BS1
          obtain ⟨b0, hb0⟩ : ∃ b, w.heap.size = b := ⟨_, rfl⟩
          obtain ⟨b1, hb1⟩ : ∃ b, w.heap.size + 1 = b := ⟨_, rfl⟩
          rw [hb0] at BX0 BX1
          rw [hb1] at BS1
          rw [hb1, hb0]
          generalize ((w.alloc (.cells #[.int .i64 kind, .int .i64 conn, .string text, .int .i64 n] 30)).drewN nd).alloc (.cells #[.string signs] 9) = ws at BX1 BS1 HB1 ⊢
          have BX := Aside0.mk BX1
          have BS := Aside0.mk BS1
          have HB := Aside0.mk HB1
          clear BX0 BX1 BS1 HB1
          have hcs := (blk_cell BS.out 0).trans rfl
          have hk0 := (blk_cell BX.out 0).trans rfl
          have hk1 := (blk_cell BX.out 1).trans rfl
          have hk2 := (blk_cell BX.out 2).trans rfl
          have hk3 := (blk_cell BX.out 3).trans rfl
          go_upto_region 5 with (first | (go_at_call 25; with_reducible refine (desk_Line.has signs 99 b1 _ hcs).mono ?_; rintro e wq ⟨rfl, hwq⟩; rw [hwq, HH1.out]; clear hwq) | (go_at_call 25; with_reducible refine (desk_Line.has signs 110 b1 _ hcs).mono ?_; rintro e wq ⟨rfl, hwq⟩; rw [hwq, HH2.out]; clear hwq) | (go_at_call 25; with_reducible refine (desk_Line.has signs 116 b1 _ hcs).mono ?_; rintro e wq ⟨rfl, hwq⟩; rw [hwq, HH3.out]; clear hwq) | fail)
          go_wp2
          have hit := World.iter_heap ws signs 0
          have hbi : Below ws.heap.size ws (ws.iter signs 0) := below_alloc (Below.refl ws.heap.size ws) (.stringIter signs 0)
          obtain ⟨it, hitn⟩ : ∃ it, ws.heap.size = it := ⟨_, rfl⟩
          have HIT0 := Aside0.mk hit
          have HBI := Aside0.mk hbi
          clear hit hbi
          rw [hitn]
          go_loopg [4] (signs.size + 1) (fun kq v4 wr => ∃ (p : Nat) (acc : ByteArray), v4 = .string acc ∧ Aside0 (p + kq = signs.size + 1 ∧ p ≤ signs.size) ∧ Aside0 (desk_Line.go k conn text n (signs.data.toList.drop p) acc = some rr) ∧ Aside0 (wr.heap[it]? = some (.stringIter signs p)) ∧ Aside0 (Below ws.heap.size ws wr))
          case atStart => exact ⟨0, word, rfl, ⟨by omega, by omega⟩, HGO, ⟨hitn ▸ HIT0.out⟩, HBI⟩
          case round =>
            clear HIT0 HBI HGO hcs hk0 hk1 hk2 hk3
            obtain ⟨p, acc, rfl, HI, HA, HH, HW⟩ := hrel
            cases gk with
            | zero => have := HI.out; omega
            | succ kk =>
              by_cases cp : p < signs.size
              · have hnx : ∀ ty, (Instr.next (.pointer (some ⟨it, 0, none⟩)) true ty).run Try.prog wr = .ok (.tuple #[.bool true, .int .i64 p, .int .i32 (signs[p]'cp).toNat]) (wr.iterAt it signs (p + 1)) := fun ty => Lib.run_next_ascii_at wr it signs p ty HH.out cp (HAS.out p cp)
                have hit2 := Lib.iterAt_heap wr it signs p (p + 1) HH.out
                have HB2 := Aside0.mk (desk_Line.belowIter HW.out (Nat.le_of_eq hitn) signs (p + 1))
                have HIT2 := Aside0.mk hit2
                clear hit2
                have hk1 := (blk_cell (blk_below BX.out HB2.out) 1).trans rfl
                have hk2 := (blk_cell (blk_below BX.out HB2.out) 2).trans rfl
                have hk3 := (blk_cell (blk_below BX.out HB2.out) 3).trans rfl
                have hgo := HA.out
                rw [desk_Line.drop_ signs p cp] at hgo
                obtain ⟨c, hc⟩ : ∃ c, signs[p]'cp = c := ⟨_, rfl⟩
                rw [hc] at hnx hgo
                clear hc
                unfold desk_Line.go at hgo
                obtain ⟨pc, hpc, hgo⟩ := Option.bind_eq_some_iff.mp hgo
                by_cases hsz : acc.size + 1 + pc.size ≤ 100000000
                · rw [if_pos hsz] at hgo
                  have HG2 := Aside0.mk hgo
                  have hz1 : acc.size + 1 ≤ 9223372036854775807 := by omega
                  have hz2 : acc.size + 1 + pc.size ≤ 9223372036854775807 := by omega
                  clear hgo
                  by_cases e1 : c = 99
                  · subst e1
                    have HPR := Aside0.mk (show num_Print.f k conn = some pc by simpa [desk_Line.piece] using hpc)
                    rw [show (((99 : UInt8).toNat : Nat) : Int) = 99 from rfl] at hnx
                    clear hpc
                    go_wp2_with (first | (go_at_call 27; with_reducible refine (num_Print.calls k conn pc _ HPR.out).mono ?_; rintro e w3 ⟨rfl, ⟨nd2, rfl⟩⟩) | fail)
                    go_roundg kk
                    case measure => omega
                    case rel => exact ⟨p + 1, _, rfl, ⟨by have := HI.out; omega, by omega⟩, HG2, ⟨HIT2.out⟩, ⟨pw_below_drewN HB2.out nd2⟩⟩
                  · by_cases e2 : c = 110
                    · subst e2
                      have HPR := Aside0.mk (show num_Print.f k n = some pc by simpa [desk_Line.piece] using hpc)
                      rw [show (((110 : UInt8).toNat : Nat) : Int) = 110 from rfl] at hnx
                      clear hpc
                      go_wp2_with (first | (go_at_call 27; with_reducible refine (num_Print.calls k n pc _ HPR.out).mono ?_; rintro e w3 ⟨rfl, ⟨nd2, rfl⟩⟩) | fail)
                      go_roundg kk
                      case measure => omega
                      case rel => exact ⟨p + 1, _, rfl, ⟨by have := HI.out; omega, by omega⟩, HG2, ⟨HIT2.out⟩, ⟨pw_below_drewN HB2.out nd2⟩⟩
                    · have HPR := Aside0.mk (show desk_Quoted.f k text = some pc by unfold desk_Line.piece at hpc; rw [if_neg e1, if_neg e2] at hpc; exact hpc)
                      have hr1 : ((c.toNat : Int) == 99) = false := by
                        refine beq_eq_false_iff_ne.mpr (fun hh => e1 (UInt8.toNat_inj.mp ?_))
                        show c.toNat = 99
                        omega
                      have hr2 : ((c.toNat : Int) == 110) = false := by
                        refine beq_eq_false_iff_ne.mpr (fun hh => e2 (UInt8.toNat_inj.mp ?_))
                        show c.toNat = 110
                        omega
                      clear hpc
                      obtain ⟨rn, hrn⟩ : ∃ r : Int, (c.toNat : Int) = r := ⟨_, rfl⟩
                      rw [hrn] at hnx hr1 hr2
                      clear hrn
                      go_wp2_with (first | (go_at_call 7; with_reducible refine (desk_Quoted.calls k text pc _ HPR.out).mono ?_; rintro e w3 ⟨rfl, hb3⟩) | fail)
                      go_roundg kk
                      case measure => omega
                      case rel => exact ⟨p + 1, _, rfl, ⟨by have := HI.out; omega, by omega⟩, HG2, ⟨(hb3.block it (Array.getElem?_eq_some_iff.1 HIT2.out).1).trans HIT2.out⟩, ⟨HB2.out.trans (desk_Line.less hb3 HB2.out.size)⟩⟩
                · rw [if_neg hsz] at hgo
                  cases hgo
              · have hnx : ∀ ty, (Instr.next (.pointer (some ⟨it, 0, none⟩)) true ty).run Try.prog wr = .ok (.tuple #[.bool false]) wr := fun ty => Lib.run_next_end_at wr it signs p ty HH.out cp
                have hgo := HA.out
                rw [List.drop_of_length_le (by rw [Array.length_toList]; exact Nat.le_of_not_lt cp)] at hgo
                unfold desk_Line.go at hgo
                injection hgo with hgo
                subst hgo
                go_wp2
                go_ret2
                exact ⟨rfl, HB.out.trans (desk_Line.less HW.out HB.out.size)⟩
      | false =>
        have HQ1 := hq2.resolve_left (by decide)
        have hb2 : (n != 0) = false := by simp [HQ1]
        have hb2' : (n == 0) = true := by simp [HQ1]
        clear HQ1 hq2
        cases h3 with
        | true =>
          clear hq3
          go_enter Try.func13, Try.ntmps13
          go_upto_region 3 with (first | (go_at_call 24; with_reducible refine (desk_form.calls kind word signs _ HFORM.out).mono ?_; rintro e w1 ⟨rfl, ⟨nd, rfl⟩⟩) | fail)
          have BX0 := blk_below (blk_new w (.cells #[.int .i64 kind, .int .i64 conn, .string text, .int .i64 n] 30)) (pw_below_drewN (Below.refl _ _) nd)
          have BX1 := blk_alloc BX0 (.cells #[.string signs] 9)
          have BS1 := blk_new ((w.alloc (.cells #[.int .i64 kind, .int .i64 conn, .string text, .int .i64 n] 30)).drewN nd) (.cells #[.string signs] 9)
          have HB1 := below_alloc (pw_below_drewN (below_alloc (Below.refl w.heap.size w) (.cells #[.int .i64 kind, .int .i64 conn, .string text, .int .i64 n] 30)) nd) (.cells #[.string signs] 9)
          rw [show ((w.alloc (.cells #[.int .i64 kind, .int .i64 conn, .string text, .int .i64 n] 30)).drewN nd).heap.size = w.heap.size + 1 by simp] at BS1
          obtain ⟨b0, hb0⟩ : ∃ b, w.heap.size = b := ⟨_, rfl⟩
          obtain ⟨b1, hb1⟩ : ∃ b, w.heap.size + 1 = b := ⟨_, rfl⟩
          rw [hb0] at BX0 BX1
          rw [hb1] at BS1
          rw [hb1, hb0]
          generalize ((w.alloc (.cells #[.int .i64 kind, .int .i64 conn, .string text, .int .i64 n] 30)).drewN nd).alloc (.cells #[.string signs] 9) = ws at BX1 BS1 HB1 ⊢
          have BX := Aside0.mk BX1
          have BS := Aside0.mk BS1
          have HB := Aside0.mk HB1
          clear BX0 BX1 BS1 HB1
          have hcs := (blk_cell BS.out 0).trans rfl
          have hk0 := (blk_cell BX.out 0).trans rfl
          have hk1 := (blk_cell BX.out 1).trans rfl
          have hk2 := (blk_cell BX.out 2).trans rfl
          have hk3 := (blk_cell BX.out 3).trans rfl
          go_upto_region 5 with (first | (go_at_call 25; with_reducible refine (desk_Line.has signs 99 b1 _ hcs).mono ?_; rintro e wq ⟨rfl, hwq⟩; rw [hwq, HH1.out]; clear hwq) | (go_at_call 25; with_reducible refine (desk_Line.has signs 110 b1 _ hcs).mono ?_; rintro e wq ⟨rfl, hwq⟩; rw [hwq, HH2.out]; clear hwq) | (go_at_call 25; with_reducible refine (desk_Line.has signs 116 b1 _ hcs).mono ?_; rintro e wq ⟨rfl, hwq⟩; rw [hwq, HH3.out]; clear hwq) | fail)
          go_wp2
          have hit := World.iter_heap ws signs 0
          have hbi : Below ws.heap.size ws (ws.iter signs 0) := below_alloc (Below.refl ws.heap.size ws) (.stringIter signs 0)
          obtain ⟨it, hitn⟩ : ∃ it, ws.heap.size = it := ⟨_, rfl⟩
          have HIT0 := Aside0.mk hit
          have HBI := Aside0.mk hbi
          clear hit hbi
          rw [hitn]
          go_loopg [4] (signs.size + 1) (fun kq v4 wr => ∃ (p : Nat) (acc : ByteArray), v4 = .string acc ∧ Aside0 (p + kq = signs.size + 1 ∧ p ≤ signs.size) ∧ Aside0 (desk_Line.go k conn text n (signs.data.toList.drop p) acc = some rr) ∧ Aside0 (wr.heap[it]? = some (.stringIter signs p)) ∧ Aside0 (Below ws.heap.size ws wr))
          case atStart => exact ⟨0, word, rfl, ⟨by omega, by omega⟩, HGO, ⟨hitn ▸ HIT0.out⟩, HBI⟩
          case round =>
            clear HIT0 HBI HGO hcs hk0 hk1 hk2 hk3
            obtain ⟨p, acc, rfl, HI, HA, HH, HW⟩ := hrel
            cases gk with
            | zero => have := HI.out; omega
            | succ kk =>
              by_cases cp : p < signs.size
              · have hnx : ∀ ty, (Instr.next (.pointer (some ⟨it, 0, none⟩)) true ty).run Try.prog wr = .ok (.tuple #[.bool true, .int .i64 p, .int .i32 (signs[p]'cp).toNat]) (wr.iterAt it signs (p + 1)) := fun ty => Lib.run_next_ascii_at wr it signs p ty HH.out cp (HAS.out p cp)
                have hit2 := Lib.iterAt_heap wr it signs p (p + 1) HH.out
                have HB2 := Aside0.mk (desk_Line.belowIter HW.out (Nat.le_of_eq hitn) signs (p + 1))
                have HIT2 := Aside0.mk hit2
                clear hit2
                have hk1 := (blk_cell (blk_below BX.out HB2.out) 1).trans rfl
                have hk2 := (blk_cell (blk_below BX.out HB2.out) 2).trans rfl
                have hk3 := (blk_cell (blk_below BX.out HB2.out) 3).trans rfl
                have hgo := HA.out
                rw [desk_Line.drop_ signs p cp] at hgo
                obtain ⟨c, hc⟩ : ∃ c, signs[p]'cp = c := ⟨_, rfl⟩
                rw [hc] at hnx hgo
                clear hc
                unfold desk_Line.go at hgo
                obtain ⟨pc, hpc, hgo⟩ := Option.bind_eq_some_iff.mp hgo
                by_cases hsz : acc.size + 1 + pc.size ≤ 100000000
                · rw [if_pos hsz] at hgo
                  have HG2 := Aside0.mk hgo
                  have hz1 : acc.size + 1 ≤ 9223372036854775807 := by omega
                  have hz2 : acc.size + 1 + pc.size ≤ 9223372036854775807 := by omega
                  clear hgo
                  by_cases e1 : c = 99
                  · subst e1
                    have HPR := Aside0.mk (show num_Print.f k conn = some pc by simpa [desk_Line.piece] using hpc)
                    rw [show (((99 : UInt8).toNat : Nat) : Int) = 99 from rfl] at hnx
                    clear hpc
                    go_wp2_with (first | (go_at_call 27; with_reducible refine (num_Print.calls k conn pc _ HPR.out).mono ?_; rintro e w3 ⟨rfl, ⟨nd2, rfl⟩⟩) | fail)
                    go_roundg kk
                    case measure => omega
                    case rel => exact ⟨p + 1, _, rfl, ⟨by have := HI.out; omega, by omega⟩, HG2, ⟨HIT2.out⟩, ⟨pw_below_drewN HB2.out nd2⟩⟩
                  · by_cases e2 : c = 110
                    · subst e2
                      have HPR := Aside0.mk (show num_Print.f k n = some pc by simpa [desk_Line.piece] using hpc)
                      rw [show (((110 : UInt8).toNat : Nat) : Int) = 110 from rfl] at hnx
                      clear hpc
                      go_wp2_with (first | (go_at_call 27; with_reducible refine (num_Print.calls k n pc _ HPR.out).mono ?_; rintro e w3 ⟨rfl, ⟨nd2, rfl⟩⟩) | fail)
                      go_roundg kk
                      case measure => omega
                      case rel => exact ⟨p + 1, _, rfl, ⟨by have := HI.out; omega, by omega⟩, HG2, ⟨HIT2.out⟩, ⟨pw_below_drewN HB2.out nd2⟩⟩
                    · have HPR := Aside0.mk (show desk_Quoted.f k text = some pc by unfold desk_Line.piece at hpc; rw [if_neg e1, if_neg e2] at hpc; exact hpc)
                      have hr1 : ((c.toNat : Int) == 99) = false := by
                        refine beq_eq_false_iff_ne.mpr (fun hh => e1 (UInt8.toNat_inj.mp ?_))
                        show c.toNat = 99
                        omega
                      have hr2 : ((c.toNat : Int) == 110) = false := by
                        refine beq_eq_false_iff_ne.mpr (fun hh => e2 (UInt8.toNat_inj.mp ?_))
                        show c.toNat = 110
                        omega
                      clear hpc
                      obtain ⟨rn, hrn⟩ : ∃ r : Int, (c.toNat : Int) = r := ⟨_, rfl⟩
                      rw [hrn] at hnx hr1 hr2
                      clear hrn
                      go_wp2_with (first | (go_at_call 7; with_reducible refine (desk_Quoted.calls k text pc _ HPR.out).mono ?_; rintro e w3 ⟨rfl, hb3⟩) | fail)
                      go_roundg kk
                      case measure => omega
                      case rel => exact ⟨p + 1, _, rfl, ⟨by have := HI.out; omega, by omega⟩, HG2, ⟨(hb3.block it (Array.getElem?_eq_some_iff.1 HIT2.out).1).trans HIT2.out⟩, ⟨HB2.out.trans (desk_Line.less hb3 HB2.out.size)⟩⟩
                · rw [if_neg hsz] at hgo
                  cases hgo
              · have hnx : ∀ ty, (Instr.next (.pointer (some ⟨it, 0, none⟩)) true ty).run Try.prog wr = .ok (.tuple #[.bool false]) wr := fun ty => Lib.run_next_end_at wr it signs p ty HH.out cp
                have hgo := HA.out
                rw [List.drop_of_length_le (by rw [Array.length_toList]; exact Nat.le_of_not_lt cp)] at hgo
                unfold desk_Line.go at hgo
                injection hgo with hgo
                subst hgo
                go_wp2
                go_ret2
                exact ⟨rfl, HB.out.trans (desk_Line.less HW.out HB.out.size)⟩
        | false =>
          have HQ2 := hq3.resolve_left (by decide)
          have hb3 : (text.toList == ([] : List UInt8)) = true := by simp [HQ2]
          have hb3' : text.toList.isEmpty = true := by simp [HQ2]
          have hb3'' : (text.toList != ([] : List UInt8)) = false := by simp [HQ2]
          clear HQ2 hq3
          go_enter Try.func13, Try.ntmps13
          go_upto_region 3 with (first | (go_at_call 24; with_reducible refine (desk_form.calls kind word signs _ HFORM.out).mono ?_; rintro e w1 ⟨rfl, ⟨nd, rfl⟩⟩) | fail)
          have BX0 := blk_below (blk_new w (.cells #[.int .i64 kind, .int .i64 conn, .string text, .int .i64 n] 30)) (pw_below_drewN (Below.refl _ _) nd)
          have BX1 := blk_alloc BX0 (.cells #[.string signs] 9)
          have BS1 := blk_new ((w.alloc (.cells #[.int .i64 kind, .int .i64 conn, .string text, .int .i64 n] 30)).drewN nd) (.cells #[.string signs] 9)
          have HB1 := below_alloc (pw_below_drewN (below_alloc (Below.refl w.heap.size w) (.cells #[.int .i64 kind, .int .i64 conn, .string text, .int .i64 n] 30)) nd) (.cells #[.string signs] 9)
          rw [show ((w.alloc (.cells #[.int .i64 kind, .int .i64 conn, .string text, .int .i64 n] 30)).drewN nd).heap.size = w.heap.size + 1 by simp] at BS1
          obtain ⟨b0, hb0⟩ : ∃ b, w.heap.size = b := ⟨_, rfl⟩
          obtain ⟨b1, hb1⟩ : ∃ b, w.heap.size + 1 = b := ⟨_, rfl⟩
          rw [hb0] at BX0 BX1
          rw [hb1] at BS1
          rw [hb1, hb0]
          generalize ((w.alloc (.cells #[.int .i64 kind, .int .i64 conn, .string text, .int .i64 n] 30)).drewN nd).alloc (.cells #[.string signs] 9) = ws at BX1 BS1 HB1 ⊢
          have BX := Aside0.mk BX1
          have BS := Aside0.mk BS1
          have HB := Aside0.mk HB1
          clear BX0 BX1 BS1 HB1
          have hcs := (blk_cell BS.out 0).trans rfl
          have hk0 := (blk_cell BX.out 0).trans rfl
          have hk1 := (blk_cell BX.out 1).trans rfl
          have hk2 := (blk_cell BX.out 2).trans rfl
          have hk3 := (blk_cell BX.out 3).trans rfl
          go_upto_region 5 with (first | (go_at_call 25; with_reducible refine (desk_Line.has signs 99 b1 _ hcs).mono ?_; rintro e wq ⟨rfl, hwq⟩; rw [hwq, HH1.out]; clear hwq) | (go_at_call 25; with_reducible refine (desk_Line.has signs 110 b1 _ hcs).mono ?_; rintro e wq ⟨rfl, hwq⟩; rw [hwq, HH2.out]; clear hwq) | (go_at_call 25; with_reducible refine (desk_Line.has signs 116 b1 _ hcs).mono ?_; rintro e wq ⟨rfl, hwq⟩; rw [hwq, HH3.out]; clear hwq) | fail)
          go_wp2
          have hit := World.iter_heap ws signs 0
          have hbi : Below ws.heap.size ws (ws.iter signs 0) := below_alloc (Below.refl ws.heap.size ws) (.stringIter signs 0)
          obtain ⟨it, hitn⟩ : ∃ it, ws.heap.size = it := ⟨_, rfl⟩
          have HIT0 := Aside0.mk hit
          have HBI := Aside0.mk hbi
          clear hit hbi
          rw [hitn]
          go_loopg [4] (signs.size + 1) (fun kq v4 wr => ∃ (p : Nat) (acc : ByteArray), v4 = .string acc ∧ Aside0 (p + kq = signs.size + 1 ∧ p ≤ signs.size) ∧ Aside0 (desk_Line.go k conn text n (signs.data.toList.drop p) acc = some rr) ∧ Aside0 (wr.heap[it]? = some (.stringIter signs p)) ∧ Aside0 (Below ws.heap.size ws wr))
          case atStart => exact ⟨0, word, rfl, ⟨by omega, by omega⟩, HGO, ⟨hitn ▸ HIT0.out⟩, HBI⟩
          case round =>
            clear HIT0 HBI HGO hcs hk0 hk1 hk2 hk3
            obtain ⟨p, acc, rfl, HI, HA, HH, HW⟩ := hrel
            cases gk with
            | zero => have := HI.out; omega
            | succ kk =>
              by_cases cp : p < signs.size
              · have hnx : ∀ ty, (Instr.next (.pointer (some ⟨it, 0, none⟩)) true ty).run Try.prog wr = .ok (.tuple #[.bool true, .int .i64 p, .int .i32 (signs[p]'cp).toNat]) (wr.iterAt it signs (p + 1)) := fun ty => Lib.run_next_ascii_at wr it signs p ty HH.out cp (HAS.out p cp)
                have hit2 := Lib.iterAt_heap wr it signs p (p + 1) HH.out
                have HB2 := Aside0.mk (desk_Line.belowIter HW.out (Nat.le_of_eq hitn) signs (p + 1))
                have HIT2 := Aside0.mk hit2
                clear hit2
                have hk1 := (blk_cell (blk_below BX.out HB2.out) 1).trans rfl
                have hk2 := (blk_cell (blk_below BX.out HB2.out) 2).trans rfl
                have hk3 := (blk_cell (blk_below BX.out HB2.out) 3).trans rfl
                have hgo := HA.out
                rw [desk_Line.drop_ signs p cp] at hgo
                obtain ⟨c, hc⟩ : ∃ c, signs[p]'cp = c := ⟨_, rfl⟩
                rw [hc] at hnx hgo
                clear hc
                unfold desk_Line.go at hgo
                obtain ⟨pc, hpc, hgo⟩ := Option.bind_eq_some_iff.mp hgo
                by_cases hsz : acc.size + 1 + pc.size ≤ 100000000
                · rw [if_pos hsz] at hgo
                  have HG2 := Aside0.mk hgo
                  have hz1 : acc.size + 1 ≤ 9223372036854775807 := by omega
                  have hz2 : acc.size + 1 + pc.size ≤ 9223372036854775807 := by omega
                  clear hgo
                  by_cases e1 : c = 99
                  · subst e1
                    have HPR := Aside0.mk (show num_Print.f k conn = some pc by simpa [desk_Line.piece] using hpc)
                    rw [show (((99 : UInt8).toNat : Nat) : Int) = 99 from rfl] at hnx
                    clear hpc
                    go_wp2_with (first | (go_at_call 27; with_reducible refine (num_Print.calls k conn pc _ HPR.out).mono ?_; rintro e w3 ⟨rfl, ⟨nd2, rfl⟩⟩) | fail)
                    go_roundg kk
                    case measure => omega
                    case rel => exact ⟨p + 1, _, rfl, ⟨by have := HI.out; omega, by omega⟩, HG2, ⟨HIT2.out⟩, ⟨pw_below_drewN HB2.out nd2⟩⟩
                  · by_cases e2 : c = 110
                    · subst e2
                      have HPR := Aside0.mk (show num_Print.f k n = some pc by simpa [desk_Line.piece] using hpc)
                      rw [show (((110 : UInt8).toNat : Nat) : Int) = 110 from rfl] at hnx
                      clear hpc
                      go_wp2_with (first | (go_at_call 27; with_reducible refine (num_Print.calls k n pc _ HPR.out).mono ?_; rintro e w3 ⟨rfl, ⟨nd2, rfl⟩⟩) | fail)
                      go_roundg kk
                      case measure => omega
                      case rel => exact ⟨p + 1, _, rfl, ⟨by have := HI.out; omega, by omega⟩, HG2, ⟨HIT2.out⟩, ⟨pw_below_drewN HB2.out nd2⟩⟩
                    · have HPR := Aside0.mk (show desk_Quoted.f k text = some pc by unfold desk_Line.piece at hpc; rw [if_neg e1, if_neg e2] at hpc; exact hpc)
                      have hr1 : ((c.toNat : Int) == 99) = false := by
                        refine beq_eq_false_iff_ne.mpr (fun hh => e1 (UInt8.toNat_inj.mp ?_))
                        show c.toNat = 99
                        omega
                      have hr2 : ((c.toNat : Int) == 110) = false := by
                        refine beq_eq_false_iff_ne.mpr (fun hh => e2 (UInt8.toNat_inj.mp ?_))
                        show c.toNat = 110
                        omega
                      clear hpc
                      obtain ⟨rn, hrn⟩ : ∃ r : Int, (c.toNat : Int) = r := ⟨_, rfl⟩
                      rw [hrn] at hnx hr1 hr2
                      clear hrn
                      go_wp2_with (first | (go_at_call 7; with_reducible refine (desk_Quoted.calls k text pc _ HPR.out).mono ?_; rintro e w3 ⟨rfl, hb3⟩) | fail)
                      go_roundg kk
                      case measure => omega
                      case rel => exact ⟨p + 1, _, rfl, ⟨by have := HI.out; omega, by omega⟩, HG2, ⟨(hb3.block it (Array.getElem?_eq_some_iff.1 HIT2.out).1).trans HIT2.out⟩, ⟨HB2.out.trans (desk_Line.less hb3 HB2.out.size)⟩⟩
                · rw [if_neg hsz] at hgo
                  cases hgo
              · have hnx : ∀ ty, (Instr.next (.pointer (some ⟨it, 0, none⟩)) true ty).run Try.prog wr = .ok (.tuple #[.bool false]) wr := fun ty => Lib.run_next_end_at wr it signs p ty HH.out cp
                have hgo := HA.out
                rw [List.drop_of_length_le (by rw [Array.length_toList]; exact Nat.le_of_not_lt cp)] at hgo
                unfold desk_Line.go at hgo
                injection hgo with hgo
                subst hgo
                go_wp2
                go_ret2
                exact ⟨rfl, HB.out.trans (desk_Line.less HW.out HB.out.size)⟩
    | false =>
      have HQ0 := hq1.resolve_left (by decide)
      have hb1 : (conn != 0) = false := by simp [HQ0]
      have hb1' : (conn == 0) = true := by simp [HQ0]
      clear HQ0 hq1
      cases h2 with
      | true =>
        clear hq2
        cases h3 with
        | true =>
          clear hq3
          go_enter Try.func13, Try.ntmps13
          go_upto_region 3 with (first | (go_at_call 24; with_reducible refine (desk_form.calls kind word signs _ HFORM.out).mono ?_; rintro e w1 ⟨rfl, ⟨nd, rfl⟩⟩) | fail)
          have BX0 := blk_below (blk_new w (.cells #[.int .i64 kind, .int .i64 conn, .string text, .int .i64 n] 30)) (pw_below_drewN (Below.refl _ _) nd)
          have BX1 := blk_alloc BX0 (.cells #[.string signs] 9)
          have BS1 := blk_new ((w.alloc (.cells #[.int .i64 kind, .int .i64 conn, .string text, .int .i64 n] 30)).drewN nd) (.cells #[.string signs] 9)
          have HB1 := below_alloc (pw_below_drewN (below_alloc (Below.refl w.heap.size w) (.cells #[.int .i64 kind, .int .i64 conn, .string text, .int .i64 n] 30)) nd) (.cells #[.string signs] 9)
          rw [show ((w.alloc (.cells #[.int .i64 kind, .int .i64 conn, .string text, .int .i64 n] 30)).drewN nd).heap.size = w.heap.size + 1 by simp] at BS1
          obtain ⟨b0, hb0⟩ : ∃ b, w.heap.size = b := ⟨_, rfl⟩
          obtain ⟨b1, hb1⟩ : ∃ b, w.heap.size + 1 = b := ⟨_, rfl⟩
          rw [hb0] at BX0 BX1
          rw [hb1] at BS1
          rw [hb1, hb0]
          generalize ((w.alloc (.cells #[.int .i64 kind, .int .i64 conn, .string text, .int .i64 n] 30)).drewN nd).alloc (.cells #[.string signs] 9) = ws at BX1 BS1 HB1 ⊢
          have BX := Aside0.mk BX1
          have BS := Aside0.mk BS1
          have HB := Aside0.mk HB1
          clear BX0 BX1 BS1 HB1
          have hcs := (blk_cell BS.out 0).trans rfl
          have hk0 := (blk_cell BX.out 0).trans rfl
          have hk1 := (blk_cell BX.out 1).trans rfl
          have hk2 := (blk_cell BX.out 2).trans rfl
          have hk3 := (blk_cell BX.out 3).trans rfl
          go_upto_region 5 with (first | (go_at_call 25; with_reducible refine (desk_Line.has signs 99 b1 _ hcs).mono ?_; rintro e wq ⟨rfl, hwq⟩; rw [hwq, HH1.out]; clear hwq) | (go_at_call 25; with_reducible refine (desk_Line.has signs 110 b1 _ hcs).mono ?_; rintro e wq ⟨rfl, hwq⟩; rw [hwq, HH2.out]; clear hwq) | (go_at_call 25; with_reducible refine (desk_Line.has signs 116 b1 _ hcs).mono ?_; rintro e wq ⟨rfl, hwq⟩; rw [hwq, HH3.out]; clear hwq) | fail)
          go_wp2
          have hit := World.iter_heap ws signs 0
          have hbi : Below ws.heap.size ws (ws.iter signs 0) := below_alloc (Below.refl ws.heap.size ws) (.stringIter signs 0)
          obtain ⟨it, hitn⟩ : ∃ it, ws.heap.size = it := ⟨_, rfl⟩
          have HIT0 := Aside0.mk hit
          have HBI := Aside0.mk hbi
          clear hit hbi
          rw [hitn]
          go_loopg [4] (signs.size + 1) (fun kq v4 wr => ∃ (p : Nat) (acc : ByteArray), v4 = .string acc ∧ Aside0 (p + kq = signs.size + 1 ∧ p ≤ signs.size) ∧ Aside0 (desk_Line.go k conn text n (signs.data.toList.drop p) acc = some rr) ∧ Aside0 (wr.heap[it]? = some (.stringIter signs p)) ∧ Aside0 (Below ws.heap.size ws wr))
          case atStart => exact ⟨0, word, rfl, ⟨by omega, by omega⟩, HGO, ⟨hitn ▸ HIT0.out⟩, HBI⟩
          case round =>
            clear HIT0 HBI HGO hcs hk0 hk1 hk2 hk3
            obtain ⟨p, acc, rfl, HI, HA, HH, HW⟩ := hrel
            cases gk with
            | zero => have := HI.out; omega
            | succ kk =>
              by_cases cp : p < signs.size
              · have hnx : ∀ ty, (Instr.next (.pointer (some ⟨it, 0, none⟩)) true ty).run Try.prog wr = .ok (.tuple #[.bool true, .int .i64 p, .int .i32 (signs[p]'cp).toNat]) (wr.iterAt it signs (p + 1)) := fun ty => Lib.run_next_ascii_at wr it signs p ty HH.out cp (HAS.out p cp)
                have hit2 := Lib.iterAt_heap wr it signs p (p + 1) HH.out
                have HB2 := Aside0.mk (desk_Line.belowIter HW.out (Nat.le_of_eq hitn) signs (p + 1))
                have HIT2 := Aside0.mk hit2
                clear hit2
                have hk1 := (blk_cell (blk_below BX.out HB2.out) 1).trans rfl
                have hk2 := (blk_cell (blk_below BX.out HB2.out) 2).trans rfl
                have hk3 := (blk_cell (blk_below BX.out HB2.out) 3).trans rfl
                have hgo := HA.out
                rw [desk_Line.drop_ signs p cp] at hgo
                obtain ⟨c, hc⟩ : ∃ c, signs[p]'cp = c := ⟨_, rfl⟩
                rw [hc] at hnx hgo
                clear hc
                unfold desk_Line.go at hgo
                obtain ⟨pc, hpc, hgo⟩ := Option.bind_eq_some_iff.mp hgo
                by_cases hsz : acc.size + 1 + pc.size ≤ 100000000
                · rw [if_pos hsz] at hgo
                  have HG2 := Aside0.mk hgo
                  have hz1 : acc.size + 1 ≤ 9223372036854775807 := by omega
                  have hz2 : acc.size + 1 + pc.size ≤ 9223372036854775807 := by omega
                  clear hgo
                  by_cases e1 : c = 99
                  · subst e1
                    have HPR := Aside0.mk (show num_Print.f k conn = some pc by simpa [desk_Line.piece] using hpc)
                    rw [show (((99 : UInt8).toNat : Nat) : Int) = 99 from rfl] at hnx
                    clear hpc
                    go_wp2_with (first | (go_at_call 27; with_reducible refine (num_Print.calls k conn pc _ HPR.out).mono ?_; rintro e w3 ⟨rfl, ⟨nd2, rfl⟩⟩) | fail)
                    go_roundg kk
                    case measure => omega
                    case rel => exact ⟨p + 1, _, rfl, ⟨by have := HI.out; omega, by omega⟩, HG2, ⟨HIT2.out⟩, ⟨pw_below_drewN HB2.out nd2⟩⟩
                  · by_cases e2 : c = 110
                    · subst e2
                      have HPR := Aside0.mk (show num_Print.f k n = some pc by simpa [desk_Line.piece] using hpc)
                      rw [show (((110 : UInt8).toNat : Nat) : Int) = 110 from rfl] at hnx
                      clear hpc
                      go_wp2_with (first | (go_at_call 27; with_reducible refine (num_Print.calls k n pc _ HPR.out).mono ?_; rintro e w3 ⟨rfl, ⟨nd2, rfl⟩⟩) | fail)
                      go_roundg kk
                      case measure => omega
                      case rel => exact ⟨p + 1, _, rfl, ⟨by have := HI.out; omega, by omega⟩, HG2, ⟨HIT2.out⟩, ⟨pw_below_drewN HB2.out nd2⟩⟩
                    · have HPR := Aside0.mk (show desk_Quoted.f k text = some pc by unfold desk_Line.piece at hpc; rw [if_neg e1, if_neg e2] at hpc; exact hpc)
                      have hr1 : ((c.toNat : Int) == 99) = false := by
                        refine beq_eq_false_iff_ne.mpr (fun hh => e1 (UInt8.toNat_inj.mp ?_))
                        show c.toNat = 99
                        omega
                      have hr2 : ((c.toNat : Int) == 110) = false := by
                        refine beq_eq_false_iff_ne.mpr (fun hh => e2 (UInt8.toNat_inj.mp ?_))
                        show c.toNat = 110
                        omega
                      clear hpc
                      obtain ⟨rn, hrn⟩ : ∃ r : Int, (c.toNat : Int) = r := ⟨_, rfl⟩
                      rw [hrn] at hnx hr1 hr2
                      clear hrn
                      go_wp2_with (first | (go_at_call 7; with_reducible refine (desk_Quoted.calls k text pc _ HPR.out).mono ?_; rintro e w3 ⟨rfl, hb3⟩) | fail)
                      go_roundg kk
                      case measure => omega
                      case rel => exact ⟨p + 1, _, rfl, ⟨by have := HI.out; omega, by omega⟩, HG2, ⟨(hb3.block it (Array.getElem?_eq_some_iff.1 HIT2.out).1).trans HIT2.out⟩, ⟨HB2.out.trans (desk_Line.less hb3 HB2.out.size)⟩⟩
                · rw [if_neg hsz] at hgo
                  cases hgo
              · have hnx : ∀ ty, (Instr.next (.pointer (some ⟨it, 0, none⟩)) true ty).run Try.prog wr = .ok (.tuple #[.bool false]) wr := fun ty => Lib.run_next_end_at wr it signs p ty HH.out cp
                have hgo := HA.out
                rw [List.drop_of_length_le (by rw [Array.length_toList]; exact Nat.le_of_not_lt cp)] at hgo
                unfold desk_Line.go at hgo
                injection hgo with hgo
                subst hgo
                go_wp2
                go_ret2
                exact ⟨rfl, HB.out.trans (desk_Line.less HW.out HB.out.size)⟩
        | false =>
          have HQ2 := hq3.resolve_left (by decide)
          have hb3 : (text.toList == ([] : List UInt8)) = true := by simp [HQ2]
          have hb3' : text.toList.isEmpty = true := by simp [HQ2]
          have hb3'' : (text.toList != ([] : List UInt8)) = false := by simp [HQ2]
          clear HQ2 hq3
          go_enter Try.func13, Try.ntmps13
          go_upto_region 3 with (first | (go_at_call 24; with_reducible refine (desk_form.calls kind word signs _ HFORM.out).mono ?_; rintro e w1 ⟨rfl, ⟨nd, rfl⟩⟩) | fail)
          have BX0 := blk_below (blk_new w (.cells #[.int .i64 kind, .int .i64 conn, .string text, .int .i64 n] 30)) (pw_below_drewN (Below.refl _ _) nd)
          have BX1 := blk_alloc BX0 (.cells #[.string signs] 9)
          have BS1 := blk_new ((w.alloc (.cells #[.int .i64 kind, .int .i64 conn, .string text, .int .i64 n] 30)).drewN nd) (.cells #[.string signs] 9)
          have HB1 := below_alloc (pw_below_drewN (below_alloc (Below.refl w.heap.size w) (.cells #[.int .i64 kind, .int .i64 conn, .string text, .int .i64 n] 30)) nd) (.cells #[.string signs] 9)
          rw [show ((w.alloc (.cells #[.int .i64 kind, .int .i64 conn, .string text, .int .i64 n] 30)).drewN nd).heap.size = w.heap.size + 1 by simp] at BS1
          obtain ⟨b0, hb0⟩ : ∃ b, w.heap.size = b := ⟨_, rfl⟩
          obtain ⟨b1, hb1⟩ : ∃ b, w.heap.size + 1 = b := ⟨_, rfl⟩
          rw [hb0] at BX0 BX1
          rw [hb1] at BS1
          rw [hb1, hb0]
          generalize ((w.alloc (.cells #[.int .i64 kind, .int .i64 conn, .string text, .int .i64 n] 30)).drewN nd).alloc (.cells #[.string signs] 9) = ws at BX1 BS1 HB1 ⊢
          have BX := Aside0.mk BX1
          have BS := Aside0.mk BS1
          have HB := Aside0.mk HB1
          clear BX0 BX1 BS1 HB1
          have hcs := (blk_cell BS.out 0).trans rfl
          have hk0 := (blk_cell BX.out 0).trans rfl
          have hk1 := (blk_cell BX.out 1).trans rfl
          have hk2 := (blk_cell BX.out 2).trans rfl
          have hk3 := (blk_cell BX.out 3).trans rfl
          go_upto_region 5 with (first | (go_at_call 25; with_reducible refine (desk_Line.has signs 99 b1 _ hcs).mono ?_; rintro e wq ⟨rfl, hwq⟩; rw [hwq, HH1.out]; clear hwq) | (go_at_call 25; with_reducible refine (desk_Line.has signs 110 b1 _ hcs).mono ?_; rintro e wq ⟨rfl, hwq⟩; rw [hwq, HH2.out]; clear hwq) | (go_at_call 25; with_reducible refine (desk_Line.has signs 116 b1 _ hcs).mono ?_; rintro e wq ⟨rfl, hwq⟩; rw [hwq, HH3.out]; clear hwq) | fail)
          go_wp2
          have hit := World.iter_heap ws signs 0
          have hbi : Below ws.heap.size ws (ws.iter signs 0) := below_alloc (Below.refl ws.heap.size ws) (.stringIter signs 0)
          obtain ⟨it, hitn⟩ : ∃ it, ws.heap.size = it := ⟨_, rfl⟩
          have HIT0 := Aside0.mk hit
          have HBI := Aside0.mk hbi
          clear hit hbi
          rw [hitn]
          go_loopg [4] (signs.size + 1) (fun kq v4 wr => ∃ (p : Nat) (acc : ByteArray), v4 = .string acc ∧ Aside0 (p + kq = signs.size + 1 ∧ p ≤ signs.size) ∧ Aside0 (desk_Line.go k conn text n (signs.data.toList.drop p) acc = some rr) ∧ Aside0 (wr.heap[it]? = some (.stringIter signs p)) ∧ Aside0 (Below ws.heap.size ws wr))
          case atStart => exact ⟨0, word, rfl, ⟨by omega, by omega⟩, HGO, ⟨hitn ▸ HIT0.out⟩, HBI⟩
          case round =>
            clear HIT0 HBI HGO hcs hk0 hk1 hk2 hk3
            obtain ⟨p, acc, rfl, HI, HA, HH, HW⟩ := hrel
            cases gk with
            | zero => have := HI.out; omega
            | succ kk =>
              by_cases cp : p < signs.size
              · have hnx : ∀ ty, (Instr.next (.pointer (some ⟨it, 0, none⟩)) true ty).run Try.prog wr = .ok (.tuple #[.bool true, .int .i64 p, .int .i32 (signs[p]'cp).toNat]) (wr.iterAt it signs (p + 1)) := fun ty => Lib.run_next_ascii_at wr it signs p ty HH.out cp (HAS.out p cp)
                have hit2 := Lib.iterAt_heap wr it signs p (p + 1) HH.out
                have HB2 := Aside0.mk (desk_Line.belowIter HW.out (Nat.le_of_eq hitn) signs (p + 1))
                have HIT2 := Aside0.mk hit2
                clear hit2
                have hk1 := (blk_cell (blk_below BX.out HB2.out) 1).trans rfl
                have hk2 := (blk_cell (blk_below BX.out HB2.out) 2).trans rfl
                have hk3 := (blk_cell (blk_below BX.out HB2.out) 3).trans rfl
                have hgo := HA.out
                rw [desk_Line.drop_ signs p cp] at hgo
                obtain ⟨c, hc⟩ : ∃ c, signs[p]'cp = c := ⟨_, rfl⟩
                rw [hc] at hnx hgo
                clear hc
                unfold desk_Line.go at hgo
                obtain ⟨pc, hpc, hgo⟩ := Option.bind_eq_some_iff.mp hgo
                by_cases hsz : acc.size + 1 + pc.size ≤ 100000000
                · rw [if_pos hsz] at hgo
                  have HG2 := Aside0.mk hgo
                  have hz1 : acc.size + 1 ≤ 9223372036854775807 := by omega
                  have hz2 : acc.size + 1 + pc.size ≤ 9223372036854775807 := by omega
                  clear hgo
                  by_cases e1 : c = 99
                  · subst e1
                    have HPR := Aside0.mk (show num_Print.f k conn = some pc by simpa [desk_Line.piece] using hpc)
                    rw [show (((99 : UInt8).toNat : Nat) : Int) = 99 from rfl] at hnx
                    clear hpc
                    go_wp2_with (first | (go_at_call 27; with_reducible refine (num_Print.calls k conn pc _ HPR.out).mono ?_; rintro e w3 ⟨rfl, ⟨nd2, rfl⟩⟩) | fail)
                    go_roundg kk
                    case measure => omega
                    case rel => exact ⟨p + 1, _, rfl, ⟨by have := HI.out; omega, by omega⟩, HG2, ⟨HIT2.out⟩, ⟨pw_below_drewN HB2.out nd2⟩⟩
                  · by_cases e2 : c = 110
                    · subst e2
                      have HPR := Aside0.mk (show num_Print.f k n = some pc by simpa [desk_Line.piece] using hpc)
                      rw [show (((110 : UInt8).toNat : Nat) : Int) = 110 from rfl] at hnx
                      clear hpc
                      go_wp2_with (first | (go_at_call 27; with_reducible refine (num_Print.calls k n pc _ HPR.out).mono ?_; rintro e w3 ⟨rfl, ⟨nd2, rfl⟩⟩) | fail)
                      go_roundg kk
                      case measure => omega
                      case rel => exact ⟨p + 1, _, rfl, ⟨by have := HI.out; omega, by omega⟩, HG2, ⟨HIT2.out⟩, ⟨pw_below_drewN HB2.out nd2⟩⟩
                    · have HPR := Aside0.mk (show desk_Quoted.f k text = some pc by unfold desk_Line.piece at hpc; rw [if_neg e1, if_neg e2] at hpc; exact hpc)
                      have hr1 : ((c.toNat : Int) == 99) = false := by
                        refine beq_eq_false_iff_ne.mpr (fun hh => e1 (UInt8.toNat_inj.mp ?_))
                        show c.toNat = 99
                        omega
                      have hr2 : ((c.toNat : Int) == 110) = false := by
                        refine beq_eq_false_iff_ne.mpr (fun hh => e2 (UInt8.toNat_inj.mp ?_))
                        show c.toNat = 110
                        omega
                      clear hpc
                      obtain ⟨rn, hrn⟩ : ∃ r : Int, (c.toNat : Int) = r := ⟨_, rfl⟩
                      rw [hrn] at hnx hr1 hr2
                      clear hrn
                      go_wp2_with (first | (go_at_call 7; with_reducible refine (desk_Quoted.calls k text pc _ HPR.out).mono ?_; rintro e w3 ⟨rfl, hb3⟩) | fail)
                      go_roundg kk
                      case measure => omega
                      case rel => exact ⟨p + 1, _, rfl, ⟨by have := HI.out; omega, by omega⟩, HG2, ⟨(hb3.block it (Array.getElem?_eq_some_iff.1 HIT2.out).1).trans HIT2.out⟩, ⟨HB2.out.trans (desk_Line.less hb3 HB2.out.size)⟩⟩
                · rw [if_neg hsz] at hgo
                  cases hgo
              · have hnx : ∀ ty, (Instr.next (.pointer (some ⟨it, 0, none⟩)) true ty).run Try.prog wr = .ok (.tuple #[.bool false]) wr := fun ty => Lib.run_next_end_at wr it signs p ty HH.out cp
                have hgo := HA.out
                rw [List.drop_of_length_le (by rw [Array.length_toList]; exact Nat.le_of_not_lt cp)] at hgo
                unfold desk_Line.go at hgo
                injection hgo with hgo
                subst hgo
                go_wp2
                go_ret2
                exact ⟨rfl, HB.out.trans (desk_Line.less HW.out HB.out.size)⟩
      | false =>
        have HQ1 := hq2.resolve_left (by decide)
        have hb2 : (n != 0) = false := by simp [HQ1]
        have hb2' : (n == 0) = true := by simp [HQ1]
        clear HQ1 hq2
        cases h3 with
        | true =>
          clear hq3
          go_enter Try.func13, Try.ntmps13
          go_upto_region 3 with (first | (go_at_call 24; with_reducible refine (desk_form.calls kind word signs _ HFORM.out).mono ?_; rintro e w1 ⟨rfl, ⟨nd, rfl⟩⟩) | fail)
          have BX0 := blk_below (blk_new w (.cells #[.int .i64 kind, .int .i64 conn, .string text, .int .i64 n] 30)) (pw_below_drewN (Below.refl _ _) nd)
          have BX1 := blk_alloc BX0 (.cells #[.string signs] 9)
          have BS1 := blk_new ((w.alloc (.cells #[.int .i64 kind, .int .i64 conn, .string text, .int .i64 n] 30)).drewN nd) (.cells #[.string signs] 9)
          have HB1 := below_alloc (pw_below_drewN (below_alloc (Below.refl w.heap.size w) (.cells #[.int .i64 kind, .int .i64 conn, .string text, .int .i64 n] 30)) nd) (.cells #[.string signs] 9)
          rw [show ((w.alloc (.cells #[.int .i64 kind, .int .i64 conn, .string text, .int .i64 n] 30)).drewN nd).heap.size = w.heap.size + 1 by simp] at BS1
          obtain ⟨b0, hb0⟩ : ∃ b, w.heap.size = b := ⟨_, rfl⟩
          obtain ⟨b1, hb1⟩ : ∃ b, w.heap.size + 1 = b := ⟨_, rfl⟩
          rw [hb0] at BX0 BX1
          rw [hb1] at BS1
          rw [hb1, hb0]
          generalize ((w.alloc (.cells #[.int .i64 kind, .int .i64 conn, .string text, .int .i64 n] 30)).drewN nd).alloc (.cells #[.string signs] 9) = ws at BX1 BS1 HB1 ⊢
          have BX := Aside0.mk BX1
          have BS := Aside0.mk BS1
          have HB := Aside0.mk HB1
          clear BX0 BX1 BS1 HB1
          have hcs := (blk_cell BS.out 0).trans rfl
          have hk0 := (blk_cell BX.out 0).trans rfl
          have hk1 := (blk_cell BX.out 1).trans rfl
          have hk2 := (blk_cell BX.out 2).trans rfl
          have hk3 := (blk_cell BX.out 3).trans rfl
          go_upto_region 5 with (first | (go_at_call 25; with_reducible refine (desk_Line.has signs 99 b1 _ hcs).mono ?_; rintro e wq ⟨rfl, hwq⟩; rw [hwq, HH1.out]; clear hwq) | (go_at_call 25; with_reducible refine (desk_Line.has signs 110 b1 _ hcs).mono ?_; rintro e wq ⟨rfl, hwq⟩; rw [hwq, HH2.out]; clear hwq) | (go_at_call 25; with_reducible refine (desk_Line.has signs 116 b1 _ hcs).mono ?_; rintro e wq ⟨rfl, hwq⟩; rw [hwq, HH3.out]; clear hwq) | fail)
          go_wp2
          have hit := World.iter_heap ws signs 0
          have hbi : Below ws.heap.size ws (ws.iter signs 0) := below_alloc (Below.refl ws.heap.size ws) (.stringIter signs 0)
          obtain ⟨it, hitn⟩ : ∃ it, ws.heap.size = it := ⟨_, rfl⟩
          have HIT0 := Aside0.mk hit
          have HBI := Aside0.mk hbi
          clear hit hbi
          rw [hitn]
          go_loopg [4] (signs.size + 1) (fun kq v4 wr => ∃ (p : Nat) (acc : ByteArray), v4 = .string acc ∧ Aside0 (p + kq = signs.size + 1 ∧ p ≤ signs.size) ∧ Aside0 (desk_Line.go k conn text n (signs.data.toList.drop p) acc = some rr) ∧ Aside0 (wr.heap[it]? = some (.stringIter signs p)) ∧ Aside0 (Below ws.heap.size ws wr))
          case atStart => exact ⟨0, word, rfl, ⟨by omega, by omega⟩, HGO, ⟨hitn ▸ HIT0.out⟩, HBI⟩
          case round =>
            clear HIT0 HBI HGO hcs hk0 hk1 hk2 hk3
            obtain ⟨p, acc, rfl, HI, HA, HH, HW⟩ := hrel
            cases gk with
            | zero => have := HI.out; omega
            | succ kk =>
              by_cases cp : p < signs.size
              · have hnx : ∀ ty, (Instr.next (.pointer (some ⟨it, 0, none⟩)) true ty).run Try.prog wr = .ok (.tuple #[.bool true, .int .i64 p, .int .i32 (signs[p]'cp).toNat]) (wr.iterAt it signs (p + 1)) := fun ty => Lib.run_next_ascii_at wr it signs p ty HH.out cp (HAS.out p cp)
                have hit2 := Lib.iterAt_heap wr it signs p (p + 1) HH.out
                have HB2 := Aside0.mk (desk_Line.belowIter HW.out (Nat.le_of_eq hitn) signs (p + 1))
                have HIT2 := Aside0.mk hit2
                clear hit2
                have hk1 := (blk_cell (blk_below BX.out HB2.out) 1).trans rfl
                have hk2 := (blk_cell (blk_below BX.out HB2.out) 2).trans rfl
                have hk3 := (blk_cell (blk_below BX.out HB2.out) 3).trans rfl
                have hgo := HA.out
                rw [desk_Line.drop_ signs p cp] at hgo
                obtain ⟨c, hc⟩ : ∃ c, signs[p]'cp = c := ⟨_, rfl⟩
                rw [hc] at hnx hgo
                clear hc
                unfold desk_Line.go at hgo
                obtain ⟨pc, hpc, hgo⟩ := Option.bind_eq_some_iff.mp hgo
                by_cases hsz : acc.size + 1 + pc.size ≤ 100000000
                · rw [if_pos hsz] at hgo
                  have HG2 := Aside0.mk hgo
                  have hz1 : acc.size + 1 ≤ 9223372036854775807 := by omega
                  have hz2 : acc.size + 1 + pc.size ≤ 9223372036854775807 := by omega
                  clear hgo
                  by_cases e1 : c = 99
                  · subst e1
                    have HPR := Aside0.mk (show num_Print.f k conn = some pc by simpa [desk_Line.piece] using hpc)
                    rw [show (((99 : UInt8).toNat : Nat) : Int) = 99 from rfl] at hnx
                    clear hpc
                    go_wp2_with (first | (go_at_call 27; with_reducible refine (num_Print.calls k conn pc _ HPR.out).mono ?_; rintro e w3 ⟨rfl, ⟨nd2, rfl⟩⟩) | fail)
                    go_roundg kk
                    case measure => omega
                    case rel => exact ⟨p + 1, _, rfl, ⟨by have := HI.out; omega, by omega⟩, HG2, ⟨HIT2.out⟩, ⟨pw_below_drewN HB2.out nd2⟩⟩
                  · by_cases e2 : c = 110
                    · subst e2
                      have HPR := Aside0.mk (show num_Print.f k n = some pc by simpa [desk_Line.piece] using hpc)
                      rw [show (((110 : UInt8).toNat : Nat) : Int) = 110 from rfl] at hnx
                      clear hpc
                      go_wp2_with (first | (go_at_call 27; with_reducible refine (num_Print.calls k n pc _ HPR.out).mono ?_; rintro e w3 ⟨rfl, ⟨nd2, rfl⟩⟩) | fail)
                      go_roundg kk
                      case measure => omega
                      case rel => exact ⟨p + 1, _, rfl, ⟨by have := HI.out; omega, by omega⟩, HG2, ⟨HIT2.out⟩, ⟨pw_below_drewN HB2.out nd2⟩⟩
                    · have HPR := Aside0.mk (show desk_Quoted.f k text = some pc by unfold desk_Line.piece at hpc; rw [if_neg e1, if_neg e2] at hpc; exact hpc)
                      have hr1 : ((c.toNat : Int) == 99) = false := by
                        refine beq_eq_false_iff_ne.mpr (fun hh => e1 (UInt8.toNat_inj.mp ?_))
                        show c.toNat = 99
                        omega
                      have hr2 : ((c.toNat : Int) == 110) = false := by
                        refine beq_eq_false_iff_ne.mpr (fun hh => e2 (UInt8.toNat_inj.mp ?_))
                        show c.toNat = 110
                        omega
                      clear hpc
                      obtain ⟨rn, hrn⟩ : ∃ r : Int, (c.toNat : Int) = r := ⟨_, rfl⟩
                      rw [hrn] at hnx hr1 hr2
                      clear hrn
                      go_wp2_with (first | (go_at_call 7; with_reducible refine (desk_Quoted.calls k text pc _ HPR.out).mono ?_; rintro e w3 ⟨rfl, hb3⟩) | fail)
                      go_roundg kk
                      case measure => omega
                      case rel => exact ⟨p + 1, _, rfl, ⟨by have := HI.out; omega, by omega⟩, HG2, ⟨(hb3.block it (Array.getElem?_eq_some_iff.1 HIT2.out).1).trans HIT2.out⟩, ⟨HB2.out.trans (desk_Line.less hb3 HB2.out.size)⟩⟩
                · rw [if_neg hsz] at hgo
                  cases hgo
              · have hnx : ∀ ty, (Instr.next (.pointer (some ⟨it, 0, none⟩)) true ty).run Try.prog wr = .ok (.tuple #[.bool false]) wr := fun ty => Lib.run_next_end_at wr it signs p ty HH.out cp
                have hgo := HA.out
                rw [List.drop_of_length_le (by rw [Array.length_toList]; exact Nat.le_of_not_lt cp)] at hgo
                unfold desk_Line.go at hgo
                injection hgo with hgo
                subst hgo
                go_wp2
                go_ret2
                exact ⟨rfl, HB.out.trans (desk_Line.less HW.out HB.out.size)⟩
        | false =>
          have HQ2 := hq3.resolve_left (by decide)
          have hb3 : (text.toList == ([] : List UInt8)) = true := by simp [HQ2]
          have hb3' : text.toList.isEmpty = true := by simp [HQ2]
          have hb3'' : (text.toList != ([] : List UInt8)) = false := by simp [HQ2]
          clear HQ2 hq3
          go_enter Try.func13, Try.ntmps13
          go_upto_region 3 with (first | (go_at_call 24; with_reducible refine (desk_form.calls kind word signs _ HFORM.out).mono ?_; rintro e w1 ⟨rfl, ⟨nd, rfl⟩⟩) | fail)
          have BX0 := blk_below (blk_new w (.cells #[.int .i64 kind, .int .i64 conn, .string text, .int .i64 n] 30)) (pw_below_drewN (Below.refl _ _) nd)
          have BX1 := blk_alloc BX0 (.cells #[.string signs] 9)
          have BS1 := blk_new ((w.alloc (.cells #[.int .i64 kind, .int .i64 conn, .string text, .int .i64 n] 30)).drewN nd) (.cells #[.string signs] 9)
          have HB1 := below_alloc (pw_below_drewN (below_alloc (Below.refl w.heap.size w) (.cells #[.int .i64 kind, .int .i64 conn, .string text, .int .i64 n] 30)) nd) (.cells #[.string signs] 9)
          rw [show ((w.alloc (.cells #[.int .i64 kind, .int .i64 conn, .string text, .int .i64 n] 30)).drewN nd).heap.size = w.heap.size + 1 by simp] at BS1
          obtain ⟨b0, hb0⟩ : ∃ b, w.heap.size = b := ⟨_, rfl⟩
          obtain ⟨b1, hb1⟩ : ∃ b, w.heap.size + 1 = b := ⟨_, rfl⟩
          rw [hb0] at BX0 BX1
          rw [hb1] at BS1
          rw [hb1, hb0]
          generalize ((w.alloc (.cells #[.int .i64 kind, .int .i64 conn, .string text, .int .i64 n] 30)).drewN nd).alloc (.cells #[.string signs] 9) = ws at BX1 BS1 HB1 ⊢
          have BX := Aside0.mk BX1
          have BS := Aside0.mk BS1
          have HB := Aside0.mk HB1
          clear BX0 BX1 BS1 HB1
          have hcs := (blk_cell BS.out 0).trans rfl
          have hk0 := (blk_cell BX.out 0).trans rfl
          have hk1 := (blk_cell BX.out 1).trans rfl
          have hk2 := (blk_cell BX.out 2).trans rfl
          have hk3 := (blk_cell BX.out 3).trans rfl
          go_upto_region 5 with (first | (go_at_call 25; with_reducible refine (desk_Line.has signs 99 b1 _ hcs).mono ?_; rintro e wq ⟨rfl, hwq⟩; rw [hwq, HH1.out]; clear hwq) | (go_at_call 25; with_reducible refine (desk_Line.has signs 110 b1 _ hcs).mono ?_; rintro e wq ⟨rfl, hwq⟩; rw [hwq, HH2.out]; clear hwq) | (go_at_call 25; with_reducible refine (desk_Line.has signs 116 b1 _ hcs).mono ?_; rintro e wq ⟨rfl, hwq⟩; rw [hwq, HH3.out]; clear hwq) | fail)
          go_wp2
          have hit := World.iter_heap ws signs 0
          have hbi : Below ws.heap.size ws (ws.iter signs 0) := below_alloc (Below.refl ws.heap.size ws) (.stringIter signs 0)
          obtain ⟨it, hitn⟩ : ∃ it, ws.heap.size = it := ⟨_, rfl⟩
          have HIT0 := Aside0.mk hit
          have HBI := Aside0.mk hbi
          clear hit hbi
          rw [hitn]
          go_loopg [4] (signs.size + 1) (fun kq v4 wr => ∃ (p : Nat) (acc : ByteArray), v4 = .string acc ∧ Aside0 (p + kq = signs.size + 1 ∧ p ≤ signs.size) ∧ Aside0 (desk_Line.go k conn text n (signs.data.toList.drop p) acc = some rr) ∧ Aside0 (wr.heap[it]? = some (.stringIter signs p)) ∧ Aside0 (Below ws.heap.size ws wr))
          case atStart => exact ⟨0, word, rfl, ⟨by omega, by omega⟩, HGO, ⟨hitn ▸ HIT0.out⟩, HBI⟩
          case round =>
            clear HIT0 HBI HGO hcs hk0 hk1 hk2 hk3
            obtain ⟨p, acc, rfl, HI, HA, HH, HW⟩ := hrel
            cases gk with
            | zero => have := HI.out; omega
            | succ kk =>
              by_cases cp : p < signs.size
              · have hnx : ∀ ty, (Instr.next (.pointer (some ⟨it, 0, none⟩)) true ty).run Try.prog wr = .ok (.tuple #[.bool true, .int .i64 p, .int .i32 (signs[p]'cp).toNat]) (wr.iterAt it signs (p + 1)) := fun ty => Lib.run_next_ascii_at wr it signs p ty HH.out cp (HAS.out p cp)
                have hit2 := Lib.iterAt_heap wr it signs p (p + 1) HH.out
                have HB2 := Aside0.mk (desk_Line.belowIter HW.out (Nat.le_of_eq hitn) signs (p + 1))
                have HIT2 := Aside0.mk hit2
                clear hit2
                have hk1 := (blk_cell (blk_below BX.out HB2.out) 1).trans rfl
                have hk2 := (blk_cell (blk_below BX.out HB2.out) 2).trans rfl
                have hk3 := (blk_cell (blk_below BX.out HB2.out) 3).trans rfl
                have hgo := HA.out
                rw [desk_Line.drop_ signs p cp] at hgo
                obtain ⟨c, hc⟩ : ∃ c, signs[p]'cp = c := ⟨_, rfl⟩
                rw [hc] at hnx hgo
                clear hc
                unfold desk_Line.go at hgo
                obtain ⟨pc, hpc, hgo⟩ := Option.bind_eq_some_iff.mp hgo
                by_cases hsz : acc.size + 1 + pc.size ≤ 100000000
                · rw [if_pos hsz] at hgo
                  have HG2 := Aside0.mk hgo
                  have hz1 : acc.size + 1 ≤ 9223372036854775807 := by omega
                  have hz2 : acc.size + 1 + pc.size ≤ 9223372036854775807 := by omega
                  clear hgo
                  by_cases e1 : c = 99
                  · subst e1
                    have HPR := Aside0.mk (show num_Print.f k conn = some pc by simpa [desk_Line.piece] using hpc)
                    rw [show (((99 : UInt8).toNat : Nat) : Int) = 99 from rfl] at hnx
                    clear hpc
                    go_wp2_with (first | (go_at_call 27; with_reducible refine (num_Print.calls k conn pc _ HPR.out).mono ?_; rintro e w3 ⟨rfl, ⟨nd2, rfl⟩⟩) | fail)
                    go_roundg kk
                    case measure => omega
                    case rel => exact ⟨p + 1, _, rfl, ⟨by have := HI.out; omega, by omega⟩, HG2, ⟨HIT2.out⟩, ⟨pw_below_drewN HB2.out nd2⟩⟩
                  · by_cases e2 : c = 110
                    · subst e2
                      have HPR := Aside0.mk (show num_Print.f k n = some pc by simpa [desk_Line.piece] using hpc)
                      rw [show (((110 : UInt8).toNat : Nat) : Int) = 110 from rfl] at hnx
                      clear hpc
                      go_wp2_with (first | (go_at_call 27; with_reducible refine (num_Print.calls k n pc _ HPR.out).mono ?_; rintro e w3 ⟨rfl, ⟨nd2, rfl⟩⟩) | fail)
                      go_roundg kk
                      case measure => omega
                      case rel => exact ⟨p + 1, _, rfl, ⟨by have := HI.out; omega, by omega⟩, HG2, ⟨HIT2.out⟩, ⟨pw_below_drewN HB2.out nd2⟩⟩
                    · have HPR := Aside0.mk (show desk_Quoted.f k text = some pc by unfold desk_Line.piece at hpc; rw [if_neg e1, if_neg e2] at hpc; exact hpc)
                      have hr1 : ((c.toNat : Int) == 99) = false := by
                        refine beq_eq_false_iff_ne.mpr (fun hh => e1 (UInt8.toNat_inj.mp ?_))
                        show c.toNat = 99
                        omega
                      have hr2 : ((c.toNat : Int) == 110) = false := by
                        refine beq_eq_false_iff_ne.mpr (fun hh => e2 (UInt8.toNat_inj.mp ?_))
                        show c.toNat = 110
                        omega
                      clear hpc
                      obtain ⟨rn, hrn⟩ : ∃ r : Int, (c.toNat : Int) = r := ⟨_, rfl⟩
                      rw [hrn] at hnx hr1 hr2
                      clear hrn
                      go_wp2_with (first | (go_at_call 7; with_reducible refine (desk_Quoted.calls k text pc _ HPR.out).mono ?_; rintro e w3 ⟨rfl, hb3⟩) | fail)
                      go_roundg kk
                      case measure => omega
                      case rel => exact ⟨p + 1, _, rfl, ⟨by have := HI.out; omega, by omega⟩, HG2, ⟨(hb3.block it (Array.getElem?_eq_some_iff.1 HIT2.out).1).trans HIT2.out⟩, ⟨HB2.out.trans (desk_Line.less hb3 HB2.out.size)⟩⟩
                · rw [if_neg hsz] at hgo
                  cases hgo
              · have hnx : ∀ ty, (Instr.next (.pointer (some ⟨it, 0, none⟩)) true ty).run Try.prog wr = .ok (.tuple #[.bool false]) wr := fun ty => Lib.run_next_end_at wr it signs p ty HH.out cp
                have hgo := HA.out
                rw [List.drop_of_length_le (by rw [Array.length_toList]; exact Nat.le_of_not_lt cp)] at hgo
                unfold desk_Line.go at hgo
                injection hgo with hgo
                subst hgo
                go_wp2
                go_ret2
                exact ⟨rfl, HB.out.trans (desk_Line.less HW.out HB.out.size)⟩
  · rw [if_neg hg] at h
    by_cases hb : word.toList = [] ∨ desk_Line.ok signs conn text n = false
    · rw [if_pos hb] at h
      injection h with h
      injection h with h1_ h2_
      subst h1_ h2_
      by_cases hw0 : word.toList = []
      · have hwe : (word.toList == ([] : List UInt8)) = true := by simp [hw0]
        have hwi : word.toList.isEmpty = true := by simp [hw0]
        clear hb hg hw0
        go_enter Try.func13, Try.ntmps13
        go_upto_region 3 with (first | (go_at_call 24; with_reducible refine (desk_form.calls kind word signs _ HFORM.out).mono ?_; rintro e w1 ⟨rfl, ⟨nd, rfl⟩⟩) | fail)
        have BX0 := blk_below (blk_new w (.cells #[.int .i64 kind, .int .i64 conn, .string text, .int .i64 n] 30)) (pw_below_drewN (Below.refl _ _) nd)
        have BX1 := blk_alloc BX0 (.cells #[.string signs] 9)
        have BS1 := blk_new ((w.alloc (.cells #[.int .i64 kind, .int .i64 conn, .string text, .int .i64 n] 30)).drewN nd) (.cells #[.string signs] 9)
        have HB1 := below_alloc (pw_below_drewN (below_alloc (Below.refl w.heap.size w) (.cells #[.int .i64 kind, .int .i64 conn, .string text, .int .i64 n] 30)) nd) (.cells #[.string signs] 9)
        rw [show ((w.alloc (.cells #[.int .i64 kind, .int .i64 conn, .string text, .int .i64 n] 30)).drewN nd).heap.size = w.heap.size + 1 by simp] at BS1
        obtain ⟨b0, hb0⟩ : ∃ b, w.heap.size = b := ⟨_, rfl⟩
        obtain ⟨b1, hb1⟩ : ∃ b, w.heap.size + 1 = b := ⟨_, rfl⟩
        rw [hb0] at BX0 BX1
        rw [hb1] at BS1
        rw [hb1, hb0]
        generalize ((w.alloc (.cells #[.int .i64 kind, .int .i64 conn, .string text, .int .i64 n] 30)).drewN nd).alloc (.cells #[.string signs] 9) = ws at BX1 BS1 HB1 ⊢
        have BX := Aside0.mk BX1
        have BS := Aside0.mk BS1
        have HB := Aside0.mk HB1
        clear BX0 BX1 BS1 HB1
        have hcs := (blk_cell BS.out 0).trans rfl
        have hk0 := (blk_cell BX.out 0).trans rfl
        have hk1 := (blk_cell BX.out 1).trans rfl
        have hk2 := (blk_cell BX.out 2).trans rfl
        have hk3 := (blk_cell BX.out 3).trans rfl
        go_wp2_with (first | (go_at_call 25; with_reducible refine (desk_Line.has signs 99 b1 _ hcs).mono ?_; rintro e wq ⟨rfl, hwq⟩; rw [hwq, HH1.out]; clear hwq) | (go_at_call 25; with_reducible refine (desk_Line.has signs 110 b1 _ hcs).mono ?_; rintro e wq ⟨rfl, hwq⟩; rw [hwq, HH2.out]; clear hwq) | (go_at_call 25; with_reducible refine (desk_Line.has signs 116 b1 _ hcs).mono ?_; rintro e wq ⟨rfl, hwq⟩; rw [hwq, HH3.out]; clear hwq) | fail)
        go_ret2
        exact ⟨rfl, HB.out⟩
      · have hwe : (word.toList == ([] : List UInt8)) = false := by simpa using hw0
        have hwi : word.toList.isEmpty = false := by simpa using hw0
        have hok := hb.resolve_left hw0
        clear hb hg hw0
        unfold desk_Line.ok at hok
        obtain ⟨h1, hh1⟩ : ∃ b, decide (0 ≤ Lib.indexByte signs.data.toList 99) = b := ⟨_, rfl⟩
        obtain ⟨h2, hh2⟩ : ∃ b, decide (0 ≤ Lib.indexByte signs.data.toList 110) = b := ⟨_, rfl⟩
        obtain ⟨h3, hh3⟩ : ∃ b, decide (0 ≤ Lib.indexByte signs.data.toList 116) = b := ⟨_, rfl⟩
        rw [hh1, hh2, hh3] at hok
        have HH1 := Aside0.mk hh1
        have HH2 := Aside0.mk hh2
        have HH3 := Aside0.mk hh3
        clear hh1 hh2 hh3
        have hne := Aside0.mk hok
        clear hok
        cases h1 with
        | true =>
          cases h2 with
          | true =>
            cases h3 with
            | true =>
              exact absurd hne.out (by simp [])
            | false =>
              by_cases HQ2 : text.toList = []
              · skip
                have hb3 : (text.toList == ([] : List UInt8)) = true := by simp [HQ2]
                have hb3' : text.toList.isEmpty = true := by simp [HQ2]
                have hb3'' : (text.toList != ([] : List UInt8)) = false := by simp [HQ2]
                have HA2 := Aside0.mk HQ2
                clear HQ2
                exact absurd hne.out (by simp [HA2.out])
              · skip
                have hb3 : (text.toList == ([] : List UInt8)) = false := by simpa using HQ2
                have hb3' : text.toList.isEmpty = false := by simpa using HQ2
                have hb3'' : (text.toList != ([] : List UInt8)) = true := by simpa using HQ2
                clear HQ2
                go_enter Try.func13, Try.ntmps13
                go_upto_region 3 with (first | (go_at_call 24; with_reducible refine (desk_form.calls kind word signs _ HFORM.out).mono ?_; rintro e w1 ⟨rfl, ⟨nd, rfl⟩⟩) | fail)
                have BX0 := blk_below (blk_new w (.cells #[.int .i64 kind, .int .i64 conn, .string text, .int .i64 n] 30)) (pw_below_drewN (Below.refl _ _) nd)
                have BX1 := blk_alloc BX0 (.cells #[.string signs] 9)
                have BS1 := blk_new ((w.alloc (.cells #[.int .i64 kind, .int .i64 conn, .string text, .int .i64 n] 30)).drewN nd) (.cells #[.string signs] 9)
                have HB1 := below_alloc (pw_below_drewN (below_alloc (Below.refl w.heap.size w) (.cells #[.int .i64 kind, .int .i64 conn, .string text, .int .i64 n] 30)) nd) (.cells #[.string signs] 9)
                rw [show ((w.alloc (.cells #[.int .i64 kind, .int .i64 conn, .string text, .int .i64 n] 30)).drewN nd).heap.size = w.heap.size + 1 by simp] at BS1
                obtain ⟨b0, hb0⟩ : ∃ b, w.heap.size = b := ⟨_, rfl⟩
                obtain ⟨b1, hb1⟩ : ∃ b, w.heap.size + 1 = b := ⟨_, rfl⟩
                rw [hb0] at BX0 BX1
                rw [hb1] at BS1
                rw [hb1, hb0]
                generalize ((w.alloc (.cells #[.int .i64 kind, .int .i64 conn, .string text, .int .i64 n] 30)).drewN nd).alloc (.cells #[.string signs] 9) = ws at BX1 BS1 HB1 ⊢
                have BX := Aside0.mk BX1
                have BS := Aside0.mk BS1
                have HB := Aside0.mk HB1
                clear BX0 BX1 BS1 HB1
                have hcs := (blk_cell BS.out 0).trans rfl
                have hk0 := (blk_cell BX.out 0).trans rfl
                have hk1 := (blk_cell BX.out 1).trans rfl
                have hk2 := (blk_cell BX.out 2).trans rfl
                have hk3 := (blk_cell BX.out 3).trans rfl
                go_wp2_with (first | (go_at_call 25; with_reducible refine (desk_Line.has signs 99 b1 _ hcs).mono ?_; rintro e wq ⟨rfl, hwq⟩; rw [hwq, HH1.out]; clear hwq) | (go_at_call 25; with_reducible refine (desk_Line.has signs 110 b1 _ hcs).mono ?_; rintro e wq ⟨rfl, hwq⟩; rw [hwq, HH2.out]; clear hwq) | (go_at_call 25; with_reducible refine (desk_Line.has signs 116 b1 _ hcs).mono ?_; rintro e wq ⟨rfl, hwq⟩; rw [hwq, HH3.out]; clear hwq) | fail)
                go_ret2
                exact ⟨rfl, HB.out⟩
          | false =>
            by_cases HQ1 : n = 0
            · skip
              have hb2 : (n != 0) = false := by simp [HQ1]
              have hb2' : (n == 0) = true := by simp [HQ1]
              have HA1 := Aside0.mk HQ1
              clear HQ1
              cases h3 with
              | true =>
                exact absurd hne.out (by simp [HA1.out])
              | false =>
                by_cases HQ2 : text.toList = []
                · skip
                  have hb3 : (text.toList == ([] : List UInt8)) = true := by simp [HQ2]
                  have hb3' : text.toList.isEmpty = true := by simp [HQ2]
                  have hb3'' : (text.toList != ([] : List UInt8)) = false := by simp [HQ2]
                  have HA2 := Aside0.mk HQ2
                  clear HQ2
                  exact absurd hne.out (by simp [HA1.out, HA2.out])
                · skip
                  have hb3 : (text.toList == ([] : List UInt8)) = false := by simpa using HQ2
                  have hb3' : text.toList.isEmpty = false := by simpa using HQ2
                  have hb3'' : (text.toList != ([] : List UInt8)) = true := by simpa using HQ2
                  clear HQ2
                  go_enter Try.func13, Try.ntmps13
                  go_upto_region 3 with (first | (go_at_call 24; with_reducible refine (desk_form.calls kind word signs _ HFORM.out).mono ?_; rintro e w1 ⟨rfl, ⟨nd, rfl⟩⟩) | fail)
                  have BX0 := blk_below (blk_new w (.cells #[.int .i64 kind, .int .i64 conn, .string text, .int .i64 n] 30)) (pw_below_drewN (Below.refl _ _) nd)
                  have BX1 := blk_alloc BX0 (.cells #[.string signs] 9)
                  have BS1 := blk_new ((w.alloc (.cells #[.int .i64 kind, .int .i64 conn, .string text, .int .i64 n] 30)).drewN nd) (.cells #[.string signs] 9)
                  have HB1 := below_alloc (pw_below_drewN (below_alloc (Below.refl w.heap.size w) (.cells #[.int .i64 kind, .int .i64 conn, .string text, .int .i64 n] 30)) nd) (.cells #[.string signs] 9)
                  rw [show ((w.alloc (.cells #[.int .i64 kind, .int .i64 conn, .string text, .int .i64 n] 30)).drewN nd).heap.size = w.heap.size + 1 by simp] at BS1
                  obtain ⟨b0, hb0⟩ : ∃ b, w.heap.size = b := ⟨_, rfl⟩
                  obtain ⟨b1, hb1⟩ : ∃ b, w.heap.size + 1 = b := ⟨_, rfl⟩
                  rw [hb0] at BX0 BX1
                  rw [hb1] at BS1
                  rw [hb1, hb0]
                  generalize ((w.alloc (.cells #[.int .i64 kind, .int .i64 conn, .string text, .int .i64 n] 30)).drewN nd).alloc (.cells #[.string signs] 9) = ws at BX1 BS1 HB1 ⊢
                  have BX := Aside0.mk BX1
                  have BS := Aside0.mk BS1
                  have HB := Aside0.mk HB1
                  clear BX0 BX1 BS1 HB1
                  have hcs := (blk_cell BS.out 0).trans rfl
                  have hk0 := (blk_cell BX.out 0).trans rfl
                  have hk1 := (blk_cell BX.out 1).trans rfl
                  have hk2 := (blk_cell BX.out 2).trans rfl
                  have hk3 := (blk_cell BX.out 3).trans rfl
                  go_wp2_with (first | (go_at_call 25; with_reducible refine (desk_Line.has signs 99 b1 _ hcs).mono ?_; rintro e wq ⟨rfl, hwq⟩; rw [hwq, HH1.out]; clear hwq) | (go_at_call 25; with_reducible refine (desk_Line.has signs 110 b1 _ hcs).mono ?_; rintro e wq ⟨rfl, hwq⟩; rw [hwq, HH2.out]; clear hwq) | (go_at_call 25; with_reducible refine (desk_Line.has signs 116 b1 _ hcs).mono ?_; rintro e wq ⟨rfl, hwq⟩; rw [hwq, HH3.out]; clear hwq) | fail)
                  go_ret2
                  exact ⟨rfl, HB.out⟩
            · skip
              have hb2 : (n != 0) = true := by simpa using HQ1
              have hb2' : (n == 0) = false := by simpa using HQ1
              clear HQ1
              go_enter Try.func13, Try.ntmps13
              go_upto_region 3 with (first | (go_at_call 24; with_reducible refine (desk_form.calls kind word signs _ HFORM.out).mono ?_; rintro e w1 ⟨rfl, ⟨nd, rfl⟩⟩) | fail)
              have BX0 := blk_below (blk_new w (.cells #[.int .i64 kind, .int .i64 conn, .string text, .int .i64 n] 30)) (pw_below_drewN (Below.refl _ _) nd)
              have BX1 := blk_alloc BX0 (.cells #[.string signs] 9)
              have BS1 := blk_new ((w.alloc (.cells #[.int .i64 kind, .int .i64 conn, .string text, .int .i64 n] 30)).drewN nd) (.cells #[.string signs] 9)
              have HB1 := below_alloc (pw_below_drewN (below_alloc (Below.refl w.heap.size w) (.cells #[.int .i64 kind, .int .i64 conn, .string text, .int .i64 n] 30)) nd) (.cells #[.string signs] 9)
              rw [show ((w.alloc (.cells #[.int .i64 kind, .int .i64 conn, .string text, .int .i64 n] 30)).drewN nd).heap.size = w.heap.size + 1 by simp] at BS1
              obtain ⟨b0, hb0⟩ : ∃ b, w.heap.size = b := ⟨_, rfl⟩
              obtain ⟨b1, hb1⟩ : ∃ b, w.heap.size + 1 = b := ⟨_, rfl⟩
              rw [hb0] at BX0 BX1
              rw [hb1] at BS1
              rw [hb1, hb0]
              generalize ((w.alloc (.cells #[.int .i64 kind, .int .i64 conn, .string text, .int .i64 n] 30)).drewN nd).alloc (.cells #[.string signs] 9) = ws at BX1 BS1 HB1 ⊢
              have BX := Aside0.mk BX1
              have BS := Aside0.mk BS1
              have HB := Aside0.mk HB1
              clear BX0 BX1 BS1 HB1
              have hcs := (blk_cell BS.out 0).trans rfl
              have hk0 := (blk_cell BX.out 0).trans rfl
              have hk1 := (blk_cell BX.out 1).trans rfl
              have hk2 := (blk_cell BX.out 2).trans rfl
              have hk3 := (blk_cell BX.out 3).trans rfl
              go_wp2_with (first | (go_at_call 25; with_reducible refine (desk_Line.has signs 99 b1 _ hcs).mono ?_; rintro e wq ⟨rfl, hwq⟩; rw [hwq, HH1.out]; clear hwq) | (go_at_call 25; with_reducible refine (desk_Line.has signs 110 b1 _ hcs).mono ?_; rintro e wq ⟨rfl, hwq⟩; rw [hwq, HH2.out]; clear hwq) | (go_at_call 25; with_reducible refine (desk_Line.has signs 116 b1 _ hcs).mono ?_; rintro e wq ⟨rfl, hwq⟩; rw [hwq, HH3.out]; clear hwq) | fail)
              go_ret2
              exact ⟨rfl, HB.out⟩
        | false =>
          by_cases HQ0 : conn = 0
          · skip
            have hb1 : (conn != 0) = false := by simp [HQ0]
            have hb1' : (conn == 0) = true := by simp [HQ0]
            have HA0 := Aside0.mk HQ0
            clear HQ0
            cases h2 with
            | true =>
              cases h3 with
              | true =>
                exact absurd hne.out (by simp [HA0.out])
              | false =>
                by_cases HQ2 : text.toList = []
                · skip
                  have hb3 : (text.toList == ([] : List UInt8)) = true := by simp [HQ2]
                  have hb3' : text.toList.isEmpty = true := by simp [HQ2]
                  have hb3'' : (text.toList != ([] : List UInt8)) = false := by simp [HQ2]
                  have HA2 := Aside0.mk HQ2
                  clear HQ2
                  exact absurd hne.out (by simp [HA0.out, HA2.out])
                · skip
                  have hb3 : (text.toList == ([] : List UInt8)) = false := by simpa using HQ2
                  have hb3' : text.toList.isEmpty = false := by simpa using HQ2
                  have hb3'' : (text.toList != ([] : List UInt8)) = true := by simpa using HQ2
                  clear HQ2
                  go_enter Try.func13, Try.ntmps13
                  go_upto_region 3 with (first | (go_at_call 24; with_reducible refine (desk_form.calls kind word signs _ HFORM.out).mono ?_; rintro e w1 ⟨rfl, ⟨nd, rfl⟩⟩) | fail)
                  have BX0 := blk_below (blk_new w (.cells #[.int .i64 kind, .int .i64 conn, .string text, .int .i64 n] 30)) (pw_below_drewN (Below.refl _ _) nd)
                  have BX1 := blk_alloc BX0 (.cells #[.string signs] 9)
                  have BS1 := blk_new ((w.alloc (.cells #[.int .i64 kind, .int .i64 conn, .string text, .int .i64 n] 30)).drewN nd) (.cells #[.string signs] 9)
                  have HB1 := below_alloc (pw_below_drewN (below_alloc (Below.refl w.heap.size w) (.cells #[.int .i64 kind, .int .i64 conn, .string text, .int .i64 n] 30)) nd) (.cells #[.string signs] 9)
                  rw [show ((w.alloc (.cells #[.int .i64 kind, .int .i64 conn, .string text, .int .i64 n] 30)).drewN nd).heap.size = w.heap.size + 1 by simp] at BS1
                  obtain ⟨b0, hb0⟩ : ∃ b, w.heap.size = b := ⟨_, rfl⟩
                  obtain ⟨b1, hb1⟩ : ∃ b, w.heap.size + 1 = b := ⟨_, rfl⟩
                  rw [hb0] at BX0 BX1
                  rw [hb1] at BS1
                  rw [hb1, hb0]
                  generalize ((w.alloc (.cells #[.int .i64 kind, .int .i64 conn, .string text, .int .i64 n] 30)).drewN nd).alloc (.cells #[.string signs] 9) = ws at BX1 BS1 HB1 ⊢
                  have BX := Aside0.mk BX1
                  have BS := Aside0.mk BS1
                  have HB := Aside0.mk HB1
                  clear BX0 BX1 BS1 HB1
                  have hcs := (blk_cell BS.out 0).trans rfl
                  have hk0 := (blk_cell BX.out 0).trans rfl
                  have hk1 := (blk_cell BX.out 1).trans rfl
                  have hk2 := (blk_cell BX.out 2).trans rfl
                  have hk3 := (blk_cell BX.out 3).trans rfl
                  go_wp2_with (first | (go_at_call 25; with_reducible refine (desk_Line.has signs 99 b1 _ hcs).mono ?_; rintro e wq ⟨rfl, hwq⟩; rw [hwq, HH1.out]; clear hwq) | (go_at_call 25; with_reducible refine (desk_Line.has signs 110 b1 _ hcs).mono ?_; rintro e wq ⟨rfl, hwq⟩; rw [hwq, HH2.out]; clear hwq) | (go_at_call 25; with_reducible refine (desk_Line.has signs 116 b1 _ hcs).mono ?_; rintro e wq ⟨rfl, hwq⟩; rw [hwq, HH3.out]; clear hwq) | fail)
                  go_ret2
                  exact ⟨rfl, HB.out⟩
            | false =>
              by_cases HQ1 : n = 0
              · skip
                have hb2 : (n != 0) = false := by simp [HQ1]
                have hb2' : (n == 0) = true := by simp [HQ1]
                have HA1 := Aside0.mk HQ1
                clear HQ1
                cases h3 with
                | true =>
                  exact absurd hne.out (by simp [HA0.out, HA1.out])
                | false =>
                  by_cases HQ2 : text.toList = []
                  · skip
                    have hb3 : (text.toList == ([] : List UInt8)) = true := by simp [HQ2]
                    have hb3' : text.toList.isEmpty = true := by simp [HQ2]
                    have hb3'' : (text.toList != ([] : List UInt8)) = false := by simp [HQ2]
                    have HA2 := Aside0.mk HQ2
                    clear HQ2
                    exact absurd hne.out (by simp [HA0.out, HA1.out, HA2.out])
                  · skip
                    have hb3 : (text.toList == ([] : List UInt8)) = false := by simpa using HQ2
                    have hb3' : text.toList.isEmpty = false := by simpa using HQ2
                    have hb3'' : (text.toList != ([] : List UInt8)) = true := by simpa using HQ2
                    clear HQ2
                    go_enter Try.func13, Try.ntmps13
                    go_upto_region 3 with (first | (go_at_call 24; with_reducible refine (desk_form.calls kind word signs _ HFORM.out).mono ?_; rintro e w1 ⟨rfl, ⟨nd, rfl⟩⟩) | fail)
                    have BX0 := blk_below (blk_new w (.cells #[.int .i64 kind, .int .i64 conn, .string text, .int .i64 n] 30)) (pw_below_drewN (Below.refl _ _) nd)
                    have BX1 := blk_alloc BX0 (.cells #[.string signs] 9)
                    have BS1 := blk_new ((w.alloc (.cells #[.int .i64 kind, .int .i64 conn, .string text, .int .i64 n] 30)).drewN nd) (.cells #[.string signs] 9)
                    have HB1 := below_alloc (pw_below_drewN (below_alloc (Below.refl w.heap.size w) (.cells #[.int .i64 kind, .int .i64 conn, .string text, .int .i64 n] 30)) nd) (.cells #[.string signs] 9)
                    rw [show ((w.alloc (.cells #[.int .i64 kind, .int .i64 conn, .string text, .int .i64 n] 30)).drewN nd).heap.size = w.heap.size + 1 by simp] at BS1
                    obtain ⟨b0, hb0⟩ : ∃ b, w.heap.size = b := ⟨_, rfl⟩
                    obtain ⟨b1, hb1⟩ : ∃ b, w.heap.size + 1 = b := ⟨_, rfl⟩
                    rw [hb0] at BX0 BX1
                    rw [hb1] at BS1
                    rw [hb1, hb0]
                    generalize ((w.alloc (.cells #[.int .i64 kind, .int .i64 conn, .string text, .int .i64 n] 30)).drewN nd).alloc (.cells #[.string signs] 9) = ws at BX1 BS1 HB1 ⊢
                    have BX := Aside0.mk BX1
                    have BS := Aside0.mk BS1
                    have HB := Aside0.mk HB1
                    clear BX0 BX1 BS1 HB1
                    have hcs := (blk_cell BS.out 0).trans rfl
                    have hk0 := (blk_cell BX.out 0).trans rfl
                    have hk1 := (blk_cell BX.out 1).trans rfl
                    have hk2 := (blk_cell BX.out 2).trans rfl
                    have hk3 := (blk_cell BX.out 3).trans rfl
                    go_wp2_with (first | (go_at_call 25; with_reducible refine (desk_Line.has signs 99 b1 _ hcs).mono ?_; rintro e wq ⟨rfl, hwq⟩; rw [hwq, HH1.out]; clear hwq) | (go_at_call 25; with_reducible refine (desk_Line.has signs 110 b1 _ hcs).mono ?_; rintro e wq ⟨rfl, hwq⟩; rw [hwq, HH2.out]; clear hwq) | (go_at_call 25; with_reducible refine (desk_Line.has signs 116 b1 _ hcs).mono ?_; rintro e wq ⟨rfl, hwq⟩; rw [hwq, HH3.out]; clear hwq) | fail)
                    go_ret2
                    exact ⟨rfl, HB.out⟩
              · skip
                have hb2 : (n != 0) = true := by simpa using HQ1
                have hb2' : (n == 0) = false := by simpa using HQ1
                clear HQ1
                go_enter Try.func13, Try.ntmps13
                go_upto_region 3 with (first | (go_at_call 24; with_reducible refine (desk_form.calls kind word signs _ HFORM.out).mono ?_; rintro e w1 ⟨rfl, ⟨nd, rfl⟩⟩) | fail)
                have BX0 := blk_below (blk_new w (.cells #[.int .i64 kind, .int .i64 conn, .string text, .int .i64 n] 30)) (pw_below_drewN (Below.refl _ _) nd)
                have BX1 := blk_alloc BX0 (.cells #[.string signs] 9)
                have BS1 := blk_new ((w.alloc (.cells #[.int .i64 kind, .int .i64 conn, .string text, .int .i64 n] 30)).drewN nd) (.cells #[.string signs] 9)
                have HB1 := below_alloc (pw_below_drewN (below_alloc (Below.refl w.heap.size w) (.cells #[.int .i64 kind, .int .i64 conn, .string text, .int .i64 n] 30)) nd) (.cells #[.string signs] 9)
                rw [show ((w.alloc (.cells #[.int .i64 kind, .int .i64 conn, .string text, .int .i64 n] 30)).drewN nd).heap.size = w.heap.size + 1 by simp] at BS1
                obtain ⟨b0, hb0⟩ : ∃ b, w.heap.size = b := ⟨_, rfl⟩
                obtain ⟨b1, hb1⟩ : ∃ b, w.heap.size + 1 = b := ⟨_, rfl⟩
                rw [hb0] at BX0 BX1
                rw [hb1] at BS1
                rw [hb1, hb0]
                generalize ((w.alloc (.cells #[.int .i64 kind, .int .i64 conn, .string text, .int .i64 n] 30)).drewN nd).alloc (.cells #[.string signs] 9) = ws at BX1 BS1 HB1 ⊢
                have BX := Aside0.mk BX1
                have BS := Aside0.mk BS1
                have HB := Aside0.mk HB1
                clear BX0 BX1 BS1 HB1
                have hcs := (blk_cell BS.out 0).trans rfl
                have hk0 := (blk_cell BX.out 0).trans rfl
                have hk1 := (blk_cell BX.out 1).trans rfl
                have hk2 := (blk_cell BX.out 2).trans rfl
                have hk3 := (blk_cell BX.out 3).trans rfl
                go_wp2_with (first | (go_at_call 25; with_reducible refine (desk_Line.has signs 99 b1 _ hcs).mono ?_; rintro e wq ⟨rfl, hwq⟩; rw [hwq, HH1.out]; clear hwq) | (go_at_call 25; with_reducible refine (desk_Line.has signs 110 b1 _ hcs).mono ?_; rintro e wq ⟨rfl, hwq⟩; rw [hwq, HH2.out]; clear hwq) | (go_at_call 25; with_reducible refine (desk_Line.has signs 116 b1 _ hcs).mono ?_; rintro e wq ⟨rfl, hwq⟩; rw [hwq, HH3.out]; clear hwq) | fail)
                go_ret2
                exact ⟨rfl, HB.out⟩
          · skip
            have hb1 : (conn != 0) = true := by simpa using HQ0
            have hb1' : (conn == 0) = false := by simpa using HQ0
            clear HQ0
            go_enter Try.func13, Try.ntmps13
            go_upto_region 3 with (first | (go_at_call 24; with_reducible refine (desk_form.calls kind word signs _ HFORM.out).mono ?_; rintro e w1 ⟨rfl, ⟨nd, rfl⟩⟩) | fail)
            have BX0 := blk_below (blk_new w (.cells #[.int .i64 kind, .int .i64 conn, .string text, .int .i64 n] 30)) (pw_below_drewN (Below.refl _ _) nd)
            have BX1 := blk_alloc BX0 (.cells #[.string signs] 9)
            have BS1 := blk_new ((w.alloc (.cells #[.int .i64 kind, .int .i64 conn, .string text, .int .i64 n] 30)).drewN nd) (.cells #[.string signs] 9)
            have HB1 := below_alloc (pw_below_drewN (below_alloc (Below.refl w.heap.size w) (.cells #[.int .i64 kind, .int .i64 conn, .string text, .int .i64 n] 30)) nd) (.cells #[.string signs] 9)
            rw [show ((w.alloc (.cells #[.int .i64 kind, .int .i64 conn, .string text, .int .i64 n] 30)).drewN nd).heap.size = w.heap.size + 1 by simp] at BS1
            obtain ⟨b0, hb0⟩ : ∃ b, w.heap.size = b := ⟨_, rfl⟩
            obtain ⟨b1, hb1⟩ : ∃ b, w.heap.size + 1 = b := ⟨_, rfl⟩
            rw [hb0] at BX0 BX1
            rw [hb1] at BS1
            rw [hb1, hb0]
            generalize ((w.alloc (.cells #[.int .i64 kind, .int .i64 conn, .string text, .int .i64 n] 30)).drewN nd).alloc (.cells #[.string signs] 9) = ws at BX1 BS1 HB1 ⊢
            have BX := Aside0.mk BX1
            have BS := Aside0.mk BS1
            have HB := Aside0.mk HB1
            clear BX0 BX1 BS1 HB1
            have hcs := (blk_cell BS.out 0).trans rfl
            have hk0 := (blk_cell BX.out 0).trans rfl
            have hk1 := (blk_cell BX.out 1).trans rfl
            have hk2 := (blk_cell BX.out 2).trans rfl
            have hk3 := (blk_cell BX.out 3).trans rfl
            go_wp2_with (first | (go_at_call 25; with_reducible refine (desk_Line.has signs 99 b1 _ hcs).mono ?_; rintro e wq ⟨rfl, hwq⟩; rw [hwq, HH1.out]; clear hwq) | (go_at_call 25; with_reducible refine (desk_Line.has signs 110 b1 _ hcs).mono ?_; rintro e wq ⟨rfl, hwq⟩; rw [hwq, HH2.out]; clear hwq) | (go_at_call 25; with_reducible refine (desk_Line.has signs 116 b1 _ hcs).mono ?_; rintro e wq ⟨rfl, hwq⟩; rw [hwq, HH3.out]; clear hwq) | fail)
            go_ret2
            exact ⟨rfl, HB.out⟩
    · rw [if_neg hb] at h
      cases h


end Go.Proofs.Ytmdfgndndfggeaa.PDeskParse
