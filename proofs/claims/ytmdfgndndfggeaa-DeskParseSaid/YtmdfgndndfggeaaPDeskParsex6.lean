-- By gp.py, a program of this session: the print of the kit with contracts of this session's own beside it.
import Derived.Test.YtmdfgndndfggeaaPDeskParsex0
import Derived.Test.YtmdfgndndfggeaaPDeskParsex1
import Derived.Test.YtmdfgndndfggeaaPDeskParsex2
import Derived.Test.YtmdfgndndfggeaaPDeskParsex3
import Derived.Test.YtmdfgndndfggeaaPDeskParsex4
import Derived.Test.YtmdfgndndfggeaaPDeskParsex5
namespace Go.Proofs.Ytmdfgndndfggeaa.PDeskParse
open Go.RowKit Go.Proofs.Ytmdfgndndfggeaa.Gp Go.Proofs.YtmdfgndndfggeaaW.PrintWords Go.Proofs.YtmdfgndndfggeaaW.PrintLast Go.Proofs.YtmdfgndndfggeaaW.PrintMore
attribute [local go_sem] max2_int min2_int max_two min_two max_three min_three max_four min_four gp_gtr gp_leq gp_geq   -- for this text's walks alone
set_option linter.unusedVariables false
set_option linter.unusedSimpArgs false

attribute [local go_sem high] eqA30
/-! ### desk_fields: function 31 -/
theorem desk_fields.belowIter {B : Nat} {a b : World} (h : Below B a b) {it : Nat} (hi : B ≤ it) (s : ByteArray) (p : Nat) : Below B a (b.iterAt it s p) := by
  refine ⟨h.os, h.tape, h.output, ?_, fun i hlt => ?_⟩
  · have := h.size
    simpa [World.iterAt] using this
  · rw [← h.block i hlt]
    have hne : it ≠ i := by omega
    simp [World.iterAt, Array.getElem?_setIfInBounds, hne]
theorem desk_fields.iterFar {b : World} {it j : Nat} (hne : it ≠ j) (s : ByteArray) (p : Nat) : (b.iterAt it s p).heap[j]? = b.heap[j]? := by
  simp [World.iterAt, Array.getElem?_setIfInBounds, hne]
theorem desk_fields.less {B B' : Nat} {a b : World} (h : Below B' a b) (hB : B ≤ B') : Below B a b := ⟨h.os, h.tape, h.output, h.size, fun i hi => h.block i (Nat.lt_of_lt_of_le hi hB)⟩
theorem desk_fields.drop_ (s : ByteArray) (p : Nat) (h : p < s.size) : s.data.toList.drop p = (s[p]'h) :: s.data.toList.drop (p + 1) := List.drop_eq_getElem_cons (by rw [Array.length_toList]; exact h)
theorem desk_fields.asc_of (s : ByteArray) (h : s.data.toList.all (fun c => decide (c.toNat < 128)) = true) (p : Nat) (hp : p < s.size) : (s[p]'hp).toNat < 128 := by
  have := List.all_eq_true.mp h (s[p]'hp) (List.mem_of_getElem (i := p) (h := by rw [Array.length_toList]; exact hp) rfl)
  exact of_decide_eq_true this
theorem desk_fields.at4 {W w4 : World} {nd it : Nat} {o : Obj} (h : W.heap[it]? = some o) (hb : Below (W.drewN nd).heap.size (W.drewN nd) w4) : w4.heap[it]? = some o := by
  have e : (W.drewN nd).heap = W.heap := by simp
  have h1 : (W.drewN nd).heap[it]? = some o := by rw [e]; exact h
  exact (hb.block it (Array.getElem?_eq_some_iff.1 h1).1).trans h1
def desk_fields.go (k : Nat) (kind : Int) : List UInt8 → Int → ByteArray → Int → ByteArray → Option (Int × Int × ByteArray × Int × Bool)
  | [], conn, text, n, s => some (kind, conn, text, n, s.toList == ([] : List UInt8))
  | c :: r, conn, text, n, s => (strings_CutPrefix.f s (⟨#[32]⟩ : ByteArray)).bind fun rk =>
    if c = 116 then (desk_Read.f k rk.1).bind fun q => if 0 ≤ q.2.1 ∧ q.2.1 ≤ (rk.1.size : Int) then (if q.2.2 = true then desk_fields.go k kind r conn q.1 n (rk.1.extract q.2.1.toNat rk.1.size) else some (0, 0, (⟨#[]⟩ : ByteArray), 0, false)) else none
    else (desk_number.f k rk.1).bind fun q => if q.2.2 = true then (if c = 99 then desk_fields.go k kind r q.1 text n q.2.1 else if c = 110 then desk_fields.go k kind r conn text q.1 q.2.1 else desk_fields.go k kind r conn text n q.2.1) else some (0, 0, (⟨#[]⟩ : ByteArray), 0, false)
def desk_fields.f (k : Nat) (kind conn : Int) (text : ByteArray) (n : Int) (signs s : ByteArray) : Option (Int × Int × ByteArray × Int × Bool) := if signs.data.toList.all (fun c => decide (c.toNat < 128)) = true then desk_fields.go k kind signs.data.toList conn text n s else none
theorem desk_fields.mono_g (k : Nat) (kind : Int) : ∀ l conn text n s, LeO (desk_fields.go k kind l conn text n s) (desk_fields.go (k + 1) kind l conn text n s)
  | [], conn, text, n, s => LeO.refl _
  | c :: r, conn, text, n, s => LeO.bind (LeO.refl _) (fun rk => LeO.ite (LeO.bind (desk_Read.mono _ _) (fun q => LeO.ite (LeO.ite (desk_fields.mono_g k kind r _ _ _ _) (LeO.refl _)) (LeO.none _))) (LeO.bind (desk_number.mono _ _) (fun q => LeO.ite (LeO.ite (desk_fields.mono_g k kind r _ _ _ _) (LeO.ite (desk_fields.mono_g k kind r _ _ _ _) (desk_fields.mono_g k kind r _ _ _ _))) (LeO.refl _))))
theorem desk_fields.mono : ∀ kind conn text n signs s k, LeO (desk_fields.f k kind conn text n signs s) (desk_fields.f (k + 1) kind conn text n signs s) := fun kind conn text n signs s k => LeO.ite (desk_fields.mono_g k kind _ _ _ _ _) (LeO.none _)
set_option maxHeartbeats 8000000 in
set_option maxRecDepth 100000 in
theorem desk_fields.calls (k : Nat) (kind conn : Int) (text : ByteArray) (n : Int) (signs s : ByteArray) (rk rc : Int) (rt : ByteArray) (rn : Int) (rb : Bool) (w : World) (h : desk_fields.f k kind conn text n signs s = some (rk, rc, rt, rn, rb)) :
    Calls Try.prog 31 #[.agg #[.int .i64 kind, .int .i64 conn, .string text, .int .i64 n], .string signs, .string s] w fun e w' => e = .returned (.tuple #[.agg #[.int .i64 rk, .int .i64 rc, .string rt, .int .i64 rn], .bool rb]) ∧ Below w.heap.size w w' := by
  have hu30 := Try.underlying30
  unfold desk_fields.f at h
  by_cases hall : signs.data.toList.all (fun c => decide (c.toNat < 128)) = true
  · rw [if_pos hall] at h
    have HGO := Aside0.mk h
    have HAS := Aside0.mk (desk_fields.asc_of signs hall)
    clear h hall
    go_enter Try.func31, Try.ntmps31
    go_upto_region 1 with fail
    have BX1 := blk_alloc (blk_new w (.cells #[.int .i64 kind, .int .i64 conn, .string text, .int .i64 n] 30)) (.cells #[.int .i64 0, .int .i64 0, .string ⟨#[]⟩, .int .i64 0] 30)
    have BR1 := blk_new (w.alloc (.cells #[.int .i64 kind, .int .i64 conn, .string text, .int .i64 n] 30)) (.cells #[.int .i64 0, .int .i64 0, .string ⟨#[]⟩, .int .i64 0] 30)
    have HB1 := below_alloc (below_alloc (Below.refl w.heap.size w) (.cells #[.int .i64 kind, .int .i64 conn, .string text, .int .i64 n] 30)) (.cells #[.int .i64 0, .int .i64 0, .string ⟨#[]⟩, .int .i64 0] 30)
    rw [show (w.alloc (.cells #[.int .i64 kind, .int .i64 conn, .string text, .int .i64 n] 30)).heap.size = w.heap.size + 1 by simp] at BR1
    obtain ⟨b0, hb0⟩ : ∃ b, w.heap.size = b := ⟨_, rfl⟩
    obtain ⟨b1, hb1⟩ : ∃ b, w.heap.size + 1 = b := ⟨_, rfl⟩
    have HN01 := Aside0.mk (show w.heap.size ≤ b0 ∧ w.heap.size ≤ b1 ∧ b0 ≠ b1 by omega)
    rw [hb0] at BX1
    rw [hb1] at BR1
    rw [hb1, hb0]
    generalize (w.alloc (.cells #[.int .i64 kind, .int .i64 conn, .string text, .int .i64 n] 30)).alloc (.cells #[.int .i64 0, .int .i64 0, .string ⟨#[]⟩, .int .i64 0] 30) = ws at BX1 BR1 HB1 ⊢
    have BX0 := Aside0.mk BX1
    have BR0 := Aside0.mk BR1
    have HB0 := Aside0.mk HB1
    clear BX1 BR1 HB1
    go_wp2
    have hit := World.iter_heap ws signs 0
    have hbi : Below ws.heap.size ws (ws.iter signs 0) := below_alloc (Below.refl ws.heap.size ws) (.stringIter signs 0)
    have HX0 := Aside0.mk (blk_below BX0.out hbi)
    have HR0 := Aside0.mk (blk_below BR0.out hbi)
    have HIS := Aside0.mk HB0.out.size
    have HBI := Aside0.mk (HB0.out.trans (desk_fields.less hbi HB0.out.size))
    obtain ⟨it, hitn⟩ : ∃ it, ws.heap.size = it := ⟨_, rfl⟩
    have HIT0 := Aside0.mk hit
    clear hit hbi
    rw [hitn] at HIT0 HIS ⊢
    clear BX0 BR0 HB0
    go_loopg [2] (signs.size + 1) (fun kq v2 wr => ∃ (p : Nat) (conn : Int) (text : ByteArray) (n : Int) (s : ByteArray), v2 = .string s ∧ Aside0 (p + kq = signs.size + 1 ∧ p ≤ signs.size) ∧ Aside0 (desk_fields.go k kind (signs.data.toList.drop p) conn text n s = some (rk, rc, rt, rn, rb)) ∧ Aside0 (wr.heap[it]? = some (.stringIter signs p)) ∧ Aside0 (wr.heap[b0]? = some (.cells #[.int .i64 kind, .int .i64 conn, .string text, .int .i64 n] 30 (0, 0))) ∧ Aside0 (wr.heap[b1]? = some (.cells #[.int .i64 0, .int .i64 0, .string ⟨#[]⟩, .int .i64 0] 30 (0, 0))) ∧ Aside0 (Below w.heap.size w wr))
    case atStart => exact ⟨0, conn, text, n, s, rfl, ⟨by omega, by omega⟩, HGO, HIT0, HX0, HR0, HBI⟩
    case round =>
      clear HIT0 HBI HGO HX0 HR0
      obtain ⟨p, conn, text, n, s, rfl, HI, HA, HH, HX, HR, HW⟩ := hrel
      cases gk with
      | zero => have := HI.out; omega
      | succ kk =>
        by_cases cp : p < signs.size
        · skip
          have hnx : ∀ ty, (Instr.next (.pointer (some ⟨it, 0, none⟩)) true ty).run Try.prog wr = .ok (.tuple #[.bool true, .int .i64 p, .int .i32 (signs[p]'cp).toNat]) (wr.iterAt it signs (p + 1)) := fun ty => Lib.run_next_ascii_at wr it signs p ty HH.out cp (HAS.out p cp)
          have hit2 := Lib.iterAt_heap wr it signs p (p + 1) HH.out
          have hn0 : it ≠ b0 := by intro e; have hh := HH.out; rw [e, HX.out] at hh; cases hh
          have hn1 : it ≠ b1 := by intro e; have hh := HH.out; rw [e, HR.out] at hh; cases hh
          have hx2 := (desk_fields.iterFar (b := wr) hn0 signs (p + 1)).trans HX.out
          have hr2_ := (desk_fields.iterFar (b := wr) hn1 signs (p + 1)).trans HR.out
          have hb2 := desk_fields.belowIter HW.out HIS.out signs (p + 1)
          have HNI := Aside0.mk hn0
          have hgo := HA.out
          rw [desk_fields.drop_ signs p cp] at hgo
          obtain ⟨c, hc⟩ : ∃ c, signs[p]'cp = c := ⟨_, rfl⟩
          rw [hc] at hnx hgo
          clear hc
          obtain ⟨W2, hW2⟩ : ∃ W, wr.iterAt it signs (p + 1) = W := ⟨_, rfl⟩
          rw [hW2] at hnx hit2 hx2 hr2_ hb2
          have HT2 := Aside0.mk hit2
          have HX2 := Aside0.mk hx2
          have HR2 := Aside0.mk hr2_
          have HB2 := Aside0.mk hb2
          clear hit2 hx2 hr2_ hb2 hW2 hn0 hn1
          unfold desk_fields.go at hgo
          replace hgo := Option.bind_eq_some_iff.mp hgo
          obtain ⟨⟨rest, ok0⟩, hcp, hgo⟩ := hgo
          have HCP := Aside0.mk hcp
          clear hcp
          by_cases e1 : c = 116
          · rw [if_pos e1] at hgo
            subst e1
            rw [show (((116 : UInt8).toNat : Nat) : Int) = 116 from rfl] at hnx
            replace hgo := Option.bind_eq_some_iff.mp hgo
            obtain ⟨⟨t, kr, ok⟩, hrd, hgo⟩ := hgo
            have HRD := Aside0.mk hrd
            clear hrd
            by_cases hkr : 0 ≤ kr ∧ kr ≤ (rest.size : Int)
            · rw [if_pos hkr] at hgo
              have hkr1 : (0 ≤ kr) = True := eq_true hkr.1
              have hkr2 : (kr ≤ (rest.size : Int)) = True := eq_true hkr.2
              have hkr3 : kr.toNat ≤ rest.size := by have := hkr.1; have := hkr.2; omega
              cases ok with
              | false =>
                simp only [Bool.false_eq_true, if_false, Option.some.injEq, Prod.mk.injEq] at hgo
                obtain ⟨rfl, rfl, rfl, rfl, rfl⟩ := hgo
                go_wp2_with (first | (go_at_call 30; with_reducible refine (strings_CutPrefix.calls s _ rest ok0 _ HCP.out).mono ?_; rintro e w3 ⟨rfl, ⟨nd, rfl⟩⟩) | (go_at_call 8; with_reducible refine (desk_Read.calls k rest t kr false _ HRD.out).mono ?_; rintro e w4 ⟨rfl, hb4⟩; have HX4 := Aside0.mk (blk_below (blk_below HX2.out (pw_below_drewN (Below.refl _ _) nd)) hb4); have HR4 := Aside0.mk (blk_below (blk_below HR2.out (pw_below_drewN (Below.refl _ _) nd)) hb4); have HT4 := Aside0.mk (desk_fields.at4 HT2.out hb4); have HB4 := Aside0.mk ((pw_below_drewN HB2.out nd).trans (desk_fields.less hb4 (pw_below_drewN HB2.out nd).size)); clear hb4; have hkk := (blk_cell HX4.out 2).trans rfl; have hff := blk_frozen HX4.out 2; have HX5 := Aside0.mk (blk_set HX4.out 2 (.string t)); have HR5 := Aside0.mk ((Below.heap_setCell w4 ⟨b0, 2, none⟩ (.string t) b1 (Ne.symm HN01.out.2.2)).trans HR4.out); have HB5 := Aside0.mk (Below.setCell HB4.out (p := ⟨b0, 2, none⟩) HN01.out.1 (.string t)); have hr0c := (blk_cell HR5.out 0).trans rfl; have hr1c := (blk_cell HR5.out 1).trans rfl; have hr2c := (blk_cell HR5.out 2).trans rfl; have hr3c := (blk_cell HR5.out 3).trans rfl; have hg0 := blk_frozen HR5.out 0; have hg1 := blk_frozen HR5.out 1; have hg2 := blk_frozen HR5.out 2; have hg3 := blk_frozen HR5.out 3; have hr0d := (blk_cell HR4.out 0).trans rfl; have hr1d := (blk_cell HR4.out 1).trans rfl; have hr2d := (blk_cell HR4.out 2).trans rfl; have hr3d := (blk_cell HR4.out 3).trans rfl; have hg0d := blk_frozen HR4.out 0; have hg1d := blk_frozen HR4.out 1; have hg2d := blk_frozen HR4.out 2; have hg3d := blk_frozen HR4.out 3; have hne01 := HN01.out.2.2; have hne10 := Ne.symm HN01.out.2.2) | fail)
                have g4 := blk_set (blk_set (blk_set (blk_set HR5.out 0 (.int .i64 0)) 1 (.int .i64 0)) 2 (.string ⟨#[]⟩)) 3 (.int .i64 0)
                try simp only [Exit.inBlock, Exit.then]
                refine bodyPost_ret (results_ct rfl _ _ b1 30 #[.int .i64 0, .int .i64 0, .string ⟨#[]⟩, .int .i64 0] (0, 0) _ rfl (by simpa using g4) Try.underlying30 rfl (by kernel_rfl)) rfl ?_
                exact ⟨rfl, Below.setCell (Below.setCell (Below.setCell (Below.setCell HB5.out (p := ⟨b1, 0, none⟩) HN01.out.2.1 _) (p := ⟨b1, 1, none⟩) HN01.out.2.1 _) (p := ⟨b1, 2, none⟩) HN01.out.2.1 _) (p := ⟨b1, 3, none⟩) HN01.out.2.1 _⟩
              | true =>
                simp only [if_true] at hgo
                have HG2 := Aside0.mk hgo
                clear hgo
                go_wp2_with (first | (go_at_call 30; with_reducible refine (strings_CutPrefix.calls s _ rest ok0 _ HCP.out).mono ?_; rintro e w3 ⟨rfl, ⟨nd, rfl⟩⟩) | (go_at_call 8; with_reducible refine (desk_Read.calls k rest t kr true _ HRD.out).mono ?_; rintro e w4 ⟨rfl, hb4⟩; have HX4 := Aside0.mk (blk_below (blk_below HX2.out (pw_below_drewN (Below.refl _ _) nd)) hb4); have HR4 := Aside0.mk (blk_below (blk_below HR2.out (pw_below_drewN (Below.refl _ _) nd)) hb4); have HT4 := Aside0.mk (desk_fields.at4 HT2.out hb4); have HB4 := Aside0.mk ((pw_below_drewN HB2.out nd).trans (desk_fields.less hb4 (pw_below_drewN HB2.out nd).size)); clear hb4; have hkk := (blk_cell HX4.out 2).trans rfl; have hff := blk_frozen HX4.out 2; have HX5 := Aside0.mk (blk_set HX4.out 2 (.string t)); have HR5 := Aside0.mk ((Below.heap_setCell w4 ⟨b0, 2, none⟩ (.string t) b1 (Ne.symm HN01.out.2.2)).trans HR4.out); have HB5 := Aside0.mk (Below.setCell HB4.out (p := ⟨b0, 2, none⟩) HN01.out.1 (.string t)); skip) | fail)
                go_roundg kk
                case measure => exact Nat.lt_succ_self _
                case rel => exact ⟨p + 1, conn, t, n, _, rfl, ⟨by have := HI.out; omega, by omega⟩, HG2, ⟨(Below.heap_setCell w4 ⟨b0, 2, none⟩ (.string t) it HNI.out).trans HT4.out⟩, ⟨by simpa using HX5.out⟩, HR5, HB5⟩
            · rw [if_neg hkr] at hgo
              cases hgo
          · rw [if_neg e1] at hgo
            replace hgo := Option.bind_eq_some_iff.mp hgo
            obtain ⟨⟨v, s2, ok⟩, hnum, hgo⟩ := hgo
            have HNM := Aside0.mk hnum
            clear hnum
            have hr1 : ((c.toNat : Int) == 116) = false := by
              refine beq_eq_false_iff_ne.mpr (fun hh => e1 (UInt8.toNat_inj.mp ?_))
              show c.toNat = 116
              omega
            cases ok with
            | false =>
              simp only [Bool.false_eq_true, if_false, Option.some.injEq, Prod.mk.injEq] at hgo
              obtain ⟨rfl, rfl, rfl, rfl, rfl⟩ := hgo
              obtain ⟨rn_, hrn⟩ : ∃ r : Int, (c.toNat : Int) = r := ⟨_, rfl⟩
              rw [hrn] at hnx hr1
              clear hrn
              have hr0 := (blk_cell HR2.out 0).trans rfl; have hr1c := (blk_cell HR2.out 1).trans rfl; have hr2 := (blk_cell HR2.out 2).trans rfl; have hr3 := (blk_cell HR2.out 3).trans rfl; have hf0 := blk_frozen HR2.out 0; have hf1 := blk_frozen HR2.out 1; have hf2 := blk_frozen HR2.out 2; have hf3 := blk_frozen HR2.out 3
              go_wp2_with (first | (go_at_call 30; with_reducible refine (strings_CutPrefix.calls s _ rest ok0 _ HCP.out).mono ?_; rintro e w3 ⟨rfl, ⟨nd, rfl⟩⟩) | (go_at_call 42; with_reducible refine (desk_number.calls k rest v s2 false _ HNM.out).mono ?_; rintro e w4 ⟨rfl, ⟨nd2, rfl⟩⟩; have HB4 := pw_below_drewN HB2.out (nd + nd2); have HR4 := blk_below HR2.out (pw_below_drewN (Below.refl _ _) (nd + nd2))) | fail)
              have g4 := blk_set (blk_set (blk_set (blk_set HR4 0 (.int .i64 0)) 1 (.int .i64 0)) 2 (.string ⟨#[]⟩)) 3 (.int .i64 0)
              try simp only [Exit.inBlock, Exit.then]
              refine bodyPost_ret (results_ct rfl _ _ b1 30 #[.int .i64 0, .int .i64 0, .string ⟨#[]⟩, .int .i64 0] (0, 0) _ rfl (by simpa using g4) Try.underlying30 rfl (by kernel_rfl)) rfl ?_
              exact ⟨rfl, Below.setCell (Below.setCell (Below.setCell (Below.setCell HB4 (p := ⟨b1, 0, none⟩) HN01.out.2.1 _) (p := ⟨b1, 1, none⟩) HN01.out.2.1 _) (p := ⟨b1, 2, none⟩) HN01.out.2.1 _) (p := ⟨b1, 3, none⟩) HN01.out.2.1 _⟩
            | true =>
              simp only [if_true] at hgo
              by_cases e2 : c = 99
              · rw [if_pos e2] at hgo
                have HG2 := Aside0.mk hgo
                clear hgo
                subst e2
                rw [show (((99 : UInt8).toNat : Nat) : Int) = 99 from rfl] at hnx
                clear hr1
                have hkk := (blk_cell HX2.out 1).trans rfl
                have hff := blk_frozen HX2.out 1
                go_wp2_with (first | (go_at_call 30; with_reducible refine (strings_CutPrefix.calls s _ rest ok0 _ HCP.out).mono ?_; rintro e w3 ⟨rfl, ⟨nd, rfl⟩⟩) | (go_at_call 42; with_reducible refine (desk_number.calls k rest v s2 true _ HNM.out).mono ?_; rintro e w4 ⟨rfl, ⟨nd2, rfl⟩⟩) | fail)
                go_roundg kk
                case measure => exact Nat.lt_succ_self _
                case rel => exact ⟨p + 1, v, text, n, s2, rfl, ⟨by have := HI.out; omega, by omega⟩, HG2, ⟨(Below.heap_setCell (W2.drewN (nd + nd2)) ⟨b0, 1, none⟩ (.int .i64 v) it HNI.out).trans HT2.out⟩, ⟨by simpa using blk_set (blk_below HX2.out (pw_below_drewN (Below.refl _ _) (nd + nd2))) 1 (.int .i64 v)⟩, ⟨(Below.heap_setCell (W2.drewN (nd + nd2)) ⟨b0, 1, none⟩ (.int .i64 v) b1 (Ne.symm HN01.out.2.2)).trans HR2.out⟩, ⟨Below.setCell (pw_below_drewN HB2.out (nd + nd2)) (p := ⟨b0, 1, none⟩) HN01.out.1 _⟩⟩
              · rw [if_neg e2] at hgo
                by_cases e3 : c = 110
                · rw [if_pos e3] at hgo
                  have HG2 := Aside0.mk hgo
                  clear hgo
                  subst e3
                  rw [show (((110 : UInt8).toNat : Nat) : Int) = 110 from rfl] at hnx
                  clear hr1
                  have hkk := (blk_cell HX2.out 3).trans rfl
                  have hff := blk_frozen HX2.out 3
                  go_wp2_with (first | (go_at_call 30; with_reducible refine (strings_CutPrefix.calls s _ rest ok0 _ HCP.out).mono ?_; rintro e w3 ⟨rfl, ⟨nd, rfl⟩⟩) | (go_at_call 42; with_reducible refine (desk_number.calls k rest v s2 true _ HNM.out).mono ?_; rintro e w4 ⟨rfl, ⟨nd2, rfl⟩⟩) | fail)
                  go_roundg kk
                  case measure => exact Nat.lt_succ_self _
                  case rel => exact ⟨p + 1, conn, text, v, s2, rfl, ⟨by have := HI.out; omega, by omega⟩, HG2, ⟨(Below.heap_setCell (W2.drewN (nd + nd2)) ⟨b0, 3, none⟩ (.int .i64 v) it HNI.out).trans HT2.out⟩, ⟨by simpa using blk_set (blk_below HX2.out (pw_below_drewN (Below.refl _ _) (nd + nd2))) 3 (.int .i64 v)⟩, ⟨(Below.heap_setCell (W2.drewN (nd + nd2)) ⟨b0, 3, none⟩ (.int .i64 v) b1 (Ne.symm HN01.out.2.2)).trans HR2.out⟩, ⟨Below.setCell (pw_below_drewN HB2.out (nd + nd2)) (p := ⟨b0, 3, none⟩) HN01.out.1 _⟩⟩
                · rw [if_neg e3] at hgo
                  have HG2 := Aside0.mk hgo
                  clear hgo
                  have hr2 : ((c.toNat : Int) == 99) = false := by
                    refine beq_eq_false_iff_ne.mpr (fun hh => e2 (UInt8.toNat_inj.mp ?_))
                    show c.toNat = 99
                    omega
                  have hr3 : ((c.toNat : Int) == 110) = false := by
                    refine beq_eq_false_iff_ne.mpr (fun hh => e3 (UInt8.toNat_inj.mp ?_))
                    show c.toNat = 110
                    omega
                  obtain ⟨rn_, hrn⟩ : ∃ r : Int, (c.toNat : Int) = r := ⟨_, rfl⟩
                  rw [hrn] at hnx hr1 hr2 hr3
                  clear hrn
                  go_wp2_with (first | (go_at_call 30; with_reducible refine (strings_CutPrefix.calls s _ rest ok0 _ HCP.out).mono ?_; rintro e w3 ⟨rfl, ⟨nd, rfl⟩⟩) | (go_at_call 42; with_reducible refine (desk_number.calls k rest v s2 true _ HNM.out).mono ?_; rintro e w4 ⟨rfl, ⟨nd2, rfl⟩⟩) | fail)
                  go_roundg kk
                  case measure => exact Nat.lt_succ_self _
                  case rel => exact ⟨p + 1, conn, text, n, s2, rfl, ⟨by have := HI.out; omega, by omega⟩, HG2, ⟨HT2.out⟩, ⟨blk_below HX2.out (pw_below_drewN (Below.refl _ _) (nd + nd2))⟩, ⟨blk_below HR2.out (pw_below_drewN (Below.refl _ _) (nd + nd2))⟩, ⟨pw_below_drewN HB2.out (nd + nd2)⟩⟩
        · have hnx : ∀ ty, (Instr.next (.pointer (some ⟨it, 0, none⟩)) true ty).run Try.prog wr = .ok (.tuple #[.bool false]) wr := fun ty => Lib.run_next_end_at wr it signs p ty HH.out cp
          have hgo := HA.out
          rw [List.drop_of_length_le (by rw [Array.length_toList]; exact Nat.le_of_not_lt cp)] at hgo
          unfold desk_fields.go at hgo
          simp only [Option.some.injEq, Prod.mk.injEq] at hgo
          obtain ⟨rfl, rfl, rfl, rfl, hrb⟩ := hgo
          have hk0 := (blk_cell HX.out 0).trans rfl
          have hk1 := (blk_cell HX.out 1).trans rfl
          have hk2 := (blk_cell HX.out 2).trans rfl
          have hk3 := (blk_cell HX.out 3).trans rfl
          have hr0 := (blk_cell HR.out 0).trans rfl
          have hr1 := (blk_cell HR.out 1).trans rfl
          have hr2 := (blk_cell HR.out 2).trans rfl
          have hr3 := (blk_cell HR.out 3).trans rfl
          have hf0 := blk_frozen HR.out 0
          have hf1 := blk_frozen HR.out 1
          have hf2 := blk_frozen HR.out 2
          have hf3 := blk_frozen HR.out 3
          go_wp2
          have g4 := blk_set (blk_set (blk_set (blk_set HR.out 0 (.int .i64 kind)) 1 (.int .i64 conn)) 2 (.string text)) 3 (.int .i64 n)
          refine bodyPost_ret (results_ct rfl _ _ b1 30 #[.int .i64 kind, .int .i64 conn, .string text, .int .i64 n] (0, 0) _ rfl (by simpa using g4) Try.underlying30 rfl (by kernel_rfl)) rfl ?_
          exact ⟨rfl, Below.setCell (Below.setCell (Below.setCell (Below.setCell HW.out (p := ⟨b1, 0, none⟩) HN01.out.2.1 _) (p := ⟨b1, 1, none⟩) HN01.out.2.1 _) (p := ⟨b1, 2, none⟩) HN01.out.2.1 _) (p := ⟨b1, 3, none⟩) HN01.out.2.1 _⟩
  · rw [if_neg hall] at h
    cases h


/-! ### desk_Parse: function 15 -/
def desk_Parse.l0 : Nat → ByteArray → Int → Option (Int × Int × ByteArray × Int × Int)
  | 0, _, _ => none
  | k + 1, x0, x4 => if x4 ≤ 6 then ((desk_form.f x4).bind fun bt125 => ((strings_CutPrefix.f x0 bt125.1).bind fun bt127 => (if bt127.2 = true then ((desk_fields.f k x4 0 (⟨#[]⟩ : ByteArray) 0 bt125.2 bt127.1).bind fun bt129 => ((desk_Line.f k bt129.1 bt129.2.1 bt129.2.2.1 bt129.2.2.2.1).bind fun bt135 => (if bt129.2.2.2.2 = true then (if bt135.2 = 0 then (if bt135.1.toList = x0.toList then (some (bt129.1, bt129.2.1, bt129.2.2.1, bt129.2.2.2.1, 0)) else (desk_Parse.l0 k x0 (wrap64 (x4 + 1)))) else (desk_Parse.l0 k x0 (wrap64 (x4 + 1)))) else (desk_Parse.l0 k x0 (wrap64 (x4 + 1)))))) else (desk_Parse.l0 k x0 (wrap64 (x4 + 1)))))) else (some (0, 0, (⟨#[]⟩ : ByteArray), 0, 3))
def desk_Parse.f (k : Nat) (a0 : ByteArray) : Option (Int × Int × ByteArray × Int × Int) := desk_Parse.l0 k a0 1
theorem desk_Parse.mono_l : ∀ k, (∀ y0 y1, LeO (desk_Parse.l0 k y0 y1) (desk_Parse.l0 (k + 1) y0 y1))
  | 0 => fun _ _ r h => by simp [desk_Parse.l0] at h
  | k + 1 => by
    have ih0 := desk_Parse.mono_l k
    · intro y0 y1
      unfold desk_Parse.l0
      repeat' first
      | (with_reducible exact ih0 _ _)
      | (with_reducible exact desk_Line.mono _ _ _ _ _)
      | (with_reducible exact desk_fields.mono _ _ _ _ _ _ _)
      | (with_reducible exact LeO.refl _)
      | (with_reducible exact LeO.none _)
      | (with_reducible refine LeO.ite ?_ ?_)
      | (with_reducible refine LeO.bind ?_ (fun _ => ?_))
      | exact ih0 _ _
      | exact desk_Line.mono _ _ _ _ _
      | exact desk_fields.mono _ _ _ _ _ _ _
      | exact LeO.none _
      | refine LeO.ite ?_ ?_
      | refine LeO.bind ?_ (fun _ => ?_)
theorem desk_Parse.mono : ∀ a0 k, LeO (desk_Parse.f k a0) (desk_Parse.f (k + 1) a0) := by
  intro a0 k
  have ih0 := desk_Parse.mono_l k
  unfold desk_Parse.f
  repeat' first
      | (with_reducible exact ih0 _ _)
      | (with_reducible exact desk_Line.mono _ _ _ _ _)
      | (with_reducible exact desk_fields.mono _ _ _ _ _ _ _)
      | (with_reducible exact LeO.refl _)
      | (with_reducible exact LeO.none _)
      | (with_reducible refine LeO.ite ?_ ?_)
      | (with_reducible refine LeO.bind ?_ (fun _ => ?_))
      | exact ih0 _ _
      | exact desk_Line.mono _ _ _ _ _
      | exact desk_fields.mono _ _ _ _ _ _ _
      | exact LeO.none _
      | refine LeO.ite ?_ ?_
      | refine LeO.bind ?_ (fun _ => ?_)
set_option maxHeartbeats 8000000 in
set_option maxRecDepth 100000 in
theorem desk_Parse.calls (k : Nat) (a0 : ByteArray) (r1 : Int) (r2 : Int) (r3 : ByteArray) (r4 : Int) (r5 : Int) (w : World) (h : desk_Parse.f k a0 = some (r1, r2, r3, r4, r5)) :
    Calls Try.prog 15 #[.string a0] w fun e w' => e = .returned (.tuple #[.agg #[.int .i64 r1, .int .i64 r2, .string r3, .int .i64 r4], .int .i64 r5]) ∧ Below w.heap.size w w' := by
  have hu30 := Try.underlying30
  have HB := Aside0.mk (Below.refl w.heap.size w)
  have H : (desk_Parse.l0 k a0 1) = some (r1, r2, r3, r4, r5) := h
  clear h
  have H' := Aside0.mk H
  clear H
  go_enter Try.func15, Try.ntmps15
  go_wp2_with (first | ((with_reducible refine gate_dst (N := 2) rfl ?_); refine box_event ?hg (N := 2) ?hd (cs := #[.int .i64 0, .int .i64 0, .string (⟨#[]⟩ : ByteArray), .int .i64 0]) (t := 30) ?hr ?_; (case hd => rfl); (case hg => rfl); (case hr => first | (go_simp; done) | (go_simp; rfl)); intro gb124 hg w2 hbox hb; have n0_ := Aside0.mk (below_step (by repeat (first | (with_reducible first | exact HB.out | apply below_alloc | apply pw_below_drewN | apply below_drew1) | exact HB.out)) hb); have n1_ := Aside0.mk (hbox); have n2_ := Aside0.mk ((by rw [hg]; exact (below_size (by repeat (first | (with_reducible first | exact HB.out | apply below_alloc | apply pw_below_drewN | apply below_drew1) | exact HB.out))) : w.heap.size ≤ gb124)); have n3_ := Aside0.mk ((by rw [hg]; exact (below_size (by repeat (first | (with_reducible first | exact HB.out | apply below_alloc | apply pw_below_drewN | apply below_drew1) | exact HB.out))) : w.heap.size ≤ gb124)); clear HB; have HB := n0_; have BK124 := n1_; have GW124 := n2_; have GE124 := n3_; clear n0_ n1_ n2_ n3_; clear hb hbox hg))
  go_loopg [4] k (fun kq v4 w' => ∃ (x4_1 : Int) (x125000_1 : Int) (x125001_1 : Int) (x125002_1 : ByteArray) (x125003_1 : Int), v4 = .int .i64 x4_1 ∧ Aside0 (desk_Parse.l0 kq a0 x4_1 = some (r1, r2, r3, r4, r5)) ∧ Aside0 (kq ≤ k) ∧ Aside0 (w'.heap[gb124]? = some (.cells #[.int .i64 x125000_1, .int .i64 x125001_1, .string x125002_1, .int .i64 x125003_1] 30 (0, 0))) ∧ Aside0 (Below w.heap.size w w'))
  case atStart => exact ⟨(1), (0), (0), ((⟨#[]⟩ : ByteArray)), (0), (by first | rfl | (simp; done) | (simp [*]; done) | (simp only [i64_w, i32_w]; done) | (simp [i64_w, i32_w, *]; done) | (simp [gp_ne]; done) | (simp [gp_ne, i64_w, i32_w, *]; done) | (simp [i64_w, i32_w]; (try unfold wrap64); (try unfold wrap32); omega)), H', ⟨Nat.le_refl _⟩, ⟨by (with_reducible repeat (first | refine blk_drewN ?_ _ | refine blk_drew ?_ | refine blk_alloc ?_ _)); exact BK124.out⟩, ⟨by repeat (first | (with_reducible first | exact HB.out | apply below_alloc | apply pw_below_drewN | apply below_drew1 | refine below_set ?_ GE124.out) | exact HB.out)⟩⟩
  case round =>
    clear H'
    try clear c1
    try clear p2
    obtain ⟨x4_1, x125000_1, x125001_1, x125002_1, x125003_1, rfl, HA, HK1, BK124, HB⟩ := hrel
    cases gk with
    | zero => exact absurd HA.out (by simp [desk_Parse.l0])
    | succ k1 =>
      have H := HA.out
      clear HA
      simp only [desk_Parse.l0] at H
      by_cases c3 : x4_1 ≤ 6
      · rw [if_pos c3] at H
        have c3b0 : decide (x4_1 ≤ 6) = true := decide_eq_true c3
        clear c3
        replace H := Option.bind_eq_some_iff.mp H
        obtain ⟨⟨t125, t126⟩, A40, H⟩ := H
        replace H : ((strings_CutPrefix.f a0 t125).bind fun bt127 => (if bt127.2 = true then ((desk_fields.f k1 x4_1 0 (⟨#[]⟩ : ByteArray) 0 t126 bt127.1).bind fun bt129 => ((desk_Line.f k1 bt129.1 bt129.2.1 bt129.2.2.1 bt129.2.2.2.1).bind fun bt135 => (if bt129.2.2.2.2 = true then (if bt135.2 = 0 then (if bt135.1.toList = a0.toList then (some (bt129.1, bt129.2.1, bt129.2.2.1, bt129.2.2.2.1, 0)) else (desk_Parse.l0 k1 a0 (wrap64 (x4_1 + 1)))) else (desk_Parse.l0 k1 a0 (wrap64 (x4_1 + 1)))) else (desk_Parse.l0 k1 a0 (wrap64 (x4_1 + 1)))))) else (desk_Parse.l0 k1 a0 (wrap64 (x4_1 + 1))))) = some (r1, r2, r3, r4, r5) := H
        have A4 := Aside0.mk A40
        clear A40
        replace H := Option.bind_eq_some_iff.mp H
        obtain ⟨⟨t127, t128⟩, A50, H⟩ := H
        replace H : (if t128 = true then ((desk_fields.f k1 x4_1 0 (⟨#[]⟩ : ByteArray) 0 t126 t127).bind fun bt129 => ((desk_Line.f k1 bt129.1 bt129.2.1 bt129.2.2.1 bt129.2.2.2.1).bind fun bt135 => (if bt129.2.2.2.2 = true then (if bt135.2 = 0 then (if bt135.1.toList = a0.toList then (some (bt129.1, bt129.2.1, bt129.2.2.1, bt129.2.2.2.1, 0)) else (desk_Parse.l0 k1 a0 (wrap64 (x4_1 + 1)))) else (desk_Parse.l0 k1 a0 (wrap64 (x4_1 + 1)))) else (desk_Parse.l0 k1 a0 (wrap64 (x4_1 + 1)))))) else (desk_Parse.l0 k1 a0 (wrap64 (x4_1 + 1)))) = some (r1, r2, r3, r4, r5) := H
        have A5 := Aside0.mk A50
        clear A50
        by_cases c6 : t128 = true
        · subst c6
          have H1 : ((desk_fields.f k1 x4_1 0 (⟨#[]⟩ : ByteArray) 0 t126 t127).bind fun bt129 => ((desk_Line.f k1 bt129.1 bt129.2.1 bt129.2.2.1 bt129.2.2.2.1).bind fun bt135 => (if bt129.2.2.2.2 = true then (if bt135.2 = 0 then (if bt135.1.toList = a0.toList then (some (bt129.1, bt129.2.1, bt129.2.2.1, bt129.2.2.2.1, 0)) else (desk_Parse.l0 k1 a0 (wrap64 (x4_1 + 1)))) else (desk_Parse.l0 k1 a0 (wrap64 (x4_1 + 1)))) else (desk_Parse.l0 k1 a0 (wrap64 (x4_1 + 1)))))) = some (r1, r2, r3, r4, r5) := by rw [if_pos rfl] at H; exact H
          clear H
          have H := H1
          clear H1
          replace H := Option.bind_eq_some_iff.mp H
          obtain ⟨⟨t129, t130, t131, t132, t133⟩, A70, H⟩ := H
          replace H : ((desk_Line.f k1 t129 t130 t131 t132).bind fun bt135 => (if t133 = true then (if bt135.2 = 0 then (if bt135.1.toList = a0.toList then (some (t129, t130, t131, t132, 0)) else (desk_Parse.l0 k1 a0 (wrap64 (x4_1 + 1)))) else (desk_Parse.l0 k1 a0 (wrap64 (x4_1 + 1)))) else (desk_Parse.l0 k1 a0 (wrap64 (x4_1 + 1))))) = some (r1, r2, r3, r4, r5) := H
          have A7 := Aside0.mk A70
          clear A70
          replace H := Option.bind_eq_some_iff.mp H
          obtain ⟨⟨t135, t136⟩, A80, H⟩ := H
          replace H : (if t133 = true then (if t136 = 0 then (if t135.toList = a0.toList then (some (t129, t130, t131, t132, 0)) else (desk_Parse.l0 k1 a0 (wrap64 (x4_1 + 1)))) else (desk_Parse.l0 k1 a0 (wrap64 (x4_1 + 1)))) else (desk_Parse.l0 k1 a0 (wrap64 (x4_1 + 1)))) = some (r1, r2, r3, r4, r5) := H
          have A8 := Aside0.mk A80
          clear A80
          by_cases c9 : t133 = true
          · subst c9
            have H1 : (if t136 = 0 then (if t135.toList = a0.toList then (some (t129, t130, t131, t132, 0)) else (desk_Parse.l0 k1 a0 (wrap64 (x4_1 + 1)))) else (desk_Parse.l0 k1 a0 (wrap64 (x4_1 + 1)))) = some (r1, r2, r3, r4, r5) := by rw [if_pos rfl] at H; exact H
            clear H
            have H := H1
            clear H1
            by_cases c10 : t136 = 0
            · rw [if_pos c10] at H
              have c10b0 : (t136 == 0) = true := beq_iff_eq.mpr c10
              have c10b1 : (t136 != 0) = false := bne_eq_false_iff_eq.mpr c10
              clear c10
              by_cases c11 : t135.toList = a0.toList
              · rw [if_pos c11] at H
                have c11b0 : (t135.toList == a0.toList) = true := beq_iff_eq.mpr c11
                have c11b1 : (t135.toList != a0.toList) = false := bne_eq_false_iff_eq.mpr c11
                clear c11
                simp only [Option.some.injEq, Prod.mk.injEq] at H
                obtain ⟨rfl, rfl, rfl, rfl, rfl⟩ := H
                go_wp2_with (first | ((with_reducible refine gate_callee (f := 24) rfl ?_); refine goesL_ (some 19) rfl rfl Try.func24 (by kernel_rfl) rfl #[.int .i64 x4_1] rfl (by (try simp only [List.map_toArray, List.map_cons, List.map_nil]); first | done | rfl | (simp only [List.length_drop, List.length_take]; rfl)) ?_; (with_reducible refine (desk_form.calls x4_1 t125 t126 _ A4.out).mono ?_); rintro e w' ⟨rfl, ⟨nd, rfl⟩⟩; refine ⟨_, rfl, ?_⟩; (try (rw [drewN_self wr]; generalize hq_ : World.drewN wr _ = wr; have n0_ : Aside0 (wr.heap[gb124]? = some (.cells #[.int .i64 x125000_1, .int .i64 x125001_1, .string x125002_1, .int .i64 x125003_1] 30 (0, 0))) := ⟨by rw [← hq_]; exact (by (with_reducible repeat (first | refine blk_drewN ?_ _ | refine blk_drew ?_ | refine blk_alloc ?_ _)); exact BK124.out)⟩; have n1_ : Aside0 (Below w.heap.size w wr) := ⟨by rw [← hq_]; exact (by repeat (first | (with_reducible first | exact HB.out | apply below_alloc | apply pw_below_drewN | apply below_drew1 | refine below_set ?_ GE124.out) | exact HB.out))⟩; clear BK124 HB hq_; have BK124 := n0_; have HB := n1_; clear n0_ n1_)); (try (have hcu12_0 : wr.cell? ⟨gb124, 0, none⟩ = some (.int .i64 x125000_1) := (blk_cell BK124.out 0).trans rfl; have hfcu12_0 := blk_frozen BK124.out 0)); (try (have hcu12_1 : wr.cell? ⟨gb124, 1, none⟩ = some (.int .i64 x125001_1) := (blk_cell BK124.out 1).trans rfl; have hfcu12_1 := blk_frozen BK124.out 1)); (try (have hcu12_2 : wr.cell? ⟨gb124, 2, none⟩ = some (.string x125002_1) := (blk_cell BK124.out 2).trans rfl; have hfcu12_2 := blk_frozen BK124.out 2)); (try (have hcu12_3 : wr.cell? ⟨gb124, 3, none⟩ = some (.int .i64 x125003_1) := (blk_cell BK124.out 3).trans rfl; have hfcu12_3 := blk_frozen BK124.out 3))) | ((with_reducible refine gate_callee (f := 30) rfl ?_); refine goesL_ (some 25) rfl rfl Try.func30 (by kernel_rfl) rfl #[.string a0, .string t125] rfl (by (try simp only [List.map_toArray, List.map_cons, List.map_nil]); first | done | rfl | (simp only [List.length_drop, List.length_take]; rfl)) ?_; (with_reducible refine (strings_CutPrefix.calls a0 t125 t127 true _ A5.out).mono ?_); rintro e w' ⟨rfl, ⟨nd, rfl⟩⟩; refine ⟨_, rfl, ?_⟩; (try (rw [drewN_self wr]; generalize hq_ : World.drewN wr _ = wr; have n0_ : Aside0 (wr.heap[gb124]? = some (.cells #[.int .i64 x125000_1, .int .i64 x125001_1, .string x125002_1, .int .i64 x125003_1] 30 (0, 0))) := ⟨by rw [← hq_]; exact (by (with_reducible repeat (first | refine blk_drewN ?_ _ | refine blk_drew ?_ | refine blk_alloc ?_ _)); exact BK124.out)⟩; have n1_ : Aside0 (Below w.heap.size w wr) := ⟨by rw [← hq_]; exact (by repeat (first | (with_reducible first | exact HB.out | apply below_alloc | apply pw_below_drewN | apply below_drew1 | refine below_set ?_ GE124.out) | exact HB.out))⟩; clear BK124 HB hq_; have BK124 := n0_; have HB := n1_; clear n0_ n1_)); (try (have hcu13_0 : wr.cell? ⟨gb124, 0, none⟩ = some (.int .i64 x125000_1) := (blk_cell BK124.out 0).trans rfl; have hfcu13_0 := blk_frozen BK124.out 0)); (try (have hcu13_1 : wr.cell? ⟨gb124, 1, none⟩ = some (.int .i64 x125001_1) := (blk_cell BK124.out 1).trans rfl; have hfcu13_1 := blk_frozen BK124.out 1)); (try (have hcu13_2 : wr.cell? ⟨gb124, 2, none⟩ = some (.string x125002_1) := (blk_cell BK124.out 2).trans rfl; have hfcu13_2 := blk_frozen BK124.out 2)); (try (have hcu13_3 : wr.cell? ⟨gb124, 3, none⟩ = some (.int .i64 x125003_1) := (blk_cell BK124.out 3).trans rfl; have hfcu13_3 := blk_frozen BK124.out 3))) | ((with_reducible refine gate_callee (f := 31) rfl ?_); refine goesL_ (some 35) rfl rfl Try.func31 (by kernel_rfl) rfl #[.agg #[.int .i64 x4_1, .int .i64 0, .string (⟨#[]⟩ : ByteArray), .int .i64 0], .string t126, .string t127] rfl (by (try simp only [List.map_toArray, List.map_cons, List.map_nil]); first | done | rfl | (simp only [List.length_drop, List.length_take]; rfl)) ?_; (with_reducible refine (desk_fields.calls k1 x4_1 0 (⟨#[]⟩ : ByteArray) 0 t126 t127 t129 t130 t131 t132 true _ A7.out).mono ?_); rintro e w14 ⟨rfl, hb⟩; refine ⟨_, rfl, ?_⟩; have n0_ := Aside0.mk (blk_below (g := gb124) (o := .cells #[.int .i64 x125000_1, .int .i64 x125001_1, .string x125002_1, .int .i64 x125003_1] 30 (0, 0)) (by (with_reducible repeat (first | refine blk_drewN ?_ _ | refine blk_drew ?_ | refine blk_alloc ?_ _)); exact BK124.out) hb); have n1_ := Aside0.mk (below_step (by repeat (first | (with_reducible first | exact HB.out | apply below_alloc | apply pw_below_drewN | apply below_drew1 | refine below_set ?_ GE124.out) | exact HB.out)) hb); clear BK124; clear HB; have BK124 := n0_; have HB := n1_; clear n0_ n1_; (try clear hb); (try clear hb2); (try clear hk); (try clear hi)) | ((with_reducible refine gate_dst (N := 9) rfl ?_); refine box_event ?hg (N := 9) ?hd (cs := #[.int .i64 0, .int .i64 0, .string (⟨#[]⟩ : ByteArray), .int .i64 0]) (t := 30) ?hr ?_; (case hd => rfl); (case hg => rfl); (case hr => first | (go_simp; done) | (go_simp; rfl)); intro gb134 hg w15 hbox hb; have n0_ := Aside0.mk (blk_below (g := gb124) (o := .cells #[.int .i64 x125000_1, .int .i64 x125001_1, .string x125002_1, .int .i64 x125003_1] 30 (0, 0)) (by (with_reducible repeat (first | refine blk_drewN ?_ _ | refine blk_drew ?_ | refine blk_alloc ?_ _)); exact BK124.out) hb); have n1_ := Aside0.mk (below_step (by repeat (first | (with_reducible first | exact HB.out | apply below_alloc | apply pw_below_drewN | apply below_drew1 | refine below_set ?_ GE124.out) | exact HB.out)) hb); have n2_ := Aside0.mk (hbox); have n3_ := Aside0.mk ((by rw [hg]; exact (below_size (by repeat (first | (with_reducible first | exact HB.out | apply below_alloc | apply pw_below_drewN | apply below_drew1 | refine below_set ?_ GE124.out) | exact HB.out))) : w.heap.size ≤ gb134)); have n4_ := Aside0.mk ((by rw [hg]; exact (below_size (by repeat (first | (with_reducible first | exact HB.out | apply below_alloc | apply pw_below_drewN | apply below_drew1 | refine below_set ?_ GE124.out) | exact HB.out))) : w.heap.size ≤ gb134)); have n5_ := Aside0.mk ((by rw [hg]; exact Nat.ne_of_lt (blk_lt (g := gb124) (o := .cells #[.int .i64 x125000_1, .int .i64 x125001_1, .string x125002_1, .int .i64 x125003_1] 30 (0, 0)) (by (with_reducible repeat (first | refine blk_drewN ?_ _ | refine blk_drew ?_ | refine blk_alloc ?_ _)); exact BK124.out)) : gb124 ≠ gb134)); have n6_ := Aside0.mk ((by rw [hg]; exact Nat.ne_of_gt (blk_lt (g := gb124) (o := .cells #[.int .i64 x125000_1, .int .i64 x125001_1, .string x125002_1, .int .i64 x125003_1] 30 (0, 0)) (by (with_reducible repeat (first | refine blk_drewN ?_ _ | refine blk_drew ?_ | refine blk_alloc ?_ _)); exact BK124.out)) : gb134 ≠ gb124)); clear BK124; clear HB; have BK124 := n0_; have HB := n1_; have BK134 := n2_; have GW134 := n3_; have GE134 := n4_; have NB124_134 := n5_; have NB134_124 := n6_; clear n0_ n1_ n2_ n3_ n4_ n5_ n6_; clear hb hbox hg; have hnb16 := NB134_124.out; have hnc16 := NB124_134.out; have hcz17_0 : w15.cell? ⟨gb134, 0, none⟩ = some (.int .i64 0) := (blk_cell BK134.out 0).trans rfl; have hcz17_1 : w15.cell? ⟨gb134, 1, none⟩ = some (.int .i64 0) := (blk_cell BK134.out 1).trans rfl; have hcz17_2 : w15.cell? ⟨gb134, 2, none⟩ = some (.string (⟨#[]⟩ : ByteArray)) := (blk_cell BK134.out 2).trans rfl; have hcz17_3 : w15.cell? ⟨gb134, 3, none⟩ = some (.int .i64 0) := (blk_cell BK134.out 3).trans rfl; have hfz17_0 := blk_frozen BK134.out 0; have hfz17_1 := blk_frozen BK134.out 1; have hfz17_2 := blk_frozen BK134.out 2; have hfz17_3 := blk_frozen BK134.out 3) | ((with_reducible refine gate_callee (f := 13) rfl ?_); refine goesL_ (some 40) rfl rfl Try.func13 (by kernel_rfl) rfl #[.agg #[.int .i64 t129, .int .i64 t130, .string t131, .int .i64 t132]] rfl (by (try simp only [List.map_toArray, List.map_cons, List.map_nil]); first | done | rfl | (simp only [List.length_drop, List.length_take]; rfl)) ?_; (with_reducible refine (desk_Line.calls k1 t129 t130 t131 t132 t135 t136 _ A8.out).mono ?_); rintro e w18 ⟨rfl, hb⟩; refine ⟨_, rfl, ?_⟩; have n0_ := Aside0.mk (blk_below (g := gb124) (o := .cells #[.int .i64 x125000_1, .int .i64 x125001_1, .string x125002_1, .int .i64 x125003_1] 30 (0, 0)) (by (with_reducible repeat (first | refine blk_drewN ?_ _ | refine blk_drew ?_ | refine blk_alloc ?_ _)); refine blk_far ?_ NB124_134.out _; (with_reducible repeat (first | refine blk_drewN ?_ _ | refine blk_drew ?_ | refine blk_alloc ?_ _)); refine blk_far ?_ NB124_134.out _; (with_reducible repeat (first | refine blk_drewN ?_ _ | refine blk_drew ?_ | refine blk_alloc ?_ _)); refine blk_far ?_ NB124_134.out _; (with_reducible repeat (first | refine blk_drewN ?_ _ | refine blk_drew ?_ | refine blk_alloc ?_ _)); refine blk_far ?_ NB124_134.out _; (with_reducible repeat (first | refine blk_drewN ?_ _ | refine blk_drew ?_ | refine blk_alloc ?_ _)); exact BK124.out) hb); have n1_ := Aside0.mk (blk_below (g := gb134) (o := .cells #[.int .i64 t129, .int .i64 t130, .string t131, .int .i64 t132] 30 (0, 0)) (by (with_reducible repeat (first | refine blk_drewN ?_ _ | refine blk_drew ?_ | refine blk_alloc ?_ _)); refine blk_put (cs := #[.int .i64 t129, .int .i64 t130, .string t131, .int .i64 0]) ?_ 3 _ rfl; (with_reducible repeat (first | refine blk_drewN ?_ _ | refine blk_drew ?_ | refine blk_alloc ?_ _)); refine blk_put (cs := #[.int .i64 t129, .int .i64 t130, .string (⟨#[]⟩ : ByteArray), .int .i64 0]) ?_ 2 _ rfl; (with_reducible repeat (first | refine blk_drewN ?_ _ | refine blk_drew ?_ | refine blk_alloc ?_ _)); refine blk_put (cs := #[.int .i64 t129, .int .i64 0, .string (⟨#[]⟩ : ByteArray), .int .i64 0]) ?_ 1 _ rfl; (with_reducible repeat (first | refine blk_drewN ?_ _ | refine blk_drew ?_ | refine blk_alloc ?_ _)); refine blk_put (cs := #[.int .i64 0, .int .i64 0, .string (⟨#[]⟩ : ByteArray), .int .i64 0]) ?_ 0 _ rfl; (with_reducible repeat (first | refine blk_drewN ?_ _ | refine blk_drew ?_ | refine blk_alloc ?_ _)); exact BK134.out) hb); have n2_ := Aside0.mk (below_step (by repeat (first | (with_reducible first | exact HB.out | apply below_alloc | apply pw_below_drewN | apply below_drew1 | refine below_set ?_ GE124.out | refine below_set ?_ GE134.out) | exact HB.out)) hb); clear BK124; clear BK134; clear HB; have BK124 := n0_; have BK134 := n1_; have HB := n2_; clear n0_ n1_ n2_; (try clear hb); (try clear hb2); (try clear hk); (try clear hi); have hcz19_0 : w18.cell? ⟨gb134, 0, none⟩ = some (.int .i64 t129) := (blk_cell BK134.out 0).trans rfl; have hcz19_1 : w18.cell? ⟨gb134, 1, none⟩ = some (.int .i64 t130) := (blk_cell BK134.out 1).trans rfl; have hcz19_2 : w18.cell? ⟨gb134, 2, none⟩ = some (.string t131) := (blk_cell BK134.out 2).trans rfl; have hcz19_3 : w18.cell? ⟨gb134, 3, none⟩ = some (.int .i64 t132) := (blk_cell BK134.out 3).trans rfl; have hfz19_0 := blk_frozen BK134.out 0; have hfz19_1 := blk_frozen BK134.out 1; have hfz19_2 := blk_frozen BK134.out 2; have hfz19_3 := blk_frozen BK134.out 3; have hcz20_0 : w18.cell? ⟨gb124, 0, none⟩ = some (.int .i64 x125000_1) := (blk_cell BK124.out 0).trans rfl; have hcz20_1 : w18.cell? ⟨gb124, 1, none⟩ = some (.int .i64 x125001_1) := (blk_cell BK124.out 1).trans rfl; have hcz20_2 : w18.cell? ⟨gb124, 2, none⟩ = some (.string x125002_1) := (blk_cell BK124.out 2).trans rfl; have hcz20_3 : w18.cell? ⟨gb124, 3, none⟩ = some (.int .i64 x125003_1) := (blk_cell BK124.out 3).trans rfl; have hfz20_0 := blk_frozen BK124.out 0; have hfz20_1 := blk_frozen BK124.out 1; have hfz20_2 := blk_frozen BK124.out 2; have hfz20_3 := blk_frozen BK124.out 3))
                refine bodyPost_ret (results_ct rfl _ _ gb124 30 #[.int .i64 t129, .int .i64 t130, .string t131, .int .i64 t132] (0, 0) _ rfl (by (with_reducible repeat (first | refine blk_drewN ?_ _ | refine blk_drew ?_ | refine blk_alloc ?_ _)); refine blk_put (cs := #[.int .i64 t129, .int .i64 t130, .string t131, .int .i64 x125003_1]) ?_ 3 _ rfl; (with_reducible repeat (first | refine blk_drewN ?_ _ | refine blk_drew ?_ | refine blk_alloc ?_ _)); refine blk_put (cs := #[.int .i64 t129, .int .i64 t130, .string x125002_1, .int .i64 x125003_1]) ?_ 2 _ rfl; (with_reducible repeat (first | refine blk_drewN ?_ _ | refine blk_drew ?_ | refine blk_alloc ?_ _)); refine blk_put (cs := #[.int .i64 t129, .int .i64 x125001_1, .string x125002_1, .int .i64 x125003_1]) ?_ 1 _ rfl; (with_reducible repeat (first | refine blk_drewN ?_ _ | refine blk_drew ?_ | refine blk_alloc ?_ _)); refine blk_put (cs := #[.int .i64 x125000_1, .int .i64 x125001_1, .string x125002_1, .int .i64 x125003_1]) ?_ 0 _ rfl; (with_reducible repeat (first | refine blk_drewN ?_ _ | refine blk_drew ?_ | refine blk_alloc ?_ _)); exact BK124.out) Try.underlying30 rfl (by kernel_rfl)) rfl ?_
                exact ⟨by first | rfl | (simp [errW_none, errW_some] <;> rfl) | (simp [*, errW_none, errW_some] <;> rfl) | (simp [gp_ne]; done) | (simp [gp_ne, i64_w, i32_w, *]; done) | (simp [i64_w, i32_w]; (try unfold wrap64); (try unfold wrap32); omega), by repeat (first | (with_reducible first | exact HB.out | apply below_alloc | apply pw_below_drewN | apply below_drew1 | refine below_set ?_ GE124.out | refine below_set ?_ GE134.out) | exact HB.out)⟩
              · rw [if_neg c11] at H
                have c11b0 : (t135.toList == a0.toList) = false := beq_eq_false_iff_ne.mpr c11
                have c11b1 : (t135.toList != a0.toList) = true := bne_iff_ne.mpr c11
                have H' := Aside0.mk H
                clear H
                go_wp2_with (first | ((with_reducible refine gate_callee (f := 24) rfl ?_); refine goesL_ (some 19) rfl rfl Try.func24 (by kernel_rfl) rfl #[.int .i64 x4_1] rfl (by (try simp only [List.map_toArray, List.map_cons, List.map_nil]); first | done | rfl | (simp only [List.length_drop, List.length_take]; rfl)) ?_; (with_reducible refine (desk_form.calls x4_1 t125 t126 _ A4.out).mono ?_); rintro e w' ⟨rfl, ⟨nd, rfl⟩⟩; refine ⟨_, rfl, ?_⟩; (try (rw [drewN_self wr]; generalize hq_ : World.drewN wr _ = wr; have n0_ : Aside0 (wr.heap[gb124]? = some (.cells #[.int .i64 x125000_1, .int .i64 x125001_1, .string x125002_1, .int .i64 x125003_1] 30 (0, 0))) := ⟨by rw [← hq_]; exact (by (with_reducible repeat (first | refine blk_drewN ?_ _ | refine blk_drew ?_ | refine blk_alloc ?_ _)); exact BK124.out)⟩; have n1_ : Aside0 (Below w.heap.size w wr) := ⟨by rw [← hq_]; exact (by repeat (first | (with_reducible first | exact HB.out | apply below_alloc | apply pw_below_drewN | apply below_drew1 | refine below_set ?_ GE124.out) | exact HB.out))⟩; clear BK124 HB hq_; have BK124 := n0_; have HB := n1_; clear n0_ n1_)); (try (have hcu21_0 : wr.cell? ⟨gb124, 0, none⟩ = some (.int .i64 x125000_1) := (blk_cell BK124.out 0).trans rfl; have hfcu21_0 := blk_frozen BK124.out 0)); (try (have hcu21_1 : wr.cell? ⟨gb124, 1, none⟩ = some (.int .i64 x125001_1) := (blk_cell BK124.out 1).trans rfl; have hfcu21_1 := blk_frozen BK124.out 1)); (try (have hcu21_2 : wr.cell? ⟨gb124, 2, none⟩ = some (.string x125002_1) := (blk_cell BK124.out 2).trans rfl; have hfcu21_2 := blk_frozen BK124.out 2)); (try (have hcu21_3 : wr.cell? ⟨gb124, 3, none⟩ = some (.int .i64 x125003_1) := (blk_cell BK124.out 3).trans rfl; have hfcu21_3 := blk_frozen BK124.out 3))) | ((with_reducible refine gate_callee (f := 30) rfl ?_); refine goesL_ (some 25) rfl rfl Try.func30 (by kernel_rfl) rfl #[.string a0, .string t125] rfl (by (try simp only [List.map_toArray, List.map_cons, List.map_nil]); first | done | rfl | (simp only [List.length_drop, List.length_take]; rfl)) ?_; (with_reducible refine (strings_CutPrefix.calls a0 t125 t127 true _ A5.out).mono ?_); rintro e w' ⟨rfl, ⟨nd, rfl⟩⟩; refine ⟨_, rfl, ?_⟩; (try (rw [drewN_self wr]; generalize hq_ : World.drewN wr _ = wr; have n0_ : Aside0 (wr.heap[gb124]? = some (.cells #[.int .i64 x125000_1, .int .i64 x125001_1, .string x125002_1, .int .i64 x125003_1] 30 (0, 0))) := ⟨by rw [← hq_]; exact (by (with_reducible repeat (first | refine blk_drewN ?_ _ | refine blk_drew ?_ | refine blk_alloc ?_ _)); exact BK124.out)⟩; have n1_ : Aside0 (Below w.heap.size w wr) := ⟨by rw [← hq_]; exact (by repeat (first | (with_reducible first | exact HB.out | apply below_alloc | apply pw_below_drewN | apply below_drew1 | refine below_set ?_ GE124.out) | exact HB.out))⟩; clear BK124 HB hq_; have BK124 := n0_; have HB := n1_; clear n0_ n1_)); (try (have hcu22_0 : wr.cell? ⟨gb124, 0, none⟩ = some (.int .i64 x125000_1) := (blk_cell BK124.out 0).trans rfl; have hfcu22_0 := blk_frozen BK124.out 0)); (try (have hcu22_1 : wr.cell? ⟨gb124, 1, none⟩ = some (.int .i64 x125001_1) := (blk_cell BK124.out 1).trans rfl; have hfcu22_1 := blk_frozen BK124.out 1)); (try (have hcu22_2 : wr.cell? ⟨gb124, 2, none⟩ = some (.string x125002_1) := (blk_cell BK124.out 2).trans rfl; have hfcu22_2 := blk_frozen BK124.out 2)); (try (have hcu22_3 : wr.cell? ⟨gb124, 3, none⟩ = some (.int .i64 x125003_1) := (blk_cell BK124.out 3).trans rfl; have hfcu22_3 := blk_frozen BK124.out 3))) | ((with_reducible refine gate_callee (f := 31) rfl ?_); refine goesL_ (some 35) rfl rfl Try.func31 (by kernel_rfl) rfl #[.agg #[.int .i64 x4_1, .int .i64 0, .string (⟨#[]⟩ : ByteArray), .int .i64 0], .string t126, .string t127] rfl (by (try simp only [List.map_toArray, List.map_cons, List.map_nil]); first | done | rfl | (simp only [List.length_drop, List.length_take]; rfl)) ?_; (with_reducible refine (desk_fields.calls k1 x4_1 0 (⟨#[]⟩ : ByteArray) 0 t126 t127 t129 t130 t131 t132 true _ A7.out).mono ?_); rintro e w23 ⟨rfl, hb⟩; refine ⟨_, rfl, ?_⟩; have n0_ := Aside0.mk (blk_below (g := gb124) (o := .cells #[.int .i64 x125000_1, .int .i64 x125001_1, .string x125002_1, .int .i64 x125003_1] 30 (0, 0)) (by (with_reducible repeat (first | refine blk_drewN ?_ _ | refine blk_drew ?_ | refine blk_alloc ?_ _)); exact BK124.out) hb); have n1_ := Aside0.mk (below_step (by repeat (first | (with_reducible first | exact HB.out | apply below_alloc | apply pw_below_drewN | apply below_drew1 | refine below_set ?_ GE124.out) | exact HB.out)) hb); clear BK124; clear HB; have BK124 := n0_; have HB := n1_; clear n0_ n1_; (try clear hb); (try clear hb2); (try clear hk); (try clear hi)) | ((with_reducible refine gate_dst (N := 9) rfl ?_); refine box_event ?hg (N := 9) ?hd (cs := #[.int .i64 0, .int .i64 0, .string (⟨#[]⟩ : ByteArray), .int .i64 0]) (t := 30) ?hr ?_; (case hd => rfl); (case hg => rfl); (case hr => first | (go_simp; done) | (go_simp; rfl)); intro gb134 hg w24 hbox hb; have n0_ := Aside0.mk (blk_below (g := gb124) (o := .cells #[.int .i64 x125000_1, .int .i64 x125001_1, .string x125002_1, .int .i64 x125003_1] 30 (0, 0)) (by (with_reducible repeat (first | refine blk_drewN ?_ _ | refine blk_drew ?_ | refine blk_alloc ?_ _)); exact BK124.out) hb); have n1_ := Aside0.mk (below_step (by repeat (first | (with_reducible first | exact HB.out | apply below_alloc | apply pw_below_drewN | apply below_drew1 | refine below_set ?_ GE124.out) | exact HB.out)) hb); have n2_ := Aside0.mk (hbox); have n3_ := Aside0.mk ((by rw [hg]; exact (below_size (by repeat (first | (with_reducible first | exact HB.out | apply below_alloc | apply pw_below_drewN | apply below_drew1 | refine below_set ?_ GE124.out) | exact HB.out))) : w.heap.size ≤ gb134)); have n4_ := Aside0.mk ((by rw [hg]; exact (below_size (by repeat (first | (with_reducible first | exact HB.out | apply below_alloc | apply pw_below_drewN | apply below_drew1 | refine below_set ?_ GE124.out) | exact HB.out))) : w.heap.size ≤ gb134)); have n5_ := Aside0.mk ((by rw [hg]; exact Nat.ne_of_lt (blk_lt (g := gb124) (o := .cells #[.int .i64 x125000_1, .int .i64 x125001_1, .string x125002_1, .int .i64 x125003_1] 30 (0, 0)) (by (with_reducible repeat (first | refine blk_drewN ?_ _ | refine blk_drew ?_ | refine blk_alloc ?_ _)); exact BK124.out)) : gb124 ≠ gb134)); have n6_ := Aside0.mk ((by rw [hg]; exact Nat.ne_of_gt (blk_lt (g := gb124) (o := .cells #[.int .i64 x125000_1, .int .i64 x125001_1, .string x125002_1, .int .i64 x125003_1] 30 (0, 0)) (by (with_reducible repeat (first | refine blk_drewN ?_ _ | refine blk_drew ?_ | refine blk_alloc ?_ _)); exact BK124.out)) : gb134 ≠ gb124)); clear BK124; clear HB; have BK124 := n0_; have HB := n1_; have BK134 := n2_; have GW134 := n3_; have GE134 := n4_; have NB124_134 := n5_; have NB134_124 := n6_; clear n0_ n1_ n2_ n3_ n4_ n5_ n6_; clear hb hbox hg; have hnb25 := NB134_124.out; have hnc25 := NB124_134.out; have hcz26_0 : w24.cell? ⟨gb134, 0, none⟩ = some (.int .i64 0) := (blk_cell BK134.out 0).trans rfl; have hcz26_1 : w24.cell? ⟨gb134, 1, none⟩ = some (.int .i64 0) := (blk_cell BK134.out 1).trans rfl; have hcz26_2 : w24.cell? ⟨gb134, 2, none⟩ = some (.string (⟨#[]⟩ : ByteArray)) := (blk_cell BK134.out 2).trans rfl; have hcz26_3 : w24.cell? ⟨gb134, 3, none⟩ = some (.int .i64 0) := (blk_cell BK134.out 3).trans rfl; have hfz26_0 := blk_frozen BK134.out 0; have hfz26_1 := blk_frozen BK134.out 1; have hfz26_2 := blk_frozen BK134.out 2; have hfz26_3 := blk_frozen BK134.out 3) | ((with_reducible refine gate_callee (f := 13) rfl ?_); refine goesL_ (some 40) rfl rfl Try.func13 (by kernel_rfl) rfl #[.agg #[.int .i64 t129, .int .i64 t130, .string t131, .int .i64 t132]] rfl (by (try simp only [List.map_toArray, List.map_cons, List.map_nil]); first | done | rfl | (simp only [List.length_drop, List.length_take]; rfl)) ?_; (with_reducible refine (desk_Line.calls k1 t129 t130 t131 t132 t135 t136 _ A8.out).mono ?_); rintro e w27 ⟨rfl, hb⟩; refine ⟨_, rfl, ?_⟩; have n0_ := Aside0.mk (blk_below (g := gb124) (o := .cells #[.int .i64 x125000_1, .int .i64 x125001_1, .string x125002_1, .int .i64 x125003_1] 30 (0, 0)) (by (with_reducible repeat (first | refine blk_drewN ?_ _ | refine blk_drew ?_ | refine blk_alloc ?_ _)); refine blk_far ?_ NB124_134.out _; (with_reducible repeat (first | refine blk_drewN ?_ _ | refine blk_drew ?_ | refine blk_alloc ?_ _)); refine blk_far ?_ NB124_134.out _; (with_reducible repeat (first | refine blk_drewN ?_ _ | refine blk_drew ?_ | refine blk_alloc ?_ _)); refine blk_far ?_ NB124_134.out _; (with_reducible repeat (first | refine blk_drewN ?_ _ | refine blk_drew ?_ | refine blk_alloc ?_ _)); refine blk_far ?_ NB124_134.out _; (with_reducible repeat (first | refine blk_drewN ?_ _ | refine blk_drew ?_ | refine blk_alloc ?_ _)); exact BK124.out) hb); have n1_ := Aside0.mk (blk_below (g := gb134) (o := .cells #[.int .i64 t129, .int .i64 t130, .string t131, .int .i64 t132] 30 (0, 0)) (by (with_reducible repeat (first | refine blk_drewN ?_ _ | refine blk_drew ?_ | refine blk_alloc ?_ _)); refine blk_put (cs := #[.int .i64 t129, .int .i64 t130, .string t131, .int .i64 0]) ?_ 3 _ rfl; (with_reducible repeat (first | refine blk_drewN ?_ _ | refine blk_drew ?_ | refine blk_alloc ?_ _)); refine blk_put (cs := #[.int .i64 t129, .int .i64 t130, .string (⟨#[]⟩ : ByteArray), .int .i64 0]) ?_ 2 _ rfl; (with_reducible repeat (first | refine blk_drewN ?_ _ | refine blk_drew ?_ | refine blk_alloc ?_ _)); refine blk_put (cs := #[.int .i64 t129, .int .i64 0, .string (⟨#[]⟩ : ByteArray), .int .i64 0]) ?_ 1 _ rfl; (with_reducible repeat (first | refine blk_drewN ?_ _ | refine blk_drew ?_ | refine blk_alloc ?_ _)); refine blk_put (cs := #[.int .i64 0, .int .i64 0, .string (⟨#[]⟩ : ByteArray), .int .i64 0]) ?_ 0 _ rfl; (with_reducible repeat (first | refine blk_drewN ?_ _ | refine blk_drew ?_ | refine blk_alloc ?_ _)); exact BK134.out) hb); have n2_ := Aside0.mk (below_step (by repeat (first | (with_reducible first | exact HB.out | apply below_alloc | apply pw_below_drewN | apply below_drew1 | refine below_set ?_ GE124.out | refine below_set ?_ GE134.out) | exact HB.out)) hb); clear BK124; clear BK134; clear HB; have BK124 := n0_; have BK134 := n1_; have HB := n2_; clear n0_ n1_ n2_; (try clear hb); (try clear hb2); (try clear hk); (try clear hi)))
                go_roundg k1
                case measure => have := HK1.out; omega
                case rel => exact ⟨(wrap64 (x4_1 + 1)), (x125000_1), (x125001_1), (x125002_1), (x125003_1), (by first | rfl | (simp; done) | (simp [*]; done) | (simp only [i64_w, i32_w]; done) | (simp [i64_w, i32_w, *]; done) | (simp [gp_ne]; done) | (simp [gp_ne, i64_w, i32_w, *]; done) | (simp [i64_w, i32_w]; (try unfold wrap64); (try unfold wrap32); omega)), H', ⟨by have := HK1.out; omega⟩, ⟨by (with_reducible repeat (first | refine blk_drewN ?_ _ | refine blk_drew ?_ | refine blk_alloc ?_ _)); exact BK124.out⟩, ⟨by repeat (first | (with_reducible first | exact HB.out | apply below_alloc | apply pw_below_drewN | apply below_drew1 | refine below_set ?_ GE124.out | refine below_set ?_ GE134.out) | exact HB.out)⟩⟩
            · rw [if_neg c10] at H
              have c10b0 : (t136 == 0) = false := beq_eq_false_iff_ne.mpr c10
              have c10b1 : (t136 != 0) = true := bne_iff_ne.mpr c10
              have H' := Aside0.mk H
              clear H
              go_wp2_with (first | ((with_reducible refine gate_callee (f := 24) rfl ?_); refine goesL_ (some 19) rfl rfl Try.func24 (by kernel_rfl) rfl #[.int .i64 x4_1] rfl (by (try simp only [List.map_toArray, List.map_cons, List.map_nil]); first | done | rfl | (simp only [List.length_drop, List.length_take]; rfl)) ?_; (with_reducible refine (desk_form.calls x4_1 t125 t126 _ A4.out).mono ?_); rintro e w' ⟨rfl, ⟨nd, rfl⟩⟩; refine ⟨_, rfl, ?_⟩; (try (rw [drewN_self wr]; generalize hq_ : World.drewN wr _ = wr; have n0_ : Aside0 (wr.heap[gb124]? = some (.cells #[.int .i64 x125000_1, .int .i64 x125001_1, .string x125002_1, .int .i64 x125003_1] 30 (0, 0))) := ⟨by rw [← hq_]; exact (by (with_reducible repeat (first | refine blk_drewN ?_ _ | refine blk_drew ?_ | refine blk_alloc ?_ _)); exact BK124.out)⟩; have n1_ : Aside0 (Below w.heap.size w wr) := ⟨by rw [← hq_]; exact (by repeat (first | (with_reducible first | exact HB.out | apply below_alloc | apply pw_below_drewN | apply below_drew1 | refine below_set ?_ GE124.out) | exact HB.out))⟩; clear BK124 HB hq_; have BK124 := n0_; have HB := n1_; clear n0_ n1_)); (try (have hcu28_0 : wr.cell? ⟨gb124, 0, none⟩ = some (.int .i64 x125000_1) := (blk_cell BK124.out 0).trans rfl; have hfcu28_0 := blk_frozen BK124.out 0)); (try (have hcu28_1 : wr.cell? ⟨gb124, 1, none⟩ = some (.int .i64 x125001_1) := (blk_cell BK124.out 1).trans rfl; have hfcu28_1 := blk_frozen BK124.out 1)); (try (have hcu28_2 : wr.cell? ⟨gb124, 2, none⟩ = some (.string x125002_1) := (blk_cell BK124.out 2).trans rfl; have hfcu28_2 := blk_frozen BK124.out 2)); (try (have hcu28_3 : wr.cell? ⟨gb124, 3, none⟩ = some (.int .i64 x125003_1) := (blk_cell BK124.out 3).trans rfl; have hfcu28_3 := blk_frozen BK124.out 3))) | ((with_reducible refine gate_callee (f := 30) rfl ?_); refine goesL_ (some 25) rfl rfl Try.func30 (by kernel_rfl) rfl #[.string a0, .string t125] rfl (by (try simp only [List.map_toArray, List.map_cons, List.map_nil]); first | done | rfl | (simp only [List.length_drop, List.length_take]; rfl)) ?_; (with_reducible refine (strings_CutPrefix.calls a0 t125 t127 true _ A5.out).mono ?_); rintro e w' ⟨rfl, ⟨nd, rfl⟩⟩; refine ⟨_, rfl, ?_⟩; (try (rw [drewN_self wr]; generalize hq_ : World.drewN wr _ = wr; have n0_ : Aside0 (wr.heap[gb124]? = some (.cells #[.int .i64 x125000_1, .int .i64 x125001_1, .string x125002_1, .int .i64 x125003_1] 30 (0, 0))) := ⟨by rw [← hq_]; exact (by (with_reducible repeat (first | refine blk_drewN ?_ _ | refine blk_drew ?_ | refine blk_alloc ?_ _)); exact BK124.out)⟩; have n1_ : Aside0 (Below w.heap.size w wr) := ⟨by rw [← hq_]; exact (by repeat (first | (with_reducible first | exact HB.out | apply below_alloc | apply pw_below_drewN | apply below_drew1 | refine below_set ?_ GE124.out) | exact HB.out))⟩; clear BK124 HB hq_; have BK124 := n0_; have HB := n1_; clear n0_ n1_)); (try (have hcu29_0 : wr.cell? ⟨gb124, 0, none⟩ = some (.int .i64 x125000_1) := (blk_cell BK124.out 0).trans rfl; have hfcu29_0 := blk_frozen BK124.out 0)); (try (have hcu29_1 : wr.cell? ⟨gb124, 1, none⟩ = some (.int .i64 x125001_1) := (blk_cell BK124.out 1).trans rfl; have hfcu29_1 := blk_frozen BK124.out 1)); (try (have hcu29_2 : wr.cell? ⟨gb124, 2, none⟩ = some (.string x125002_1) := (blk_cell BK124.out 2).trans rfl; have hfcu29_2 := blk_frozen BK124.out 2)); (try (have hcu29_3 : wr.cell? ⟨gb124, 3, none⟩ = some (.int .i64 x125003_1) := (blk_cell BK124.out 3).trans rfl; have hfcu29_3 := blk_frozen BK124.out 3))) | ((with_reducible refine gate_callee (f := 31) rfl ?_); refine goesL_ (some 35) rfl rfl Try.func31 (by kernel_rfl) rfl #[.agg #[.int .i64 x4_1, .int .i64 0, .string (⟨#[]⟩ : ByteArray), .int .i64 0], .string t126, .string t127] rfl (by (try simp only [List.map_toArray, List.map_cons, List.map_nil]); first | done | rfl | (simp only [List.length_drop, List.length_take]; rfl)) ?_; (with_reducible refine (desk_fields.calls k1 x4_1 0 (⟨#[]⟩ : ByteArray) 0 t126 t127 t129 t130 t131 t132 true _ A7.out).mono ?_); rintro e w30 ⟨rfl, hb⟩; refine ⟨_, rfl, ?_⟩; have n0_ := Aside0.mk (blk_below (g := gb124) (o := .cells #[.int .i64 x125000_1, .int .i64 x125001_1, .string x125002_1, .int .i64 x125003_1] 30 (0, 0)) (by (with_reducible repeat (first | refine blk_drewN ?_ _ | refine blk_drew ?_ | refine blk_alloc ?_ _)); exact BK124.out) hb); have n1_ := Aside0.mk (below_step (by repeat (first | (with_reducible first | exact HB.out | apply below_alloc | apply pw_below_drewN | apply below_drew1 | refine below_set ?_ GE124.out) | exact HB.out)) hb); clear BK124; clear HB; have BK124 := n0_; have HB := n1_; clear n0_ n1_; (try clear hb); (try clear hb2); (try clear hk); (try clear hi)) | ((with_reducible refine gate_dst (N := 9) rfl ?_); refine box_event ?hg (N := 9) ?hd (cs := #[.int .i64 0, .int .i64 0, .string (⟨#[]⟩ : ByteArray), .int .i64 0]) (t := 30) ?hr ?_; (case hd => rfl); (case hg => rfl); (case hr => first | (go_simp; done) | (go_simp; rfl)); intro gb134 hg w31 hbox hb; have n0_ := Aside0.mk (blk_below (g := gb124) (o := .cells #[.int .i64 x125000_1, .int .i64 x125001_1, .string x125002_1, .int .i64 x125003_1] 30 (0, 0)) (by (with_reducible repeat (first | refine blk_drewN ?_ _ | refine blk_drew ?_ | refine blk_alloc ?_ _)); exact BK124.out) hb); have n1_ := Aside0.mk (below_step (by repeat (first | (with_reducible first | exact HB.out | apply below_alloc | apply pw_below_drewN | apply below_drew1 | refine below_set ?_ GE124.out) | exact HB.out)) hb); have n2_ := Aside0.mk (hbox); have n3_ := Aside0.mk ((by rw [hg]; exact (below_size (by repeat (first | (with_reducible first | exact HB.out | apply below_alloc | apply pw_below_drewN | apply below_drew1 | refine below_set ?_ GE124.out) | exact HB.out))) : w.heap.size ≤ gb134)); have n4_ := Aside0.mk ((by rw [hg]; exact (below_size (by repeat (first | (with_reducible first | exact HB.out | apply below_alloc | apply pw_below_drewN | apply below_drew1 | refine below_set ?_ GE124.out) | exact HB.out))) : w.heap.size ≤ gb134)); have n5_ := Aside0.mk ((by rw [hg]; exact Nat.ne_of_lt (blk_lt (g := gb124) (o := .cells #[.int .i64 x125000_1, .int .i64 x125001_1, .string x125002_1, .int .i64 x125003_1] 30 (0, 0)) (by (with_reducible repeat (first | refine blk_drewN ?_ _ | refine blk_drew ?_ | refine blk_alloc ?_ _)); exact BK124.out)) : gb124 ≠ gb134)); have n6_ := Aside0.mk ((by rw [hg]; exact Nat.ne_of_gt (blk_lt (g := gb124) (o := .cells #[.int .i64 x125000_1, .int .i64 x125001_1, .string x125002_1, .int .i64 x125003_1] 30 (0, 0)) (by (with_reducible repeat (first | refine blk_drewN ?_ _ | refine blk_drew ?_ | refine blk_alloc ?_ _)); exact BK124.out)) : gb134 ≠ gb124)); clear BK124; clear HB; have BK124 := n0_; have HB := n1_; have BK134 := n2_; have GW134 := n3_; have GE134 := n4_; have NB124_134 := n5_; have NB134_124 := n6_; clear n0_ n1_ n2_ n3_ n4_ n5_ n6_; clear hb hbox hg; have hnb32 := NB134_124.out; have hnc32 := NB124_134.out; have hcz33_0 : w31.cell? ⟨gb134, 0, none⟩ = some (.int .i64 0) := (blk_cell BK134.out 0).trans rfl; have hcz33_1 : w31.cell? ⟨gb134, 1, none⟩ = some (.int .i64 0) := (blk_cell BK134.out 1).trans rfl; have hcz33_2 : w31.cell? ⟨gb134, 2, none⟩ = some (.string (⟨#[]⟩ : ByteArray)) := (blk_cell BK134.out 2).trans rfl; have hcz33_3 : w31.cell? ⟨gb134, 3, none⟩ = some (.int .i64 0) := (blk_cell BK134.out 3).trans rfl; have hfz33_0 := blk_frozen BK134.out 0; have hfz33_1 := blk_frozen BK134.out 1; have hfz33_2 := blk_frozen BK134.out 2; have hfz33_3 := blk_frozen BK134.out 3) | ((with_reducible refine gate_callee (f := 13) rfl ?_); refine goesL_ (some 40) rfl rfl Try.func13 (by kernel_rfl) rfl #[.agg #[.int .i64 t129, .int .i64 t130, .string t131, .int .i64 t132]] rfl (by (try simp only [List.map_toArray, List.map_cons, List.map_nil]); first | done | rfl | (simp only [List.length_drop, List.length_take]; rfl)) ?_; (with_reducible refine (desk_Line.calls k1 t129 t130 t131 t132 t135 t136 _ A8.out).mono ?_); rintro e w34 ⟨rfl, hb⟩; refine ⟨_, rfl, ?_⟩; have n0_ := Aside0.mk (blk_below (g := gb124) (o := .cells #[.int .i64 x125000_1, .int .i64 x125001_1, .string x125002_1, .int .i64 x125003_1] 30 (0, 0)) (by (with_reducible repeat (first | refine blk_drewN ?_ _ | refine blk_drew ?_ | refine blk_alloc ?_ _)); refine blk_far ?_ NB124_134.out _; (with_reducible repeat (first | refine blk_drewN ?_ _ | refine blk_drew ?_ | refine blk_alloc ?_ _)); refine blk_far ?_ NB124_134.out _; (with_reducible repeat (first | refine blk_drewN ?_ _ | refine blk_drew ?_ | refine blk_alloc ?_ _)); refine blk_far ?_ NB124_134.out _; (with_reducible repeat (first | refine blk_drewN ?_ _ | refine blk_drew ?_ | refine blk_alloc ?_ _)); refine blk_far ?_ NB124_134.out _; (with_reducible repeat (first | refine blk_drewN ?_ _ | refine blk_drew ?_ | refine blk_alloc ?_ _)); exact BK124.out) hb); have n1_ := Aside0.mk (blk_below (g := gb134) (o := .cells #[.int .i64 t129, .int .i64 t130, .string t131, .int .i64 t132] 30 (0, 0)) (by (with_reducible repeat (first | refine blk_drewN ?_ _ | refine blk_drew ?_ | refine blk_alloc ?_ _)); refine blk_put (cs := #[.int .i64 t129, .int .i64 t130, .string t131, .int .i64 0]) ?_ 3 _ rfl; (with_reducible repeat (first | refine blk_drewN ?_ _ | refine blk_drew ?_ | refine blk_alloc ?_ _)); refine blk_put (cs := #[.int .i64 t129, .int .i64 t130, .string (⟨#[]⟩ : ByteArray), .int .i64 0]) ?_ 2 _ rfl; (with_reducible repeat (first | refine blk_drewN ?_ _ | refine blk_drew ?_ | refine blk_alloc ?_ _)); refine blk_put (cs := #[.int .i64 t129, .int .i64 0, .string (⟨#[]⟩ : ByteArray), .int .i64 0]) ?_ 1 _ rfl; (with_reducible repeat (first | refine blk_drewN ?_ _ | refine blk_drew ?_ | refine blk_alloc ?_ _)); refine blk_put (cs := #[.int .i64 0, .int .i64 0, .string (⟨#[]⟩ : ByteArray), .int .i64 0]) ?_ 0 _ rfl; (with_reducible repeat (first | refine blk_drewN ?_ _ | refine blk_drew ?_ | refine blk_alloc ?_ _)); exact BK134.out) hb); have n2_ := Aside0.mk (below_step (by repeat (first | (with_reducible first | exact HB.out | apply below_alloc | apply pw_below_drewN | apply below_drew1 | refine below_set ?_ GE124.out | refine below_set ?_ GE134.out) | exact HB.out)) hb); clear BK124; clear BK134; clear HB; have BK124 := n0_; have BK134 := n1_; have HB := n2_; clear n0_ n1_ n2_; (try clear hb); (try clear hb2); (try clear hk); (try clear hi)))
              go_roundg k1
              case measure => have := HK1.out; omega
              case rel => exact ⟨(wrap64 (x4_1 + 1)), (x125000_1), (x125001_1), (x125002_1), (x125003_1), (by first | rfl | (simp; done) | (simp [*]; done) | (simp only [i64_w, i32_w]; done) | (simp [i64_w, i32_w, *]; done) | (simp [gp_ne]; done) | (simp [gp_ne, i64_w, i32_w, *]; done) | (simp [i64_w, i32_w]; (try unfold wrap64); (try unfold wrap32); omega)), H', ⟨by have := HK1.out; omega⟩, ⟨by (with_reducible repeat (first | refine blk_drewN ?_ _ | refine blk_drew ?_ | refine blk_alloc ?_ _)); exact BK124.out⟩, ⟨by repeat (first | (with_reducible first | exact HB.out | apply below_alloc | apply pw_below_drewN | apply below_drew1 | refine below_set ?_ GE124.out | refine below_set ?_ GE134.out) | exact HB.out)⟩⟩
          · replace c9 := Bool.eq_false_iff.mpr c9
            subst c9
            have H1 : (desk_Parse.l0 k1 a0 (wrap64 (x4_1 + 1))) = some (r1, r2, r3, r4, r5) := by rw [if_neg (show ¬ (false = true) by decide)] at H; exact H
            clear H
            have H := H1
            clear H1
            have H' := Aside0.mk H
            clear H
            go_wp2_with (first | ((with_reducible refine gate_callee (f := 24) rfl ?_); refine goesL_ (some 19) rfl rfl Try.func24 (by kernel_rfl) rfl #[.int .i64 x4_1] rfl (by (try simp only [List.map_toArray, List.map_cons, List.map_nil]); first | done | rfl | (simp only [List.length_drop, List.length_take]; rfl)) ?_; (with_reducible refine (desk_form.calls x4_1 t125 t126 _ A4.out).mono ?_); rintro e w' ⟨rfl, ⟨nd, rfl⟩⟩; refine ⟨_, rfl, ?_⟩; (try (rw [drewN_self wr]; generalize hq_ : World.drewN wr _ = wr; have n0_ : Aside0 (wr.heap[gb124]? = some (.cells #[.int .i64 x125000_1, .int .i64 x125001_1, .string x125002_1, .int .i64 x125003_1] 30 (0, 0))) := ⟨by rw [← hq_]; exact (by (with_reducible repeat (first | refine blk_drewN ?_ _ | refine blk_drew ?_ | refine blk_alloc ?_ _)); exact BK124.out)⟩; have n1_ : Aside0 (Below w.heap.size w wr) := ⟨by rw [← hq_]; exact (by repeat (first | (with_reducible first | exact HB.out | apply below_alloc | apply pw_below_drewN | apply below_drew1 | refine below_set ?_ GE124.out) | exact HB.out))⟩; clear BK124 HB hq_; have BK124 := n0_; have HB := n1_; clear n0_ n1_)); (try (have hcu35_0 : wr.cell? ⟨gb124, 0, none⟩ = some (.int .i64 x125000_1) := (blk_cell BK124.out 0).trans rfl; have hfcu35_0 := blk_frozen BK124.out 0)); (try (have hcu35_1 : wr.cell? ⟨gb124, 1, none⟩ = some (.int .i64 x125001_1) := (blk_cell BK124.out 1).trans rfl; have hfcu35_1 := blk_frozen BK124.out 1)); (try (have hcu35_2 : wr.cell? ⟨gb124, 2, none⟩ = some (.string x125002_1) := (blk_cell BK124.out 2).trans rfl; have hfcu35_2 := blk_frozen BK124.out 2)); (try (have hcu35_3 : wr.cell? ⟨gb124, 3, none⟩ = some (.int .i64 x125003_1) := (blk_cell BK124.out 3).trans rfl; have hfcu35_3 := blk_frozen BK124.out 3))) | ((with_reducible refine gate_callee (f := 30) rfl ?_); refine goesL_ (some 25) rfl rfl Try.func30 (by kernel_rfl) rfl #[.string a0, .string t125] rfl (by (try simp only [List.map_toArray, List.map_cons, List.map_nil]); first | done | rfl | (simp only [List.length_drop, List.length_take]; rfl)) ?_; (with_reducible refine (strings_CutPrefix.calls a0 t125 t127 true _ A5.out).mono ?_); rintro e w' ⟨rfl, ⟨nd, rfl⟩⟩; refine ⟨_, rfl, ?_⟩; (try (rw [drewN_self wr]; generalize hq_ : World.drewN wr _ = wr; have n0_ : Aside0 (wr.heap[gb124]? = some (.cells #[.int .i64 x125000_1, .int .i64 x125001_1, .string x125002_1, .int .i64 x125003_1] 30 (0, 0))) := ⟨by rw [← hq_]; exact (by (with_reducible repeat (first | refine blk_drewN ?_ _ | refine blk_drew ?_ | refine blk_alloc ?_ _)); exact BK124.out)⟩; have n1_ : Aside0 (Below w.heap.size w wr) := ⟨by rw [← hq_]; exact (by repeat (first | (with_reducible first | exact HB.out | apply below_alloc | apply pw_below_drewN | apply below_drew1 | refine below_set ?_ GE124.out) | exact HB.out))⟩; clear BK124 HB hq_; have BK124 := n0_; have HB := n1_; clear n0_ n1_)); (try (have hcu36_0 : wr.cell? ⟨gb124, 0, none⟩ = some (.int .i64 x125000_1) := (blk_cell BK124.out 0).trans rfl; have hfcu36_0 := blk_frozen BK124.out 0)); (try (have hcu36_1 : wr.cell? ⟨gb124, 1, none⟩ = some (.int .i64 x125001_1) := (blk_cell BK124.out 1).trans rfl; have hfcu36_1 := blk_frozen BK124.out 1)); (try (have hcu36_2 : wr.cell? ⟨gb124, 2, none⟩ = some (.string x125002_1) := (blk_cell BK124.out 2).trans rfl; have hfcu36_2 := blk_frozen BK124.out 2)); (try (have hcu36_3 : wr.cell? ⟨gb124, 3, none⟩ = some (.int .i64 x125003_1) := (blk_cell BK124.out 3).trans rfl; have hfcu36_3 := blk_frozen BK124.out 3))) | ((with_reducible refine gate_callee (f := 31) rfl ?_); refine goesL_ (some 35) rfl rfl Try.func31 (by kernel_rfl) rfl #[.agg #[.int .i64 x4_1, .int .i64 0, .string (⟨#[]⟩ : ByteArray), .int .i64 0], .string t126, .string t127] rfl (by (try simp only [List.map_toArray, List.map_cons, List.map_nil]); first | done | rfl | (simp only [List.length_drop, List.length_take]; rfl)) ?_; (with_reducible refine (desk_fields.calls k1 x4_1 0 (⟨#[]⟩ : ByteArray) 0 t126 t127 t129 t130 t131 t132 false _ A7.out).mono ?_); rintro e w37 ⟨rfl, hb⟩; refine ⟨_, rfl, ?_⟩; have n0_ := Aside0.mk (blk_below (g := gb124) (o := .cells #[.int .i64 x125000_1, .int .i64 x125001_1, .string x125002_1, .int .i64 x125003_1] 30 (0, 0)) (by (with_reducible repeat (first | refine blk_drewN ?_ _ | refine blk_drew ?_ | refine blk_alloc ?_ _)); exact BK124.out) hb); have n1_ := Aside0.mk (below_step (by repeat (first | (with_reducible first | exact HB.out | apply below_alloc | apply pw_below_drewN | apply below_drew1 | refine below_set ?_ GE124.out) | exact HB.out)) hb); clear BK124; clear HB; have BK124 := n0_; have HB := n1_; clear n0_ n1_; (try clear hb); (try clear hb2); (try clear hk); (try clear hi)) | ((with_reducible refine gate_dst (N := 9) rfl ?_); refine box_event ?hg (N := 9) ?hd (cs := #[.int .i64 0, .int .i64 0, .string (⟨#[]⟩ : ByteArray), .int .i64 0]) (t := 30) ?hr ?_; (case hd => rfl); (case hg => rfl); (case hr => first | (go_simp; done) | (go_simp; rfl)); intro gb134 hg w38 hbox hb; have n0_ := Aside0.mk (blk_below (g := gb124) (o := .cells #[.int .i64 x125000_1, .int .i64 x125001_1, .string x125002_1, .int .i64 x125003_1] 30 (0, 0)) (by (with_reducible repeat (first | refine blk_drewN ?_ _ | refine blk_drew ?_ | refine blk_alloc ?_ _)); exact BK124.out) hb); have n1_ := Aside0.mk (below_step (by repeat (first | (with_reducible first | exact HB.out | apply below_alloc | apply pw_below_drewN | apply below_drew1 | refine below_set ?_ GE124.out) | exact HB.out)) hb); have n2_ := Aside0.mk (hbox); have n3_ := Aside0.mk ((by rw [hg]; exact (below_size (by repeat (first | (with_reducible first | exact HB.out | apply below_alloc | apply pw_below_drewN | apply below_drew1 | refine below_set ?_ GE124.out) | exact HB.out))) : w.heap.size ≤ gb134)); have n4_ := Aside0.mk ((by rw [hg]; exact (below_size (by repeat (first | (with_reducible first | exact HB.out | apply below_alloc | apply pw_below_drewN | apply below_drew1 | refine below_set ?_ GE124.out) | exact HB.out))) : w.heap.size ≤ gb134)); have n5_ := Aside0.mk ((by rw [hg]; exact Nat.ne_of_lt (blk_lt (g := gb124) (o := .cells #[.int .i64 x125000_1, .int .i64 x125001_1, .string x125002_1, .int .i64 x125003_1] 30 (0, 0)) (by (with_reducible repeat (first | refine blk_drewN ?_ _ | refine blk_drew ?_ | refine blk_alloc ?_ _)); exact BK124.out)) : gb124 ≠ gb134)); have n6_ := Aside0.mk ((by rw [hg]; exact Nat.ne_of_gt (blk_lt (g := gb124) (o := .cells #[.int .i64 x125000_1, .int .i64 x125001_1, .string x125002_1, .int .i64 x125003_1] 30 (0, 0)) (by (with_reducible repeat (first | refine blk_drewN ?_ _ | refine blk_drew ?_ | refine blk_alloc ?_ _)); exact BK124.out)) : gb134 ≠ gb124)); clear BK124; clear HB; have BK124 := n0_; have HB := n1_; have BK134 := n2_; have GW134 := n3_; have GE134 := n4_; have NB124_134 := n5_; have NB134_124 := n6_; clear n0_ n1_ n2_ n3_ n4_ n5_ n6_; clear hb hbox hg; have hnb39 := NB134_124.out; have hnc39 := NB124_134.out; have hcz40_0 : w38.cell? ⟨gb134, 0, none⟩ = some (.int .i64 0) := (blk_cell BK134.out 0).trans rfl; have hcz40_1 : w38.cell? ⟨gb134, 1, none⟩ = some (.int .i64 0) := (blk_cell BK134.out 1).trans rfl; have hcz40_2 : w38.cell? ⟨gb134, 2, none⟩ = some (.string (⟨#[]⟩ : ByteArray)) := (blk_cell BK134.out 2).trans rfl; have hcz40_3 : w38.cell? ⟨gb134, 3, none⟩ = some (.int .i64 0) := (blk_cell BK134.out 3).trans rfl; have hfz40_0 := blk_frozen BK134.out 0; have hfz40_1 := blk_frozen BK134.out 1; have hfz40_2 := blk_frozen BK134.out 2; have hfz40_3 := blk_frozen BK134.out 3) | ((with_reducible refine gate_callee (f := 13) rfl ?_); refine goesL_ (some 40) rfl rfl Try.func13 (by kernel_rfl) rfl #[.agg #[.int .i64 t129, .int .i64 t130, .string t131, .int .i64 t132]] rfl (by (try simp only [List.map_toArray, List.map_cons, List.map_nil]); first | done | rfl | (simp only [List.length_drop, List.length_take]; rfl)) ?_; (with_reducible refine (desk_Line.calls k1 t129 t130 t131 t132 t135 t136 _ A8.out).mono ?_); rintro e w41 ⟨rfl, hb⟩; refine ⟨_, rfl, ?_⟩; have n0_ := Aside0.mk (blk_below (g := gb124) (o := .cells #[.int .i64 x125000_1, .int .i64 x125001_1, .string x125002_1, .int .i64 x125003_1] 30 (0, 0)) (by (with_reducible repeat (first | refine blk_drewN ?_ _ | refine blk_drew ?_ | refine blk_alloc ?_ _)); refine blk_far ?_ NB124_134.out _; (with_reducible repeat (first | refine blk_drewN ?_ _ | refine blk_drew ?_ | refine blk_alloc ?_ _)); refine blk_far ?_ NB124_134.out _; (with_reducible repeat (first | refine blk_drewN ?_ _ | refine blk_drew ?_ | refine blk_alloc ?_ _)); refine blk_far ?_ NB124_134.out _; (with_reducible repeat (first | refine blk_drewN ?_ _ | refine blk_drew ?_ | refine blk_alloc ?_ _)); refine blk_far ?_ NB124_134.out _; (with_reducible repeat (first | refine blk_drewN ?_ _ | refine blk_drew ?_ | refine blk_alloc ?_ _)); exact BK124.out) hb); have n1_ := Aside0.mk (blk_below (g := gb134) (o := .cells #[.int .i64 t129, .int .i64 t130, .string t131, .int .i64 t132] 30 (0, 0)) (by (with_reducible repeat (first | refine blk_drewN ?_ _ | refine blk_drew ?_ | refine blk_alloc ?_ _)); refine blk_put (cs := #[.int .i64 t129, .int .i64 t130, .string t131, .int .i64 0]) ?_ 3 _ rfl; (with_reducible repeat (first | refine blk_drewN ?_ _ | refine blk_drew ?_ | refine blk_alloc ?_ _)); refine blk_put (cs := #[.int .i64 t129, .int .i64 t130, .string (⟨#[]⟩ : ByteArray), .int .i64 0]) ?_ 2 _ rfl; (with_reducible repeat (first | refine blk_drewN ?_ _ | refine blk_drew ?_ | refine blk_alloc ?_ _)); refine blk_put (cs := #[.int .i64 t129, .int .i64 0, .string (⟨#[]⟩ : ByteArray), .int .i64 0]) ?_ 1 _ rfl; (with_reducible repeat (first | refine blk_drewN ?_ _ | refine blk_drew ?_ | refine blk_alloc ?_ _)); refine blk_put (cs := #[.int .i64 0, .int .i64 0, .string (⟨#[]⟩ : ByteArray), .int .i64 0]) ?_ 0 _ rfl; (with_reducible repeat (first | refine blk_drewN ?_ _ | refine blk_drew ?_ | refine blk_alloc ?_ _)); exact BK134.out) hb); have n2_ := Aside0.mk (below_step (by repeat (first | (with_reducible first | exact HB.out | apply below_alloc | apply pw_below_drewN | apply below_drew1 | refine below_set ?_ GE124.out | refine below_set ?_ GE134.out) | exact HB.out)) hb); clear BK124; clear BK134; clear HB; have BK124 := n0_; have BK134 := n1_; have HB := n2_; clear n0_ n1_ n2_; (try clear hb); (try clear hb2); (try clear hk); (try clear hi)))
            go_roundg k1
            case measure => have := HK1.out; omega
            case rel => exact ⟨(wrap64 (x4_1 + 1)), (x125000_1), (x125001_1), (x125002_1), (x125003_1), (by first | rfl | (simp; done) | (simp [*]; done) | (simp only [i64_w, i32_w]; done) | (simp [i64_w, i32_w, *]; done) | (simp [gp_ne]; done) | (simp [gp_ne, i64_w, i32_w, *]; done) | (simp [i64_w, i32_w]; (try unfold wrap64); (try unfold wrap32); omega)), H', ⟨by have := HK1.out; omega⟩, ⟨by (with_reducible repeat (first | refine blk_drewN ?_ _ | refine blk_drew ?_ | refine blk_alloc ?_ _)); exact BK124.out⟩, ⟨by repeat (first | (with_reducible first | exact HB.out | apply below_alloc | apply pw_below_drewN | apply below_drew1 | refine below_set ?_ GE124.out | refine below_set ?_ GE134.out) | exact HB.out)⟩⟩
        · replace c6 := Bool.eq_false_iff.mpr c6
          subst c6
          have H1 : (desk_Parse.l0 k1 a0 (wrap64 (x4_1 + 1))) = some (r1, r2, r3, r4, r5) := by rw [if_neg (show ¬ (false = true) by decide)] at H; exact H
          clear H
          have H := H1
          clear H1
          have H' := Aside0.mk H
          clear H
          go_wp2_with (first | ((with_reducible refine gate_callee (f := 24) rfl ?_); refine goesL_ (some 19) rfl rfl Try.func24 (by kernel_rfl) rfl #[.int .i64 x4_1] rfl (by (try simp only [List.map_toArray, List.map_cons, List.map_nil]); first | done | rfl | (simp only [List.length_drop, List.length_take]; rfl)) ?_; (with_reducible refine (desk_form.calls x4_1 t125 t126 _ A4.out).mono ?_); rintro e w' ⟨rfl, ⟨nd, rfl⟩⟩; refine ⟨_, rfl, ?_⟩) | ((with_reducible refine gate_callee (f := 30) rfl ?_); refine goesL_ (some 25) rfl rfl Try.func30 (by kernel_rfl) rfl #[.string a0, .string t125] rfl (by (try simp only [List.map_toArray, List.map_cons, List.map_nil]); first | done | rfl | (simp only [List.length_drop, List.length_take]; rfl)) ?_; (with_reducible refine (strings_CutPrefix.calls a0 t125 t127 false _ A5.out).mono ?_); rintro e w' ⟨rfl, ⟨nd, rfl⟩⟩; refine ⟨_, rfl, ?_⟩))
          go_roundg k1
          case measure => have := HK1.out; omega
          case rel => exact ⟨(wrap64 (x4_1 + 1)), (x125000_1), (x125001_1), (x125002_1), (x125003_1), (by first | rfl | (simp; done) | (simp [*]; done) | (simp only [i64_w, i32_w]; done) | (simp [i64_w, i32_w, *]; done) | (simp [gp_ne]; done) | (simp [gp_ne, i64_w, i32_w, *]; done) | (simp [i64_w, i32_w]; (try unfold wrap64); (try unfold wrap32); omega)), H', ⟨by have := HK1.out; omega⟩, ⟨by (with_reducible repeat (first | refine blk_drewN ?_ _ | refine blk_drew ?_ | refine blk_alloc ?_ _)); exact BK124.out⟩, ⟨by repeat (first | (with_reducible first | exact HB.out | apply below_alloc | apply pw_below_drewN | apply below_drew1 | refine below_set ?_ GE124.out) | exact HB.out)⟩⟩
      · rw [if_neg c3] at H
        have c3b0 : decide (x4_1 ≤ 6) = false := decide_eq_false c3
        clear c3
        simp only [Option.some.injEq, Prod.mk.injEq] at H
        obtain ⟨rfl, rfl, rfl, rfl, rfl⟩ := H
        have hcz42_0 : wr.cell? ⟨gb124, 0, none⟩ = some (.int .i64 x125000_1) := (blk_cell BK124.out 0).trans rfl
        have hcz42_1 : wr.cell? ⟨gb124, 1, none⟩ = some (.int .i64 x125001_1) := (blk_cell BK124.out 1).trans rfl
        have hcz42_2 : wr.cell? ⟨gb124, 2, none⟩ = some (.string x125002_1) := (blk_cell BK124.out 2).trans rfl
        have hcz42_3 : wr.cell? ⟨gb124, 3, none⟩ = some (.int .i64 x125003_1) := (blk_cell BK124.out 3).trans rfl
        have hfz42_0 := blk_frozen BK124.out 0
        have hfz42_1 := blk_frozen BK124.out 1
        have hfz42_2 := blk_frozen BK124.out 2
        have hfz42_3 := blk_frozen BK124.out 3
        go_wp2
        refine bodyPost_ret (results_ct rfl _ _ gb124 30 #[.int .i64 0, .int .i64 0, .string (⟨#[]⟩ : ByteArray), .int .i64 0] (0, 0) _ rfl (by (with_reducible repeat (first | refine blk_drewN ?_ _ | refine blk_drew ?_ | refine blk_alloc ?_ _)); refine blk_put (cs := #[.int .i64 0, .int .i64 0, .string (⟨#[]⟩ : ByteArray), .int .i64 x125003_1]) ?_ 3 _ rfl; (with_reducible repeat (first | refine blk_drewN ?_ _ | refine blk_drew ?_ | refine blk_alloc ?_ _)); refine blk_put (cs := #[.int .i64 0, .int .i64 0, .string x125002_1, .int .i64 x125003_1]) ?_ 2 _ rfl; (with_reducible repeat (first | refine blk_drewN ?_ _ | refine blk_drew ?_ | refine blk_alloc ?_ _)); refine blk_put (cs := #[.int .i64 0, .int .i64 x125001_1, .string x125002_1, .int .i64 x125003_1]) ?_ 1 _ rfl; (with_reducible repeat (first | refine blk_drewN ?_ _ | refine blk_drew ?_ | refine blk_alloc ?_ _)); refine blk_put (cs := #[.int .i64 x125000_1, .int .i64 x125001_1, .string x125002_1, .int .i64 x125003_1]) ?_ 0 _ rfl; (with_reducible repeat (first | refine blk_drewN ?_ _ | refine blk_drew ?_ | refine blk_alloc ?_ _)); exact BK124.out) Try.underlying30 rfl (by kernel_rfl)) rfl ?_
        exact ⟨by first | rfl | (simp [errW_none, errW_some] <;> rfl) | (simp [*, errW_none, errW_some] <;> rfl) | (simp [gp_ne]; done) | (simp [gp_ne, i64_w, i32_w, *]; done) | (simp [i64_w, i32_w]; (try unfold wrap64); (try unfold wrap32); omega), by repeat (first | (with_reducible first | exact HB.out | apply below_alloc | apply pw_below_drewN | apply below_drew1 | refine below_set ?_ GE124.out) | exact HB.out)⟩

/-! ### larumlaw33_awake: function 11 -/
def larumlaw33_awake.f (k : Nat)  : Option (Bool) := (desk_Parse.f k (⟨#[98, 121, 116, 101, 115, 32, 49, 32, 34, 97, 92, 120, 48, 100, 92, 120, 48, 97, 34]⟩ : ByteArray)).bind fun bt137 => (if bt137.2.2.2.2 = 0 then (some (bt137.1 == 2 && (bt137.2.1 == 1 && (bt137.2.2.1.toList == ([97, 13, 10] : List UInt8) && (bt137.2.2.2.1 == 0))))) else (some false))
theorem larumlaw33_awake.mono : ∀ k, LeO (larumlaw33_awake.f k ) (larumlaw33_awake.f (k + 1) ) := by
  intro  k
  unfold larumlaw33_awake.f
  repeat' first
      | (with_reducible exact desk_Parse.mono _ _)
      | (with_reducible exact LeO.refl _)
      | (with_reducible exact LeO.none _)
      | (with_reducible refine LeO.ite ?_ ?_)
      | (with_reducible refine LeO.bind ?_ (fun _ => ?_))
      | exact desk_Parse.mono _ _
      | exact LeO.none _
      | refine LeO.ite ?_ ?_
      | refine LeO.bind ?_ (fun _ => ?_)
set_option maxHeartbeats 8000000 in
set_option maxRecDepth 100000 in
theorem larumlaw33_awake.calls (k : Nat)  (r : Bool) (w : World) (h : larumlaw33_awake.f k  = some r) :
    Calls Try.prog 11 #[] w fun e w' => e = .returned (.bool r) ∧ Below w.heap.size w w' := by
  have hu30 := Try.underlying30
  have HB := Aside0.mk (Below.refl w.heap.size w)
  have H : ((desk_Parse.f k (⟨#[98, 121, 116, 101, 115, 32, 49, 32, 34, 97, 92, 120, 48, 100, 92, 120, 48, 97, 34]⟩ : ByteArray)).bind fun bt137 => (if bt137.2.2.2.2 = 0 then (some (bt137.1 == 2 && (bt137.2.1 == 1 && (bt137.2.2.1.toList == ([97, 13, 10] : List UInt8) && (bt137.2.2.2.1 == 0))))) else (some false))) = some r := h
  clear h
  replace H := Option.bind_eq_some_iff.mp H
  obtain ⟨⟨t137, t138, t139, t140, t141⟩, A10, H⟩ := H
  replace H : (if t141 = 0 then (some (t137 == 2 && (t138 == 1 && (t139.toList == ([97, 13, 10] : List UInt8) && (t140 == 0))))) else (some false)) = some r := H
  have A1 := Aside0.mk A10
  clear A10
  by_cases c2 : t141 = 0
  · rw [if_pos c2] at H
    have c2b0 : (t141 == 0) = true := beq_iff_eq.mpr c2
    have c2b1 : (t141 != 0) = false := bne_eq_false_iff_eq.mpr c2
    clear c2
    obtain rfl := Option.some.inj H
    go_enter Try.func11, Try.ntmps11
    go_wp2_with (first | ((with_reducible refine gate_callee (f := 15) rfl ?_); refine goesL_ (some 4) rfl rfl Try.func15 (by kernel_rfl) rfl #[.string (⟨#[98, 121, 116, 101, 115, 32, 49, 32, 34, 97, 92, 120, 48, 100, 92, 120, 48, 97, 34]⟩ : ByteArray)] rfl (by (try simp only [List.map_toArray, List.map_cons, List.map_nil]); first | done | rfl | (simp only [List.length_drop, List.length_take]; rfl)) ?_; (with_reducible refine (desk_Parse.calls k (⟨#[98, 121, 116, 101, 115, 32, 49, 32, 34, 97, 92, 120, 48, 100, 92, 120, 48, 97, 34]⟩ : ByteArray) t137 t138 t139 t140 t141 _ A1.out).mono ?_); rintro e w3 ⟨rfl, hb⟩; refine ⟨_, rfl, ?_⟩; have n0_ := Aside0.mk (below_step (by repeat (first | (with_reducible first | exact HB.out | apply below_alloc | apply pw_below_drewN | apply below_drew1) | exact HB.out)) hb); clear HB; have HB := n0_; clear n0_; (try clear hb); (try clear hb2); (try clear hk); (try clear hi)) | ((with_reducible refine gate_dst (N := 1) rfl ?_); refine box_event ?hg (N := 1) ?hd (cs := #[.int .i64 0, .int .i64 0, .string (⟨#[]⟩ : ByteArray), .int .i64 0]) (t := 30) ?hr ?_; (case hd => rfl); (case hg => rfl); (case hr => first | (go_simp; done) | (go_simp; rfl)); intro gb142 hg w4 hbox hb; have n0_ := Aside0.mk (below_step (by repeat (first | (with_reducible first | exact HB.out | apply below_alloc | apply pw_below_drewN | apply below_drew1) | exact HB.out)) hb); have n1_ := Aside0.mk (hbox); have n2_ := Aside0.mk ((by rw [hg]; exact (below_size (by repeat (first | (with_reducible first | exact HB.out | apply below_alloc | apply pw_below_drewN | apply below_drew1) | exact HB.out))) : w.heap.size ≤ gb142)); have n3_ := Aside0.mk ((by rw [hg]; exact (below_size (by repeat (first | (with_reducible first | exact HB.out | apply below_alloc | apply pw_below_drewN | apply below_drew1) | exact HB.out))) : w.heap.size ≤ gb142)); clear HB; have HB := n0_; have BK142 := n1_; have GW142 := n2_; have GE142 := n3_; clear n0_ n1_ n2_ n3_; clear hb hbox hg; have hcz5_0 : w4.cell? ⟨gb142, 0, none⟩ = some (.int .i64 0) := (blk_cell BK142.out 0).trans rfl; have hcz5_1 : w4.cell? ⟨gb142, 1, none⟩ = some (.int .i64 0) := (blk_cell BK142.out 1).trans rfl; have hcz5_2 : w4.cell? ⟨gb142, 2, none⟩ = some (.string (⟨#[]⟩ : ByteArray)) := (blk_cell BK142.out 2).trans rfl; have hcz5_3 : w4.cell? ⟨gb142, 3, none⟩ = some (.int .i64 0) := (blk_cell BK142.out 3).trans rfl; have hfz5_0 := blk_frozen BK142.out 0; have hfz5_1 := blk_frozen BK142.out 1; have hfz5_2 := blk_frozen BK142.out 2; have hfz5_3 := blk_frozen BK142.out 3))
    go_ret
    exact ⟨by first | rfl | (simp [errW_none, errW_some] <;> rfl) | (simp [*, errW_none, errW_some] <;> rfl) | (simp [gp_ne]; done) | (simp [gp_ne, i64_w, i32_w, *]; done) | (simp [i64_w, i32_w]; (try unfold wrap64); (try unfold wrap32); omega), by repeat (first | (with_reducible first | exact HB.out | apply below_alloc | apply pw_below_drewN | apply below_drew1 | refine below_set ?_ GE142.out) | exact HB.out)⟩
  · rw [if_neg c2] at H
    have c2b0 : (t141 == 0) = false := beq_eq_false_iff_ne.mpr c2
    have c2b1 : (t141 != 0) = true := bne_iff_ne.mpr c2
    obtain rfl := Option.some.inj H
    go_enter Try.func11, Try.ntmps11
    go_wp2_with (first | ((with_reducible refine gate_callee (f := 15) rfl ?_); refine goesL_ (some 4) rfl rfl Try.func15 (by kernel_rfl) rfl #[.string (⟨#[98, 121, 116, 101, 115, 32, 49, 32, 34, 97, 92, 120, 48, 100, 92, 120, 48, 97, 34]⟩ : ByteArray)] rfl (by (try simp only [List.map_toArray, List.map_cons, List.map_nil]); first | done | rfl | (simp only [List.length_drop, List.length_take]; rfl)) ?_; (with_reducible refine (desk_Parse.calls k (⟨#[98, 121, 116, 101, 115, 32, 49, 32, 34, 97, 92, 120, 48, 100, 92, 120, 48, 97, 34]⟩ : ByteArray) t137 t138 t139 t140 t141 _ A1.out).mono ?_); rintro e w6 ⟨rfl, hb⟩; refine ⟨_, rfl, ?_⟩; have n0_ := Aside0.mk (below_step (by repeat (first | (with_reducible first | exact HB.out | apply below_alloc | apply pw_below_drewN | apply below_drew1) | exact HB.out)) hb); clear HB; have HB := n0_; clear n0_; (try clear hb); (try clear hb2); (try clear hk); (try clear hi)) | ((with_reducible refine gate_dst (N := 1) rfl ?_); refine box_event ?hg (N := 1) ?hd (cs := #[.int .i64 0, .int .i64 0, .string (⟨#[]⟩ : ByteArray), .int .i64 0]) (t := 30) ?hr ?_; (case hd => rfl); (case hg => rfl); (case hr => first | (go_simp; done) | (go_simp; rfl)); intro gb142 hg w7 hbox hb; have n0_ := Aside0.mk (below_step (by repeat (first | (with_reducible first | exact HB.out | apply below_alloc | apply pw_below_drewN | apply below_drew1) | exact HB.out)) hb); have n1_ := Aside0.mk (hbox); have n2_ := Aside0.mk ((by rw [hg]; exact (below_size (by repeat (first | (with_reducible first | exact HB.out | apply below_alloc | apply pw_below_drewN | apply below_drew1) | exact HB.out))) : w.heap.size ≤ gb142)); have n3_ := Aside0.mk ((by rw [hg]; exact (below_size (by repeat (first | (with_reducible first | exact HB.out | apply below_alloc | apply pw_below_drewN | apply below_drew1) | exact HB.out))) : w.heap.size ≤ gb142)); clear HB; have HB := n0_; have BK142 := n1_; have GW142 := n2_; have GE142 := n3_; clear n0_ n1_ n2_ n3_; clear hb hbox hg; have hcz8_0 : w7.cell? ⟨gb142, 0, none⟩ = some (.int .i64 0) := (blk_cell BK142.out 0).trans rfl; have hcz8_1 : w7.cell? ⟨gb142, 1, none⟩ = some (.int .i64 0) := (blk_cell BK142.out 1).trans rfl; have hcz8_2 : w7.cell? ⟨gb142, 2, none⟩ = some (.string (⟨#[]⟩ : ByteArray)) := (blk_cell BK142.out 2).trans rfl; have hcz8_3 : w7.cell? ⟨gb142, 3, none⟩ = some (.int .i64 0) := (blk_cell BK142.out 3).trans rfl; have hfz8_0 := blk_frozen BK142.out 0; have hfz8_1 := blk_frozen BK142.out 1; have hfz8_2 := blk_frozen BK142.out 2; have hfz8_3 := blk_frozen BK142.out 3))
    go_ret
    exact ⟨by first | rfl | (simp [errW_none, errW_some] <;> rfl) | (simp [*, errW_none, errW_some] <;> rfl) | (simp [gp_ne]; done) | (simp [gp_ne, i64_w, i32_w, *]; done) | (simp [i64_w, i32_w]; (try unfold wrap64); (try unfold wrap32); omega), by repeat (first | (with_reducible first | exact HB.out | apply below_alloc | apply pw_below_drewN | apply below_drew1 | refine below_set ?_ GE142.out) | exact HB.out)⟩

/-! ### larumref33_digit: function 38 -/
def larumref33_digit.j0 : Nat → Int → Bool → Option (Int)
  | 0, _, _ => none
  | k + 1, x0, x8 => if x8 = true then (some (wrap64 ((wrap64 (x0)) - 48))) else (if x0 ≥ 97 then (if x0 ≤ 102 then (some (wrap64 ((wrap64 (x0)) - 87))) else (some (-1))) else (some (-1)))
def larumref33_digit.f (k : Nat) (a0 : Int) : Option (Int) := if a0 ≥ 48 then (larumref33_digit.j0 k a0 (decide (a0 ≤ 57))) else (larumref33_digit.j0 k a0 false)
theorem larumref33_digit.mono_l : ∀ k, (∀ y0 y1, LeO (larumref33_digit.j0 k y0 y1) (larumref33_digit.j0 (k + 1) y0 y1))
  | 0 => fun _ _ r h => by simp [larumref33_digit.j0] at h
  | k + 1 => by
    have ih0 := larumref33_digit.mono_l k
    · intro y0 y1
      unfold larumref33_digit.j0
      repeat' first
      | (with_reducible exact ih0 _ _)
      | (with_reducible exact LeO.refl _)
      | (with_reducible exact LeO.none _)
      | (with_reducible refine LeO.ite ?_ ?_)
      | (with_reducible refine LeO.bind ?_ (fun _ => ?_))
      | exact ih0 _ _
      | exact LeO.none _
      | refine LeO.ite ?_ ?_
      | refine LeO.bind ?_ (fun _ => ?_)
theorem larumref33_digit.mono : ∀ a0 k, LeO (larumref33_digit.f k a0) (larumref33_digit.f (k + 1) a0) := by
  intro a0 k
  have ih0 := larumref33_digit.mono_l k
  unfold larumref33_digit.f
  repeat' first
      | (with_reducible exact ih0 _ _)
      | (with_reducible exact LeO.refl _)
      | (with_reducible exact LeO.none _)
      | (with_reducible refine LeO.ite ?_ ?_)
      | (with_reducible refine LeO.bind ?_ (fun _ => ?_))
      | exact ih0 _ _
      | exact LeO.none _
      | refine LeO.ite ?_ ?_
      | refine LeO.bind ?_ (fun _ => ?_)
set_option maxHeartbeats 8000000 in
set_option maxRecDepth 100000 in
theorem larumref33_digit.calls (k : Nat) (a0 : Int) (r : Int) (w : World) (h : larumref33_digit.f k a0 = some r) :
    Calls Try.prog 38 #[.int .u8 a0] w fun e w' => e = .returned (.int .i64 r) ∧ Drawn0 w w' := by
  have H : (if a0 ≥ 48 then (larumref33_digit.j0 k a0 (decide (a0 ≤ 57))) else (larumref33_digit.j0 k a0 false)) = some r := h
  clear h
  have HC2 := Aside0.mk H
  clear H
  go_enter Try.func38, Try.ntmps38
  go_upto_region 1 with (fail)
  go_cut [8] (fun v8 wc => ∃ (kq : Nat) (x8_1 : Bool), v8 = .bool x8_1 ∧ Aside0 (larumref33_digit.j0 kq a0 x8_1 = some r) ∧ Aside0 (kq ≤ k) ∧ Drawn0 w wc)
  case first =>
    have H := HC2.out
    clear HC2
    by_cases c3 : a0 ≥ 48
    · rw [if_pos c3] at H
      have c3b0 : decide (48 ≤ a0) = true := decide_eq_true c3
      clear c3
      (first | rw [c3b0] | (simp only [i64_w, i32_w]; rw [c3b0]) | skip)
      have H' := Aside0.mk H
      clear H
      go_wp2
      go_meet
      case rel => exact ⟨_, (decide (a0 ≤ 57)), (by first | rfl | (simp; done) | (simp [*]; done) | (simp only [i64_w, i32_w]; done) | (simp [i64_w, i32_w, *]; done) | (simp [gp_ne]; done) | (simp [gp_ne, i64_w, i32_w, *]; done) | (simp [i64_w, i32_w]; (try unfold wrap64); (try unfold wrap32); omega)), H', ⟨by first | omega | exact Nat.le_refl _⟩, by repeat (first | exact Drawn0.refl _ | apply Drawn0.step)⟩
    · rw [if_neg c3] at H
      have c3b0 : decide (48 ≤ a0) = false := decide_eq_false c3
      clear c3
      (first | rw [c3b0] | (simp only [i64_w, i32_w]; rw [c3b0]) | skip)
      have H' := Aside0.mk H
      clear H
      go_wp2
      go_meet
      case rel => exact ⟨_, (false), (by first | rfl | (simp; done) | (simp [*]; done) | (simp only [i64_w, i32_w]; done) | (simp [i64_w, i32_w, *]; done) | (simp [gp_ne]; done) | (simp [gp_ne, i64_w, i32_w, *]; done) | (simp [i64_w, i32_w]; (try unfold wrap64); (try unfold wrap32); omega)), H', ⟨by first | omega | exact Nat.le_refl _⟩, by repeat (first | exact Drawn0.refl _ | apply Drawn0.step)⟩
  case rest =>
    clear HC2
    try clear p2
    try clear c3
    try clear c3b0
    obtain ⟨kq, x8_1, rfl, HA, HJ1, ⟨mc1, rfl⟩⟩ := hcut
    cases kq with
    | zero => exact absurd HA.out (by simp [larumref33_digit.j0])
    | succ kj1 =>
      have H := HA.out
      clear HA
      simp only [larumref33_digit.j0] at H
      by_cases c4 : x8_1 = true
      · subst c4
        have H1 : (some (wrap64 ((wrap64 (a0)) - 48))) = some r := by rw [if_pos rfl] at H; exact H
        clear H
        have H := H1
        clear H1
        obtain rfl := Option.some.inj H
        go_wp2
        go_ret
        exact ⟨by first | rfl | (simp; done) | (simp [*]; done) | (simp only [i64_w, i32_w]; done) | (simp [i64_w, i32_w, *]; done) | (simp [gp_ne]; done) | (simp [gp_ne, i64_w, i32_w, *]; done) | (simp [i64_w, i32_w]; (try unfold wrap64); (try unfold wrap32); omega), by repeat (first | exact Drawn0.refl _ | apply Drawn0.step)⟩
      · replace c4 := Bool.eq_false_iff.mpr c4
        subst c4
        have H1 : (if a0 ≥ 97 then (if a0 ≤ 102 then (some (wrap64 ((wrap64 (a0)) - 87))) else (some (-1))) else (some (-1))) = some r := by rw [if_neg (show ¬ (false = true) by decide)] at H; exact H
        clear H
        have H := H1
        clear H1
        by_cases c5 : a0 ≥ 97
        · rw [if_pos c5] at H
          have c5b0 : decide (97 ≤ a0) = true := decide_eq_true c5
          clear c5
          by_cases c6 : a0 ≤ 102
          · rw [if_pos c6] at H
            have c6b0 : decide (a0 ≤ 102) = true := decide_eq_true c6
            clear c6
            obtain rfl := Option.some.inj H
            go_wp2
            go_ret
            exact ⟨by first | rfl | (simp; done) | (simp [*]; done) | (simp only [i64_w, i32_w]; done) | (simp [i64_w, i32_w, *]; done) | (simp [gp_ne]; done) | (simp [gp_ne, i64_w, i32_w, *]; done) | (simp [i64_w, i32_w]; (try unfold wrap64); (try unfold wrap32); omega), by repeat (first | exact Drawn0.refl _ | apply Drawn0.step)⟩
          · rw [if_neg c6] at H
            have c6b0 : decide (a0 ≤ 102) = false := decide_eq_false c6
            clear c6
            obtain rfl := Option.some.inj H
            go_wp2
            go_ret
            exact ⟨by first | rfl | (simp; done) | (simp [*]; done) | (simp only [i64_w, i32_w]; done) | (simp [i64_w, i32_w, *]; done) | (simp [gp_ne]; done) | (simp [gp_ne, i64_w, i32_w, *]; done) | (simp [i64_w, i32_w]; (try unfold wrap64); (try unfold wrap32); omega), by repeat (first | exact Drawn0.refl _ | apply Drawn0.step)⟩
        · rw [if_neg c5] at H
          have c5b0 : decide (97 ≤ a0) = false := decide_eq_false c5
          clear c5
          obtain rfl := Option.some.inj H
          go_wp2
          go_ret
          exact ⟨by first | rfl | (simp; done) | (simp [*]; done) | (simp only [i64_w, i32_w]; done) | (simp [i64_w, i32_w, *]; done) | (simp [gp_ne]; done) | (simp [gp_ne, i64_w, i32_w, *]; done) | (simp [i64_w, i32_w]; (try unfold wrap64); (try unfold wrap32); omega), by repeat (first | exact Drawn0.refl _ | apply Drawn0.step)⟩

end Go.Proofs.Ytmdfgndndfggeaa.PDeskParse
