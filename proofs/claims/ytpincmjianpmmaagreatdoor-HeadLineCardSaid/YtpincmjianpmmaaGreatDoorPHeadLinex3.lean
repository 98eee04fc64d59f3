-- By gp.py, a program of this session: the print of the kit with contracts of this session's own beside it.
import Derived.Test.YtpincmjianpmmaaGreatDoorPHeadLinex0
import Derived.Test.YtpincmjianpmmaaGreatDoorPHeadLinex2
namespace Go.Proofs.YtpincmjianpmmaaGreatDoor.PHeadLine
open Go.RowKit Go.Proofs.YtpincmjianpmmaaGreatDoor.Gp Go.Proofs.YtpincmjianpmmaaGreatDoorW.PrintWords Go.Proofs.YtpincmjianpmmaaGreatDoorW.PrintLast Go.Proofs.YtpincmjianpmmaaGreatDoorW.PrintMore
attribute [local go_sem] max2_int min2_int max_two min_two max_three min_three max_four min_four gp_gtr gp_leq gp_geq   -- for this text's walks alone
set_option linter.unusedVariables false
set_option linter.unusedSimpArgs false

/-! ### strings_Trim: function 25 -/
/-- A blank. -/
def strings_Trim.bl (x : UInt8) : Bool := [32, 9].contains x
def strings_Trim.rcut (s : ByteArray) : Nat → Nat
  | 0 => 0
  | n + 1 => if strings_Trim.bl (s.data.toList.getD n 0) = true then strings_Trim.rcut s n else n + 1
def strings_Trim.lcut (s : ByteArray) : Nat → Nat → Nat
  | 0, i => i
  | f + 1, i => if strings_Trim.bl (s.data.toList.getD i 0) = true then strings_Trim.lcut s f (i + 1) else i
theorem strings_Trim.rcut_le (s : ByteArray) : ∀ n, strings_Trim.rcut s n ≤ n
  | 0 => Nat.le_refl _
  | n + 1 => by
    unfold strings_Trim.rcut
    split
    · exact Nat.le_succ_of_le (strings_Trim.rcut_le s n)
    · exact Nat.le_refl _
theorem strings_Trim.getD_at (s : ByteArray) (i : Nat) (h : i < s.size) : s.data.toList.getD i 0 = s[i]'h := by
  rw [List.getD_eq_getElem?_getD, Lib.data_getElem? s i h]; rfl
theorem strings_Trim.ex_at (s : ByteArray) (a b i : Nat) (hb : b ≤ s.size) (h : i < (s.extract a b).size) (h' : a + i < s.size) : (s.extract a b)[i]'h = s[a + i]'h' := by
  simp [ByteArray.getElem_extract]
theorem strings_Trim.ex_size (s : ByteArray) (a b : Nat) (hb : b ≤ s.size) : (s.extract a b).size = b - a := by
  simp [ByteArray.size_extract]; omega
theorem strings_Trim.ex_ex (s : ByteArray) (n : Nat) (hn : n ≤ s.size) : (s.extract 0 n).extract 0 (n - 1) = s.extract 0 (n - 1) := by
  rw [ByteArray.extract_extract]; congr 1; omega
set_option maxHeartbeats 4000000 in
set_option maxRecDepth 1000000 in
theorem strings_Trim.right_calls (s : ByteArray) (b : Nat) (w : World) (hs : s.size ≤ 9223372036854775807) (hc : ∀ x : UInt8, w.cell? ⟨b, x.toNat, none⟩ = some (.bool (strings_Trim.bl x))) :
    Calls Tryz.prog 41 #[.string s, .pointer (some ⟨b, 0, none⟩)] w fun e w' => e = .returned (.string (s.extract 0 (strings_Trim.rcut s s.size))) ∧ Drawn0 w w' := by
  have HC := Aside0.mk hc
  clear hc
  go_enter Tryz.func41, Tryz.ntmps41
  have hz : s.extract 0 s.size = s := by simp
  go_wp2
  go_loopg [0] s.size (fun g v0 wx => ∃ m : Nat, g ≤ s.size ∧ v0 = .string (s.extract 0 g) ∧ strings_Trim.rcut s g = strings_Trim.rcut s s.size ∧ wx = w.drewN m)
  case atStart => exact ⟨0, Nat.le_refl _, by rw [hz], rfl, rfl⟩
  case round =>
    obtain ⟨m, hg, rfl, hr, rfl⟩ := hrel
    have HR := Aside0.mk hr
    have hts := strings_Trim.ex_size s 0 gk hg
    rw [Nat.sub_zero] at hts
    cases gk with
    | zero =>
      obtain ⟨t, ht⟩ : ∃ t, s.extract 0 0 = t := ⟨_, rfl⟩
      rw [ht] at hts ⊢
      have HT := Aside0.mk ht
      clear ht hr hz hg
      go_wp2
      repeat (go_quiet (fail))
      go_ret
      exact ⟨by rw [← HR.out, ← HT.out]; rfl, ⟨⟨m, rfl⟩⟩⟩
    | succ g =>
      have hx := strings_Trim.ex_at s 0 (g + 1) g hg (by rw [hts]; omega) (by omega)
      have hb := strings_Trim.getD_at s g (by omega)
      have he := strings_Trim.ex_ex s (g + 1) hg
      rw [Nat.add_sub_cancel] at he
      obtain ⟨t, ht⟩ : ∃ t, s.extract 0 (g + 1) = t := ⟨_, rfl⟩
      obtain ⟨x, hxx⟩ : ∃ x, s[0 + g]'(by omega) = x := ⟨_, rfl⟩
      have hb' : s.data.toList.getD g 0 = x := by rw [hb, ← hxx]; simp
      have hx' : ∀ h : g < t.size, t[g]'h = x := fun h => by rw [← hxx, ← hx]; simp [ht]
      rw [ht] at hts he ⊢
      have HT := Aside0.mk ht
      have HX := Aside0.mk hb'
      have HE := Aside0.mk he
      have HG := Aside0.mk hg
      have cc := fun m_ : Nat => Tryz.asciiSet_contains b x (strings_Trim.bl x) (w.drewN m_) (HC.out x)
      have hgz : (0 : Int) < (g : Int) + 1 := by omega
      have hwg : wrap64 (g : Int) = (g : Int) := by unfold wrap64; omega
      have hgt : (g : Int).toNat = g := by omega
      clear ht hr hz hg hx hb hb' he hxx
      cases hbl : strings_Trim.bl x with
      | true =>
        rw [hbl] at cc
        have hlt : (0 : Int) ≤ (g : Int) ∧ (g : Int) < (g : Int) + 1 := by omega
        go_wp2_with (go_at_call 53; refine (cc _).mono ?_; rintro e w' ⟨rfl, rfl⟩)
        go_roundg g
        case measure => omega
        case rel =>
          have hg := HG.out
          refine ⟨m, by omega, by rw [HE.out], ?_, rfl⟩
          rw [← HR.out]
          show _ = (if strings_Trim.bl (s.data.toList.getD g 0) = true then strings_Trim.rcut s g else g + 1)
          rw [HX.out, hbl, if_pos rfl]
      | false =>
        rw [hbl] at cc
        have hlt : (0 : Int) ≤ (g : Int) ∧ (g : Int) < (g : Int) + 1 := by omega
        go_wp2_with (go_at_call 53; refine (cc _).mono ?_; rintro e w' ⟨rfl, rfl⟩)
        go_ret
        refine ⟨?_, ⟨⟨m, rfl⟩⟩⟩
        have hr : strings_Trim.rcut s s.size = g + 1 := by
          rw [← HR.out]
          show (if strings_Trim.bl (s.data.toList.getD g 0) = true then strings_Trim.rcut s g else g + 1) = g + 1
          rw [HX.out, hbl, if_neg (by simp)]
        rw [hr, HT.out]
        rfl
theorem strings_Trim.ex_tail (s : ByteArray) (i : Nat) (hi : i < s.size) : (s.extract i s.size).extract 1 (s.size - i) = s.extract (i + 1) s.size := by
  rw [ByteArray.extract_extract]; congr 1; omega
set_option maxHeartbeats 4000000 in
set_option maxRecDepth 1000000 in
theorem strings_Trim.left_calls (s : ByteArray) (b : Nat) (w : World) (hs : s.size ≤ 9223372036854775807) (hc : ∀ x : UInt8, w.cell? ⟨b, x.toNat, none⟩ = some (.bool (strings_Trim.bl x))) :
    Calls Tryz.prog 40 #[.string s, .pointer (some ⟨b, 0, none⟩)] w fun e w' => e = .returned (.string (s.extract (strings_Trim.lcut s s.size 0) s.size)) ∧ Drawn0 w w' := by
  have HC := Aside0.mk hc
  clear hc
  go_enter Tryz.func40, Tryz.ntmps40
  have hz : s.extract 0 s.size = s := by simp
  go_wp2
  go_loopg [0] s.size (fun g v0 wx => ∃ m i : Nat, i + g = s.size ∧ v0 = .string (s.extract i s.size) ∧ strings_Trim.lcut s g i = strings_Trim.lcut s s.size 0 ∧ wx = w.drewN m)
  case atStart => exact ⟨0, 0, by omega, by rw [hz], rfl, rfl⟩
  case round =>
    obtain ⟨m, i, hg, rfl, hr, rfl⟩ := hrel
    have HR := Aside0.mk hr
    have hts := strings_Trim.ex_size s i s.size (Nat.le_refl _)
    cases gk with
    | zero =>
      obtain ⟨t, ht⟩ : ∃ t, s.extract i s.size = t := ⟨_, rfl⟩
      rw [ht, show s.size - i = 0 by omega] at hts
      rw [ht]
      have HT := Aside0.mk ht
      clear ht hr hz hg
      go_wp2
      repeat (go_quiet (fail))
      go_ret
      exact ⟨by rw [← HR.out]; show _ = Ending.returned (Value.string (s.extract i s.size)); rw [HT.out]; rfl, ⟨⟨m, rfl⟩⟩⟩
    | succ g =>
      have hi : i < s.size := by omega
      have hx := strings_Trim.ex_at s i s.size 0 (Nat.le_refl _) (by rw [hts]; omega) (by omega)
      have hb := strings_Trim.getD_at s i hi
      have he := strings_Trim.ex_tail s i hi
      have hsi : s.size - i = g + 1 := by omega
      rw [hsi] at hts he
      obtain ⟨t, ht⟩ : ∃ t, s.extract i s.size = t := ⟨_, rfl⟩
      obtain ⟨x, hxx⟩ : ∃ x, s[i]'hi = x := ⟨_, rfl⟩
      have hb' : s.data.toList.getD i 0 = x := by rw [hb, ← hxx]
      have hx' : ∀ h : 0 < t.size, t[0]'h = x := fun h => by rw [← hxx]; have := hx; simp only [ht, Nat.add_zero] at this; exact this
      rw [ht] at hts he ⊢
      have HT := Aside0.mk ht
      have HX := Aside0.mk hb'
      have HE := Aside0.mk he
      have HG := Aside0.mk hg
      have HI := Aside0.mk hi
      have hgz : (0 : Int) < (g : Int) + 1 := by omega
      have hg1 : (1 : Int) ≤ (g : Int) + 1 := by omega
      have hgt : (g : Int).toNat = g := by omega
      clear ht hr hz hg hx hb hb' he hxx hi hsi
      have cc := fun m_ : Nat => Tryz.asciiSet_contains b x (strings_Trim.bl x) (w.drewN m_) (HC.out x)
      cases hbl : strings_Trim.bl x with
      | true =>
        rw [hbl] at cc
        go_wp2_with (go_at_call 53; refine (cc _).mono ?_; rintro e w' ⟨rfl, rfl⟩)
        go_roundg g
        case measure => omega
        case rel =>
          have hg := HG.out
          refine ⟨m, i + 1, by omega, by first | rw [HE.out] | (rw [← HE.out, hts]), ?_, rfl⟩
          rw [← HR.out]
          show _ = (if strings_Trim.bl (s.data.toList.getD i 0) = true then strings_Trim.lcut s g (i + 1) else i)
          rw [HX.out, hbl, if_pos rfl]
      | false =>
        rw [hbl] at cc
        go_wp2_with (go_at_call 53; refine (cc _).mono ?_; rintro e w' ⟨rfl, rfl⟩)
        go_ret
        refine ⟨?_, ⟨⟨m, rfl⟩⟩⟩
        have hr : strings_Trim.lcut s s.size 0 = i := by
          rw [← HR.out]
          show (if strings_Trim.bl (s.data.toList.getD i 0) = true then strings_Trim.lcut s g (i + 1) else i) = i
          rw [HX.out, hbl, if_neg (by simp)]
        rw [hr, HT.out]
        rfl
/-- Without blanks around. -/
def strings_Trim.trimR (s : ByteArray) : ByteArray := s.extract 0 (strings_Trim.rcut s s.size)
def strings_Trim.trimL (s : ByteArray) : ByteArray := s.extract (strings_Trim.lcut s s.size 0) s.size
def strings_Trim.f (a0 : ByteArray) (a1 : ByteArray) : Option (ByteArray) := if a1.data = #[32, 9] ∧ a0.size ≤ 9223372036854775807 then some (strings_Trim.trimL (strings_Trim.trimR a0)) else none
theorem strings_Trim.cells (w : World) (b e : Nat) (h : w.heap[b]? = some (.cells (Lib.setCells [32, 9]) e (0, 0))) (x : UInt8) : w.cell? ⟨b, x.toNat, none⟩ = some (.bool (strings_Trim.bl x)) := by
  have := Lib.setCells_at [32, 9] x
  simp only [World.cell?, h]
  simpa [strings_Trim.bl] using this
set_option maxHeartbeats 8000000 in
set_option maxRecDepth 1000000 in
theorem strings_Trim.calls (a0 : ByteArray) (a1 : ByteArray) (r : ByteArray) (w : World) (h : strings_Trim.f a0 a1 = some r) :
    Calls Tryz.prog 25 #[.string a0, .string a1] w fun e w' => e = .returned (.string r) ∧ Below w.heap.size w w' := by
  unfold strings_Trim.f at h
  by_cases hc : a1.data = #[32, 9] ∧ a0.size ≤ 9223372036854775807
  · rw [if_pos hc] at h
    obtain rfl := Option.some.inj h
    obtain ⟨h1, hs⟩ := hc
    obtain rfl : a1 = ⟨#[32, 9]⟩ := by cases a1; simp at h1; rw [h1]
    clear h h1
    have hset := Tryz.strings_makeASCIISet (fun _ => rfl) ⟨#[32, 9]⟩ w (by decide) (by intro j b hj; match j, hj with | 0, hj => (simp at hj; subst hj; decide) | 1, hj => (simp at hj; subst hj; decide) | j + 2, hj => simp at hj)
    by_cases h0 : a0.toList = []
    · have h0b : (a0.toList == ([] : List UInt8)) = true := by simpa using h0
      have hz : strings_Trim.trimL (strings_Trim.trimR a0) = a0 := by
        obtain rfl : a0 = ⟨#[]⟩ := by
          cases a0 with | mk d => rw [ByteArray.toList_eq] at h0; simp at h0; rw [h0]
        decide +kernel
      go_enter Tryz.func25, Tryz.ntmps25
      go_wp2
      go_ret
      exact ⟨by first | rfl | (rw [hz]; rfl), Below.refl _ _⟩
    · have h0b : (a0.toList == ([] : List UInt8)) = false := by simpa using h0
      have hsc : (storeCells ⟨w.heap.size + 1, 0, none⟩ (Lib.setCells [32, 9]).toList 0).run Tryz.prog ((w.alloc (.cells (Lib.setCells [32, 9]) 64)).alloc (.cells Tryz.zeroCells64 64)) = .ok () ((w.alloc (.cells (Lib.setCells [32, 9]) 64)).alloc (.cells (Lib.setCells [32, 9]) 64)) := by
        have h_ := run_storeCells_new (P := Tryz.prog) (w.alloc (.cells (Lib.setCells [32, 9]) 64)) 64 Tryz.zeroCells64 (Lib.setCells [32, 9]) (by rw [Lib.setCells_size]; kernel_rfl) (by rw [Lib.setCells_size]; kernel_rfl) (Lib.setCells_one _)
        rw [show (w.alloc (.cells (Lib.setCells [32, 9]) 64)).heap.size = w.heap.size + 1 from by unfold World.alloc; exact Array.size_push _] at h_
        exact h_
      have hh : ((w.alloc (.cells (Lib.setCells [32, 9]) 64)).alloc (.cells (Lib.setCells [32, 9]) 64)).heap[w.heap.size + 1]? = some (.cells (Lib.setCells [32, 9]) 64 (0, 0)) := by
        have h_ := heap_alloc_new (w.alloc (.cells (Lib.setCells [32, 9]) 64)) (.cells (Lib.setCells [32, 9]) 64)
        rw [show (w.alloc (.cells (Lib.setCells [32, 9]) 64)).heap.size = w.heap.size + 1 from by unfold World.alloc; exact Array.size_push _] at h_
        exact h_
      have HR := Aside0.mk (strings_Trim.right_calls a0 (w.heap.size + 1) _ hs (strings_Trim.cells _ (w.heap.size + 1) 64 hh))
      have hs2 : (strings_Trim.trimR a0).size ≤ 9223372036854775807 := Nat.le_trans (by unfold strings_Trim.trimR; rw [ByteArray.size_extract]; omega) hs
      have HL := Aside0.mk (fun nd : Nat => strings_Trim.left_calls (strings_Trim.trimR a0) (w.heap.size + 1) (World.drewN ((w.alloc (.cells (Lib.setCells [32, 9]) 64)).alloc (.cells (Lib.setCells [32, 9]) 64)) nd) hs2 (strings_Trim.cells _ (w.heap.size + 1) 64 hh))
      have HB : Aside0 (Below w.heap.size w ((w.alloc (.cells (Lib.setCells [32, 9]) 64)).alloc (.cells (Lib.setCells [32, 9]) 64))) := ⟨((Below.refl _ w).alloc (Nat.le_refl _) _).alloc (Nat.le_trans (Nat.le_succ _) (Nat.le_of_eq (by unfold World.alloc; exact (Array.size_push _).symm))) _⟩
      clear hh hs hs2
      go_enter Tryz.func25, Tryz.ntmps25
      go_wp2_with (first | (go_at_call 39; refine hset.mono ?_; rintro e w' ⟨rfl, rfl⟩) | (go_at_call 41; refine HR.out.mono ?_; rintro e w' ⟨rfl, ⟨nd, rfl⟩⟩) | (go_at_call 40; refine (HL.out _).mono ?_; rintro e w' ⟨rfl, ⟨nd2, rfl⟩⟩))
      go_ret
      exact ⟨rfl, by repeat (first | exact HB.out | apply pw_below_drewN)⟩
  · rw [if_neg hc] at h
    exact absurd h (by simp)


/-! ### chars_Trim: function 16 -/
def chars_Trim.f (a0 : ByteArray) : Option (ByteArray) := (strings_Trim.f a0 (⟨#[32, 9]⟩ : ByteArray)).bind fun t107 => (some t107)
set_option maxHeartbeats 8000000 in
set_option maxRecDepth 100000 in
theorem chars_Trim.calls (a0 : ByteArray) (r : ByteArray) (w : World) (h : chars_Trim.f a0 = some r) :
    Calls Tryz.prog 16 #[.string a0] w fun e w' => e = .returned (.string r) ∧ Below w.heap.size w w' := by
  have HB := Aside0.mk (Below.refl w.heap.size w)
  have H : ((strings_Trim.f a0 (⟨#[32, 9]⟩ : ByteArray)).bind fun t107 => (some t107)) = some r := h
  clear h
  replace H := Option.bind_eq_some_iff.mp H
  obtain ⟨t107, A20, H⟩ := H
  replace H : (some t107) = some r := H
  have A2 := Aside0.mk A20
  clear A20
  obtain rfl := Option.some.inj H
  go_enter Tryz.func16, Tryz.ntmps16
  go_wp2_with (first | ((with_reducible refine gate_callee (f := 25) rfl ?_); refine goesL_ (some 4) rfl rfl Tryz.func25 (by kernel_rfl) rfl #[.string a0, .string (⟨#[32, 9]⟩ : ByteArray)] rfl (by (try simp only [List.map_toArray, List.map_cons, List.map_nil]); first | done | rfl | (simp only [List.length_drop, List.length_take]; rfl)) ?_; (with_reducible refine (strings_Trim.calls a0 (⟨#[32, 9]⟩ : ByteArray) t107 _ A2.out).mono ?_); rintro e w3 ⟨rfl, hb⟩; refine ⟨_, rfl, ?_⟩; have n0_ := Aside0.mk (below_step (by repeat (first | (with_reducible first | exact HB.out | apply below_alloc | apply pw_below_drewN | apply below_drew1) | exact HB.out)) hb); clear HB; have HB := n0_; clear n0_; (try clear hb); (try clear hb2); (try clear hk); (try clear hi)))
  go_ret
  exact ⟨by first | rfl | (simp [errW_none, errW_some] <;> rfl) | (simp [*, errW_none, errW_some] <;> rfl) | (simp [gp_ne]; done) | (simp [gp_ne, i64_w, i32_w, *]; done) | (simp [i64_w, i32_w]; (try unfold wrap64); (try unfold wrap32); omega), by repeat (first | (with_reducible first | exact HB.out | apply below_alloc | apply pw_below_drewN | apply below_drew1) | exact HB.out)⟩

/-! ### chars_All_chars_Token_126: function 126 -/
def chars_All_chars_Token_126.l0 : Nat → ByteArray → Int → Option (Bool)
  | 0, _, _ => none
  | k + 1, x0, x5 => if x5 < (x0.size : Int) then (if 0 ≤ x5 then ((chars_Token.f (bt x0 x5)).bind fun t108 => (if t108 = true then (chars_All_chars_Token_126.l0 k x0 (wrap64 (x5 + 1))) else (some false))) else (none)) else (some true)
def chars_All_chars_Token_126.f (k : Nat) (a0 : ByteArray)  : Option (Bool) := chars_All_chars_Token_126.l0 k a0 0
theorem chars_All_chars_Token_126.mono_l : ∀ k, (∀ y0 y1, LeO (chars_All_chars_Token_126.l0 k y0 y1) (chars_All_chars_Token_126.l0 (k + 1) y0 y1))
  | 0 => fun _ _ r h => by simp [chars_All_chars_Token_126.l0] at h
  | k + 1 => by
    have ih0 := chars_All_chars_Token_126.mono_l k
    · intro y0 y1
      unfold chars_All_chars_Token_126.l0
      repeat' first
      | (with_reducible exact ih0 _ _)
      | (with_reducible exact LeO.refl _)
      | (with_reducible exact LeO.none _)
      | (with_reducible refine LeO.ite ?_ ?_)
      | (with_reducible refine LeO.bind ?_ (fun _ => ?_))
      | exact ih0 _ _
      | exact LeO.none _
      | refine LeO.ite ?_ ?_
      | refine LeO.bind ?_ (fun _ => ?_)
theorem chars_All_chars_Token_126.mono : ∀ a0 k, LeO (chars_All_chars_Token_126.f k a0) (chars_All_chars_Token_126.f (k + 1) a0) := by
  intro a0 k
  have ih0 := chars_All_chars_Token_126.mono_l k
  unfold chars_All_chars_Token_126.f
  repeat' first
      | (with_reducible exact ih0 _ _)
      | (with_reducible exact LeO.refl _)
      | (with_reducible exact LeO.none _)
      | (with_reducible refine LeO.ite ?_ ?_)
      | (with_reducible refine LeO.bind ?_ (fun _ => ?_))
      | exact ih0 _ _
      | exact LeO.none _
      | refine LeO.ite ?_ ?_
      | refine LeO.bind ?_ (fun _ => ?_)
set_option maxHeartbeats 8000000 in
set_option maxRecDepth 100000 in
theorem chars_All_chars_Token_126.calls (k : Nat) (a0 : ByteArray)  (r : Bool) (w : World) (h : chars_All_chars_Token_126.f k a0 = some r) :
    Calls Tryz.prog 13 #[.string a0, .func (.func 14) #[] #[]] w fun e w' => e = .returned (.bool r) ∧ Drawn0 w w' := by
  have hfn1neq : ∀ W : World, (binOp .neq 41 (.func (.func 14) #[] #[]) .nilFunc).run Tryz.prog W = .ok (.bool true) W := fun W => by rfl
  have hfn1eql : ∀ W : World, (binOp .eql 41 (.func (.func 14) #[] #[]) .nilFunc).run Tryz.prog W = .ok (.bool false) W := fun W => by rfl
  have H : (chars_All_chars_Token_126.l0 k a0 0) = some r := h
  clear h
  have H' := Aside0.mk H
  clear H
  go_enter Tryz.func13, Tryz.ntmps13
  go_wp2
  go_loopg [5] k (fun kq v5 w' => ∃ (x5_1 : Int), v5 = .int .i64 x5_1 ∧ Aside0 (chars_All_chars_Token_126.l0 kq a0 x5_1 = some r) ∧ Aside0 (kq ≤ k) ∧ Drawn0 w w')
  case atStart => exact ⟨(0), (by first | rfl | (simp; done) | (simp [*]; done) | (simp only [i64_w, i32_w]; done) | (simp [i64_w, i32_w, *]; done) | (simp [gp_ne]; done) | (simp [gp_ne, i64_w, i32_w, *]; done) | (simp [i64_w, i32_w]; (try unfold wrap64); (try unfold wrap32); omega)), H', ⟨Nat.le_refl _⟩, by repeat (first | exact Drawn0.refl _ | apply Drawn0.step)⟩
  case round =>
    clear H'
    try clear c1
    try clear p2
    obtain ⟨x5_1, rfl, HA, HK1, ⟨m1, rfl⟩⟩ := hrel
    cases gk with
    | zero => exact absurd HA.out (by simp [chars_All_chars_Token_126.l0])
    | succ k1 =>
      have H := HA.out
      clear HA
      simp only [chars_All_chars_Token_126.l0] at H
      by_cases c3 : x5_1 < (a0.size : Int)
      · rw [if_pos c3] at H
        have c3b0 : decide (x5_1 < (a0.size : Int)) = true := decide_eq_true c3
        clear c3
        by_cases c4 : 0 ≤ x5_1
        · rw [if_pos c4] at H
          have c4b0 : decide (0 ≤ x5_1) = true := decide_eq_true c4
          clear c4
          replace H := Option.bind_eq_some_iff.mp H
          obtain ⟨t108, A60, H⟩ := H
          replace H : (if t108 = true then (chars_All_chars_Token_126.l0 k1 a0 (wrap64 (x5_1 + 1))) else (some false)) = some r := H
          have A6 := Aside0.mk A60
          clear A60
          by_cases c7 : t108 = true
          · subst c7
            have H1 : (chars_All_chars_Token_126.l0 k1 a0 (wrap64 (x5_1 + 1))) = some r := by rw [if_pos rfl] at H; exact H
            clear H
            have H := H1
            clear H1
            have H' := Aside0.mk H
            clear H
            have p5 : 0 ≤ (x5_1 : Int) := of_decide_eq_true (by first | (with_reducible assumption) | assumption)
            have q5 : x5_1 < (a0.size : Int) := of_decide_eq_true (by first | (with_reducible assumption) | assumption)
            have hx5 := bt_at a0 x5_1
            replace p5 := eq_true p5
            replace q5 := eq_true q5
            go_wp2_with (first | (go_at_call 14; (with_reducible refine (chars_Token.calls (bt a0 x5_1) true _ A6.out).mono ?_); rintro e w' ⟨rfl, ⟨nd, rfl⟩⟩))
            go_roundg k1
            case measure => have := HK1.out; omega
            case rel => exact ⟨(wrap64 (x5_1 + 1)), (by first | rfl | (simp; done) | (simp [*]; done) | (simp only [i64_w, i32_w]; done) | (simp [i64_w, i32_w, *]; done) | (simp [gp_ne]; done) | (simp [gp_ne, i64_w, i32_w, *]; done) | (simp [i64_w, i32_w]; (try unfold wrap64); (try unfold wrap32); omega)), H', ⟨by have := HK1.out; omega⟩, by repeat (first | exact Drawn0.refl _ | apply Drawn0.step)⟩
          · replace c7 := Bool.eq_false_iff.mpr c7
            subst c7
            have H1 : (some false) = some r := by rw [if_neg (show ¬ (false = true) by decide)] at H; exact H
            clear H
            have H := H1
            clear H1
            obtain rfl := Option.some.inj H
            have p5 : 0 ≤ (x5_1 : Int) := of_decide_eq_true (by first | (with_reducible assumption) | assumption)
            have q5 : x5_1 < (a0.size : Int) := of_decide_eq_true (by first | (with_reducible assumption) | assumption)
            have hx5 := bt_at a0 x5_1
            replace p5 := eq_true p5
            replace q5 := eq_true q5
            go_wp2_with (first | (go_at_call 14; (with_reducible refine (chars_Token.calls (bt a0 x5_1) false _ A6.out).mono ?_); rintro e w' ⟨rfl, ⟨nd, rfl⟩⟩))
            go_ret
            exact ⟨by first | rfl | (simp; done) | (simp [*]; done) | (simp only [i64_w, i32_w]; done) | (simp [i64_w, i32_w, *]; done) | (simp [gp_ne]; done) | (simp [gp_ne, i64_w, i32_w, *]; done) | (simp [i64_w, i32_w]; (try unfold wrap64); (try unfold wrap32); omega), by repeat (first | exact Drawn0.refl _ | apply Drawn0.step)⟩
        · rw [if_neg c4] at H
          exact absurd H (by simp)
      · rw [if_neg c3] at H
        have c3b0 : decide (x5_1 < (a0.size : Int)) = false := decide_eq_false c3
        clear c3
        obtain rfl := Option.some.inj H
        go_wp2
        go_ret
        exact ⟨by first | rfl | (simp; done) | (simp [*]; done) | (simp only [i64_w, i32_w]; done) | (simp [i64_w, i32_w, *]; done) | (simp [gp_ne]; done) | (simp [gp_ne, i64_w, i32_w, *]; done) | (simp [i64_w, i32_w]; (try unfold wrap64); (try unfold wrap32); omega), by repeat (first | exact Drawn0.refl _ | apply Drawn0.step)⟩

/-! ### chars_All_head_inValue_127: function 127 -/
def chars_All_head_inValue_127.l0 : Nat → ByteArray → Int → Option (Bool)
  | 0, _, _ => none
  | k + 1, x0, x5 => if x5 < (x0.size : Int) then (if 0 ≤ x5 then ((head_inValue.f (bt x0 x5)).bind fun t109 => (if t109 = true then (chars_All_head_inValue_127.l0 k x0 (wrap64 (x5 + 1))) else (some false))) else (none)) else (some true)
def chars_All_head_inValue_127.f (k : Nat) (a0 : ByteArray)  : Option (Bool) := chars_All_head_inValue_127.l0 k a0 0
theorem chars_All_head_inValue_127.mono_l : ∀ k, (∀ y0 y1, LeO (chars_All_head_inValue_127.l0 k y0 y1) (chars_All_head_inValue_127.l0 (k + 1) y0 y1))
  | 0 => fun _ _ r h => by simp [chars_All_head_inValue_127.l0] at h
  | k + 1 => by
    have ih0 := chars_All_head_inValue_127.mono_l k
    · intro y0 y1
      unfold chars_All_head_inValue_127.l0
      repeat' first
      | (with_reducible exact ih0 _ _)
      | (with_reducible exact LeO.refl _)
      | (with_reducible exact LeO.none _)
      | (with_reducible refine LeO.ite ?_ ?_)
      | (with_reducible refine LeO.bind ?_ (fun _ => ?_))
      | exact ih0 _ _
      | exact LeO.none _
      | refine LeO.ite ?_ ?_
      | refine LeO.bind ?_ (fun _ => ?_)
theorem chars_All_head_inValue_127.mono : ∀ a0 k, LeO (chars_All_head_inValue_127.f k a0) (chars_All_head_inValue_127.f (k + 1) a0) := by
  intro a0 k
  have ih0 := chars_All_head_inValue_127.mono_l k
  unfold chars_All_head_inValue_127.f
  repeat' first
      | (with_reducible exact ih0 _ _)
      | (with_reducible exact LeO.refl _)
      | (with_reducible exact LeO.none _)
      | (with_reducible refine LeO.ite ?_ ?_)
      | (with_reducible refine LeO.bind ?_ (fun _ => ?_))
      | exact ih0 _ _
      | exact LeO.none _
      | refine LeO.ite ?_ ?_
      | refine LeO.bind ?_ (fun _ => ?_)
set_option maxHeartbeats 8000000 in
set_option maxRecDepth 100000 in
theorem chars_All_head_inValue_127.calls (k : Nat) (a0 : ByteArray)  (r : Bool) (w : World) (h : chars_All_head_inValue_127.f k a0 = some r) :
    Calls Tryz.prog 13 #[.string a0, .func (.func 15) #[] #[]] w fun e w' => e = .returned (.bool r) ∧ Drawn0 w w' := by
  have hfn1neq : ∀ W : World, (binOp .neq 41 (.func (.func 15) #[] #[]) .nilFunc).run Tryz.prog W = .ok (.bool true) W := fun W => by rfl
  have hfn1eql : ∀ W : World, (binOp .eql 41 (.func (.func 15) #[] #[]) .nilFunc).run Tryz.prog W = .ok (.bool false) W := fun W => by rfl
  have H : (chars_All_head_inValue_127.l0 k a0 0) = some r := h
  clear h
  have H' := Aside0.mk H
  clear H
  go_enter Tryz.func13, Tryz.ntmps13
  go_wp2
  go_loopg [5] k (fun kq v5 w' => ∃ (x5_1 : Int), v5 = .int .i64 x5_1 ∧ Aside0 (chars_All_head_inValue_127.l0 kq a0 x5_1 = some r) ∧ Aside0 (kq ≤ k) ∧ Drawn0 w w')
  case atStart => exact ⟨(0), (by first | rfl | (simp; done) | (simp [*]; done) | (simp only [i64_w, i32_w]; done) | (simp [i64_w, i32_w, *]; done) | (simp [gp_ne]; done) | (simp [gp_ne, i64_w, i32_w, *]; done) | (simp [i64_w, i32_w]; (try unfold wrap64); (try unfold wrap32); omega)), H', ⟨Nat.le_refl _⟩, by repeat (first | exact Drawn0.refl _ | apply Drawn0.step)⟩
  case round =>
    clear H'
    try clear c1
    try clear p2
    obtain ⟨x5_1, rfl, HA, HK1, ⟨m1, rfl⟩⟩ := hrel
    cases gk with
    | zero => exact absurd HA.out (by simp [chars_All_head_inValue_127.l0])
    | succ k1 =>
      have H := HA.out
      clear HA
      simp only [chars_All_head_inValue_127.l0] at H
      by_cases c3 : x5_1 < (a0.size : Int)
      · rw [if_pos c3] at H
        have c3b0 : decide (x5_1 < (a0.size : Int)) = true := decide_eq_true c3
        clear c3
        by_cases c4 : 0 ≤ x5_1
        · rw [if_pos c4] at H
          have c4b0 : decide (0 ≤ x5_1) = true := decide_eq_true c4
          clear c4
          replace H := Option.bind_eq_some_iff.mp H
          obtain ⟨t109, A60, H⟩ := H
          replace H : (if t109 = true then (chars_All_head_inValue_127.l0 k1 a0 (wrap64 (x5_1 + 1))) else (some false)) = some r := H
          have A6 := Aside0.mk A60
          clear A60
          by_cases c7 : t109 = true
          · subst c7
            have H1 : (chars_All_head_inValue_127.l0 k1 a0 (wrap64 (x5_1 + 1))) = some r := by rw [if_pos rfl] at H; exact H
            clear H
            have H := H1
            clear H1
            have H' := Aside0.mk H
            clear H
            have p5 : 0 ≤ (x5_1 : Int) := of_decide_eq_true (by first | (with_reducible assumption) | assumption)
            have q5 : x5_1 < (a0.size : Int) := of_decide_eq_true (by first | (with_reducible assumption) | assumption)
            have hx5 := bt_at a0 x5_1
            replace p5 := eq_true p5
            replace q5 := eq_true q5
            go_wp2_with (first | (go_at_call 15; (with_reducible refine (head_inValue.calls (bt a0 x5_1) true _ A6.out).mono ?_); rintro e w' ⟨rfl, ⟨nd, rfl⟩⟩))
            go_roundg k1
            case measure => have := HK1.out; omega
            case rel => exact ⟨(wrap64 (x5_1 + 1)), (by first | rfl | (simp; done) | (simp [*]; done) | (simp only [i64_w, i32_w]; done) | (simp [i64_w, i32_w, *]; done) | (simp [gp_ne]; done) | (simp [gp_ne, i64_w, i32_w, *]; done) | (simp [i64_w, i32_w]; (try unfold wrap64); (try unfold wrap32); omega)), H', ⟨by have := HK1.out; omega⟩, by repeat (first | exact Drawn0.refl _ | apply Drawn0.step)⟩
          · replace c7 := Bool.eq_false_iff.mpr c7
            subst c7
            have H1 : (some false) = some r := by rw [if_neg (show ¬ (false = true) by decide)] at H; exact H
            clear H
            have H := H1
            clear H1
            obtain rfl := Option.some.inj H
            have p5 : 0 ≤ (x5_1 : Int) := of_decide_eq_true (by first | (with_reducible assumption) | assumption)
            have q5 : x5_1 < (a0.size : Int) := of_decide_eq_true (by first | (with_reducible assumption) | assumption)
            have hx5 := bt_at a0 x5_1
            replace p5 := eq_true p5
            replace q5 := eq_true q5
            go_wp2_with (first | (go_at_call 15; (with_reducible refine (head_inValue.calls (bt a0 x5_1) false _ A6.out).mono ?_); rintro e w' ⟨rfl, ⟨nd, rfl⟩⟩))
            go_ret
            exact ⟨by first | rfl | (simp; done) | (simp [*]; done) | (simp only [i64_w, i32_w]; done) | (simp [i64_w, i32_w, *]; done) | (simp [gp_ne]; done) | (simp [gp_ne, i64_w, i32_w, *]; done) | (simp [i64_w, i32_w]; (try unfold wrap64); (try unfold wrap32); omega), by repeat (first | exact Drawn0.refl _ | apply Drawn0.step)⟩
        · rw [if_neg c4] at H
          exact absurd H (by simp)
      · rw [if_neg c3] at H
        have c3b0 : decide (x5_1 < (a0.size : Int)) = false := decide_eq_false c3
        clear c3
        obtain rfl := Option.some.inj H
        go_wp2
        go_ret
        exact ⟨by first | rfl | (simp; done) | (simp [*]; done) | (simp only [i64_w, i32_w]; done) | (simp [i64_w, i32_w, *]; done) | (simp [gp_ne]; done) | (simp [gp_ne, i64_w, i32_w, *]; done) | (simp [i64_w, i32_w]; (try unfold wrap64); (try unfold wrap32); omega), by repeat (first | exact Drawn0.refl _ | apply Drawn0.step)⟩

/-! ### head_OfField: function 7 -/
def head_OfField.f (k : Nat) (a0 : ByteArray) : Option (ByteArray × ByteArray × Bool) := (strings_Cut.f a0 (⟨#[58]⟩ : ByteArray)).bind fun bt111 => (if bt111.2.2 = true then (if bt111.1.toList = ([] : List UInt8) then (some ((⟨#[]⟩ : ByteArray), (⟨#[]⟩ : ByteArray), false)) else ((chars_All_chars_Token_126.f k bt111.1).bind fun t114 => (if t114 = true then ((chars_All_head_inValue_127.f k bt111.2.1).bind fun t115 => (if t115 = true then ((chars_Trim.f bt111.2.1).bind fun t116 => (some (bt111.1, t116, true))) else (some ((⟨#[]⟩ : ByteArray), (⟨#[]⟩ : ByteArray), false)))) else (some ((⟨#[]⟩ : ByteArray), (⟨#[]⟩ : ByteArray), false))))) else (some ((⟨#[]⟩ : ByteArray), (⟨#[]⟩ : ByteArray), false)))
theorem head_OfField.mono : ∀ a0 k, LeO (head_OfField.f k a0) (head_OfField.f (k + 1) a0) := by
  intro a0 k
  unfold head_OfField.f
  repeat' first
      | (with_reducible exact chars_All_chars_Token_126.mono _ _)
      | (with_reducible exact chars_All_head_inValue_127.mono _ _)
      | (with_reducible exact LeO.refl _)
      | (with_reducible exact LeO.none _)
      | (with_reducible refine LeO.ite ?_ ?_)
      | (with_reducible refine LeO.bind ?_ (fun _ => ?_))
      | exact chars_All_chars_Token_126.mono _ _
      | exact chars_All_head_inValue_127.mono _ _
      | exact LeO.none _
      | refine LeO.ite ?_ ?_
      | refine LeO.bind ?_ (fun _ => ?_)
set_option maxHeartbeats 8000000 in
set_option maxRecDepth 100000 in
theorem head_OfField.calls (k : Nat) (a0 : ByteArray) (r1 : ByteArray) (r2 : ByteArray) (r3 : Bool) (w : World) (h : head_OfField.f k a0 = some (r1, r2, r3)) :
    Calls Tryz.prog 7 #[.string a0] w fun e w' => e = .returned (.tuple #[.agg #[.string r1, .string r2], .bool r3]) ∧ Below w.heap.size w w' := by
  have hu28 := Tryz.underlying28
  have HB := Aside0.mk (Below.refl w.heap.size w)
  have H : ((strings_Cut.f a0 (⟨#[58]⟩ : ByteArray)).bind fun bt111 => (if bt111.2.2 = true then (if bt111.1.toList = ([] : List UInt8) then (some ((⟨#[]⟩ : ByteArray), (⟨#[]⟩ : ByteArray), false)) else ((chars_All_chars_Token_126.f k bt111.1).bind fun t114 => (if t114 = true then ((chars_All_head_inValue_127.f k bt111.2.1).bind fun t115 => (if t115 = true then ((chars_Trim.f bt111.2.1).bind fun t116 => (some (bt111.1, t116, true))) else (some ((⟨#[]⟩ : ByteArray), (⟨#[]⟩ : ByteArray), false)))) else (some ((⟨#[]⟩ : ByteArray), (⟨#[]⟩ : ByteArray), false))))) else (some ((⟨#[]⟩ : ByteArray), (⟨#[]⟩ : ByteArray), false)))) = some (r1, r2, r3) := h
  clear h
  replace H := Option.bind_eq_some_iff.mp H
  obtain ⟨⟨t111, t112, t113⟩, A20, H⟩ := H
  replace H : (if t113 = true then (if t111.toList = ([] : List UInt8) then (some ((⟨#[]⟩ : ByteArray), (⟨#[]⟩ : ByteArray), false)) else ((chars_All_chars_Token_126.f k t111).bind fun t114 => (if t114 = true then ((chars_All_head_inValue_127.f k t112).bind fun t115 => (if t115 = true then ((chars_Trim.f t112).bind fun t116 => (some (t111, t116, true))) else (some ((⟨#[]⟩ : ByteArray), (⟨#[]⟩ : ByteArray), false)))) else (some ((⟨#[]⟩ : ByteArray), (⟨#[]⟩ : ByteArray), false))))) else (some ((⟨#[]⟩ : ByteArray), (⟨#[]⟩ : ByteArray), false))) = some (r1, r2, r3) := H
  have A2 := Aside0.mk A20
  clear A20
  by_cases c3 : t113 = true
  · subst c3
    have H1 : (if t111.toList = ([] : List UInt8) then (some ((⟨#[]⟩ : ByteArray), (⟨#[]⟩ : ByteArray), false)) else ((chars_All_chars_Token_126.f k t111).bind fun t114 => (if t114 = true then ((chars_All_head_inValue_127.f k t112).bind fun t115 => (if t115 = true then ((chars_Trim.f t112).bind fun t116 => (some (t111, t116, true))) else (some ((⟨#[]⟩ : ByteArray), (⟨#[]⟩ : ByteArray), false)))) else (some ((⟨#[]⟩ : ByteArray), (⟨#[]⟩ : ByteArray), false))))) = some (r1, r2, r3) := by rw [if_pos rfl] at H; exact H
    clear H
    have H := H1
    clear H1
    by_cases c4 : t111.toList = ([] : List UInt8)
    · rw [if_pos c4] at H
      have c4b0 : (t111.toList == ([] : List UInt8)) = true := beq_iff_eq.mpr c4
      have c4b1 : (t111.toList != ([] : List UInt8)) = false := bne_eq_false_iff_eq.mpr c4
      clear c4
      simp only [Option.some.injEq, Prod.mk.injEq] at H
      obtain ⟨rfl, rfl, rfl⟩ := H
      go_enter Tryz.func7, Tryz.ntmps7
      go_wp2_with (first | ((with_reducible refine gate_dst (N := 2) rfl ?_); refine box_event ?hg (N := 2) ?hd (cs := #[.string (⟨#[]⟩ : ByteArray), .string (⟨#[]⟩ : ByteArray)]) (t := 28) ?hr ?_; (case hd => rfl); (case hg => rfl); (case hr => first | (go_simp; done) | (go_simp; rfl)); intro gb110 hg w5 hbox hb; have n0_ := Aside0.mk (below_step (by repeat (first | (with_reducible first | exact HB.out | apply below_alloc | apply pw_below_drewN | apply below_drew1) | exact HB.out)) hb); have n1_ := Aside0.mk (hbox); have n2_ := Aside0.mk ((by rw [hg]; exact (below_size (by repeat (first | (with_reducible first | exact HB.out | apply below_alloc | apply pw_below_drewN | apply below_drew1) | exact HB.out))) : w.heap.size ≤ gb110)); have n3_ := Aside0.mk ((by rw [hg]; exact (below_size (by repeat (first | (with_reducible first | exact HB.out | apply below_alloc | apply pw_below_drewN | apply below_drew1) | exact HB.out))) : w.heap.size ≤ gb110)); clear HB; have HB := n0_; have BK110 := n1_; have GW110 := n2_; have GE110 := n3_; clear n0_ n1_ n2_ n3_; clear hb hbox hg) | ((with_reducible refine gate_callee (f := 12) rfl ?_); refine goesL_ (some 9) rfl rfl Tryz.func12 (by kernel_rfl) rfl #[.string a0, .string (⟨#[58]⟩ : ByteArray)] rfl (by (try simp only [List.map_toArray, List.map_cons, List.map_nil]); first | done | rfl | (simp only [List.length_drop, List.length_take]; rfl)) ?_; (with_reducible refine (strings_Cut.calls a0 (⟨#[58]⟩ : ByteArray) t111 t112 true _ A2.out (.inl (gsz1 _))).mono ?_); rintro e w' ⟨rfl, ⟨nd, rfl⟩⟩; refine ⟨_, rfl, ?_⟩; (try (rw [drewN_self w5]; generalize hq_ : World.drewN w5 _ = w5; have n0_ : Aside0 (w5.heap[gb110]? = some (.cells #[.string (⟨#[]⟩ : ByteArray), .string (⟨#[]⟩ : ByteArray)] 28 (0, 0))) := ⟨by rw [← hq_]; exact (by (with_reducible repeat (first | refine blk_drewN ?_ _ | refine blk_drew ?_ | refine blk_alloc ?_ _)); exact BK110.out)⟩; have n1_ : Aside0 (Below w.heap.size w w5) := ⟨by rw [← hq_]; exact (by repeat (first | (with_reducible first | exact HB.out | apply below_alloc | apply pw_below_drewN | apply below_drew1 | refine below_set ?_ GE110.out) | exact HB.out))⟩; clear BK110 HB hq_; have BK110 := n0_; have HB := n1_; clear n0_ n1_)); (try (have hcu6_0 : w5.cell? ⟨gb110, 0, none⟩ = some (.string (⟨#[]⟩ : ByteArray)) := (blk_cell BK110.out 0).trans rfl; have hfcu6_0 := blk_frozen BK110.out 0)); (try (have hcu6_1 : w5.cell? ⟨gb110, 1, none⟩ = some (.string (⟨#[]⟩ : ByteArray)) := (blk_cell BK110.out 1).trans rfl; have hfcu6_1 := blk_frozen BK110.out 1)); have hcz7_0 : w5.cell? ⟨gb110, 0, none⟩ = some (.string (⟨#[]⟩ : ByteArray)) := (blk_cell BK110.out 0).trans rfl; have hcz7_1 : w5.cell? ⟨gb110, 1, none⟩ = some (.string (⟨#[]⟩ : ByteArray)) := (blk_cell BK110.out 1).trans rfl; have hfz7_0 := blk_frozen BK110.out 0; have hfz7_1 := blk_frozen BK110.out 1))
      refine bodyPost_ret (results_ct rfl _ _ gb110 28 #[.string (⟨#[]⟩ : ByteArray), .string (⟨#[]⟩ : ByteArray)] (0, 0) _ rfl (by (with_reducible repeat (first | refine blk_drewN ?_ _ | refine blk_drew ?_ | refine blk_alloc ?_ _)); refine blk_put (cs := #[.string (⟨#[]⟩ : ByteArray), .string (⟨#[]⟩ : ByteArray)]) ?_ 1 _ rfl; (with_reducible repeat (first | refine blk_drewN ?_ _ | refine blk_drew ?_ | refine blk_alloc ?_ _)); refine blk_put (cs := #[.string (⟨#[]⟩ : ByteArray), .string (⟨#[]⟩ : ByteArray)]) ?_ 0 _ rfl; (with_reducible repeat (first | refine blk_drewN ?_ _ | refine blk_drew ?_ | refine blk_alloc ?_ _)); exact BK110.out) Tryz.underlying28 rfl (by kernel_rfl)) rfl ?_
      exact ⟨by first | rfl | (simp [errW_none, errW_some] <;> rfl) | (simp [*, errW_none, errW_some] <;> rfl) | (simp [gp_ne]; done) | (simp [gp_ne, i64_w, i32_w, *]; done) | (simp [i64_w, i32_w]; (try unfold wrap64); (try unfold wrap32); omega), by repeat (first | (with_reducible first | exact HB.out | apply below_alloc | apply pw_below_drewN | apply below_drew1 | refine below_set ?_ GE110.out) | exact HB.out)⟩
    · rw [if_neg c4] at H
      have c4b0 : (t111.toList == ([] : List UInt8)) = false := beq_eq_false_iff_ne.mpr c4
      have c4b1 : (t111.toList != ([] : List UInt8)) = true := bne_iff_ne.mpr c4
      replace H := Option.bind_eq_some_iff.mp H
      obtain ⟨t114, A80, H⟩ := H
      replace H : (if t114 = true then ((chars_All_head_inValue_127.f k t112).bind fun t115 => (if t115 = true then ((chars_Trim.f t112).bind fun t116 => (some (t111, t116, true))) else (some ((⟨#[]⟩ : ByteArray), (⟨#[]⟩ : ByteArray), false)))) else (some ((⟨#[]⟩ : ByteArray), (⟨#[]⟩ : ByteArray), false))) = some (r1, r2, r3) := H
      have A8 := Aside0.mk A80
      clear A80
      by_cases c9 : t114 = true
      · subst c9
        have H1 : ((chars_All_head_inValue_127.f k t112).bind fun t115 => (if t115 = true then ((chars_Trim.f t112).bind fun t116 => (some (t111, t116, true))) else (some ((⟨#[]⟩ : ByteArray), (⟨#[]⟩ : ByteArray), false)))) = some (r1, r2, r3) := by rw [if_pos rfl] at H; exact H
        clear H
        have H := H1
        clear H1
        replace H := Option.bind_eq_some_iff.mp H
        obtain ⟨t115, A100, H⟩ := H
        replace H : (if t115 = true then ((chars_Trim.f t112).bind fun t116 => (some (t111, t116, true))) else (some ((⟨#[]⟩ : ByteArray), (⟨#[]⟩ : ByteArray), false))) = some (r1, r2, r3) := H
        have A10 := Aside0.mk A100
        clear A100
        by_cases c11 : t115 = true
        · subst c11
          have H1 : ((chars_Trim.f t112).bind fun t116 => (some (t111, t116, true))) = some (r1, r2, r3) := by rw [if_pos rfl] at H; exact H
          clear H
          have H := H1
          clear H1
          replace H := Option.bind_eq_some_iff.mp H
          obtain ⟨t116, A120, H⟩ := H
          replace H : (some (t111, t116, true)) = some (r1, r2, r3) := H
          have A12 := Aside0.mk A120
          clear A120
          simp only [Option.some.injEq, Prod.mk.injEq] at H
          obtain ⟨rfl, rfl, rfl⟩ := H
          go_enter Tryz.func7, Tryz.ntmps7
          go_wp2_with (first | ((with_reducible refine gate_dst (N := 2) rfl ?_); refine box_event ?hg (N := 2) ?hd (cs := #[.string (⟨#[]⟩ : ByteArray), .string (⟨#[]⟩ : ByteArray)]) (t := 28) ?hr ?_; (case hd => rfl); (case hg => rfl); (case hr => first | (go_simp; done) | (go_simp; rfl)); intro gb110 hg w13 hbox hb; have n0_ := Aside0.mk (below_step (by repeat (first | (with_reducible first | exact HB.out | apply below_alloc | apply pw_below_drewN | apply below_drew1) | exact HB.out)) hb); have n1_ := Aside0.mk (hbox); have n2_ := Aside0.mk ((by rw [hg]; exact (below_size (by repeat (first | (with_reducible first | exact HB.out | apply below_alloc | apply pw_below_drewN | apply below_drew1) | exact HB.out))) : w.heap.size ≤ gb110)); have n3_ := Aside0.mk ((by rw [hg]; exact (below_size (by repeat (first | (with_reducible first | exact HB.out | apply below_alloc | apply pw_below_drewN | apply below_drew1) | exact HB.out))) : w.heap.size ≤ gb110)); clear HB; have HB := n0_; have BK110 := n1_; have GW110 := n2_; have GE110 := n3_; clear n0_ n1_ n2_ n3_; clear hb hbox hg) | ((with_reducible refine gate_callee (f := 12) rfl ?_); refine goesL_ (some 9) rfl rfl Tryz.func12 (by kernel_rfl) rfl #[.string a0, .string (⟨#[58]⟩ : ByteArray)] rfl (by (try simp only [List.map_toArray, List.map_cons, List.map_nil]); first | done | rfl | (simp only [List.length_drop, List.length_take]; rfl)) ?_; (with_reducible refine (strings_Cut.calls a0 (⟨#[58]⟩ : ByteArray) t111 t112 true _ A2.out (.inl (gsz1 _))).mono ?_); rintro e w' ⟨rfl, ⟨nd, rfl⟩⟩; refine ⟨_, rfl, ?_⟩; (try (rw [drewN_self w13]; generalize hq_ : World.drewN w13 _ = w13; have n0_ : Aside0 (w13.heap[gb110]? = some (.cells #[.string (⟨#[]⟩ : ByteArray), .string (⟨#[]⟩ : ByteArray)] 28 (0, 0))) := ⟨by rw [← hq_]; exact (by (with_reducible repeat (first | refine blk_drewN ?_ _ | refine blk_drew ?_ | refine blk_alloc ?_ _)); exact BK110.out)⟩; have n1_ : Aside0 (Below w.heap.size w w13) := ⟨by rw [← hq_]; exact (by repeat (first | (with_reducible first | exact HB.out | apply below_alloc | apply pw_below_drewN | apply below_drew1 | refine below_set ?_ GE110.out) | exact HB.out))⟩; clear BK110 HB hq_; have BK110 := n0_; have HB := n1_; clear n0_ n1_)); (try (have hcu14_0 : w13.cell? ⟨gb110, 0, none⟩ = some (.string (⟨#[]⟩ : ByteArray)) := (blk_cell BK110.out 0).trans rfl; have hfcu14_0 := blk_frozen BK110.out 0)); (try (have hcu14_1 : w13.cell? ⟨gb110, 1, none⟩ = some (.string (⟨#[]⟩ : ByteArray)) := (blk_cell BK110.out 1).trans rfl; have hfcu14_1 := blk_frozen BK110.out 1))) | (go_at_call 13; (with_reducible refine (chars_All_chars_Token_126.calls k t111  true _ A8.out).mono ?_); rintro e w' ⟨rfl, ⟨nd, rfl⟩⟩; (try (rw [drewN_self w13]; generalize hq_ : World.drewN w13 _ = w13; have n0_ : Aside0 (w13.heap[gb110]? = some (.cells #[.string (⟨#[]⟩ : ByteArray), .string (⟨#[]⟩ : ByteArray)] 28 (0, 0))) := ⟨by rw [← hq_]; exact (by (with_reducible repeat (first | refine blk_drewN ?_ _ | refine blk_drew ?_ | refine blk_alloc ?_ _)); exact BK110.out)⟩; have n1_ : Aside0 (Below w.heap.size w w13) := ⟨by rw [← hq_]; exact (by repeat (first | (with_reducible first | exact HB.out | apply below_alloc | apply pw_below_drewN | apply below_drew1 | refine below_set ?_ GE110.out) | exact HB.out))⟩; clear BK110 HB hq_; have BK110 := n0_; have HB := n1_; clear n0_ n1_)); (try (have hcu15_0 : w13.cell? ⟨gb110, 0, none⟩ = some (.string (⟨#[]⟩ : ByteArray)) := (blk_cell BK110.out 0).trans rfl; have hfcu15_0 := blk_frozen BK110.out 0)); (try (have hcu15_1 : w13.cell? ⟨gb110, 1, none⟩ = some (.string (⟨#[]⟩ : ByteArray)) := (blk_cell BK110.out 1).trans rfl; have hfcu15_1 := blk_frozen BK110.out 1))) | (go_at_call 13; (with_reducible refine (chars_All_head_inValue_127.calls k t112  true _ A10.out).mono ?_); rintro e w' ⟨rfl, ⟨nd, rfl⟩⟩; (try (rw [drewN_self w13]; generalize hq_ : World.drewN w13 _ = w13; have n0_ : Aside0 (w13.heap[gb110]? = some (.cells #[.string (⟨#[]⟩ : ByteArray), .string (⟨#[]⟩ : ByteArray)] 28 (0, 0))) := ⟨by rw [← hq_]; exact (by (with_reducible repeat (first | refine blk_drewN ?_ _ | refine blk_drew ?_ | refine blk_alloc ?_ _)); exact BK110.out)⟩; have n1_ : Aside0 (Below w.heap.size w w13) := ⟨by rw [← hq_]; exact (by repeat (first | (with_reducible first | exact HB.out | apply below_alloc | apply pw_below_drewN | apply below_drew1 | refine below_set ?_ GE110.out) | exact HB.out))⟩; clear BK110 HB hq_; have BK110 := n0_; have HB := n1_; clear n0_ n1_)); (try (have hcu16_0 : w13.cell? ⟨gb110, 0, none⟩ = some (.string (⟨#[]⟩ : ByteArray)) := (blk_cell BK110.out 0).trans rfl; have hfcu16_0 := blk_frozen BK110.out 0)); (try (have hcu16_1 : w13.cell? ⟨gb110, 1, none⟩ = some (.string (⟨#[]⟩ : ByteArray)) := (blk_cell BK110.out 1).trans rfl; have hfcu16_1 := blk_frozen BK110.out 1))) | ((with_reducible refine gate_callee (f := 16) rfl ?_); refine goesL_ (some 32) rfl rfl Tryz.func16 (by kernel_rfl) rfl #[.string t112] rfl (by (try simp only [List.map_toArray, List.map_cons, List.map_nil]); first | done | rfl | (simp only [List.length_drop, List.length_take]; rfl)) ?_; (with_reducible refine (chars_Trim.calls t112 t116 _ A12.out).mono ?_); rintro e w17 ⟨rfl, hb⟩; refine ⟨_, rfl, ?_⟩; have n0_ := Aside0.mk (blk_below (g := gb110) (o := .cells #[.string (⟨#[]⟩ : ByteArray), .string (⟨#[]⟩ : ByteArray)] 28 (0, 0)) (by (with_reducible repeat (first | refine blk_drewN ?_ _ | refine blk_drew ?_ | refine blk_alloc ?_ _)); exact BK110.out) hb); have n1_ := Aside0.mk (below_step (by repeat (first | (with_reducible first | exact HB.out | apply below_alloc | apply pw_below_drewN | apply below_drew1 | refine below_set ?_ GE110.out) | exact HB.out)) hb); clear BK110; clear HB; have BK110 := n0_; have HB := n1_; clear n0_ n1_; (try clear hb); (try clear hb2); (try clear hk); (try clear hi); have hcz18_0 : w17.cell? ⟨gb110, 0, none⟩ = some (.string (⟨#[]⟩ : ByteArray)) := (blk_cell BK110.out 0).trans rfl; have hcz18_1 : w17.cell? ⟨gb110, 1, none⟩ = some (.string (⟨#[]⟩ : ByteArray)) := (blk_cell BK110.out 1).trans rfl; have hfz18_0 := blk_frozen BK110.out 0; have hfz18_1 := blk_frozen BK110.out 1))
          refine bodyPost_ret (results_ct rfl _ _ gb110 28 #[.string t111, .string t116] (0, 0) _ rfl (by (with_reducible repeat (first | refine blk_drewN ?_ _ | refine blk_drew ?_ | refine blk_alloc ?_ _)); refine blk_put (cs := #[.string t111, .string (⟨#[]⟩ : ByteArray)]) ?_ 1 _ rfl; (with_reducible repeat (first | refine blk_drewN ?_ _ | refine blk_drew ?_ | refine blk_alloc ?_ _)); refine blk_put (cs := #[.string (⟨#[]⟩ : ByteArray), .string (⟨#[]⟩ : ByteArray)]) ?_ 0 _ rfl; (with_reducible repeat (first | refine blk_drewN ?_ _ | refine blk_drew ?_ | refine blk_alloc ?_ _)); exact BK110.out) Tryz.underlying28 rfl (by kernel_rfl)) rfl ?_
          exact ⟨by first | rfl | (simp [errW_none, errW_some] <;> rfl) | (simp [*, errW_none, errW_some] <;> rfl) | (simp [gp_ne]; done) | (simp [gp_ne, i64_w, i32_w, *]; done) | (simp [i64_w, i32_w]; (try unfold wrap64); (try unfold wrap32); omega), by repeat (first | (with_reducible first | exact HB.out | apply below_alloc | apply pw_below_drewN | apply below_drew1 | refine below_set ?_ GE110.out) | exact HB.out)⟩
        · replace c11 := Bool.eq_false_iff.mpr c11
          subst c11
          have H1 : (some ((⟨#[]⟩ : ByteArray), (⟨#[]⟩ : ByteArray), false)) = some (r1, r2, r3) := by rw [if_neg (show ¬ (false = true) by decide)] at H; exact H
          clear H
          have H := H1
          clear H1
          simp only [Option.some.injEq, Prod.mk.injEq] at H
          obtain ⟨rfl, rfl, rfl⟩ := H
          go_enter Tryz.func7, Tryz.ntmps7
          go_wp2_with (first | ((with_reducible refine gate_dst (N := 2) rfl ?_); refine box_event ?hg (N := 2) ?hd (cs := #[.string (⟨#[]⟩ : ByteArray), .string (⟨#[]⟩ : ByteArray)]) (t := 28) ?hr ?_; (case hd => rfl); (case hg => rfl); (case hr => first | (go_simp; done) | (go_simp; rfl)); intro gb110 hg w19 hbox hb; have n0_ := Aside0.mk (below_step (by repeat (first | (with_reducible first | exact HB.out | apply below_alloc | apply pw_below_drewN | apply below_drew1) | exact HB.out)) hb); have n1_ := Aside0.mk (hbox); have n2_ := Aside0.mk ((by rw [hg]; exact (below_size (by repeat (first | (with_reducible first | exact HB.out | apply below_alloc | apply pw_below_drewN | apply below_drew1) | exact HB.out))) : w.heap.size ≤ gb110)); have n3_ := Aside0.mk ((by rw [hg]; exact (below_size (by repeat (first | (with_reducible first | exact HB.out | apply below_alloc | apply pw_below_drewN | apply below_drew1) | exact HB.out))) : w.heap.size ≤ gb110)); clear HB; have HB := n0_; have BK110 := n1_; have GW110 := n2_; have GE110 := n3_; clear n0_ n1_ n2_ n3_; clear hb hbox hg) | ((with_reducible refine gate_callee (f := 12) rfl ?_); refine goesL_ (some 9) rfl rfl Tryz.func12 (by kernel_rfl) rfl #[.string a0, .string (⟨#[58]⟩ : ByteArray)] rfl (by (try simp only [List.map_toArray, List.map_cons, List.map_nil]); first | done | rfl | (simp only [List.length_drop, List.length_take]; rfl)) ?_; (with_reducible refine (strings_Cut.calls a0 (⟨#[58]⟩ : ByteArray) t111 t112 true _ A2.out (.inl (gsz1 _))).mono ?_); rintro e w' ⟨rfl, ⟨nd, rfl⟩⟩; refine ⟨_, rfl, ?_⟩; (try (rw [drewN_self w19]; generalize hq_ : World.drewN w19 _ = w19; have n0_ : Aside0 (w19.heap[gb110]? = some (.cells #[.string (⟨#[]⟩ : ByteArray), .string (⟨#[]⟩ : ByteArray)] 28 (0, 0))) := ⟨by rw [← hq_]; exact (by (with_reducible repeat (first | refine blk_drewN ?_ _ | refine blk_drew ?_ | refine blk_alloc ?_ _)); exact BK110.out)⟩; have n1_ : Aside0 (Below w.heap.size w w19) := ⟨by rw [← hq_]; exact (by repeat (first | (with_reducible first | exact HB.out | apply below_alloc | apply pw_below_drewN | apply below_drew1 | refine below_set ?_ GE110.out) | exact HB.out))⟩; clear BK110 HB hq_; have BK110 := n0_; have HB := n1_; clear n0_ n1_)); (try (have hcu20_0 : w19.cell? ⟨gb110, 0, none⟩ = some (.string (⟨#[]⟩ : ByteArray)) := (blk_cell BK110.out 0).trans rfl; have hfcu20_0 := blk_frozen BK110.out 0)); (try (have hcu20_1 : w19.cell? ⟨gb110, 1, none⟩ = some (.string (⟨#[]⟩ : ByteArray)) := (blk_cell BK110.out 1).trans rfl; have hfcu20_1 := blk_frozen BK110.out 1))) | (go_at_call 13; (with_reducible refine (chars_All_chars_Token_126.calls k t111  true _ A8.out).mono ?_); rintro e w' ⟨rfl, ⟨nd, rfl⟩⟩; (try (rw [drewN_self w19]; generalize hq_ : World.drewN w19 _ = w19; have n0_ : Aside0 (w19.heap[gb110]? = some (.cells #[.string (⟨#[]⟩ : ByteArray), .string (⟨#[]⟩ : ByteArray)] 28 (0, 0))) := ⟨by rw [← hq_]; exact (by (with_reducible repeat (first | refine blk_drewN ?_ _ | refine blk_drew ?_ | refine blk_alloc ?_ _)); exact BK110.out)⟩; have n1_ : Aside0 (Below w.heap.size w w19) := ⟨by rw [← hq_]; exact (by repeat (first | (with_reducible first | exact HB.out | apply below_alloc | apply pw_below_drewN | apply below_drew1 | refine below_set ?_ GE110.out) | exact HB.out))⟩; clear BK110 HB hq_; have BK110 := n0_; have HB := n1_; clear n0_ n1_)); (try (have hcu21_0 : w19.cell? ⟨gb110, 0, none⟩ = some (.string (⟨#[]⟩ : ByteArray)) := (blk_cell BK110.out 0).trans rfl; have hfcu21_0 := blk_frozen BK110.out 0)); (try (have hcu21_1 : w19.cell? ⟨gb110, 1, none⟩ = some (.string (⟨#[]⟩ : ByteArray)) := (blk_cell BK110.out 1).trans rfl; have hfcu21_1 := blk_frozen BK110.out 1))) | (go_at_call 13; (with_reducible refine (chars_All_head_inValue_127.calls k t112  false _ A10.out).mono ?_); rintro e w' ⟨rfl, ⟨nd, rfl⟩⟩; (try (rw [drewN_self w19]; generalize hq_ : World.drewN w19 _ = w19; have n0_ : Aside0 (w19.heap[gb110]? = some (.cells #[.string (⟨#[]⟩ : ByteArray), .string (⟨#[]⟩ : ByteArray)] 28 (0, 0))) := ⟨by rw [← hq_]; exact (by (with_reducible repeat (first | refine blk_drewN ?_ _ | refine blk_drew ?_ | refine blk_alloc ?_ _)); exact BK110.out)⟩; have n1_ : Aside0 (Below w.heap.size w w19) := ⟨by rw [← hq_]; exact (by repeat (first | (with_reducible first | exact HB.out | apply below_alloc | apply pw_below_drewN | apply below_drew1 | refine below_set ?_ GE110.out) | exact HB.out))⟩; clear BK110 HB hq_; have BK110 := n0_; have HB := n1_; clear n0_ n1_)); (try (have hcu22_0 : w19.cell? ⟨gb110, 0, none⟩ = some (.string (⟨#[]⟩ : ByteArray)) := (blk_cell BK110.out 0).trans rfl; have hfcu22_0 := blk_frozen BK110.out 0)); (try (have hcu22_1 : w19.cell? ⟨gb110, 1, none⟩ = some (.string (⟨#[]⟩ : ByteArray)) := (blk_cell BK110.out 1).trans rfl; have hfcu22_1 := blk_frozen BK110.out 1)); have hcz23_0 : w19.cell? ⟨gb110, 0, none⟩ = some (.string (⟨#[]⟩ : ByteArray)) := (blk_cell BK110.out 0).trans rfl; have hcz23_1 : w19.cell? ⟨gb110, 1, none⟩ = some (.string (⟨#[]⟩ : ByteArray)) := (blk_cell BK110.out 1).trans rfl; have hfz23_0 := blk_frozen BK110.out 0; have hfz23_1 := blk_frozen BK110.out 1))
          refine bodyPost_ret (results_ct rfl _ _ gb110 28 #[.string (⟨#[]⟩ : ByteArray), .string (⟨#[]⟩ : ByteArray)] (0, 0) _ rfl (by (with_reducible repeat (first | refine blk_drewN ?_ _ | refine blk_drew ?_ | refine blk_alloc ?_ _)); refine blk_put (cs := #[.string (⟨#[]⟩ : ByteArray), .string (⟨#[]⟩ : ByteArray)]) ?_ 1 _ rfl; (with_reducible repeat (first | refine blk_drewN ?_ _ | refine blk_drew ?_ | refine blk_alloc ?_ _)); refine blk_put (cs := #[.string (⟨#[]⟩ : ByteArray), .string (⟨#[]⟩ : ByteArray)]) ?_ 0 _ rfl; (with_reducible repeat (first | refine blk_drewN ?_ _ | refine blk_drew ?_ | refine blk_alloc ?_ _)); exact BK110.out) Tryz.underlying28 rfl (by kernel_rfl)) rfl ?_
          exact ⟨by first | rfl | (simp [errW_none, errW_some] <;> rfl) | (simp [*, errW_none, errW_some] <;> rfl) | (simp [gp_ne]; done) | (simp [gp_ne, i64_w, i32_w, *]; done) | (simp [i64_w, i32_w]; (try unfold wrap64); (try unfold wrap32); omega), by repeat (first | (with_reducible first | exact HB.out | apply below_alloc | apply pw_below_drewN | apply below_drew1 | refine below_set ?_ GE110.out) | exact HB.out)⟩
      · replace c9 := Bool.eq_false_iff.mpr c9
        subst c9
        have H1 : (some ((⟨#[]⟩ : ByteArray), (⟨#[]⟩ : ByteArray), false)) = some (r1, r2, r3) := by rw [if_neg (show ¬ (false = true) by decide)] at H; exact H
        clear H
        have H := H1
        clear H1
        simp only [Option.some.injEq, Prod.mk.injEq] at H
        obtain ⟨rfl, rfl, rfl⟩ := H
        go_enter Tryz.func7, Tryz.ntmps7
        go_wp2_with (first | ((with_reducible refine gate_dst (N := 2) rfl ?_); refine box_event ?hg (N := 2) ?hd (cs := #[.string (⟨#[]⟩ : ByteArray), .string (⟨#[]⟩ : ByteArray)]) (t := 28) ?hr ?_; (case hd => rfl); (case hg => rfl); (case hr => first | (go_simp; done) | (go_simp; rfl)); intro gb110 hg w24 hbox hb; have n0_ := Aside0.mk (below_step (by repeat (first | (with_reducible first | exact HB.out | apply below_alloc | apply pw_below_drewN | apply below_drew1) | exact HB.out)) hb); have n1_ := Aside0.mk (hbox); have n2_ := Aside0.mk ((by rw [hg]; exact (below_size (by repeat (first | (with_reducible first | exact HB.out | apply below_alloc | apply pw_below_drewN | apply below_drew1) | exact HB.out))) : w.heap.size ≤ gb110)); have n3_ := Aside0.mk ((by rw [hg]; exact (below_size (by repeat (first | (with_reducible first | exact HB.out | apply below_alloc | apply pw_below_drewN | apply below_drew1) | exact HB.out))) : w.heap.size ≤ gb110)); clear HB; have HB := n0_; have BK110 := n1_; have GW110 := n2_; have GE110 := n3_; clear n0_ n1_ n2_ n3_; clear hb hbox hg) | ((with_reducible refine gate_callee (f := 12) rfl ?_); refine goesL_ (some 9) rfl rfl Tryz.func12 (by kernel_rfl) rfl #[.string a0, .string (⟨#[58]⟩ : ByteArray)] rfl (by (try simp only [List.map_toArray, List.map_cons, List.map_nil]); first | done | rfl | (simp only [List.length_drop, List.length_take]; rfl)) ?_; (with_reducible refine (strings_Cut.calls a0 (⟨#[58]⟩ : ByteArray) t111 t112 true _ A2.out (.inl (gsz1 _))).mono ?_); rintro e w' ⟨rfl, ⟨nd, rfl⟩⟩; refine ⟨_, rfl, ?_⟩; (try (rw [drewN_self w24]; generalize hq_ : World.drewN w24 _ = w24; have n0_ : Aside0 (w24.heap[gb110]? = some (.cells #[.string (⟨#[]⟩ : ByteArray), .string (⟨#[]⟩ : ByteArray)] 28 (0, 0))) := ⟨by rw [← hq_]; exact (by (with_reducible repeat (first | refine blk_drewN ?_ _ | refine blk_drew ?_ | refine blk_alloc ?_ _)); exact BK110.out)⟩; have n1_ : Aside0 (Below w.heap.size w w24) := ⟨by rw [← hq_]; exact (by repeat (first | (with_reducible first | exact HB.out | apply below_alloc | apply pw_below_drewN | apply below_drew1 | refine below_set ?_ GE110.out) | exact HB.out))⟩; clear BK110 HB hq_; have BK110 := n0_; have HB := n1_; clear n0_ n1_)); (try (have hcu25_0 : w24.cell? ⟨gb110, 0, none⟩ = some (.string (⟨#[]⟩ : ByteArray)) := (blk_cell BK110.out 0).trans rfl; have hfcu25_0 := blk_frozen BK110.out 0)); (try (have hcu25_1 : w24.cell? ⟨gb110, 1, none⟩ = some (.string (⟨#[]⟩ : ByteArray)) := (blk_cell BK110.out 1).trans rfl; have hfcu25_1 := blk_frozen BK110.out 1))) | (go_at_call 13; (with_reducible refine (chars_All_chars_Token_126.calls k t111  false _ A8.out).mono ?_); rintro e w' ⟨rfl, ⟨nd, rfl⟩⟩; (try (rw [drewN_self w24]; generalize hq_ : World.drewN w24 _ = w24; have n0_ : Aside0 (w24.heap[gb110]? = some (.cells #[.string (⟨#[]⟩ : ByteArray), .string (⟨#[]⟩ : ByteArray)] 28 (0, 0))) := ⟨by rw [← hq_]; exact (by (with_reducible repeat (first | refine blk_drewN ?_ _ | refine blk_drew ?_ | refine blk_alloc ?_ _)); exact BK110.out)⟩; have n1_ : Aside0 (Below w.heap.size w w24) := ⟨by rw [← hq_]; exact (by repeat (first | (with_reducible first | exact HB.out | apply below_alloc | apply pw_below_drewN | apply below_drew1 | refine below_set ?_ GE110.out) | exact HB.out))⟩; clear BK110 HB hq_; have BK110 := n0_; have HB := n1_; clear n0_ n1_)); (try (have hcu26_0 : w24.cell? ⟨gb110, 0, none⟩ = some (.string (⟨#[]⟩ : ByteArray)) := (blk_cell BK110.out 0).trans rfl; have hfcu26_0 := blk_frozen BK110.out 0)); (try (have hcu26_1 : w24.cell? ⟨gb110, 1, none⟩ = some (.string (⟨#[]⟩ : ByteArray)) := (blk_cell BK110.out 1).trans rfl; have hfcu26_1 := blk_frozen BK110.out 1)); have hcz27_0 : w24.cell? ⟨gb110, 0, none⟩ = some (.string (⟨#[]⟩ : ByteArray)) := (blk_cell BK110.out 0).trans rfl; have hcz27_1 : w24.cell? ⟨gb110, 1, none⟩ = some (.string (⟨#[]⟩ : ByteArray)) := (blk_cell BK110.out 1).trans rfl; have hfz27_0 := blk_frozen BK110.out 0; have hfz27_1 := blk_frozen BK110.out 1))
        refine bodyPost_ret (results_ct rfl _ _ gb110 28 #[.string (⟨#[]⟩ : ByteArray), .string (⟨#[]⟩ : ByteArray)] (0, 0) _ rfl (by (with_reducible repeat (first | refine blk_drewN ?_ _ | refine blk_drew ?_ | refine blk_alloc ?_ _)); refine blk_put (cs := #[.string (⟨#[]⟩ : ByteArray), .string (⟨#[]⟩ : ByteArray)]) ?_ 1 _ rfl; (with_reducible repeat (first | refine blk_drewN ?_ _ | refine blk_drew ?_ | refine blk_alloc ?_ _)); refine blk_put (cs := #[.string (⟨#[]⟩ : ByteArray), .string (⟨#[]⟩ : ByteArray)]) ?_ 0 _ rfl; (with_reducible repeat (first | refine blk_drewN ?_ _ | refine blk_drew ?_ | refine blk_alloc ?_ _)); exact BK110.out) Tryz.underlying28 rfl (by kernel_rfl)) rfl ?_
        exact ⟨by first | rfl | (simp [errW_none, errW_some] <;> rfl) | (simp [*, errW_none, errW_some] <;> rfl) | (simp [gp_ne]; done) | (simp [gp_ne, i64_w, i32_w, *]; done) | (simp [i64_w, i32_w]; (try unfold wrap64); (try unfold wrap32); omega), by repeat (first | (with_reducible first | exact HB.out | apply below_alloc | apply pw_below_drewN | apply below_drew1 | refine below_set ?_ GE110.out) | exact HB.out)⟩
  · replace c3 := Bool.eq_false_iff.mpr c3
    subst c3
    have H1 : (some ((⟨#[]⟩ : ByteArray), (⟨#[]⟩ : ByteArray), false)) = some (r1, r2, r3) := by rw [if_neg (show ¬ (false = true) by decide)] at H; exact H
    clear H
    have H := H1
    clear H1
    simp only [Option.some.injEq, Prod.mk.injEq] at H
    obtain ⟨rfl, rfl, rfl⟩ := H
    go_enter Tryz.func7, Tryz.ntmps7
    go_wp2_with (first | ((with_reducible refine gate_dst (N := 2) rfl ?_); refine box_event ?hg (N := 2) ?hd (cs := #[.string (⟨#[]⟩ : ByteArray), .string (⟨#[]⟩ : ByteArray)]) (t := 28) ?hr ?_; (case hd => rfl); (case hg => rfl); (case hr => first | (go_simp; done) | (go_simp; rfl)); intro gb110 hg w28 hbox hb; have n0_ := Aside0.mk (below_step (by repeat (first | (with_reducible first | exact HB.out | apply below_alloc | apply pw_below_drewN | apply below_drew1) | exact HB.out)) hb); have n1_ := Aside0.mk (hbox); have n2_ := Aside0.mk ((by rw [hg]; exact (below_size (by repeat (first | (with_reducible first | exact HB.out | apply below_alloc | apply pw_below_drewN | apply below_drew1) | exact HB.out))) : w.heap.size ≤ gb110)); have n3_ := Aside0.mk ((by rw [hg]; exact (below_size (by repeat (first | (with_reducible first | exact HB.out | apply below_alloc | apply pw_below_drewN | apply below_drew1) | exact HB.out))) : w.heap.size ≤ gb110)); clear HB; have HB := n0_; have BK110 := n1_; have GW110 := n2_; have GE110 := n3_; clear n0_ n1_ n2_ n3_; clear hb hbox hg) | ((with_reducible refine gate_callee (f := 12) rfl ?_); refine goesL_ (some 9) rfl rfl Tryz.func12 (by kernel_rfl) rfl #[.string a0, .string (⟨#[58]⟩ : ByteArray)] rfl (by (try simp only [List.map_toArray, List.map_cons, List.map_nil]); first | done | rfl | (simp only [List.length_drop, List.length_take]; rfl)) ?_; (with_reducible refine (strings_Cut.calls a0 (⟨#[58]⟩ : ByteArray) t111 t112 false _ A2.out (.inl (gsz1 _))).mono ?_); rintro e w' ⟨rfl, ⟨nd, rfl⟩⟩; refine ⟨_, rfl, ?_⟩; (try (rw [drewN_self w28]; generalize hq_ : World.drewN w28 _ = w28; have n0_ : Aside0 (w28.heap[gb110]? = some (.cells #[.string (⟨#[]⟩ : ByteArray), .string (⟨#[]⟩ : ByteArray)] 28 (0, 0))) := ⟨by rw [← hq_]; exact (by (with_reducible repeat (first | refine blk_drewN ?_ _ | refine blk_drew ?_ | refine blk_alloc ?_ _)); exact BK110.out)⟩; have n1_ : Aside0 (Below w.heap.size w w28) := ⟨by rw [← hq_]; exact (by repeat (first | (with_reducible first | exact HB.out | apply below_alloc | apply pw_below_drewN | apply below_drew1 | refine below_set ?_ GE110.out) | exact HB.out))⟩; clear BK110 HB hq_; have BK110 := n0_; have HB := n1_; clear n0_ n1_)); (try (have hcu29_0 : w28.cell? ⟨gb110, 0, none⟩ = some (.string (⟨#[]⟩ : ByteArray)) := (blk_cell BK110.out 0).trans rfl; have hfcu29_0 := blk_frozen BK110.out 0)); (try (have hcu29_1 : w28.cell? ⟨gb110, 1, none⟩ = some (.string (⟨#[]⟩ : ByteArray)) := (blk_cell BK110.out 1).trans rfl; have hfcu29_1 := blk_frozen BK110.out 1)); have hcz30_0 : w28.cell? ⟨gb110, 0, none⟩ = some (.string (⟨#[]⟩ : ByteArray)) := (blk_cell BK110.out 0).trans rfl; have hcz30_1 : w28.cell? ⟨gb110, 1, none⟩ = some (.string (⟨#[]⟩ : ByteArray)) := (blk_cell BK110.out 1).trans rfl; have hfz30_0 := blk_frozen BK110.out 0; have hfz30_1 := blk_frozen BK110.out 1))
    refine bodyPost_ret (results_ct rfl _ _ gb110 28 #[.string (⟨#[]⟩ : ByteArray), .string (⟨#[]⟩ : ByteArray)] (0, 0) _ rfl (by (with_reducible repeat (first | refine blk_drewN ?_ _ | refine blk_drew ?_ | refine blk_alloc ?_ _)); refine blk_put (cs := #[.string (⟨#[]⟩ : ByteArray), .string (⟨#[]⟩ : ByteArray)]) ?_ 1 _ rfl; (with_reducible repeat (first | refine blk_drewN ?_ _ | refine blk_drew ?_ | refine blk_alloc ?_ _)); refine blk_put (cs := #[.string (⟨#[]⟩ : ByteArray), .string (⟨#[]⟩ : ByteArray)]) ?_ 0 _ rfl; (with_reducible repeat (first | refine blk_drewN ?_ _ | refine blk_drew ?_ | refine blk_alloc ?_ _)); exact BK110.out) Tryz.underlying28 rfl (by kernel_rfl)) rfl ?_
    exact ⟨by first | rfl | (simp [errW_none, errW_some] <;> rfl) | (simp [*, errW_none, errW_some] <;> rfl) | (simp [gp_ne]; done) | (simp [gp_ne, i64_w, i32_w, *]; done) | (simp [i64_w, i32_w]; (try unfold wrap64); (try unfold wrap32); omega), by repeat (first | (with_reducible first | exact HB.out | apply below_alloc | apply pw_below_drewN | apply below_drew1 | refine below_set ?_ GE110.out) | exact HB.out)⟩

/-! ### larumref01_is: function 57 -/
def larumref01_is.f (a0 : Int) (a1 : Int) (a2 : Int) : Option (Bool) := if (wrap64 (a0)) ≥ a1 then (some (decide ((wrap64 (a0)) ≤ a2))) else (some false)
set_option maxHeartbeats 8000000 in
set_option maxRecDepth 100000 in
theorem larumref01_is.calls (a0 : Int) (a1 : Int) (a2 : Int) (r : Bool) (w : World) (h : larumref01_is.f a0 a1 a2 = some r) :
    Calls Tryz.prog 57 #[.int .u8 a0, .int .i64 a1, .int .i64 a2] w fun e w' => e = .returned (.bool r) ∧ Drawn0 w w' := by
  have H : (if (wrap64 (a0)) ≥ a1 then (some (decide ((wrap64 (a0)) ≤ a2))) else (some false)) = some r := h
  clear h
  by_cases c4 : (wrap64 (a0)) ≥ a1
  · rw [if_pos c4] at H
    have c4b0 : decide (a1 ≤ (wrap64 (a0))) = true := decide_eq_true c4
    clear c4
    obtain rfl := Option.some.inj H
    go_enter Tryz.func57, Tryz.ntmps57
    go_wp2
    go_ret
    exact ⟨by first | rfl | (simp; done) | (simp [*]; done) | (simp only [i64_w, i32_w]; done) | (simp [i64_w, i32_w, *]; done) | (simp [gp_ne]; done) | (simp [gp_ne, i64_w, i32_w, *]; done) | (simp [i64_w, i32_w]; (try unfold wrap64); (try unfold wrap32); omega), by repeat (first | exact Drawn0.refl _ | apply Drawn0.step)⟩
  · rw [if_neg c4] at H
    have c4b0 : decide (a1 ≤ (wrap64 (a0))) = false := decide_eq_false c4
    clear c4
    obtain rfl := Option.some.inj H
    go_enter Tryz.func57, Tryz.ntmps57
    go_wp2
    go_ret
    exact ⟨by first | rfl | (simp; done) | (simp [*]; done) | (simp only [i64_w, i32_w]; done) | (simp [i64_w, i32_w, *]; done) | (simp [gp_ne]; done) | (simp [gp_ne, i64_w, i32_w, *]; done) | (simp [i64_w, i32_w]; (try unfold wrap64); (try unfold wrap32); omega), by repeat (first | exact Drawn0.refl _ | apply Drawn0.step)⟩

/-! ### larumref01_Digit: function 44 -/
def larumref01_Digit.f (a0 : Int) : Option (Bool) := (larumref01_is.f a0 48 57).bind fun t117 => (some t117)
set_option maxHeartbeats 8000000 in
set_option maxRecDepth 100000 in
theorem larumref01_Digit.calls (a0 : Int) (r : Bool) (w : World) (h : larumref01_Digit.f a0 = some r) :
    Calls Tryz.prog 44 #[.int .u8 a0] w fun e w' => e = .returned (.bool r) ∧ Drawn0 w w' := by
  have H : ((larumref01_is.f a0 48 57).bind fun t117 => (some t117)) = some r := h
  clear h
  replace H := Option.bind_eq_some_iff.mp H
  obtain ⟨t117, A20, H⟩ := H
  replace H : (some t117) = some r := H
  have A2 := Aside0.mk A20
  clear A20
  obtain rfl := Option.some.inj H
  go_enter Tryz.func44, Tryz.ntmps44
  go_wp2_with (first | ((with_reducible refine gate_callee (f := 57) rfl ?_); refine goesL_ (some 4) rfl rfl Tryz.func57 (by kernel_rfl) rfl #[.int .u8 a0, .int .i64 48, .int .i64 57] rfl (by (try simp only [List.map_toArray, List.map_cons, List.map_nil]); first | done | rfl | (simp only [List.length_drop, List.length_take]; rfl)) ?_; (with_reducible refine (larumref01_is.calls a0 48 57 t117 _ A2.out).mono ?_); rintro e w' ⟨rfl, ⟨nd, rfl⟩⟩; refine ⟨_, rfl, ?_⟩))
  go_ret
  exact ⟨by first | rfl | (simp; done) | (simp [*]; done) | (simp only [i64_w, i32_w]; done) | (simp [i64_w, i32_w, *]; done) | (simp [gp_ne]; done) | (simp [gp_ne, i64_w, i32_w, *]; done) | (simp [i64_w, i32_w]; (try unfold wrap64); (try unfold wrap32); omega), by repeat (first | exact Drawn0.refl _ | apply Drawn0.step)⟩

/-! ### larumref01_Letter: function 45 -/
def larumref01_Letter.f (a0 : Int) : Option (Bool) := (larumref01_is.f a0 65 90).bind fun t118 => (if t118 = true then (some true) else ((larumref01_is.f a0 97 122).bind fun t119 => (some t119)))
set_option maxHeartbeats 8000000 in
set_option maxRecDepth 100000 in
theorem larumref01_Letter.calls (a0 : Int) (r : Bool) (w : World) (h : larumref01_Letter.f a0 = some r) :
    Calls Tryz.prog 45 #[.int .u8 a0] w fun e w' => e = .returned (.bool r) ∧ Drawn0 w w' := by
  have H : ((larumref01_is.f a0 65 90).bind fun t118 => (if t118 = true then (some true) else ((larumref01_is.f a0 97 122).bind fun t119 => (some t119)))) = some r := h
  clear h
  replace H := Option.bind_eq_some_iff.mp H
  obtain ⟨t118, A20, H⟩ := H
  replace H : (if t118 = true then (some true) else ((larumref01_is.f a0 97 122).bind fun t119 => (some t119))) = some r := H
  have A2 := Aside0.mk A20
  clear A20
  by_cases c3 : t118 = true
  · subst c3
    have H1 : (some true) = some r := by rw [if_pos rfl] at H; exact H
    clear H
    have H := H1
    clear H1
    obtain rfl := Option.some.inj H
    go_enter Tryz.func45, Tryz.ntmps45
    go_wp2_with (first | ((with_reducible refine gate_callee (f := 57) rfl ?_); refine goesL_ (some 4) rfl rfl Tryz.func57 (by kernel_rfl) rfl #[.int .u8 a0, .int .i64 65, .int .i64 90] rfl (by (try simp only [List.map_toArray, List.map_cons, List.map_nil]); first | done | rfl | (simp only [List.length_drop, List.length_take]; rfl)) ?_; (with_reducible refine (larumref01_is.calls a0 65 90 true _ A2.out).mono ?_); rintro e w' ⟨rfl, ⟨nd, rfl⟩⟩; refine ⟨_, rfl, ?_⟩))
    go_ret
    exact ⟨by first | rfl | (simp; done) | (simp [*]; done) | (simp only [i64_w, i32_w]; done) | (simp [i64_w, i32_w, *]; done) | (simp [gp_ne]; done) | (simp [gp_ne, i64_w, i32_w, *]; done) | (simp [i64_w, i32_w]; (try unfold wrap64); (try unfold wrap32); omega), by repeat (first | exact Drawn0.refl _ | apply Drawn0.step)⟩
  · replace c3 := Bool.eq_false_iff.mpr c3
    subst c3
    have H1 : ((larumref01_is.f a0 97 122).bind fun t119 => (some t119)) = some r := by rw [if_neg (show ¬ (false = true) by decide)] at H; exact H
    clear H
    have H := H1
    clear H1
    replace H := Option.bind_eq_some_iff.mp H
    obtain ⟨t119, A40, H⟩ := H
    replace H : (some t119) = some r := H
    have A4 := Aside0.mk A40
    clear A40
    obtain rfl := Option.some.inj H
    go_enter Tryz.func45, Tryz.ntmps45
    go_wp2_with (first | ((with_reducible refine gate_callee (f := 57) rfl ?_); refine goesL_ (some 4) rfl rfl Tryz.func57 (by kernel_rfl) rfl #[.int .u8 a0, .int .i64 65, .int .i64 90] rfl (by (try simp only [List.map_toArray, List.map_cons, List.map_nil]); first | done | rfl | (simp only [List.length_drop, List.length_take]; rfl)) ?_; (with_reducible refine (larumref01_is.calls a0 65 90 false _ A2.out).mono ?_); rintro e w' ⟨rfl, ⟨nd, rfl⟩⟩; refine ⟨_, rfl, ?_⟩) | (go_at_call 57; (with_reducible refine (larumref01_is.calls a0 97 122 t119 _ A4.out).mono ?_); rintro e w' ⟨rfl, ⟨nd, rfl⟩⟩))
    go_ret
    exact ⟨by first | rfl | (simp; done) | (simp [*]; done) | (simp only [i64_w, i32_w]; done) | (simp [i64_w, i32_w, *]; done) | (simp [gp_ne]; done) | (simp [gp_ne, i64_w, i32_w, *]; done) | (simp [i64_w, i32_w]; (try unfold wrap64); (try unfold wrap32); omega), by repeat (first | exact Drawn0.refl _ | apply Drawn0.step)⟩

/-! ### larumref01_Token: function 26 -/
def larumref01_Token.l0 : Nat → Int → List Int → Int → Int → Option (Bool)
  | 0, _, _, _, _ => none
  | k + 1, x0, x5, x6, x7 => if x7 < x6 then (if 0 ≤ x7 then (if x7 < (x5.length : Int) then (if (wrap64 (x0)) = (rd x5 x7) then (some true) else (larumref01_Token.l0 k x0 x5 x6 (wrap64 (x7 + 1)))) else (none)) else (none)) else ((larumref01_Digit.f x0).bind fun t124 => (if t124 = true then (some true) else ((larumref01_Letter.f x0).bind fun t125 => (some t125))))
def larumref01_Token.f (k : Nat) (a0 : Int) : Option (Bool) := (some (([33, 35, 36, 37, 38, 39, 42, 43, 45, 46, 94, 95, 96, 124, 126] : List Int) : List Int)).bind fun y120 => (larumref01_Token.l0 k a0 y120 (y120.length : Int) 0)
theorem larumref01_Token.mono_l : ∀ k, (∀ y0 y1 y2 y3, LeO (larumref01_Token.l0 k y0 y1 y2 y3) (larumref01_Token.l0 (k + 1) y0 y1 y2 y3))
  | 0 => fun _ _ _ _ r h => by simp [larumref01_Token.l0] at h
  | k + 1 => by
    have ih0 := larumref01_Token.mono_l k
    · intro y0 y1 y2 y3
      unfold larumref01_Token.l0
      repeat' first
      | (with_reducible exact ih0 _ _ _ _)
      | (with_reducible exact LeO.refl _)
      | (with_reducible exact LeO.none _)
      | (with_reducible refine LeO.ite ?_ ?_)
      | (with_reducible refine LeO.bind ?_ (fun _ => ?_))
      | exact ih0 _ _ _ _
      | exact LeO.none _
      | refine LeO.ite ?_ ?_
      | refine LeO.bind ?_ (fun _ => ?_)
theorem larumref01_Token.mono : ∀ a0 k, LeO (larumref01_Token.f k a0) (larumref01_Token.f (k + 1) a0) := by
  intro a0 k
  have ih0 := larumref01_Token.mono_l k
  unfold larumref01_Token.f
  repeat' first
      | (with_reducible exact ih0 _ _ _ _)
      | (with_reducible exact LeO.refl _)
      | (with_reducible exact LeO.none _)
      | (with_reducible refine LeO.ite ?_ ?_)
      | (with_reducible refine LeO.bind ?_ (fun _ => ?_))
      | exact ih0 _ _ _ _
      | exact LeO.none _
      | refine LeO.ite ?_ ?_
      | refine LeO.bind ?_ (fun _ => ?_)
set_option maxHeartbeats 8000000 in
set_option maxRecDepth 100000 in
theorem larumref01_Token.calls (k : Nat) (a0 : Int) (r : Bool) (w : World) (h : larumref01_Token.f k a0 = some r) :
    Calls Tryz.prog 26 #[.int .u8 a0] w fun e w' => e = .returned (.bool r) ∧ Below w.heap.size w w' := by
  have HB := Aside0.mk (Below.refl w.heap.size w)
  have H : ((some (([33, 35, 36, 37, 38, 39, 42, 43, 45, 46, 94, 95, 96, 124, 126] : List Int) : List Int)).bind fun y120 => (larumref01_Token.l0 k a0 y120 (y120.length : Int) 0)) = some r := h
  clear h
  obtain ⟨y120, hy120⟩ : ∃ y_ : List Int, y_ = (([33, 35, 36, 37, 38, 39, 42, 43, 45, 46, 94, 95, 96, 124, 126] : List Int)) := ⟨_, rfl⟩
  replace H : (larumref01_Token.l0 k a0 y120 (y120.length : Int) 0) = some r := by first | (rw [hy120]; with_reducible exact H) | (have H2_ := (Option.bind_some _ _).symm.trans H; rw [hy120]; with_reducible exact H2_) | (have H2_ := (Option.bind_some _ _).symm.trans H; with_reducible exact H2_) | with_reducible exact H | (rw [hy120]; exact H) | exact H
  have Ny120 := Aside0.mk hy120
  clear hy120
  have H' := Aside0.mk H
  clear H
  go_enter Tryz.func26, Tryz.ntmps26
  go_wp2_with (first | ((with_reducible refine gate_dst (N := 5) rfl ?_); refine Kd.R_lit (Kd.int .i64) _ 3 ?hg (N := 5) ?hd (xs := ([33, 35, 36, 37, 38, 39, 42, 43, 45, 46, 94, 95, 96, 124, 126] : List Int)) (inner := [.int .i64 33, .int .i64 35, .int .i64 36, .int .i64 37, .int .i64 38, .int .i64 39, .int .i64 42, .int .i64 43, .int .i64 45, .int .i64 46, .int .i64 94, .int .i64 95, .int .i64 96, .int .i64 124, .int .i64 126]) (ok := fun _ => True) (okp := fun _ => True) ?hr ?hp (fun _ hk => hk) trivial (Below.refl _ _) (Nat.le_refl _) (by simp) ?_; (case hd => rfl); (case hg => rfl); (case hr => first | (go_simp; done) | (go_simp; rfl)); (case hp => exact (Reps.one (show Kd.M (Kd.int .i64) _ _ _ 33 [.int .i64 33] from rfl) (Reps.one (show Kd.M (Kd.int .i64) _ _ _ 35 [.int .i64 35] from rfl) (Reps.one (show Kd.M (Kd.int .i64) _ _ _ 36 [.int .i64 36] from rfl) (Reps.one (show Kd.M (Kd.int .i64) _ _ _ 37 [.int .i64 37] from rfl) (Reps.one (show Kd.M (Kd.int .i64) _ _ _ 38 [.int .i64 38] from rfl) (Reps.one (show Kd.M (Kd.int .i64) _ _ _ 39 [.int .i64 39] from rfl) (Reps.one (show Kd.M (Kd.int .i64) _ _ _ 42 [.int .i64 42] from rfl) (Reps.one (show Kd.M (Kd.int .i64) _ _ _ 43 [.int .i64 43] from rfl) (Reps.one (show Kd.M (Kd.int .i64) _ _ _ 45 [.int .i64 45] from rfl) (Reps.one (show Kd.M (Kd.int .i64) _ _ _ 46 [.int .i64 46] from rfl) (Reps.one (show Kd.M (Kd.int .i64) _ _ _ 94 [.int .i64 94] from rfl) (Reps.one (show Kd.M (Kd.int .i64) _ _ _ 95 [.int .i64 95] from rfl) (Reps.one (show Kd.M (Kd.int .i64) _ _ _ 96 [.int .i64 96] from rfl) (Reps.one (show Kd.M (Kd.int .i64) _ _ _ 124 [.int .i64 124] from rfl) (Reps.one (show Kd.M (Kd.int .i64) _ _ _ 126 [.int .i64 126] from rfl) (Reps.none _ _))))))))))))))))); intro v121 w2 ho3 hb hg_ hnew_; clear hg_ hnew_; (first | rw [← Ny120.out] at ho3 | (simp only [Int.reduceToNat] at ho3; rw [← Ny120.out] at ho3)); have n0_ := Aside0.mk (Kd.R_lower ho3 (below_size (by repeat (first | (with_reducible first | exact HB.out | apply below_alloc | apply pw_below_drewN | apply below_drew1) | exact HB.out)))); have n1_ := Aside0.mk (below_step (by repeat (first | (with_reducible first | exact HB.out | apply below_alloc | apply pw_below_drewN | apply below_drew1) | exact HB.out)) hb); clear HB; have HO122 := n0_; have HB := n1_; clear n0_ n1_; clear hb ho3; obtain ⟨Ao4, co4, eo4⟩ := Kd.R_slice HO122.out; subst eo4))
  go_loopg [7] k (fun kq v7 w' => ∃ (x7_1 : Int), v7 = .int .i64 x7_1 ∧ Aside0 (larumref01_Token.l0 kq a0 y120 (y120.length : Int) x7_1 = some r) ∧ Aside0 (kq ≤ k) ∧ Aside0 (Kd.R (Kd.int .i64) 3 w' w.heap.size (fun _ => True) (.slice Ao4 y120.length co4) y120) ∧ Aside0 (Below w.heap.size w w'))
  case atStart => exact ⟨(0), (by first | rfl | (simp; done) | (simp [*]; done) | (simp only [i64_w, i32_w]; done) | (simp [i64_w, i32_w, *]; done) | (simp [gp_ne]; done) | (simp [gp_ne, i64_w, i32_w, *]; done) | (simp [i64_w, i32_w]; (try unfold wrap64); (try unfold wrap32); omega)), H', ⟨Nat.le_refl _⟩, ⟨by (with_reducible repeat (first | apply Kd.R_alloc | apply Kd.R_drewN | apply Kd.R_drew)); exact HO122.out⟩, ⟨by repeat (first | (with_reducible first | exact HB.out | apply below_alloc | apply pw_below_drewN | apply below_drew1) | exact HB.out)⟩⟩
  case round =>
    clear H'
    try clear c2
    try clear p2
    obtain ⟨x7_1, rfl, HA, HK1, HO_5, HB⟩ := hrel
    cases gk with
    | zero => exact absurd HA.out (by simp [larumref01_Token.l0])
    | succ k1 =>
      have H := HA.out
      clear HA
      simp only [larumref01_Token.l0] at H
      by_cases c5 : x7_1 < (y120.length : Int)
      · rw [if_pos c5] at H
        have c5b0 : decide (x7_1 < (y120.length : Int)) = true := decide_eq_true c5
        clear c5
        by_cases c6 : 0 ≤ x7_1
        · rw [if_pos c6] at H
          have c6b0 : decide (0 ≤ x7_1) = true := decide_eq_true c6
          clear c6
          by_cases c7 : x7_1 < (y120.length : Int)
          · rw [if_pos c7] at H
            have c7b0 : decide (x7_1 < (y120.length : Int)) = true := decide_eq_true c7
            clear c7
            by_cases c8 : (wrap64 (a0)) = (rd y120 x7_1)
            · rw [if_pos c8] at H
              have c8b0 : ((wrap64 (a0)) == (rd y120 x7_1)) = true := beq_iff_eq.mpr c8
              have c8b1 : ((wrap64 (a0)) != (rd y120 x7_1)) = false := bne_eq_false_iff_eq.mpr c8
              clear c8
              obtain rfl := Option.some.inj H
              have p123 : 0 ≤ (x7_1 : Int) := of_decide_eq_true (by first | (with_reducible assumption) | assumption)
              have q123 : x7_1 < (y120.length : Int) := of_decide_eq_true (by first | (with_reducible assumption) | assumption)
              obtain ⟨ad123, e123, hx123_0⟩ := Kd.at_int (Kd.R_reads' HO_5.out).2.2 x7_1 p123 q123
              cases e123
              replace p123 := eq_true p123
              replace q123 := eq_true q123
              go_wp2
              go_ret
              exact ⟨by first | rfl | (simp [errW_none, errW_some] <;> rfl) | (simp [*, errW_none, errW_some] <;> rfl) | (simp [gp_ne]; done) | (simp [gp_ne, i64_w, i32_w, *]; done) | (simp [i64_w, i32_w]; (try unfold wrap64); (try unfold wrap32); omega), by repeat (first | (with_reducible first | exact HB.out | apply below_alloc | apply pw_below_drewN | apply below_drew1) | exact HB.out)⟩
            · rw [if_neg c8] at H
              have c8b0 : ((wrap64 (a0)) == (rd y120 x7_1)) = false := beq_eq_false_iff_ne.mpr c8
              have c8b1 : ((wrap64 (a0)) != (rd y120 x7_1)) = true := bne_iff_ne.mpr c8
              have H' := Aside0.mk H
              clear H
              have p123 : 0 ≤ (x7_1 : Int) := of_decide_eq_true (by first | (with_reducible assumption) | assumption)
              have q123 : x7_1 < (y120.length : Int) := of_decide_eq_true (by first | (with_reducible assumption) | assumption)
              obtain ⟨ad123, e123, hx123_0⟩ := Kd.at_int (Kd.R_reads' HO_5.out).2.2 x7_1 p123 q123
              cases e123
              replace p123 := eq_true p123
              replace q123 := eq_true q123
              go_wp2
              go_roundg k1
              case measure => have := HK1.out; omega
              case rel => exact ⟨(wrap64 (x7_1 + 1)), (by first | rfl | (simp; done) | (simp [*]; done) | (simp only [i64_w, i32_w]; done) | (simp [i64_w, i32_w, *]; done) | (simp [gp_ne]; done) | (simp [gp_ne, i64_w, i32_w, *]; done) | (simp [i64_w, i32_w]; (try unfold wrap64); (try unfold wrap32); omega)), H', ⟨by have := HK1.out; omega⟩, ⟨by (with_reducible repeat (first | apply Kd.R_alloc | apply Kd.R_drewN | apply Kd.R_drew)); exact HO_5.out⟩, ⟨by repeat (first | (with_reducible first | exact HB.out | apply below_alloc | apply pw_below_drewN | apply below_drew1) | exact HB.out)⟩⟩
          · rw [if_neg c7] at H
            exact absurd H (by simp)
        · rw [if_neg c6] at H
          exact absurd H (by simp)
      · rw [if_neg c5] at H
        have c5b0 : decide (x7_1 < (y120.length : Int)) = false := decide_eq_false c5
        clear c5
        replace H := Option.bind_eq_some_iff.mp H
        obtain ⟨t124, A90, H⟩ := H
        replace H : (if t124 = true then (some true) else ((larumref01_Letter.f a0).bind fun t125 => (some t125))) = some r := H
        have A9 := Aside0.mk A90
        clear A90
        by_cases c10 : t124 = true
        · subst c10
          have H1 : (some true) = some r := by rw [if_pos rfl] at H; exact H
          clear H
          have H := H1
          clear H1
          obtain rfl := Option.some.inj H
          go_wp2_with (first | ((with_reducible refine gate_callee (f := 44) rfl ?_); refine goesL_ (some 17) rfl rfl Tryz.func44 (by kernel_rfl) rfl #[.int .u8 a0] rfl (by (try simp only [List.map_toArray, List.map_cons, List.map_nil]); first | done | rfl | (simp only [List.length_drop, List.length_take]; rfl)) ?_; (with_reducible refine (larumref01_Digit.calls a0 true _ A9.out).mono ?_); rintro e w' ⟨rfl, ⟨nd, rfl⟩⟩; refine ⟨_, rfl, ?_⟩))
          go_ret
          exact ⟨by first | rfl | (simp [errW_none, errW_some] <;> rfl) | (simp [*, errW_none, errW_some] <;> rfl) | (simp [gp_ne]; done) | (simp [gp_ne, i64_w, i32_w, *]; done) | (simp [i64_w, i32_w]; (try unfold wrap64); (try unfold wrap32); omega), by repeat (first | (with_reducible first | exact HB.out | apply below_alloc | apply pw_below_drewN | apply below_drew1) | exact HB.out)⟩
        · replace c10 := Bool.eq_false_iff.mpr c10
          subst c10
          have H1 : ((larumref01_Letter.f a0).bind fun t125 => (some t125)) = some r := by rw [if_neg (show ¬ (false = true) by decide)] at H; exact H
          clear H
          have H := H1
          clear H1
          replace H := Option.bind_eq_some_iff.mp H
          obtain ⟨t125, A110, H⟩ := H
          replace H : (some t125) = some r := H
          have A11 := Aside0.mk A110
          clear A110
          obtain rfl := Option.some.inj H
          go_wp2_with (first | ((with_reducible refine gate_callee (f := 44) rfl ?_); refine goesL_ (some 17) rfl rfl Tryz.func44 (by kernel_rfl) rfl #[.int .u8 a0] rfl (by (try simp only [List.map_toArray, List.map_cons, List.map_nil]); first | done | rfl | (simp only [List.length_drop, List.length_take]; rfl)) ?_; (with_reducible refine (larumref01_Digit.calls a0 false _ A9.out).mono ?_); rintro e w' ⟨rfl, ⟨nd, rfl⟩⟩; refine ⟨_, rfl, ?_⟩) | (go_at_call 45; (with_reducible refine (larumref01_Letter.calls a0 t125 _ A11.out).mono ?_); rintro e w' ⟨rfl, ⟨nd, rfl⟩⟩))
          go_ret
          exact ⟨by first | rfl | (simp [errW_none, errW_some] <;> rfl) | (simp [*, errW_none, errW_some] <;> rfl) | (simp [gp_ne]; done) | (simp [gp_ne, i64_w, i32_w, *]; done) | (simp [i64_w, i32_w]; (try unfold wrap64); (try unfold wrap32); omega), by repeat (first | (with_reducible first | exact HB.out | apply below_alloc | apply pw_below_drewN | apply below_drew1) | exact HB.out)⟩

end Go.Proofs.YtpincmjianpmmaaGreatDoor.PHeadLine
