import Derived.Test.YtojbejcilhohaaaDoorOp
import Derived.Test.YtojbejcilhohaaaDoorRows
/-! A law's parameters opened, with what the statement's bound on all that comes in gives. -/
namespace Go.Proofs.YtojbejcilhohaaaDoor.OpU
open Go Go.RowKit Go.Proofs.YtojbejcilhohaaaDoorW.PrintWords Go.ChangeShapes Go.WideShapes
set_option linter.unusedSimpArgs false
set_option linter.unusedVariables false
theorem one_le {H : Type} (d : DataW H) : 1 ≤ Rows.uptoBulk d := by
  cases d with
  | lit l => cases l <;> simp [Rows.uptoBulk]
  | nil => simp [Rows.uptoBulk]
  | ptr d => simp [Rows.uptoBulk]
  | slice elems spare => simp [Rows.uptoBulk]
  | agg parts => simp [Rows.uptoBulk]
  | iface t d => simp [Rows.uptoBulk]
  | map entries => simp [Rows.uptoBulk]
  | held h => simp [Rows.uptoBulk]
theorem part_le {H : Type} {d : DataW H} {l : List (DataW H)} (h : d ∈ l) : Rows.uptoBulk d ≤ Rows.uptoBulkAll l := by
  induction l with
  | nil => cases h
  | cons x r ih =>
    simp only [Rows.uptoBulkAll]
    cases List.mem_cons.1 h with
    | inl e => subst e; omega
    | inr e => have := ih e; omega
theorem length_le {H : Type} (l : List (DataW H)) : l.length ≤ Rows.uptoBulkAll l := by
  induction l with
  | nil => simp [Rows.uptoBulkAll]
  | cons x r ih => have := one_le x; simp only [Rows.uptoBulkAll, List.length_cons]; omega
/-- What can be read at a type is of a kind, and good for what it weighs. -/
structure Opens (P : Program) {α : Type} (K : Kd α) (t : TypeId) (good : Nat → α → Prop) : Prop where
  mono : ∀ {n m : Nat} {a : α}, n ≤ m → good n a → good m a
  opens : ∀ {H : Type} {enc : TypeId × Value → H} {W : World} {base : Nat} {spare : Nat → Bool} {held : Bool} {fuel : Nat} {cs : List Value} {x : DataW H × List MemPlace},
    DataW.trod enc P W base spare held fuel t cs = some x → ∃ a, K.K W a cs ∧ good (Rows.uptoBulk x.1) a
theorem opens_int {P : Program} {t : TypeId} {k : IntKind} (ht : P.underlying t = some (.int k)) : Opens P (Kd.int k) t (fun _ a => (Lit.int k a).wf = true) :=
  ⟨fun _ h => h, fun h => by
    obtain ⟨n, rfl, _, hw⟩ := DataW.trod_int ht h
    exact ⟨n, rfl, hw⟩⟩
theorem opens_bool {P : Program} {t : TypeId} (ht : P.underlying t = some .bool) : Opens P Kd.bool t (fun _ _ => True) :=
  ⟨fun _ h => h, fun h => by
    obtain ⟨n, rfl, _⟩ := DataW.trod_bool ht h
    exact ⟨n, rfl, trivial⟩⟩
theorem opens_str {P : Program} {t : TypeId} (ht : P.underlying t = some .string) : Opens P Kd.string t (fun n a => a.size ≤ n) :=
  ⟨fun h1 h2 => Nat.le_trans h2 h1, fun h => by
    obtain ⟨s, rfl, rfl, _⟩ := DataW.trod_string ht h
    refine ⟨s, rfl, ?_⟩
    simp only [Rows.uptoBulk]
    have : s.data.toList.length = s.size := by rw [Array.length_toList]; rfl
    omega⟩
theorem opens_slice {P : Program} {α : Type} {K : Kd α} {t e : TypeId} {good : Nat → α → Prop} (ht : P.underlying t = some (.slice e)) (hs : K.sz = P.cellsOf e) (he : Opens P K e good) :
    Opens P (Kd.slice e K) t (fun n l => l.length ≤ n ∧ ∀ x ∈ l, good n x) := by
  refine ⟨fun h1 h2 => ⟨Nat.le_trans h2.1 h1, fun x hx => he.mono h1 (h2.2 x hx)⟩, ?_⟩
  intro H enc W base spare held fuel cs x h
  rcases DataW.trod_slice ht h with ⟨rfl, rfl⟩ | ⟨a, len, cap, elems, rest, n, _, rfl, rfl, _, hl, hm, hn, hel, _, _⟩
  · exact ⟨[], ⟨none, 0, rfl, Nat.le_refl _, rfl, by simp, fun h => absurd h (by simp)⟩, by simp, fun x hx => by simp at hx⟩
  · have hlen0 := length_le (elems.map (·.1))
    obtain ⟨xs, hxl, hx⟩ := Op.choose_list (fun i (_ : DataW H × List MemPlace) (b : α) => ∃ cs, W.cells? base (a.add (i * P.cellsOf e)) (P.cellsOf e) = some cs ∧ K.K W b cs ∧ good (Rows.uptoBulk (DataW.slice (elems.map (·.1)) (rest.map (·.1)))) b) elems (by
      intro i y hy
      have hi : i < len := by
        have := (List.getElem?_eq_some_iff.1 hy).1
        omega
      have h1 := hel i hi
      rw [hy] at h1
      obtain ⟨cs, hc, h2⟩ := Option.bind_eq_some_iff.1 h1
      obtain ⟨b, hb, hg⟩ := he.opens h2
      refine ⟨b, cs, hc, hb, he.mono ?_ hg⟩
      have := part_le (d := y.1) (l := elems.map (·.1)) (List.mem_map_of_mem (List.mem_of_getElem? hy))
      simp only [Rows.uptoBulk]
      omega)
    have hlen : xs.length = len := by omega
    refine ⟨xs, ⟨some a, cap, by rw [hlen], by omega, rfl, by simp only [maxLen] at hm; omega, fun _ => ⟨a, rfl, fun j p hp => ?_⟩⟩, ?_, fun z hz => ?_⟩
    · have hj : j < elems.length := by
        have := (List.getElem?_eq_some_iff.1 hp).1
        omega
      obtain ⟨b, hb, cs, hc, hk, hg⟩ := hx j _ (List.getElem?_eq_getElem hj)
      rw [hp] at hb
      obtain rfl := Option.some.inj hb
      obtain ⟨h1, h2⟩ := Op.cells_get hc
      refine ⟨cs, by rw [h1, hs], hk, fun i u hu => ?_⟩
      rw [hs, ← Addr.add_add]
      exact h2 i u hu
    · rw [List.length_map] at hlen0
      simp only [Rows.uptoBulk]
      omega
    · obtain ⟨j, hj, hz'⟩ := List.getElem_of_mem hz
      obtain ⟨b, hb, cs, hc, hk, hg⟩ := hx j _ (List.getElem?_eq_getElem (by omega : j < elems.length))
      rw [List.getElem?_eq_getElem hj, hz'] at hb
      obtain rfl := Option.some.inj hb
      exact hg
theorem opens_iso {P : Program} {α β : Type} {K : Kd α} {t : TypeId} {good : Nat → α → Prop} (f : β → α) (g : α → β) (hfg : ∀ a, f (g a) = a) (h : Opens P K t good) : Opens P (Kd.iso K f) t (fun n b => good n (f b)) :=
  ⟨fun h1 h2 => h.mono h1 h2, fun {H enc W base spare held fuel cs x} hx => by
    obtain ⟨a, ha, hg⟩ := h.opens hx
    exact ⟨g a, by show K.K W (f (g a)) cs; rw [hfg]; exact ha, by show good _ (f (g a)); rw [hfg]; exact hg⟩⟩
/-- Fields from a place on. -/
structure OpensF (P : Program) {α : Type} (K : Kd α) (fs : List Field) (off sz : Nat) (good : Nat → α → Prop) : Prop where
  mono : ∀ {n m : Nat} {a : α}, n ≤ m → good n a → good m a
  opens : ∀ {H : Type} {enc : TypeId × Value → H} {W : World} {base : Nat} {spare : Nat → Bool} {held : Bool} {n : Nat} {cs : List Value} (N : Nat),
    cs.length = off + sz → (∀ f ∈ fs, ∃ y : DataW H × List MemPlace, DataW.trod enc P W base spare held n f.type ((cs.drop f.offset).take (P.cellsOf f.type)) = some y ∧ Rows.uptoBulk y.1 ≤ N) → ∃ a, K.K W a (cs.drop off) ∧ good N a
theorem opensF_one {P : Program} {α : Type} {K : Kd α} {f : Field} {off : Nat} {good : Nat → α → Prop} (ho : f.offset = off) (h : Opens P K f.type good) : OpensF P K [f] off (P.cellsOf f.type) good := by
  refine ⟨h.mono, ?_⟩
  intro H enc W base spare held n cs N hl hf
  obtain ⟨y, hy, hN⟩ := hf f (by simp)
  obtain ⟨a, ha, hg⟩ := h.opens hy
  rw [ho, List.take_of_length_le (by rw [List.length_drop]; omega)] at ha
  exact ⟨a, ha, h.mono hN hg⟩
theorem opensF_cons {P : Program} {α β : Type} {K : Kd α} {Ks : Kd β} {f : Field} {fs : List Field} {off sz : Nat} {good : Nat → α → Prop} {goods : Nat → β → Prop} (ho : f.offset = off) (h : Opens P K f.type good) (hs : OpensF P Ks fs (off + P.cellsOf f.type) sz goods) :
    OpensF P (Kd.pair K Ks) (f :: fs) off (P.cellsOf f.type + sz) (fun n x => good n x.1 ∧ goods n x.2) := by
  refine ⟨fun h1 h2 => ⟨h.mono h1 h2.1, hs.mono h1 h2.2⟩, ?_⟩
  intro H enc W base spare held n cs N hl hf
  obtain ⟨y, hy, hN⟩ := hf f (by simp)
  obtain ⟨a, ha, hg⟩ := h.opens hy
  obtain ⟨b, hb, hg'⟩ := hs.opens N (by omega) (fun f' hf' => hf f' (List.mem_cons_of_mem _ hf'))
  rw [ho] at ha
  exact ⟨(a, b), ⟨_, _, by rw [← List.drop_drop, List.take_append_drop], ha, hb⟩, h.mono hN hg, hg'⟩
theorem opens_struct {P : Program} {α : Type} {K : Kd α} {t : TypeId} {fs : Array Field} {good : Nat → α → Prop} {sz : Nat} (ht : P.underlying t = some (.struct fs)) (hsz : P.cellsOf t = sz) (h : OpensF P K fs.toList 0 sz good) : Opens P K t good := by
  refine ⟨h.mono, ?_⟩
  intro H enc W base spare held fuel cs x hx
  obtain ⟨xs, n, _, rfl, hl, hxl, hf⟩ := DataW.trod_struct ht hx
  obtain ⟨a, ha, hg⟩ := h.opens (cs := cs) (Rows.uptoBulk (DataW.agg (xs.map (·.1)))) (by omega) (fun f hf' => by
    obtain ⟨i, hi, rfl⟩ := List.getElem_of_mem hf'
    have hi' : i < fs.size := by simpa using hi
    refine ⟨xs[i]'(by omega), ?_, ?_⟩
    · have h1 := hf i fs[i] (by simp [hi'])
      rw [List.getElem?_eq_getElem (by omega : i < xs.length)] at h1
      simpa using h1
    · have := part_le (d := (xs[i]'(by omega)).1) (l := xs.map (·.1)) (List.mem_map_of_mem (List.getElem_mem _))
      simp only [Rows.uptoBulk]
      omega)
  exact ⟨a, by simpa using ha, hg⟩
/-- A slice that comes in. -/
theorem open_row {P : Program} {α : Type} {K : Kd α} {t e : TypeId} {good : Nat → α → Prop} {r : Reach} {b0 : Nat} {H : Type} {enc : TypeId × Value → H} {W : World} {base : Nat} {spare : Nat → Bool} {held : Bool} {v : Value} {d : DataW H} {p : List MemPlace}
    (ht : P.underlying t = some (.slice e)) (hs : K.sz = P.cellsOf e) (he : Opens P K e good) (hv : Value.okWide P W r b0 t v) (h : DataW.Trod enc P W base spare held t v d p) :
    ∃ (A : Option Addr) (c : Nat) (l : List α), v = .slice A l.length c ∧ Kd.C K W A l.length l ∧ l.length ≤ c ∧ l.length ≤ Rows.uptoBulk d ∧ ∀ x ∈ l, good (Rows.uptoBulk d) x := by
  obtain ⟨A, n, c, rfl⟩ := okWide_slice ht hv
  obtain ⟨fuel, hf⟩ := h
  obtain ⟨l, ⟨A', c', he, hle, hc⟩, hg⟩ := (opens_slice ht hs he).opens hf
  simp [Value.cells] at he
  obtain ⟨rfl, rfl, rfl⟩ := he
  exact ⟨_, _, l, rfl, hc, hle, hg⟩
/-- A slice that is a field of what comes in. -/
theorem open_part {P : Program} {α : Type} {K : Kd α} {t e : TypeId} {good : Nat → α → Prop} {H : Type} {enc : TypeId × Value → H} {W : World} {base : Nat} {spare : Nat → Bool} {held : Bool} {n : Nat} {u : Value} {x : DataW H × List MemPlace}
    (ht : P.underlying t = some (.slice e)) (hs : K.sz = P.cellsOf e) (he : Opens P K e good) (h : DataW.trod enc P W base spare held n t [u] = some x) :
    ∃ (A : Option Addr) (c : Nat) (l : List α), [u] = [Value.slice A l.length c] ∧ Kd.C K W A l.length l ∧ l.length ≤ c ∧ l.length ≤ Rows.uptoBulk x.1 ∧ ∀ y ∈ l, good (Rows.uptoBulk x.1) y := by
  obtain ⟨l, ⟨A', c', he, hle, hc⟩, hg⟩ := (opens_slice ht hs he).opens h
  exact ⟨A', c', l, he, hc, hle, hg⟩
end Go.Proofs.YtojbejcilhohaaaDoor.OpU
