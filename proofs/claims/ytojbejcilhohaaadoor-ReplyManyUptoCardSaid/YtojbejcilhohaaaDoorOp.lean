import Derived.WalkKit
import Derived.ChangeArms
import Derived.ChangeSlices
import Derived.ChangeSame
import Derived.OpenShut
import Derived.WideShapes
import Derived.DataElems
import Derived.Test.YtojbejcilhohaaaDoorWWords
/-! A law's parameters of any kind that is made of numbers, bools, texts, slices and structs, opened. -/
namespace Go.Proofs.YtojbejcilhohaaaDoor.Op
open Go Go.RowKit Go.Proofs.YtojbejcilhohaaaDoorW.PrintWords Go.ChangeShapes Go.WideShapes
set_option linter.unusedSimpArgs false
set_option linter.unusedVariables false
/-- What can be read at a type is of a kind, and good. -/
def Opens (P : Program) {α : Type} (K : Kd α) (t : TypeId) (good : α → Prop) : Prop :=
  ∀ {H : Type} {enc : TypeId × Value → H} {W : World} {base : Nat} {spare : Nat → Bool} {held : Bool} {fuel : Nat} {cs : List Value} {x : DataW H × List MemPlace},
    DataW.trod enc P W base spare held fuel t cs = some x → ∃ a, K.K W a cs ∧ good a
theorem opens_int {P : Program} {t : TypeId} {k : IntKind} (ht : P.underlying t = some (.int k)) : Opens P (Kd.int k) t (fun a => (Lit.int k a).wf = true) := by
  intro H enc W base spare held fuel cs x h
  obtain ⟨n, rfl, _, hw⟩ := DataW.trod_int ht h
  exact ⟨n, rfl, hw⟩
theorem opens_bool {P : Program} {t : TypeId} (ht : P.underlying t = some .bool) : Opens P Kd.bool t (fun _ => True) := by
  intro H enc W base spare held fuel cs x h
  obtain ⟨n, rfl, _⟩ := DataW.trod_bool ht h
  exact ⟨n, rfl, trivial⟩
theorem opens_str {P : Program} {t : TypeId} (ht : P.underlying t = some .string) : Opens P Kd.string t (fun a => a.size ≤ 9223372036854775807) := by
  intro H enc W base spare held fuel cs x h
  obtain ⟨n, rfl, _, hw⟩ := DataW.trod_string ht h
  exact ⟨n, rfl, hw⟩
theorem cells_get {w : World} {base : Nat} {a : Addr} {n : Nat} {cs : List Value} (h : w.cells? base a n = some cs) : cs.length = n ∧ ∀ i u, cs[i]? = some u → w.cell? (a.add i) = some u := by
  unfold World.cells? at h
  split at h
  · have hl : cs.length = n := by simpa using mapM_some_length h
    refine ⟨hl, fun i u hu => ?_⟩
    have hi : i < n := by
      have := (List.getElem?_eq_some_iff.1 hu).1
      omega
    have := mapM_some_get h i i (by simp [hi])
    rw [this, hu]
  · cases h
theorem choose_list {α β : Type} (R : Nat → β → α → Prop) : ∀ (ys : List β), (∀ i y, ys[i]? = some y → ∃ a, R i y a) → ∃ xs : List α, xs.length = ys.length ∧ ∀ i y, ys[i]? = some y → ∃ a, xs[i]? = some a ∧ R i y a := by
  intro ys
  induction ys generalizing R with
  | nil => exact fun _ => ⟨[], rfl, fun i y h => by simp at h⟩
  | cons y ys ih =>
    intro h
    obtain ⟨a, ha⟩ := h 0 y rfl
    obtain ⟨xs, hl, hx⟩ := ih (fun i => R (i + 1)) (fun i y hy => h (i + 1) y (by simpa using hy))
    refine ⟨a :: xs, by simp [hl], fun i z hz => ?_⟩
    cases i with
    | zero => simp at hz; subst hz; exact ⟨a, rfl, ha⟩
    | succ i => simpa using hx i z (by simpa using hz)
theorem opens_slice {P : Program} {α : Type} {K : Kd α} {t e : TypeId} {good : α → Prop} (ht : P.underlying t = some (.slice e)) (hs : K.sz = P.cellsOf e) (he : Opens P K e good) :
    Opens P (Kd.slice e K) t (fun l => l.length ≤ 9223372036854775807 ∧ ∀ x ∈ l, good x) := by
  intro H enc W base spare held fuel cs x h
  rcases DataW.trod_slice ht h with ⟨rfl, _⟩ | ⟨a, len, cap, elems, rest, n, _, rfl, _, _, hl, hm, hn, hel, _, _⟩
  · exact ⟨[], ⟨none, 0, rfl, Nat.le_refl _, rfl, by simp, fun h => absurd h (by simp)⟩, by simp, fun x hx => by simp at hx⟩
  · obtain ⟨xs, hxl, hx⟩ := choose_list (fun i (_ : DataW H × List MemPlace) (b : α) => ∃ cs, W.cells? base (a.add (i * P.cellsOf e)) (P.cellsOf e) = some cs ∧ K.K W b cs ∧ good b) elems (by
      intro i y hy
      have hi : i < len := by
        have := (List.getElem?_eq_some_iff.1 hy).1
        omega
      have h1 := hel i hi
      rw [hy] at h1
      obtain ⟨cs, hc, h2⟩ := Option.bind_eq_some_iff.1 h1
      obtain ⟨b, hb, hg⟩ := he h2
      exact ⟨b, cs, hc, hb, hg⟩)
    have hlen : xs.length = len := by omega
    refine ⟨xs, ⟨some a, cap, by rw [hlen], by omega, rfl, by simp only [maxLen] at hm; omega, fun _ => ⟨a, rfl, fun j p hp => ?_⟩⟩, by simp only [maxLen] at hm; omega, fun z hz => ?_⟩
    · have hj : j < elems.length := by
        have := (List.getElem?_eq_some_iff.1 hp).1
        omega
      obtain ⟨b, hb, cs, hc, hk, hg⟩ := hx j _ (List.getElem?_eq_getElem hj)
      rw [hp] at hb
      obtain rfl := Option.some.inj hb
      obtain ⟨h1, h2⟩ := cells_get hc
      refine ⟨cs, by rw [h1, hs], hk, fun i u hu => ?_⟩
      rw [hs, ← Addr.add_add]
      exact h2 i u hu
    · obtain ⟨j, hj, hz'⟩ := List.getElem_of_mem hz
      obtain ⟨b, hb, cs, hc, hk, hg⟩ := hx j _ (List.getElem?_eq_getElem (by omega : j < elems.length))
      rw [List.getElem?_eq_getElem hj, hz'] at hb
      obtain rfl := Option.some.inj hb
      exact hg
theorem opens_iso {P : Program} {α β : Type} {K : Kd α} {t : TypeId} {good : α → Prop} (f : β → α) (g : α → β) (hfg : ∀ a, f (g a) = a) (h : Opens P K t good) : Opens P (Kd.iso K f) t (fun b => good (f b)) := by
  intro H enc W base spare held fuel cs x hx
  obtain ⟨a, ha, hg⟩ := h hx
  exact ⟨g a, by show K.K W (f (g a)) cs; rw [hfg]; exact ha, by show good (f (g a)); rw [hfg]; exact hg⟩
/-- Fields from a place on. -/
def OpensF (P : Program) {α : Type} (K : Kd α) (fs : List Field) (off sz : Nat) (good : α → Prop) : Prop :=
  ∀ {H : Type} {enc : TypeId × Value → H} {W : World} {base : Nat} {spare : Nat → Bool} {held : Bool} {n : Nat} {cs : List Value},
    cs.length = off + sz → (∀ f ∈ fs, ∃ y, DataW.trod enc P W base spare held n f.type ((cs.drop f.offset).take (P.cellsOf f.type)) = some y) → ∃ a, K.K W a (cs.drop off) ∧ good a
theorem opensF_one {P : Program} {α : Type} {K : Kd α} {f : Field} {off : Nat} {good : α → Prop} (ho : f.offset = off) (h : Opens P K f.type good) : OpensF P K [f] off (P.cellsOf f.type) good := by
  intro H enc W base spare held n cs hl hf
  obtain ⟨y, hy⟩ := hf f (by simp)
  obtain ⟨a, ha, hg⟩ := h hy
  rw [ho, List.take_of_length_le (by rw [List.length_drop]; omega)] at ha
  exact ⟨a, ha, hg⟩
theorem opensF_cons {P : Program} {α β : Type} {K : Kd α} {Ks : Kd β} {f : Field} {fs : List Field} {off sz : Nat} {good : α → Prop} {goods : β → Prop} (ho : f.offset = off) (h : Opens P K f.type good) (hs : OpensF P Ks fs (off + P.cellsOf f.type) sz goods) :
    OpensF P (Kd.pair K Ks) (f :: fs) off (P.cellsOf f.type + sz) (fun x => good x.1 ∧ goods x.2) := by
  intro H enc W base spare held n cs hl hf
  obtain ⟨y, hy⟩ := hf f (by simp)
  obtain ⟨a, ha, hg⟩ := h hy
  obtain ⟨b, hb, hg'⟩ := hs (by omega) (fun f' hf' => hf f' (List.mem_cons_of_mem _ hf'))
  rw [ho] at ha
  exact ⟨(a, b), ⟨_, _, by rw [← List.drop_drop, List.take_append_drop], ha, hb⟩, hg, hg'⟩
theorem opens_struct {P : Program} {α : Type} {K : Kd α} {t : TypeId} {fs : Array Field} {good : α → Prop} {sz : Nat} (ht : P.underlying t = some (.struct fs)) (hsz : P.cellsOf t = sz) (h : OpensF P K fs.toList 0 sz good) : Opens P K t good := by
  intro H enc W base spare held fuel cs x hx
  obtain ⟨xs, n, _, _, hl, hxl, hf⟩ := DataW.trod_struct ht hx
  obtain ⟨a, ha, hg⟩ := h (cs := cs) (by omega) (fun f hf' => by
    obtain ⟨i, hi, rfl⟩ := List.getElem_of_mem hf'
    have hi' : i < fs.size := by simpa using hi
    refine ⟨xs[i]'(by omega), ?_⟩
    have h1 := hf i fs[i] (by simp [hi'])
    rw [List.getElem?_eq_getElem (by omega : i < xs.length)] at h1
    simpa using h1)
  exact ⟨a, by simpa using ha, hg⟩
/-- A slice that comes in. -/
theorem open_row {P : Program} {α : Type} {K : Kd α} {t e : TypeId} {good : α → Prop} {r : Reach} {b0 : Nat} {H : Type} {enc : TypeId × Value → H} {W : World} {base : Nat} {spare : Nat → Bool} {held : Bool} {v : Value} {d : DataW H} {p : List MemPlace}
    (ht : P.underlying t = some (.slice e)) (hs : K.sz = P.cellsOf e) (he : Opens P K e good) (hv : Value.okWide P W r b0 t v) (h : DataW.Trod enc P W base spare held t v d p) :
    ∃ (A : Option Addr) (c : Nat) (l : List α), v = .slice A l.length c ∧ Kd.C K W A l.length l ∧ l.length ≤ c ∧ l.length ≤ 9223372036854775807 ∧ ∀ x ∈ l, good x := by
  obtain ⟨A, n, c, rfl⟩ := okWide_slice ht hv
  obtain ⟨fuel, hf⟩ := h
  obtain ⟨l, ⟨A', c', he, hle, hc⟩, hg⟩ := opens_slice ht hs he hf
  simp [Value.cells] at he
  obtain ⟨rfl, rfl, rfl⟩ := he
  exact ⟨_, _, l, rfl, hc, hle, hg⟩
/-- A slice that is a field of what comes in. -/
theorem open_part {P : Program} {α : Type} {K : Kd α} {t e : TypeId} {good : α → Prop} {H : Type} {enc : TypeId × Value → H} {W : World} {base : Nat} {spare : Nat → Bool} {held : Bool} {n : Nat} {u : Value} {x : DataW H × List MemPlace}
    (ht : P.underlying t = some (.slice e)) (hs : K.sz = P.cellsOf e) (he : Opens P K e good) (h : DataW.trod enc P W base spare held n t [u] = some x) :
    ∃ (A : Option Addr) (c : Nat) (l : List α), [u] = [Value.slice A l.length c] ∧ Kd.C K W A l.length l ∧ l.length ≤ c ∧ l.length ≤ 9223372036854775807 ∧ ∀ x ∈ l, good x := by
  obtain ⟨l, ⟨A', c', he, hle, hc⟩, hg⟩ := opens_slice ht hs he h
  exact ⟨A', c', l, he, hc, hle, hg⟩
end Go.Proofs.YtojbejcilhohaaaDoor.Op
