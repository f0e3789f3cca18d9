/- What reads as data of a type (whole numbers, bools, strings, slices and structs of such) is told as a value of a kind; no condition. -/
import Derived.Test.YtcpmkcidehhbiaaDoorVExactProgramTextWWords
import Derived.Test.YtcpmkcidehhbiaaDoorVExactProgramTextWMore
import Derived.Deep.Slices
import Derived.ChangeArms
import Derived.ChangeSlices
import Derived.WideShapes
import Derived.ProofKit
namespace Go.Proofs.YtcpmkcidehhbiaaDoor.Opens
open Go.RowKit Go.ChangeShapes Go.WideShapes Go.Proofs.YtcpmkcidehhbiaaDoorW.PrintWords

/-- What reads as data of type T is of kind d, and as wf says. -/
def Opens {α : Type} (P : Program) (T : TypeId) (d : Kd α) (wf : α → Prop) : Prop :=
  ∀ (H : Type) (enc : TypeId × Value → H) (W : World) (base : Nat) (spare : Nat → Bool) (held : Bool) (fuel : Nat) (cs : List Value) (x : DataW H × List MemPlace),
    DataW.trod enc P W base spare held fuel T cs = some x → ∃ y, d.K W y cs ∧ wf y

theorem opens_int {P : Program} {T : TypeId} {k : IntKind} (hu : P.underlying T = some (.int k)) : Opens P T (Kd.int k) (fun x => (Lit.int k x).wf = true) := by
  intro H enc W base spare held fuel cs x h
  obtain ⟨n, rfl, _, hw⟩ := DataW.trod_int hu h
  exact ⟨n, rfl, hw⟩
theorem opens_bool {P : Program} {T : TypeId} (hu : P.underlying T = some .bool) : Opens P T Kd.bool (fun _ => True) := by
  intro H enc W base spare held fuel cs x h
  obtain ⟨n, rfl, _⟩ := DataW.trod_bool hu h
  exact ⟨n, rfl, trivial⟩
theorem opens_string {P : Program} {T : TypeId} (hu : P.underlying T = some .string) : Opens P T Kd.string (fun s => s.size ≤ maxLen) := by
  intro H enc W base spare held fuel cs x h
  obtain ⟨n, rfl, _, hs⟩ := DataW.trod_string hu h
  exact ⟨n, rfl, hs⟩

theorem list_of {α : Type} {p : Nat → α → Prop} (n : Nat) (h : ∀ i, i < n → ∃ y, p i y) : ∃ xs : List α, xs.length = n ∧ ∀ i y, xs[i]? = some y → p i y := by
  induction n with
  | zero => exact ⟨[], rfl, fun i y hy => by simp at hy⟩
  | succ n ih =>
    obtain ⟨xs, hl, hx⟩ := ih (fun i hi => h i (Nat.lt_succ_of_lt hi))
    obtain ⟨y, hy⟩ := h n (Nat.lt_succ_self n)
    refine ⟨xs ++ [y], by simp [hl], fun i z hz => ?_⟩
    rcases Nat.lt_or_ge i xs.length with hi | hi
    · rw [List.getElem?_append_left hi] at hz
      exact hx i z hz
    · have hb := (List.getElem?_eq_some_iff.1 hz).1
      rw [List.length_append, List.length_singleton] at hb
      have he : i = n := by omega
      subst he
      rw [List.getElem?_append_right hi, hl, Nat.sub_self] at hz
      simp at hz
      rw [← hz]
      exact hy

/-- A slice's value, as it reads. -/
theorem slice_reads {α : Type} {P : Program} {T e : TypeId} {d : Kd α} {wf : α → Prop} (hu : P.underlying T = some (.slice e)) (hc : P.cellsOf e = d.sz) (o : Opens P e d wf)
    {H : Type} {enc : TypeId × Value → H} {W : World} {base : Nat} {spare : Nat → Bool} {held : Bool} {fuel : Nat} {A : Option Addr} {len cap : Nat} {x : DataW H × List MemPlace}
    (h : DataW.trod enc P W base spare held fuel T [.slice A len cap] = some x) : ∃ xs : List α, len = xs.length ∧ len ≤ cap ∧ d.C W A xs.length xs ∧ xs.length ≤ maxLen ∧ ∀ y ∈ xs, wf y := by
  rcases DataW.trod_slice hu h with ⟨h1, _⟩ | ⟨a, len', cap', elems, rest, n, _, hcs, _, hb, hl, hm, hlen, hel, _, _⟩
  · simp only [List.cons.injEq, Value.slice.injEq, and_true] at h1
    obtain ⟨rfl, rfl, rfl⟩ := h1
    exact ⟨[], rfl, Nat.le_refl _, ⟨rfl, Nat.zero_le _, fun hn => absurd hn (by simp)⟩, by simp, by simp⟩
  · simp only [List.cons.injEq, Value.slice.injEq, and_true] at hcs
    obtain ⟨rfl, rfl, rfl⟩ := hcs
    have hy : ∀ i, i < len → ∃ y : α, wf y ∧ ∃ c : List Value, c.length = d.sz ∧ d.K W y c ∧ ∀ j u, c[j]? = some u → W.cell? (a.add (i * d.sz + j)) = some u := by
      intro i hi
      have h1 := hel i hi
      rw [List.getElem?_eq_getElem (by omega)] at h1
      obtain ⟨cs, h2, h3⟩ := Option.bind_eq_some_iff.1 h1
      obtain ⟨_, hcl, hcell⟩ := World.cells?_some h2
      obtain ⟨y, hK, hw⟩ := o H enc W base spare held n cs _ h3
      refine ⟨y, hw, cs, d.K_len hK, hK, fun j u hj => ?_⟩
      have hjl := (List.getElem?_eq_some_iff.1 hj).1
      have h4 := hcell j (by omega)
      rw [Go.Deep.add_add, hc] at h4
      rw [h4, hj]
    obtain ⟨xs, hxl, hx⟩ := list_of len hy
    unfold maxLen at hm
    refine ⟨xs, hxl.symm, hl, ⟨rfl, by omega, fun _ => ⟨a, rfl, fun j p hj => ?_⟩⟩, by unfold maxLen; omega, fun y hy => ?_⟩
    · obtain ⟨_, c, h1, h2, h3⟩ := hx j p hj
      exact ⟨c, h1, h2, fun i u hi => h3 i u hi⟩
    · obtain ⟨i, hi, rfl⟩ := List.mem_iff_getElem.1 hy
      exact (hx i _ (List.getElem?_eq_getElem hi)).1
theorem opens_slice {α : Type} {P : Program} {T e : TypeId} {d : Kd α} {wf : α → Prop} (hu : P.underlying T = some (.slice e)) (hc : P.cellsOf e = d.sz) (o : Opens P e d wf) :
    Opens P T (Kd.slice e d) (fun xs => xs.length ≤ maxLen ∧ ∀ y ∈ xs, wf y) := by
  intro H enc W base spare held fuel cs x h
  have hform : ∃ A len cap, cs = [.slice A len cap] := by
    rcases DataW.trod_slice hu h with ⟨h1, _⟩ | ⟨a, len, cap, _, _, _, _, h1, _⟩
    · exact ⟨_, _, _, h1⟩
    · exact ⟨_, _, _, h1⟩
  obtain ⟨A, len, cap, rfl⟩ := hform
  obtain ⟨xs, rfl, h1, h2, h3⟩ := slice_reads hu hc o h
  exact ⟨xs, ⟨A, cap, rfl, h1, h2⟩, h3⟩

/-- What reads as these fields, from place off on, is of kind d, and as wf says. -/
def OpensF {α : Type} (P : Program) (fs : List Field) (off : Nat) (d : Kd α) (wf : α → Prop) : Prop :=
  ∀ (H : Type) (enc : TypeId × Value → H) (W : World) (base : Nat) (spare : Nat → Bool) (held : Bool) (n : Nat) (cs : List Value), cs.length = off + d.sz →
    (∀ (i : Nat) (f : Field), fs[i]? = some f → ∃ x, DataW.trod enc P W base spare held n f.type ((cs.drop f.offset).take (P.cellsOf f.type)) = some x) → ∃ y, d.K W y (cs.drop off) ∧ wf y
theorem opensF_one {α : Type} {P : Program} {f : Field} {d : Kd α} {wf : α → Prop} (hc : P.cellsOf f.type = d.sz) (o : Opens P f.type d wf) : OpensF P [f] f.offset d wf := by
  intro H enc W base spare held n cs hl h
  obtain ⟨x, hx⟩ := h 0 f rfl
  rw [List.take_of_length_le (by rw [List.length_drop]; omega)] at hx
  exact o H enc W base spare held n _ x hx
theorem opensF_cons {α β : Type} {P : Program} {f : Field} {fs : List Field} {d0 : Kd α} {d1 : Kd β} {wf0 : α → Prop} {wf1 : β → Prop} {off1 : Nat} (hc : P.cellsOf f.type = d0.sz) (ho : f.offset + d0.sz = off1) (o : Opens P f.type d0 wf0) (os : OpensF P fs off1 d1 wf1) :
    OpensF P (f :: fs) f.offset (Kd.pair d0 d1) (fun y => wf0 y.1 ∧ wf1 y.2) := by
  intro H enc W base spare held n cs hl h
  have hsz : (Kd.pair d0 d1).sz = d0.sz + d1.sz := rfl
  obtain ⟨x, hx⟩ := h 0 f rfl
  obtain ⟨y0, hK0, hw0⟩ := o H enc W base spare held n _ x hx
  obtain ⟨y1, hK1, hw1⟩ := os H enc W base spare held n cs (by omega) (fun i g hg => h (i + 1) g hg)
  refine ⟨(y0, y1), ⟨_, _, ?_, hK0, hK1⟩, hw0, hw1⟩
  rw [hc, ← ho, ← List.drop_drop, List.take_append_drop]
theorem opens_struct {α β : Type} {P : Program} {T : TypeId} {fs : Array Field} {d : Kd α} {wf : α → Prop} (g : α → β) (f : β → α) (hg : ∀ y, f (g y) = y) (hu : P.underlying T = some (.struct fs)) (hc : P.cellsOf T = d.sz) (os : OpensF P fs.toList 0 d wf) :
    Opens P T (Kd.iso d f) (fun y => wf (f y)) := by
  intro H enc W base spare held fuel cs x h
  obtain ⟨xs, n, _, _, hl, hxl, hf⟩ := DataW.trod_struct hu h
  obtain ⟨y, hK, hw⟩ := os H enc W base spare held n cs (by omega) (fun i fd hi => by
    have hi' : fs[i]? = some fd := by simpa using hi
    have hb := (Array.getElem?_eq_some_iff.1 hi').1
    refine ⟨xs[i], ?_⟩
    rw [hf i fd hi', List.getElem?_eq_getElem (by omega)])
  rw [List.drop_zero] at hK
  exact ⟨g y, by show d.K W (f (g y)) cs; rw [hg]; exact hK, by show wf (f (g y)); rw [hg]; exact hw⟩
end Go.Proofs.YtcpmkcidehhbiaaDoor.Opens
