/- A row of whole numbers of the call's own, behind the library's sort or compaction of it: what it holds, and that all else is as it was; no condition. -/
import Derived.Test.YtlhcofkandeepaaVLogsWWords
import Derived.Test.YtlhcofkandeepaaVLogsWMore
import Derived.Test.YtlhcofkandeepaaVLogsWKept
import Derived.Lib.OwnBridge
import Derived.Sort.Grow
namespace Go.Proofs.YtlhcofkandeepaaW.PrintWords
open Go.RowKit Go.Sort
theorem below_grow_ (w : World) (os : Array Obj) : Below w.heap.size w (grow w os) :=
  ⟨rfl, rfl, rfl, by simp [grow], fun k hk => by simp only [grow]; rw [Array.getElem?_append_left hk]⟩
theorem own_form_ {w : World} {base : Nat} {e : TypeId} {ok : Nat → Prop} {v : Value} {zs : List Int} (h : Kd.R (Kd.int .i64) e w base ok v zs) (hv : zs ≠ []) :
    ∃ g cap, v = .slice (some ⟨g, 0, none⟩) zs.length cap ∧ g < w.heap.size ∧ ok g ∧ zs.length ≤ cap ∧ w.ownsRow base e 1 (.slice (some ⟨g, 0, none⟩) zs.length cap) zs.length (zs.map (Value.int .i64)) ∧ Holds (Value.int .i64) w g 0 zs.toArray := by
  have ho := Kd.own_of_R h
  have ho' : w.ownsRow base e 1 v zs.length (zs.map (Value.int .i64)) := ho
  have hne : v ≠ .slice none 0 0 := by
    rintro rfl
    rcases ho'.2 with ⟨_, h2⟩ | ⟨g, cap, cur, h2, _⟩
    · exact hv (List.length_eq_zero_iff.1 h2)
    · cases h2
  obtain ⟨g, cap, rfl, _, hlt, hn, _, _, hH⟩ := Lib.holds_of_ownsRow ho' hne
  exact ⟨g, cap, rfl, hlt, h.1 g (by simp [Value.ownBlock]), hn, ho', hH⟩
theorem behind_ {w0 w : World} {e : Nat} {P0 : Nat → Prop} {g n cap k : Nat} (q : Nat) {zs ys : List Int} (os : Array Obj) (hB : Below w0.heap.size w0 w) (hP : P0 g) (_hlt : g < w.heap.size)
    (h : w.ownsRow w0.heap.size e 1 (.slice (some ⟨g, 0, none⟩) n cap) n (zs.map (Value.int .i64))) (hy : ys.length = n) (hk : k ≤ n) :
    Kd.R (Kd.int .i64) e (grow (putRow (Value.int .i64) (Sort.ahead w q) g 0 ys.toArray) os) w0.heap.size (fun k_ => (P0 k_ ∨ w.heap.size ≤ k_)) (.slice (some ⟨g, 0, none⟩) k cap) (ys.take k) ∧
    Below w0.heap.size w0 (grow (putRow (Value.int .i64) (Sort.ahead w q) g 0 ys.toArray) os) ∧ Kept w (grow (putRow (Value.int .i64) (Sort.ahead w q) g 0 ys.toArray) os) (fun k_ => P0 k_) := by
  have hbase : w0.heap.size ≤ g := by
    rcases h.2 with ⟨e0, _⟩ | ⟨g', _, _, e0, hb, _⟩
    · cases e0
    · injection e0 with e1 _ _
      injection e1 with e1
      injection e1 with e1
      subst e1
      exact hb
  have h1 := Lib.ownsRow_putRow (q := q) h hy hk
  have h2 := Lib.below_putRow (enc := Value.int .i64) (q := q) (d := ys.toArray) hB hbase
  have hs : (putRow (Value.int .i64) (Sort.ahead w q) g 0 ys.toArray).heap.size = w.heap.size := by simp [putRow, mapBlock, Sort.ahead]
  have h3 := below_grow_ (putRow (Value.int .i64) (Sort.ahead w q) g 0 ys.toArray) os
  refine ⟨?_, h2.trans (h3.mono (by have := h2.size; omega)), ⟨by have := h3.size; omega, fun i hi hn => ?_⟩⟩
  · refine Kd.R_below (Kd.R_of_own (enc := Value.int .i64) (h1 := fun _ => rfl) ?_ (fun k' hk' => ?_)) h3
    · have : (ys.take k).length = k := by rw [List.length_take]; omega
      rw [this]
      exact h1
    · have : g = k' := by simpa [Value.ownBlock] using hk'
      subst this
      exact .inl hP
  · have hig : g ≠ i := fun e => hn (e ▸ hP)
    rw [h3.block i (by omega)]
    simp [putRow, mapBlock, Sort.ahead, Array.getElem?_modify, hig]
end Go.Proofs.YtlhcofkandeepaaW.PrintWords
