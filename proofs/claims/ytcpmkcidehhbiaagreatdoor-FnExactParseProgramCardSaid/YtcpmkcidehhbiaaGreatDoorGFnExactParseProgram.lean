/- What the walks need of the library's package-level variables; it is kept by whatever turns no elder block. -/
import Derived.Test.YtcpmkcidehhbiaaGreatDoorProg
import Derived.Lib.LaidTab
import Derived.Lib.ItoaNum
import Derived.Lib.Space
import Derived.Below
import Derived.Lib.AtoiErrMem
import Derived.WalkSmall
import Derived.WalkKit
namespace Go.Proofs.YtcpmkcidehhbiaaGreatDoor
open Go.RowKit
structure GL (w : World) : Prop where
  pow : Lib.TabIs Tryz.prog w "internal/strconv.uint64pow10" .u64 Lib.pow10Tab
  syn : ∃ tp p, w.var? Tryz.prog "strconv.ErrSyntax" = some #[.iface tp p]
  ran : ∃ tp p, w.var? Tryz.prog "strconv.ErrRange" = some #[.iface tp p]
theorem GL.gen {w w' : World} {n : String} {cs : Array Value} {v : Value} (hb : Below w.heap.size w w') (g : Nat) (hg : Tryz.prog.globalNamed n = some g) (h : w.var? Tryz.prog n = some cs) (h0 : cs[0]? = some v) : w'.var? Tryz.prog n = some cs := by
  have hc : w.cell? ⟨g, 0, none⟩ = some v := (World.var?_cell hg h 0).trans h0
  exact var?_below hb hg (Lib.lt_of_cell hc) h
theorem GL.at_pow : ∃ g, Tryz.prog.globalNamed "internal/strconv.uint64pow10" = some g := ⟨5, by kernel_rfl⟩
theorem GL.at_syn : ∃ g, Tryz.prog.globalNamed "strconv.ErrSyntax" = some g := ⟨0, by kernel_rfl⟩
theorem GL.at_ran : ∃ g, Tryz.prog.globalNamed "strconv.ErrRange" = some g := ⟨1, by kernel_rfl⟩
theorem GL.below {w w' : World} (h : GL w) (hb : Below w.heap.size w w') : GL w' where
  pow := by
    obtain ⟨g, hg⟩ := GL.at_pow
    obtain ⟨v, hv⟩ : ∃ v, ((Lib.pow10Tab.map fun z => Value.int .u64 z).toArray)[0]? = some v := ⟨_, Array.getElem?_eq_getElem (by simp [Lib.pow10Tab])⟩
    exact GL.gen hb g hg h.pow hv
  syn := by
    obtain ⟨tp, p, e⟩ := h.syn
    obtain ⟨g, hg⟩ := GL.at_syn
    exact ⟨tp, p, GL.gen hb g hg e rfl⟩
  ran := by
    obtain ⟨tp, p, e⟩ := h.ran
    obtain ⟨g, hg⟩ := GL.at_ran
    exact ⟨tp, p, GL.gen hb g hg e rfl⟩
end Go.Proofs.YtcpmkcidehhbiaaGreatDoor
