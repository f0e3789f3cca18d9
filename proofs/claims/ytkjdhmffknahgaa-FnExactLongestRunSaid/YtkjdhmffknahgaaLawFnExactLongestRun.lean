/- Walks of the functions that a statement reaches, written by a program (the printing program, mended): no condition. -/
import Derived.Test.YtkjdhmffknahgaaRows
import Derived.Test.YtkjdhmffknahgaaPFnExactLongestRunx9
import Derived.Test.YtkjdhmffknahgaaPureFnExactLongestRun
import Derived.Test.YtkjdhmffknahgaaOpens
import Derived.WalkKit
import Derived.ProofKit
import Derived.OpenShut
import Derived.ShutString
import Derived.ChangeOld
import Derived.Below
import Derived.SizedLaws
namespace Go.Proofs.Ytkjdhmffknahgaa.fnExactLongestRun
open Go.ChangeShapes Go.WideShapes Go.ChangeAt Go.RowKit
open Go.Proofs.YtkjdhmffknahgaaW.PrintWords
open Go.ChangeMaps (open_string shut_string)
set_option linter.unusedVariables false
theorem own : ownKnob Try.prog.godebug = none := by kernel_rfl
theorem laidOut : laidOutB Try.prog = true := by kernel_rfl
theorem opens70 : Opens.Opens Try.prog 70 PFnExactLongestRun.k70 PFnExactLongestRun.wf70 :=
  Opens.opens_struct (fun y => (⟨y.1, y.2.1, y.2.2⟩ : PFnExactLongestRun.S70)) (fun x : PFnExactLongestRun.S70 => (x.f0, x.f1, x.f2)) (fun _ => rfl) Try.underlying70 (by kernel_rfl) (Opens.opensF_cons (by kernel_rfl) (by kernel_rfl) (Opens.opens_int Try.underlying3) (Opens.opensF_cons (by kernel_rfl) (by kernel_rfl) (Opens.opens_int Try.underlying3) (Opens.opensF_one (by kernel_rfl) (Opens.opens_int Try.underlying3))))
theorem opens72 : Opens.Opens Try.prog 72 PFnExactLongestRun.k72 PFnExactLongestRun.wf72 :=
  Opens.opens_struct (fun y => (⟨y.1, y.2.1, y.2.2.1, y.2.2.2⟩ : PFnExactLongestRun.S72)) (fun x : PFnExactLongestRun.S72 => (x.f0, x.f1, x.f2, x.f3)) (fun _ => rfl) Try.underlying72 (by kernel_rfl) (Opens.opensF_cons (by kernel_rfl) (by kernel_rfl) (Opens.opens_int Try.underlying3) (Opens.opensF_cons (by kernel_rfl) (by kernel_rfl) (Opens.opens_int Try.underlying3) (Opens.opensF_cons (by kernel_rfl) (by kernel_rfl) (Opens.opens_int Try.underlying3) (Opens.opensF_one (by kernel_rfl) opens70))))
set_option maxRecDepth 100000 in
theorem lifted (os : Os) (started : os.Started) (H : Type) (enc : TypeId × Value → H) :
    ReturnsInHanded {} Try.checked os 7 .any (Rows.fnExactLongestRunSpec.pre6 enc Try.prog Try.f7 Rows.fnExactLongestRunRow.domain false) (Rows.fnExactLongestRunSpec.post enc Try.prog Try.f7 false true false false) := by
  refine returnsInHanded_of_change_sized (C := Try.checked) own started (by kernel_rfl) Try.func7
    (ChangeSpec.witness6 (enc := enc) (C := Try.checked) false ⟨#[], #[.slice none 0 0], []⟩ 8 (by kernel_rfl) (by kernel_rfl) (by kernel_rfl) (by kernel_rfl)) ?_
  intro W base args ds gs before hval0 hW hcnd hsz0 _
  have hval : ∀ (j : Nat) t v, Try.f7.params[j]? = some t → args[j]? = some v → Value.okWide Try.prog W .any base t v := hval0
  have hW' := hW
  obtain ⟨p, q, hA0, hV, rfl, hfz, hnd⟩ := hW
  have hA : DataW.TrodAll enc Try.prog W 0 (fun _ => true) true Try.f7.params.toList args.toList ds p := hA0
  rw [Try.params7] at hA hval
  obtain ⟨v0, vs0, d0, ds0, p0, q0, hargs, rfl, rfl, h0, r0⟩ := trodAll_cons hA
  obtain ⟨rfl, rfl, rfl⟩ := trodAll_nil r0
  obtain rfl : args = #[v0] := by cases args; simp_all
  obtain ⟨rfl, rfl⟩ := trodVars_none hV
  obtain ⟨a0, len0, cap0, rfl⟩ := okWide_slice Try.underlying32 (hval 0 32 v0 rfl rfl)
  have k0 := h0
  have lt0 : ∀ x ∈ p0, x.block < W.heap.size := by obtain ⟨m, hm⟩ := k0; exact DataW.trod_lt m _ _ _ hm
  obtain ⟨l0, rfl, hc0, hr0, hm0, hw0⟩ := (by obtain ⟨fuel, hf⟩ := h0; exact Opens.slice_reads (fuel := fuel) Try.underlying32 (by kernel_rfl) opens72 (by simpa [Value.cells] using hf) : ∃ xs, len0 = xs.length ∧ len0 ≤ cap0 ∧ Kd.C PFnExactLongestRun.k72 W a0 xs.length xs ∧ xs.length ≤ maxLen ∧ ∀ y ∈ xs, PFnExactLongestRun.wf72 y)
  clear hA0 hval0 hsz0
  refine (PFnExactLongestRun.laws_FnExactLongestRun.walk Pure.FnExactLongestRun a0 cap0 l0 W hr0 hc0 hm0 hw0).mono fun e W' ⟨he, bel⟩ => ?_
  subst he
  exact ⟨_, rfl, _, _, _, [], _, [], hW', trodAll_mk1 (shut_bool Try.underlying4 _), (trodAll_cons_mk (Below.trod laidOut (by kernel_rfl) (of_decide_eq_true (by kernel_rfl)) k0 bel lt0) trodAll_mk0), rfl, bel.frame _, fun h => by cases h⟩
theorem over : Rows.fnExactLongestRunRow.holds Try.pinned (OpenSpec.ofChange Rows.fnExactLongestRunSpec) :=
  OpenClaim.holds_of_wide 7 Try.f7 rfl rfl rfl rfl rfl rfl rfl ⟨rfl, rfl, rfl, rfl, rfl⟩ rfl rfl rfl rfl rfl (by kernel_rfl) Try.func7 (by kernel_rfl)
    (of_decide_eq_true (by kernel_rfl)) (by unfold Func.isWrapper; first | (rw [if_pos (by decide +kernel)]; kernel_rfl) | (rw [if_neg (by decide +kernel)]; exact ⟨rfl, rfl⟩))
    (fun os started H enc _ => lifted os started H enc)
theorem proved : Rows.FnExactLongestRunSaid := over
#print axioms proved
end Go.Proofs.Ytkjdhmffknahgaa.fnExactLongestRun
namespace Go.Proofs.Ytkjdhmffknahgaa
/-- The row, under a short name, for the claim. -/
theorem fnExactLongestRun_holds : Rows.FnExactLongestRunSaid := fnExactLongestRun.proved
end Go.Proofs.Ytkjdhmffknahgaa
