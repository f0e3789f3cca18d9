/- Walks of the functions that a statement reaches, written by a program (the printing program, mended): no condition. -/
import Derived.Test.YtakejkdkchlanaaRows
import Derived.Test.YtakejkdkchlanaaPFnExactApplyWritesx4
import Derived.Test.YtakejkdkchlanaaPureFnExactApplyWrites
import Derived.Test.YtakejkdkchlanaaOpens
import Derived.WalkKit
import Derived.ProofKit
import Derived.OpenShut
import Derived.ShutString
import Derived.ChangeOld
import Derived.Below
import Derived.SizedLaws
namespace Go.Proofs.Ytakejkdkchlanaa.fnExactApplyWrites
open Go.ChangeShapes Go.WideShapes Go.ChangeAt Go.RowKit
open Go.Proofs.YtakejkdkchlanaaW.PrintWords
open Go.ChangeMaps (open_string shut_string)
set_option linter.unusedVariables false
theorem own : ownKnob Try.prog.godebug = none := by kernel_rfl
theorem laidOut : laidOutB Try.prog = true := by kernel_rfl
theorem opens30 : Opens.Opens Try.prog 30 PFnExactApplyWrites.k30 PFnExactApplyWrites.wf30 :=
  Opens.opens_struct (fun y => (⟨y.1, y.2⟩ : PFnExactApplyWrites.S30)) (fun x : PFnExactApplyWrites.S30 => (x.f0, x.f1)) (fun _ => rfl) Try.underlying30 (by kernel_rfl) (Opens.opensF_cons (by kernel_rfl) (by kernel_rfl) (Opens.opens_int Try.underlying3) (Opens.opensF_one (by kernel_rfl) (Opens.opens_int Try.underlying3)))
set_option maxRecDepth 100000 in
theorem lifted (os : Os) (started : os.Started) (H : Type) (enc : TypeId × Value → H) :
    ReturnsInHanded {} Try.checked os 11 .any (Rows.fnExactApplyWritesSpec.pre6 enc Try.prog Try.f11 Rows.fnExactApplyWritesRow.domain false) (Rows.fnExactApplyWritesSpec.post enc Try.prog Try.f11 false true false false) := by
  refine returnsInHanded_of_change_sized (C := Try.checked) own started (by kernel_rfl) Try.func11
    (ChangeSpec.witness6 (enc := enc) (C := Try.checked) false ⟨#[], #[.slice none 0 0, .slice none 0 0, .int .i64 0], []⟩ 8 (by kernel_rfl) (by kernel_rfl) (by kernel_rfl) (by kernel_rfl)) ?_
  intro W base args ds gs before hval0 hW hcnd hsz0 _
  have hval : ∀ (j : Nat) t v, Try.f11.params[j]? = some t → args[j]? = some v → Value.okWide Try.prog W .any base t v := hval0
  have hW' := hW
  obtain ⟨p, q, hA0, hV, rfl, hfz, hnd⟩ := hW
  have hA : DataW.TrodAll enc Try.prog W 0 (fun _ => true) true Try.f11.params.toList args.toList ds p := hA0
  rw [Try.params11] at hA hval
  obtain ⟨v0, vs0, d0, ds0, p0, q0, hargs, rfl, rfl, h0, r0⟩ := trodAll_cons hA
  obtain ⟨v1, vs1, d1, ds1, p1, q1, rfl, rfl, rfl, h1, r1⟩ := trodAll_cons r0
  obtain ⟨v2, vs2, d2, ds2, p2, q2, rfl, rfl, rfl, h2, r2⟩ := trodAll_cons r1
  obtain ⟨rfl, rfl, rfl⟩ := trodAll_nil r2
  obtain rfl : args = #[v0, v1, v2] := by cases args; simp_all
  obtain ⟨rfl, rfl⟩ := trodVars_none hV
  obtain ⟨a0, len0, cap0, rfl⟩ := okWide_slice Try.underlying22 (hval 0 22 v0 rfl rfl)
  have k0 := h0
  have lt0 : ∀ x ∈ p0, x.block < W.heap.size := by obtain ⟨m, hm⟩ := k0; exact DataW.trod_lt m _ _ _ hm
  obtain ⟨l0, rfl, hc0, hr0, hm0, hw0⟩ := (by obtain ⟨fuel, hf⟩ := h0; exact Opens.slice_reads (fuel := fuel) Try.underlying22 (by kernel_rfl) (Opens.opens_int Try.underlying3) (by simpa [Value.cells] using hf) : ∃ xs, len0 = xs.length ∧ len0 ≤ cap0 ∧ Kd.C (Kd.int .i64) W a0 xs.length xs ∧ xs.length ≤ maxLen ∧ ∀ y ∈ xs, (Lit.int .i64 y).wf = true)
  obtain ⟨a1, len1, cap1, rfl⟩ := okWide_slice Try.underlying37 (hval 1 37 v1 rfl rfl)
  have k1 := h1
  have lt1 : ∀ x ∈ p1, x.block < W.heap.size := by obtain ⟨m, hm⟩ := k1; exact DataW.trod_lt m _ _ _ hm
  obtain ⟨l1, rfl, hc1, hr1, hm1, hw1⟩ := (by obtain ⟨fuel, hf⟩ := h1; exact Opens.slice_reads (fuel := fuel) Try.underlying37 (by kernel_rfl) opens30 (by simpa [Value.cells] using hf) : ∃ xs, len1 = xs.length ∧ len1 ≤ cap1 ∧ Kd.C PFnExactApplyWrites.k30 W a1 xs.length xs ∧ xs.length ≤ maxLen ∧ ∀ y ∈ xs, PFnExactApplyWrites.wf30 y)
  obtain ⟨a2, rfl, rfl, rfl, w2⟩ := open_int Try.underlying3 (hval 2 3 v2 rfl rfl) h2
  clear hA0 hval0 hsz0
  refine (PFnExactApplyWrites.laws_FnExactApplyWrites.walk Pure.FnExactApplyWrites a0 cap0 l0 a1 cap1 l1 a2 W hr0 hc0 hr1 hc1 hm0 hw0 hm1 hw1 w2).mono fun e W' ⟨he, bel⟩ => ?_
  subst he
  exact ⟨_, rfl, _, _, _, [], _, [], hW', trodAll_mk1 (shut_bool Try.underlying4 _), (trodAll_cons_mk (Below.trod laidOut (by kernel_rfl) (of_decide_eq_true (by kernel_rfl)) k0 bel lt0) (trodAll_cons_mk (Below.trod laidOut (by kernel_rfl) (of_decide_eq_true (by kernel_rfl)) k1 bel lt1) (trodAll_cons_mk (shut_int Try.underlying3 w2) trodAll_mk0))), rfl, bel.frame _, fun h => by cases h⟩
theorem over : Rows.fnExactApplyWritesRow.holds Try.pinned (OpenSpec.ofChange Rows.fnExactApplyWritesSpec) :=
  OpenClaim.holds_of_wide 11 Try.f11 rfl rfl rfl rfl rfl rfl rfl ⟨rfl, rfl, rfl, rfl, rfl⟩ rfl rfl rfl rfl rfl (by kernel_rfl) Try.func11 (by kernel_rfl)
    (of_decide_eq_true (by kernel_rfl)) (by unfold Func.isWrapper; first | (rw [if_pos (by decide +kernel)]; kernel_rfl) | (rw [if_neg (by decide +kernel)]; exact ⟨rfl, rfl⟩))
    (fun os started H enc _ => lifted os started H enc)
theorem proved : Rows.FnExactApplyWritesSaid := over
#print axioms proved
end Go.Proofs.Ytakejkdkchlanaa.fnExactApplyWrites
namespace Go.Proofs.Ytakejkdkchlanaa
/-- The row, under a short name, for the claim. -/
theorem fnExactApplyWrites_holds : Rows.FnExactApplyWritesSaid := fnExactApplyWrites.proved
end Go.Proofs.Ytakejkdkchlanaa
