/- Walks of the functions that a statement reaches, written by a program (the printing program, mended): no condition. -/
import Derived.Test.YtakejkdkchlanaaRows
import Derived.Test.YtakejkdkchlanaaPFnExactWriteWordx2
import Derived.Test.YtakejkdkchlanaaPureFnExactWriteWord
import Derived.Test.YtakejkdkchlanaaOpens
import Derived.WalkKit
import Derived.ProofKit
import Derived.OpenShut
import Derived.ShutString
import Derived.ChangeOld
import Derived.Below
import Derived.SizedLaws
namespace Go.Proofs.Ytakejkdkchlanaa.fnExactWriteWord
open Go.ChangeShapes Go.WideShapes Go.ChangeAt Go.RowKit
open Go.Proofs.YtakejkdkchlanaaW.PrintWords
open Go.ChangeMaps (open_string shut_string)
set_option linter.unusedVariables false
theorem own : ownKnob Try.prog.godebug = none := by kernel_rfl
theorem laidOut : laidOutB Try.prog = true := by kernel_rfl
theorem opens30 : Opens.Opens Try.prog 30 PFnExactWriteWord.k30 PFnExactWriteWord.wf30 :=
  Opens.opens_struct (fun y => (⟨y.1, y.2⟩ : PFnExactWriteWord.S30)) (fun x : PFnExactWriteWord.S30 => (x.f0, x.f1)) (fun _ => rfl) Try.underlying30 (by kernel_rfl) (Opens.opensF_cons (by kernel_rfl) (by kernel_rfl) (Opens.opens_int Try.underlying3) (Opens.opensF_one (by kernel_rfl) (Opens.opens_int Try.underlying3)))
set_option maxRecDepth 100000 in
theorem lifted (os : Os) (started : os.Started) (H : Type) (enc : TypeId × Value → H) :
    ReturnsInHanded {} Try.checked os 7 .any (Rows.fnExactWriteWordSpec.pre6 enc Try.prog Try.f7 Rows.fnExactWriteWordRow.domain false) (Rows.fnExactWriteWordSpec.post enc Try.prog Try.f7 false true false false) := by
  refine returnsInHanded_of_change_sized (C := Try.checked) own started (by kernel_rfl) Try.func7
    (ChangeSpec.witness6 (enc := enc) (C := Try.checked) false ⟨#[], #[.slice none 0 0, .agg #[.int .i64 0, .int .i64 0]], []⟩ 8 (by kernel_rfl) (by kernel_rfl) (by kernel_rfl) (by kernel_rfl)) ?_
  intro W base args ds gs before hval0 hW hcnd hsz0 _
  have hval : ∀ (j : Nat) t v, Try.f7.params[j]? = some t → args[j]? = some v → Value.okWide Try.prog W .any base t v := hval0
  have hW' := hW
  obtain ⟨p, q, hA0, hV, rfl, hfz, hnd⟩ := hW
  have hA : DataW.TrodAll enc Try.prog W 0 (fun _ => true) true Try.f7.params.toList args.toList ds p := hA0
  rw [Try.params7] at hA hval
  obtain ⟨v0, vs0, d0, ds0, p0, q0, hargs, rfl, rfl, h0, r0⟩ := trodAll_cons hA
  obtain ⟨v1, vs1, d1, ds1, p1, q1, rfl, rfl, rfl, h1, r1⟩ := trodAll_cons r0
  obtain ⟨rfl, rfl, rfl⟩ := trodAll_nil r1
  obtain rfl : args = #[v0, v1] := by cases args; simp_all
  obtain ⟨rfl, rfl⟩ := trodVars_none hV
  obtain ⟨a0, len0, cap0, rfl⟩ := okWide_slice Try.underlying22 (hval 0 22 v0 rfl rfl)
  have k0 := h0
  have lt0 : ∀ x ∈ p0, x.block < W.heap.size := by obtain ⟨m, hm⟩ := k0; exact DataW.trod_lt m _ _ _ hm
  obtain ⟨l0, rfl, hc0, hr0, hm0, hw0⟩ := (by obtain ⟨fuel, hf⟩ := h0; exact Opens.slice_reads (fuel := fuel) Try.underlying22 (by kernel_rfl) (Opens.opens_int Try.underlying3) (by simpa [Value.cells] using hf) : ∃ xs, len0 = xs.length ∧ len0 ≤ cap0 ∧ Kd.C (Kd.int .i64) W a0 xs.length xs ∧ xs.length ≤ maxLen ∧ ∀ y ∈ xs, (Lit.int .i64 y).wf = true)
  have k1 := h1
  have lt1 : ∀ x ∈ p1, x.block < W.heap.size := by obtain ⟨m, hm⟩ := k1; exact DataW.trod_lt m _ _ _ hm
  obtain ⟨cs1, rfl, _⟩ := okWide_struct Try.underlying30 (hval 1 30 v1 rfl rfl)
  obtain ⟨y1, hK1, hw1⟩ : ∃ y, PFnExactWriteWord.k30.K W y cs1.toList ∧ PFnExactWriteWord.wf30 y := by
    obtain ⟨fuel, hf⟩ := h1
    exact opens30 _ _ _ _ _ _ fuel _ _ (by simpa [Value.cells] using hf)
  obtain he1 := PFnExactWriteWord.k30_open hK1
  obtain rfl : cs1 = #[.int .i64 y1.f0, .int .i64 y1.f1] := Array.toList_inj.1 he1
  clear hA0 hval0 hsz0
  refine (PFnExactWriteWord.laws_FnExactWriteWord.walk Pure.FnExactWriteWord a0 cap0 l0 y1.f0 y1.f1 W hr0 hc0 hm0 hw0 hw1.1 hw1.2).mono fun e W' ⟨he, bel⟩ => ?_
  subst he
  exact ⟨_, rfl, _, _, _, [], _, [], hW', trodAll_mk1 (shut_bool Try.underlying4 _), (trodAll_cons_mk (Below.trod laidOut (by kernel_rfl) (of_decide_eq_true (by kernel_rfl)) k0 bel lt0) (trodAll_cons_mk (Below.trod laidOut (by kernel_rfl) (of_decide_eq_true (by kernel_rfl)) k1 bel lt1) trodAll_mk0)), rfl, bel.frame _, fun h => by cases h⟩
theorem over : Rows.fnExactWriteWordRow.holds Try.pinned (OpenSpec.ofChange Rows.fnExactWriteWordSpec) :=
  OpenClaim.holds_of_wide 7 Try.f7 rfl rfl rfl rfl rfl rfl rfl ⟨rfl, rfl, rfl, rfl, rfl⟩ rfl rfl rfl rfl rfl (by kernel_rfl) Try.func7 (by kernel_rfl)
    (of_decide_eq_true (by kernel_rfl)) (by unfold Func.isWrapper; first | (rw [if_pos (by decide +kernel)]; kernel_rfl) | (rw [if_neg (by decide +kernel)]; exact ⟨rfl, rfl⟩))
    (fun os started H enc _ => lifted os started H enc)
theorem proved : Rows.FnExactWriteWordSaid := over
#print axioms proved
end Go.Proofs.Ytakejkdkchlanaa.fnExactWriteWord
namespace Go.Proofs.Ytakejkdkchlanaa
/-- The row, under a short name, for the claim. -/
theorem fnExactWriteWord_holds : Rows.FnExactWriteWordSaid := fnExactWriteWord.proved
end Go.Proofs.Ytakejkdkchlanaa
