/- Walks of the functions that a statement reaches, written by a program (the printing program, mended): no condition. -/
import Derived.Test.YtkjdhmffknahgaaRows
import Derived.Test.YtkjdhmffknahgaaPFnExactNextTaskx12
import Derived.Test.YtkjdhmffknahgaaPureFnExactNextTask
import Derived.Test.YtkjdhmffknahgaaOpens
import Derived.WalkKit
import Derived.ProofKit
import Derived.OpenShut
import Derived.ShutString
import Derived.ChangeOld
import Derived.Below
import Derived.SizedLaws
namespace Go.Proofs.Ytkjdhmffknahgaa.fnExactNextTask
open Go.ChangeShapes Go.WideShapes Go.ChangeAt Go.RowKit
open Go.Proofs.YtkjdhmffknahgaaW.PrintWords
open Go.ChangeMaps (open_string shut_string)
set_option linter.unusedVariables false
theorem own : ownKnob Try.prog.godebug = none := by kernel_rfl
theorem laidOut : laidOutB Try.prog = true := by kernel_rfl
theorem opens70 : Opens.Opens Try.prog 70 PFnExactNextTask.k70 PFnExactNextTask.wf70 :=
  Opens.opens_struct (fun y => (⟨y.1, y.2.1, y.2.2⟩ : PFnExactNextTask.S70)) (fun x : PFnExactNextTask.S70 => (x.f0, x.f1, x.f2)) (fun _ => rfl) Try.underlying70 (by kernel_rfl) (Opens.opensF_cons (by kernel_rfl) (by kernel_rfl) (Opens.opens_int Try.underlying3) (Opens.opensF_cons (by kernel_rfl) (by kernel_rfl) (Opens.opens_int Try.underlying3) (Opens.opensF_one (by kernel_rfl) (Opens.opens_int Try.underlying3))))
theorem opens72 : Opens.Opens Try.prog 72 PFnExactNextTask.k72 PFnExactNextTask.wf72 :=
  Opens.opens_struct (fun y => (⟨y.1, y.2.1, y.2.2.1, y.2.2.2⟩ : PFnExactNextTask.S72)) (fun x : PFnExactNextTask.S72 => (x.f0, x.f1, x.f2, x.f3)) (fun _ => rfl) Try.underlying72 (by kernel_rfl) (Opens.opensF_cons (by kernel_rfl) (by kernel_rfl) (Opens.opens_int Try.underlying3) (Opens.opensF_cons (by kernel_rfl) (by kernel_rfl) (Opens.opens_int Try.underlying3) (Opens.opensF_cons (by kernel_rfl) (by kernel_rfl) (Opens.opens_int Try.underlying3) (Opens.opensF_one (by kernel_rfl) opens70))))
theorem opens100 : Opens.Opens Try.prog 100 PFnExactNextTask.k100 PFnExactNextTask.wf100 :=
  Opens.opens_struct (fun y => (⟨y.1, y.2⟩ : PFnExactNextTask.S100)) (fun x : PFnExactNextTask.S100 => (x.f0, x.f1)) (fun _ => rfl) Try.underlying100 (by kernel_rfl) (Opens.opensF_cons (by kernel_rfl) (by kernel_rfl) (Opens.opens_slice Try.underlying32 (by kernel_rfl) opens72) (Opens.opensF_one (by kernel_rfl) opens70))
theorem opens41 : Opens.Opens Try.prog 41 PFnExactNextTask.k41 PFnExactNextTask.wf41 :=
  Opens.opens_struct (fun y => (⟨y⟩ : PFnExactNextTask.S41)) (fun x : PFnExactNextTask.S41 => x.f0) (fun _ => rfl) Try.underlying41 (by kernel_rfl) (Opens.opensF_one (by kernel_rfl) (Opens.opens_slice Try.underlying39 (by kernel_rfl) opens100))
set_option maxRecDepth 100000 in
theorem lifted (os : Os) (started : os.Started) (H : Type) (enc : TypeId × Value → H) :
    ReturnsInHanded {} Try.checked os 10 .any (Rows.fnExactNextTaskSpec.pre6 enc Try.prog Try.f10 Rows.fnExactNextTaskRow.domain false) (Rows.fnExactNextTaskSpec.post enc Try.prog Try.f10 false true false false) := by
  refine returnsInHanded_of_change_sized (C := Try.checked) own started (by kernel_rfl) Try.func10
    (ChangeSpec.witness6 (enc := enc) (C := Try.checked) false ⟨#[], #[.agg #[.slice none 0 0], .slice none 0 0, .int .i64 0], []⟩ 8 (by kernel_rfl) (by kernel_rfl) (by kernel_rfl) (by kernel_rfl)) ?_
  intro W base args ds gs before hval0 hW hcnd hsz0 _
  have hval : ∀ (j : Nat) t v, Try.f10.params[j]? = some t → args[j]? = some v → Value.okWide Try.prog W .any base t v := hval0
  have hW' := hW
  obtain ⟨p, q, hA0, hV, rfl, hfz, hnd⟩ := hW
  have hA : DataW.TrodAll enc Try.prog W 0 (fun _ => true) true Try.f10.params.toList args.toList ds p := hA0
  rw [Try.params10] at hA hval
  obtain ⟨v0, vs0, d0, ds0, p0, q0, hargs, rfl, rfl, h0, r0⟩ := trodAll_cons hA
  obtain ⟨v1, vs1, d1, ds1, p1, q1, rfl, rfl, rfl, h1, r1⟩ := trodAll_cons r0
  obtain ⟨v2, vs2, d2, ds2, p2, q2, rfl, rfl, rfl, h2, r2⟩ := trodAll_cons r1
  obtain ⟨rfl, rfl, rfl⟩ := trodAll_nil r2
  obtain rfl : args = #[v0, v1, v2] := by cases args; simp_all
  obtain ⟨rfl, rfl⟩ := trodVars_none hV
  have k0 := h0
  have lt0 : ∀ x ∈ p0, x.block < W.heap.size := by obtain ⟨m, hm⟩ := k0; exact DataW.trod_lt m _ _ _ hm
  obtain ⟨cs0, rfl, _⟩ := okWide_struct Try.underlying41 (hval 0 41 v0 rfl rfl)
  obtain ⟨y0, hK0, hw0⟩ : ∃ y, PFnExactNextTask.k41.K W y cs0.toList ∧ PFnExactNextTask.wf41 y := by
    obtain ⟨fuel, hf⟩ := h0
    exact opens41 _ _ _ _ _ _ fuel _ _ (by simpa [Value.cells] using hf)
  obtain ⟨A0_0, c0_0, he0, lc0_0, hr0_0⟩ := PFnExactNextTask.k41_open hK0
  obtain rfl : cs0 = #[.slice A0_0 y0.f0.length c0_0] := Array.toList_inj.1 he0
  obtain ⟨a1, len1, cap1, rfl⟩ := okWide_slice Try.underlying50 (hval 1 50 v1 rfl rfl)
  have k1 := h1
  have lt1 : ∀ x ∈ p1, x.block < W.heap.size := by obtain ⟨m, hm⟩ := k1; exact DataW.trod_lt m _ _ _ hm
  obtain ⟨l1, rfl, hc1, hr1, hm1, hw1⟩ := (by obtain ⟨fuel, hf⟩ := h1; exact Opens.slice_reads (fuel := fuel) Try.underlying50 (by kernel_rfl) (Opens.opens_int Try.underlying3) (by simpa [Value.cells] using hf) : ∃ xs, len1 = xs.length ∧ len1 ≤ cap1 ∧ Kd.C (Kd.int .i64) W a1 xs.length xs ∧ xs.length ≤ maxLen ∧ ∀ y ∈ xs, (Lit.int .i64 y).wf = true)
  obtain ⟨a2, rfl, rfl, rfl, w2⟩ := open_int Try.underlying3 (hval 2 3 v2 rfl rfl) h2
  clear hA0 hval0 hsz0
  refine (PFnExactNextTask.laws_FnExactNextTask.walk Pure.FnExactNextTask A0_0 c0_0 y0.f0 a1 cap1 l1 a2 W hr0_0 lc0_0 hr1 hc1 hw0.1 hw0.2 hm1 hw1 w2).mono fun e W' ⟨he, bel⟩ => ?_
  subst he
  exact ⟨_, rfl, _, _, _, [], _, [], hW', trodAll_mk1 (shut_bool Try.underlying4 _), (trodAll_cons_mk (Below.trod laidOut (by kernel_rfl) (of_decide_eq_true (by kernel_rfl)) k0 bel lt0) (trodAll_cons_mk (Below.trod laidOut (by kernel_rfl) (of_decide_eq_true (by kernel_rfl)) k1 bel lt1) (trodAll_cons_mk (shut_int Try.underlying3 w2) trodAll_mk0))), rfl, bel.frame _, fun h => by cases h⟩
theorem over : Rows.fnExactNextTaskRow.holds Try.pinned (OpenSpec.ofChange Rows.fnExactNextTaskSpec) :=
  OpenClaim.holds_of_wide 10 Try.f10 rfl rfl rfl rfl rfl rfl rfl ⟨rfl, rfl, rfl, rfl, rfl⟩ rfl rfl rfl rfl rfl (by kernel_rfl) Try.func10 (by kernel_rfl)
    (of_decide_eq_true (by kernel_rfl)) (by unfold Func.isWrapper; first | (rw [if_pos (by decide +kernel)]; kernel_rfl) | (rw [if_neg (by decide +kernel)]; exact ⟨rfl, rfl⟩))
    (fun os started H enc _ => lifted os started H enc)
theorem proved : Rows.FnExactNextTaskSaid := over
#print axioms proved
end Go.Proofs.Ytkjdhmffknahgaa.fnExactNextTask
namespace Go.Proofs.Ytkjdhmffknahgaa
/-- The row, under a short name, for the claim. -/
theorem fnExactNextTask_holds : Rows.FnExactNextTaskSaid := fnExactNextTask.proved
end Go.Proofs.Ytkjdhmffknahgaa
