/- Walks of the functions that a statement reaches, written by a program (the printing program, mended): no condition. -/
import Derived.Test.YtlhcofkandeepaaRows
import Derived.Test.YtlhcofkandeepaaPFnExactMustLogx16
import Derived.Test.YtlhcofkandeepaaPureFnExactMustLog
import Derived.Test.YtlhcofkandeepaaVExactMustLogOpens
import Derived.WalkKit
import Derived.ProofKit
import Derived.OpenShut
import Derived.ShutString
import Derived.ChangeOld
import Derived.Below
import Derived.SizedLaws
namespace Go.Proofs.Ytlhcofkandeepaa.fnExactMustLog
open Go.ChangeShapes Go.WideShapes Go.ChangeAt Go.RowKit
open Go.Proofs.YtlhcofkandeepaaW.PrintWords
open Go.ChangeMaps (open_string shut_string)
set_option linter.unusedVariables false
theorem own : ownKnob Try.prog.godebug = none := by kernel_rfl
theorem laidOut : laidOutB Try.prog = true := by kernel_rfl
theorem opens41 : Opens.Opens Try.prog 41 PFnExactMustLog.k41 PFnExactMustLog.wf41 :=
  Opens.opens_struct (fun y => (⟨y.1, y.2.1, y.2.2⟩ : PFnExactMustLog.S41)) (fun x : PFnExactMustLog.S41 => (x.f0, x.f1, x.f2)) (fun _ => rfl) Try.underlying41 (by kernel_rfl) (Opens.opensF_cons (by kernel_rfl) (by kernel_rfl) (Opens.opens_int Try.underlying3) (Opens.opensF_cons (by kernel_rfl) (by kernel_rfl) (Opens.opens_int Try.underlying3) (Opens.opensF_one (by kernel_rfl) (Opens.opens_int Try.underlying3))))
theorem opens73 : Opens.Opens Try.prog 73 PFnExactMustLog.k73 PFnExactMustLog.wf73 :=
  Opens.opens_struct (fun y => (⟨y.1, y.2.1, y.2.2.1, y.2.2.2⟩ : PFnExactMustLog.S73)) (fun x : PFnExactMustLog.S73 => (x.f0, x.f1, x.f2, x.f3)) (fun _ => rfl) Try.underlying73 (by kernel_rfl) (Opens.opensF_cons (by kernel_rfl) (by kernel_rfl) (Opens.opens_int Try.underlying3) (Opens.opensF_cons (by kernel_rfl) (by kernel_rfl) (Opens.opens_int Try.underlying3) (Opens.opensF_cons (by kernel_rfl) (by kernel_rfl) (Opens.opens_int Try.underlying3) (Opens.opensF_one (by kernel_rfl) opens41))))
theorem opens43 : Opens.Opens Try.prog 43 PFnExactMustLog.k43 PFnExactMustLog.wf43 :=
  Opens.opens_struct (fun y => (⟨y.1, y.2⟩ : PFnExactMustLog.S43)) (fun x : PFnExactMustLog.S43 => (x.f0, x.f1)) (fun _ => rfl) Try.underlying43 (by kernel_rfl) (Opens.opensF_cons (by kernel_rfl) (by kernel_rfl) (Opens.opens_slice Try.underlying22 (by kernel_rfl) opens73) (Opens.opensF_one (by kernel_rfl) opens41))
set_option maxRecDepth 100000 in
theorem lifted (os : Os) (started : os.Started) (H : Type) (enc : TypeId × Value → H) :
    ReturnsInHanded {} Try.checked os 7 .any (Rows.fnExactMustLogSpec.pre6 enc Try.prog Try.f7 Rows.fnExactMustLogRow.domain false) (Rows.fnExactMustLogSpec.post enc Try.prog Try.f7 false true false false) := by
  refine returnsInHanded_of_change_sized (C := Try.checked) own started (by kernel_rfl) Try.func7
    (ChangeSpec.witness6 (enc := enc) (C := Try.checked) false ⟨#[], #[.agg #[.slice none 0 0, .int .i64 0, .int .i64 0, .int .i64 0]], []⟩ 8 (by kernel_rfl) (by kernel_rfl) (by kernel_rfl) (by kernel_rfl)) ?_
  intro W base args ds gs before hval0 hW hcnd hsz0 _
  have hval : ∀ (j : Nat) t v, Try.f7.params[j]? = some t → args[j]? = some v → Value.okWide Try.prog W .any base t v := hval0
  have hW' := hW
  obtain ⟨p, q, hA0, hV, rfl, hfz, hnd⟩ := hW
  have hA : DataW.TrodAll enc Try.prog W 0 (fun _ => true) true Try.f7.params.toList args.toList ds p := hA0
  rw [Try.params7] at hA hval
  obtain ⟨v0, vs0, d0, ds0, p0, q0, hargs, rfl, rfl, h0, r0⟩ := trodAll_cons hA
  obtain ⟨rfl, rfl, rfl⟩ := trodAll_nil r0
  obtain rfl : args = #[v0] := by cases args; simp_all
  obtain ⟨rfl, rfl⟩ := trodVars_none hV
  have k0 := h0
  have lt0 : ∀ x ∈ p0, x.block < W.heap.size := by obtain ⟨m, hm⟩ := k0; exact DataW.trod_lt m _ _ _ hm
  obtain ⟨cs0, rfl, _⟩ := okWide_struct Try.underlying43 (hval 0 43 v0 rfl rfl)
  obtain ⟨y0, hK0, hw0⟩ : ∃ y, PFnExactMustLog.k43.K W y cs0.toList ∧ PFnExactMustLog.wf43 y := by
    obtain ⟨fuel, hf⟩ := h0
    exact opens43 _ _ _ _ _ _ fuel _ _ (by simpa [Value.cells] using hf)
  obtain ⟨A0_0, c0_0, he0, lc0_0, hr0_0⟩ := PFnExactMustLog.k43_open hK0
  obtain rfl : cs0 = #[.slice A0_0 y0.f0.length c0_0, .int .i64 y0.f1.f0, .int .i64 y0.f1.f1, .int .i64 y0.f1.f2] := Array.toList_inj.1 he0
  clear hA0 hval0 hsz0
  refine (PFnExactMustLog.laws_FnExactMustLog.walk Pure.FnExactMustLog A0_0 c0_0 y0.f0 y0.f1.f0 y0.f1.f1 y0.f1.f2 W hr0_0 lc0_0 hw0.1.1 hw0.1.2 hw0.2.1 hw0.2.2.1 hw0.2.2.2).mono fun e W' ⟨he, bel⟩ => ?_
  subst he
  exact ⟨_, rfl, _, _, _, [], _, [], hW', trodAll_mk1 (shut_bool Try.underlying4 _), (trodAll_cons_mk (Below.trod laidOut (by kernel_rfl) (of_decide_eq_true (by kernel_rfl)) k0 bel lt0) trodAll_mk0), rfl, bel.frame _, fun h => by cases h⟩
theorem over : Rows.fnExactMustLogRow.holds Try.pinned (OpenSpec.ofChange Rows.fnExactMustLogSpec) :=
  OpenClaim.holds_of_wide 7 Try.f7 rfl rfl rfl rfl rfl rfl rfl ⟨rfl, rfl, rfl, rfl, rfl⟩ rfl rfl rfl rfl rfl (by kernel_rfl) Try.func7 (by kernel_rfl)
    (of_decide_eq_true (by kernel_rfl)) (by unfold Func.isWrapper; first | (rw [if_pos (by decide +kernel)]; kernel_rfl) | (rw [if_neg (by decide +kernel)]; exact ⟨rfl, rfl⟩))
    (fun os started H enc _ => lifted os started H enc)
theorem proved : Rows.FnExactMustLogSaid := over
#print axioms proved
end Go.Proofs.Ytlhcofkandeepaa.fnExactMustLog
namespace Go.Proofs.Ytlhcofkandeepaa
/-- The row, under a short name, for the claim. -/
theorem fnExactMustLog_holds : Rows.FnExactMustLogSaid := fnExactMustLog.proved
end Go.Proofs.Ytlhcofkandeepaa
