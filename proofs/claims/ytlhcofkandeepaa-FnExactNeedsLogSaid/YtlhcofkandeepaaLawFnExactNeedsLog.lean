/- Walks of the functions that a statement reaches, written by a program (the printing program, mended): no condition. -/
import Derived.Test.YtlhcofkandeepaaRows
import Derived.Test.YtlhcofkandeepaaPFnExactNeedsLogx15
import Derived.Test.YtlhcofkandeepaaPureFnExactNeedsLog
import Derived.Test.YtlhcofkandeepaaVExactNeedsLogOpens
import Derived.WalkKit
import Derived.ProofKit
import Derived.OpenShut
import Derived.ShutString
import Derived.ChangeOld
import Derived.Below
import Derived.SizedLaws
namespace Go.Proofs.Ytlhcofkandeepaa.fnExactNeedsLog
open Go.ChangeShapes Go.WideShapes Go.ChangeAt Go.RowKit
open Go.Proofs.YtlhcofkandeepaaW.PrintWords
open Go.ChangeMaps (open_string shut_string)
set_option linter.unusedVariables false
theorem own : ownKnob Try.prog.godebug = none := by kernel_rfl
theorem laidOut : laidOutB Try.prog = true := by kernel_rfl
theorem opens41 : Opens.Opens Try.prog 41 PFnExactNeedsLog.k41 PFnExactNeedsLog.wf41 :=
  Opens.opens_struct (fun y => (⟨y.1, y.2.1, y.2.2⟩ : PFnExactNeedsLog.S41)) (fun x : PFnExactNeedsLog.S41 => (x.f0, x.f1, x.f2)) (fun _ => rfl) Try.underlying41 (by kernel_rfl) (Opens.opensF_cons (by kernel_rfl) (by kernel_rfl) (Opens.opens_int Try.underlying3) (Opens.opensF_cons (by kernel_rfl) (by kernel_rfl) (Opens.opens_int Try.underlying3) (Opens.opensF_one (by kernel_rfl) (Opens.opens_int Try.underlying3))))
theorem opens73 : Opens.Opens Try.prog 73 PFnExactNeedsLog.k73 PFnExactNeedsLog.wf73 :=
  Opens.opens_struct (fun y => (⟨y.1, y.2.1, y.2.2.1, y.2.2.2⟩ : PFnExactNeedsLog.S73)) (fun x : PFnExactNeedsLog.S73 => (x.f0, x.f1, x.f2, x.f3)) (fun _ => rfl) Try.underlying73 (by kernel_rfl) (Opens.opensF_cons (by kernel_rfl) (by kernel_rfl) (Opens.opens_int Try.underlying3) (Opens.opensF_cons (by kernel_rfl) (by kernel_rfl) (Opens.opens_int Try.underlying3) (Opens.opensF_cons (by kernel_rfl) (by kernel_rfl) (Opens.opens_int Try.underlying3) (Opens.opensF_one (by kernel_rfl) opens41))))
theorem opens43 : Opens.Opens Try.prog 43 PFnExactNeedsLog.k43 PFnExactNeedsLog.wf43 :=
  Opens.opens_struct (fun y => (⟨y.1, y.2⟩ : PFnExactNeedsLog.S43)) (fun x : PFnExactNeedsLog.S43 => (x.f0, x.f1)) (fun _ => rfl) Try.underlying43 (by kernel_rfl) (Opens.opensF_cons (by kernel_rfl) (by kernel_rfl) (Opens.opens_slice Try.underlying22 (by kernel_rfl) opens73) (Opens.opensF_one (by kernel_rfl) opens41))
set_option maxRecDepth 100000 in
theorem lifted (os : Os) (started : os.Started) (H : Type) (enc : TypeId × Value → H) :
    ReturnsInHanded {} Try.checked os 8 .any (Rows.fnExactNeedsLogSpec.pre6 enc Try.prog Try.f8 Rows.fnExactNeedsLogRow.domain false) (Rows.fnExactNeedsLogSpec.post enc Try.prog Try.f8 false true false false) := by
  refine returnsInHanded_of_change_sized (C := Try.checked) own started (by kernel_rfl) Try.func8
    (ChangeSpec.witness6 (enc := enc) (C := Try.checked) false ⟨#[], #[.agg #[.slice none 0 0, .int .i64 0, .int .i64 0, .int .i64 0], .int .i64 0], []⟩ 8 (by kernel_rfl) (by kernel_rfl) (by kernel_rfl) (by kernel_rfl)) ?_
  intro W base args ds gs before hval0 hW hcnd hsz0 _
  have hval : ∀ (j : Nat) t v, Try.f8.params[j]? = some t → args[j]? = some v → Value.okWide Try.prog W .any base t v := hval0
  have hW' := hW
  obtain ⟨p, q, hA0, hV, rfl, hfz, hnd⟩ := hW
  have hA : DataW.TrodAll enc Try.prog W 0 (fun _ => true) true Try.f8.params.toList args.toList ds p := hA0
  rw [Try.params8] at hA hval
  obtain ⟨v0, vs0, d0, ds0, p0, q0, hargs, rfl, rfl, h0, r0⟩ := trodAll_cons hA
  obtain ⟨v1, vs1, d1, ds1, p1, q1, rfl, rfl, rfl, h1, r1⟩ := trodAll_cons r0
  obtain ⟨rfl, rfl, rfl⟩ := trodAll_nil r1
  obtain rfl : args = #[v0, v1] := by cases args; simp_all
  obtain ⟨rfl, rfl⟩ := trodVars_none hV
  have k0 := h0
  have lt0 : ∀ x ∈ p0, x.block < W.heap.size := by obtain ⟨m, hm⟩ := k0; exact DataW.trod_lt m _ _ _ hm
  obtain ⟨cs0, rfl, _⟩ := okWide_struct Try.underlying43 (hval 0 43 v0 rfl rfl)
  obtain ⟨y0, hK0, hw0⟩ : ∃ y, PFnExactNeedsLog.k43.K W y cs0.toList ∧ PFnExactNeedsLog.wf43 y := by
    obtain ⟨fuel, hf⟩ := h0
    exact opens43 _ _ _ _ _ _ fuel _ _ (by simpa [Value.cells] using hf)
  obtain ⟨A0_0, c0_0, he0, lc0_0, hr0_0⟩ := PFnExactNeedsLog.k43_open hK0
  obtain rfl : cs0 = #[.slice A0_0 y0.f0.length c0_0, .int .i64 y0.f1.f0, .int .i64 y0.f1.f1, .int .i64 y0.f1.f2] := Array.toList_inj.1 he0
  obtain ⟨a1, rfl, rfl, rfl, w1⟩ := open_int Try.underlying3 (hval 1 3 v1 rfl rfl) h1
  clear hA0 hval0 hsz0
  refine (PFnExactNeedsLog.laws_FnExactNeedsLog.walk Pure.FnExactNeedsLog A0_0 c0_0 y0.f0 y0.f1.f0 y0.f1.f1 y0.f1.f2 a1 W hr0_0 lc0_0 hw0.1.1 hw0.1.2 hw0.2.1 hw0.2.2.1 hw0.2.2.2 w1).mono fun e W' ⟨he, bel⟩ => ?_
  subst he
  exact ⟨_, rfl, _, _, _, [], _, [], hW', trodAll_mk1 (shut_bool Try.underlying4 _), (trodAll_cons_mk (Below.trod laidOut (by kernel_rfl) (of_decide_eq_true (by kernel_rfl)) k0 bel lt0) (trodAll_cons_mk (shut_int Try.underlying3 w1) trodAll_mk0)), rfl, bel.frame _, fun h => by cases h⟩
theorem over : Rows.fnExactNeedsLogRow.holds Try.pinned (OpenSpec.ofChange Rows.fnExactNeedsLogSpec) :=
  OpenClaim.holds_of_wide 8 Try.f8 rfl rfl rfl rfl rfl rfl rfl ⟨rfl, rfl, rfl, rfl, rfl⟩ rfl rfl rfl rfl rfl (by kernel_rfl) Try.func8 (by kernel_rfl)
    (of_decide_eq_true (by kernel_rfl)) (by unfold Func.isWrapper; first | (rw [if_pos (by decide +kernel)]; kernel_rfl) | (rw [if_neg (by decide +kernel)]; exact ⟨rfl, rfl⟩))
    (fun os started H enc _ => lifted os started H enc)
theorem proved : Rows.FnExactNeedsLogSaid := over
#print axioms proved
end Go.Proofs.Ytlhcofkandeepaa.fnExactNeedsLog
namespace Go.Proofs.Ytlhcofkandeepaa
/-- The row, under a short name, for the claim. -/
theorem fnExactNeedsLog_holds : Rows.FnExactNeedsLogSaid := fnExactNeedsLog.proved
end Go.Proofs.Ytlhcofkandeepaa
