/- Walks of the functions that a statement reaches, written by a program (the printing program, mended): no condition. -/
import Derived.Test.YtlhcofkandeepaaRows
import Derived.Test.YtlhcofkandeepaaPFnExactLogRoomx17
import Derived.Test.YtlhcofkandeepaaPureFnExactLogRoom
import Derived.Test.YtlhcofkandeepaaVExactLogRoomOpens
import Derived.WalkKit
import Derived.ProofKit
import Derived.OpenShut
import Derived.ShutString
import Derived.ChangeOld
import Derived.Below
import Derived.SizedLaws
namespace Go.Proofs.Ytlhcofkandeepaa.fnExactLogRoom
open Go.ChangeShapes Go.WideShapes Go.ChangeAt Go.RowKit
open Go.Proofs.YtlhcofkandeepaaW.PrintWords
open Go.ChangeMaps (open_string shut_string)
set_option linter.unusedVariables false
theorem own : ownKnob Try.prog.godebug = none := by kernel_rfl
theorem laidOut : laidOutB Try.prog = true := by kernel_rfl
theorem opens41 : Opens.Opens Try.prog 41 PFnExactLogRoom.k41 PFnExactLogRoom.wf41 :=
  Opens.opens_struct (fun y => (⟨y.1, y.2.1, y.2.2⟩ : PFnExactLogRoom.S41)) (fun x : PFnExactLogRoom.S41 => (x.f0, x.f1, x.f2)) (fun _ => rfl) Try.underlying41 (by kernel_rfl) (Opens.opensF_cons (by kernel_rfl) (by kernel_rfl) (Opens.opens_int Try.underlying3) (Opens.opensF_cons (by kernel_rfl) (by kernel_rfl) (Opens.opens_int Try.underlying3) (Opens.opensF_one (by kernel_rfl) (Opens.opens_int Try.underlying3))))
theorem opens73 : Opens.Opens Try.prog 73 PFnExactLogRoom.k73 PFnExactLogRoom.wf73 :=
  Opens.opens_struct (fun y => (⟨y.1, y.2.1, y.2.2.1, y.2.2.2⟩ : PFnExactLogRoom.S73)) (fun x : PFnExactLogRoom.S73 => (x.f0, x.f1, x.f2, x.f3)) (fun _ => rfl) Try.underlying73 (by kernel_rfl) (Opens.opensF_cons (by kernel_rfl) (by kernel_rfl) (Opens.opens_int Try.underlying3) (Opens.opensF_cons (by kernel_rfl) (by kernel_rfl) (Opens.opens_int Try.underlying3) (Opens.opensF_cons (by kernel_rfl) (by kernel_rfl) (Opens.opens_int Try.underlying3) (Opens.opensF_one (by kernel_rfl) opens41))))
theorem opens43 : Opens.Opens Try.prog 43 PFnExactLogRoom.k43 PFnExactLogRoom.wf43 :=
  Opens.opens_struct (fun y => (⟨y.1, y.2⟩ : PFnExactLogRoom.S43)) (fun x : PFnExactLogRoom.S43 => (x.f0, x.f1)) (fun _ => rfl) Try.underlying43 (by kernel_rfl) (Opens.opensF_cons (by kernel_rfl) (by kernel_rfl) (Opens.opens_slice Try.underlying22 (by kernel_rfl) opens73) (Opens.opensF_one (by kernel_rfl) opens41))
theorem opens57 : Opens.Opens Try.prog 57 PFnExactLogRoom.k57 PFnExactLogRoom.wf57 :=
  Opens.opens_struct (fun y => (⟨y⟩ : PFnExactLogRoom.S57)) (fun x : PFnExactLogRoom.S57 => x.f0) (fun _ => rfl) Try.underlying57 (by kernel_rfl) (Opens.opensF_one (by kernel_rfl) (Opens.opens_slice Try.underlying55 (by kernel_rfl) opens43))
set_option maxRecDepth 100000 in
theorem lifted (os : Os) (started : os.Started) (H : Type) (enc : TypeId × Value → H) :
    ReturnsInHanded {} Try.checked os 10 .any (Rows.fnExactLogRoomSpec.pre6 enc Try.prog Try.f10 Rows.fnExactLogRoomRow.domain false) (Rows.fnExactLogRoomSpec.post enc Try.prog Try.f10 false true false false) := by
  refine returnsInHanded_of_change_sized (C := Try.checked) own started (by kernel_rfl) Try.func10
    (ChangeSpec.witness6 (enc := enc) (C := Try.checked) false ⟨#[], #[.agg #[.slice none 0 0]], []⟩ 8 (by kernel_rfl) (by kernel_rfl) (by kernel_rfl) (by kernel_rfl)) ?_
  intro W base args ds gs before hval0 hW hcnd hsz0 _
  have hval : ∀ (j : Nat) t v, Try.f10.params[j]? = some t → args[j]? = some v → Value.okWide Try.prog W .any base t v := hval0
  have hW' := hW
  obtain ⟨p, q, hA0, hV, rfl, hfz, hnd⟩ := hW
  have hA : DataW.TrodAll enc Try.prog W 0 (fun _ => true) true Try.f10.params.toList args.toList ds p := hA0
  rw [Try.params10] at hA hval
  obtain ⟨v0, vs0, d0, ds0, p0, q0, hargs, rfl, rfl, h0, r0⟩ := trodAll_cons hA
  obtain ⟨rfl, rfl, rfl⟩ := trodAll_nil r0
  obtain rfl : args = #[v0] := by cases args; simp_all
  obtain ⟨rfl, rfl⟩ := trodVars_none hV
  have k0 := h0
  have lt0 : ∀ x ∈ p0, x.block < W.heap.size := by obtain ⟨m, hm⟩ := k0; exact DataW.trod_lt m _ _ _ hm
  obtain ⟨cs0, rfl, _⟩ := okWide_struct Try.underlying57 (hval 0 57 v0 rfl rfl)
  obtain ⟨y0, hK0, hw0⟩ : ∃ y, PFnExactLogRoom.k57.K W y cs0.toList ∧ PFnExactLogRoom.wf57 y := by
    obtain ⟨fuel, hf⟩ := h0
    exact opens57 _ _ _ _ _ _ fuel _ _ (by simpa [Value.cells] using hf)
  obtain ⟨A0_0, c0_0, he0, lc0_0, hr0_0⟩ := PFnExactLogRoom.k57_open hK0
  obtain rfl : cs0 = #[.slice A0_0 y0.f0.length c0_0] := Array.toList_inj.1 he0
  clear hA0 hval0 hsz0
  refine (PFnExactLogRoom.laws_FnExactLogRoom.walk Pure.FnExactLogRoom A0_0 c0_0 y0.f0 W hr0_0 lc0_0 hw0.1 hw0.2).mono fun e W' ⟨he, bel⟩ => ?_
  subst he
  exact ⟨_, rfl, _, _, _, [], _, [], hW', trodAll_mk1 (shut_bool Try.underlying4 _), (trodAll_cons_mk (Below.trod laidOut (by kernel_rfl) (of_decide_eq_true (by kernel_rfl)) k0 bel lt0) trodAll_mk0), rfl, bel.frame _, fun h => by cases h⟩
theorem over : Rows.fnExactLogRoomRow.holds Try.pinned (OpenSpec.ofChange Rows.fnExactLogRoomSpec) :=
  OpenClaim.holds_of_wide 10 Try.f10 rfl rfl rfl rfl rfl rfl rfl ⟨rfl, rfl, rfl, rfl, rfl⟩ rfl rfl rfl rfl rfl (by kernel_rfl) Try.func10 (by kernel_rfl)
    (of_decide_eq_true (by kernel_rfl)) (by unfold Func.isWrapper; first | (rw [if_pos (by decide +kernel)]; kernel_rfl) | (rw [if_neg (by decide +kernel)]; exact ⟨rfl, rfl⟩))
    (fun os started H enc _ => lifted os started H enc)
theorem proved : Rows.FnExactLogRoomSaid := over
#print axioms proved
end Go.Proofs.Ytlhcofkandeepaa.fnExactLogRoom
namespace Go.Proofs.Ytlhcofkandeepaa
/-- The row, under a short name, for the claim. -/
theorem fnExactLogRoom_holds : Rows.FnExactLogRoomSaid := fnExactLogRoom.proved
end Go.Proofs.Ytlhcofkandeepaa
