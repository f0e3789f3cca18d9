/- Walks of the functions that a statement reaches, written by a program (the printing program, mended): no condition. -/
import Derived.Test.YtcpmkcidehhbiaaDoorTie
import Derived.Test.YtcpmkcidehhbiaaDoorCards
import Derived.Handy
import Derived.Lay
import Derived.LaidMore
import Derived.SevenTiedAt
import Derived.MakeChecks
import Derived.Stop.LaidErr
import Derived.Lib.LaidTab
import Derived.Test.YtcpmkcidehhbiaaDoorRows
import Derived.Test.YtcpmkcidehhbiaaDoorPFnExactFormatStmtx7
import Derived.Test.YtcpmkcidehhbiaaDoorPureFnExactFormatStmt
import Derived.Test.YtcpmkcidehhbiaaDoorOpens
import Derived.WalkKit
import Derived.ProofKit
import Derived.OpenShut
import Derived.ShutString
import Derived.ChangeOld
import Derived.Below
import Derived.SizedLaws
namespace Go.Proofs.YtcpmkcidehhbiaaDoor.fnExactFormatStmt
open Go.ChangeShapes Go.WideShapes Go.ChangeAt Go.RowKit
open Go.Proofs.YtcpmkcidehhbiaaDoorW.PrintWords
open Go.ChangeMaps (open_string shut_string)
set_option linter.unusedVariables false
theorem own : ownKnob Tryd.prog.godebug = none := by kernel_rfl
theorem laidOut : laidOutB Tryd.prog = true := by kernel_rfl
theorem opens42 : Opens.Opens Tryd.prog 42 PFnExactFormatStmt.k42 PFnExactFormatStmt.wf42 :=
  Opens.opens_struct (fun y => (⟨y.1, y.2.1, y.2.2⟩ : PFnExactFormatStmt.S42)) (fun x : PFnExactFormatStmt.S42 => (x.f0, x.f1, x.f2)) (fun _ => rfl) Tryd.underlying42 (by kernel_rfl) (Opens.opensF_cons (by kernel_rfl) (by kernel_rfl) (Opens.opens_int Tryd.underlying3) (Opens.opensF_cons (by kernel_rfl) (by kernel_rfl) (Opens.opens_int Tryd.underlying3) (Opens.opensF_one (by kernel_rfl) (Opens.opens_int Tryd.underlying3))))
theorem opens44 : Opens.Opens Tryd.prog 44 PFnExactFormatStmt.k44 PFnExactFormatStmt.wf44 :=
  Opens.opens_struct (fun y => (⟨y.1, y.2.1, y.2.2.1, y.2.2.2⟩ : PFnExactFormatStmt.S44)) (fun x : PFnExactFormatStmt.S44 => (x.f0, x.f1, x.f2, x.f3)) (fun _ => rfl) Tryd.underlying44 (by kernel_rfl) (Opens.opensF_cons (by kernel_rfl) (by kernel_rfl) (Opens.opens_int Tryd.underlying3) (Opens.opensF_cons (by kernel_rfl) (by kernel_rfl) (Opens.opens_int Tryd.underlying3) (Opens.opensF_cons (by kernel_rfl) (by kernel_rfl) (Opens.opens_int Tryd.underlying3) (Opens.opensF_one (by kernel_rfl) opens42))))
theorem gl_of_laid {W : World} (h : laidMetH Tryd.prog Rows.fnExactFormatStmtRow.laid W) : GL W := by
  rw [MakeChecks.laidMetH_plain _ _ _ (by kernel_rfl)] at h
  have L0 : laidMet Tryd.prog [("math/bits.deBruijn32tab", Rows.laid_math_bits_deBruijn32tab), ("math/bits.deBruijn64tab", Rows.laid_math_bits_deBruijn64tab), ("internal/strconv.uint64pow10", Rows.laid_internal_strconv_uint64pow10)] W := h
  have L1 := L0.tail
  have L2 := L1.tail
  have d2 : (Rows.laid_internal_strconv_uint64pow10 : DataW Unit) = Lib.tabData .u64 Lib.pow10Tab := by kernel_rfl
  rw [d2] at L2
  have Fpow := Lib.tabIs_of_head (g := 5) (t := 188) (e := 162) (n := 20) (by kernel_rfl) (by kernel_rfl) (by kernel_rfl) (by kernel_rfl) (by kernel_rfl) (by kernel_rfl) L2
  exact ⟨Fpow⟩
set_option maxRecDepth 100000 in
theorem lifted (os : Os) (started : os.Started) (H : Type) (enc : TypeId × Value → H) :
    ReturnsInHanded {} Tryd.checked os 7 .any (fun w args => (Rows.fnExactFormatStmtSpec.pre enc Tryd.prog Tryd.f7 [] false w args ∧ laidMetH Tryd.prog Rows.fnExactFormatStmtRow.laid w) ∧ sizedMet enc Tryd.prog Tryd.f7 (OpenSpec.ofChange Rows.fnExactFormatStmtSpec) false w args)
      (Rows.fnExactFormatStmtSpec.post enc Tryd.prog Tryd.f7 false true false false) := by
  refine returnsInHanded_of_change_and (C := Tryd.checked) (X := fun w _ => laidMetH Tryd.prog Rows.fnExactFormatStmtRow.laid w) (fun _ _ _ hh h => h.of_heap hh) own started (by kernel_rfl) Tryd.func7
    (ChangeSpec.witness_shaped (enc := enc) (C := Tryd.checked) (os := os) (X := fun w _ => laidMetH Tryd.prog Rows.fnExactFormatStmtRow.laid w) false (World.laidAll Tryd.prog os Rows.fnExactFormatStmtRow.laid) #[.agg #[.int .i64 0, .int .i64 0, .int .i64 0, .int .i64 0, .int .i64 0, .int .i64 0]] 8 (World.laidAll_os _ _ _)
      (World.shaped_of_ZipB (by kernel_rfl) (by kernel_rfl)) (by kernel_rfl) (by kernel_rfl) (by kernel_rfl)
      (by rw [MakeChecks.laidMetH_plain _ _ _ (by kernel_rfl)]; exact laidMet_laidAll _ (by kernel_rfl) (by kernel_rfl))) ?_
  intro W base args ds gs before hval0 hW _ hsz0 hL _
  have hGL : GL W := gl_of_laid hL
  have hval : ∀ (j : Nat) t v, Tryd.f7.params[j]? = some t → args[j]? = some v → Value.okWide Tryd.prog W .any base t v := hval0
  have hW' := hW
  obtain ⟨p, q, hA0, hV, rfl, hfz, hnd⟩ := hW
  have hA : DataW.TrodAll enc Tryd.prog W 0 (fun _ => true) true Tryd.f7.params.toList args.toList ds p := hA0
  rw [Tryd.params7] at hA hval
  obtain ⟨v0, vs0, d0, ds0, p0, q0, hargs, rfl, rfl, h0, r0⟩ := trodAll_cons hA
  obtain ⟨rfl, rfl, rfl⟩ := trodAll_nil r0
  obtain rfl : args = #[v0] := by cases args; simp_all
  obtain ⟨rfl, rfl⟩ := trodVars_none hV
  have k0 := h0
  have lt0 : ∀ x ∈ p0, x.block < W.heap.size := by obtain ⟨m, hm⟩ := k0; exact DataW.trod_lt m _ _ _ hm
  obtain ⟨cs0, rfl, _⟩ := okWide_struct Tryd.underlying44 (hval 0 44 v0 rfl rfl)
  obtain ⟨y0, hK0, hw0⟩ : ∃ y, PFnExactFormatStmt.k44.K W y cs0.toList ∧ PFnExactFormatStmt.wf44 y := by
    obtain ⟨fuel, hf⟩ := h0
    exact opens44 _ _ _ _ _ _ fuel _ _ (by simpa [Value.cells] using hf)
  obtain he0 := PFnExactFormatStmt.k44_open hK0
  obtain rfl : cs0 = #[.int .i64 y0.f0, .int .i64 y0.f1, .int .i64 y0.f2, .int .i64 y0.f3.f0, .int .i64 y0.f3.f1, .int .i64 y0.f3.f2] := Array.toList_inj.1 he0
  clear hA0 hval0 hsz0
  refine (PFnExactFormatStmt.laws_FnExactFormatStmt.walk Pure.FnExactFormatStmt y0.f0 y0.f1 y0.f2 y0.f3.f0 y0.f3.f1 y0.f3.f2 W  hw0.1 hw0.2.1 hw0.2.2.1 hw0.2.2.2.1 hw0.2.2.2.2.1 hw0.2.2.2.2.2 hGL).mono fun e W' ⟨he, bel⟩ => ?_
  subst he
  exact ⟨_, rfl, _, _, _, [], _, [], hW', trodAll_mk1 (shut_bool Tryd.underlying4 _), (trodAll_cons_mk (Below.trod laidOut (by kernel_rfl) (of_decide_eq_true (by kernel_rfl)) k0 bel lt0) trodAll_mk0), rfl, bel.frame _, fun h => by cases h⟩
theorem over : Rows.fnExactFormatStmtRow.holds Tryd.pinned (OpenSpec.ofChange Rows.fnExactFormatStmtSpec) :=
  OpenClaim.holds_of_wide 7 Tryd.f7 rfl rfl rfl rfl rfl rfl rfl ⟨rfl, rfl, rfl, rfl, rfl⟩ rfl rfl rfl rfl rfl (by kernel_rfl) Tryd.func7 (by kernel_rfl)
    (of_decide_eq_true (by kernel_rfl)) (by unfold Func.isWrapper; first | (rw [if_pos (by decide +kernel)]; kernel_rfl) | (rw [if_neg (by decide +kernel)]; exact ⟨rfl, rfl⟩))
    (fun os started H enc _ => lifted os started H enc)
theorem proved : Rows.FnExactFormatStmtCardSaid :=
  Claim7.holds_tied_plain_at .later [] [.data, .data, .data] true (true, "5cc5b702d31653cf6bb08aef19911888cc4daddb5b3a36b86a1b22c38d9f2d9e") true over (fun _ h => by cases h) (by kernel_rfl) (fun _ h => by cases h) fnExactFormatStmt_row_tie rfl ⟨rfl, rfl⟩ (by kernel_rfl) rfl
    (fun f fn hf hfn => by
      obtain rfl : f = 7 := Option.some.inj ((show Tryd.prog.funcNamed "loop.example/g00983/laws.FnExactFormatStmt" = some 7 by kernel_rfl).symm.trans hf) |>.symm
      obtain rfl : fn = Tryd.f7 := (Option.some.inj (Tryd.func7.symm.trans hfn)).symm
      exact ⟨by kernel_rfl, fun j t ht => by
        rw [Tryd.params7] at ht
        have hm := Array.mem_of_getElem? ht
        have hall : ([44].all fun u => !Tryd.prog.wantsStandIn u) = true := by kernel_rfl
        exact (show Tryd.prog.wantsStandIn t = false by simpa using List.all_eq_true.1 hall t (by simpa using hm))⟩)
    (by kernel_rfl)
#print axioms proved
end Go.Proofs.YtcpmkcidehhbiaaDoor.fnExactFormatStmt
namespace Go.Proofs.YtcpmkcidehhbiaaDoor
/-- The row, under a short name, for the claim. -/
theorem fnExactFormatStmt_holds : Rows.FnExactFormatStmtCardSaid := fnExactFormatStmt.proved
end Go.Proofs.YtcpmkcidehhbiaaDoor
