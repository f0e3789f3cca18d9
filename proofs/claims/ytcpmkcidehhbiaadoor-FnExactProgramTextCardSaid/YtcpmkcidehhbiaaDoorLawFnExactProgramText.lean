/- Walks of the functions that a statement reaches, written by a program (the printing program, mended): no condition. -/
import Derived.Test.YtcpmkcidehhbiaaDoorTie
import Derived.Test.YtcpmkcidehhbiaaDoorCards
import Derived.Handy
import Derived.Lay
import Derived.LaidMore
import Derived.SevenTiedAt
import Derived.MakeChecks
import Derived.Stop.LaidErr
import Derived.Lib.LaidTab
import Derived.Test.YtcpmkcidehhbiaaDoorRows
import Derived.Test.YtcpmkcidehhbiaaDoorPFnExactProgramTextx12
import Derived.Test.YtcpmkcidehhbiaaDoorPureFnExactProgramText
import Derived.Test.YtcpmkcidehhbiaaDoorVExactProgramTextOpens
import Derived.WalkKit
import Derived.ProofKit
import Derived.OpenShut
import Derived.ShutString
import Derived.ChangeOld
import Derived.Below
import Derived.SizedLaws
namespace Go.Proofs.YtcpmkcidehhbiaaDoor.fnExactProgramText
open Go.ChangeShapes Go.WideShapes Go.ChangeAt Go.RowKit
open Go.Proofs.YtcpmkcidehhbiaaDoorW.PrintWords
open Go.ChangeMaps (open_string shut_string)
set_option linter.unusedVariables false
theorem own : ownKnob Tryd.prog.godebug = none := by kernel_rfl
theorem laidOut : laidOutB Tryd.prog = true := by kernel_rfl
theorem opens42 : Opens.Opens Tryd.prog 42 PFnExactProgramText.k42 PFnExactProgramText.wf42 :=
  Opens.opens_struct (fun y => (⟨y.1, y.2.1, y.2.2⟩ : PFnExactProgramText.S42)) (fun x : PFnExactProgramText.S42 => (x.f0, x.f1, x.f2)) (fun _ => rfl) Tryd.underlying42 (by kernel_rfl) (Opens.opensF_cons (by kernel_rfl) (by kernel_rfl) (Opens.opens_int Tryd.underlying3) (Opens.opensF_cons (by kernel_rfl) (by kernel_rfl) (Opens.opens_int Tryd.underlying3) (Opens.opensF_one (by kernel_rfl) (Opens.opens_int Tryd.underlying3))))
theorem opens44 : Opens.Opens Tryd.prog 44 PFnExactProgramText.k44 PFnExactProgramText.wf44 :=
  Opens.opens_struct (fun y => (⟨y.1, y.2.1, y.2.2.1, y.2.2.2⟩ : PFnExactProgramText.S44)) (fun x : PFnExactProgramText.S44 => (x.f0, x.f1, x.f2, x.f3)) (fun _ => rfl) Tryd.underlying44 (by kernel_rfl) (Opens.opensF_cons (by kernel_rfl) (by kernel_rfl) (Opens.opens_int Tryd.underlying3) (Opens.opensF_cons (by kernel_rfl) (by kernel_rfl) (Opens.opens_int Tryd.underlying3) (Opens.opensF_cons (by kernel_rfl) (by kernel_rfl) (Opens.opens_int Tryd.underlying3) (Opens.opensF_one (by kernel_rfl) opens42))))
theorem opens129 : Opens.Opens Tryd.prog 129 PFnExactProgramText.k129 PFnExactProgramText.wf129 :=
  Opens.opens_struct (fun y => (⟨y.1, y.2⟩ : PFnExactProgramText.S129)) (fun x : PFnExactProgramText.S129 => (x.f0, x.f1)) (fun _ => rfl) Tryd.underlying129 (by kernel_rfl) (Opens.opensF_cons (by kernel_rfl) (by kernel_rfl) (Opens.opens_slice Tryd.underlying127 (by kernel_rfl) opens44) (Opens.opensF_one (by kernel_rfl) opens42))
theorem opens53 : Opens.Opens Tryd.prog 53 PFnExactProgramText.k53 PFnExactProgramText.wf53 :=
  Opens.opens_struct (fun y => (⟨y⟩ : PFnExactProgramText.S53)) (fun x : PFnExactProgramText.S53 => x.f0) (fun _ => rfl) Tryd.underlying53 (by kernel_rfl) (Opens.opensF_one (by kernel_rfl) (Opens.opens_slice Tryd.underlying51 (by kernel_rfl) opens129))
theorem gl_of_laid {W : World} (h : laidMetH Tryd.prog Rows.fnExactProgramTextRow.laid W) : GL W := by
  rw [MakeChecks.laidMetH_plain _ _ _ (by kernel_rfl)] at h
  have L0 : laidMet Tryd.prog [("math/bits.deBruijn32tab", Rows.laid_math_bits_deBruijn32tab), ("math/bits.deBruijn64tab", Rows.laid_math_bits_deBruijn64tab), ("internal/strconv.uint64pow10", Rows.laid_internal_strconv_uint64pow10)] W := h
  have L1 := L0.tail
  have L2 := L1.tail
  have d2 : (Rows.laid_internal_strconv_uint64pow10 : DataW Unit) = Lib.tabData .u64 Lib.pow10Tab := by kernel_rfl
  rw [d2] at L2
  have Fpow := Lib.tabIs_of_head (g := 5) (t := 188) (e := 162) (n := 20) (by kernel_rfl) (by kernel_rfl) (by kernel_rfl) (by kernel_rfl) (by kernel_rfl) (by kernel_rfl) L2
  exact ⟨Fpow⟩
set_option maxRecDepth 100000 in
theorem lifted (os : Os) (started : os.Started) (H : Type) (enc : TypeId × Value → H) :
    ReturnsInHanded {} Tryd.checked os 11 .any (fun w args => (Rows.fnExactProgramTextSpec.pre enc Tryd.prog Tryd.f11 [] false w args ∧ laidMetH Tryd.prog Rows.fnExactProgramTextRow.laid w) ∧ sizedMet enc Tryd.prog Tryd.f11 (OpenSpec.ofChange Rows.fnExactProgramTextSpec) false w args)
      (Rows.fnExactProgramTextSpec.post enc Tryd.prog Tryd.f11 false true false false) := by
  refine returnsInHanded_of_change_and (C := Tryd.checked) (X := fun w _ => laidMetH Tryd.prog Rows.fnExactProgramTextRow.laid w) (fun _ _ _ hh h => h.of_heap hh) own started (by kernel_rfl) Tryd.func11
    (ChangeSpec.witness_shaped (enc := enc) (C := Tryd.checked) (os := os) (X := fun w _ => laidMetH Tryd.prog Rows.fnExactProgramTextRow.laid w) false (World.laidAll Tryd.prog os Rows.fnExactProgramTextRow.laid) #[.agg #[.slice none 0 0]] 8 (World.laidAll_os _ _ _)
      (World.shaped_of_ZipB (by kernel_rfl) (by kernel_rfl)) (by kernel_rfl) (by kernel_rfl) (by kernel_rfl)
      (by rw [MakeChecks.laidMetH_plain _ _ _ (by kernel_rfl)]; exact laidMet_laidAll _ (by kernel_rfl) (by kernel_rfl))) ?_
  intro W base args ds gs before hval0 hW _ hsz0 hL _
  have hGL : GL W := gl_of_laid hL
  have hval : ∀ (j : Nat) t v, Tryd.f11.params[j]? = some t → args[j]? = some v → Value.okWide Tryd.prog W .any base t v := hval0
  have hW' := hW
  obtain ⟨p, q, hA0, hV, rfl, hfz, hnd⟩ := hW
  have hA : DataW.TrodAll enc Tryd.prog W 0 (fun _ => true) true Tryd.f11.params.toList args.toList ds p := hA0
  rw [Tryd.params11] at hA hval
  obtain ⟨v0, vs0, d0, ds0, p0, q0, hargs, rfl, rfl, h0, r0⟩ := trodAll_cons hA
  obtain ⟨rfl, rfl, rfl⟩ := trodAll_nil r0
  obtain rfl : args = #[v0] := by cases args; simp_all
  obtain ⟨rfl, rfl⟩ := trodVars_none hV
  have k0 := h0
  have lt0 : ∀ x ∈ p0, x.block < W.heap.size := by obtain ⟨m, hm⟩ := k0; exact DataW.trod_lt m _ _ _ hm
  obtain ⟨cs0, rfl, _⟩ := okWide_struct Tryd.underlying53 (hval 0 53 v0 rfl rfl)
  obtain ⟨y0, hK0, hw0⟩ : ∃ y, PFnExactProgramText.k53.K W y cs0.toList ∧ PFnExactProgramText.wf53 y := by
    obtain ⟨fuel, hf⟩ := h0
    exact opens53 _ _ _ _ _ _ fuel _ _ (by simpa [Value.cells] using hf)
  obtain ⟨A0_0, c0_0, he0, lc0_0, hr0_0⟩ := PFnExactProgramText.k53_open hK0
  obtain rfl : cs0 = #[.slice A0_0 y0.f0.length c0_0] := Array.toList_inj.1 he0
  clear hA0 hval0 hsz0
  refine (PFnExactProgramText.laws_FnExactProgramText.walk Pure.FnExactProgramText A0_0 c0_0 y0.f0 W hr0_0 lc0_0 hw0.1 hw0.2 hGL).mono fun e W' ⟨he, bel⟩ => ?_
  subst he
  exact ⟨_, rfl, _, _, _, [], _, [], hW', trodAll_mk1 (shut_bool Tryd.underlying4 _), (trodAll_cons_mk (Below.trod laidOut (by kernel_rfl) (of_decide_eq_true (by kernel_rfl)) k0 bel lt0) trodAll_mk0), rfl, bel.frame _, fun h => by cases h⟩
theorem over : Rows.fnExactProgramTextRow.holds Tryd.pinned (OpenSpec.ofChange Rows.fnExactProgramTextSpec) :=
  OpenClaim.holds_of_wide 11 Tryd.f11 rfl rfl rfl rfl rfl rfl rfl ⟨rfl, rfl, rfl, rfl, rfl⟩ rfl rfl rfl rfl rfl (by kernel_rfl) Tryd.func11 (by kernel_rfl)
    (of_decide_eq_true (by kernel_rfl)) (by unfold Func.isWrapper; first | (rw [if_pos (by decide +kernel)]; kernel_rfl) | (rw [if_neg (by decide +kernel)]; exact ⟨rfl, rfl⟩))
    (fun os started H enc _ => lifted os started H enc)
theorem proved : Rows.FnExactProgramTextCardSaid :=
  Claim7.holds_tied_plain_at .later [] [.data, .data, .data] true (true, "5cc5b702d31653cf6bb08aef19911888cc4daddb5b3a36b86a1b22c38d9f2d9e") true over (fun _ h => by cases h) (by kernel_rfl) (fun _ h => by cases h) fnExactProgramText_row_tie rfl ⟨rfl, rfl⟩ (by kernel_rfl) rfl
    (fun f fn hf hfn => by
      obtain rfl : f = 11 := Option.some.inj ((show Tryd.prog.funcNamed "loop.example/g00983/laws.FnExactProgramText" = some 11 by kernel_rfl).symm.trans hf) |>.symm
      obtain rfl : fn = Tryd.f11 := (Option.some.inj (Tryd.func11.symm.trans hfn)).symm
      exact ⟨by kernel_rfl, fun j t ht => by
        rw [Tryd.params11] at ht
        have hm := Array.mem_of_getElem? ht
        have hall : ([53].all fun u => !Tryd.prog.wantsStandIn u) = true := by kernel_rfl
        exact (show Tryd.prog.wantsStandIn t = false by simpa using List.all_eq_true.1 hall t (by simpa using hm))⟩)
    (by kernel_rfl)
#print axioms proved
end Go.Proofs.YtcpmkcidehhbiaaDoor.fnExactProgramText
namespace Go.Proofs.YtcpmkcidehhbiaaDoor
/-- The row, under a short name, for the claim. -/
theorem fnExactProgramText_holds : Rows.FnExactProgramTextCardSaid := fnExactProgramText.proved
end Go.Proofs.YtcpmkcidehhbiaaDoor
