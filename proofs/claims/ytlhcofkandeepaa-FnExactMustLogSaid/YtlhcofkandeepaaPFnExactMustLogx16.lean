/- Walks of the functions that a statement reaches, written by a program (the printing program, mended): no condition. -/
import Derived.Test.YtlhcofkandeepaaPFnExactMustLogx0
import Derived.Test.YtlhcofkandeepaaPFnExactMustLogx3
import Derived.Test.YtlhcofkandeepaaPFnExactMustLogx4
import Derived.Test.YtlhcofkandeepaaPFnExactMustLogx9
import Derived.Test.YtlhcofkandeepaaPFnExactMustLogx15
namespace Go.Proofs.Ytlhcofkandeepaa.PFnExactMustLog
open Go.RowKit Go.Proofs.YtlhcofkandeepaaW.PrintWords Go.Proofs.YtlhcofkandeepaaW.PrintLast Go.Proofs.YtlhcofkandeepaaW.PrintMore
attribute [local go_sem] max2_int min2_int max_two min_two max_three min_three max_four min_four   -- for this text's walks alone
set_option linter.unusedVariables false
set_option linter.unusedSimpArgs false

/-! ### laws_FnExactMustLog: function 7 -/
def laws_FnExactMustLog.j0 : Nat → List Int → List Int → Bool → List (S73) → Int → Int → Int → Option (Bool)
 | 0, _, _, _, _, _, _, _ => none
 | k + 1, x4, x6, x42, x413000, x413001, x413002, x413003 => if x42 = true then (some false) else ((laws_markIntS.f k x6 1).bind fun bt444 => ((laws_heldIntS.f k bt444.2 1).bind fun t446 => (if t446 < 0 then (some false) else (if t446 = bt444.1 then ((laws_toTask.f k x413000 x413001 x413002 x413003).bind fun bt447 => ((impl_MustLog.f k bt447.1 bt447.2.1 bt447.2.2.1 bt447.2.2.2).bind fun t453 => ((laws_eqIntS.f k t453 x4).bind fun t456 => (if t456 = true then ((laws_heldIntS.f k bt444.2 1).bind fun t457 => (if t457 < 0 then (some false) else (if t457 = bt444.1 then (some true) else (some false)))) else (some false))))) else (some false)))))
def laws_FnExactMustLog.f (k : Nat) (l0_0 : List (S73)) (a0_1 : Int) (a0_2 : Int) (a0_3 : Int) : Option (Bool) := (laws_szTask.f l0_0 a0_1 a0_2 a0_3 1048576).bind fun t413 => (if t413 < 0 then (some true) else ((laws_toTask.f k l0_0 a0_1 a0_2 a0_3).bind fun bt414 => ((spec_MustLog.f k bt414.1 bt414.2.1 bt414.2.2.1 bt414.2.2.2).bind fun t420 => ((laws_toTask.f k l0_0 a0_1 a0_2 a0_3).bind fun bt423 => ((impl_MustLog.f k bt423.1 bt423.2.1 bt423.2.2.1 bt423.2.2.2).bind fun t430 => ((laws_eqIntS.f k t430 t420).bind fun t433 => (if t433 = true then ((laws_toTask.f k l0_0 a0_1 a0_2 a0_3).bind fun bt434 => ((laws_eqTask.f k bt423.1 bt423.2.1 bt423.2.2.1 bt423.2.2.2 bt434.1 bt434.2.1 bt434.2.2.1 bt434.2.2.2).bind fun t440 => (if t440 = true then ((laws_markTask.f k bt423.1 bt423.2.1 bt423.2.2.1 bt423.2.2.2 1).bind fun bt441 => (if bt441.1 < 0 then (laws_FnExactMustLog.j0 k t420 t430 true l0_0 a0_1 a0_2 a0_3) else ((laws_eqIntS.f k t430 t420).bind fun t443 => (laws_FnExactMustLog.j0 k t420 t430 (!t443) l0_0 a0_1 a0_2 a0_3)))) else (some false)))) else (some false))))))))
theorem laws_FnExactMustLog.mono_l : ∀ k, (∀ y0 y1 y2 y3 y4 y5 y6, LeO (laws_FnExactMustLog.j0 k y0 y1 y2 y3 y4 y5 y6) (laws_FnExactMustLog.j0 (k + 1) y0 y1 y2 y3 y4 y5 y6))
 | 0 => fun _ _ _ _ _ _ _ r h => by simp [laws_FnExactMustLog.j0] at h
 | k + 1 => by
  have ih0 := laws_FnExactMustLog.mono_l k
  ·intro y0 y1 y2 y3 y4 y5 y6
   unfold laws_FnExactMustLog.j0
   repeat' first
   | (with_reducible exact ih0 _ _ _ _ _ _ _)
   | (with_reducible exact impl_MustLog.mono _ _ _ _ _)
   | (with_reducible exact laws_eqIntS.mono _ _ _)
   | (with_reducible exact laws_eqTask.mono _ _ _ _ _ _ _ _ _)
   | (with_reducible exact laws_heldIntS.mono _ _ _)
   | (with_reducible exact laws_markIntS.mono _ _ _)
   | (with_reducible exact laws_markTask.mono _ _ _ _ _ _)
   | (with_reducible exact laws_toTask.mono _ _ _ _ _)
   | (with_reducible exact spec_MustLog.mono _ _ _ _ _)
   | (with_reducible exact LeO.refl _)
   | (with_reducible exact LeO.none _)
   | (with_reducible refine LeO.ite ?_ ?_)
   | (with_reducible refine LeO.bind ?_ (fun _ => ?_))
   | exact ih0 _ _ _ _ _ _ _
   | exact impl_MustLog.mono _ _ _ _ _
   | exact laws_eqIntS.mono _ _ _
   | exact laws_eqTask.mono _ _ _ _ _ _ _ _ _
   | exact laws_heldIntS.mono _ _ _
   | exact laws_markIntS.mono _ _ _
   | exact laws_markTask.mono _ _ _ _ _ _
   | exact laws_toTask.mono _ _ _ _ _
   | exact spec_MustLog.mono _ _ _ _ _
   | exact LeO.none _
   | refine LeO.ite ?_ ?_
   | refine LeO.bind ?_ (fun _ => ?_)
theorem laws_FnExactMustLog.mono : ∀ a0 a1 a2 a3 k, LeO (laws_FnExactMustLog.f k a0 a1 a2 a3) (laws_FnExactMustLog.f (k + 1) a0 a1 a2 a3) := by
 intro a0 a1 a2 a3 k
 have ih0 := laws_FnExactMustLog.mono_l k
 unfold laws_FnExactMustLog.f
 repeat' first
   | (with_reducible exact ih0 _ _ _ _ _ _ _)
   | (with_reducible exact impl_MustLog.mono _ _ _ _ _)
   | (with_reducible exact laws_eqIntS.mono _ _ _)
   | (with_reducible exact laws_eqTask.mono _ _ _ _ _ _ _ _ _)
   | (with_reducible exact laws_heldIntS.mono _ _ _)
   | (with_reducible exact laws_markIntS.mono _ _ _)
   | (with_reducible exact laws_markTask.mono _ _ _ _ _ _)
   | (with_reducible exact laws_toTask.mono _ _ _ _ _)
   | (with_reducible exact spec_MustLog.mono _ _ _ _ _)
   | (with_reducible exact LeO.refl _)
   | (with_reducible exact LeO.none _)
   | (with_reducible refine LeO.ite ?_ ?_)
   | (with_reducible refine LeO.bind ?_ (fun _ => ?_))
   | exact ih0 _ _ _ _ _ _ _
   | exact impl_MustLog.mono _ _ _ _ _
   | exact laws_eqIntS.mono _ _ _
   | exact laws_eqTask.mono _ _ _ _ _ _ _ _ _
   | exact laws_heldIntS.mono _ _ _
   | exact laws_markIntS.mono _ _ _
   | exact laws_markTask.mono _ _ _ _ _ _
   | exact laws_toTask.mono _ _ _ _ _
   | exact spec_MustLog.mono _ _ _ _ _
   | exact LeO.none _
   | refine LeO.ite ?_ ?_
   | refine LeO.bind ?_ (fun _ => ?_)
set_option maxHeartbeats 8000000 in
set_option maxRecDepth 100000 in
theorem laws_FnExactMustLog.calls (k : Nat) (A0_0 : Option Addr) (c0_0 : Nat) (l0_0 : List (S73)) (a0_1 : Int) (a0_2 : Int) (a0_3 : Int) (r : Bool) (w : World) (hr0_0 : Kd.C k73 w A0_0 l0_0.length l0_0) (hc0_0 : l0_0.length ≤ c0_0) (h : laws_FnExactMustLog.f k l0_0 a0_1 a0_2 a0_3 = some r) (ht_ : r = true) :
  Calls Try.prog 7 #[.agg #[.slice A0_0 l0_0.length c0_0, .int .i64 a0_1, .int .i64 a0_2, .int .i64 a0_3]] w fun e w' => e = .returned (.bool r) ∧ Below w.heap.size w w' := by
 have hu43 := Try.underlying43
 have hu47 := Try.underlying47
 have HR0_0 := zM hr0_0
 have HC0_0 := zM hc0_0
 clear hr0_0 hc0_0
 have HB := zM (Below.refl w.heap.size w)
 have H : ((laws_szTask.f l0_0 a0_1 a0_2 a0_3 1048576).bind fun t413 => (if t413 < 0 then (some true) else ((laws_toTask.f k l0_0 a0_1 a0_2 a0_3).bind fun bt414 => ((spec_MustLog.f k bt414.1 bt414.2.1 bt414.2.2.1 bt414.2.2.2).bind fun t420 => ((laws_toTask.f k l0_0 a0_1 a0_2 a0_3).bind fun bt423 => ((impl_MustLog.f k bt423.1 bt423.2.1 bt423.2.2.1 bt423.2.2.2).bind fun t430 => ((laws_eqIntS.f k t430 t420).bind fun t433 => (if t433 = true then ((laws_toTask.f k l0_0 a0_1 a0_2 a0_3).bind fun bt434 => ((laws_eqTask.f k bt423.1 bt423.2.1 bt423.2.2.1 bt423.2.2.2 bt434.1 bt434.2.1 bt434.2.2.1 bt434.2.2.2).bind fun t440 => (if t440 = true then ((laws_markTask.f k bt423.1 bt423.2.1 bt423.2.2.1 bt423.2.2.2 1).bind fun bt441 => (if bt441.1 < 0 then (laws_FnExactMustLog.j0 k t420 t430 true l0_0 a0_1 a0_2 a0_3) else ((laws_eqIntS.f k t430 t420).bind fun t443 => (laws_FnExactMustLog.j0 k t420 t430 (!t443) l0_0 a0_1 a0_2 a0_3)))) else (some false)))) else (some false))))))))) = some r := h
 clear h
 replace H := Option.bind_eq_some_iff.mp H
 obtain ⟨t413, A20, H⟩ := H
 replace H : (if t413 < 0 then (some true) else ((laws_toTask.f k l0_0 a0_1 a0_2 a0_3).bind fun bt414 => ((spec_MustLog.f k bt414.1 bt414.2.1 bt414.2.2.1 bt414.2.2.2).bind fun t420 => ((laws_toTask.f k l0_0 a0_1 a0_2 a0_3).bind fun bt423 => ((impl_MustLog.f k bt423.1 bt423.2.1 bt423.2.2.1 bt423.2.2.2).bind fun t430 => ((laws_eqIntS.f k t430 t420).bind fun t433 => (if t433 = true then ((laws_toTask.f k l0_0 a0_1 a0_2 a0_3).bind fun bt434 => ((laws_eqTask.f k bt423.1 bt423.2.1 bt423.2.2.1 bt423.2.2.2 bt434.1 bt434.2.1 bt434.2.2.1 bt434.2.2.2).bind fun t440 => (if t440 = true then ((laws_markTask.f k bt423.1 bt423.2.1 bt423.2.2.1 bt423.2.2.2 1).bind fun bt441 => (if bt441.1 < 0 then (laws_FnExactMustLog.j0 k t420 t430 true l0_0 a0_1 a0_2 a0_3) else ((laws_eqIntS.f k t430 t420).bind fun t443 => (laws_FnExactMustLog.j0 k t420 t430 (!t443) l0_0 a0_1 a0_2 a0_3)))) else (some false)))) else (some false)))))))) = some r := H
 have A2 := zM A20
 clear A20
 by_cases c3 : t413 < 0
 ·rw [if_pos c3] at H
  have c3b0 : decide (t413 < 0) = true := decide_eq_true c3
  clear c3
  obtain rfl := Option.some.inj H
  go_enter Try.func7, Try.ntmps7
  go_wp2_with (first | ((with_reducible refine gate_dst (N := 1) rfl ?_); refine box_event ?hg (N := 1) ?hd (cs := #[.slice A0_0 l0_0.length c0_0, .int .i64 a0_1, .int .i64 a0_2, .int .i64 a0_3]) (t := 43) ?hr ?_; (case hd => rfl); (case hg => rfl); (case hr => first | (go_simp; done) | (go_simp; rfl)); intro gb412 hg w4 hbox hb; have n0_ := zM (zQ zb hb); have n1_ := zM (hbox); have n2_ := zM ((by rw [hg]; exact (zR zb) : w.heap.size ≤ gb412)); have n3_ := zM ((by rw [hg]; exact (zR zb) : w.heap.size ≤ gb412)); clear HB; have HB := n0_; have BK412 := n1_; have GW412 := n2_; have GE412 := n3_; clear n0_ n1_ n2_ n3_; clear hb hbox hg; have hcz5_0 := (z5 BK412.out 0).trans rfl; have hcz5_1 := (z5 BK412.out 1).trans rfl; have hcz5_2 := (z5 BK412.out 2).trans rfl; have hcz5_3 := (z5 BK412.out 3).trans rfl; have hfz5_0 := z6 BK412.out 0; have hfz5_1 := z6 BK412.out 1; have hfz5_2 := z6 BK412.out 2; have hfz5_3 := z6 BK412.out 3) | ((with_reducible refine gate_callee (f := 27) rfl ?_); refine goesL_ (some 13) rfl rfl Try.func27 (by kernel_rfl) rfl #[.agg #[.slice A0_0 l0_0.length c0_0, .int .i64 a0_1, .int .i64 a0_2, .int .i64 a0_3], .int .i64 1048576] rfl zg ?_; (with_reducible refine (laws_szTask.calls _ _ l0_0 a0_1 a0_2 a0_3 1048576 t413 _ ?side1 ?side2 A2.out).mono ?_); (case side1 => repeat (first | exact (zX HR0_0.out HB.out) | (with_reducible refine zF ?_ _) | (with_reducible refine zG ?_ _) | (with_reducible refine zH ?_))); (case side2 => exact HC0_0.out); rintro e w6 ⟨rfl, hb⟩; refine ⟨_, rfl, ?_⟩; have n0_ := zM (z7 (g := gb412) (o := .cells #[.slice A0_0 l0_0.length c0_0, .int .i64 a0_1, .int .i64 a0_2, .int .i64 a0_3] 43 (0, 0)) zk hb); have n1_ := zM (zQ zb hb); clear BK412; clear HB; have BK412 := n0_; have HB := n1_; clear n0_ n1_; (try clear hb)))
  go_ret
  exact ⟨by first | rfl | (simp [errW_none, errW_some] <;> rfl) | (simp [*, errW_none, errW_some] <;> rfl), zb⟩
 ·rw [if_neg c3] at H
  have c3b0 : decide (t413 < 0) = false := decide_eq_false c3
  clear c3
  replace H := Option.bind_eq_some_iff.mp H
  obtain ⟨⟨t414, t417, t418, t419⟩, A70, H⟩ := H
  replace H : ((spec_MustLog.f k t414 t417 t418 t419).bind fun t420 => ((laws_toTask.f k l0_0 a0_1 a0_2 a0_3).bind fun bt423 => ((impl_MustLog.f k bt423.1 bt423.2.1 bt423.2.2.1 bt423.2.2.2).bind fun t430 => ((laws_eqIntS.f k t430 t420).bind fun t433 => (if t433 = true then ((laws_toTask.f k l0_0 a0_1 a0_2 a0_3).bind fun bt434 => ((laws_eqTask.f k bt423.1 bt423.2.1 bt423.2.2.1 bt423.2.2.2 bt434.1 bt434.2.1 bt434.2.2.1 bt434.2.2.2).bind fun t440 => (if t440 = true then ((laws_markTask.f k bt423.1 bt423.2.1 bt423.2.2.1 bt423.2.2.2 1).bind fun bt441 => (if bt441.1 < 0 then (laws_FnExactMustLog.j0 k t420 t430 true l0_0 a0_1 a0_2 a0_3) else ((laws_eqIntS.f k t430 t420).bind fun t443 => (laws_FnExactMustLog.j0 k t420 t430 (!t443) l0_0 a0_1 a0_2 a0_3)))) else (some false)))) else (some false)))))) = some r := H
  have A7 := zM A70
  clear A70
  replace H := Option.bind_eq_some_iff.mp H
  obtain ⟨t420, A80, H⟩ := H
  replace H : ((laws_toTask.f k l0_0 a0_1 a0_2 a0_3).bind fun bt423 => ((impl_MustLog.f k bt423.1 bt423.2.1 bt423.2.2.1 bt423.2.2.2).bind fun t430 => ((laws_eqIntS.f k t430 t420).bind fun t433 => (if t433 = true then ((laws_toTask.f k l0_0 a0_1 a0_2 a0_3).bind fun bt434 => ((laws_eqTask.f k bt423.1 bt423.2.1 bt423.2.2.1 bt423.2.2.2 bt434.1 bt434.2.1 bt434.2.2.1 bt434.2.2.2).bind fun t440 => (if t440 = true then ((laws_markTask.f k bt423.1 bt423.2.1 bt423.2.2.1 bt423.2.2.2 1).bind fun bt441 => (if bt441.1 < 0 then (laws_FnExactMustLog.j0 k t420 t430 true l0_0 a0_1 a0_2 a0_3) else ((laws_eqIntS.f k t430 t420).bind fun t443 => (laws_FnExactMustLog.j0 k t420 t430 (!t443) l0_0 a0_1 a0_2 a0_3)))) else (some false)))) else (some false))))) = some r := H
  have A8 := zM A80
  clear A80
  replace H := Option.bind_eq_some_iff.mp H
  obtain ⟨⟨t423, t426, t427, t428⟩, A90, H⟩ := H
  replace H : ((impl_MustLog.f k t423 t426 t427 t428).bind fun t430 => ((laws_eqIntS.f k t430 t420).bind fun t433 => (if t433 = true then ((laws_toTask.f k l0_0 a0_1 a0_2 a0_3).bind fun bt434 => ((laws_eqTask.f k t423 t426 t427 t428 bt434.1 bt434.2.1 bt434.2.2.1 bt434.2.2.2).bind fun t440 => (if t440 = true then ((laws_markTask.f k t423 t426 t427 t428 1).bind fun bt441 => (if bt441.1 < 0 then (laws_FnExactMustLog.j0 k t420 t430 true l0_0 a0_1 a0_2 a0_3) else ((laws_eqIntS.f k t430 t420).bind fun t443 => (laws_FnExactMustLog.j0 k t420 t430 (!t443) l0_0 a0_1 a0_2 a0_3)))) else (some false)))) else (some false)))) = some r := H
  have A9 := zM A90
  clear A90
  replace H := Option.bind_eq_some_iff.mp H
  obtain ⟨t430, A100, H⟩ := H
  replace H : ((laws_eqIntS.f k t430 t420).bind fun t433 => (if t433 = true then ((laws_toTask.f k l0_0 a0_1 a0_2 a0_3).bind fun bt434 => ((laws_eqTask.f k t423 t426 t427 t428 bt434.1 bt434.2.1 bt434.2.2.1 bt434.2.2.2).bind fun t440 => (if t440 = true then ((laws_markTask.f k t423 t426 t427 t428 1).bind fun bt441 => (if bt441.1 < 0 then (laws_FnExactMustLog.j0 k t420 t430 true l0_0 a0_1 a0_2 a0_3) else ((laws_eqIntS.f k t430 t420).bind fun t443 => (laws_FnExactMustLog.j0 k t420 t430 (!t443) l0_0 a0_1 a0_2 a0_3)))) else (some false)))) else (some false))) = some r := H
  have A10 := zM A100
  clear A100
  replace H := Option.bind_eq_some_iff.mp H
  obtain ⟨t433, A110, H⟩ := H
  replace H : (if t433 = true then ((laws_toTask.f k l0_0 a0_1 a0_2 a0_3).bind fun bt434 => ((laws_eqTask.f k t423 t426 t427 t428 bt434.1 bt434.2.1 bt434.2.2.1 bt434.2.2.2).bind fun t440 => (if t440 = true then ((laws_markTask.f k t423 t426 t427 t428 1).bind fun bt441 => (if bt441.1 < 0 then (laws_FnExactMustLog.j0 k t420 t430 true l0_0 a0_1 a0_2 a0_3) else ((laws_eqIntS.f k t430 t420).bind fun t443 => (laws_FnExactMustLog.j0 k t420 t430 (!t443) l0_0 a0_1 a0_2 a0_3)))) else (some false)))) else (some false)) = some r := H
  have A11 := zM A110
  clear A110
  by_cases c12 : t433 = true
  ·subst c12
   have H1 : ((laws_toTask.f k l0_0 a0_1 a0_2 a0_3).bind fun bt434 => ((laws_eqTask.f k t423 t426 t427 t428 bt434.1 bt434.2.1 bt434.2.2.1 bt434.2.2.2).bind fun t440 => (if t440 = true then ((laws_markTask.f k t423 t426 t427 t428 1).bind fun bt441 => (if bt441.1 < 0 then (laws_FnExactMustLog.j0 k t420 t430 true l0_0 a0_1 a0_2 a0_3) else ((laws_eqIntS.f k t430 t420).bind fun t443 => (laws_FnExactMustLog.j0 k t420 t430 (!t443) l0_0 a0_1 a0_2 a0_3)))) else (some false)))) = some r := by rw [if_pos rfl] at H; exact H
   clear H
   have H := H1
   clear H1
   replace H := Option.bind_eq_some_iff.mp H
   obtain ⟨⟨t434, t437, t438, t439⟩, A130, H⟩ := H
   replace H : ((laws_eqTask.f k t423 t426 t427 t428 t434 t437 t438 t439).bind fun t440 => (if t440 = true then ((laws_markTask.f k t423 t426 t427 t428 1).bind fun bt441 => (if bt441.1 < 0 then (laws_FnExactMustLog.j0 k t420 t430 true l0_0 a0_1 a0_2 a0_3) else ((laws_eqIntS.f k t430 t420).bind fun t443 => (laws_FnExactMustLog.j0 k t420 t430 (!t443) l0_0 a0_1 a0_2 a0_3)))) else (some false))) = some r := H
   have A13 := zM A130
   clear A130
   replace H := Option.bind_eq_some_iff.mp H
   obtain ⟨t440, A140, H⟩ := H
   replace H : (if t440 = true then ((laws_markTask.f k t423 t426 t427 t428 1).bind fun bt441 => (if bt441.1 < 0 then (laws_FnExactMustLog.j0 k t420 t430 true l0_0 a0_1 a0_2 a0_3) else ((laws_eqIntS.f k t430 t420).bind fun t443 => (laws_FnExactMustLog.j0 k t420 t430 (!t443) l0_0 a0_1 a0_2 a0_3)))) else (some false)) = some r := H
   have A14 := zM A140
   clear A140
   by_cases c15 : t440 = true
   ·subst c15
    have H1 : ((laws_markTask.f k t423 t426 t427 t428 1).bind fun bt441 => (if bt441.1 < 0 then (laws_FnExactMustLog.j0 k t420 t430 true l0_0 a0_1 a0_2 a0_3) else ((laws_eqIntS.f k t430 t420).bind fun t443 => (laws_FnExactMustLog.j0 k t420 t430 (!t443) l0_0 a0_1 a0_2 a0_3)))) = some r := by rw [if_pos rfl] at H; exact H
    clear H
    have H := H1
    clear H1
    replace H := Option.bind_eq_some_iff.mp H
    obtain ⟨⟨t441, t442⟩, A160, H⟩ := H
    replace H : (if t441 < 0 then (laws_FnExactMustLog.j0 k t420 t430 true l0_0 a0_1 a0_2 a0_3) else ((laws_eqIntS.f k t430 t420).bind fun t443 => (laws_FnExactMustLog.j0 k t420 t430 (!t443) l0_0 a0_1 a0_2 a0_3))) = some r := H
    have A16 := zM A160
    clear A160
    have HC17 := zM H
    clear H
    go_enter Try.func7, Try.ntmps7
    try go_wp2_with (first | ((with_reducible refine gate_dst (N := 1) rfl ?_); refine box_event ?hg (N := 1) ?hd (cs := #[.slice A0_0 l0_0.length c0_0, .int .i64 a0_1, .int .i64 a0_2, .int .i64 a0_3]) (t := 43) ?hr ?_; (case hd => rfl); (case hg => rfl); (case hr => first | (go_simp; done) | (go_simp; rfl)); intro gb412 hg w18 hbox hb; have n0_ := zM (zQ zb hb); have n1_ := zM (hbox); have n2_ := zM ((by rw [hg]; exact (zR zb) : w.heap.size ≤ gb412)); have n3_ := zM ((by rw [hg]; exact (zR zb) : w.heap.size ≤ gb412)); clear HB; have HB := n0_; have BK412 := n1_; have GW412 := n2_; have GE412 := n3_; clear n0_ n1_ n2_ n3_; clear hb hbox hg; have hcz19_0 := (z5 BK412.out 0).trans rfl; have hcz19_1 := (z5 BK412.out 1).trans rfl; have hcz19_2 := (z5 BK412.out 2).trans rfl; have hcz19_3 := (z5 BK412.out 3).trans rfl; have hfz19_0 := z6 BK412.out 0; have hfz19_1 := z6 BK412.out 1; have hfz19_2 := z6 BK412.out 2; have hfz19_3 := z6 BK412.out 3) | ((with_reducible refine gate_callee (f := 27) rfl ?_); refine goesL_ (some 13) rfl rfl Try.func27 (by kernel_rfl) rfl #[.agg #[.slice A0_0 l0_0.length c0_0, .int .i64 a0_1, .int .i64 a0_2, .int .i64 a0_3], .int .i64 1048576] rfl zg ?_; (with_reducible refine (laws_szTask.calls _ _ l0_0 a0_1 a0_2 a0_3 1048576 t413 _ ?side1 ?side2 A2.out).mono ?_); (case side1 => repeat (first | exact (zX HR0_0.out HB.out) | (with_reducible refine zF ?_ _) | (with_reducible refine zG ?_ _) | (with_reducible refine zH ?_))); (case side2 => exact HC0_0.out); rintro e w20 ⟨rfl, hb⟩; refine ⟨_, rfl, ?_⟩; have n0_ := zM (z7 (g := gb412) (o := .cells #[.slice A0_0 l0_0.length c0_0, .int .i64 a0_1, .int .i64 a0_2, .int .i64 a0_3] 43 (0, 0)) zk hb); have n1_ := zM (zQ zb hb); clear BK412; clear HB; have BK412 := n0_; have HB := n1_; clear n0_ n1_; (try clear hb); (try clear hk); have hcz21_0 := (z5 BK412.out 0).trans rfl; have hcz21_1 := (z5 BK412.out 1).trans rfl; have hcz21_2 := (z5 BK412.out 2).trans rfl; have hcz21_3 := (z5 BK412.out 3).trans rfl; have hfz21_0 := z6 BK412.out 0; have hfz21_1 := z6 BK412.out 1; have hfz21_2 := z6 BK412.out 2; have hfz21_3 := z6 BK412.out 3) | ((with_reducible refine gate_callee (f := 29) rfl ?_); refine goesL_ (some 17) rfl rfl Try.func29 (by kernel_rfl) rfl #[.agg #[.slice A0_0 l0_0.length c0_0, .int .i64 a0_1, .int .i64 a0_2, .int .i64 a0_3]] rfl zg ?_; (with_reducible refine (laws_toTask.calls k _ _ l0_0 a0_1 a0_2 a0_3 t414 t417 t418 t419 _ ?side1 ?side2 A7.out).mono ?_); (case side1 => repeat (first | exact (zX HR0_0.out HB.out) | (with_reducible refine zF ?_ _) | (with_reducible refine zG ?_ _) | (with_reducible refine zH ?_))); (case side2 => exact HC0_0.out); rintro e w22 ⟨v415, rfl, ho0, hb⟩; refine ⟨_, rfl, ?_⟩; have n0_ := zM (zf ho0 (zR zb)); have n1_ := zM (z7 (g := gb412) (o := .cells #[.slice A0_0 l0_0.length c0_0, .int .i64 a0_1, .int .i64 a0_2, .int .i64 a0_3] 43 (0, 0)) zk hb); have n2_ := zM (zQ zb hb); clear BK412; clear HB; have HO416 := n0_; have BK412 := n1_; have HB := n2_; clear n0_ n1_ n2_; (try clear hb); (try clear hk); (try clear ho0); obtain ⟨Ao23, co23, eo23⟩ := Kd.R_slice HO416.out; subst eo23) | ((with_reducible refine gate_callee (f := 33) rfl ?_); refine goesL_ (some 18) rfl rfl Try.func33 (by kernel_rfl) rfl #[.agg #[.slice Ao23 t414.length co23, .int .i64 t417, .int .i64 t418, .int .i64 t419]] rfl zg ?_; (with_reducible refine (spec_MustLog.calls k _ _ t414 t417 t418 t419 t420 _ ?side1 ?side2 A8.out).mono ?_); (case side1 => repeat (first | exact (z9 HO416.out).2.2 | (with_reducible refine zF ?_ _) | (with_reducible refine zG ?_ _) | (with_reducible refine zH ?_))); (case side2 => exact (z9 HO416.out).2.1); rintro e w24 ⟨v421, rfl, ho0, hb⟩; refine ⟨_, rfl, ?_⟩; have n0_ := zM (ze (by (with_reducible repeat (first | apply zI | apply zJ | apply zK)); exact HO416.out) hb); have n1_ := zM (zf ho0 (zR zb)); have n2_ := zM (z7 (g := gb412) (o := .cells #[.slice A0_0 l0_0.length c0_0, .int .i64 a0_1, .int .i64 a0_2, .int .i64 a0_3] 43 (0, 0)) zk hb); have n3_ := zM (zQ zb hb); clear HO416; clear BK412; clear HB; have HO416 := n0_; have HO422 := n1_; have BK412 := n2_; have HB := n3_; clear n0_ n1_ n2_ n3_; (try clear hb); (try clear hk); (try clear ho0); have hcz25_0 := (z5 BK412.out 0).trans rfl; have hcz25_1 := (z5 BK412.out 1).trans rfl; have hcz25_2 := (z5 BK412.out 2).trans rfl; have hcz25_3 := (z5 BK412.out 3).trans rfl; have hfz25_0 := z6 BK412.out 0; have hfz25_1 := z6 BK412.out 1; have hfz25_2 := z6 BK412.out 2; have hfz25_3 := z6 BK412.out 3) | ((with_reducible refine gate_callee (f := 29) rfl ?_); refine goesL_ (some 20) rfl rfl Try.func29 (by kernel_rfl) rfl #[.agg #[.slice A0_0 l0_0.length c0_0, .int .i64 a0_1, .int .i64 a0_2, .int .i64 a0_3]] rfl zg ?_; (with_reducible refine (laws_toTask.calls k _ _ l0_0 a0_1 a0_2 a0_3 t423 t426 t427 t428 _ ?side1 ?side2 A9.out).mono ?_); (case side1 => repeat (first | exact (zX HR0_0.out HB.out) | (with_reducible refine zF ?_ _) | (with_reducible refine zG ?_ _) | (with_reducible refine zH ?_))); (case side2 => exact HC0_0.out); rintro e w26 ⟨v424, rfl, ho0, hb⟩; refine ⟨_, rfl, ?_⟩; have n0_ := zM (Kd.R_elder' (by (with_reducible repeat (first | apply zI | apply zJ | apply zK)); exact HO416.out) (Kd.R_base ho0) hb); have n1_ := zM (ze (by (with_reducible repeat (first | apply zI | apply zJ | apply zK)); exact HO422.out) hb); have n2_ := zM (zf (Kd.R_new' ho0 (Kd.R_lt (by (with_reducible repeat (first | apply zI | apply zJ | apply zK)); exact HO416.out))) (zR zb)); have n3_ := zM (z7 (g := gb412) (o := .cells #[.slice A0_0 l0_0.length c0_0, .int .i64 a0_1, .int .i64 a0_2, .int .i64 a0_3] 43 (0, 0)) zk hb); have n4_ := zM (zQ zb hb); clear HO416; clear HO422; clear BK412; clear HB; have HO416 := n0_; have HO422 := n1_; have HO425 := n2_; have BK412 := n3_; have HB := n4_; clear n0_ n1_ n2_ n3_ n4_; (try clear hb); (try clear hk); (try clear ho0)) | ((with_reducible refine gate_dst (N := 5) rfl ?_); refine box_event ?hg (N := 5) ?hd (cs := #[.slice none 0 0, .int .i64 0, .int .i64 0, .int .i64 0]) (t := 47) ?hr ?_; (case hd => rfl); (case hg => rfl); (case hr => first | (go_simp; done) | (go_simp; rfl)); intro gb429 hg w27 hbox hb; have n0_ := zM (ze (by (with_reducible repeat (first | apply zI | apply zJ | apply zK)); exact HO416.out) hb); have n1_ := zM (ze (by (with_reducible repeat (first | apply zI | apply zJ | apply zK)); exact HO422.out) hb); have n2_ := zM (ze (by (with_reducible repeat (first | apply zI | apply zJ | apply zK)); exact HO425.out) hb); have n3_ := zM (z7 (g := gb412) (o := .cells #[.slice A0_0 l0_0.length c0_0, .int .i64 a0_1, .int .i64 a0_2, .int .i64 a0_3] 43 (0, 0)) zk hb); have n4_ := zM (zQ zb hb); have n5_ := zM (hbox); have n6_ := zM ((by rw [hg]; exact (zR zb) : w.heap.size ≤ gb429)); have n7_ := zM ((by rw [hg]; exact (zR zb) : w.heap.size ≤ gb429)); have n8_ := zM ((by rw [hg]; exact Nat.ne_of_lt (blk_lt (g := gb412) (o := .cells #[.slice A0_0 l0_0.length c0_0, .int .i64 a0_1, .int .i64 a0_2, .int .i64 a0_3] 43 (0, 0)) zk) : gb412 ≠ gb429)); have n9_ := zM ((by rw [hg]; exact Nat.ne_of_gt (blk_lt (g := gb412) (o := .cells #[.slice A0_0 l0_0.length c0_0, .int .i64 a0_1, .int .i64 a0_2, .int .i64 a0_3] 43 (0, 0)) zk) : gb429 ≠ gb412)); clear HO416; clear HO422; clear HO425; clear BK412; clear HB; have HO416 := n0_; have HO422 := n1_; have HO425 := n2_; have BK412 := n3_; have HB := n4_; have BK429 := n5_; have GW429 := n6_; have GE429 := n7_; have NB412_429 := n8_; have NB429_412 := n9_; clear n0_ n1_ n2_ n3_ n4_ n5_ n6_ n7_ n8_ n9_; clear hb hbox hg; obtain ⟨Ao28, co28, eo28⟩ := Kd.R_slice HO425.out; subst eo28; have hnb29 := NB429_412.out; have hnc29 := NB412_429.out; have hcz30_0 := (z5 BK429.out 0).trans rfl; have hcz30_1 := (z5 BK429.out 1).trans rfl; have hcz30_2 := (z5 BK429.out 2).trans rfl; have hcz30_3 := (z5 BK429.out 3).trans rfl; have hfz30_0 := z6 BK429.out 0; have hfz30_1 := z6 BK429.out 1; have hfz30_2 := z6 BK429.out 2; have hfz30_3 := z6 BK429.out 3) | ((with_reducible refine gate_callee (f := 34) rfl ?_); refine goesL_ (some 22) rfl rfl Try.func34 (by kernel_rfl) rfl #[.agg #[.slice Ao28 t423.length co28, .int .i64 t426, .int .i64 t427, .int .i64 t428]] rfl zg ?_; (with_reducible refine (impl_MustLog.calls k _ _ t423 t426 t427 t428 t430 _ ?side1 ?side2 A10.out).mono ?_); (case side1 => refine (z9 (e := 39) (base := w.heap.size) (ok := fun k_ => (True ∧ some k_ ≠ (.slice Ao23 t414.length co23 : Value).ownBlock)) (n := t423.length) (c := co28) ?_).2.2; exact (by (with_reducible repeat (first | apply zI | apply zJ | apply zK)); exact (z1 (zc (p := ⟨gb429, 3, none⟩) (zc (p := ⟨gb429, 2, none⟩) (zc (p := ⟨gb429, 1, none⟩) (zc (p := ⟨gb429, 0, none⟩) (Kd.R_types HO425.out BK429.out (by decide)) (fun _ hk => hk.2) (.slice Ao28 t423.length co28)) (fun _ hk => hk.2) (.int .i64 t426)) (fun _ hk => hk.2) (.int .i64 t427)) (fun _ hk => hk.2) (.int .i64 t428)) (fun _ h_ => h_.1)))); (case side2 => exact (z9 HO425.out).2.1); rintro e w31 ⟨v431, rfl, ho0, hb⟩; refine ⟨_, rfl, ?_⟩; have n0_ := zM (ze (by (with_reducible repeat (first | apply zI | apply zJ | apply zK)); exact (z1 (zc (p := ⟨gb429, 3, none⟩) (zc (p := ⟨gb429, 2, none⟩) (zc (p := ⟨gb429, 1, none⟩) (zc (p := ⟨gb429, 0, none⟩) (Kd.R_types HO416.out BK429.out (by decide)) (fun _ hk => hk.2) (.slice Ao28 t423.length co28)) (fun _ hk => hk.2) (.int .i64 t426)) (fun _ hk => hk.2) (.int .i64 t427)) (fun _ hk => hk.2) (.int .i64 t428)) (fun _ h_ => h_.1))) hb); have n1_ := zM (Kd.R_elder' (by (with_reducible repeat (first | apply zI | apply zJ | apply zK)); exact (z1 (zc (p := ⟨gb429, 3, none⟩) (zc (p := ⟨gb429, 2, none⟩) (zc (p := ⟨gb429, 1, none⟩) (zc (p := ⟨gb429, 0, none⟩) (Kd.R_types HO422.out BK429.out (by decide)) (fun _ hk => hk.2) (.slice Ao28 t423.length co28)) (fun _ hk => hk.2) (.int .i64 t426)) (fun _ hk => hk.2) (.int .i64 t427)) (fun _ hk => hk.2) (.int .i64 t428)) (fun _ h_ => h_.1))) (Kd.R_base ho0) hb); have n2_ := zM (ze (by (with_reducible repeat (first | apply zI | apply zJ | apply zK)); exact (z1 (zc (p := ⟨gb429, 3, none⟩) (zc (p := ⟨gb429, 2, none⟩) (zc (p := ⟨gb429, 1, none⟩) (zc (p := ⟨gb429, 0, none⟩) (Kd.R_types HO425.out BK429.out (by decide)) (fun _ hk => hk.2) (.slice Ao28 t423.length co28)) (fun _ hk => hk.2) (.int .i64 t426)) (fun _ hk => hk.2) (.int .i64 t427)) (fun _ hk => hk.2) (.int .i64 t428)) (fun _ h_ => h_.1))) hb); have n3_ := zM (zf (Kd.R_new' ho0 (Kd.R_lt (by (with_reducible repeat (first | apply zI | apply zJ | apply zK)); exact (z1 (zc (p := ⟨gb429, 3, none⟩) (zc (p := ⟨gb429, 2, none⟩) (zc (p := ⟨gb429, 1, none⟩) (zc (p := ⟨gb429, 0, none⟩) (Kd.R_types HO422.out BK429.out (by decide)) (fun _ hk => hk.2) (.slice Ao28 t423.length co28)) (fun _ hk => hk.2) (.int .i64 t426)) (fun _ hk => hk.2) (.int .i64 t427)) (fun _ hk => hk.2) (.int .i64 t428)) (fun _ h_ => h_.1))))) (zR zb)); have n4_ := zM (z7 (g := gb412) (o := .cells #[.slice A0_0 l0_0.length c0_0, .int .i64 a0_1, .int .i64 a0_2, .int .i64 a0_3] 43 (0, 0)) (by (with_reducible repeat (first | refine zN ?_ _ | refine zO ?_ | refine zP ?_ _)); refine blk_far ?_ NB412_429.out _; (with_reducible repeat (first | refine zN ?_ _ | refine zO ?_ | refine zP ?_ _)); refine blk_far ?_ NB412_429.out _; (with_reducible repeat (first | refine zN ?_ _ | refine zO ?_ | refine zP ?_ _)); refine blk_far ?_ NB412_429.out _; (with_reducible repeat (first | refine zN ?_ _ | refine zO ?_ | refine zP ?_ _)); refine blk_far ?_ NB412_429.out _; (with_reducible repeat (first | refine zN ?_ _ | refine zO ?_ | refine zP ?_ _)); exact BK412.out) hb); have n5_ := zM (z7 (g := gb429) (o := .cells #[.slice Ao28 t423.length co28, .int .i64 t426, .int .i64 t427, .int .i64 t428] 47 (0, 0)) (by (with_reducible repeat (first | refine zN ?_ _ | refine zO ?_ | refine zP ?_ _)); refine blk_put (cs := #[.slice Ao28 t423.length co28, .int .i64 t426, .int .i64 t427, .int .i64 0]) ?_ 3 _ rfl; (with_reducible repeat (first | refine zN ?_ _ | refine zO ?_ | refine zP ?_ _)); refine blk_put (cs := #[.slice Ao28 t423.length co28, .int .i64 t426, .int .i64 0, .int .i64 0]) ?_ 2 _ rfl; (with_reducible repeat (first | refine zN ?_ _ | refine zO ?_ | refine zP ?_ _)); refine blk_put (cs := #[.slice Ao28 t423.length co28, .int .i64 0, .int .i64 0, .int .i64 0]) ?_ 1 _ rfl; (with_reducible repeat (first | refine zN ?_ _ | refine zO ?_ | refine zP ?_ _)); refine blk_put (cs := #[.slice none 0 0, .int .i64 0, .int .i64 0, .int .i64 0]) ?_ 0 _ rfl; (with_reducible repeat (first | refine zN ?_ _ | refine zO ?_ | refine zP ?_ _)); exact BK429.out) hb); have n6_ := zM (zQ zb hb); clear HO416; clear HO422; clear HO425; clear BK412; clear BK429; clear HB; have HO416 := n0_; have HO422 := n1_; have HO425 := n2_; have HO432 := n3_; have BK412 := n4_; have BK429 := n5_; have HB := n6_; clear n0_ n1_ n2_ n3_ n4_ n5_ n6_; (try clear hb); (try clear hk); (try clear ho0); obtain ⟨Ao32, co32, eo32⟩ := Kd.R_slice HO432.out; subst eo32; obtain ⟨Ao33, co33, eo33⟩ := Kd.R_slice HO422.out; subst eo33) | ((with_reducible refine gate_callee (f := 16) rfl ?_); refine goesL_ (some 25) rfl rfl Try.func16 (by kernel_rfl) rfl #[.slice Ao32 t430.length co32, .slice Ao33 t420.length co33] rfl zg ?_; (with_reducible refine (laws_eqIntS.calls k _ _ t430 _ _ t420 true _ ?side1 ?side2 ?side3 ?side4 A11.out).mono ?_); (case side1 => repeat (first | exact (z9 HO432.out).2.2 | (with_reducible refine zF ?_ _) | (with_reducible refine zG ?_ _) | (with_reducible refine zH ?_))); (case side2 => exact (z9 HO432.out).2.1); (case side3 => repeat (first | exact (z9 HO422.out).2.2 | (with_reducible refine zF ?_ _) | (with_reducible refine zG ?_ _) | (with_reducible refine zH ?_))); (case side4 => exact (z9 HO422.out).2.1); rintro e w' ⟨rfl, ⟨nd, rfl⟩⟩; refine ⟨_, rfl, ?_⟩))
    (try (rw [drewN_self w31]; generalize hq_ : World.drewN w31 _ = w31; have n0_ : Aside0 (Kd.R k39 39 w31 w.heap.size (fun k_ => some k_ ≠ (.slice Ao28 t423.length co28 : Value).ownBlock) (.slice Ao23 t414.length co23) t414) := ⟨by rw [← hq_]; exact (by (with_reducible repeat (first | apply zI | apply zJ | apply zK)); exact z1 HO416.out (fun _ hk => hk.2))⟩; have n1_ : Aside0 (Kd.R (Kd.int .i64) 3 w31 w.heap.size (fun k_ => some k_ ≠ (.slice Ao32 t430.length co32 : Value).ownBlock) (.slice Ao33 t420.length co33) t420) := ⟨by rw [← hq_]; exact (by (with_reducible repeat (first | apply zI | apply zJ | apply zK)); exact z1 HO422.out (fun _ hk => hk.2))⟩; have n2_ : Aside0 (Kd.R k39 39 w31 w.heap.size (fun k_ => some k_ ≠ (.slice Ao23 t414.length co23 : Value).ownBlock) (.slice Ao28 t423.length co28) t423) := ⟨by rw [← hq_]; exact (by (with_reducible repeat (first | apply zI | apply zJ | apply zK)); exact z1 HO425.out (fun _ hk => hk.2))⟩; have n3_ : Aside0 (Kd.R (Kd.int .i64) 3 w31 w.heap.size (fun k_ => some k_ ≠ (.slice Ao33 t420.length co33 : Value).ownBlock) (.slice Ao32 t430.length co32) t430) := ⟨by rw [← hq_]; exact (by (with_reducible repeat (first | apply zI | apply zJ | apply zK)); exact z1 HO432.out (fun _ hk => hk.2))⟩; have n4_ : Aside0 (w31.heap[gb412]? = some (.cells #[.slice A0_0 l0_0.length c0_0, .int .i64 a0_1, .int .i64 a0_2, .int .i64 a0_3] 43 (0, 0))) := ⟨by rw [← hq_]; exact zk⟩; have n5_ : Aside0 (w31.heap[gb429]? = some (.cells #[.slice Ao28 t423.length co28, .int .i64 t426, .int .i64 t427, .int .i64 t428] 47 (0, 0))) := ⟨by rw [← hq_]; exact zk⟩; have n6_ : Aside0 (Below w.heap.size w w31) := ⟨by rw [← hq_]; exact zb⟩; clear HO416 HO422 HO425 HO432 BK412 BK429 HB hq_; have HO416 := n0_; have HO422 := n1_; have HO425 := n2_; have HO432 := n3_; have BK412 := n4_; have BK429 := n5_; have HB := n6_; clear n0_ n1_ n2_ n3_ n4_ n5_ n6_))
    have n0_ := zM (zK HO416.out)
    have n1_ := zM (zK HO422.out)
    have n2_ := zM (zK HO425.out)
    have n3_ := zM (zK HO432.out)
    have n4_ := zM (zO BK412.out)
    have n5_ := zM (zO BK429.out)
    have n6_ := zM (z4 HB.out)
    clear HO416
    clear HO422
    clear HO425
    clear HO432
    clear BK412
    clear BK429
    clear HB
    have HO416 := n0_
    have HO422 := n1_
    have HO425 := n2_
    have HO432 := n3_
    have BK412 := n4_
    have BK429 := n5_
    have HB := n6_
    clear n0_ n1_ n2_ n3_ n4_ n5_ n6_
    refine start_ (n := 5) (S := fun w' => w'.cell? ⟨gb429, 0, none⟩ = some (.slice Ao28 t423.length co28) ∧ w'.cell? ⟨gb429, 1, none⟩ = some (.int .i64 t426) ∧ w'.cell? ⟨gb429, 2, none⟩ = some (.int .i64 t427) ∧ w'.cell? ⟨gb429, 3, none⟩ = some (.int .i64 t428) ∧ w'.cell? ⟨gb412, 0, none⟩ = some (.slice A0_0 l0_0.length c0_0) ∧ w'.cell? ⟨gb412, 1, none⟩ = some (.int .i64 a0_1) ∧ w'.cell? ⟨gb412, 2, none⟩ = some (.int .i64 a0_2) ∧ w'.cell? ⟨gb412, 3, none⟩ = some (.int .i64 a0_3)) (ds := []) #[false, false, false, false, false] (by kernel_rfl) rfl rfl ⟨(z5 BK429.out 0).trans rfl, (z5 BK429.out 1).trans rfl, (z5 BK429.out 2).trans rfl, (z5 BK429.out 3).trans rfl, (z5 BK412.out 0).trans rfl, (z5 BK412.out 1).trans rfl, (z5 BK412.out 2).trans rfl, (z5 BK412.out 3).trans rfl⟩ (fun hHeld => ?_)
    generalize w31.drew = w34 at HO416 HO422 HO425 HO432 BK412 BK429 HB hHeld ⊢
    refine take_ (i := 0) (N := some 27) (v := ?_) (a' := ?_) #[true, false, false, false, false] rfl rfl (by kernel_rfl) (fun _ _ _ h => h) (Or.inl ⟨by rfl, ?_⟩) hHeld ?_ ?_
    rotate_left
    ·rintro w' ⟨s0, s1, s2, s3, s4, s5, s6, s7⟩
     go_simp
     with_reducible rfl
    rotate_left
    ·simp only [Act.put, List.setIfInBounds_toArray, List.set_cons_zero, List.set_cons_succ, i64_w, i32_w]
     rfl
    refine take_ (i := 1) (N := some 28) (v := ?_) (a' := ?_) #[true, true, false, false, false] rfl rfl (by kernel_rfl) (fun _ _ _ h => h) (Or.inl ⟨by rfl, ?_⟩) hHeld ?_ ?_
    rotate_left
    ·rintro w' ⟨s0, s1, s2, s3, s4, s5, s6, s7⟩
     go_simp
     with_reducible rfl
    rotate_left
    ·simp only [Act.put, List.setIfInBounds_toArray, List.set_cons_zero, List.set_cons_succ, i64_w, i32_w]
     rfl
    refine one_ (i := 2) (N := some 29) #[true, true, true, false, false] rfl rfl (by kernel_rfl) (by decide) (fun K hK => ?_)
    refine goes_ Try.func29 (by kernel_rfl) rfl #[.agg #[.slice A0_0 l0_0.length c0_0, .int .i64 a0_1, .int .i64 a0_2, .int .i64 a0_3]] (by rfl) rfl rfl zg ?_
    with_reducible refine (laws_toTask.calls k _ _ l0_0 a0_1 a0_2 a0_3 t434 t437 t438 t439 _ ?side1 ?side2 A13.out).mono ?_
    (case side1 => repeat (first | exact (zX HR0_0.out HB.out) | (with_reducible refine zF ?_ _) | (with_reducible refine zG ?_ _) | (with_reducible refine zH ?_)))
    (case side2 => exact HC0_0.out)
    rintro e w35 ⟨v435, rfl, ho0, hb⟩
    refine ⟨_, rfl, ?_⟩
    have n0_ := zM (Kd.R_elder' (by (with_reducible repeat (first | apply zI | apply zJ | apply zK)); exact HO416.out) (Kd.R_base ho0) hb)
    have n1_ := zM (ze (by (with_reducible repeat (first | apply zI | apply zJ | apply zK)); exact HO422.out) hb)
    have n2_ := zM (Kd.R_elder' (by (with_reducible repeat (first | apply zI | apply zJ | apply zK)); exact HO425.out) (Kd.R_base ho0) hb)
    have n3_ := zM (ze (by (with_reducible repeat (first | apply zI | apply zJ | apply zK)); exact HO432.out) hb)
    have n4_ := zM (zf (Kd.R_new' (Kd.R_new' ho0 (Kd.R_lt (by (with_reducible repeat (first | apply zI | apply zJ | apply zK)); exact HO416.out))) (Kd.R_lt (by (with_reducible repeat (first | apply zI | apply zJ | apply zK)); exact HO425.out))) (zR zb))
    have n5_ := zM (z7 (g := gb412) (o := .cells #[.slice A0_0 l0_0.length c0_0, .int .i64 a0_1, .int .i64 a0_2, .int .i64 a0_3] 43 (0, 0)) zk hb)
    have n6_ := zM (z7 (g := gb429) (o := .cells #[.slice Ao28 t423.length co28, .int .i64 t426, .int .i64 t427, .int .i64 t428] 47 (0, 0)) zk hb)
    have n7_ := zM (zQ zb hb)
    clear HO416
    clear HO422
    clear HO425
    clear HO432
    clear BK412
    clear BK429
    clear HB
    have HO416 := n0_
    have HO422 := n1_
    have HO425 := n2_
    have HO432 := n3_
    have HO436 := n4_
    have BK412 := n5_
    have BK429 := n6_
    have HB := n7_
    clear n0_ n1_ n2_ n3_ n4_ n5_ n6_ n7_
    (try clear hb)
    (try clear hb2)
    (try clear hk)
    (try clear hi)
    (try clear ho0)
    obtain ⟨Ao36, co36, eo36⟩ := Kd.R_slice HO436.out
    (first | subst eo36 | (injection eo36 with f1_ f2_ f3_; have f4_ := f1_.symm; have f5_ := f3_.symm; clear f1_ f2_ f3_; subst f4_; subst f5_))
    refine hK.out _ _ ⟨(z5 BK429.out 0).trans rfl, (z5 BK429.out 1).trans rfl, (z5 BK429.out 2).trans rfl, (z5 BK429.out 3).trans rfl, (z5 BK412.out 0).trans rfl, (z5 BK412.out 1).trans rfl, (z5 BK412.out 2).trans rfl, (z5 BK412.out 3).trans rfl⟩ (fun hHeld => ?_)
    clear hK K
    refine norm_ (a' := ?_) ?_ ?_
    rotate_left
    ·show Act.put _ (some 29) _ = _
     simp only [Act.put, List.setIfInBounds_toArray, List.set_cons_zero, List.set_cons_succ, i64_w, i32_w]
     rfl
    refine one_ (i := 3) (N := some 30) #[true, true, true, true, false] rfl rfl (by kernel_rfl) (by decide) (fun K hK => ?_)
    refine goes_ Try.func31 (by kernel_rfl) rfl #[.agg #[.slice Ao28 t423.length co28, .int .i64 t426, .int .i64 t427, .int .i64 t428], .agg #[.slice Ao36 t434.length co36, .int .i64 t437, .int .i64 t438, .int .i64 t439]] (by rfl) rfl rfl zg ?_
    with_reducible refine (laws_eqTask.calls k _ _ t423 t426 t427 t428 _ _ t434 t437 t438 t439 true _ ?side1 ?side2 ?side3 ?side4 A14.out).mono ?_
    (case side1 => repeat (first | exact (z9 HO425.out).2.2 | (with_reducible refine zF ?_ _) | (with_reducible refine zG ?_ _) | (with_reducible refine zH ?_)))
    (case side2 => exact (z9 HO425.out).2.1)
    (case side3 => repeat (first | exact (z9 HO436.out).2.2 | (with_reducible refine zF ?_ _) | (with_reducible refine zG ?_ _) | (with_reducible refine zH ?_)))
    (case side4 => exact (z9 HO436.out).2.1)
    rintro e w37 ⟨rfl, hb⟩
    refine ⟨_, rfl, ?_⟩
    have n0_ := zM (ze (by (with_reducible repeat (first | apply zI | apply zJ | apply zK)); exact HO416.out) hb)
    have n1_ := zM (ze (by (with_reducible repeat (first | apply zI | apply zJ | apply zK)); exact HO422.out) hb)
    have n2_ := zM (ze (by (with_reducible repeat (first | apply zI | apply zJ | apply zK)); exact HO425.out) hb)
    have n3_ := zM (ze (by (with_reducible repeat (first | apply zI | apply zJ | apply zK)); exact HO432.out) hb)
    have n4_ := zM (ze (by (with_reducible repeat (first | apply zI | apply zJ | apply zK)); exact HO436.out) hb)
    have n5_ := zM (z7 (g := gb412) (o := .cells #[.slice A0_0 l0_0.length c0_0, .int .i64 a0_1, .int .i64 a0_2, .int .i64 a0_3] 43 (0, 0)) zk hb)
    have n6_ := zM (z7 (g := gb429) (o := .cells #[.slice Ao28 t423.length co28, .int .i64 t426, .int .i64 t427, .int .i64 t428] 47 (0, 0)) zk hb)
    have n7_ := zM (zQ zb hb)
    clear HO416
    clear HO422
    clear HO425
    clear HO432
    clear HO436
    clear BK412
    clear BK429
    clear HB
    have HO416 := n0_
    have HO422 := n1_
    have HO425 := n2_
    have HO432 := n3_
    have HO436 := n4_
    have BK412 := n5_
    have BK429 := n6_
    have HB := n7_
    clear n0_ n1_ n2_ n3_ n4_ n5_ n6_ n7_
    (try clear hb)
    (try clear hb2)
    (try clear hk)
    (try clear hi)
    refine hK.out _ _ ⟨(z5 BK429.out 0).trans rfl, (z5 BK429.out 1).trans rfl, (z5 BK429.out 2).trans rfl, (z5 BK429.out 3).trans rfl, (z5 BK412.out 0).trans rfl, (z5 BK412.out 1).trans rfl, (z5 BK412.out 2).trans rfl, (z5 BK412.out 3).trans rfl⟩ (fun hHeld => ?_)
    clear hK K
    refine norm_ (a' := ?_) ?_ ?_
    rotate_left
    ·show Act.put _ (some 30) _ = _
     simp only [Act.put, List.setIfInBounds_toArray, List.set_cons_zero, List.set_cons_succ, i64_w, i32_w]
     rfl
    refine pure_ (i := 4) (N := some 31) (v := ?_) (a' := ?_) #[true, true, true, true, true] rfl rfl (by kernel_rfl) (fun _ _ _ h => h) (Or.inl ⟨by rfl, ?_⟩) ?_ ?_
    rotate_left
    ·intro w'
     go_simp
     with_reducible rfl
    rotate_left
    ·simp only [Act.put, List.setIfInBounds_toArray, List.set_cons_zero, List.set_cons_succ, i64_w, i32_w]
     rfl
    refine done_ (by kernel_rfl) ?_
    have hcz38_0 := (z5 BK429.out 0).trans rfl
    have hcz38_1 := (z5 BK429.out 1).trans rfl
    have hcz38_2 := (z5 BK429.out 2).trans rfl
    have hcz38_3 := (z5 BK429.out 3).trans rfl
    have hfz38_0 := z6 BK429.out 0
    have hfz38_1 := z6 BK429.out 1
    have hfz38_2 := z6 BK429.out 2
    have hfz38_3 := z6 BK429.out 3
    go_upto_region 14 with (first | ((with_reducible refine gate_callee (f := 32) rfl ?_); refine goesL_ (some 34) rfl rfl Try.func32 (by kernel_rfl) rfl #[.agg #[.slice Ao28 t423.length co28, .int .i64 t426, .int .i64 t427, .int .i64 t428], .int .i64 1] rfl zg ?_; (with_reducible refine (laws_markTask.calls k (fun k_ => some k_ = (.slice Ao28 t423.length co28 : Value).ownBlock) (.slice Ao28 t423.length co28) t423 t426 t427 t428 1 t441 t442 w _ ?side1 ?side2 A16.out).mono ?_); (case side1 => repeat (first | (with_reducible first | exact HB.out | apply z2 | apply z3 | apply z4 | refine zS ?_ GE412.out | refine zS ?_ GE429.out) | exact HB.out)); (case side2 => exact Kd.R_tight rfl HO425.out); rintro e w39 ⟨rfl, hy0, hb, hkp⟩; refine ⟨_, rfl, ?_⟩; have n0_ := zM (blk_kept zk hkp (fun hs_ => (fun e_ => (Kd.R_ne HO425.out BK412.out (by decide)) e_) hs_)); have n1_ := zM (z1 (ok' := fun k_ => some k_ ≠ (.slice Ao28 t423.length co28 : Value).ownBlock ∧ some k_ ≠ (.slice Ao36 t434.length co36 : Value).ownBlock) (Kd.R_keptB (HO416.out) hkp (fun k_ hk_ hs_ => (by first | exact hk_.1.2 hs_ | exact hk_.1 hs_ | exact hk_.2 hs_))) (fun k_ hk_ => (by first | exact ⟨hk_.1.1.2, hk_.1.2⟩ | exact hk_.1))); have n2_ := zM (z1 (ok' := fun k_ => some k_ ≠ (.slice Ao32 t430.length co32 : Value).ownBlock) (Kd.R_keptB ((zh_ HO422.out (Kd.R_typed HO425.out) (by decide))) hkp (fun k_ hk_ hs_ => (hk_.2) hs_)) (fun k_ hk_ => (by first | exact hk_.1.1.2 | exact hk_.1.1 | exact hk_.1))); have n3_ := zM (Kd.R_reok rfl hy0 (fun k_ e_ => HO425.out.1 k_ e_)); have n4_ := zM (blk_kept zk hkp (fun hs_ => (fun e_ => (Kd.R_ne HO425.out BK429.out (by decide)) e_) hs_)); have n5_ := zM (z1 (ok' := fun k_ => some k_ ≠ (.slice Ao33 t420.length co33 : Value).ownBlock) (Kd.R_keptB ((zh_ HO432.out (Kd.R_typed HO425.out) (by decide))) hkp (fun k_ hk_ hs_ => (hk_.2) hs_)) (fun k_ hk_ => (by first | exact hk_.1.1.2 | exact hk_.1.1 | exact hk_.1))); have n6_ := zM (z1 (ok' := fun k_ => some k_ ≠ (.slice Ao23 t414.length co23 : Value).ownBlock ∧ some k_ ≠ (.slice Ao28 t423.length co28 : Value).ownBlock) (Kd.R_keptB (HO436.out) hkp (fun k_ hk_ hs_ => (hk_.2) hs_)) (fun k_ hk_ => (by first | exact ⟨hk_.1.1.2, hk_.1.2⟩ | exact hk_.1))); have n7_ := zM (hb); clear BK412; clear HO416; clear HO422; clear HO425; clear BK429; clear HO432; clear HO436; clear HB; have BK412 := n0_; have HO416 := n1_; have HO422 := n2_; have HO425 := n3_; have BK429 := n4_; have HO432 := n5_; have HO436 := n6_; have HB := n7_; clear n0_ n1_ n2_ n3_ n4_ n5_ n6_ n7_; (try clear hb); (try clear hkp); (try clear hy0)))
    (try simp only [Act.put, List.setIfInBounds_toArray, List.set_cons_zero, List.set_cons_succ])
    go_cut [42] (fun v42 wc => ∃ (kq : Nat) (x42_16 : Bool), v42 = .bool x42_16 ∧ Aside0 (laws_FnExactMustLog.j0 kq t420 t430 x42_16 l0_0 a0_1 a0_2 a0_3 = some r) ∧ Aside0 (kq ≤ k) ∧ Aside0 (Kd.R (Kd.int .i64) 3 wc w.heap.size (fun k_ => some k_ ≠ ((.slice Ao32 t430.length co32) : Value).ownBlock) (.slice Ao33 t420.length co33) t420) ∧ Aside0 (Kd.R (Kd.int .i64) 3 wc w.heap.size (fun k_ => some k_ ≠ ((.slice Ao33 t420.length co33) : Value).ownBlock) (.slice Ao32 t430.length co32) t430) ∧ Aside0 (Kd.R k39 39 wc w.heap.size (fun _ => True) (.slice Ao28 t423.length co28) t442) ∧ Aside0 (wc.heap[gb412]? = some (.cells #[(.slice A0_0 l0_0.length c0_0), .int .i64 a0_1, .int .i64 a0_2, .int .i64 a0_3] 43 (0, 0))) ∧ Aside0 (wc.heap[gb429]? = some (.cells #[(.slice Ao28 t423.length co28), .int .i64 t426, .int .i64 t427, .int .i64 t428] 47 (0, 0))) ∧ Aside0 (Below w.heap.size w wc))
    case first =>
     have H := HC17.out
     clear HC17
     by_cases c40 : t441 < 0
     ·rw [if_pos c40] at H
      have c40b0 : decide (t441 < 0) = true := decide_eq_true c40
      clear c40
      (first | rw [c40b0] | (simp only [i64_w, i32_w]; rw [c40b0]) | skip)
      have H' := zM H
      clear H
      go_wp2
      go_meet
      case rel => exact ⟨_, (true), zs, H', ⟨by first | omega | exact Nat.le_refl _⟩, ⟨by (with_reducible repeat (first | apply zI | apply zJ | apply zK)); exact HO422.out⟩, ⟨by (with_reducible repeat (first | apply zI | apply zJ | apply zK)); exact HO432.out⟩, ⟨by (with_reducible repeat (first | apply zI | apply zJ | apply zK)); exact z1 HO425.out (fun _ hk => trivial)⟩, ⟨zk⟩, ⟨zk⟩, ⟨zb⟩⟩
     ·rw [if_neg c40] at H
      have c40b0 : decide (t441 < 0) = false := decide_eq_false c40
      clear c40
      (first | rw [c40b0] | (simp only [i64_w, i32_w]; rw [c40b0]) | skip)
      replace H := Option.bind_eq_some_iff.mp H
      obtain ⟨t443, A410, H⟩ := H
      replace H : (laws_FnExactMustLog.j0 k t420 t430 (!t443) l0_0 a0_1 a0_2 a0_3) = some r := H
      have A41 := zM A410
      clear A410
      have H' := zM H
      clear H
      go_wp2_with (first | (go_at_call 16; (with_reducible refine (laws_eqIntS.calls k _ _ t430 _ _ t420 t443 _ ?side1 ?side2 ?side3 ?side4 A41.out).mono ?_); (case side1 => repeat (first | exact (z9 HO432.out).2.2 | (with_reducible refine zF ?_ _) | (with_reducible refine zG ?_ _) | (with_reducible refine zH ?_))); (case side2 => exact (z9 HO432.out).2.1); (case side3 => repeat (first | exact (z9 HO422.out).2.2 | (with_reducible refine zF ?_ _) | (with_reducible refine zG ?_ _) | (with_reducible refine zH ?_))); (case side4 => exact (z9 HO422.out).2.1); rintro e w' ⟨rfl, ⟨nd, rfl⟩⟩))
      go_meet
      case rel => exact ⟨_, (!t443), zs, H', ⟨by first | omega | exact Nat.le_refl _⟩, ⟨by (with_reducible repeat (first | apply zI | apply zJ | apply zK)); exact HO422.out⟩, ⟨by (with_reducible repeat (first | apply zI | apply zJ | apply zK)); exact HO432.out⟩, ⟨by (with_reducible repeat (first | apply zI | apply zJ | apply zK)); exact z1 HO425.out (fun _ hk => trivial)⟩, ⟨zk⟩, ⟨zk⟩, ⟨zb⟩⟩
    case rest =>
     clear HC17
     try clear c1
     try clear c2
     try clear p2
     try clear c3
     try clear c3b0
     try clear c4
     try clear c7
     try clear c12
     try clear c15
     try clear c16
     try clear c27
     try clear c29
     try clear c31
     try clear c32
     try clear c33
     try clear c34
     try clear c40
     try clear c40b0
     try clear hcz19_0
     try clear hcz19_1
     try clear hcz19_2
     try clear hcz19_3
     try clear hcz21_0
     try clear hcz21_1
     try clear hcz21_2
     try clear hcz21_3
     try clear hcz25_0
     try clear hcz25_1
     try clear hcz25_2
     try clear hcz25_3
     try clear hcz30_0
     try clear hcz30_1
     try clear hcz30_2
     try clear hcz30_3
     try clear hcz38_0
     try clear hcz38_1
     try clear hcz38_2
     try clear hcz38_3
     try clear hcz5_0
     try clear hcz5_1
     try clear hcz5_2
     try clear hcz5_3
     try clear hfz19_0
     try clear hfz19_1
     try clear hfz19_2
     try clear hfz19_3
     try clear hfz21_0
     try clear hfz21_1
     try clear hfz21_2
     try clear hfz21_3
     try clear hfz25_0
     try clear hfz25_1
     try clear hfz25_2
     try clear hfz25_3
     try clear hfz30_0
     try clear hfz30_1
     try clear hfz30_2
     try clear hfz30_3
     try clear hfz38_0
     try clear hfz38_1
     try clear hfz38_2
     try clear hfz38_3
     try clear hfz5_0
     try clear hfz5_1
     try clear hfz5_2
     try clear hfz5_3
     obtain ⟨kq, x42_16, rfl, HA, HJ16, HO_4, HO_6, HO_430000, BK412, BK429, HB⟩ := hcut
     have hl430000_16 := (z9 HO_430000.out).1
     rw [hl430000_16] at HO_430000
     (try simp only [hl430000_16])
     (try simp only [hl430000_16] at BK412)
     (try simp only [hl430000_16] at BK429)
     (try simp only [hl430000_16] at HO_4)
     (try simp only [hl430000_16] at HO_6)
     cases kq with
     | zero => exact absurd HA.out (by simp [laws_FnExactMustLog.j0])
     | succ kj16 =>
      have H := HA.out
      clear HA
      simp only [laws_FnExactMustLog.j0] at H
      by_cases c42 : x42_16 = true
      ·subst c42
       have H1 : (some false) = some r := by rw [if_pos rfl] at H; exact H
       clear H
       have H := H1
       clear H1
       exact absurd ((Option.some.inj H).trans ht_) (by decide)
      ·replace c42 := Bool.eq_false_iff.mpr c42
       subst c42
       have H1 : ((laws_markIntS.f kj16 t430 1).bind fun bt444 => ((laws_heldIntS.f kj16 bt444.2 1).bind fun t446 => (if t446 < 0 then (some false) else (if t446 = bt444.1 then ((laws_toTask.f kj16 l0_0 a0_1 a0_2 a0_3).bind fun bt447 => ((impl_MustLog.f kj16 bt447.1 bt447.2.1 bt447.2.2.1 bt447.2.2.2).bind fun t453 => ((laws_eqIntS.f kj16 t453 t420).bind fun t456 => (if t456 = true then ((laws_heldIntS.f kj16 bt444.2 1).bind fun t457 => (if t457 < 0 then (some false) else (if t457 = bt444.1 then (some true) else (some false)))) else (some false))))) else (some false))))) = some r := by rw [if_neg (show ¬ (false = true) by decide)] at H; exact H
       clear H
       have H := H1
       clear H1
       replace H := Option.bind_eq_some_iff.mp H
       obtain ⟨⟨t444, t445⟩, A430, H⟩ := H
       replace H : ((laws_heldIntS.f kj16 t445 1).bind fun t446 => (if t446 < 0 then (some false) else (if t446 = t444 then ((laws_toTask.f kj16 l0_0 a0_1 a0_2 a0_3).bind fun bt447 => ((impl_MustLog.f kj16 bt447.1 bt447.2.1 bt447.2.2.1 bt447.2.2.2).bind fun t453 => ((laws_eqIntS.f kj16 t453 t420).bind fun t456 => (if t456 = true then ((laws_heldIntS.f kj16 t445 1).bind fun t457 => (if t457 < 0 then (some false) else (if t457 = t444 then (some true) else (some false)))) else (some false))))) else (some false)))) = some r := H
       have A43 := zM A430
       clear A430
       replace H := Option.bind_eq_some_iff.mp H
       obtain ⟨t446, A440, H⟩ := H
       replace H : (if t446 < 0 then (some false) else (if t446 = t444 then ((laws_toTask.f kj16 l0_0 a0_1 a0_2 a0_3).bind fun bt447 => ((impl_MustLog.f kj16 bt447.1 bt447.2.1 bt447.2.2.1 bt447.2.2.2).bind fun t453 => ((laws_eqIntS.f kj16 t453 t420).bind fun t456 => (if t456 = true then ((laws_heldIntS.f kj16 t445 1).bind fun t457 => (if t457 < 0 then (some false) else (if t457 = t444 then (some true) else (some false)))) else (some false))))) else (some false))) = some r := H
       have A44 := zM A440
       clear A440
       by_cases c45 : t446 < 0
       ·rw [if_pos c45] at H
        have c45b0 : decide (t446 < 0) = true := decide_eq_true c45
        clear c45
        exact absurd ((Option.some.inj H).trans ht_) (by decide)
       ·rw [if_neg c45] at H
        have c45b0 : decide (t446 < 0) = false := decide_eq_false c45
        clear c45
        by_cases c46 : t446 = t444
        ·rw [if_pos c46] at H
         have c46b0 : (t446 == t444) = true := beq_iff_eq.mpr c46
         have c46b1 : (t446 != t444) = false := bne_eq_false_iff_eq.mpr c46
         clear c46
         replace H := Option.bind_eq_some_iff.mp H
         obtain ⟨⟨t447, t450, t451, t452⟩, A470, H⟩ := H
         replace H : ((impl_MustLog.f kj16 t447 t450 t451 t452).bind fun t453 => ((laws_eqIntS.f kj16 t453 t420).bind fun t456 => (if t456 = true then ((laws_heldIntS.f kj16 t445 1).bind fun t457 => (if t457 < 0 then (some false) else (if t457 = t444 then (some true) else (some false)))) else (some false)))) = some r := H
         have A47 := zM A470
         clear A470
         replace H := Option.bind_eq_some_iff.mp H
         obtain ⟨t453, A480, H⟩ := H
         replace H : ((laws_eqIntS.f kj16 t453 t420).bind fun t456 => (if t456 = true then ((laws_heldIntS.f kj16 t445 1).bind fun t457 => (if t457 < 0 then (some false) else (if t457 = t444 then (some true) else (some false)))) else (some false))) = some r := H
         have A48 := zM A480
         clear A480
         replace H := Option.bind_eq_some_iff.mp H
         obtain ⟨t456, A490, H⟩ := H
         replace H : (if t456 = true then ((laws_heldIntS.f kj16 t445 1).bind fun t457 => (if t457 < 0 then (some false) else (if t457 = t444 then (some true) else (some false)))) else (some false)) = some r := H
         have A49 := zM A490
         clear A490
         by_cases c50 : t456 = true
         ·subst c50
          have H1 : ((laws_heldIntS.f kj16 t445 1).bind fun t457 => (if t457 < 0 then (some false) else (if t457 = t444 then (some true) else (some false)))) = some r := by rw [if_pos rfl] at H; exact H
          clear H
          have H := H1
          clear H1
          replace H := Option.bind_eq_some_iff.mp H
          obtain ⟨t457, A510, H⟩ := H
          replace H : (if t457 < 0 then (some false) else (if t457 = t444 then (some true) else (some false))) = some r := H
          have A51 := zM A510
          clear A510
          by_cases c52 : t457 < 0
          ·rw [if_pos c52] at H
           have c52b0 : decide (t457 < 0) = true := decide_eq_true c52
           clear c52
           exact absurd ((Option.some.inj H).trans ht_) (by decide)
          ·rw [if_neg c52] at H
           have c52b0 : decide (t457 < 0) = false := decide_eq_false c52
           clear c52
           by_cases c53 : t457 = t444
           ·rw [if_pos c53] at H
            have c53b0 : (t457 == t444) = true := beq_iff_eq.mpr c53
            have c53b1 : (t457 != t444) = false := bne_eq_false_iff_eq.mpr c53
            clear c53
            obtain rfl := Option.some.inj H
            go_wp2_with (first | ((with_reducible refine gate_callee (f := 19) rfl ?_); refine goesL_ (some 45) rfl rfl Try.func19 (by kernel_rfl) rfl #[.slice Ao32 t430.length co32, .int .i64 1] rfl zg ?_; (with_reducible refine (laws_markIntS.calls kj16 (fun k_ => some k_ = (.slice Ao32 t430.length co32 : Value).ownBlock) (.slice Ao32 t430.length co32) t430 1 t444 t445 w _ ?side1 ?side2 A43.out).mono ?_); (case side1 => repeat (first | (with_reducible first | exact HB.out | apply z2 | apply z3 | apply z4 | refine zS ?_ GE412.out | refine zS ?_ GE429.out) | exact HB.out)); (case side2 => exact Kd.R_tight rfl HO_6.out); rintro e w54 ⟨rfl, hy0, hb, hkp⟩; refine ⟨_, rfl, ?_⟩; have n0_ := zM (z1 (ok' := fun k_ => some k_ ≠ (.slice Ao32 t430.length co32 : Value).ownBlock) (Kd.R_keptB (HO_4.out) hkp (fun k_ hk_ hs_ => (hk_) hs_)) (fun k_ hk_ => hk_.1)); have n1_ := zM (Kd.R_reok rfl hy0 (fun k_ e_ => HO_6.out.1 k_ e_)); have n2_ := zM (z1 (ok' := fun k_ => True) (Kd.R_keptB ((zh_ HO_430000.out (Kd.R_typed HO_6.out) (by decide))) hkp (fun k_ hk_ hs_ => (hk_.2) hs_)) (fun k_ hk_ => trivial)); have n3_ := zM (blk_kept zk hkp (fun hs_ => (fun e_ => (Kd.R_ne HO_6.out BK412.out (by decide)) e_) hs_)); have n4_ := zM (blk_kept zk hkp (fun hs_ => (fun e_ => (Kd.R_ne HO_6.out BK429.out (by decide)) e_) hs_)); have n5_ := zM (hb); clear HO_4; clear HO_6; clear HO_430000; clear BK412; clear BK429; clear HB; have HO_4 := n0_; have HO_6 := n1_; have HO_430000 := n2_; have BK412 := n3_; have BK429 := n4_; have HB := n5_; clear n0_ n1_ n2_ n3_ n4_ n5_; (try clear hb); (try clear hkp); (try clear hy0)) | ((with_reducible refine gate_callee (f := 20) rfl ?_); refine goesL_ (some 48) rfl rfl Try.func20 (by kernel_rfl) rfl #[.slice Ao32 t445.length co32, .int .i64 1] rfl (by (try simp only [List.map_toArray, List.map_cons, List.map_nil]); first | done | (rw [show t445.length = t430.length from (z9 HO_6.out).1.symm] <;> rfl) | rfl | (simp only [List.length_drop, List.length_take]; rfl)) ?_; (with_reducible refine (laws_heldIntS.calls kj16 _ _ t445 1 t446 _ ?side1 ?side2 A44.out).mono ?_); (case side1 => repeat (first | exact (z9 HO_6.out).2.2 | (with_reducible refine zF ?_ _) | (with_reducible refine zG ?_ _) | (with_reducible refine zH ?_))); (case side2 => rw [show t445.length = t430.length from (z9 HO_6.out).1.symm]; exact (z9 HO_6.out).2.1); rintro e w' ⟨rfl, ⟨nd, rfl⟩⟩; refine ⟨_, rfl, ?_⟩; have hnb55 := NB412_429.out; have hnc55 := NB429_412.out; have hcz56_0 := (z5 BK412.out 0).trans rfl; have hcz56_1 := (z5 BK412.out 1).trans rfl; have hcz56_2 := (z5 BK412.out 2).trans rfl; have hcz56_3 := (z5 BK412.out 3).trans rfl; have hfz56_0 := z6 BK412.out 0; have hfz56_1 := z6 BK412.out 1; have hfz56_2 := z6 BK412.out 2; have hfz56_3 := z6 BK412.out 3) | ((with_reducible refine gate_callee (f := 29) rfl ?_); refine goesL_ (some 55) rfl rfl Try.func29 (by kernel_rfl) rfl #[.agg #[.slice A0_0 l0_0.length c0_0, .int .i64 a0_1, .int .i64 a0_2, .int .i64 a0_3]] rfl zg ?_; (with_reducible refine (laws_toTask.calls kj16 _ _ l0_0 a0_1 a0_2 a0_3 t447 t450 t451 t452 _ ?side1 ?side2 A47.out).mono ?_); (case side1 => repeat (first | exact (zX HR0_0.out zb) | (with_reducible refine zF ?_ _) | (with_reducible refine zG ?_ _) | (with_reducible refine zH ?_))); (case side2 => exact HC0_0.out); rintro e w57 ⟨v448, rfl, ho0, hb⟩; refine ⟨_, rfl, ?_⟩; have n0_ := zM (ze (by (with_reducible repeat (first | apply zI | apply zJ | apply zK)); exact HO_4.out) hb); have n1_ := zM (ze (by (with_reducible repeat (first | apply zI | apply zJ | apply zK)); exact HO_6.out) hb); have n2_ := zM (Kd.R_elder' (by (with_reducible repeat (first | apply zI | apply zJ | apply zK)); exact HO_430000.out) (Kd.R_base ho0) hb); have n3_ := zM (zf (Kd.R_new' ho0 (Kd.R_lt (by (with_reducible repeat (first | apply zI | apply zJ | apply zK)); exact HO_430000.out))) (zR zb)); have n4_ := zM (z7 (g := gb412) (o := .cells #[.slice A0_0 l0_0.length c0_0, .int .i64 a0_1, .int .i64 a0_2, .int .i64 a0_3] 43 (0, 0)) zk hb); have n5_ := zM (z7 (g := gb429) (o := .cells #[.slice Ao28 t442.length co28, .int .i64 t426, .int .i64 t427, .int .i64 t428] 47 (0, 0)) zk hb); have n6_ := zM (zQ zb hb); clear HO_4; clear HO_6; clear HO_430000; clear BK412; clear BK429; clear HB; have HO_4 := n0_; have HO_6 := n1_; have HO_430000 := n2_; have HO449 := n3_; have BK412 := n4_; have BK429 := n5_; have HB := n6_; clear n0_ n1_ n2_ n3_ n4_ n5_ n6_; (try clear hb); (try clear ho0); obtain ⟨Ao58, co58, eo58⟩ := Kd.R_slice HO449.out; subst eo58) | ((with_reducible refine gate_callee (f := 34) rfl ?_); refine goesL_ (some 56) rfl rfl Try.func34 (by kernel_rfl) rfl #[.agg #[.slice Ao58 t447.length co58, .int .i64 t450, .int .i64 t451, .int .i64 t452]] rfl zg ?_; (with_reducible refine (impl_MustLog.calls kj16 _ _ t447 t450 t451 t452 t453 _ ?side1 ?side2 A48.out).mono ?_); (case side1 => repeat (first | exact (z9 HO449.out).2.2 | (with_reducible refine zF ?_ _) | (with_reducible refine zG ?_ _) | (with_reducible refine zH ?_))); (case side2 => exact (z9 HO449.out).2.1); rintro e w59 ⟨v454, rfl, ho0, hb⟩; refine ⟨_, rfl, ?_⟩; have n0_ := zM (Kd.R_elder' (by (with_reducible repeat (first | apply zI | apply zJ | apply zK)); exact HO_4.out) (Kd.R_base ho0) hb); have n1_ := zM (Kd.R_elder' (by (with_reducible repeat (first | apply zI | apply zJ | apply zK)); exact HO_6.out) (Kd.R_base ho0) hb); have n2_ := zM (ze (by (with_reducible repeat (first | apply zI | apply zJ | apply zK)); exact HO_430000.out) hb); have n3_ := zM (ze (by (with_reducible repeat (first | apply zI | apply zJ | apply zK)); exact HO449.out) hb); have n4_ := zM (zf (Kd.R_new' (Kd.R_new' ho0 (Kd.R_lt (by (with_reducible repeat (first | apply zI | apply zJ | apply zK)); exact HO_4.out))) (Kd.R_lt (by (with_reducible repeat (first | apply zI | apply zJ | apply zK)); exact HO_6.out))) (zR zb)); have n5_ := zM (z7 (g := gb412) (o := .cells #[.slice A0_0 l0_0.length c0_0, .int .i64 a0_1, .int .i64 a0_2, .int .i64 a0_3] 43 (0, 0)) zk hb); have n6_ := zM (z7 (g := gb429) (o := .cells #[.slice Ao28 t442.length co28, .int .i64 t426, .int .i64 t427, .int .i64 t428] 47 (0, 0)) zk hb); have n7_ := zM (zQ zb hb); clear HO_4; clear HO_6; clear HO_430000; clear HO449; clear BK412; clear BK429; clear HB; have HO_4 := n0_; have HO_6 := n1_; have HO_430000 := n2_; have HO449 := n3_; have HO455 := n4_; have BK412 := n5_; have BK429 := n6_; have HB := n7_; clear n0_ n1_ n2_ n3_ n4_ n5_ n6_ n7_; (try clear hb); (try clear ho0); obtain ⟨Ao60, co60, eo60⟩ := Kd.R_slice HO455.out; subst eo60) | ((with_reducible refine gate_callee (f := 16) rfl ?_); refine goesL_ (some 59) rfl rfl Try.func16 (by kernel_rfl) rfl #[.slice Ao60 t453.length co60, .slice Ao33 t420.length co33] rfl zg ?_; (with_reducible refine (laws_eqIntS.calls kj16 _ _ t453 _ _ t420 true _ ?side1 ?side2 ?side3 ?side4 A49.out).mono ?_); (case side1 => repeat (first | exact (z9 HO455.out).2.2 | (with_reducible refine zF ?_ _) | (with_reducible refine zG ?_ _) | (with_reducible refine zH ?_))); (case side2 => exact (z9 HO455.out).2.1); (case side3 => repeat (first | exact (z9 HO_4.out).2.2 | (with_reducible refine zF ?_ _) | (with_reducible refine zG ?_ _) | (with_reducible refine zH ?_))); (case side4 => exact (z9 HO_4.out).2.1); rintro e w' ⟨rfl, ⟨nd, rfl⟩⟩; refine ⟨_, rfl, ?_⟩) | ((with_reducible refine gate_callee (f := 20) rfl ?_); refine goesL_ (some 63) rfl rfl Try.func20 (by kernel_rfl) rfl #[.slice Ao32 t445.length co32, .int .i64 1] rfl (by (try simp only [List.map_toArray, List.map_cons, List.map_nil]); first | done | (rw [show t445.length = t430.length from (z9 HO_6.out).1.symm] <;> rfl) | rfl | (simp only [List.length_drop, List.length_take]; rfl)) ?_; (with_reducible refine (laws_heldIntS.calls kj16 _ _ t445 1 t457 _ ?side1 ?side2 A51.out).mono ?_); (case side1 => repeat (first | exact (z9 HO_6.out).2.2 | (with_reducible refine zF ?_ _) | (with_reducible refine zG ?_ _) | (with_reducible refine zH ?_))); (case side2 => rw [show t445.length = t430.length from (z9 HO_6.out).1.symm]; exact (z9 HO_6.out).2.1); rintro e w' ⟨rfl, ⟨nd, rfl⟩⟩; refine ⟨_, rfl, ?_⟩))
            go_ret
            exact ⟨by first | rfl | (simp [errW_none, errW_some] <;> rfl) | (simp [*, errW_none, errW_some] <;> rfl), zb⟩
           ·rw [if_neg c53] at H
            have c53b0 : (t457 == t444) = false := beq_eq_false_iff_ne.mpr c53
            have c53b1 : (t457 != t444) = true := bne_iff_ne.mpr c53
            exact absurd ((Option.some.inj H).trans ht_) (by decide)
         ·replace c50 := Bool.eq_false_iff.mpr c50
          subst c50
          have H1 : (some false) = some r := by rw [if_neg (show ¬ (false = true) by decide)] at H; exact H
          clear H
          have H := H1
          clear H1
          exact absurd ((Option.some.inj H).trans ht_) (by decide)
        ·rw [if_neg c46] at H
         have c46b0 : (t446 == t444) = false := beq_eq_false_iff_ne.mpr c46
         have c46b1 : (t446 != t444) = true := bne_iff_ne.mpr c46
         exact absurd ((Option.some.inj H).trans ht_) (by decide)
   ·replace c15 := Bool.eq_false_iff.mpr c15
    subst c15
    have H1 : (some false) = some r := by rw [if_neg (show ¬ (false = true) by decide)] at H; exact H
    clear H
    have H := H1
    clear H1
    exact absurd ((Option.some.inj H).trans ht_) (by decide)
  ·replace c12 := Bool.eq_false_iff.mpr c12
   subst c12
   have H1 : (some false) = some r := by rw [if_neg (show ¬ (false = true) by decide)] at H; exact H
   clear H
   have H := H1
   clear H1
   exact absurd ((Option.some.inj H).trans ht_) (by decide)

/-- What is known of a value of type 41 that came in. -/
def wf41 (x : S41) : Prop := ((Lit.int .i64 x.f0).wf = true) ∧ (((Lit.int .i64 x.f1).wf = true) ∧ (((Lit.int .i64 x.f2).wf = true)))
/-- What is known of a value of type 73 that came in. -/
def wf73 (x : S73) : Prop := ((Lit.int .i64 x.f0).wf = true) ∧ (((Lit.int .i64 x.f1).wf = true) ∧ (((Lit.int .i64 x.f2).wf = true) ∧ ((wf41 x.f3))))
/-- What is known of a value of type 43 that came in. -/
def wf43 (x : S43) : Prop := (x.f0.length ≤ maxLen ∧ ∀ yx_f0 ∈ x.f0, wf73 yx_f0) ∧ ((wf41 x.f1))

/-- THE ONE PURE STATEMENT of laws_FnExactMustLog: yours. -/
def laws_FnExactMustLog.Pure : Prop := ∀ (l0_0 : List (S73)) (a0_1 : Int) (a0_2 : Int) (a0_3 : Int), l0_0.length ≤ maxLen → (∀ y ∈ l0_0, wf73 y) → (Lit.int .i64 a0_1).wf = true → (Lit.int .i64 a0_2).wf = true → (Lit.int .i64 a0_3).wf = true → ∃ k, laws_FnExactMustLog.f k l0_0 a0_1 a0_2 a0_3 = some true
theorem laws_FnExactMustLog.walk (P : laws_FnExactMustLog.Pure) (A0_0 : Option Addr) (c0_0 : Nat) (l0_0 : List (S73)) (a0_1 : Int) (a0_2 : Int) (a0_3 : Int) (w : World) (hr0_0 : Kd.C k73 w A0_0 l0_0.length l0_0) (hc0_0 : l0_0.length ≤ c0_0) (q0_0_0 : l0_0.length ≤ maxLen) (q0_0_1 : (∀ y ∈ l0_0, wf73 y)) (q0_1_0 : (Lit.int .i64 a0_1).wf = true) (q0_2_0 : (Lit.int .i64 a0_2).wf = true) (q0_3_0 : (Lit.int .i64 a0_3).wf = true) :
  Calls Try.prog 7 #[.agg #[.slice A0_0 l0_0.length c0_0, .int .i64 a0_1, .int .i64 a0_2, .int .i64 a0_3]] w fun e w' => e = .returned (.bool true) ∧ Below w.heap.size w w' := by
 obtain ⟨k, h⟩ := P l0_0 a0_1 a0_2 a0_3 q0_0_0 q0_0_1 q0_1_0 q0_2_0 q0_3_0
 refine (laws_FnExactMustLog.calls k A0_0 c0_0 l0_0 a0_1 a0_2 a0_3 true w hr0_0 hc0_0 h rfl).mono ?_
 rintro e w' ⟨rfl, hd⟩
 exact ⟨rfl, hd⟩

end Go.Proofs.Ytlhcofkandeepaa.PFnExactMustLog
