/- Walks of the functions that a statement reaches, written by a program (the printing program, mended): no condition. -/
import Derived.Test.YtcpmkcidehhbiaaGreatDoorPFnExactParseProgramx0
import Derived.Test.YtcpmkcidehhbiaaGreatDoorPFnExactParseProgramx2
import Derived.Test.YtcpmkcidehhbiaaGreatDoorPFnExactParseProgramx3
import Derived.Test.YtcpmkcidehhbiaaGreatDoorPFnExactParseProgramx4
namespace Go.Proofs.YtcpmkcidehhbiaaGreatDoor.PFnExactParseProgram
open Go.RowKit Go.Proofs.YtcpmkcidehhbiaaGreatDoorW.PrintWords Go.Proofs.YtcpmkcidehhbiaaGreatDoorW.PrintLast Go.Proofs.YtcpmkcidehhbiaaGreatDoorW.PrintMore
attribute [local go_sem] max2_int min2_int max_two min_two max_three min_three max_four min_four
set_option linter.unusedVariables false
set_option linter.unusedSimpArgs false
attribute [local go_sem high] eqA35
def spec_l04Plain.f (a0_0 a0_1 a0_2 a0_3 a0_4 a0_5 : Int) : Option (Int × Int × Int × Int × Int × Int) := if a0_0 = 1 then some (a0_0, a0_1, 0, a0_3, a0_4, a0_5) else if a0_0 = 2 then some (a0_0, a0_1, a0_2, 0, 0, 0) else if a0_0 = 3 then some (a0_0, 0, 0, a0_3, a0_4, a0_5) else if a0_0 = 4 then some (a0_0, 0, 0, a0_3, a0_4, a0_5) else if a0_0 = 5 then some (a0_0, 0, a0_2, 0, 0, 0) else some (a0_0, 0, 0, 0, 0, 0)
set_option maxHeartbeats 2000000 in
set_option maxRecDepth 100000 in
theorem spec_l04Plain.case1 (a0_0 a0_1 a0_2 a0_3 a0_4 a0_5 : Int) (w : World)  (c1 : (a0_0 == 1) = true) :
  Calls Tryz.prog 26 #[.agg #[.int .i64 a0_0, .int .i64 a0_1, .int .i64 a0_2, .int .i64 a0_3, .int .i64 a0_4, .int .i64 a0_5]] w fun e w' => e = .returned (.agg #[.int .i64 a0_0, .int .i64 a0_1, .int .i64 0, .int .i64 a0_3, .int .i64 a0_4, .int .i64 a0_5]) ∧ Below w.heap.size w w' := by
 have hu31 := Tryz.underlying35
 have hu29 := Tryz.underlying31
 have HB := zM (Below.refl w.heap.size w)
 go_enter Tryz.func26, Tryz.ntmps26
 go_wp2
 refine bodyPost_ret (v := .agg #[.int .i64 a0_0, .int .i64 a0_1, .int .i64 0, .int .i64 a0_3, .int .i64 a0_4, .int .i64 a0_5]) (by simp [results, Tryz.results26, go_sem]) rfl ⟨rfl, ?_⟩
 repeat (first | (with_reducible first | exact HB.out | apply z2 | apply z3 | apply z4) | exact HB.out)
set_option maxHeartbeats 2000000 in
set_option maxRecDepth 100000 in
theorem spec_l04Plain.case2 (a0_0 a0_1 a0_2 a0_3 a0_4 a0_5 : Int) (w : World) (c1 : (a0_0 == 1) = false) (c2 : (a0_0 == 2) = true) :
  Calls Tryz.prog 26 #[.agg #[.int .i64 a0_0, .int .i64 a0_1, .int .i64 a0_2, .int .i64 a0_3, .int .i64 a0_4, .int .i64 a0_5]] w fun e w' => e = .returned (.agg #[.int .i64 a0_0, .int .i64 a0_1, .int .i64 a0_2, .int .i64 0, .int .i64 0, .int .i64 0]) ∧ Below w.heap.size w w' := by
 have hu31 := Tryz.underlying35
 have hu29 := Tryz.underlying31
 have HB := zM (Below.refl w.heap.size w)
 go_enter Tryz.func26, Tryz.ntmps26
 go_wp2
 refine bodyPost_ret (v := .agg #[.int .i64 a0_0, .int .i64 a0_1, .int .i64 a0_2, .int .i64 0, .int .i64 0, .int .i64 0]) (by simp [results, Tryz.results26, go_sem]) rfl ⟨rfl, ?_⟩
 repeat (first | (with_reducible first | exact HB.out | apply z2 | apply z3 | apply z4) | exact HB.out)
set_option maxHeartbeats 2000000 in
set_option maxRecDepth 100000 in
theorem spec_l04Plain.case3 (a0_0 a0_1 a0_2 a0_3 a0_4 a0_5 : Int) (w : World) (c1 : (a0_0 == 1) = false) (c2 : (a0_0 == 2) = false) (c3 : (a0_0 == 3) = true) :
  Calls Tryz.prog 26 #[.agg #[.int .i64 a0_0, .int .i64 a0_1, .int .i64 a0_2, .int .i64 a0_3, .int .i64 a0_4, .int .i64 a0_5]] w fun e w' => e = .returned (.agg #[.int .i64 a0_0, .int .i64 0, .int .i64 0, .int .i64 a0_3, .int .i64 a0_4, .int .i64 a0_5]) ∧ Below w.heap.size w w' := by
 have hu31 := Tryz.underlying35
 have hu29 := Tryz.underlying31
 have HB := zM (Below.refl w.heap.size w)
 go_enter Tryz.func26, Tryz.ntmps26
 go_wp2
 refine bodyPost_ret (v := .agg #[.int .i64 a0_0, .int .i64 0, .int .i64 0, .int .i64 a0_3, .int .i64 a0_4, .int .i64 a0_5]) (by simp [results, Tryz.results26, go_sem]) rfl ⟨rfl, ?_⟩
 repeat (first | (with_reducible first | exact HB.out | apply z2 | apply z3 | apply z4) | exact HB.out)
set_option maxHeartbeats 2000000 in
set_option maxRecDepth 100000 in
theorem spec_l04Plain.case4 (a0_0 a0_1 a0_2 a0_3 a0_4 a0_5 : Int) (w : World) (c1 : (a0_0 == 1) = false) (c2 : (a0_0 == 2) = false) (c3 : (a0_0 == 3) = false) (c4 : (a0_0 == 4) = true) :
  Calls Tryz.prog 26 #[.agg #[.int .i64 a0_0, .int .i64 a0_1, .int .i64 a0_2, .int .i64 a0_3, .int .i64 a0_4, .int .i64 a0_5]] w fun e w' => e = .returned (.agg #[.int .i64 a0_0, .int .i64 0, .int .i64 0, .int .i64 a0_3, .int .i64 a0_4, .int .i64 a0_5]) ∧ Below w.heap.size w w' := by
 have hu31 := Tryz.underlying35
 have hu29 := Tryz.underlying31
 have HB := zM (Below.refl w.heap.size w)
 go_enter Tryz.func26, Tryz.ntmps26
 go_wp2
 refine bodyPost_ret (v := .agg #[.int .i64 a0_0, .int .i64 0, .int .i64 0, .int .i64 a0_3, .int .i64 a0_4, .int .i64 a0_5]) (by simp [results, Tryz.results26, go_sem]) rfl ⟨rfl, ?_⟩
 repeat (first | (with_reducible first | exact HB.out | apply z2 | apply z3 | apply z4) | exact HB.out)
set_option maxHeartbeats 2000000 in
set_option maxRecDepth 100000 in
theorem spec_l04Plain.case5 (a0_0 a0_1 a0_2 a0_3 a0_4 a0_5 : Int) (w : World) (c1 : (a0_0 == 1) = false) (c2 : (a0_0 == 2) = false) (c3 : (a0_0 == 3) = false) (c4 : (a0_0 == 4) = false) (c5 : (a0_0 == 5) = true) :
  Calls Tryz.prog 26 #[.agg #[.int .i64 a0_0, .int .i64 a0_1, .int .i64 a0_2, .int .i64 a0_3, .int .i64 a0_4, .int .i64 a0_5]] w fun e w' => e = .returned (.agg #[.int .i64 a0_0, .int .i64 0, .int .i64 a0_2, .int .i64 0, .int .i64 0, .int .i64 0]) ∧ Below w.heap.size w w' := by
 have hu31 := Tryz.underlying35
 have hu29 := Tryz.underlying31
 have HB := zM (Below.refl w.heap.size w)
 go_enter Tryz.func26, Tryz.ntmps26
 go_wp2
 refine bodyPost_ret (v := .agg #[.int .i64 a0_0, .int .i64 0, .int .i64 a0_2, .int .i64 0, .int .i64 0, .int .i64 0]) (by simp [results, Tryz.results26, go_sem]) rfl ⟨rfl, ?_⟩
 repeat (first | (with_reducible first | exact HB.out | apply z2 | apply z3 | apply z4) | exact HB.out)
set_option maxHeartbeats 2000000 in
set_option maxRecDepth 100000 in
theorem spec_l04Plain.case6 (a0_0 a0_1 a0_2 a0_3 a0_4 a0_5 : Int) (w : World) (c1 : (a0_0 == 1) = false) (c2 : (a0_0 == 2) = false) (c3 : (a0_0 == 3) = false) (c4 : (a0_0 == 4) = false) (c5 : (a0_0 == 5) = false) :
  Calls Tryz.prog 26 #[.agg #[.int .i64 a0_0, .int .i64 a0_1, .int .i64 a0_2, .int .i64 a0_3, .int .i64 a0_4, .int .i64 a0_5]] w fun e w' => e = .returned (.agg #[.int .i64 a0_0, .int .i64 0, .int .i64 0, .int .i64 0, .int .i64 0, .int .i64 0]) ∧ Below w.heap.size w w' := by
 have hu31 := Tryz.underlying35
 have hu29 := Tryz.underlying31
 have HB := zM (Below.refl w.heap.size w)
 go_enter Tryz.func26, Tryz.ntmps26
 go_wp2
 refine bodyPost_ret (v := .agg #[.int .i64 a0_0, .int .i64 0, .int .i64 0, .int .i64 0, .int .i64 0, .int .i64 0]) (by simp [results, Tryz.results26, go_sem]) rfl ⟨rfl, ?_⟩
 repeat (first | (with_reducible first | exact HB.out | apply z2 | apply z3 | apply z4) | exact HB.out)
theorem spec_l04Plain.calls (a0_0 a0_1 a0_2 a0_3 a0_4 a0_5 : Int) (r1 : Int) (r2 : Int) (r3 : Int) (r4 : Int) (r5 : Int) (r6 : Int) (w : World) (h : spec_l04Plain.f a0_0 a0_1 a0_2 a0_3 a0_4 a0_5 = some (r1, r2, r3, r4, r5, r6)) :
  Calls Tryz.prog 26 #[.agg #[.int .i64 a0_0, .int .i64 a0_1, .int .i64 a0_2, .int .i64 a0_3, .int .i64 a0_4, .int .i64 a0_5]] w fun e w' => e = .returned (.agg #[.int .i64 r1, .int .i64 r2, .int .i64 r3, .int .i64 r4, .int .i64 r5, .int .i64 r6]) ∧ Below w.heap.size w w' := by
 unfold spec_l04Plain.f at h
 by_cases h1 : a0_0 = 1
 ·rw [if_pos h1] at h
  simp only [Option.some.injEq, Prod.mk.injEq] at h
  obtain ⟨rfl, rfl, rfl, rfl, rfl, rfl⟩ := h
  exact spec_l04Plain.case1 a0_0 a0_1 a0_2 a0_3 a0_4 a0_5 w  (beq_iff_eq.mpr h1)
 rw [if_neg h1] at h
 by_cases h2 : a0_0 = 2
 ·rw [if_pos h2] at h
  simp only [Option.some.injEq, Prod.mk.injEq] at h
  obtain ⟨rfl, rfl, rfl, rfl, rfl, rfl⟩ := h
  exact spec_l04Plain.case2 a0_0 a0_1 a0_2 a0_3 a0_4 a0_5 w (beq_eq_false_iff_ne.mpr h1) (beq_iff_eq.mpr h2)
 rw [if_neg h2] at h
 by_cases h3 : a0_0 = 3
 ·rw [if_pos h3] at h
  simp only [Option.some.injEq, Prod.mk.injEq] at h
  obtain ⟨rfl, rfl, rfl, rfl, rfl, rfl⟩ := h
  exact spec_l04Plain.case3 a0_0 a0_1 a0_2 a0_3 a0_4 a0_5 w (beq_eq_false_iff_ne.mpr h1) (beq_eq_false_iff_ne.mpr h2) (beq_iff_eq.mpr h3)
 rw [if_neg h3] at h
 by_cases h4 : a0_0 = 4
 ·rw [if_pos h4] at h
  simp only [Option.some.injEq, Prod.mk.injEq] at h
  obtain ⟨rfl, rfl, rfl, rfl, rfl, rfl⟩ := h
  exact spec_l04Plain.case4 a0_0 a0_1 a0_2 a0_3 a0_4 a0_5 w (beq_eq_false_iff_ne.mpr h1) (beq_eq_false_iff_ne.mpr h2) (beq_eq_false_iff_ne.mpr h3) (beq_iff_eq.mpr h4)
 rw [if_neg h4] at h
 by_cases h5 : a0_0 = 5
 ·rw [if_pos h5] at h
  simp only [Option.some.injEq, Prod.mk.injEq] at h
  obtain ⟨rfl, rfl, rfl, rfl, rfl, rfl⟩ := h
  exact spec_l04Plain.case5 a0_0 a0_1 a0_2 a0_3 a0_4 a0_5 w (beq_eq_false_iff_ne.mpr h1) (beq_eq_false_iff_ne.mpr h2) (beq_eq_false_iff_ne.mpr h3) (beq_eq_false_iff_ne.mpr h4) (beq_iff_eq.mpr h5)
 rw [if_neg h5] at h
 simp only [Option.some.injEq, Prod.mk.injEq] at h
 obtain ⟨rfl, rfl, rfl, rfl, rfl, rfl⟩ := h
 exact spec_l04Plain.case6 a0_0 a0_1 a0_2 a0_3 a0_4 a0_5 w (beq_eq_false_iff_ne.mpr h1) (beq_eq_false_iff_ne.mpr h2) (beq_eq_false_iff_ne.mpr h3) (beq_eq_false_iff_ne.mpr h4) (beq_eq_false_iff_ne.mpr h5)
def spec_StmtOk.j0 : Nat → Int → Bool → Int → Int → Int → Int → Int → Int → Option (Bool)
 | 0, _, _, _, _, _, _, _, _ => none
 | k + 1, x8, x29, x147000, x147001, x147002, x147003, x147004, x147005 => if x29 = true then ((spec_ExprOk.f x147003 x147004 x147005).bind fun t157 => (some t157)) else (if x8 = 5 then ((spec_l01In.f x147002 1 5).bind fun t158 => (some t158)) else (some (x147000 == 6)))
def spec_StmtOk.f (k : Nat) (a0_0 : Int) (a0_1 : Int) (a0_2 : Int) (a0_3 : Int) (a0_4 : Int) (a0_5 : Int) : Option (Bool) := (spec_l04Plain.f a0_0 a0_1 a0_2 a0_3 a0_4 a0_5).bind fun bt147 => (if (!(a0_0 == bt147.1) || (!(a0_1 == bt147.2.1) || (!(a0_2 == bt147.2.2.1) || ((!(a0_3 == bt147.2.2.2.1) || (!(a0_4 == bt147.2.2.2.2.1) || (!(a0_5 == bt147.2.2.2.2.2)))))))) = true then (some false) else (if a0_0 = 1 then ((spec_l01In.f a0_1 0 7).bind fun t153 => (if t153 = true then ((spec_ExprOk.f a0_3 a0_4 a0_5).bind fun t154 => (some t154)) else (some false))) else (if a0_0 = 2 then ((spec_l01In.f a0_1 0 7).bind fun t155 => (if t155 = true then ((spec_l01In.f a0_2 0 3).bind fun t156 => (some t156)) else (some false))) else (if a0_0 = 3 then (spec_StmtOk.j0 k a0_0 (a0_0 == 3) a0_0 a0_1 a0_2 a0_3 a0_4 a0_5) else (spec_StmtOk.j0 k a0_0 (a0_0 == 4) a0_0 a0_1 a0_2 a0_3 a0_4 a0_5)))))
theorem spec_StmtOk.mono_l : ∀ k, (∀ y0 y1 y2 y3 y4 y5 y6 y7, LeO (spec_StmtOk.j0 k y0 y1 y2 y3 y4 y5 y6 y7) (spec_StmtOk.j0 (k + 1) y0 y1 y2 y3 y4 y5 y6 y7))
 | 0 => fun _ _ _ _ _ _ _ _ r h => by simp [spec_StmtOk.j0] at h
 | k + 1 => by
  have ih0 := spec_StmtOk.mono_l k
  intro y0 y1 y2 y3 y4 y5 y6 y7
  unfold spec_StmtOk.j0
  repeat' first | (with_reducible first | exact ih0 _ _ _ _ _ _ _ _ | exact LeO.refl _ | exact LeO.none _ | refine LeO.ite ?_ ?_ | refine LeO.bind ?_ (fun _ => ?_)) | exact ih0 _ _ _ _ _ _ _ _ | exact LeO.none _ | refine LeO.ite ?_ ?_ | refine LeO.bind ?_ (fun _ => ?_)
theorem spec_StmtOk.mono : ∀ a0 a1 a2 a3 a4 a5 k, LeO (spec_StmtOk.f k a0 a1 a2 a3 a4 a5) (spec_StmtOk.f (k + 1) a0 a1 a2 a3 a4 a5) := by
 intro a0 a1 a2 a3 a4 a5 k
 have ih0 := spec_StmtOk.mono_l k
 unfold spec_StmtOk.f
 repeat' first | (with_reducible first | exact ih0 _ _ _ _ _ _ _ _ | exact LeO.refl _ | exact LeO.none _ | refine LeO.ite ?_ ?_ | refine LeO.bind ?_ (fun _ => ?_)) | exact ih0 _ _ _ _ _ _ _ _ | exact LeO.none _ | refine LeO.ite ?_ ?_ | refine LeO.bind ?_ (fun _ => ?_)
set_option maxHeartbeats 8000000 in
set_option maxRecDepth 100000 in
theorem spec_StmtOk.calls (k : Nat) (a0_0 : Int) (a0_1 : Int) (a0_2 : Int) (a0_3 : Int) (a0_4 : Int) (a0_5 : Int) (r : Bool) (w : World) (h : spec_StmtOk.f k a0_0 a0_1 a0_2 a0_3 a0_4 a0_5 = some r) :
  Calls Tryz.prog 27 #[.agg #[.int .i64 a0_0, .int .i64 a0_1, .int .i64 a0_2, .int .i64 a0_3, .int .i64 a0_4, .int .i64 a0_5]] w fun e w' => e = .returned (.bool r) ∧ Below w.heap.size w w' := by
 have hu35 := Tryz.underlying35
 have hu31 := Tryz.underlying31
 have HB := zM (Below.refl w.heap.size w)
 have H : ((spec_l04Plain.f a0_0 a0_1 a0_2 a0_3 a0_4 a0_5).bind fun bt147 => (if (!(a0_0 == bt147.1) || (!(a0_1 == bt147.2.1) || (!(a0_2 == bt147.2.2.1) || ((!(a0_3 == bt147.2.2.2.1) || (!(a0_4 == bt147.2.2.2.2.1) || (!(a0_5 == bt147.2.2.2.2.2)))))))) = true then (some false) else (if a0_0 = 1 then ((spec_l01In.f a0_1 0 7).bind fun t153 => (if t153 = true then ((spec_ExprOk.f a0_3 a0_4 a0_5).bind fun t154 => (some t154)) else (some false))) else (if a0_0 = 2 then ((spec_l01In.f a0_1 0 7).bind fun t155 => (if t155 = true then ((spec_l01In.f a0_2 0 3).bind fun t156 => (some t156)) else (some false))) else (if a0_0 = 3 then (spec_StmtOk.j0 k a0_0 (a0_0 == 3) a0_0 a0_1 a0_2 a0_3 a0_4 a0_5) else (spec_StmtOk.j0 k a0_0 (a0_0 == 4) a0_0 a0_1 a0_2 a0_3 a0_4 a0_5)))))) = some r := h
 clear h
 replace H := Option.bind_eq_some_iff.mp H
 obtain ⟨⟨t147, t148, t149, t150, t151, t152⟩, A20, H⟩ := H
 replace H : (if (!(a0_0 == t147) || (!(a0_1 == t148) || (!(a0_2 == t149) || ((!(a0_3 == t150) || (!(a0_4 == t151) || (!(a0_5 == t152)))))))) = true then (some false) else (if a0_0 = 1 then ((spec_l01In.f a0_1 0 7).bind fun t153 => (if t153 = true then ((spec_ExprOk.f a0_3 a0_4 a0_5).bind fun t154 => (some t154)) else (some false))) else (if a0_0 = 2 then ((spec_l01In.f a0_1 0 7).bind fun t155 => (if t155 = true then ((spec_l01In.f a0_2 0 3).bind fun t156 => (some t156)) else (some false))) else (if a0_0 = 3 then (spec_StmtOk.j0 k a0_0 (a0_0 == 3) a0_0 a0_1 a0_2 a0_3 a0_4 a0_5) else (spec_StmtOk.j0 k a0_0 (a0_0 == 4) a0_0 a0_1 a0_2 a0_3 a0_4 a0_5))))) = some r := H
 have A2 := zM A20
 clear A20
 by_cases c3 : (!(a0_0 == t147) || (!(a0_1 == t148) || (!(a0_2 == t149) || ((!(a0_3 == t150) || (!(a0_4 == t151) || (!(a0_5 == t152)))))))) = true
 ·rw [if_pos c3] at H
  have c3b0 : (!(a0_0 == t147) || (!(a0_1 == t148) || (!(a0_2 == t149) || ((!(a0_3 == t150) || (!(a0_4 == t151) || (!(a0_5 == t152)))))))) = true := c3
  clear c3
  obtain rfl := Option.some.inj H
  go_enter Tryz.func27, Tryz.ntmps27
  try go_wp2_with (first | ((with_reducible refine gate_dst (N := 1) rfl ?_); refine box_event ?hg (N := 1) ?hd (cs := #[.int .i64 a0_0, .int .i64 a0_1, .int .i64 a0_2, .int .i64 a0_3, .int .i64 a0_4, .int .i64 a0_5]) (t := 35) ?hr ?_; (case hd => rfl); (case hg => rfl); (case hr => first | (go_simp; done) | (go_simp; rfl)); intro gb146 hg w4 hbox hb; have n0_ := zM (zQ zb hb); have n1_ := zM (hbox); have n2_ := zM ((by rw [hg]; exact (zR zb) : w.heap.size ≤ gb146)); have n3_ := zM ((by rw [hg]; exact (zR zb) : w.heap.size ≤ gb146)); clear HB; have HB := n0_; have BK146 := n1_; have GW146 := n2_; have GE146 := n3_; clear n0_ n1_ n2_ n3_; clear hb hbox hg))
  have n0_ := zM (zO BK146.out)
  have n1_ := zM (z4 HB.out)
  clear BK146
  clear HB
  have BK146 := n0_
  have HB := n1_
  clear n0_ n1_
  refine start_ (n := 4) (S := fun w' => w'.cell? ⟨gb146, 0, none⟩ = some (.int .i64 a0_0) ∧ w'.cell? ⟨gb146, 1, none⟩ = some (.int .i64 a0_1) ∧ w'.cell? ⟨gb146, 2, none⟩ = some (.int .i64 a0_2) ∧ w'.cell? ⟨gb146, 3, none⟩ = some (.int .i64 a0_3) ∧ w'.cell? ⟨gb146, 4, none⟩ = some (.int .i64 a0_4) ∧ w'.cell? ⟨gb146, 5, none⟩ = some (.int .i64 a0_5)) (ds := []) #[false, false, false, false] (by kernel_rfl) rfl rfl ⟨(z5 BK146.out 0).trans rfl, (z5 BK146.out 1).trans rfl, (z5 BK146.out 2).trans rfl, (z5 BK146.out 3).trans rfl, (z5 BK146.out 4).trans rfl, (z5 BK146.out 5).trans rfl⟩ (fun hHeld => ?_)
  generalize w4.drew = w5 at BK146 HB hHeld ⊢
  refine take_ (i := 0) (N := some 3) (v := ?_) (a' := ?_) #[true, false, false, false] rfl rfl (by kernel_rfl) (fun _ _ _ h => h) (Or.inl ⟨by rfl, ?_⟩) hHeld ?_ ?_
  rotate_left
  ·rintro w' ⟨s0, s1, s2, s3, s4, s5⟩
   go_simp
   with_reducible rfl
  rotate_left
  ·exact zu
  refine take_ (i := 1) (N := some 4) (v := ?_) (a' := ?_) #[true, true, false, false] rfl rfl (by kernel_rfl) (fun _ _ _ h => h) (Or.inl ⟨by rfl, ?_⟩) hHeld ?_ ?_
  rotate_left
  ·rintro w' ⟨s0, s1, s2, s3, s4, s5⟩
   go_simp
   with_reducible rfl
  rotate_left
  ·exact zu
  refine one_ (i := 2) (N := some 5) #[true, true, true, false] rfl rfl (by kernel_rfl) (by decide) (fun K hK => ?_)
  refine goes_ Tryz.func26 (by kernel_rfl) rfl #[.agg #[.int .i64 a0_0, .int .i64 a0_1, .int .i64 a0_2, .int .i64 a0_3, .int .i64 a0_4, .int .i64 a0_5]] (by rfl) rfl rfl zg ?_
  with_reducible refine (spec_l04Plain.calls a0_0 a0_1 a0_2 a0_3 a0_4 a0_5 t147 t148 t149 t150 t151 t152 _ A2.out).mono ?_
  rintro e w6 ⟨rfl, hb⟩
  refine ⟨_, rfl, ?_⟩
  have n0_ := zM (z7 (g := gb146) (o := .cells #[.int .i64 a0_0, .int .i64 a0_1, .int .i64 a0_2, .int .i64 a0_3, .int .i64 a0_4, .int .i64 a0_5] 35 (0, 0)) zk hb)
  have n1_ := zM (zQ zb hb)
  clear BK146
  clear HB
  have BK146 := n0_
  have HB := n1_
  clear n0_ n1_
  (try clear hb)
  (try clear hb2)
  (try clear hk)
  (try clear hi)
  refine hK.out _ _ ⟨(z5 BK146.out 0).trans rfl, (z5 BK146.out 1).trans rfl, (z5 BK146.out 2).trans rfl, (z5 BK146.out 3).trans rfl, (z5 BK146.out 4).trans rfl, (z5 BK146.out 5).trans rfl⟩ (fun hHeld => ?_)
  clear hK K
  refine norm_ (a' := ?_) ?_ ?_
  rotate_left
  ·show Act.put _ (some 5) _ = _
   exact zu
  refine pure_ (i := 3) (N := some 6) (v := ?_) (a' := ?_) #[true, true, true, true] rfl rfl (by kernel_rfl) (fun _ _ _ h => h) (Or.inl ⟨by rfl, ?_⟩) ?_ ?_
  rotate_left
  ·intro w'
   go_simp
   with_reducible rfl
  rotate_left
  ·exact zu
  refine done_ (by kernel_rfl) ?_
  try go_wp2
  go_ret
  exact ⟨by first | rfl | (simp [errW_none, errW_some] <;> rfl) | (simp [*, errW_none, errW_some] <;> rfl), zb⟩
 rw [if_neg c3] at H
 have c3b0 : (!(a0_0 == t147) || (!(a0_1 == t148) || (!(a0_2 == t149) || ((!(a0_3 == t150) || (!(a0_4 == t151) || (!(a0_5 == t152)))))))) = false := by simpa using c3
 clear c3
 by_cases c7 : a0_0 = 1
 ·rw [if_pos c7] at H
  have c7b0 : (a0_0 == 1) = true := beq_iff_eq.mpr c7
  have c7b1 : (a0_0 != 1) = false := bne_eq_false_iff_eq.mpr c7
  clear c7
  replace H := Option.bind_eq_some_iff.mp H
  obtain ⟨t153, A80, H⟩ := H
  replace H : (if t153 = true then ((spec_ExprOk.f a0_3 a0_4 a0_5).bind fun t154 => (some t154)) else (some false)) = some r := H
  have A8 := zM A80
  clear A80
  by_cases c9 : t153 = true
  ·subst c9
   have H1 : ((spec_ExprOk.f a0_3 a0_4 a0_5).bind fun t154 => (some t154)) = some r := by rw [if_pos rfl] at H; exact H
   clear H
   have H := H1
   clear H1
   replace H := Option.bind_eq_some_iff.mp H
   obtain ⟨t154, A100, H⟩ := H
   replace H : (some t154) = some r := H
   have A10 := zM A100
   clear A100
   obtain rfl := Option.some.inj H
   go_enter Tryz.func27, Tryz.ntmps27
   try go_wp2_with (first | ((with_reducible refine gate_dst (N := 1) rfl ?_); refine box_event ?hg (N := 1) ?hd (cs := #[.int .i64 a0_0, .int .i64 a0_1, .int .i64 a0_2, .int .i64 a0_3, .int .i64 a0_4, .int .i64 a0_5]) (t := 35) ?hr ?_; (case hd => rfl); (case hg => rfl); (case hr => first | (go_simp; done) | (go_simp; rfl)); intro gb146 hg w11 hbox hb; have n0_ := zM (zQ zb hb); have n1_ := zM (hbox); have n2_ := zM ((by rw [hg]; exact (zR zb) : w.heap.size ≤ gb146)); have n3_ := zM ((by rw [hg]; exact (zR zb) : w.heap.size ≤ gb146)); clear HB; have HB := n0_; have BK146 := n1_; have GW146 := n2_; have GE146 := n3_; clear n0_ n1_ n2_ n3_; clear hb hbox hg))
   have n0_ := zM (zO BK146.out)
   have n1_ := zM (z4 HB.out)
   clear BK146
   clear HB
   have BK146 := n0_
   have HB := n1_
   clear n0_ n1_
   refine start_ (n := 4) (S := fun w' => w'.cell? ⟨gb146, 0, none⟩ = some (.int .i64 a0_0) ∧ w'.cell? ⟨gb146, 1, none⟩ = some (.int .i64 a0_1) ∧ w'.cell? ⟨gb146, 2, none⟩ = some (.int .i64 a0_2) ∧ w'.cell? ⟨gb146, 3, none⟩ = some (.int .i64 a0_3) ∧ w'.cell? ⟨gb146, 4, none⟩ = some (.int .i64 a0_4) ∧ w'.cell? ⟨gb146, 5, none⟩ = some (.int .i64 a0_5)) (ds := []) #[false, false, false, false] (by kernel_rfl) rfl rfl ⟨(z5 BK146.out 0).trans rfl, (z5 BK146.out 1).trans rfl, (z5 BK146.out 2).trans rfl, (z5 BK146.out 3).trans rfl, (z5 BK146.out 4).trans rfl, (z5 BK146.out 5).trans rfl⟩ (fun hHeld => ?_)
   generalize w11.drew = w12 at BK146 HB hHeld ⊢
   refine take_ (i := 0) (N := some 3) (v := ?_) (a' := ?_) #[true, false, false, false] rfl rfl (by kernel_rfl) (fun _ _ _ h => h) (Or.inl ⟨by rfl, ?_⟩) hHeld ?_ ?_
   rotate_left
   ·rintro w' ⟨s0, s1, s2, s3, s4, s5⟩
    go_simp
    with_reducible rfl
   rotate_left
   ·exact zu
   refine take_ (i := 1) (N := some 4) (v := ?_) (a' := ?_) #[true, true, false, false] rfl rfl (by kernel_rfl) (fun _ _ _ h => h) (Or.inl ⟨by rfl, ?_⟩) hHeld ?_ ?_
   rotate_left
   ·rintro w' ⟨s0, s1, s2, s3, s4, s5⟩
    go_simp
    with_reducible rfl
   rotate_left
   ·exact zu
   refine one_ (i := 2) (N := some 5) #[true, true, true, false] rfl rfl (by kernel_rfl) (by decide) (fun K hK => ?_)
   refine goes_ Tryz.func26 (by kernel_rfl) rfl #[.agg #[.int .i64 a0_0, .int .i64 a0_1, .int .i64 a0_2, .int .i64 a0_3, .int .i64 a0_4, .int .i64 a0_5]] (by rfl) rfl rfl zg ?_
   with_reducible refine (spec_l04Plain.calls a0_0 a0_1 a0_2 a0_3 a0_4 a0_5 t147 t148 t149 t150 t151 t152 _ A2.out).mono ?_
   rintro e w13 ⟨rfl, hb⟩
   refine ⟨_, rfl, ?_⟩
   have n0_ := zM (z7 (g := gb146) (o := .cells #[.int .i64 a0_0, .int .i64 a0_1, .int .i64 a0_2, .int .i64 a0_3, .int .i64 a0_4, .int .i64 a0_5] 35 (0, 0)) zk hb)
   have n1_ := zM (zQ zb hb)
   clear BK146
   clear HB
   have BK146 := n0_
   have HB := n1_
   clear n0_ n1_
   (try clear hb)
   (try clear hb2)
   (try clear hk)
   (try clear hi)
   refine hK.out _ _ ⟨(z5 BK146.out 0).trans rfl, (z5 BK146.out 1).trans rfl, (z5 BK146.out 2).trans rfl, (z5 BK146.out 3).trans rfl, (z5 BK146.out 4).trans rfl, (z5 BK146.out 5).trans rfl⟩ (fun hHeld => ?_)
   clear hK K
   refine norm_ (a' := ?_) ?_ ?_
   rotate_left
   ·show Act.put _ (some 5) _ = _
    exact zu
   refine pure_ (i := 3) (N := some 6) (v := ?_) (a' := ?_) #[true, true, true, true] rfl rfl (by kernel_rfl) (fun _ _ _ h => h) (Or.inl ⟨by rfl, ?_⟩) ?_ ?_
   rotate_left
   ·intro w'
    go_simp
    with_reducible rfl
   rotate_left
   ·exact zu
   refine done_ (by kernel_rfl) ?_
   have hcz14_0 := (z5 BK146.out 0).trans rfl
   have hcz14_1 := (z5 BK146.out 1).trans rfl
   have hcz14_2 := (z5 BK146.out 2).trans rfl
   have hcz14_3 := (z5 BK146.out 3).trans rfl
   have hcz14_4 := (z5 BK146.out 4).trans rfl
   have hcz14_5 := (z5 BK146.out 5).trans rfl
   have hfz14_0 := z6 BK146.out 0
   have hfz14_1 := z6 BK146.out 1
   have hfz14_2 := z6 BK146.out 2
   have hfz14_3 := z6 BK146.out 3
   have hfz14_4 := z6 BK146.out 4
   have hfz14_5 := z6 BK146.out 5
   try go_wp2_with (first | ((with_reducible refine gate_callee (f := 25) rfl ?_); refine goesL_ (some 13) rfl rfl Tryz.func25 (by kernel_rfl) rfl #[.int .i64 a0_1, .int .i64 0, .int .i64 7] rfl zg ?_; (with_reducible refine (spec_l01In.calls a0_1 0 7 true _ A8.out).mono ?_); rintro e w' ⟨rfl, ⟨nd, rfl⟩⟩; refine ⟨_, rfl, ?_⟩) | (go_at_call 23; (with_reducible refine (spec_ExprOk.calls a0_3 a0_4 a0_5 t154 _ A10.out).mono ?_); rintro e w15 ⟨rfl, hb⟩; have n0_ := zM (z7 (g := gb146) (o := .cells #[.int .i64 a0_0, .int .i64 a0_1, .int .i64 a0_2, .int .i64 a0_3, .int .i64 a0_4, .int .i64 a0_5] 35 (0, 0)) zk hb); have n1_ := zM (zQ zb hb); clear BK146; clear HB; have BK146 := n0_; have HB := n1_; clear n0_ n1_; (try clear hb)))
   go_ret
   exact ⟨by first | rfl | (simp [errW_none, errW_some] <;> rfl) | (simp [*, errW_none, errW_some] <;> rfl), zb⟩
  replace c9 := Bool.eq_false_iff.mpr c9
  subst c9
  have H1 : (some false) = some r := by rw [if_neg (show ¬ (false = true) by decide)] at H; exact H
  clear H
  have H := H1
  clear H1
  obtain rfl := Option.some.inj H
  go_enter Tryz.func27, Tryz.ntmps27
  try go_wp2_with (first | ((with_reducible refine gate_dst (N := 1) rfl ?_); refine box_event ?hg (N := 1) ?hd (cs := #[.int .i64 a0_0, .int .i64 a0_1, .int .i64 a0_2, .int .i64 a0_3, .int .i64 a0_4, .int .i64 a0_5]) (t := 35) ?hr ?_; (case hd => rfl); (case hg => rfl); (case hr => first | (go_simp; done) | (go_simp; rfl)); intro gb146 hg w16 hbox hb; have n0_ := zM (zQ zb hb); have n1_ := zM (hbox); have n2_ := zM ((by rw [hg]; exact (zR zb) : w.heap.size ≤ gb146)); have n3_ := zM ((by rw [hg]; exact (zR zb) : w.heap.size ≤ gb146)); clear HB; have HB := n0_; have BK146 := n1_; have GW146 := n2_; have GE146 := n3_; clear n0_ n1_ n2_ n3_; clear hb hbox hg))
  have n0_ := zM (zO BK146.out)
  have n1_ := zM (z4 HB.out)
  clear BK146
  clear HB
  have BK146 := n0_
  have HB := n1_
  clear n0_ n1_
  refine start_ (n := 4) (S := fun w' => w'.cell? ⟨gb146, 0, none⟩ = some (.int .i64 a0_0) ∧ w'.cell? ⟨gb146, 1, none⟩ = some (.int .i64 a0_1) ∧ w'.cell? ⟨gb146, 2, none⟩ = some (.int .i64 a0_2) ∧ w'.cell? ⟨gb146, 3, none⟩ = some (.int .i64 a0_3) ∧ w'.cell? ⟨gb146, 4, none⟩ = some (.int .i64 a0_4) ∧ w'.cell? ⟨gb146, 5, none⟩ = some (.int .i64 a0_5)) (ds := []) #[false, false, false, false] (by kernel_rfl) rfl rfl ⟨(z5 BK146.out 0).trans rfl, (z5 BK146.out 1).trans rfl, (z5 BK146.out 2).trans rfl, (z5 BK146.out 3).trans rfl, (z5 BK146.out 4).trans rfl, (z5 BK146.out 5).trans rfl⟩ (fun hHeld => ?_)
  generalize w16.drew = w17 at BK146 HB hHeld ⊢
  refine take_ (i := 0) (N := some 3) (v := ?_) (a' := ?_) #[true, false, false, false] rfl rfl (by kernel_rfl) (fun _ _ _ h => h) (Or.inl ⟨by rfl, ?_⟩) hHeld ?_ ?_
  rotate_left
  ·rintro w' ⟨s0, s1, s2, s3, s4, s5⟩
   go_simp
   with_reducible rfl
  rotate_left
  ·exact zu
  refine take_ (i := 1) (N := some 4) (v := ?_) (a' := ?_) #[true, true, false, false] rfl rfl (by kernel_rfl) (fun _ _ _ h => h) (Or.inl ⟨by rfl, ?_⟩) hHeld ?_ ?_
  rotate_left
  ·rintro w' ⟨s0, s1, s2, s3, s4, s5⟩
   go_simp
   with_reducible rfl
  rotate_left
  ·exact zu
  refine one_ (i := 2) (N := some 5) #[true, true, true, false] rfl rfl (by kernel_rfl) (by decide) (fun K hK => ?_)
  refine goes_ Tryz.func26 (by kernel_rfl) rfl #[.agg #[.int .i64 a0_0, .int .i64 a0_1, .int .i64 a0_2, .int .i64 a0_3, .int .i64 a0_4, .int .i64 a0_5]] (by rfl) rfl rfl zg ?_
  with_reducible refine (spec_l04Plain.calls a0_0 a0_1 a0_2 a0_3 a0_4 a0_5 t147 t148 t149 t150 t151 t152 _ A2.out).mono ?_
  rintro e w18 ⟨rfl, hb⟩
  refine ⟨_, rfl, ?_⟩
  have n0_ := zM (z7 (g := gb146) (o := .cells #[.int .i64 a0_0, .int .i64 a0_1, .int .i64 a0_2, .int .i64 a0_3, .int .i64 a0_4, .int .i64 a0_5] 35 (0, 0)) zk hb)
  have n1_ := zM (zQ zb hb)
  clear BK146
  clear HB
  have BK146 := n0_
  have HB := n1_
  clear n0_ n1_
  (try clear hb)
  (try clear hb2)
  (try clear hk)
  (try clear hi)
  refine hK.out _ _ ⟨(z5 BK146.out 0).trans rfl, (z5 BK146.out 1).trans rfl, (z5 BK146.out 2).trans rfl, (z5 BK146.out 3).trans rfl, (z5 BK146.out 4).trans rfl, (z5 BK146.out 5).trans rfl⟩ (fun hHeld => ?_)
  clear hK K
  refine norm_ (a' := ?_) ?_ ?_
  rotate_left
  ·show Act.put _ (some 5) _ = _
   exact zu
  refine pure_ (i := 3) (N := some 6) (v := ?_) (a' := ?_) #[true, true, true, true] rfl rfl (by kernel_rfl) (fun _ _ _ h => h) (Or.inl ⟨by rfl, ?_⟩) ?_ ?_
  rotate_left
  ·intro w'
   go_simp
   with_reducible rfl
  rotate_left
  ·exact zu
  refine done_ (by kernel_rfl) ?_
  have hcz19_0 := (z5 BK146.out 0).trans rfl
  have hcz19_1 := (z5 BK146.out 1).trans rfl
  have hcz19_2 := (z5 BK146.out 2).trans rfl
  have hcz19_3 := (z5 BK146.out 3).trans rfl
  have hcz19_4 := (z5 BK146.out 4).trans rfl
  have hcz19_5 := (z5 BK146.out 5).trans rfl
  have hfz19_0 := z6 BK146.out 0
  have hfz19_1 := z6 BK146.out 1
  have hfz19_2 := z6 BK146.out 2
  have hfz19_3 := z6 BK146.out 3
  have hfz19_4 := z6 BK146.out 4
  have hfz19_5 := z6 BK146.out 5
  try go_wp2_with (first | ((with_reducible refine gate_callee (f := 25) rfl ?_); refine goesL_ (some 13) rfl rfl Tryz.func25 (by kernel_rfl) rfl #[.int .i64 a0_1, .int .i64 0, .int .i64 7] rfl zg ?_; (with_reducible refine (spec_l01In.calls a0_1 0 7 false _ A8.out).mono ?_); rintro e w' ⟨rfl, ⟨nd, rfl⟩⟩; refine ⟨_, rfl, ?_⟩))
  go_ret
  exact ⟨by first | rfl | (simp [errW_none, errW_some] <;> rfl) | (simp [*, errW_none, errW_some] <;> rfl), zb⟩
 rw [if_neg c7] at H
 have c7b0 : (a0_0 == 1) = false := beq_eq_false_iff_ne.mpr c7
 have c7b1 : (a0_0 != 1) = true := bne_iff_ne.mpr c7
 by_cases c20 : a0_0 = 2
 ·rw [if_pos c20] at H
  have c20b0 : (a0_0 == 2) = true := beq_iff_eq.mpr c20
  have c20b1 : (a0_0 != 2) = false := bne_eq_false_iff_eq.mpr c20
  clear c20
  replace H := Option.bind_eq_some_iff.mp H
  obtain ⟨t155, A210, H⟩ := H
  replace H : (if t155 = true then ((spec_l01In.f a0_2 0 3).bind fun t156 => (some t156)) else (some false)) = some r := H
  have A21 := zM A210
  clear A210
  by_cases c22 : t155 = true
  ·subst c22
   have H1 : ((spec_l01In.f a0_2 0 3).bind fun t156 => (some t156)) = some r := by rw [if_pos rfl] at H; exact H
   clear H
   have H := H1
   clear H1
   replace H := Option.bind_eq_some_iff.mp H
   obtain ⟨t156, A230, H⟩ := H
   replace H : (some t156) = some r := H
   have A23 := zM A230
   clear A230
   obtain rfl := Option.some.inj H
   go_enter Tryz.func27, Tryz.ntmps27
   try go_wp2_with (first | ((with_reducible refine gate_dst (N := 1) rfl ?_); refine box_event ?hg (N := 1) ?hd (cs := #[.int .i64 a0_0, .int .i64 a0_1, .int .i64 a0_2, .int .i64 a0_3, .int .i64 a0_4, .int .i64 a0_5]) (t := 35) ?hr ?_; (case hd => rfl); (case hg => rfl); (case hr => first | (go_simp; done) | (go_simp; rfl)); intro gb146 hg w24 hbox hb; have n0_ := zM (zQ zb hb); have n1_ := zM (hbox); have n2_ := zM ((by rw [hg]; exact (zR zb) : w.heap.size ≤ gb146)); have n3_ := zM ((by rw [hg]; exact (zR zb) : w.heap.size ≤ gb146)); clear HB; have HB := n0_; have BK146 := n1_; have GW146 := n2_; have GE146 := n3_; clear n0_ n1_ n2_ n3_; clear hb hbox hg))
   have n0_ := zM (zO BK146.out)
   have n1_ := zM (z4 HB.out)
   clear BK146
   clear HB
   have BK146 := n0_
   have HB := n1_
   clear n0_ n1_
   refine start_ (n := 4) (S := fun w' => w'.cell? ⟨gb146, 0, none⟩ = some (.int .i64 a0_0) ∧ w'.cell? ⟨gb146, 1, none⟩ = some (.int .i64 a0_1) ∧ w'.cell? ⟨gb146, 2, none⟩ = some (.int .i64 a0_2) ∧ w'.cell? ⟨gb146, 3, none⟩ = some (.int .i64 a0_3) ∧ w'.cell? ⟨gb146, 4, none⟩ = some (.int .i64 a0_4) ∧ w'.cell? ⟨gb146, 5, none⟩ = some (.int .i64 a0_5)) (ds := []) #[false, false, false, false] (by kernel_rfl) rfl rfl ⟨(z5 BK146.out 0).trans rfl, (z5 BK146.out 1).trans rfl, (z5 BK146.out 2).trans rfl, (z5 BK146.out 3).trans rfl, (z5 BK146.out 4).trans rfl, (z5 BK146.out 5).trans rfl⟩ (fun hHeld => ?_)
   generalize w24.drew = w25 at BK146 HB hHeld ⊢
   refine take_ (i := 0) (N := some 3) (v := ?_) (a' := ?_) #[true, false, false, false] rfl rfl (by kernel_rfl) (fun _ _ _ h => h) (Or.inl ⟨by rfl, ?_⟩) hHeld ?_ ?_
   rotate_left
   ·rintro w' ⟨s0, s1, s2, s3, s4, s5⟩
    go_simp
    with_reducible rfl
   rotate_left
   ·exact zu
   refine take_ (i := 1) (N := some 4) (v := ?_) (a' := ?_) #[true, true, false, false] rfl rfl (by kernel_rfl) (fun _ _ _ h => h) (Or.inl ⟨by rfl, ?_⟩) hHeld ?_ ?_
   rotate_left
   ·rintro w' ⟨s0, s1, s2, s3, s4, s5⟩
    go_simp
    with_reducible rfl
   rotate_left
   ·exact zu
   refine one_ (i := 2) (N := some 5) #[true, true, true, false] rfl rfl (by kernel_rfl) (by decide) (fun K hK => ?_)
   refine goes_ Tryz.func26 (by kernel_rfl) rfl #[.agg #[.int .i64 a0_0, .int .i64 a0_1, .int .i64 a0_2, .int .i64 a0_3, .int .i64 a0_4, .int .i64 a0_5]] (by rfl) rfl rfl zg ?_
   with_reducible refine (spec_l04Plain.calls a0_0 a0_1 a0_2 a0_3 a0_4 a0_5 t147 t148 t149 t150 t151 t152 _ A2.out).mono ?_
   rintro e w26 ⟨rfl, hb⟩
   refine ⟨_, rfl, ?_⟩
   have n0_ := zM (z7 (g := gb146) (o := .cells #[.int .i64 a0_0, .int .i64 a0_1, .int .i64 a0_2, .int .i64 a0_3, .int .i64 a0_4, .int .i64 a0_5] 35 (0, 0)) zk hb)
   have n1_ := zM (zQ zb hb)
   clear BK146
   clear HB
   have BK146 := n0_
   have HB := n1_
   clear n0_ n1_
   (try clear hb)
   (try clear hb2)
   (try clear hk)
   (try clear hi)
   refine hK.out _ _ ⟨(z5 BK146.out 0).trans rfl, (z5 BK146.out 1).trans rfl, (z5 BK146.out 2).trans rfl, (z5 BK146.out 3).trans rfl, (z5 BK146.out 4).trans rfl, (z5 BK146.out 5).trans rfl⟩ (fun hHeld => ?_)
   clear hK K
   refine norm_ (a' := ?_) ?_ ?_
   rotate_left
   ·show Act.put _ (some 5) _ = _
    exact zu
   refine pure_ (i := 3) (N := some 6) (v := ?_) (a' := ?_) #[true, true, true, true] rfl rfl (by kernel_rfl) (fun _ _ _ h => h) (Or.inl ⟨by rfl, ?_⟩) ?_ ?_
   rotate_left
   ·intro w'
    go_simp
    with_reducible rfl
   rotate_left
   ·exact zu
   refine done_ (by kernel_rfl) ?_
   have hcz27_0 := (z5 BK146.out 0).trans rfl
   have hcz27_1 := (z5 BK146.out 1).trans rfl
   have hcz27_2 := (z5 BK146.out 2).trans rfl
   have hcz27_3 := (z5 BK146.out 3).trans rfl
   have hcz27_4 := (z5 BK146.out 4).trans rfl
   have hcz27_5 := (z5 BK146.out 5).trans rfl
   have hfz27_0 := z6 BK146.out 0
   have hfz27_1 := z6 BK146.out 1
   have hfz27_2 := z6 BK146.out 2
   have hfz27_3 := z6 BK146.out 3
   have hfz27_4 := z6 BK146.out 4
   have hfz27_5 := z6 BK146.out 5
   try go_wp2_with (first | ((with_reducible refine gate_callee (f := 25) rfl ?_); refine goesL_ (some 23) rfl rfl Tryz.func25 (by kernel_rfl) rfl #[.int .i64 a0_1, .int .i64 0, .int .i64 7] rfl zg ?_; (with_reducible refine (spec_l01In.calls a0_1 0 7 true _ A21.out).mono ?_); rintro e w' ⟨rfl, ⟨nd, rfl⟩⟩; refine ⟨_, rfl, ?_⟩) | (go_at_call 25; (with_reducible refine (spec_l01In.calls a0_2 0 3 t156 _ A23.out).mono ?_); rintro e w' ⟨rfl, ⟨nd, rfl⟩⟩))
   go_ret
   exact ⟨by first | rfl | (simp [errW_none, errW_some] <;> rfl) | (simp [*, errW_none, errW_some] <;> rfl), zb⟩
  replace c22 := Bool.eq_false_iff.mpr c22
  subst c22
  have H1 : (some false) = some r := by rw [if_neg (show ¬ (false = true) by decide)] at H; exact H
  clear H
  have H := H1
  clear H1
  obtain rfl := Option.some.inj H
  go_enter Tryz.func27, Tryz.ntmps27
  try go_wp2_with (first | ((with_reducible refine gate_dst (N := 1) rfl ?_); refine box_event ?hg (N := 1) ?hd (cs := #[.int .i64 a0_0, .int .i64 a0_1, .int .i64 a0_2, .int .i64 a0_3, .int .i64 a0_4, .int .i64 a0_5]) (t := 35) ?hr ?_; (case hd => rfl); (case hg => rfl); (case hr => first | (go_simp; done) | (go_simp; rfl)); intro gb146 hg w28 hbox hb; have n0_ := zM (zQ zb hb); have n1_ := zM (hbox); have n2_ := zM ((by rw [hg]; exact (zR zb) : w.heap.size ≤ gb146)); have n3_ := zM ((by rw [hg]; exact (zR zb) : w.heap.size ≤ gb146)); clear HB; have HB := n0_; have BK146 := n1_; have GW146 := n2_; have GE146 := n3_; clear n0_ n1_ n2_ n3_; clear hb hbox hg))
  have n0_ := zM (zO BK146.out)
  have n1_ := zM (z4 HB.out)
  clear BK146
  clear HB
  have BK146 := n0_
  have HB := n1_
  clear n0_ n1_
  refine start_ (n := 4) (S := fun w' => w'.cell? ⟨gb146, 0, none⟩ = some (.int .i64 a0_0) ∧ w'.cell? ⟨gb146, 1, none⟩ = some (.int .i64 a0_1) ∧ w'.cell? ⟨gb146, 2, none⟩ = some (.int .i64 a0_2) ∧ w'.cell? ⟨gb146, 3, none⟩ = some (.int .i64 a0_3) ∧ w'.cell? ⟨gb146, 4, none⟩ = some (.int .i64 a0_4) ∧ w'.cell? ⟨gb146, 5, none⟩ = some (.int .i64 a0_5)) (ds := []) #[false, false, false, false] (by kernel_rfl) rfl rfl ⟨(z5 BK146.out 0).trans rfl, (z5 BK146.out 1).trans rfl, (z5 BK146.out 2).trans rfl, (z5 BK146.out 3).trans rfl, (z5 BK146.out 4).trans rfl, (z5 BK146.out 5).trans rfl⟩ (fun hHeld => ?_)
  generalize w28.drew = w29 at BK146 HB hHeld ⊢
  refine take_ (i := 0) (N := some 3) (v := ?_) (a' := ?_) #[true, false, false, false] rfl rfl (by kernel_rfl) (fun _ _ _ h => h) (Or.inl ⟨by rfl, ?_⟩) hHeld ?_ ?_
  rotate_left
  ·rintro w' ⟨s0, s1, s2, s3, s4, s5⟩
   go_simp
   with_reducible rfl
  rotate_left
  ·exact zu
  refine take_ (i := 1) (N := some 4) (v := ?_) (a' := ?_) #[true, true, false, false] rfl rfl (by kernel_rfl) (fun _ _ _ h => h) (Or.inl ⟨by rfl, ?_⟩) hHeld ?_ ?_
  rotate_left
  ·rintro w' ⟨s0, s1, s2, s3, s4, s5⟩
   go_simp
   with_reducible rfl
  rotate_left
  ·exact zu
  refine one_ (i := 2) (N := some 5) #[true, true, true, false] rfl rfl (by kernel_rfl) (by decide) (fun K hK => ?_)
  refine goes_ Tryz.func26 (by kernel_rfl) rfl #[.agg #[.int .i64 a0_0, .int .i64 a0_1, .int .i64 a0_2, .int .i64 a0_3, .int .i64 a0_4, .int .i64 a0_5]] (by rfl) rfl rfl zg ?_
  with_reducible refine (spec_l04Plain.calls a0_0 a0_1 a0_2 a0_3 a0_4 a0_5 t147 t148 t149 t150 t151 t152 _ A2.out).mono ?_
  rintro e w30 ⟨rfl, hb⟩
  refine ⟨_, rfl, ?_⟩
  have n0_ := zM (z7 (g := gb146) (o := .cells #[.int .i64 a0_0, .int .i64 a0_1, .int .i64 a0_2, .int .i64 a0_3, .int .i64 a0_4, .int .i64 a0_5] 35 (0, 0)) zk hb)
  have n1_ := zM (zQ zb hb)
  clear BK146
  clear HB
  have BK146 := n0_
  have HB := n1_
  clear n0_ n1_
  (try clear hb)
  (try clear hb2)
  (try clear hk)
  (try clear hi)
  refine hK.out _ _ ⟨(z5 BK146.out 0).trans rfl, (z5 BK146.out 1).trans rfl, (z5 BK146.out 2).trans rfl, (z5 BK146.out 3).trans rfl, (z5 BK146.out 4).trans rfl, (z5 BK146.out 5).trans rfl⟩ (fun hHeld => ?_)
  clear hK K
  refine norm_ (a' := ?_) ?_ ?_
  rotate_left
  ·show Act.put _ (some 5) _ = _
   exact zu
  refine pure_ (i := 3) (N := some 6) (v := ?_) (a' := ?_) #[true, true, true, true] rfl rfl (by kernel_rfl) (fun _ _ _ h => h) (Or.inl ⟨by rfl, ?_⟩) ?_ ?_
  rotate_left
  ·intro w'
   go_simp
   with_reducible rfl
  rotate_left
  ·exact zu
  refine done_ (by kernel_rfl) ?_
  have hcz31_0 := (z5 BK146.out 0).trans rfl
  have hcz31_1 := (z5 BK146.out 1).trans rfl
  have hcz31_2 := (z5 BK146.out 2).trans rfl
  have hcz31_3 := (z5 BK146.out 3).trans rfl
  have hcz31_4 := (z5 BK146.out 4).trans rfl
  have hcz31_5 := (z5 BK146.out 5).trans rfl
  have hfz31_0 := z6 BK146.out 0
  have hfz31_1 := z6 BK146.out 1
  have hfz31_2 := z6 BK146.out 2
  have hfz31_3 := z6 BK146.out 3
  have hfz31_4 := z6 BK146.out 4
  have hfz31_5 := z6 BK146.out 5
  try go_wp2_with (first | ((with_reducible refine gate_callee (f := 25) rfl ?_); refine goesL_ (some 23) rfl rfl Tryz.func25 (by kernel_rfl) rfl #[.int .i64 a0_1, .int .i64 0, .int .i64 7] rfl zg ?_; (with_reducible refine (spec_l01In.calls a0_1 0 7 false _ A21.out).mono ?_); rintro e w' ⟨rfl, ⟨nd, rfl⟩⟩; refine ⟨_, rfl, ?_⟩))
  go_ret
  exact ⟨by first | rfl | (simp [errW_none, errW_some] <;> rfl) | (simp [*, errW_none, errW_some] <;> rfl), zb⟩
 rw [if_neg c20] at H
 have c20b0 : (a0_0 == 2) = false := beq_eq_false_iff_ne.mpr c20
 have c20b1 : (a0_0 != 2) = true := bne_iff_ne.mpr c20
 have HC32 := zM H
 clear H
 go_enter Tryz.func27, Tryz.ntmps27
 try go_wp2_with (first | ((with_reducible refine gate_dst (N := 1) rfl ?_); refine box_event ?hg (N := 1) ?hd (cs := #[.int .i64 a0_0, .int .i64 a0_1, .int .i64 a0_2, .int .i64 a0_3, .int .i64 a0_4, .int .i64 a0_5]) (t := 35) ?hr ?_; (case hd => rfl); (case hg => rfl); (case hr => first | (go_simp; done) | (go_simp; rfl)); intro gb146 hg w33 hbox hb; have n0_ := zM (zQ zb hb); have n1_ := zM (hbox); have n2_ := zM ((by rw [hg]; exact (zR zb) : w.heap.size ≤ gb146)); have n3_ := zM ((by rw [hg]; exact (zR zb) : w.heap.size ≤ gb146)); clear HB; have HB := n0_; have BK146 := n1_; have GW146 := n2_; have GE146 := n3_; clear n0_ n1_ n2_ n3_; clear hb hbox hg))
 have n0_ := zM (zO BK146.out)
 have n1_ := zM (z4 HB.out)
 clear BK146
 clear HB
 have BK146 := n0_
 have HB := n1_
 clear n0_ n1_
 refine start_ (n := 4) (S := fun w' => w'.cell? ⟨gb146, 0, none⟩ = some (.int .i64 a0_0) ∧ w'.cell? ⟨gb146, 1, none⟩ = some (.int .i64 a0_1) ∧ w'.cell? ⟨gb146, 2, none⟩ = some (.int .i64 a0_2) ∧ w'.cell? ⟨gb146, 3, none⟩ = some (.int .i64 a0_3) ∧ w'.cell? ⟨gb146, 4, none⟩ = some (.int .i64 a0_4) ∧ w'.cell? ⟨gb146, 5, none⟩ = some (.int .i64 a0_5)) (ds := []) #[false, false, false, false] (by kernel_rfl) rfl rfl ⟨(z5 BK146.out 0).trans rfl, (z5 BK146.out 1).trans rfl, (z5 BK146.out 2).trans rfl, (z5 BK146.out 3).trans rfl, (z5 BK146.out 4).trans rfl, (z5 BK146.out 5).trans rfl⟩ (fun hHeld => ?_)
 generalize w33.drew = w34 at BK146 HB hHeld ⊢
 refine take_ (i := 0) (N := some 3) (v := ?_) (a' := ?_) #[true, false, false, false] rfl rfl (by kernel_rfl) (fun _ _ _ h => h) (Or.inl ⟨by rfl, ?_⟩) hHeld ?_ ?_
 rotate_left
 ·rintro w' ⟨s0, s1, s2, s3, s4, s5⟩
  go_simp
  with_reducible rfl
 rotate_left
 ·exact zu
 refine take_ (i := 1) (N := some 4) (v := ?_) (a' := ?_) #[true, true, false, false] rfl rfl (by kernel_rfl) (fun _ _ _ h => h) (Or.inl ⟨by rfl, ?_⟩) hHeld ?_ ?_
 rotate_left
 ·rintro w' ⟨s0, s1, s2, s3, s4, s5⟩
  go_simp
  with_reducible rfl
 rotate_left
 ·exact zu
 refine one_ (i := 2) (N := some 5) #[true, true, true, false] rfl rfl (by kernel_rfl) (by decide) (fun K hK => ?_)
 refine goes_ Tryz.func26 (by kernel_rfl) rfl #[.agg #[.int .i64 a0_0, .int .i64 a0_1, .int .i64 a0_2, .int .i64 a0_3, .int .i64 a0_4, .int .i64 a0_5]] (by rfl) rfl rfl zg ?_
 with_reducible refine (spec_l04Plain.calls a0_0 a0_1 a0_2 a0_3 a0_4 a0_5 t147 t148 t149 t150 t151 t152 _ A2.out).mono ?_
 rintro e w35 ⟨rfl, hb⟩
 refine ⟨_, rfl, ?_⟩
 have n0_ := zM (z7 (g := gb146) (o := .cells #[.int .i64 a0_0, .int .i64 a0_1, .int .i64 a0_2, .int .i64 a0_3, .int .i64 a0_4, .int .i64 a0_5] 35 (0, 0)) zk hb)
 have n1_ := zM (zQ zb hb)
 clear BK146
 clear HB
 have BK146 := n0_
 have HB := n1_
 clear n0_ n1_
 (try clear hb)
 (try clear hb2)
 (try clear hk)
 (try clear hi)
 refine hK.out _ _ ⟨(z5 BK146.out 0).trans rfl, (z5 BK146.out 1).trans rfl, (z5 BK146.out 2).trans rfl, (z5 BK146.out 3).trans rfl, (z5 BK146.out 4).trans rfl, (z5 BK146.out 5).trans rfl⟩ (fun hHeld => ?_)
 clear hK K
 refine norm_ (a' := ?_) ?_ ?_
 rotate_left
 ·show Act.put _ (some 5) _ = _
  exact zu
 refine pure_ (i := 3) (N := some 6) (v := ?_) (a' := ?_) #[true, true, true, true] rfl rfl (by kernel_rfl) (fun _ _ _ h => h) (Or.inl ⟨by rfl, ?_⟩) ?_ ?_
 rotate_left
 ·intro w'
  go_simp
  with_reducible rfl
 rotate_left
 ·exact zu
 refine done_ (by kernel_rfl) ?_
 have hcz36_0 := (z5 BK146.out 0).trans rfl
 have hcz36_1 := (z5 BK146.out 1).trans rfl
 have hcz36_2 := (z5 BK146.out 2).trans rfl
 have hcz36_3 := (z5 BK146.out 3).trans rfl
 have hcz36_4 := (z5 BK146.out 4).trans rfl
 have hcz36_5 := (z5 BK146.out 5).trans rfl
 have hfz36_0 := z6 BK146.out 0
 have hfz36_1 := z6 BK146.out 1
 have hfz36_2 := z6 BK146.out 2
 have hfz36_3 := z6 BK146.out 3
 have hfz36_4 := z6 BK146.out 4
 have hfz36_5 := z6 BK146.out 5
 go_upto_if 29 with (fail)
 go_cut [29] (fun v29 wc => ∃ (kq : Nat) (x29_31 : Bool), v29 = .bool x29_31 ∧ Aside0 (spec_StmtOk.j0 kq a0_0 x29_31 a0_0 a0_1 a0_2 a0_3 a0_4 a0_5 = some r) ∧ Aside0 (kq ≤ k) ∧ Aside0 (wc.heap[gb146]? = some (.cells #[.int .i64 a0_0, .int .i64 a0_1, .int .i64 a0_2, .int .i64 a0_3, .int .i64 a0_4, .int .i64 a0_5] 35 (0, 0))) ∧ Aside0 (Below w.heap.size w wc))
 case first =>
  have H := HC32.out
  clear HC32
  by_cases c37 : a0_0 = 3
  ·rw [if_pos c37] at H
   have c37b0 : (a0_0 == 3) = true := beq_iff_eq.mpr c37
   have c37b1 : (a0_0 != 3) = false := bne_eq_false_iff_eq.mpr c37
   clear c37
   (first | rw [c37b0] | (simp only [i64_w, i32_w]; rw [c37b0]) | skip)
   have H' := zM H
   clear H
   go_wp2
   go_meet
   case rel => exact ⟨_, ((a0_0 == 3)), zs, H', ⟨by first | omega | exact Nat.le_refl _⟩, ⟨zk⟩, ⟨zb⟩⟩
  rw [if_neg c37] at H
  have c37b0 : (a0_0 == 3) = false := beq_eq_false_iff_ne.mpr c37
  have c37b1 : (a0_0 != 3) = true := bne_iff_ne.mpr c37
  (first | rw [c37b0] | (simp only [i64_w, i32_w]; rw [c37b0]) | skip)
  have H' := zM H
  clear H
  go_wp2
  go_meet
  case rel => exact ⟨_, ((a0_0 == 4)), zs, H', ⟨by first | omega | exact Nat.le_refl _⟩, ⟨zk⟩, ⟨zb⟩⟩
 case rest =>
  clear HC32
  try clear c2
  try clear p2
  try clear c3
  try clear c3b0
  try clear c7
  try clear c7b0
  try clear c7b1
  try clear c9
  try clear c20
  try clear c20b0
  try clear c20b1
  try clear c22
  try clear c25
  try clear c26
  try clear c27
  try clear c37
  try clear c37b0
  try clear c37b1
  try clear hcz14_0
  try clear hcz14_1
  try clear hcz14_2
  try clear hcz14_3
  try clear hcz14_4
  try clear hcz14_5
  try clear hcz19_0
  try clear hcz19_1
  try clear hcz19_2
  try clear hcz19_3
  try clear hcz19_4
  try clear hcz19_5
  try clear hcz27_0
  try clear hcz27_1
  try clear hcz27_2
  try clear hcz27_3
  try clear hcz27_4
  try clear hcz27_5
  try clear hcz31_0
  try clear hcz31_1
  try clear hcz31_2
  try clear hcz31_3
  try clear hcz31_4
  try clear hcz31_5
  try clear hcz36_0
  try clear hcz36_1
  try clear hcz36_2
  try clear hcz36_3
  try clear hcz36_4
  try clear hcz36_5
  try clear hfz14_0
  try clear hfz14_1
  try clear hfz14_2
  try clear hfz14_3
  try clear hfz14_4
  try clear hfz14_5
  try clear hfz19_0
  try clear hfz19_1
  try clear hfz19_2
  try clear hfz19_3
  try clear hfz19_4
  try clear hfz19_5
  try clear hfz27_0
  try clear hfz27_1
  try clear hfz27_2
  try clear hfz27_3
  try clear hfz27_4
  try clear hfz27_5
  try clear hfz31_0
  try clear hfz31_1
  try clear hfz31_2
  try clear hfz31_3
  try clear hfz31_4
  try clear hfz31_5
  try clear hfz36_0
  try clear hfz36_1
  try clear hfz36_2
  try clear hfz36_3
  try clear hfz36_4
  try clear hfz36_5
  obtain ⟨kq, x29_31, rfl, HA, HJ31, BK146, HB⟩ := hcut
  cases kq with
  | zero => exact absurd HA.out (by simp [spec_StmtOk.j0])
  | succ kj31 =>
   have H := HA.out
   clear HA
   simp only [spec_StmtOk.j0] at H
   by_cases c38 : x29_31 = true
   ·subst c38
    have H1 : ((spec_ExprOk.f a0_3 a0_4 a0_5).bind fun t157 => (some t157)) = some r := by rw [if_pos rfl] at H; exact H
    clear H
    have H := H1
    clear H1
    replace H := Option.bind_eq_some_iff.mp H
    obtain ⟨t157, A390, H⟩ := H
    replace H : (some t157) = some r := H
    have A39 := zM A390
    clear A390
    obtain rfl := Option.some.inj H
    have hcz40_0 := (z5 BK146.out 0).trans rfl
    have hcz40_1 := (z5 BK146.out 1).trans rfl
    have hcz40_2 := (z5 BK146.out 2).trans rfl
    have hcz40_3 := (z5 BK146.out 3).trans rfl
    have hcz40_4 := (z5 BK146.out 4).trans rfl
    have hcz40_5 := (z5 BK146.out 5).trans rfl
    have hfz40_0 := z6 BK146.out 0
    have hfz40_1 := z6 BK146.out 1
    have hfz40_2 := z6 BK146.out 2
    have hfz40_3 := z6 BK146.out 3
    have hfz40_4 := z6 BK146.out 4
    have hfz40_5 := z6 BK146.out 5
    go_wp2_with (first | ((with_reducible refine gate_callee (f := 23) rfl ?_); refine goesL_ (some 34) rfl rfl Tryz.func23 (by kernel_rfl) rfl #[.agg #[.int .i64 a0_3, .int .i64 a0_4, .int .i64 a0_5]] rfl zg ?_; (with_reducible refine (spec_ExprOk.calls a0_3 a0_4 a0_5 t157 _ A39.out).mono ?_); rintro e w41 ⟨rfl, hb⟩; refine ⟨_, rfl, ?_⟩; have n0_ := zM (z7 (g := gb146) (o := .cells #[.int .i64 a0_0, .int .i64 a0_1, .int .i64 a0_2, .int .i64 a0_3, .int .i64 a0_4, .int .i64 a0_5] 35 (0, 0)) zk hb); have n1_ := zM (zQ zb hb); clear BK146; clear HB; have BK146 := n0_; have HB := n1_; clear n0_ n1_; (try clear hb)))
    go_ret
    exact ⟨by first | rfl | (simp [errW_none, errW_some] <;> rfl) | (simp [*, errW_none, errW_some] <;> rfl), zb⟩
   replace c38 := Bool.eq_false_iff.mpr c38
   subst c38
   have H1 : (if a0_0 = 5 then ((spec_l01In.f a0_2 1 5).bind fun t158 => (some t158)) else (some (a0_0 == 6))) = some r := by rw [if_neg (show ¬ (false = true) by decide)] at H; exact H
   clear H
   have H := H1
   clear H1
   by_cases c42 : a0_0 = 5
   ·rw [if_pos c42] at H
    have c42b0 : (a0_0 == 5) = true := beq_iff_eq.mpr c42
    have c42b1 : (a0_0 != 5) = false := bne_eq_false_iff_eq.mpr c42
    clear c42
    replace H := Option.bind_eq_some_iff.mp H
    obtain ⟨t158, A430, H⟩ := H
    replace H : (some t158) = some r := H
    have A43 := zM A430
    clear A430
    obtain rfl := Option.some.inj H
    have hcz44_0 := (z5 BK146.out 0).trans rfl
    have hcz44_1 := (z5 BK146.out 1).trans rfl
    have hcz44_2 := (z5 BK146.out 2).trans rfl
    have hcz44_3 := (z5 BK146.out 3).trans rfl
    have hcz44_4 := (z5 BK146.out 4).trans rfl
    have hcz44_5 := (z5 BK146.out 5).trans rfl
    have hfz44_0 := z6 BK146.out 0
    have hfz44_1 := z6 BK146.out 1
    have hfz44_2 := z6 BK146.out 2
    have hfz44_3 := z6 BK146.out 3
    have hfz44_4 := z6 BK146.out 4
    have hfz44_5 := z6 BK146.out 5
    go_wp2_with (first | ((with_reducible refine gate_callee (f := 25) rfl ?_); refine goesL_ (some 39) rfl rfl Tryz.func25 (by kernel_rfl) rfl #[.int .i64 a0_2, .int .i64 1, .int .i64 5] rfl zg ?_; (with_reducible refine (spec_l01In.calls a0_2 1 5 t158 _ A43.out).mono ?_); rintro e w' ⟨rfl, ⟨nd, rfl⟩⟩; refine ⟨_, rfl, ?_⟩))
    go_ret
    exact ⟨by first | rfl | (simp [errW_none, errW_some] <;> rfl) | (simp [*, errW_none, errW_some] <;> rfl), zb⟩
   rw [if_neg c42] at H
   have c42b0 : (a0_0 == 5) = false := beq_eq_false_iff_ne.mpr c42
   have c42b1 : (a0_0 != 5) = true := bne_iff_ne.mpr c42
   obtain rfl := Option.some.inj H
   have hcz45_0 := (z5 BK146.out 0).trans rfl
   have hcz45_1 := (z5 BK146.out 1).trans rfl
   have hcz45_2 := (z5 BK146.out 2).trans rfl
   have hcz45_3 := (z5 BK146.out 3).trans rfl
   have hcz45_4 := (z5 BK146.out 4).trans rfl
   have hcz45_5 := (z5 BK146.out 5).trans rfl
   have hfz45_0 := z6 BK146.out 0
   have hfz45_1 := z6 BK146.out 1
   have hfz45_2 := z6 BK146.out 2
   have hfz45_3 := z6 BK146.out 3
   have hfz45_4 := z6 BK146.out 4
   have hfz45_5 := z6 BK146.out 5
   go_wp2
   go_ret
   exact ⟨by first | rfl | (simp [errW_none, errW_some] <;> rfl) | (simp [*, errW_none, errW_some] <;> rfl), zb⟩
end Go.Proofs.YtcpmkcidehhbiaaGreatDoor.PFnExactParseProgram
