/- Walks of the functions that a statement reaches, written by a program (the printing program, mended): no condition. -/
import Derived.Test.YtcpmkcidehhbiaaGreatDoorPFnExactParseProgramx0
import Derived.Test.YtcpmkcidehhbiaaGreatDoorPFnExactParseProgramx12
import Derived.Test.YtcpmkcidehhbiaaGreatDoorPFnExactParseProgramx13
namespace Go.Proofs.YtcpmkcidehhbiaaGreatDoor.PFnExactParseProgram
open Go.RowKit Go.Proofs.YtcpmkcidehhbiaaGreatDoorW.PrintWords Go.Proofs.YtcpmkcidehhbiaaGreatDoorW.PrintLast Go.Proofs.YtcpmkcidehhbiaaGreatDoorW.PrintMore
attribute [local go_sem] max2_int min2_int max_two min_two max_three min_three max_four min_four
set_option linter.unusedVariables false
set_option maxRecDepth 100000
set_option maxHeartbeats 8000000
set_option linter.unusedSimpArgs false
mutual
def impl_FormatStmt.j0 : Nat → List Int → Int → Int → Int → Int → Int → Int → Option (ByteArray)
 | 0, _, _, _, _, _, _, _ => none
 | k + 1, x3, x289000, x289001, x289002, x289003, x289004, x289005 => (impl_hasN.f x289000).bind fun t297 => (if t297 = true then (if x3.length < 17592186044416 then (impl_FormatStmt.j1 k (x3 ++ [x289002]) x289000 x289001 x289002 x289003 x289004 x289005) else (none)) else (impl_FormatStmt.j1 k x3 x289000 x289001 x289002 x289003 x289004 x289005))
def impl_FormatStmt.j1 : Nat → List Int → Int → Int → Int → Int → Int → Int → Option (ByteArray)
 | 0, _, _, _, _, _, _, _ => none
 | k + 1, x3, x289000, x289001, x289002, x289003, x289004, x289005 => (impl_hasExpr.f x289000).bind fun t301 => (if t301 = true then ((some (([x289003, x289004, x289005] : List Int) : List Int)).bind fun y302 => (if x3.length + y302.length < 17592186044416 then ((impl_stmtNames.f).bind fun t308 => (if 0 ≤ x289000 then (if x289000 < (t308.length : Int) then ((impl_spaced.f k (rdOf ByteArray.empty t308 x289000) (x3 ++ y302)).bind fun t312 => (some t312)) else (none)) else (none))) else (none))) else ((impl_stmtNames.f).bind fun t313 => (if 0 ≤ x289000 then (if x289000 < (t313.length : Int) then ((impl_spaced.f k (rdOf ByteArray.empty t313 x289000) x3).bind fun t317 => (some t317)) else (none)) else (none))))
end
def impl_FormatStmt.f (k : Nat) (a0_0 : Int) (a0_1 : Int) (a0_2 : Int) (a0_3 : Int) (a0_4 : Int) (a0_5 : Int) : Option (ByteArray) := (impl_StmtOk.f k a0_0 a0_1 a0_2 a0_3 a0_4 a0_5).bind fun t289 => (if t289 = true then ((some (([] : List Int) : List Int)).bind fun y290 => ((impl_hasVar.f a0_0).bind fun t293 => (if t293 = true then (if y290.length < 17592186044416 then (impl_FormatStmt.j0 k (y290 ++ [a0_1]) a0_0 a0_1 a0_2 a0_3 a0_4 a0_5) else (none)) else (impl_FormatStmt.j0 k y290 a0_0 a0_1 a0_2 a0_3 a0_4 a0_5)))) else (some (⟨#[]⟩ : ByteArray)))
theorem impl_FormatStmt.mono_l : ∀ k, (∀ y0 y1 y2 y3 y4 y5 y6, LeO (impl_FormatStmt.j0 k y0 y1 y2 y3 y4 y5 y6) (impl_FormatStmt.j0 (k + 1) y0 y1 y2 y3 y4 y5 y6)) ∧ (∀ y0 y1 y2 y3 y4 y5 y6, LeO (impl_FormatStmt.j1 k y0 y1 y2 y3 y4 y5 y6) (impl_FormatStmt.j1 (k + 1) y0 y1 y2 y3 y4 y5 y6))
 | 0 => ⟨fun _ _ _ _ _ _ _ r h => by simp [impl_FormatStmt.j0] at h, fun _ _ _ _ _ _ _ r h => by simp [impl_FormatStmt.j1] at h⟩
 | k + 1 => by
  obtain ⟨ih0, ih1⟩ := impl_FormatStmt.mono_l k
  refine ⟨?_, ?_⟩
  intro y0 y1 y2 y3 y4 y5 y6; unfold impl_FormatStmt.j0; rotate_left; intro y0 y1 y2 y3 y4 y5 y6; unfold impl_FormatStmt.j1; rotate_left
  all_goals repeat' first | (with_reducible first | exact ih0 _ _ _ _ _ _ _ | exact ih1 _ _ _ _ _ _ _ | exact impl_StmtOk.mono _ _ _ _ _ _ _ | exact impl_spaced.mono _ _ _ | exact LeO.refl _ | exact LeO.none _ | refine LeO.ite ?_ ?_ | refine LeO.bind ?_ (fun _ => ?_)) | exact ih0 _ _ _ _ _ _ _ | exact ih1 _ _ _ _ _ _ _ | exact impl_StmtOk.mono _ _ _ _ _ _ _ | exact impl_spaced.mono _ _ _ | exact LeO.none _ | refine LeO.ite ?_ ?_ | refine LeO.bind ?_ (fun _ => ?_)
theorem impl_FormatStmt.mono : ∀ a0 a1 a2 a3 a4 a5 k, LeO (impl_FormatStmt.f k a0 a1 a2 a3 a4 a5) (impl_FormatStmt.f (k + 1) a0 a1 a2 a3 a4 a5) := by
 intro a0 a1 a2 a3 a4 a5 k
 obtain ⟨ih0, ih1⟩ := impl_FormatStmt.mono_l k
 unfold impl_FormatStmt.f
 repeat' first | (with_reducible first | exact ih0 _ _ _ _ _ _ _ | exact ih1 _ _ _ _ _ _ _ | exact impl_StmtOk.mono _ _ _ _ _ _ _ | exact impl_spaced.mono _ _ _ | exact LeO.refl _ | exact LeO.none _ | refine LeO.ite ?_ ?_ | refine LeO.bind ?_ (fun _ => ?_)) | exact ih0 _ _ _ _ _ _ _ | exact ih1 _ _ _ _ _ _ _ | exact impl_StmtOk.mono _ _ _ _ _ _ _ | exact impl_spaced.mono _ _ _ | exact LeO.none _ | refine LeO.ite ?_ ?_ | refine LeO.bind ?_ (fun _ => ?_)
def impl_FormatStmt.T10 : Bool × List (List Nat × List Nat) := (true, [([], []), ([], []), ([1], [1]), ([0, 2], [0, 2]), ([3], [3]), ([], []), ([4, 5, 0], [4, 5]), ([6, 6, 0, 1, 2, 3, 4, 5, 6], [6])])
def impl_FormatStmt.B10 : List Nat := [0, 0, 2, 7, 15, 0, 63, 127]
theorem impl_FormatStmt.tab10 : rtab .any (opsOf Tryz.f39 10) = impl_FormatStmt.T10 := by kernel_rfl
theorem impl_FormatStmt.bits10 : waitsOk impl_FormatStmt.T10.2 impl_FormatStmt.B10 = true := by kernel_rfl
theorem impl_FormatStmt.calls (k : Nat) (a0_0 : Int) (a0_1 : Int) (a0_2 : Int) (a0_3 : Int) (a0_4 : Int) (a0_5 : Int) (r : ByteArray) (w : World) (h : impl_FormatStmt.f k a0_0 a0_1 a0_2 a0_3 a0_4 a0_5 = some r) (hGL : GL w := by first | exact HGL.out | exact GL.below HGL.out (by repeat (first | (with_reducible first | exact HB.out | apply z2 | apply z3 | apply z4 | refine zS ?_ (Aside0.out (by assumption))) | exact HB.out))) :
  Calls Tryz.prog 39 #[.agg #[.int .i64 a0_0, .int .i64 a0_1, .int .i64 a0_2, .int .i64 a0_3, .int .i64 a0_4, .int .i64 a0_5]] w fun e w' => e = .returned (.string r) ∧ Below w.heap.size w w' := by
 have HGL := zM hGL
 clear hGL
 have hu35 := Tryz.underlying35
 have HB := zM (Below.refl w.heap.size w)
 have H : ((impl_StmtOk.f k a0_0 a0_1 a0_2 a0_3 a0_4 a0_5).bind fun t289 => (if t289 = true then ((some (([] : List Int) : List Int)).bind fun y290 => ((impl_hasVar.f a0_0).bind fun t293 => (if t293 = true then (if y290.length < 17592186044416 then (impl_FormatStmt.j0 k (y290 ++ [a0_1]) a0_0 a0_1 a0_2 a0_3 a0_4 a0_5) else (none)) else (impl_FormatStmt.j0 k y290 a0_0 a0_1 a0_2 a0_3 a0_4 a0_5)))) else (some (⟨#[]⟩ : ByteArray)))) = some r := h
 clear h
 replace H := Option.bind_eq_some_iff.mp H
 obtain ⟨t289, A20, H⟩ := H
 replace H : (if t289 = true then ((some (([] : List Int) : List Int)).bind fun y290 => ((impl_hasVar.f a0_0).bind fun t293 => (if t293 = true then (if y290.length < 17592186044416 then (impl_FormatStmt.j0 k (y290 ++ [a0_1]) a0_0 a0_1 a0_2 a0_3 a0_4 a0_5) else (none)) else (impl_FormatStmt.j0 k y290 a0_0 a0_1 a0_2 a0_3 a0_4 a0_5)))) else (some (⟨#[]⟩ : ByteArray))) = some r := H
 have A2 := zM A20
 clear A20
 by_cases c3 : t289 = true
 ·subst c3
  have H1 : ((some (([] : List Int) : List Int)).bind fun y290 => ((impl_hasVar.f a0_0).bind fun t293 => (if t293 = true then (if y290.length < 17592186044416 then (impl_FormatStmt.j0 k (y290 ++ [a0_1]) a0_0 a0_1 a0_2 a0_3 a0_4 a0_5) else (none)) else (impl_FormatStmt.j0 k y290 a0_0 a0_1 a0_2 a0_3 a0_4 a0_5)))) = some r := by rw [if_pos rfl] at H; exact H
  clear H
  have H := H1
  clear H1
  obtain ⟨y290, hyq⟩ : ∃ y_ : List Int, y_ = (([] : List Int)) := ⟨_, rfl⟩
  replace H : ((impl_hasVar.f a0_0).bind fun t293 => (if t293 = true then (if y290.length < 17592186044416 then (impl_FormatStmt.j0 k (y290 ++ [a0_1]) a0_0 a0_1 a0_2 a0_3 a0_4 a0_5) else (none)) else (impl_FormatStmt.j0 k y290 a0_0 a0_1 a0_2 a0_3 a0_4 a0_5))) = some r := zh
  have Ny290 := zM hyq
  clear hyq
  replace H := Option.bind_eq_some_iff.mp H
  obtain ⟨t293, A40, H⟩ := H
  replace H : (if t293 = true then (if y290.length < 17592186044416 then (impl_FormatStmt.j0 k (y290 ++ [a0_1]) a0_0 a0_1 a0_2 a0_3 a0_4 a0_5) else (none)) else (impl_FormatStmt.j0 k y290 a0_0 a0_1 a0_2 a0_3 a0_4 a0_5)) = some r := H
  have A4 := zM A40
  clear A40
  have HC5 := zM H
  clear H
  go_enter Tryz.func39, Tryz.ntmps39
  go_upto_if 10 with (first | ((with_reducible refine gate_dst (N := 1) rfl ?_); refine box_event ?hg (N := 1) ?hd (cs := #[.int .i64 a0_0, .int .i64 a0_1, .int .i64 a0_2, .int .i64 a0_3, .int .i64 a0_4, .int .i64 a0_5]) (t := 35) ?hr ?_; (case hd => rfl); (case hg => rfl); (case hr => first | (go_simp; done) | (go_simp; rfl)); intro gb288 hg w6 hbox hb; have n0_ := zM (zQ zb hb); have n1_ := zM (hbox); have n2_ := zM ((by rw [hg]; exact (zR zb) : w.heap.size ≤ gb288)); have n3_ := zM ((by rw [hg]; exact (zR zb) : w.heap.size ≤ gb288)); clear HB; have HB := n0_; have BK288 := n1_; have GW288 := n2_; have GE288 := n3_; clear n0_ n1_ n2_ n3_; clear hb hbox hg; have hcz7_0 := (z5 BK288.out 0).trans rfl; have hcz7_1 := (z5 BK288.out 1).trans rfl; have hcz7_2 := (z5 BK288.out 2).trans rfl; have hcz7_3 := (z5 BK288.out 3).trans rfl; have hcz7_4 := (z5 BK288.out 4).trans rfl; have hcz7_5 := (z5 BK288.out 5).trans rfl; have hfz7_0 := z6 BK288.out 0; have hfz7_1 := z6 BK288.out 1; have hfz7_2 := z6 BK288.out 2; have hfz7_3 := z6 BK288.out 3; have hfz7_4 := z6 BK288.out 4; have hfz7_5 := z6 BK288.out 5) | ((with_reducible refine gate_callee (f := 54) rfl ?_); refine goesL_ (some 5) rfl rfl Tryz.func54 (by kernel_rfl) rfl #[.agg #[.int .i64 a0_0, .int .i64 a0_1, .int .i64 a0_2, .int .i64 a0_3, .int .i64 a0_4, .int .i64 a0_5]] rfl zg ?_; (with_reducible refine (impl_StmtOk.calls k a0_0 a0_1 a0_2 a0_3 a0_4 a0_5 true _ A2.out).mono ?_); rintro e w8 ⟨rfl, hb⟩; refine ⟨_, rfl, ?_⟩; have n0_ := zM (z7 (g := gb288) (o := .cells #[.int .i64 a0_0, .int .i64 a0_1, .int .i64 a0_2, .int .i64 a0_3, .int .i64 a0_4, .int .i64 a0_5] 35 (0, 0)) zk hb); have n1_ := zM (zQ zb hb); clear BK288; clear HB; have BK288 := n0_; have HB := n1_; clear n0_ n1_; (try clear hb); (try clear hk)) | ((with_reducible refine gate_dst (N := 7) rfl ?_); refine Kd.R_lit (Kd.int .i64) _ 3 ?hg (N := 7) ?hd (xs := ([] : List Int)) (inner := []) (ok := fun _ => True) (okp := fun _ => True) ?hr ?hp (fun _ hk => hk) trivial (Below.refl _ _) (Nat.le_refl _) (by simp) ?_; (case hd => rfl); (case hg => rfl); (case hr => first | (go_simp; done) | (go_simp; rfl)); (case hp => exact (Reps.none _ _)); intro v291 w9 ho10 hb hg_ hnew_; clear hg_ hnew_; (first | rw [← Ny290.out] at ho10 | (simp only [Int.reduceToNat] at ho10; rw [← Ny290.out] at ho10)); have n0_ := zM (zf ho10 (zR zb)); have n1_ := zM (z7 (g := gb288) (o := .cells #[.int .i64 a0_0, .int .i64 a0_1, .int .i64 a0_2, .int .i64 a0_3, .int .i64 a0_4, .int .i64 a0_5] 35 (0, 0)) zk hb); have n2_ := zM (zQ zb hb); clear BK288; clear HB; have HO292 := n0_; have BK288 := n1_; have HB := n2_; clear n0_ n1_ n2_; clear hb ho10; have hcz11_0 := (z5 BK288.out 0).trans rfl; have hcz11_1 := (z5 BK288.out 1).trans rfl; have hcz11_2 := (z5 BK288.out 2).trans rfl; have hcz11_3 := (z5 BK288.out 3).trans rfl; have hcz11_4 := (z5 BK288.out 4).trans rfl; have hcz11_5 := (z5 BK288.out 5).trans rfl; have hfz11_0 := z6 BK288.out 0; have hfz11_1 := z6 BK288.out 1; have hfz11_2 := z6 BK288.out 2; have hfz11_3 := z6 BK288.out 3; have hfz11_4 := z6 BK288.out 4; have hfz11_5 := z6 BK288.out 5) | ((with_reducible refine gate_callee (f := 36) rfl ?_); refine goesL_ (some 10) rfl rfl Tryz.func36 (by kernel_rfl) rfl #[.int .i64 a0_0] rfl zg ?_; (with_reducible refine (impl_hasVar.calls a0_0 t293 _ A4.out).mono ?_); rintro e w' ⟨rfl, ⟨nd, rfl⟩⟩; refine ⟨_, rfl, ?_⟩))
  (try simp only [Act.put, List.setIfInBounds_toArray, List.set_cons_zero, List.set_cons_succ])
  go_cut [3] (fun v3 wc => ∃ (kq : Nat) (x3_4 : List Int), Aside0 (impl_FormatStmt.j0 kq x3_4 a0_0 a0_1 a0_2 a0_3 a0_4 a0_5 = some r) ∧ Aside0 (kq ≤ k) ∧ Aside0 (Kd.R (Kd.int .i64) 3 wc w.heap.size (fun _ => True) v3 x3_4) ∧ Aside0 (wc.heap[gb288]? = some (.cells #[.int .i64 a0_0, .int .i64 a0_1, .int .i64 a0_2, .int .i64 a0_3, .int .i64 a0_4, .int .i64 a0_5] 35 (0, 0))) ∧ Aside0 (Below w.heap.size w wc))
  case first =>
   have H := HC5.out
   clear HC5
   by_cases c12 : t293 = true
   ·subst c12
    have H1 : (if y290.length < 17592186044416 then (impl_FormatStmt.j0 k (y290 ++ [a0_1]) a0_0 a0_1 a0_2 a0_3 a0_4 a0_5) else (none)) = some r := by rw [if_pos rfl] at H; exact H
    clear H
    have H := H1
    clear H1
    by_cases c13 : y290.length < 17592186044416
    ·rw [if_pos c13] at H
     have LMc13 := zM c13
     clear c13
     obtain ⟨y294, hyq⟩ : ∃ y_ : List Int, y_ = (y290 ++ [a0_1]) := ⟨_, rfl⟩
     replace H : (impl_FormatStmt.j0 k y294 a0_0 a0_1 a0_2 a0_3 a0_4 a0_5) = some r := zh
     have Ny294 := zM hyq
     clear hyq
     have H' := zM H
     clear H
     have hcz14_0 := (z5 BK288.out 0).trans rfl
     have hcz14_1 := (z5 BK288.out 1).trans rfl
     have hcz14_2 := (z5 BK288.out 2).trans rfl
     have hcz14_3 := (z5 BK288.out 3).trans rfl
     have hcz14_4 := (z5 BK288.out 4).trans rfl
     have hcz14_5 := (z5 BK288.out 5).trans rfl
     have hfz14_0 := z6 BK288.out 0
     have hfz14_1 := z6 BK288.out 1
     have hfz14_2 := z6 BK288.out 2
     have hfz14_3 := z6 BK288.out 3
     have hfz14_4 := z6 BK288.out 4
     have hfz14_5 := z6 BK288.out 5
     go_wp2_with (first | ((with_reducible refine gate_builtin (b := .append) (xs := #[.tmp 11, .tmp 14]) rfl ?_); at_builtin; refine Kd.R_append (Kd.int .i64) (w0 := w) w.heap.size rfl (.tmp 11) (.tmp 14) 54 3 (.int .i64 0) 8 rfl Tryz.underlying54 info3 rfl (by decide) (by omega) v291 y290 a0_1 [.int .i64 a0_1] (fun _ => True) (fun _ => False) rfl rfl ?aP (fun _ hk => hk.elim) ?aF ?aO ?aB ?aS ?aL ?_; (case aP => exact rfl); (case aB => exact zb); (case aF => exact (fun _ _ => trivial)); (case aO => exact (by (with_reducible repeat (first | apply zI | apply zJ | apply zK)); exact HO292.out)); (case aS => exact (zR zb)); (case aL => have := LMc13.out; omega); intro v295 w15 ho hb hg hat; (first | rw [← Ny294.out] at ho | (simp only [Int.reduceToNat] at ho; rw [← Ny294.out] at ho)); have n0_ := zM (blk_grown (g := gb288) (o := .cells #[.int .i64 a0_0, .int .i64 a0_1, .int .i64 a0_2, .int .i64 a0_3, .int .i64 a0_4, .int .i64 a0_5] 35 (0, 0)) zk hg (Kd.R_ne HO292.out BK288.out (by decide))); have n1_ := zM (hb); have n2_ := zM (ho); clear BK288; clear HB; clear HO292; have BK288 := n0_; have HB := n1_; have HO296 := n2_; clear n0_ n1_ n2_; clear ho hb hg hat))
     go_meet
     case rel => exact ⟨_, (y294), H', ⟨by first | omega | exact Nat.le_refl _⟩, ⟨by (with_reducible repeat (first | apply zI | apply zJ | apply zK)); exact HO296.out⟩, ⟨zk⟩, ⟨zb⟩⟩
    rw [if_neg c13] at H
    exact absurd H (by simp)
   replace c12 := Bool.eq_false_iff.mpr c12
   subst c12
   have H1 : (impl_FormatStmt.j0 k y290 a0_0 a0_1 a0_2 a0_3 a0_4 a0_5) = some r := by rw [if_neg (show ¬ (false = true) by decide)] at H; exact H
   clear H
   have H := H1
   clear H1
   have H' := zM H
   clear H
   go_wp2
   go_meet
   case rel => exact ⟨_, (y290), H', ⟨by first | omega | exact Nat.le_refl _⟩, ⟨by (with_reducible repeat (first | apply zI | apply zJ | apply zK)); exact HO292.out⟩, ⟨zk⟩, ⟨zb⟩⟩
  case rest =>
   clear HC5
   try clear c1
   try clear p2
   try clear c3
   try clear c5
   try clear c12
   try clear c13
   try clear hcz11_0
   try clear hcz11_1
   try clear hcz11_2
   try clear hcz11_3
   try clear hcz11_4
   try clear hcz11_5
   try clear hcz14_0
   try clear hcz14_1
   try clear hcz14_2
   try clear hcz14_3
   try clear hcz14_4
   try clear hcz14_5
   try clear hcz7_0
   try clear hcz7_1
   try clear hcz7_2
   try clear hcz7_3
   try clear hcz7_4
   try clear hcz7_5
   try clear hfz11_0
   try clear hfz11_1
   try clear hfz11_2
   try clear hfz11_3
   try clear hfz11_4
   try clear hfz11_5
   try clear hfz14_0
   try clear hfz14_1
   try clear hfz14_2
   try clear hfz14_3
   try clear hfz14_4
   try clear hfz14_5
   try clear hfz7_0
   try clear hfz7_1
   try clear hfz7_2
   try clear hfz7_3
   try clear hfz7_4
   try clear hfz7_5
   obtain ⟨kq, x3_4, HA, HJ4, HO_3, BK288, HB⟩ := hcut
   cases kq with
   | zero => exact absurd HA.out (by simp [impl_FormatStmt.j0])
   | succ kj4 =>
    have H := HA.out
    clear HA
    simp only [impl_FormatStmt.j0] at H
    replace H := Option.bind_eq_some_iff.mp H
    obtain ⟨t297, A160, H⟩ := H
    replace H : (if t297 = true then (if x3_4.length < 17592186044416 then (impl_FormatStmt.j1 kj4 (x3_4 ++ [a0_2]) a0_0 a0_1 a0_2 a0_3 a0_4 a0_5) else (none)) else (impl_FormatStmt.j1 kj4 x3_4 a0_0 a0_1 a0_2 a0_3 a0_4 a0_5)) = some r := H
    have A16 := zM A160
    clear A160
    have HC17 := zM H
    clear H
    have hcz18_0 := (z5 BK288.out 0).trans rfl
    have hcz18_1 := (z5 BK288.out 1).trans rfl
    have hcz18_2 := (z5 BK288.out 2).trans rfl
    have hcz18_3 := (z5 BK288.out 3).trans rfl
    have hcz18_4 := (z5 BK288.out 4).trans rfl
    have hcz18_5 := (z5 BK288.out 5).trans rfl
    have hfz18_0 := z6 BK288.out 0
    have hfz18_1 := z6 BK288.out 1
    have hfz18_2 := z6 BK288.out 2
    have hfz18_3 := z6 BK288.out 3
    have hfz18_4 := z6 BK288.out 4
    have hfz18_5 := z6 BK288.out 5
    go_upto_if 18 with (first | ((with_reducible refine gate_callee (f := 37) rfl ?_); refine goesL_ (some 18) rfl rfl Tryz.func37 (by kernel_rfl) rfl #[.int .i64 a0_0] rfl zg ?_; (with_reducible refine (impl_hasN.calls a0_0 t297 _ A16.out).mono ?_); rintro e w' ⟨rfl, ⟨nd, rfl⟩⟩; refine ⟨_, rfl, ?_⟩))
    (try simp only [Act.put, List.setIfInBounds_toArray, List.set_cons_zero, List.set_cons_succ])
    go_cut [3] (fun v3 wc => ∃ (kq : Nat) (x3_16 : List Int), Aside0 (impl_FormatStmt.j1 kq x3_16 a0_0 a0_1 a0_2 a0_3 a0_4 a0_5 = some r) ∧ Aside0 (kq ≤ kj4) ∧ Aside0 (Kd.R (Kd.int .i64) 3 wc w.heap.size (fun _ => True) v3 x3_16) ∧ Aside0 (wc.heap[gb288]? = some (.cells #[.int .i64 a0_0, .int .i64 a0_1, .int .i64 a0_2, .int .i64 a0_3, .int .i64 a0_4, .int .i64 a0_5] 35 (0, 0))) ∧ Aside0 (Below w.heap.size w wc))
    case first =>
     have H := HC17.out
     clear HC17
     by_cases c19 : t297 = true
     ·subst c19
      have H1 : (if x3_4.length < 17592186044416 then (impl_FormatStmt.j1 kj4 (x3_4 ++ [a0_2]) a0_0 a0_1 a0_2 a0_3 a0_4 a0_5) else (none)) = some r := by rw [if_pos rfl] at H; exact H
      clear H
      have H := H1
      clear H1
      by_cases c20 : x3_4.length < 17592186044416
      ·rw [if_pos c20] at H
       have LMc20 := zM c20
       clear c20
       obtain ⟨y298, hyq⟩ : ∃ y_ : List Int, y_ = (x3_4 ++ [a0_2]) := ⟨_, rfl⟩
       replace H : (impl_FormatStmt.j1 kj4 y298 a0_0 a0_1 a0_2 a0_3 a0_4 a0_5) = some r := zh
       have Ny298 := zM hyq
       clear hyq
       have H' := zM H
       clear H
       have hcz21_0 := (z5 BK288.out 0).trans rfl
       have hcz21_1 := (z5 BK288.out 1).trans rfl
       have hcz21_2 := (z5 BK288.out 2).trans rfl
       have hcz21_3 := (z5 BK288.out 3).trans rfl
       have hcz21_4 := (z5 BK288.out 4).trans rfl
       have hcz21_5 := (z5 BK288.out 5).trans rfl
       have hfz21_0 := z6 BK288.out 0
       have hfz21_1 := z6 BK288.out 1
       have hfz21_2 := z6 BK288.out 2
       have hfz21_3 := z6 BK288.out 3
       have hfz21_4 := z6 BK288.out 4
       have hfz21_5 := z6 BK288.out 5
       go_wp2_with (first | ((with_reducible refine gate_builtin (b := .append) (xs := #[.tmp 19, .tmp 22]) rfl ?_); at_builtin; refine Kd.R_append (Kd.int .i64) (w0 := w) w.heap.size rfl (.tmp 19) (.tmp 22) 54 3 (.int .i64 0) 8 rfl Tryz.underlying54 info3 rfl (by decide) (by omega) u3 x3_4 a0_2 [.int .i64 a0_2] (fun _ => True) (fun _ => False) rfl rfl ?aP (fun _ hk => hk.elim) ?aF ?aO ?aB ?aS ?aL ?_; (case aP => exact rfl); (case aB => exact zb); (case aF => exact (fun _ _ => trivial)); (case aO => exact (by (with_reducible repeat (first | apply zI | apply zJ | apply zK)); exact HO_3.out)); (case aS => exact (zR zb)); (case aL => have := LMc20.out; omega); intro v299 w22 ho hb hg hat; (first | rw [← Ny298.out] at ho | (simp only [Int.reduceToNat] at ho; rw [← Ny298.out] at ho)); have n0_ := zM (blk_grown (g := gb288) (o := .cells #[.int .i64 a0_0, .int .i64 a0_1, .int .i64 a0_2, .int .i64 a0_3, .int .i64 a0_4, .int .i64 a0_5] 35 (0, 0)) zk hg (Kd.R_ne HO_3.out BK288.out (by decide))); have n1_ := zM (hb); have n2_ := zM (ho); clear BK288; clear HB; clear HO_3; have BK288 := n0_; have HB := n1_; have HO300 := n2_; clear n0_ n1_ n2_; clear ho hb hg hat))
       go_meet
       case rel => exact ⟨_, (y298), H', ⟨by have := HJ4.out; first | omega | exact Nat.le_refl _⟩, ⟨by (with_reducible repeat (first | apply zI | apply zJ | apply zK)); exact HO300.out⟩, ⟨zk⟩, ⟨zb⟩⟩
      rw [if_neg c20] at H
      exact absurd H (by simp)
     replace c19 := Bool.eq_false_iff.mpr c19
     subst c19
     have H1 : (impl_FormatStmt.j1 kj4 x3_4 a0_0 a0_1 a0_2 a0_3 a0_4 a0_5) = some r := by rw [if_neg (show ¬ (false = true) by decide)] at H; exact H
     clear H
     have H := H1
     clear H1
     have H' := zM H
     clear H
     go_wp2
     go_meet
     case rel => exact ⟨_, (x3_4), H', ⟨by have := HJ4.out; first | omega | exact Nat.le_refl _⟩, ⟨by (with_reducible repeat (first | apply zI | apply zJ | apply zK)); exact HO_3.out⟩, ⟨zk⟩, ⟨zb⟩⟩
    case rest =>
     clear HC17
     try clear c1
     try clear c2
     try clear p2
     try clear c3
     try clear c5
     try clear c12
     try clear c13
     try clear c19
     try clear c20
     try clear hcz11_0
     try clear hcz11_1
     try clear hcz11_2
     try clear hcz11_3
     try clear hcz11_4
     try clear hcz11_5
     try clear hcz14_0
     try clear hcz14_1
     try clear hcz14_2
     try clear hcz14_3
     try clear hcz14_4
     try clear hcz14_5
     try clear hcz18_0
     try clear hcz18_1
     try clear hcz18_2
     try clear hcz18_3
     try clear hcz18_4
     try clear hcz18_5
     try clear hcz21_0
     try clear hcz21_1
     try clear hcz21_2
     try clear hcz21_3
     try clear hcz21_4
     try clear hcz21_5
     try clear hcz7_0
     try clear hcz7_1
     try clear hcz7_2
     try clear hcz7_3
     try clear hcz7_4
     try clear hcz7_5
     try clear hfz11_0
     try clear hfz11_1
     try clear hfz11_2
     try clear hfz11_3
     try clear hfz11_4
     try clear hfz11_5
     try clear hfz14_0
     try clear hfz14_1
     try clear hfz14_2
     try clear hfz14_3
     try clear hfz14_4
     try clear hfz14_5
     try clear hfz18_0
     try clear hfz18_1
     try clear hfz18_2
     try clear hfz18_3
     try clear hfz18_4
     try clear hfz18_5
     try clear hfz21_0
     try clear hfz21_1
     try clear hfz21_2
     try clear hfz21_3
     try clear hfz21_4
     try clear hfz21_5
     try clear hfz7_0
     try clear hfz7_1
     try clear hfz7_2
     try clear hfz7_3
     try clear hfz7_4
     try clear hfz7_5
     try clear p2
     obtain ⟨kq, x3_16, HA, HJ16, HO_3, BK288, HB⟩ := hcut
     cases kq with
     | zero => exact absurd HA.out (by simp [impl_FormatStmt.j1])
     | succ kj16 =>
      have H := HA.out
      clear HA
      simp only [impl_FormatStmt.j1] at H
      replace H := Option.bind_eq_some_iff.mp H
      obtain ⟨t301, A230, H⟩ := H
      replace H : (if t301 = true then ((some (([a0_3, a0_4, a0_5] : List Int) : List Int)).bind fun y302 => (if x3_16.length + y302.length < 17592186044416 then ((impl_stmtNames.f).bind fun t308 => (if 0 ≤ a0_0 then (if a0_0 < (t308.length : Int) then ((impl_spaced.f kj16 (rdOf ByteArray.empty t308 a0_0) (x3_16 ++ y302)).bind fun t312 => (some t312)) else (none)) else (none))) else (none))) else ((impl_stmtNames.f).bind fun t313 => (if 0 ≤ a0_0 then (if a0_0 < (t313.length : Int) then ((impl_spaced.f kj16 (rdOf ByteArray.empty t313 a0_0) x3_16).bind fun t317 => (some t317)) else (none)) else (none)))) = some r := H
      have A23 := zM A230
      clear A230
      by_cases c24 : t301 = true
      ·subst c24
       have H1 : ((some (([a0_3, a0_4, a0_5] : List Int) : List Int)).bind fun y302 => (if x3_16.length + y302.length < 17592186044416 then ((impl_stmtNames.f).bind fun t308 => (if 0 ≤ a0_0 then (if a0_0 < (t308.length : Int) then ((impl_spaced.f kj16 (rdOf ByteArray.empty t308 a0_0) (x3_16 ++ y302)).bind fun t312 => (some t312)) else (none)) else (none))) else (none))) = some r := by rw [if_pos rfl] at H; exact H
       clear H
       have H := H1
       clear H1
       obtain ⟨y302, hyq⟩ : ∃ y_ : List Int, y_ = (([a0_3, a0_4, a0_5] : List Int)) := ⟨_, rfl⟩
       replace H : (if x3_16.length + y302.length < 17592186044416 then ((impl_stmtNames.f).bind fun t308 => (if 0 ≤ a0_0 then (if a0_0 < (t308.length : Int) then ((impl_spaced.f kj16 (rdOf ByteArray.empty t308 a0_0) (x3_16 ++ y302)).bind fun t312 => (some t312)) else (none)) else (none))) else (none)) = some r := zh
       have Ny302 := zM hyq
       clear hyq
       by_cases c25 : x3_16.length + y302.length < 17592186044416
       ·rw [if_pos c25] at H
        have LMc25 := zM c25
        clear c25
        obtain ⟨y305, hyq⟩ : ∃ y_ : List Int, y_ = (x3_16 ++ y302) := ⟨_, rfl⟩
        replace H : ((impl_stmtNames.f).bind fun t308 => (if 0 ≤ a0_0 then (if a0_0 < (t308.length : Int) then ((impl_spaced.f kj16 (rdOf ByteArray.empty t308 a0_0) y305).bind fun t312 => (some t312)) else (none)) else (none))) = some r := zh
        have Ny305 := zM hyq
        clear hyq
        replace H := Option.bind_eq_some_iff.mp H
        obtain ⟨t308, A260, H⟩ := H
        replace H : (if 0 ≤ a0_0 then (if a0_0 < (t308.length : Int) then ((impl_spaced.f kj16 (rdOf ByteArray.empty t308 a0_0) y305).bind fun t312 => (some t312)) else (none)) else (none)) = some r := H
        have A26 := zM A260
        clear A260
        by_cases c27 : 0 ≤ a0_0
        ·rw [if_pos c27] at H
         have c27b0 : decide (0 ≤ a0_0) = true := decide_eq_true c27
         clear c27
         by_cases c28 : a0_0 < (t308.length : Int)
         ·rw [if_pos c28] at H
          have c28b0 : decide (a0_0 < (t308.length : Int)) = true := decide_eq_true c28
          clear c28
          replace H := Option.bind_eq_some_iff.mp H
          obtain ⟨t312, A290, H⟩ := H
          replace H : (some t312) = some r := H
          have A29 := zM A290
          clear A290
          obtain rfl := Option.some.inj H
          have hcz30_0 := (z5 BK288.out 0).trans rfl
          have hcz30_1 := (z5 BK288.out 1).trans rfl
          have hcz30_2 := (z5 BK288.out 2).trans rfl
          have hcz30_3 := (z5 BK288.out 3).trans rfl
          have hcz30_4 := (z5 BK288.out 4).trans rfl
          have hcz30_5 := (z5 BK288.out 5).trans rfl
          have hfz30_0 := z6 BK288.out 0
          have hfz30_1 := z6 BK288.out 1
          have hfz30_2 := z6 BK288.out 2
          have hfz30_3 := z6 BK288.out 3
          have hfz30_4 := z6 BK288.out 4
          have hfz30_5 := z6 BK288.out 5
          try go_wp2_with (first | ((with_reducible refine gate_callee (f := 38) rfl ?_); refine goesL_ (some 26) rfl rfl Tryz.func38 (by kernel_rfl) rfl #[.int .i64 a0_0] rfl zg ?_; (with_reducible refine (impl_hasExpr.calls a0_0 true _ A23.out).mono ?_); rintro e w' ⟨rfl, ⟨nd, rfl⟩⟩; refine ⟨_, rfl, ?_⟩) | ((with_reducible refine gate_dst (N := 37) rfl ?_); refine Kd.R_lit (Kd.int .i64) _ 3 ?hg (N := 37) ?hd (xs := ([a0_3, a0_4, a0_5] : List Int)) (inner := [.int .i64 a0_3, .int .i64 a0_4, .int .i64 a0_5]) (ok := fun _ => True) (okp := fun _ => True) ?hr ?hp (fun _ hk => hk) trivial (Below.refl _ _) (Nat.le_refl _) (by simp) ?_; (case hd => rfl); (case hg => rfl); (case hr => first | (go_simp; done) | (go_simp; rfl)); (case hp => exact (Reps.one (show Kd.M (Kd.int .i64) _ _ _ a0_3 [.int .i64 a0_3] from rfl) (Reps.one (show Kd.M (Kd.int .i64) _ _ _ a0_4 [.int .i64 a0_4] from rfl) (Reps.one (show Kd.M (Kd.int .i64) _ _ _ a0_5 [.int .i64 a0_5] from rfl) (Reps.none _ _))))); intro v303 w31 ho32 hb hg_ hnew_; clear hg_ hnew_; (first | rw [← Ny302.out] at ho32 | (simp only [Int.reduceToNat] at ho32; rw [← Ny302.out] at ho32)); have n0_ := zM (Kd.R_elder' (by (with_reducible repeat (first | apply zI | apply zJ | apply zK)); exact HO_3.out) (Kd.R_base ho32) hb); have n1_ := zM (zf (Kd.R_new' ho32 (Kd.R_lt (by (with_reducible repeat (first | apply zI | apply zJ | apply zK)); exact HO_3.out))) (zR zb)); have n2_ := zM (z7 (g := gb288) (o := .cells #[.int .i64 a0_0, .int .i64 a0_1, .int .i64 a0_2, .int .i64 a0_3, .int .i64 a0_4, .int .i64 a0_5] 35 (0, 0)) zk hb); have n3_ := zM (zQ zb hb); clear HO_3; clear BK288; clear HB; have HO_3 := n0_; have HO304 := n1_; have BK288 := n2_; have HB := n3_; clear n0_ n1_ n2_ n3_; clear hb ho32; obtain ⟨Ao34, co34, eo34⟩ := Kd.R_slice HO304.out; subst eo34) | ((with_reducible refine gate_builtin (b := .append) (xs := #[.tmp 27, .tmp 37]) rfl ?_); at_builtin; refine Kd.R_append_rows (Kd.int .i64) (w0 := w) w.heap.size rfl (.tmp 27) (.tmp 37) 54 3 (.int .i64 0) 8 rfl Tryz.underlying54 info3 rfl (by decide) (by omega) u3 x3_16 y302 _ _ _ (fun k_ => some k_ ≠ (.slice Ao34 y302.length co34 : Value).ownBlock) (fun _ => False) rfl rfl ?aO ?aR (fun _ _ h => h) (fun _ h => h.elim) ?aF ?aB ?aS ?aL ?_; (case aR => repeat (first | exact (z9 HO304.out).2.2 | (with_reducible refine zF ?_ _) | (with_reducible refine zG ?_ _) | (with_reducible refine zH ?_))); (case aB => exact zb); (case aF => exact (fun k_ hk => Kd.fresh' (Kd.R_lt (by (with_reducible repeat (first | apply zI | apply zJ | apply zK)); exact HO304.out)) k_ hk)); (case aO => exact (by (with_reducible repeat (first | apply zI | apply zJ | apply zK)); exact z1 HO_3.out (fun _ hk => hk.2))); (case aS => exact (zR zb)); (case aL => have := LMc25.out; omega); intro v306 w33 ho hb hg hat; (first | rw [← Ny305.out] at ho | (simp only [Int.reduceToNat] at ho; rw [← Ny305.out] at ho)); have n0_ := zM (blk_grown (g := gb288) (o := .cells #[.int .i64 a0_0, .int .i64 a0_1, .int .i64 a0_2, .int .i64 a0_3, .int .i64 a0_4, .int .i64 a0_5] 35 (0, 0)) zk hg (Kd.R_ne HO_3.out BK288.out (by decide))); have n1_ := zM (Kd.R_after (ok := (fun _ => True)) (by (with_reducible repeat (first | apply zI | apply zJ | apply zK)); exact HO304.out) hg hat); have n2_ := zM (hb); have n3_ := zM (ho); clear BK288; clear HO304; clear HB; clear HO_3; have BK288 := n0_; have HO304 := n1_; have HB := n2_; have HO307 := n3_; clear n0_ n1_ n2_ n3_; clear ho hb hg hat))
          have n0_ := zM (zK HO304.out)
          have n1_ := zM (zK HO307.out)
          have n2_ := zM (zO BK288.out)
          have n3_ := zM (z4 HB.out)
          clear HO304
          clear HO307
          clear BK288
          clear HB
          have HO304 := n0_
          have HO307 := n1_
          have BK288 := n2_
          have HB := n3_
          clear n0_ n1_ n2_ n3_
          refine start_ (n := 8) (S := fun w' => w'.cell? ⟨gb288, 0, none⟩ = some (.int .i64 a0_0) ∧ w'.cell? ⟨gb288, 1, none⟩ = some (.int .i64 a0_1) ∧ w'.cell? ⟨gb288, 2, none⟩ = some (.int .i64 a0_2) ∧ w'.cell? ⟨gb288, 3, none⟩ = some (.int .i64 a0_3) ∧ w'.cell? ⟨gb288, 4, none⟩ = some (.int .i64 a0_4) ∧ w'.cell? ⟨gb288, 5, none⟩ = some (.int .i64 a0_5)) (ds := []) #[false, false, false, false, false, false, false, false] (by kernel_rfl) rfl rfl ⟨(z5 BK288.out 0).trans rfl, (z5 BK288.out 1).trans rfl, (z5 BK288.out 2).trans rfl, (z5 BK288.out 3).trans rfl, (z5 BK288.out 4).trans rfl, (z5 BK288.out 5).trans rfl⟩ (fun hHeld => ?_); refine with_tabW impl_FormatStmt.tab10 impl_FormatStmt.bits10 (fun HT_ HW_ => ?_)
          generalize w33.drew = w35 at HO304 HO307 BK288 HB hHeld ⊢
          refine pure_ (i := 1) (N := some 40) (v := ?_) (a' := ?_) #[false, true, false, false, false, false, false, false] rfl rfl (any_of HT_.out (by kernel_rfl)) (fun _ _ _ h => h) (Or.inl ⟨by rfl, ?_⟩) ?_ ?_
          rotate_left
          ·intro w'
           go_simp
           with_reducible rfl
          rotate_left
          ·exact zu
          refine pure_ (i := 5) (N := some 44) (v := ?_) (a' := ?_) #[false, true, false, false, false, true, false, false] rfl rfl (any_of HT_.out (by kernel_rfl)) (fun _ _ _ h => h) (Or.inl ⟨by rfl, ?_⟩) ?_ ?_
          rotate_left
          ·intro w'
           go_simp
           with_reducible rfl
          rotate_left
          ·exact zu
          refine take_ (i := 2) (N := some 41) (v := ?_) (a' := ?_) #[false, true, true, false, false, true, false, false] rfl rfl (take_ofW HT_.out HW_.out (by kernel_rfl)) (fun _ _ _ h => h) (Or.inl ⟨by rfl, ?_⟩) hHeld ?_ ?_
          rotate_left
          ·rintro w' ⟨s0, s1, s2, s3, s4, s5⟩
           go_simp
           with_reducible rfl
          rotate_left
          ·exact zu
          refine one_ (i := 0) (N := some 39) #[true, true, true, false, false, true, false, false] rfl rfl (one_of HT_.out (by kernel_rfl)) (by decide) (fun K hK => ?_)
          refine goes_ Tryz.func35 (by kernel_rfl) rfl #[] (by rfl) rfl rfl zg ?_
          with_reducible refine (impl_stmtNames.calls  t308 _ A26.out).mono ?_
          rintro e w36 ⟨v309, rfl, ho0, hb⟩
          refine ⟨_, rfl, ?_⟩
          have n0_ := zM (ze (by (with_reducible repeat (first | apply zI | apply zJ | apply zK)); exact HO304.out) hb)
          have n1_ := zM (ze (by (with_reducible repeat (first | apply zI | apply zJ | apply zK)); exact HO307.out) hb)
          have n2_ := zM (zf ho0 (zR zb))
          have n3_ := zM (z7 (g := gb288) (o := .cells #[.int .i64 a0_0, .int .i64 a0_1, .int .i64 a0_2, .int .i64 a0_3, .int .i64 a0_4, .int .i64 a0_5] 35 (0, 0)) zk hb)
          have n4_ := zM (zQ zb hb)
          clear HO304
          clear HO307
          clear BK288
          clear HB
          have HO304 := n0_
          have HO307 := n1_
          have HO310 := n2_
          have BK288 := n3_
          have HB := n4_
          clear n0_ n1_ n2_ n3_ n4_
          (try clear hb)
          (try clear hb2)
          (try clear hk)
          (try clear hi)
          (try clear ho0)
          obtain ⟨Ao37, co37, eo37⟩ := Kd.R_slice HO310.out
          (first | subst eo37 | (injection eo37 with f1_ f2_ f3_; have f4_ := f1_.symm; have f5_ := f3_.symm; clear f1_ f2_ f3_; subst f4_; subst f5_))
          have p311 : 0 ≤ (a0_0 : Int) := zd
          have q311 : a0_0 < (t308.length : Int) := zd
          obtain ⟨ad311, e311, hx311_0⟩ := Kd.at_string (z9 HO310.out).2.2 a0_0 p311 q311
          cases e311
          replace p311 := eq_true p311
          replace q311 := eq_true q311
          obtain ⟨Ao38, co38, eo38⟩ := Kd.R_slice HO307.out
          (first | subst eo38 | (injection eo38 with f1_ f2_ f3_; have f4_ := f1_.symm; have f5_ := f3_.symm; clear f1_ f2_ f3_; subst f4_; subst f5_))
          refine hK.out _ _ ⟨(z5 BK288.out 0).trans rfl, (z5 BK288.out 1).trans rfl, (z5 BK288.out 2).trans rfl, (z5 BK288.out 3).trans rfl, (z5 BK288.out 4).trans rfl, (z5 BK288.out 5).trans rfl⟩ (fun hHeld => ?_)
          clear hK K
          refine norm_ (a' := ?_) ?_ ?_
          rotate_left
          ·show Act.put _ (some 39) _ = _
           exact zu
          refine pure_ (i := 3) (N := some 42) (v := ?_) (a' := ?_) #[true, true, true, true, false, true, false, false] rfl rfl (any_of HT_.out (by kernel_rfl)) (fun _ _ _ h => h) (Or.inl ⟨by rfl, ?_⟩) ?_ ?_
          rotate_left
          ·intro w'
           go_simp
           with_reducible rfl
          rotate_left
          ·exact zu
          refine one_ (i := 4) (N := some 43) #[true, true, true, true, true, true, false, false] rfl rfl (one_of HT_.out (by kernel_rfl)) (by decide) (fun K hK => ?_)
          refine value_ (v := .string (rdOf ByteArray.empty t308 a0_0)) (by rfl) rfl (by have s6 := hx311_0; go_simp; with_reducible rfl) ?_
          refine hK.out _ _ hHeld (fun hHeld => ?_)
          clear hK K
          refine norm_ (a' := ?_) ?_ ?_
          rotate_left
          ·show Act.put _ (some 43) _ = _
           exact zu
          refine one_ (i := 6) (N := some 45) #[true, true, true, true, true, true, true, false] rfl rfl (one_of HT_.out (by kernel_rfl)) (by decide) (fun K hK => ?_)
          refine goes_ Tryz.func53 (by kernel_rfl) rfl #[.string (rdOf ByteArray.empty t308 a0_0), .slice Ao38 y305.length co38] (by rfl) rfl rfl zg ?_
          with_reducible refine (impl_spaced.calls kj16 (rdOf ByteArray.empty t308 a0_0) _ _ y305 t312 _ ?side1 ?side2 A29.out).mono ?_
          (case side1 => repeat (first | exact (z9 HO307.out).2.2 | (with_reducible refine zF ?_ _) | (with_reducible refine zG ?_ _) | (with_reducible refine zH ?_)))
          (case side2 => exact (z9 HO307.out).2.1)
          rintro e w39 ⟨rfl, hb⟩
          refine ⟨_, rfl, ?_⟩
          have n0_ := zM (ze (by (with_reducible repeat (first | apply zI | apply zJ | apply zK)); exact HO304.out) hb)
          have n1_ := zM (ze (by (with_reducible repeat (first | apply zI | apply zJ | apply zK)); exact HO307.out) hb)
          have n2_ := zM (ze (by (with_reducible repeat (first | apply zI | apply zJ | apply zK)); exact HO310.out) hb)
          have n3_ := zM (z7 (g := gb288) (o := .cells #[.int .i64 a0_0, .int .i64 a0_1, .int .i64 a0_2, .int .i64 a0_3, .int .i64 a0_4, .int .i64 a0_5] 35 (0, 0)) zk hb)
          have n4_ := zM (zQ zb hb)
          clear HO304
          clear HO307
          clear HO310
          clear BK288
          clear HB
          have HO304 := n0_
          have HO307 := n1_
          have HO310 := n2_
          have BK288 := n3_
          have HB := n4_
          clear n0_ n1_ n2_ n3_ n4_
          (try clear hb)
          (try clear hb2)
          (try clear hk)
          (try clear hi)
          refine hK.out _ _ ⟨(z5 BK288.out 0).trans rfl, (z5 BK288.out 1).trans rfl, (z5 BK288.out 2).trans rfl, (z5 BK288.out 3).trans rfl, (z5 BK288.out 4).trans rfl, (z5 BK288.out 5).trans rfl⟩ (fun hHeld => ?_)
          clear hK K
          refine norm_ (a' := ?_) ?_ ?_
          rotate_left
          ·show Act.put _ (some 45) _ = _
           exact zu
          refine pure_ (i := 7) (N := some 2) (v := ?_) (a' := ?_) #[true, true, true, true, true, true, true, true] rfl rfl (any_of HT_.out (by kernel_rfl)) (fun _ _ _ h => h) (Or.inl ⟨by rfl, ?_⟩) ?_ ?_
          rotate_left
          ·intro w'
           go_simp
           with_reducible rfl
          rotate_left
          ·exact zu
          refine done_ (done_of HT_.out (by kernel_rfl)) ?_
          try go_wp2
          go_ret
          exact ⟨by first | rfl | (simp [errW_none, errW_some] <;> rfl) | (simp [*, errW_none, errW_some] <;> rfl), zb⟩
         rw [if_neg c28] at H
         exact absurd H (by simp)
        rw [if_neg c27] at H
        exact absurd H (by simp)
       rw [if_neg c25] at H
       exact absurd H (by simp)
      replace c24 := Bool.eq_false_iff.mpr c24
      subst c24
      have H1 : ((impl_stmtNames.f).bind fun t313 => (if 0 ≤ a0_0 then (if a0_0 < (t313.length : Int) then ((impl_spaced.f kj16 (rdOf ByteArray.empty t313 a0_0) x3_16).bind fun t317 => (some t317)) else (none)) else (none))) = some r := by rw [if_neg (show ¬ (false = true) by decide)] at H; exact H
      clear H
      have H := H1
      clear H1
      replace H := Option.bind_eq_some_iff.mp H
      obtain ⟨t313, A400, H⟩ := H
      replace H : (if 0 ≤ a0_0 then (if a0_0 < (t313.length : Int) then ((impl_spaced.f kj16 (rdOf ByteArray.empty t313 a0_0) x3_16).bind fun t317 => (some t317)) else (none)) else (none)) = some r := H
      have A40 := zM A400
      clear A400
      by_cases c41 : 0 ≤ a0_0
      ·rw [if_pos c41] at H
       have c41b0 : decide (0 ≤ a0_0) = true := decide_eq_true c41
       clear c41
       by_cases c42 : a0_0 < (t313.length : Int)
       ·rw [if_pos c42] at H
        have c42b0 : decide (a0_0 < (t313.length : Int)) = true := decide_eq_true c42
        clear c42
        replace H := Option.bind_eq_some_iff.mp H
        obtain ⟨t317, A430, H⟩ := H
        replace H : (some t317) = some r := H
        have A43 := zM A430
        clear A430
        obtain rfl := Option.some.inj H
        have hcz44_0 := (z5 BK288.out 0).trans rfl
        have hcz44_1 := (z5 BK288.out 1).trans rfl
        have hcz44_2 := (z5 BK288.out 2).trans rfl
        have hcz44_3 := (z5 BK288.out 3).trans rfl
        have hcz44_4 := (z5 BK288.out 4).trans rfl
        have hcz44_5 := (z5 BK288.out 5).trans rfl
        have hfz44_0 := z6 BK288.out 0
        have hfz44_1 := z6 BK288.out 1
        have hfz44_2 := z6 BK288.out 2
        have hfz44_3 := z6 BK288.out 3
        have hfz44_4 := z6 BK288.out 4
        have hfz44_5 := z6 BK288.out 5
        try go_wp2_with (first | ((with_reducible refine gate_callee (f := 38) rfl ?_); refine goesL_ (some 26) rfl rfl Tryz.func38 (by kernel_rfl) rfl #[.int .i64 a0_0] rfl zg ?_; (with_reducible refine (impl_hasExpr.calls a0_0 false _ A23.out).mono ?_); rintro e w' ⟨rfl, ⟨nd, rfl⟩⟩; refine ⟨_, rfl, ?_⟩))
        (try (rw [drewN_self wc]; generalize hq_ : World.drewN wc _ = wc; have n0_ : Aside0 (Kd.R (Kd.int .i64) 3 wc w.heap.size (fun _ => True) u3 x3_16) := ⟨by rw [← hq_]; exact (by (with_reducible repeat (first | apply zI | apply zJ | apply zK)); exact HO_3.out)⟩; have n1_ : Aside0 (wc.heap[gb288]? = some (.cells #[.int .i64 a0_0, .int .i64 a0_1, .int .i64 a0_2, .int .i64 a0_3, .int .i64 a0_4, .int .i64 a0_5] 35 (0, 0))) := ⟨by rw [← hq_]; exact zk⟩; have n2_ : Aside0 (Below w.heap.size w wc) := ⟨by rw [← hq_]; exact zb⟩; clear HO_3 BK288 HB hq_; have HO_3 := n0_; have BK288 := n1_; have HB := n2_; clear n0_ n1_ n2_))
        have n0_ := zM (zK HO_3.out)
        have n1_ := zM (zO BK288.out)
        have n2_ := zM (z4 HB.out)
        clear HO_3
        clear BK288
        clear HB
        have HO_3 := n0_
        have BK288 := n1_
        have HB := n2_
        clear n0_ n1_ n2_
        refine start_ (n := 8) (S := fun w' => w'.cell? ⟨gb288, 0, none⟩ = some (.int .i64 a0_0) ∧ w'.cell? ⟨gb288, 1, none⟩ = some (.int .i64 a0_1) ∧ w'.cell? ⟨gb288, 2, none⟩ = some (.int .i64 a0_2) ∧ w'.cell? ⟨gb288, 3, none⟩ = some (.int .i64 a0_3) ∧ w'.cell? ⟨gb288, 4, none⟩ = some (.int .i64 a0_4) ∧ w'.cell? ⟨gb288, 5, none⟩ = some (.int .i64 a0_5)) (ds := []) #[false, false, false, false, false, false, false, false] (by kernel_rfl) rfl rfl ⟨(z5 BK288.out 0).trans rfl, (z5 BK288.out 1).trans rfl, (z5 BK288.out 2).trans rfl, (z5 BK288.out 3).trans rfl, (z5 BK288.out 4).trans rfl, (z5 BK288.out 5).trans rfl⟩ (fun hHeld => ?_); refine with_tabW impl_FormatStmt.tab10 impl_FormatStmt.bits10 (fun HT_ HW_ => ?_)
        generalize wc.drew = w45 at HO_3 BK288 HB hHeld ⊢
        refine pure_ (i := 1) (N := some 40) (v := ?_) (a' := ?_) #[false, true, false, false, false, false, false, false] rfl rfl (any_of HT_.out (by kernel_rfl)) (fun _ _ _ h => h) (Or.inl ⟨by rfl, ?_⟩) ?_ ?_
        rotate_left
        ·intro w'
         go_simp
         with_reducible rfl
        rotate_left
        ·exact zu
        refine pure_ (i := 5) (N := some 44) (v := ?_) (a' := ?_) #[false, true, false, false, false, true, false, false] rfl rfl (any_of HT_.out (by kernel_rfl)) (fun _ _ _ h => h) (Or.inl ⟨by rfl, ?_⟩) ?_ ?_
        rotate_left
        ·intro w'
         go_simp
         with_reducible rfl
        rotate_left
        ·exact zu
        refine take_ (i := 2) (N := some 41) (v := ?_) (a' := ?_) #[false, true, true, false, false, true, false, false] rfl rfl (take_ofW HT_.out HW_.out (by kernel_rfl)) (fun _ _ _ h => h) (Or.inl ⟨by rfl, ?_⟩) hHeld ?_ ?_
        rotate_left
        ·rintro w' ⟨s0, s1, s2, s3, s4, s5⟩
         go_simp
         with_reducible rfl
        rotate_left
        ·exact zu
        refine one_ (i := 0) (N := some 39) #[true, true, true, false, false, true, false, false] rfl rfl (one_of HT_.out (by kernel_rfl)) (by decide) (fun K hK => ?_)
        refine goes_ Tryz.func35 (by kernel_rfl) rfl #[] (by rfl) rfl rfl zg ?_
        with_reducible refine (impl_stmtNames.calls  t313 _ A40.out).mono ?_
        rintro e w46 ⟨v314, rfl, ho0, hb⟩
        refine ⟨_, rfl, ?_⟩
        have n0_ := zM (ze (by (with_reducible repeat (first | apply zI | apply zJ | apply zK)); exact HO_3.out) hb)
        have n1_ := zM (zf ho0 (zR zb))
        have n2_ := zM (z7 (g := gb288) (o := .cells #[.int .i64 a0_0, .int .i64 a0_1, .int .i64 a0_2, .int .i64 a0_3, .int .i64 a0_4, .int .i64 a0_5] 35 (0, 0)) zk hb)
        have n3_ := zM (zQ zb hb)
        clear HO_3
        clear BK288
        clear HB
        have HO_3 := n0_
        have HO315 := n1_
        have BK288 := n2_
        have HB := n3_
        clear n0_ n1_ n2_ n3_
        (try clear hb)
        (try clear hb2)
        (try clear hk)
        (try clear hi)
        (try clear ho0)
        obtain ⟨Ao47, co47, eo47⟩ := Kd.R_slice HO315.out
        (first | subst eo47 | (injection eo47 with f1_ f2_ f3_; have f4_ := f1_.symm; have f5_ := f3_.symm; clear f1_ f2_ f3_; subst f4_; subst f5_))
        have p316 : 0 ≤ (a0_0 : Int) := zd
        have q316 : a0_0 < (t313.length : Int) := zd
        obtain ⟨ad316, e316, hx316_0⟩ := Kd.at_string (z9 HO315.out).2.2 a0_0 p316 q316
        cases e316
        replace p316 := eq_true p316
        replace q316 := eq_true q316
        obtain ⟨Ao48, co48, eo48⟩ := Kd.R_slice HO_3.out
        (first | subst eo48 | (injection eo48 with f1_ f2_ f3_; have f4_ := f1_.symm; have f5_ := f3_.symm; clear f1_ f2_ f3_; subst f4_; subst f5_))
        refine hK.out _ _ ⟨(z5 BK288.out 0).trans rfl, (z5 BK288.out 1).trans rfl, (z5 BK288.out 2).trans rfl, (z5 BK288.out 3).trans rfl, (z5 BK288.out 4).trans rfl, (z5 BK288.out 5).trans rfl⟩ (fun hHeld => ?_)
        clear hK K
        refine norm_ (a' := ?_) ?_ ?_
        rotate_left
        ·show Act.put _ (some 39) _ = _
         exact zu
        refine pure_ (i := 3) (N := some 42) (v := ?_) (a' := ?_) #[true, true, true, true, false, true, false, false] rfl rfl (any_of HT_.out (by kernel_rfl)) (fun _ _ _ h => h) (Or.inl ⟨by rfl, ?_⟩) ?_ ?_
        rotate_left
        ·intro w'
         go_simp
         with_reducible rfl
        rotate_left
        ·exact zu
        refine one_ (i := 4) (N := some 43) #[true, true, true, true, true, true, false, false] rfl rfl (one_of HT_.out (by kernel_rfl)) (by decide) (fun K hK => ?_)
        refine value_ (v := .string (rdOf ByteArray.empty t313 a0_0)) (by rfl) rfl (by have s6 := hx316_0; go_simp; with_reducible rfl) ?_
        refine hK.out _ _ hHeld (fun hHeld => ?_)
        clear hK K
        refine norm_ (a' := ?_) ?_ ?_
        rotate_left
        ·show Act.put _ (some 43) _ = _
         exact zu
        refine one_ (i := 6) (N := some 45) #[true, true, true, true, true, true, true, false] rfl rfl (one_of HT_.out (by kernel_rfl)) (by decide) (fun K hK => ?_)
        refine goes_ Tryz.func53 (by kernel_rfl) rfl #[.string (rdOf ByteArray.empty t313 a0_0), .slice Ao48 x3_16.length co48] (by rfl) rfl rfl zg ?_
        with_reducible refine (impl_spaced.calls kj16 (rdOf ByteArray.empty t313 a0_0) _ _ x3_16 t317 _ ?side1 ?side2 A43.out).mono ?_
        (case side1 => repeat (first | exact (z9 HO_3.out).2.2 | (with_reducible refine zF ?_ _) | (with_reducible refine zG ?_ _) | (with_reducible refine zH ?_)))
        (case side2 => exact (z9 HO_3.out).2.1)
        rintro e w49 ⟨rfl, hb⟩
        refine ⟨_, rfl, ?_⟩
        have n0_ := zM (ze (by (with_reducible repeat (first | apply zI | apply zJ | apply zK)); exact HO_3.out) hb)
        have n1_ := zM (ze (by (with_reducible repeat (first | apply zI | apply zJ | apply zK)); exact HO315.out) hb)
        have n2_ := zM (z7 (g := gb288) (o := .cells #[.int .i64 a0_0, .int .i64 a0_1, .int .i64 a0_2, .int .i64 a0_3, .int .i64 a0_4, .int .i64 a0_5] 35 (0, 0)) zk hb)
        have n3_ := zM (zQ zb hb)
        clear HO_3
        clear HO315
        clear BK288
        clear HB
        have HO_3 := n0_
        have HO315 := n1_
        have BK288 := n2_
        have HB := n3_
        clear n0_ n1_ n2_ n3_
        (try clear hb)
        (try clear hb2)
        (try clear hk)
        (try clear hi)
        refine hK.out _ _ ⟨(z5 BK288.out 0).trans rfl, (z5 BK288.out 1).trans rfl, (z5 BK288.out 2).trans rfl, (z5 BK288.out 3).trans rfl, (z5 BK288.out 4).trans rfl, (z5 BK288.out 5).trans rfl⟩ (fun hHeld => ?_)
        clear hK K
        refine norm_ (a' := ?_) ?_ ?_
        rotate_left
        ·show Act.put _ (some 45) _ = _
         exact zu
        refine pure_ (i := 7) (N := some 2) (v := ?_) (a' := ?_) #[true, true, true, true, true, true, true, true] rfl rfl (any_of HT_.out (by kernel_rfl)) (fun _ _ _ h => h) (Or.inl ⟨by rfl, ?_⟩) ?_ ?_
        rotate_left
        ·intro w'
         go_simp
         with_reducible rfl
        rotate_left
        ·exact zu
        refine done_ (done_of HT_.out (by kernel_rfl)) ?_
        try go_wp2
        go_ret
        exact ⟨by first | rfl | (simp [errW_none, errW_some] <;> rfl) | (simp [*, errW_none, errW_some] <;> rfl), zb⟩
       rw [if_neg c42] at H
       exact absurd H (by simp)
      rw [if_neg c41] at H
      exact absurd H (by simp)
 replace c3 := Bool.eq_false_iff.mpr c3
 subst c3
 have H1 : (some (⟨#[]⟩ : ByteArray)) = some r := by rw [if_neg (show ¬ (false = true) by decide)] at H; exact H
 clear H
 have H := H1
 clear H1
 obtain rfl := Option.some.inj H
 go_enter Tryz.func39, Tryz.ntmps39
 go_wp2_with (first | ((with_reducible refine gate_dst (N := 1) rfl ?_); refine box_event ?hg (N := 1) ?hd (cs := #[.int .i64 a0_0, .int .i64 a0_1, .int .i64 a0_2, .int .i64 a0_3, .int .i64 a0_4, .int .i64 a0_5]) (t := 35) ?hr ?_; (case hd => rfl); (case hg => rfl); (case hr => first | (go_simp; done) | (go_simp; rfl)); intro gb288 hg w50 hbox hb; have n0_ := zM (zQ zb hb); have n1_ := zM (hbox); have n2_ := zM ((by rw [hg]; exact (zR zb) : w.heap.size ≤ gb288)); have n3_ := zM ((by rw [hg]; exact (zR zb) : w.heap.size ≤ gb288)); clear HB; have HB := n0_; have BK288 := n1_; have GW288 := n2_; have GE288 := n3_; clear n0_ n1_ n2_ n3_; clear hb hbox hg; have hcz51_0 := (z5 BK288.out 0).trans rfl; have hcz51_1 := (z5 BK288.out 1).trans rfl; have hcz51_2 := (z5 BK288.out 2).trans rfl; have hcz51_3 := (z5 BK288.out 3).trans rfl; have hcz51_4 := (z5 BK288.out 4).trans rfl; have hcz51_5 := (z5 BK288.out 5).trans rfl; have hfz51_0 := z6 BK288.out 0; have hfz51_1 := z6 BK288.out 1; have hfz51_2 := z6 BK288.out 2; have hfz51_3 := z6 BK288.out 3; have hfz51_4 := z6 BK288.out 4; have hfz51_5 := z6 BK288.out 5) | ((with_reducible refine gate_callee (f := 54) rfl ?_); refine goesL_ (some 5) rfl rfl Tryz.func54 (by kernel_rfl) rfl #[.agg #[.int .i64 a0_0, .int .i64 a0_1, .int .i64 a0_2, .int .i64 a0_3, .int .i64 a0_4, .int .i64 a0_5]] rfl zg ?_; (with_reducible refine (impl_StmtOk.calls k a0_0 a0_1 a0_2 a0_3 a0_4 a0_5 false _ A2.out).mono ?_); rintro e w52 ⟨rfl, hb⟩; refine ⟨_, rfl, ?_⟩; have n0_ := zM (z7 (g := gb288) (o := .cells #[.int .i64 a0_0, .int .i64 a0_1, .int .i64 a0_2, .int .i64 a0_3, .int .i64 a0_4, .int .i64 a0_5] 35 (0, 0)) zk hb); have n1_ := zM (zQ zb hb); clear BK288; clear HB; have BK288 := n0_; have HB := n1_; clear n0_ n1_; (try clear hb)))
 go_ret
 exact ⟨by first | rfl | (simp [errW_none, errW_some] <;> rfl) | (simp [*, errW_none, errW_some] <;> rfl), zb⟩
end Go.Proofs.YtcpmkcidehhbiaaGreatDoor.PFnExactParseProgram
