/- Walks of the functions that a statement reaches, written by a program (the printing program, mended): no condition. -/
import Derived.Test.YtcpmkcidehhbiaaGreatDoorPFnExactParseProgramx0
import Derived.Test.YtcpmkcidehhbiaaGreatDoorPFnExactParseProgramx1
import Derived.Test.YtcpmkcidehhbiaaGreatDoorPFnExactParseProgramx12
namespace Go.Proofs.YtcpmkcidehhbiaaGreatDoor.PFnExactParseProgram
open Go.RowKit Go.Proofs.YtcpmkcidehhbiaaGreatDoorW.PrintWords Go.Proofs.YtcpmkcidehhbiaaGreatDoorW.PrintLast Go.Proofs.YtcpmkcidehhbiaaGreatDoorW.PrintMore
attribute [local go_sem] max2_int min2_int max_two min_two max_three min_three max_four min_four
set_option linter.unusedVariables false
set_option maxRecDepth 100000
set_option maxHeartbeats 8000000
set_option linter.unusedSimpArgs false
attribute [local go_sem high] eqA31
mutual
def impl_StmtOk.j0 : Nat → Bool → Int → Int → Int → Int → Int → Int → Option (Bool)
 | 0, _, _, _, _, _, _, _ => none
 | k + 1, x28, x277000, x277001, x277002, x277003, x277004, x277005 => if x28 = true then (some false) else ((impl_hasExpr.f x277000).bind fun t282 => (if t282 = true then ((impl_ExprOk.f x277003 x277004 x277005).bind fun t283 => (if t283 = true then ((impl_hasExpr.f x277000).bind fun t284 => (if t284 = true then (impl_StmtOk.j1 k false x277000 x277001 x277002 x277003 x277004 x277005) else (impl_StmtOk.j1 k (!(x277003 == 0) || (!(x277004 == 0) || (!(x277005 == 0)))) x277000 x277001 x277002 x277003 x277004 x277005))) else (impl_StmtOk.j1 k true x277000 x277001 x277002 x277003 x277004 x277005))) else ((impl_hasExpr.f x277000).bind fun t285 => (if t285 = true then (impl_StmtOk.j1 k false x277000 x277001 x277002 x277003 x277004 x277005) else (impl_StmtOk.j1 k (!(x277003 == 0) || (!(x277004 == 0) || (!(x277005 == 0)))) x277000 x277001 x277002 x277003 x277004 x277005)))))
def impl_StmtOk.j1 : Nat → Bool → Int → Int → Int → Int → Int → Int → Option (Bool)
 | 0, _, _, _, _, _, _, _ => none
 | k + 1, x49, x277000, x277001, x277002, x277003, x277004, x277005 => if x49 = true then (some false) else (if x277000 = 2 then ((impl_isSensor.f x277002).bind fun t286 => (some t286)) else (if x277000 = 5 then ((impl_within.f x277002 1 5).bind fun t287 => (some t287)) else (some (x277002 == 0))))
end
def impl_StmtOk.f (k : Nat) (a0_0 : Int) (a0_1 : Int) (a0_2 : Int) (a0_3 : Int) (a0_4 : Int) (a0_5 : Int) : Option (Bool) := (impl_within.f a0_0 1 6).bind fun t277 => (if t277 = true then ((impl_hasVar.f a0_0).bind fun t278 => (if t278 = true then ((impl_isVar.f a0_1).bind fun t279 => (if t279 = true then ((impl_hasVar.f a0_0).bind fun t280 => (if t280 = true then (impl_StmtOk.j0 k false a0_0 a0_1 a0_2 a0_3 a0_4 a0_5) else (impl_StmtOk.j0 k (a0_1 != 0) a0_0 a0_1 a0_2 a0_3 a0_4 a0_5))) else (impl_StmtOk.j0 k true a0_0 a0_1 a0_2 a0_3 a0_4 a0_5))) else ((impl_hasVar.f a0_0).bind fun t281 => (if t281 = true then (impl_StmtOk.j0 k false a0_0 a0_1 a0_2 a0_3 a0_4 a0_5) else (impl_StmtOk.j0 k (a0_1 != 0) a0_0 a0_1 a0_2 a0_3 a0_4 a0_5))))) else (impl_StmtOk.j0 k true a0_0 a0_1 a0_2 a0_3 a0_4 a0_5))
theorem impl_StmtOk.mono_l : ∀ k, (∀ y0 y1 y2 y3 y4 y5 y6, LeO (impl_StmtOk.j0 k y0 y1 y2 y3 y4 y5 y6) (impl_StmtOk.j0 (k + 1) y0 y1 y2 y3 y4 y5 y6)) ∧ (∀ y0 y1 y2 y3 y4 y5 y6, LeO (impl_StmtOk.j1 k y0 y1 y2 y3 y4 y5 y6) (impl_StmtOk.j1 (k + 1) y0 y1 y2 y3 y4 y5 y6))
 | 0 => ⟨fun _ _ _ _ _ _ _ r h => by simp [impl_StmtOk.j0] at h, fun _ _ _ _ _ _ _ r h => by simp [impl_StmtOk.j1] at h⟩
 | k + 1 => by
  obtain ⟨ih0, ih1⟩ := impl_StmtOk.mono_l k
  refine ⟨?_, ?_⟩
  intro y0 y1 y2 y3 y4 y5 y6; unfold impl_StmtOk.j0; rotate_left; intro y0 y1 y2 y3 y4 y5 y6; unfold impl_StmtOk.j1; rotate_left
  all_goals repeat' first | (with_reducible first | exact ih0 _ _ _ _ _ _ _ | exact ih1 _ _ _ _ _ _ _ | exact LeO.refl _ | exact LeO.none _ | refine LeO.ite ?_ ?_ | refine LeO.bind ?_ (fun _ => ?_)) | exact ih0 _ _ _ _ _ _ _ | exact ih1 _ _ _ _ _ _ _ | exact LeO.none _ | refine LeO.ite ?_ ?_ | refine LeO.bind ?_ (fun _ => ?_)
theorem impl_StmtOk.mono : ∀ a0 a1 a2 a3 a4 a5 k, LeO (impl_StmtOk.f k a0 a1 a2 a3 a4 a5) (impl_StmtOk.f (k + 1) a0 a1 a2 a3 a4 a5) := by
 intro a0 a1 a2 a3 a4 a5 k
 obtain ⟨ih0, ih1⟩ := impl_StmtOk.mono_l k
 unfold impl_StmtOk.f
 repeat' first | (with_reducible first | exact ih0 _ _ _ _ _ _ _ | exact ih1 _ _ _ _ _ _ _ | exact LeO.refl _ | exact LeO.none _ | refine LeO.ite ?_ ?_ | refine LeO.bind ?_ (fun _ => ?_)) | exact ih0 _ _ _ _ _ _ _ | exact ih1 _ _ _ _ _ _ _ | exact LeO.none _ | refine LeO.ite ?_ ?_ | refine LeO.bind ?_ (fun _ => ?_)
theorem impl_StmtOk.calls (k : Nat) (a0_0 : Int) (a0_1 : Int) (a0_2 : Int) (a0_3 : Int) (a0_4 : Int) (a0_5 : Int) (r : Bool) (w : World) (h : impl_StmtOk.f k a0_0 a0_1 a0_2 a0_3 a0_4 a0_5 = some r) :
  Calls Tryz.prog 54 #[.agg #[.int .i64 a0_0, .int .i64 a0_1, .int .i64 a0_2, .int .i64 a0_3, .int .i64 a0_4, .int .i64 a0_5]] w fun e w' => e = .returned (.bool r) ∧ Below w.heap.size w w' := by
 have hu35 := Tryz.underlying35
 have hu31 := Tryz.underlying31
 have HB := zM (Below.refl w.heap.size w)
 have H : ((impl_within.f a0_0 1 6).bind fun t277 => (if t277 = true then ((impl_hasVar.f a0_0).bind fun t278 => (if t278 = true then ((impl_isVar.f a0_1).bind fun t279 => (if t279 = true then ((impl_hasVar.f a0_0).bind fun t280 => (if t280 = true then (impl_StmtOk.j0 k false a0_0 a0_1 a0_2 a0_3 a0_4 a0_5) else (impl_StmtOk.j0 k (a0_1 != 0) a0_0 a0_1 a0_2 a0_3 a0_4 a0_5))) else (impl_StmtOk.j0 k true a0_0 a0_1 a0_2 a0_3 a0_4 a0_5))) else ((impl_hasVar.f a0_0).bind fun t281 => (if t281 = true then (impl_StmtOk.j0 k false a0_0 a0_1 a0_2 a0_3 a0_4 a0_5) else (impl_StmtOk.j0 k (a0_1 != 0) a0_0 a0_1 a0_2 a0_3 a0_4 a0_5))))) else (impl_StmtOk.j0 k true a0_0 a0_1 a0_2 a0_3 a0_4 a0_5))) = some r := h
 clear h
 have HC2 := zM H
 clear H
 go_enter Tryz.func54, Tryz.ntmps54
 go_upto_region 1 with (first | ((with_reducible refine gate_dst (N := 1) rfl ?_); refine box_event ?hg (N := 1) ?hd (cs := #[.int .i64 a0_0, .int .i64 a0_1, .int .i64 a0_2, .int .i64 a0_3, .int .i64 a0_4, .int .i64 a0_5]) (t := 35) ?hr ?_; (case hd => rfl); (case hg => rfl); (case hr => first | (go_simp; done) | (go_simp; rfl)); intro gb276 hg w3 hbox hb; have n0_ := zM (zQ zb hb); have n1_ := zM (hbox); have n2_ := zM ((by rw [hg]; exact (zR zb) : w.heap.size ≤ gb276)); have n3_ := zM ((by rw [hg]; exact (zR zb) : w.heap.size ≤ gb276)); clear HB; have HB := n0_; have BK276 := n1_; have GW276 := n2_; have GE276 := n3_; clear n0_ n1_ n2_ n3_; clear hb hbox hg))
 (try simp only [Act.put, List.setIfInBounds_toArray, List.set_cons_zero, List.set_cons_succ])
 go_cut [28] (fun v28 wc => ∃ (kq : Nat) (x28_1 : Bool), v28 = .bool x28_1 ∧ Aside0 (impl_StmtOk.j0 kq x28_1 a0_0 a0_1 a0_2 a0_3 a0_4 a0_5 = some r) ∧ Aside0 (kq ≤ k) ∧ Aside0 (wc.heap[gb276]? = some (.cells #[.int .i64 a0_0, .int .i64 a0_1, .int .i64 a0_2, .int .i64 a0_3, .int .i64 a0_4, .int .i64 a0_5] 35 (0, 0))) ∧ Aside0 (Below w.heap.size w wc))
 case first =>
  have H := HC2.out
  clear HC2
  replace H := Option.bind_eq_some_iff.mp H
  obtain ⟨t277, A40, H⟩ := H
  replace H : (if t277 = true then ((impl_hasVar.f a0_0).bind fun t278 => (if t278 = true then ((impl_isVar.f a0_1).bind fun t279 => (if t279 = true then ((impl_hasVar.f a0_0).bind fun t280 => (if t280 = true then (impl_StmtOk.j0 k false a0_0 a0_1 a0_2 a0_3 a0_4 a0_5) else (impl_StmtOk.j0 k (a0_1 != 0) a0_0 a0_1 a0_2 a0_3 a0_4 a0_5))) else (impl_StmtOk.j0 k true a0_0 a0_1 a0_2 a0_3 a0_4 a0_5))) else ((impl_hasVar.f a0_0).bind fun t281 => (if t281 = true then (impl_StmtOk.j0 k false a0_0 a0_1 a0_2 a0_3 a0_4 a0_5) else (impl_StmtOk.j0 k (a0_1 != 0) a0_0 a0_1 a0_2 a0_3 a0_4 a0_5))))) else (impl_StmtOk.j0 k true a0_0 a0_1 a0_2 a0_3 a0_4 a0_5)) = some r := H
  have A4 := zM A40
  clear A40
  by_cases c5 : t277 = true
  ·subst c5
   have H1 : ((impl_hasVar.f a0_0).bind fun t278 => (if t278 = true then ((impl_isVar.f a0_1).bind fun t279 => (if t279 = true then ((impl_hasVar.f a0_0).bind fun t280 => (if t280 = true then (impl_StmtOk.j0 k false a0_0 a0_1 a0_2 a0_3 a0_4 a0_5) else (impl_StmtOk.j0 k (a0_1 != 0) a0_0 a0_1 a0_2 a0_3 a0_4 a0_5))) else (impl_StmtOk.j0 k true a0_0 a0_1 a0_2 a0_3 a0_4 a0_5))) else ((impl_hasVar.f a0_0).bind fun t281 => (if t281 = true then (impl_StmtOk.j0 k false a0_0 a0_1 a0_2 a0_3 a0_4 a0_5) else (impl_StmtOk.j0 k (a0_1 != 0) a0_0 a0_1 a0_2 a0_3 a0_4 a0_5))))) = some r := by rw [if_pos rfl] at H; exact H
   clear H
   have H := H1
   clear H1
   replace H := Option.bind_eq_some_iff.mp H
   obtain ⟨t278, A60, H⟩ := H
   replace H : (if t278 = true then ((impl_isVar.f a0_1).bind fun t279 => (if t279 = true then ((impl_hasVar.f a0_0).bind fun t280 => (if t280 = true then (impl_StmtOk.j0 k false a0_0 a0_1 a0_2 a0_3 a0_4 a0_5) else (impl_StmtOk.j0 k (a0_1 != 0) a0_0 a0_1 a0_2 a0_3 a0_4 a0_5))) else (impl_StmtOk.j0 k true a0_0 a0_1 a0_2 a0_3 a0_4 a0_5))) else ((impl_hasVar.f a0_0).bind fun t281 => (if t281 = true then (impl_StmtOk.j0 k false a0_0 a0_1 a0_2 a0_3 a0_4 a0_5) else (impl_StmtOk.j0 k (a0_1 != 0) a0_0 a0_1 a0_2 a0_3 a0_4 a0_5)))) = some r := H
   have A6 := zM A60
   clear A60
   by_cases c7 : t278 = true
   ·subst c7
    have H1 : ((impl_isVar.f a0_1).bind fun t279 => (if t279 = true then ((impl_hasVar.f a0_0).bind fun t280 => (if t280 = true then (impl_StmtOk.j0 k false a0_0 a0_1 a0_2 a0_3 a0_4 a0_5) else (impl_StmtOk.j0 k (a0_1 != 0) a0_0 a0_1 a0_2 a0_3 a0_4 a0_5))) else (impl_StmtOk.j0 k true a0_0 a0_1 a0_2 a0_3 a0_4 a0_5))) = some r := by rw [if_pos rfl] at H; exact H
    clear H
    have H := H1
    clear H1
    replace H := Option.bind_eq_some_iff.mp H
    obtain ⟨t279, A80, H⟩ := H
    replace H : (if t279 = true then ((impl_hasVar.f a0_0).bind fun t280 => (if t280 = true then (impl_StmtOk.j0 k false a0_0 a0_1 a0_2 a0_3 a0_4 a0_5) else (impl_StmtOk.j0 k (a0_1 != 0) a0_0 a0_1 a0_2 a0_3 a0_4 a0_5))) else (impl_StmtOk.j0 k true a0_0 a0_1 a0_2 a0_3 a0_4 a0_5)) = some r := H
    have A8 := zM A80
    clear A80
    by_cases c9 : t279 = true
    ·subst c9
     have H1 : ((impl_hasVar.f a0_0).bind fun t280 => (if t280 = true then (impl_StmtOk.j0 k false a0_0 a0_1 a0_2 a0_3 a0_4 a0_5) else (impl_StmtOk.j0 k (a0_1 != 0) a0_0 a0_1 a0_2 a0_3 a0_4 a0_5))) = some r := by rw [if_pos rfl] at H; exact H
     clear H
     have H := H1
     clear H1
     replace H := Option.bind_eq_some_iff.mp H
     obtain ⟨t280, A100, H⟩ := H
     replace H : (if t280 = true then (impl_StmtOk.j0 k false a0_0 a0_1 a0_2 a0_3 a0_4 a0_5) else (impl_StmtOk.j0 k (a0_1 != 0) a0_0 a0_1 a0_2 a0_3 a0_4 a0_5)) = some r := H
     have A10 := zM A100
     clear A100
     by_cases c11 : t280 = true
     ·subst c11
      have H1 : (impl_StmtOk.j0 k false a0_0 a0_1 a0_2 a0_3 a0_4 a0_5) = some r := by rw [if_pos rfl] at H; exact H
      clear H
      have H := H1
      clear H1
      have H' := zM H
      clear H
      have hcz12_0 := (z5 BK276.out 0).trans rfl
      have hcz12_1 := (z5 BK276.out 1).trans rfl
      have hcz12_2 := (z5 BK276.out 2).trans rfl
      have hcz12_3 := (z5 BK276.out 3).trans rfl
      have hcz12_4 := (z5 BK276.out 4).trans rfl
      have hcz12_5 := (z5 BK276.out 5).trans rfl
      have hfz12_0 := z6 BK276.out 0
      have hfz12_1 := z6 BK276.out 1
      have hfz12_2 := z6 BK276.out 2
      have hfz12_3 := z6 BK276.out 3
      have hfz12_4 := z6 BK276.out 4
      have hfz12_5 := z6 BK276.out 5
      go_wp2_with (first | ((with_reducible refine gate_callee (f := 51) rfl ?_); refine goesL_ (some 5) rfl rfl Tryz.func51 (by kernel_rfl) rfl #[.int .i64 a0_0, .int .i64 1, .int .i64 6] rfl zg ?_; (with_reducible refine (impl_within.calls a0_0 1 6 true _ A4.out).mono ?_); rintro e w' ⟨rfl, ⟨nd, rfl⟩⟩; refine ⟨_, rfl, ?_⟩) | (go_at_call 36; (with_reducible refine (impl_hasVar.calls a0_0 true _ A6.out).mono ?_); rintro e w' ⟨rfl, ⟨nd, rfl⟩⟩) | (go_at_call 70; (with_reducible refine (impl_isVar.calls a0_1 true _ A8.out).mono ?_); rintro e w' ⟨rfl, ⟨nd, rfl⟩⟩) | (go_at_call 36; (with_reducible refine (impl_hasVar.calls a0_0 true _ A10.out).mono ?_); rintro e w' ⟨rfl, ⟨nd, rfl⟩⟩))
      go_meet
      case rel => exact ⟨_, (false), zs, H', ⟨by first | omega | exact Nat.le_refl _⟩, ⟨zk⟩, ⟨zb⟩⟩
     replace c11 := Bool.eq_false_iff.mpr c11
     subst c11
     exact absurd (A6.out.symm.trans A10.out) (by simp)
    replace c9 := Bool.eq_false_iff.mpr c9
    subst c9
    have H1 : (impl_StmtOk.j0 k true a0_0 a0_1 a0_2 a0_3 a0_4 a0_5) = some r := by rw [if_neg (show ¬ (false = true) by decide)] at H; exact H
    clear H
    have H := H1
    clear H1
    have H' := zM H
    clear H
    have hcz13_0 := (z5 BK276.out 0).trans rfl
    have hcz13_1 := (z5 BK276.out 1).trans rfl
    have hcz13_2 := (z5 BK276.out 2).trans rfl
    have hcz13_3 := (z5 BK276.out 3).trans rfl
    have hcz13_4 := (z5 BK276.out 4).trans rfl
    have hcz13_5 := (z5 BK276.out 5).trans rfl
    have hfz13_0 := z6 BK276.out 0
    have hfz13_1 := z6 BK276.out 1
    have hfz13_2 := z6 BK276.out 2
    have hfz13_3 := z6 BK276.out 3
    have hfz13_4 := z6 BK276.out 4
    have hfz13_5 := z6 BK276.out 5
    go_wp2_with (first | ((with_reducible refine gate_callee (f := 51) rfl ?_); refine goesL_ (some 5) rfl rfl Tryz.func51 (by kernel_rfl) rfl #[.int .i64 a0_0, .int .i64 1, .int .i64 6] rfl zg ?_; (with_reducible refine (impl_within.calls a0_0 1 6 true _ A4.out).mono ?_); rintro e w' ⟨rfl, ⟨nd, rfl⟩⟩; refine ⟨_, rfl, ?_⟩) | (go_at_call 36; (with_reducible refine (impl_hasVar.calls a0_0 true _ A6.out).mono ?_); rintro e w' ⟨rfl, ⟨nd, rfl⟩⟩) | (go_at_call 70; (with_reducible refine (impl_isVar.calls a0_1 false _ A8.out).mono ?_); rintro e w' ⟨rfl, ⟨nd, rfl⟩⟩))
    go_meet
    case rel => exact ⟨_, (true), zs, H', ⟨by first | omega | exact Nat.le_refl _⟩, ⟨zk⟩, ⟨zb⟩⟩
   replace c7 := Bool.eq_false_iff.mpr c7
   subst c7
   have H1 : ((impl_hasVar.f a0_0).bind fun t281 => (if t281 = true then (impl_StmtOk.j0 k false a0_0 a0_1 a0_2 a0_3 a0_4 a0_5) else (impl_StmtOk.j0 k (a0_1 != 0) a0_0 a0_1 a0_2 a0_3 a0_4 a0_5))) = some r := by rw [if_neg (show ¬ (false = true) by decide)] at H; exact H
   clear H
   have H := H1
   clear H1
   replace H := Option.bind_eq_some_iff.mp H
   obtain ⟨t281, A140, H⟩ := H
   replace H : (if t281 = true then (impl_StmtOk.j0 k false a0_0 a0_1 a0_2 a0_3 a0_4 a0_5) else (impl_StmtOk.j0 k (a0_1 != 0) a0_0 a0_1 a0_2 a0_3 a0_4 a0_5)) = some r := H
   have A14 := zM A140
   clear A140
   by_cases c15 : t281 = true
   ·subst c15
    exact absurd (A6.out.symm.trans A14.out) (by simp)
   replace c15 := Bool.eq_false_iff.mpr c15
   subst c15
   have H1 : (impl_StmtOk.j0 k (a0_1 != 0) a0_0 a0_1 a0_2 a0_3 a0_4 a0_5) = some r := by rw [if_neg (show ¬ (false = true) by decide)] at H; exact H
   clear H
   have H := H1
   clear H1
   have H' := zM H
   clear H
   have hcz16_0 := (z5 BK276.out 0).trans rfl
   have hcz16_1 := (z5 BK276.out 1).trans rfl
   have hcz16_2 := (z5 BK276.out 2).trans rfl
   have hcz16_3 := (z5 BK276.out 3).trans rfl
   have hcz16_4 := (z5 BK276.out 4).trans rfl
   have hcz16_5 := (z5 BK276.out 5).trans rfl
   have hfz16_0 := z6 BK276.out 0
   have hfz16_1 := z6 BK276.out 1
   have hfz16_2 := z6 BK276.out 2
   have hfz16_3 := z6 BK276.out 3
   have hfz16_4 := z6 BK276.out 4
   have hfz16_5 := z6 BK276.out 5
   go_wp2_with (first | ((with_reducible refine gate_callee (f := 51) rfl ?_); refine goesL_ (some 5) rfl rfl Tryz.func51 (by kernel_rfl) rfl #[.int .i64 a0_0, .int .i64 1, .int .i64 6] rfl zg ?_; (with_reducible refine (impl_within.calls a0_0 1 6 true _ A4.out).mono ?_); rintro e w' ⟨rfl, ⟨nd, rfl⟩⟩; refine ⟨_, rfl, ?_⟩) | (go_at_call 36; (with_reducible refine (impl_hasVar.calls a0_0 false _ A6.out).mono ?_); rintro e w' ⟨rfl, ⟨nd, rfl⟩⟩) | (go_at_call 36; (with_reducible refine (impl_hasVar.calls a0_0 false _ A14.out).mono ?_); rintro e w' ⟨rfl, ⟨nd, rfl⟩⟩))
   go_meet
   case rel => exact ⟨_, ((a0_1 != 0)), zs, H', ⟨by first | omega | exact Nat.le_refl _⟩, ⟨zk⟩, ⟨zb⟩⟩
  replace c5 := Bool.eq_false_iff.mpr c5
  subst c5
  have H1 : (impl_StmtOk.j0 k true a0_0 a0_1 a0_2 a0_3 a0_4 a0_5) = some r := by rw [if_neg (show ¬ (false = true) by decide)] at H; exact H
  clear H
  have H := H1
  clear H1
  have H' := zM H
  clear H
  have hcz17_0 := (z5 BK276.out 0).trans rfl
  have hcz17_1 := (z5 BK276.out 1).trans rfl
  have hcz17_2 := (z5 BK276.out 2).trans rfl
  have hcz17_3 := (z5 BK276.out 3).trans rfl
  have hcz17_4 := (z5 BK276.out 4).trans rfl
  have hcz17_5 := (z5 BK276.out 5).trans rfl
  have hfz17_0 := z6 BK276.out 0
  have hfz17_1 := z6 BK276.out 1
  have hfz17_2 := z6 BK276.out 2
  have hfz17_3 := z6 BK276.out 3
  have hfz17_4 := z6 BK276.out 4
  have hfz17_5 := z6 BK276.out 5
  go_wp2_with (first | ((with_reducible refine gate_callee (f := 51) rfl ?_); refine goesL_ (some 5) rfl rfl Tryz.func51 (by kernel_rfl) rfl #[.int .i64 a0_0, .int .i64 1, .int .i64 6] rfl zg ?_; (with_reducible refine (impl_within.calls a0_0 1 6 false _ A4.out).mono ?_); rintro e w' ⟨rfl, ⟨nd, rfl⟩⟩; refine ⟨_, rfl, ?_⟩))
  go_meet
  case rel => exact ⟨_, (true), zs, H', ⟨by first | omega | exact Nat.le_refl _⟩, ⟨zk⟩, ⟨zb⟩⟩
 case rest =>
  clear HC2
  try clear c1
  try clear p2
  try clear c5
  try clear c7
  try clear c9
  try clear c11
  try clear c15
  try clear hcz12_0
  try clear hcz12_1
  try clear hcz12_2
  try clear hcz12_3
  try clear hcz12_4
  try clear hcz12_5
  try clear hcz13_0
  try clear hcz13_1
  try clear hcz13_2
  try clear hcz13_3
  try clear hcz13_4
  try clear hcz13_5
  try clear hcz16_0
  try clear hcz16_1
  try clear hcz16_2
  try clear hcz16_3
  try clear hcz16_4
  try clear hcz16_5
  try clear hcz17_0
  try clear hcz17_1
  try clear hcz17_2
  try clear hcz17_3
  try clear hcz17_4
  try clear hcz17_5
  try clear hfz12_0
  try clear hfz12_1
  try clear hfz12_2
  try clear hfz12_3
  try clear hfz12_4
  try clear hfz12_5
  try clear hfz13_0
  try clear hfz13_1
  try clear hfz13_2
  try clear hfz13_3
  try clear hfz13_4
  try clear hfz13_5
  try clear hfz16_0
  try clear hfz16_1
  try clear hfz16_2
  try clear hfz16_3
  try clear hfz16_4
  try clear hfz16_5
  try clear hfz17_0
  try clear hfz17_1
  try clear hfz17_2
  try clear hfz17_3
  try clear hfz17_4
  try clear hfz17_5
  obtain ⟨kq, x28_1, rfl, HA, HJ1, BK276, HB⟩ := hcut
  cases kq with
  | zero => exact absurd HA.out (by simp [impl_StmtOk.j0])
  | succ kj1 =>
   have H := HA.out
   clear HA
   simp only [impl_StmtOk.j0] at H
   by_cases c18 : x28_1 = true
   ·subst c18
    have H1 : (some false) = some r := by rw [if_pos rfl] at H; exact H
    clear H
    have H := H1
    clear H1
    obtain rfl := Option.some.inj H
    go_wp2
    go_ret
    exact ⟨by first | rfl | (simp [errW_none, errW_some] <;> rfl) | (simp [*, errW_none, errW_some] <;> rfl), zb⟩
   replace c18 := Bool.eq_false_iff.mpr c18
   subst c18
   have H1 : ((impl_hasExpr.f a0_0).bind fun t282 => (if t282 = true then ((impl_ExprOk.f a0_3 a0_4 a0_5).bind fun t283 => (if t283 = true then ((impl_hasExpr.f a0_0).bind fun t284 => (if t284 = true then (impl_StmtOk.j1 kj1 false a0_0 a0_1 a0_2 a0_3 a0_4 a0_5) else (impl_StmtOk.j1 kj1 (!(a0_3 == 0) || (!(a0_4 == 0) || (!(a0_5 == 0)))) a0_0 a0_1 a0_2 a0_3 a0_4 a0_5))) else (impl_StmtOk.j1 kj1 true a0_0 a0_1 a0_2 a0_3 a0_4 a0_5))) else ((impl_hasExpr.f a0_0).bind fun t285 => (if t285 = true then (impl_StmtOk.j1 kj1 false a0_0 a0_1 a0_2 a0_3 a0_4 a0_5) else (impl_StmtOk.j1 kj1 (!(a0_3 == 0) || (!(a0_4 == 0) || (!(a0_5 == 0)))) a0_0 a0_1 a0_2 a0_3 a0_4 a0_5))))) = some r := by rw [if_neg (show ¬ (false = true) by decide)] at H; exact H
   clear H
   have H := H1
   clear H1
   have HC19 := zM H
   clear H
   go_upto_region 3 with (fail)
   go_cut [49] (fun v49 wc => ∃ (kq : Nat) (x49_18 : Bool), v49 = .bool x49_18 ∧ Aside0 (impl_StmtOk.j1 kq x49_18 a0_0 a0_1 a0_2 a0_3 a0_4 a0_5 = some r) ∧ Aside0 (kq ≤ kj1) ∧ Aside0 (wc.heap[gb276]? = some (.cells #[.int .i64 a0_0, .int .i64 a0_1, .int .i64 a0_2, .int .i64 a0_3, .int .i64 a0_4, .int .i64 a0_5] 35 (0, 0))) ∧ Aside0 (Below w.heap.size w wc))
   case first =>
    have H := HC19.out
    clear HC19
    replace H := Option.bind_eq_some_iff.mp H
    obtain ⟨t282, A200, H⟩ := H
    replace H : (if t282 = true then ((impl_ExprOk.f a0_3 a0_4 a0_5).bind fun t283 => (if t283 = true then ((impl_hasExpr.f a0_0).bind fun t284 => (if t284 = true then (impl_StmtOk.j1 kj1 false a0_0 a0_1 a0_2 a0_3 a0_4 a0_5) else (impl_StmtOk.j1 kj1 (!(a0_3 == 0) || (!(a0_4 == 0) || (!(a0_5 == 0)))) a0_0 a0_1 a0_2 a0_3 a0_4 a0_5))) else (impl_StmtOk.j1 kj1 true a0_0 a0_1 a0_2 a0_3 a0_4 a0_5))) else ((impl_hasExpr.f a0_0).bind fun t285 => (if t285 = true then (impl_StmtOk.j1 kj1 false a0_0 a0_1 a0_2 a0_3 a0_4 a0_5) else (impl_StmtOk.j1 kj1 (!(a0_3 == 0) || (!(a0_4 == 0) || (!(a0_5 == 0)))) a0_0 a0_1 a0_2 a0_3 a0_4 a0_5)))) = some r := H
    have A20 := zM A200
    clear A200
    by_cases c21 : t282 = true
    ·subst c21
     have H1 : ((impl_ExprOk.f a0_3 a0_4 a0_5).bind fun t283 => (if t283 = true then ((impl_hasExpr.f a0_0).bind fun t284 => (if t284 = true then (impl_StmtOk.j1 kj1 false a0_0 a0_1 a0_2 a0_3 a0_4 a0_5) else (impl_StmtOk.j1 kj1 (!(a0_3 == 0) || (!(a0_4 == 0) || (!(a0_5 == 0)))) a0_0 a0_1 a0_2 a0_3 a0_4 a0_5))) else (impl_StmtOk.j1 kj1 true a0_0 a0_1 a0_2 a0_3 a0_4 a0_5))) = some r := by rw [if_pos rfl] at H; exact H
     clear H
     have H := H1
     clear H1
     replace H := Option.bind_eq_some_iff.mp H
     obtain ⟨t283, A220, H⟩ := H
     replace H : (if t283 = true then ((impl_hasExpr.f a0_0).bind fun t284 => (if t284 = true then (impl_StmtOk.j1 kj1 false a0_0 a0_1 a0_2 a0_3 a0_4 a0_5) else (impl_StmtOk.j1 kj1 (!(a0_3 == 0) || (!(a0_4 == 0) || (!(a0_5 == 0)))) a0_0 a0_1 a0_2 a0_3 a0_4 a0_5))) else (impl_StmtOk.j1 kj1 true a0_0 a0_1 a0_2 a0_3 a0_4 a0_5)) = some r := H
     have A22 := zM A220
     clear A220
     by_cases c23 : t283 = true
     ·subst c23
      have H1 : ((impl_hasExpr.f a0_0).bind fun t284 => (if t284 = true then (impl_StmtOk.j1 kj1 false a0_0 a0_1 a0_2 a0_3 a0_4 a0_5) else (impl_StmtOk.j1 kj1 (!(a0_3 == 0) || (!(a0_4 == 0) || (!(a0_5 == 0)))) a0_0 a0_1 a0_2 a0_3 a0_4 a0_5))) = some r := by rw [if_pos rfl] at H; exact H
      clear H
      have H := H1
      clear H1
      replace H := Option.bind_eq_some_iff.mp H
      obtain ⟨t284, A240, H⟩ := H
      replace H : (if t284 = true then (impl_StmtOk.j1 kj1 false a0_0 a0_1 a0_2 a0_3 a0_4 a0_5) else (impl_StmtOk.j1 kj1 (!(a0_3 == 0) || (!(a0_4 == 0) || (!(a0_5 == 0)))) a0_0 a0_1 a0_2 a0_3 a0_4 a0_5)) = some r := H
      have A24 := zM A240
      clear A240
      by_cases c25 : t284 = true
      ·subst c25
       have H1 : (impl_StmtOk.j1 kj1 false a0_0 a0_1 a0_2 a0_3 a0_4 a0_5) = some r := by rw [if_pos rfl] at H; exact H
       clear H
       have H := H1
       clear H1
       have H' := zM H
       clear H
       have hcz26_0 := (z5 BK276.out 0).trans rfl
       have hcz26_1 := (z5 BK276.out 1).trans rfl
       have hcz26_2 := (z5 BK276.out 2).trans rfl
       have hcz26_3 := (z5 BK276.out 3).trans rfl
       have hcz26_4 := (z5 BK276.out 4).trans rfl
       have hcz26_5 := (z5 BK276.out 5).trans rfl
       have hfz26_0 := z6 BK276.out 0
       have hfz26_1 := z6 BK276.out 1
       have hfz26_2 := z6 BK276.out 2
       have hfz26_3 := z6 BK276.out 3
       have hfz26_4 := z6 BK276.out 4
       have hfz26_5 := z6 BK276.out 5
       go_wp2_with (first | ((with_reducible refine gate_callee (f := 38) rfl ?_); refine goesL_ (some 31) rfl rfl Tryz.func38 (by kernel_rfl) rfl #[.int .i64 a0_0] rfl zg ?_; (with_reducible refine (impl_hasExpr.calls a0_0 true _ A20.out).mono ?_); rintro e w' ⟨rfl, ⟨nd, rfl⟩⟩; refine ⟨_, rfl, ?_⟩) | (go_at_call 32; (with_reducible refine (impl_ExprOk.calls a0_3 a0_4 a0_5 true _ A22.out).mono ?_); rintro e w27 ⟨rfl, hb⟩; have n0_ := zM (z7 (g := gb276) (o := .cells #[.int .i64 a0_0, .int .i64 a0_1, .int .i64 a0_2, .int .i64 a0_3, .int .i64 a0_4, .int .i64 a0_5] 35 (0, 0)) zk hb); have n1_ := zM (zQ zb hb); clear BK276; clear HB; have BK276 := n0_; have HB := n1_; clear n0_ n1_; (try clear hb); have hcz28_0 := (z5 BK276.out 0).trans rfl; have hcz28_1 := (z5 BK276.out 1).trans rfl; have hcz28_2 := (z5 BK276.out 2).trans rfl; have hcz28_3 := (z5 BK276.out 3).trans rfl; have hcz28_4 := (z5 BK276.out 4).trans rfl; have hcz28_5 := (z5 BK276.out 5).trans rfl; have hfz28_0 := z6 BK276.out 0; have hfz28_1 := z6 BK276.out 1; have hfz28_2 := z6 BK276.out 2; have hfz28_3 := z6 BK276.out 3; have hfz28_4 := z6 BK276.out 4; have hfz28_5 := z6 BK276.out 5) | (go_at_call 38; (with_reducible refine (impl_hasExpr.calls a0_0 true _ A24.out).mono ?_); rintro e w' ⟨rfl, ⟨nd, rfl⟩⟩))
       go_meet
       case rel => exact ⟨_, (false), zs, H', ⟨by have := HJ1.out; first | omega | exact Nat.le_refl _⟩, ⟨zk⟩, ⟨zb⟩⟩
      replace c25 := Bool.eq_false_iff.mpr c25
      subst c25
      exact absurd (A20.out.symm.trans A24.out) (by simp)
     replace c23 := Bool.eq_false_iff.mpr c23
     subst c23
     have H1 : (impl_StmtOk.j1 kj1 true a0_0 a0_1 a0_2 a0_3 a0_4 a0_5) = some r := by rw [if_neg (show ¬ (false = true) by decide)] at H; exact H
     clear H
     have H := H1
     clear H1
     have H' := zM H
     clear H
     have hcz29_0 := (z5 BK276.out 0).trans rfl
     have hcz29_1 := (z5 BK276.out 1).trans rfl
     have hcz29_2 := (z5 BK276.out 2).trans rfl
     have hcz29_3 := (z5 BK276.out 3).trans rfl
     have hcz29_4 := (z5 BK276.out 4).trans rfl
     have hcz29_5 := (z5 BK276.out 5).trans rfl
     have hfz29_0 := z6 BK276.out 0
     have hfz29_1 := z6 BK276.out 1
     have hfz29_2 := z6 BK276.out 2
     have hfz29_3 := z6 BK276.out 3
     have hfz29_4 := z6 BK276.out 4
     have hfz29_5 := z6 BK276.out 5
     go_wp2_with (first | ((with_reducible refine gate_callee (f := 38) rfl ?_); refine goesL_ (some 31) rfl rfl Tryz.func38 (by kernel_rfl) rfl #[.int .i64 a0_0] rfl zg ?_; (with_reducible refine (impl_hasExpr.calls a0_0 true _ A20.out).mono ?_); rintro e w' ⟨rfl, ⟨nd, rfl⟩⟩; refine ⟨_, rfl, ?_⟩) | (go_at_call 32; (with_reducible refine (impl_ExprOk.calls a0_3 a0_4 a0_5 false _ A22.out).mono ?_); rintro e w30 ⟨rfl, hb⟩; have n0_ := zM (z7 (g := gb276) (o := .cells #[.int .i64 a0_0, .int .i64 a0_1, .int .i64 a0_2, .int .i64 a0_3, .int .i64 a0_4, .int .i64 a0_5] 35 (0, 0)) zk hb); have n1_ := zM (zQ zb hb); clear BK276; clear HB; have BK276 := n0_; have HB := n1_; clear n0_ n1_; (try clear hb)))
     go_meet
     case rel => exact ⟨_, (true), zs, H', ⟨by have := HJ1.out; first | omega | exact Nat.le_refl _⟩, ⟨zk⟩, ⟨zb⟩⟩
    replace c21 := Bool.eq_false_iff.mpr c21
    subst c21
    have H1 : ((impl_hasExpr.f a0_0).bind fun t285 => (if t285 = true then (impl_StmtOk.j1 kj1 false a0_0 a0_1 a0_2 a0_3 a0_4 a0_5) else (impl_StmtOk.j1 kj1 (!(a0_3 == 0) || (!(a0_4 == 0) || (!(a0_5 == 0)))) a0_0 a0_1 a0_2 a0_3 a0_4 a0_5))) = some r := by rw [if_neg (show ¬ (false = true) by decide)] at H; exact H
    clear H
    have H := H1
    clear H1
    replace H := Option.bind_eq_some_iff.mp H
    obtain ⟨t285, A310, H⟩ := H
    replace H : (if t285 = true then (impl_StmtOk.j1 kj1 false a0_0 a0_1 a0_2 a0_3 a0_4 a0_5) else (impl_StmtOk.j1 kj1 (!(a0_3 == 0) || (!(a0_4 == 0) || (!(a0_5 == 0)))) a0_0 a0_1 a0_2 a0_3 a0_4 a0_5)) = some r := H
    have A31 := zM A310
    clear A310
    by_cases c32 : t285 = true
    ·subst c32
     exact absurd (A20.out.symm.trans A31.out) (by simp)
    replace c32 := Bool.eq_false_iff.mpr c32
    subst c32
    have H1 : (impl_StmtOk.j1 kj1 (!(a0_3 == 0) || (!(a0_4 == 0) || (!(a0_5 == 0)))) a0_0 a0_1 a0_2 a0_3 a0_4 a0_5) = some r := by rw [if_neg (show ¬ (false = true) by decide)] at H; exact H
    clear H
    have H := H1
    clear H1
    have H' := zM H
    clear H
    have hcz33_0 := (z5 BK276.out 0).trans rfl
    have hcz33_1 := (z5 BK276.out 1).trans rfl
    have hcz33_2 := (z5 BK276.out 2).trans rfl
    have hcz33_3 := (z5 BK276.out 3).trans rfl
    have hcz33_4 := (z5 BK276.out 4).trans rfl
    have hcz33_5 := (z5 BK276.out 5).trans rfl
    have hfz33_0 := z6 BK276.out 0
    have hfz33_1 := z6 BK276.out 1
    have hfz33_2 := z6 BK276.out 2
    have hfz33_3 := z6 BK276.out 3
    have hfz33_4 := z6 BK276.out 4
    have hfz33_5 := z6 BK276.out 5
    go_wp2_with (first | ((with_reducible refine gate_callee (f := 38) rfl ?_); refine goesL_ (some 31) rfl rfl Tryz.func38 (by kernel_rfl) rfl #[.int .i64 a0_0] rfl zg ?_; (with_reducible refine (impl_hasExpr.calls a0_0 false _ A20.out).mono ?_); rintro e w' ⟨rfl, ⟨nd, rfl⟩⟩; refine ⟨_, rfl, ?_⟩) | (go_at_call 38; (with_reducible refine (impl_hasExpr.calls a0_0 false _ A31.out).mono ?_); rintro e w' ⟨rfl, ⟨nd, rfl⟩⟩))
    go_meet
    case rel => exact ⟨_, ((!(a0_3 == 0) || (!(a0_4 == 0) || (!(a0_5 == 0))))), zs, H', ⟨by have := HJ1.out; first | omega | exact Nat.le_refl _⟩, ⟨zk⟩, ⟨zb⟩⟩
   case rest =>
    clear HC19
    try clear c1
    try clear c2
    try clear p2
    try clear c3
    try clear c5
    try clear c7
    try clear c9
    try clear c11
    try clear c15
    try clear c18
    try clear c21
    try clear c23
    try clear c25
    try clear c32
    try clear hcz12_0
    try clear hcz12_1
    try clear hcz12_2
    try clear hcz12_3
    try clear hcz12_4
    try clear hcz12_5
    try clear hcz13_0
    try clear hcz13_1
    try clear hcz13_2
    try clear hcz13_3
    try clear hcz13_4
    try clear hcz13_5
    try clear hcz16_0
    try clear hcz16_1
    try clear hcz16_2
    try clear hcz16_3
    try clear hcz16_4
    try clear hcz16_5
    try clear hcz17_0
    try clear hcz17_1
    try clear hcz17_2
    try clear hcz17_3
    try clear hcz17_4
    try clear hcz17_5
    try clear hcz26_0
    try clear hcz26_1
    try clear hcz26_2
    try clear hcz26_3
    try clear hcz26_4
    try clear hcz26_5
    try clear hcz28_0
    try clear hcz28_1
    try clear hcz28_2
    try clear hcz28_3
    try clear hcz28_4
    try clear hcz28_5
    try clear hcz29_0
    try clear hcz29_1
    try clear hcz29_2
    try clear hcz29_3
    try clear hcz29_4
    try clear hcz29_5
    try clear hcz33_0
    try clear hcz33_1
    try clear hcz33_2
    try clear hcz33_3
    try clear hcz33_4
    try clear hcz33_5
    try clear hfz12_0
    try clear hfz12_1
    try clear hfz12_2
    try clear hfz12_3
    try clear hfz12_4
    try clear hfz12_5
    try clear hfz13_0
    try clear hfz13_1
    try clear hfz13_2
    try clear hfz13_3
    try clear hfz13_4
    try clear hfz13_5
    try clear hfz16_0
    try clear hfz16_1
    try clear hfz16_2
    try clear hfz16_3
    try clear hfz16_4
    try clear hfz16_5
    try clear hfz17_0
    try clear hfz17_1
    try clear hfz17_2
    try clear hfz17_3
    try clear hfz17_4
    try clear hfz17_5
    try clear hfz26_0
    try clear hfz26_1
    try clear hfz26_2
    try clear hfz26_3
    try clear hfz26_4
    try clear hfz26_5
    try clear hfz28_0
    try clear hfz28_1
    try clear hfz28_2
    try clear hfz28_3
    try clear hfz28_4
    try clear hfz28_5
    try clear hfz29_0
    try clear hfz29_1
    try clear hfz29_2
    try clear hfz29_3
    try clear hfz29_4
    try clear hfz29_5
    try clear hfz33_0
    try clear hfz33_1
    try clear hfz33_2
    try clear hfz33_3
    try clear hfz33_4
    try clear hfz33_5
    try clear p2
    obtain ⟨kq, x49_18, rfl, HA, HJ18, BK276, HB⟩ := hcut
    cases kq with
    | zero => exact absurd HA.out (by simp [impl_StmtOk.j1])
    | succ kj18 =>
     have H := HA.out
     clear HA
     simp only [impl_StmtOk.j1] at H
     by_cases c34 : x49_18 = true
     ·subst c34
      have H1 : (some false) = some r := by rw [if_pos rfl] at H; exact H
      clear H
      have H := H1
      clear H1
      obtain rfl := Option.some.inj H
      go_wp2
      go_ret
      exact ⟨by first | rfl | (simp [errW_none, errW_some] <;> rfl) | (simp [*, errW_none, errW_some] <;> rfl), zb⟩
     replace c34 := Bool.eq_false_iff.mpr c34
     subst c34
     have H1 : (if a0_0 = 2 then ((impl_isSensor.f a0_2).bind fun t286 => (some t286)) else (if a0_0 = 5 then ((impl_within.f a0_2 1 5).bind fun t287 => (some t287)) else (some (a0_2 == 0)))) = some r := by rw [if_neg (show ¬ (false = true) by decide)] at H; exact H
     clear H
     have H := H1
     clear H1
     by_cases c35 : a0_0 = 2
     ·rw [if_pos c35] at H
      have c35b0 : (a0_0 == 2) = true := beq_iff_eq.mpr c35
      have c35b1 : (a0_0 != 2) = false := bne_eq_false_iff_eq.mpr c35
      clear c35
      replace H := Option.bind_eq_some_iff.mp H
      obtain ⟨t286, A360, H⟩ := H
      replace H : (some t286) = some r := H
      have A36 := zM A360
      clear A360
      obtain rfl := Option.some.inj H
      have hcz37_0 := (z5 BK276.out 0).trans rfl
      have hcz37_1 := (z5 BK276.out 1).trans rfl
      have hcz37_2 := (z5 BK276.out 2).trans rfl
      have hcz37_3 := (z5 BK276.out 3).trans rfl
      have hcz37_4 := (z5 BK276.out 4).trans rfl
      have hcz37_5 := (z5 BK276.out 5).trans rfl
      have hfz37_0 := z6 BK276.out 0
      have hfz37_1 := z6 BK276.out 1
      have hfz37_2 := z6 BK276.out 2
      have hfz37_3 := z6 BK276.out 3
      have hfz37_4 := z6 BK276.out 4
      have hfz37_5 := z6 BK276.out 5
      go_wp2_with (first | ((with_reducible refine gate_callee (f := 71) rfl ?_); refine goesL_ (some 56) rfl rfl Tryz.func71 (by kernel_rfl) rfl #[.int .i64 a0_2] rfl zg ?_; (with_reducible refine (impl_isSensor.calls a0_2 t286 _ A36.out).mono ?_); rintro e w' ⟨rfl, ⟨nd, rfl⟩⟩; refine ⟨_, rfl, ?_⟩))
      go_ret
      exact ⟨by first | rfl | (simp [errW_none, errW_some] <;> rfl) | (simp [*, errW_none, errW_some] <;> rfl), zb⟩
     rw [if_neg c35] at H
     have c35b0 : (a0_0 == 2) = false := beq_eq_false_iff_ne.mpr c35
     have c35b1 : (a0_0 != 2) = true := bne_iff_ne.mpr c35
     by_cases c38 : a0_0 = 5
     ·rw [if_pos c38] at H
      have c38b0 : (a0_0 == 5) = true := beq_iff_eq.mpr c38
      have c38b1 : (a0_0 != 5) = false := bne_eq_false_iff_eq.mpr c38
      clear c38
      replace H := Option.bind_eq_some_iff.mp H
      obtain ⟨t287, A390, H⟩ := H
      replace H : (some t287) = some r := H
      have A39 := zM A390
      clear A390
      obtain rfl := Option.some.inj H
      have hcz40_0 := (z5 BK276.out 0).trans rfl
      have hcz40_1 := (z5 BK276.out 1).trans rfl
      have hcz40_2 := (z5 BK276.out 2).trans rfl
      have hcz40_3 := (z5 BK276.out 3).trans rfl
      have hcz40_4 := (z5 BK276.out 4).trans rfl
      have hcz40_5 := (z5 BK276.out 5).trans rfl
      have hfz40_0 := z6 BK276.out 0
      have hfz40_1 := z6 BK276.out 1
      have hfz40_2 := z6 BK276.out 2
      have hfz40_3 := z6 BK276.out 3
      have hfz40_4 := z6 BK276.out 4
      have hfz40_5 := z6 BK276.out 5
      go_wp2_with (first | ((with_reducible refine gate_callee (f := 51) rfl ?_); refine goesL_ (some 61) rfl rfl Tryz.func51 (by kernel_rfl) rfl #[.int .i64 a0_2, .int .i64 1, .int .i64 5] rfl zg ?_; (with_reducible refine (impl_within.calls a0_2 1 5 t287 _ A39.out).mono ?_); rintro e w' ⟨rfl, ⟨nd, rfl⟩⟩; refine ⟨_, rfl, ?_⟩))
      go_ret
      exact ⟨by first | rfl | (simp [errW_none, errW_some] <;> rfl) | (simp [*, errW_none, errW_some] <;> rfl), zb⟩
     rw [if_neg c38] at H
     have c38b0 : (a0_0 == 5) = false := beq_eq_false_iff_ne.mpr c38
     have c38b1 : (a0_0 != 5) = true := bne_iff_ne.mpr c38
     obtain rfl := Option.some.inj H
     have hcz41_0 := (z5 BK276.out 0).trans rfl
     have hcz41_1 := (z5 BK276.out 1).trans rfl
     have hcz41_2 := (z5 BK276.out 2).trans rfl
     have hcz41_3 := (z5 BK276.out 3).trans rfl
     have hcz41_4 := (z5 BK276.out 4).trans rfl
     have hcz41_5 := (z5 BK276.out 5).trans rfl
     have hfz41_0 := z6 BK276.out 0
     have hfz41_1 := z6 BK276.out 1
     have hfz41_2 := z6 BK276.out 2
     have hfz41_3 := z6 BK276.out 3
     have hfz41_4 := z6 BK276.out 4
     have hfz41_5 := z6 BK276.out 5
     go_wp2
     go_ret
     exact ⟨by first | rfl | (simp [errW_none, errW_some] <;> rfl) | (simp [*, errW_none, errW_some] <;> rfl), zb⟩
end Go.Proofs.YtcpmkcidehhbiaaGreatDoor.PFnExactParseProgram
