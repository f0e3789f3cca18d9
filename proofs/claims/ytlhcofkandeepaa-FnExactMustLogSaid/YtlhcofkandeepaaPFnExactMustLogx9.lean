/- Walks of the functions that a statement reaches, written by a program (the printing program, mended): no condition. -/
import Derived.Test.YtlhcofkandeepaaPFnExactMustLogx0
import Derived.Test.YtlhcofkandeepaaPFnExactMustLogx6
import Derived.Test.YtlhcofkandeepaaPFnExactMustLogx7
import Derived.Test.YtlhcofkandeepaaPFnExactMustLogx8
namespace Go.Proofs.Ytlhcofkandeepaa.PFnExactMustLog
open Go.RowKit Go.Proofs.YtlhcofkandeepaaW.PrintWords Go.Proofs.YtlhcofkandeepaaW.PrintLast Go.Proofs.YtlhcofkandeepaaW.PrintMore
attribute [local go_sem] max2_int min2_int max_two min_two max_three min_three max_four min_four   -- for this text's walks alone
set_option linter.unusedVariables false
set_option linter.unusedSimpArgs false

/-! ### spec_HasVar: function 68 -/
def spec_HasVar.l0 : Nat → List Int → Int → Int → Option (Bool)
 | 0, _, _, _ => none
 | k + 1, x0, x1, x5 => if x5 < (x0.length : Int) then (if 0 ≤ x5 then (if (rd x0 x5) = x1 then (some true) else (spec_HasVar.l0 k x0 x1 (wrap64 (x5 + 1)))) else (none)) else (some false)
def spec_HasVar.f (k : Nat) (l0 : List Int) (a1 : Int) : Option (Bool) := spec_HasVar.l0 k l0 a1 0
theorem spec_HasVar.mono_l : ∀ k, (∀ y0 y1 y2, LeO (spec_HasVar.l0 k y0 y1 y2) (spec_HasVar.l0 (k + 1) y0 y1 y2))
 | 0 => fun _ _ _ r h => by simp [spec_HasVar.l0] at h
 | k + 1 => by
  have ih0 := spec_HasVar.mono_l k
  ·intro y0 y1 y2
   unfold spec_HasVar.l0
   repeat' first
   | (with_reducible exact ih0 _ _ _)
   | (with_reducible exact LeO.refl _)
   | (with_reducible exact LeO.none _)
   | (with_reducible refine LeO.ite ?_ ?_)
   | (with_reducible refine LeO.bind ?_ (fun _ => ?_))
   | exact ih0 _ _ _
   | exact LeO.none _
   | refine LeO.ite ?_ ?_
   | refine LeO.bind ?_ (fun _ => ?_)
theorem spec_HasVar.mono : ∀ a0 a1 k, LeO (spec_HasVar.f k a0 a1) (spec_HasVar.f (k + 1) a0 a1) := by
 intro a0 a1 k
 have ih0 := spec_HasVar.mono_l k
 unfold spec_HasVar.f
 repeat' first
   | (with_reducible exact ih0 _ _ _)
   | (with_reducible exact LeO.refl _)
   | (with_reducible exact LeO.none _)
   | (with_reducible refine LeO.ite ?_ ?_)
   | (with_reducible refine LeO.bind ?_ (fun _ => ?_))
   | exact ih0 _ _ _
   | exact LeO.none _
   | refine LeO.ite ?_ ?_
   | refine LeO.bind ?_ (fun _ => ?_)
set_option maxHeartbeats 8000000 in
set_option maxRecDepth 100000 in
theorem spec_HasVar.calls (k : Nat) (A0 : Option Addr) (c0 : Nat) (l0 : List Int) (a1 : Int) (r : Bool) (w : World) (hr0 : Kd.C (Kd.int .i64) w A0 l0.length l0) (hc0 : l0.length ≤ c0) (h : spec_HasVar.f k l0 a1 = some r) :
  Calls Try.prog 68 #[.slice A0 l0.length c0, .int .i64 a1] w fun e w' => e = .returned (.bool r) ∧ Drawn0 w w' := by
 have HR0 := zM hr0
 have HC0 := zM hc0
 clear hr0 hc0
 have H : (spec_HasVar.l0 k l0 a1 0) = some r := h
 clear h
 have H' := zM H
 clear H
 go_enter Try.func68, Try.ntmps68
 go_wp2
 go_loopg [5] k (fun kq v5 w' => ∃ (x5_1 : Int), v5 = .int .i64 x5_1 ∧ Aside0 (spec_HasVar.l0 kq l0 a1 x5_1 = some r) ∧ Aside0 (kq ≤ k) ∧ Drawn0 w w')
 case atStart => exact ⟨(0), zs, H', ⟨Nat.le_refl _⟩, by repeat (first | exact Drawn0.refl _ | apply Drawn0.step)⟩
 case round =>
  clear H'
  try clear p2
  obtain ⟨x5_1, rfl, HA, HK1, ⟨m1, rfl⟩⟩ := hrel
  cases gk with
  | zero => exact absurd HA.out (by simp [spec_HasVar.l0])
  | succ k1 =>
   have H := HA.out
   clear HA
   simp only [spec_HasVar.l0] at H
   by_cases c3 : x5_1 < (l0.length : Int)
   ·rw [if_pos c3] at H
    have c3b0 : decide (x5_1 < (l0.length : Int)) = true := decide_eq_true c3
    clear c3
    by_cases c4 : 0 ≤ x5_1
    ·rw [if_pos c4] at H
     have c4b0 : decide (0 ≤ x5_1) = true := decide_eq_true c4
     clear c4
     by_cases c5 : (rd l0 x5_1) = a1
     ·rw [if_pos c5] at H
      have c5b0 : ((rd l0 x5_1) == a1) = true := beq_iff_eq.mpr c5
      have c5b1 : ((rd l0 x5_1) != a1) = false := bne_eq_false_iff_eq.mpr c5
      clear c5
      obtain rfl := Option.some.inj H
      have p276 : 0 ≤ (x5_1 : Int) := zd
      have q276 : x5_1 < (l0.length : Int) := zd
      obtain ⟨ad276, e276, hx276_0⟩ := Kd.at_int HR0.out x5_1 p276 q276
      cases e276
      replace p276 := eq_true p276
      replace q276 := eq_true q276
      go_wp2
      go_ret
      exact ⟨by first | rfl | (simp; done) | (simp [*]; done), by repeat (first | exact Drawn0.refl _ | apply Drawn0.step)⟩
     ·rw [if_neg c5] at H
      have c5b0 : ((rd l0 x5_1) == a1) = false := beq_eq_false_iff_ne.mpr c5
      have c5b1 : ((rd l0 x5_1) != a1) = true := bne_iff_ne.mpr c5
      have H' := zM H
      clear H
      have p276 : 0 ≤ (x5_1 : Int) := zd
      have q276 : x5_1 < (l0.length : Int) := zd
      obtain ⟨ad276, e276, hx276_0⟩ := Kd.at_int HR0.out x5_1 p276 q276
      cases e276
      replace p276 := eq_true p276
      replace q276 := eq_true q276
      go_wp2
      go_roundg k1
      case measure => have := HK1.out; omega
      case rel => exact ⟨(wrap64 (x5_1 + 1)), zs, H', ⟨by have := HK1.out; omega⟩, by repeat (first | exact Drawn0.refl _ | apply Drawn0.step)⟩
    ·rw [if_neg c4] at H
     exact absurd H (by simp)
   ·rw [if_neg c3] at H
    have c3b0 : decide (x5_1 < (l0.length : Int)) = false := decide_eq_false c3
    clear c3
    obtain rfl := Option.some.inj H
    go_wp2
    go_ret
    exact ⟨by first | rfl | (simp; done) | (simp [*]; done), by repeat (first | exact Drawn0.refl _ | apply Drawn0.step)⟩

/-! ### spec_MustLog: function 33 -/
def spec_MustLog.l0 : Nat → List Int → List Int → List Int → List Int → Int → Option (List Int)
 | 0, _, _, _, _, _ => none
 | k + 1, x3, x4, x5, x6, x7 => if x7 < (x4.length : Int) then (if 0 ≤ x7 then ((spec_HasVar.f k x6 (rd x4 x7)).bind fun t292 => (if t292 = true then (if x3.length < 17592186044416 then (spec_MustLog.l0 k (x3 ++ [rd x4 x7]) x4 x5 x6 (wrap64 (x7 + 1))) else (none)) else ((spec_HasVar.f k x5 (rd x4 x7)).bind fun t298 => (if t298 = true then (spec_MustLog.l0 k x3 x4 x5 x6 (wrap64 (x7 + 1))) else (if x3.length < 17592186044416 then (spec_MustLog.l0 k (x3 ++ [rd x4 x7]) x4 x5 x6 (wrap64 (x7 + 1))) else (none)))))) else (none)) else (some x3)
def spec_MustLog.f (k : Nat) (l0_0 : List (S39)) (a0_1 : Int) (a0_2 : Int) (a0_3 : Int) : Option (List Int) := (some (([] : List Int) : List Int)).bind fun y278 => ((spec_l08Ok.f k l0_0 a0_1 a0_2 a0_3).bind fun t281 => (if t281 = true then ((spec_MayWrite.f k l0_0).bind fun t282 => ((spec_MustWrite.f k l0_0).bind fun t285 => ((spec_MayReadFirst.f k l0_0 a0_1 a0_2 a0_3).bind fun t288 => (spec_MustLog.l0 k y278 t282 t285 t288 0)))) else (some y278)))
theorem spec_MustLog.mono_l : ∀ k, (∀ y0 y1 y2 y3 y4, LeO (spec_MustLog.l0 k y0 y1 y2 y3 y4) (spec_MustLog.l0 (k + 1) y0 y1 y2 y3 y4))
 | 0 => fun _ _ _ _ _ r h => by simp [spec_MustLog.l0] at h
 | k + 1 => by
  have ih0 := spec_MustLog.mono_l k
  ·intro y0 y1 y2 y3 y4
   unfold spec_MustLog.l0
   repeat' first
   | (with_reducible exact ih0 _ _ _ _ _)
   | (with_reducible exact spec_HasVar.mono _ _ _)
   | (with_reducible exact spec_MayReadFirst.mono _ _ _ _ _)
   | (with_reducible exact spec_MayWrite.mono _ _)
   | (with_reducible exact spec_MustWrite.mono _ _)
   | (with_reducible exact spec_l08Ok.mono _ _ _ _ _)
   | (with_reducible exact LeO.refl _)
   | (with_reducible exact LeO.none _)
   | (with_reducible refine LeO.ite ?_ ?_)
   | (with_reducible refine LeO.bind ?_ (fun _ => ?_))
   | exact ih0 _ _ _ _ _
   | exact spec_HasVar.mono _ _ _
   | exact spec_MayReadFirst.mono _ _ _ _ _
   | exact spec_MayWrite.mono _ _
   | exact spec_MustWrite.mono _ _
   | exact spec_l08Ok.mono _ _ _ _ _
   | exact LeO.none _
   | refine LeO.ite ?_ ?_
   | refine LeO.bind ?_ (fun _ => ?_)
theorem spec_MustLog.mono : ∀ a0 a1 a2 a3 k, LeO (spec_MustLog.f k a0 a1 a2 a3) (spec_MustLog.f (k + 1) a0 a1 a2 a3) := by
 intro a0 a1 a2 a3 k
 have ih0 := spec_MustLog.mono_l k
 unfold spec_MustLog.f
 repeat' first
   | (with_reducible exact ih0 _ _ _ _ _)
   | (with_reducible exact spec_HasVar.mono _ _ _)
   | (with_reducible exact spec_MayReadFirst.mono _ _ _ _ _)
   | (with_reducible exact spec_MayWrite.mono _ _)
   | (with_reducible exact spec_MustWrite.mono _ _)
   | (with_reducible exact spec_l08Ok.mono _ _ _ _ _)
   | (with_reducible exact LeO.refl _)
   | (with_reducible exact LeO.none _)
   | (with_reducible refine LeO.ite ?_ ?_)
   | (with_reducible refine LeO.bind ?_ (fun _ => ?_))
   | exact ih0 _ _ _ _ _
   | exact spec_HasVar.mono _ _ _
   | exact spec_MayReadFirst.mono _ _ _ _ _
   | exact spec_MayWrite.mono _ _
   | exact spec_MustWrite.mono _ _
   | exact spec_l08Ok.mono _ _ _ _ _
   | exact LeO.none _
   | refine LeO.ite ?_ ?_
   | refine LeO.bind ?_ (fun _ => ?_)
set_option maxHeartbeats 8000000 in
set_option maxRecDepth 100000 in
theorem spec_MustLog.calls (k : Nat) (A0_0 : Option Addr) (c0_0 : Nat) (l0_0 : List (S39)) (a0_1 : Int) (a0_2 : Int) (a0_3 : Int) (r : List Int) (w : World) (hr0_0 : Kd.C k39 w A0_0 l0_0.length l0_0) (hc0_0 : l0_0.length ≤ c0_0) (h : spec_MustLog.f k l0_0 a0_1 a0_2 a0_3 = some r) :
  Calls Try.prog 33 #[.agg #[.slice A0_0 l0_0.length c0_0, .int .i64 a0_1, .int .i64 a0_2, .int .i64 a0_3]] w fun e w' => ∃ v0_ : Value, e = .returned (v0_) ∧ Kd.R (Kd.int .i64) 3 w' w.heap.size (fun _ => True) v0_ r ∧ Below w.heap.size w w' := by
 have hu47 := Try.underlying47
 have HR0_0 := zM hr0_0
 have HC0_0 := zM hc0_0
 clear hr0_0 hc0_0
 have HB := zM (Below.refl w.heap.size w)
 have H : ((some (([] : List Int) : List Int)).bind fun y278 => ((spec_l08Ok.f k l0_0 a0_1 a0_2 a0_3).bind fun t281 => (if t281 = true then ((spec_MayWrite.f k l0_0).bind fun t282 => ((spec_MustWrite.f k l0_0).bind fun t285 => ((spec_MayReadFirst.f k l0_0 a0_1 a0_2 a0_3).bind fun t288 => (spec_MustLog.l0 k y278 t282 t285 t288 0)))) else (some y278)))) = some r := h
 clear h
 obtain ⟨y278, hyq⟩ : ∃ y_ : List Int, y_ = (([] : List Int)) := ⟨_, rfl⟩
 replace H : ((spec_l08Ok.f k l0_0 a0_1 a0_2 a0_3).bind fun t281 => (if t281 = true then ((spec_MayWrite.f k l0_0).bind fun t282 => ((spec_MustWrite.f k l0_0).bind fun t285 => ((spec_MayReadFirst.f k l0_0 a0_1 a0_2 a0_3).bind fun t288 => (spec_MustLog.l0 k y278 t282 t285 t288 0)))) else (some y278))) = some r := zh
 have Ny278 := zM hyq
 clear hyq
 replace H := Option.bind_eq_some_iff.mp H
 obtain ⟨t281, A20, H⟩ := H
 replace H : (if t281 = true then ((spec_MayWrite.f k l0_0).bind fun t282 => ((spec_MustWrite.f k l0_0).bind fun t285 => ((spec_MayReadFirst.f k l0_0 a0_1 a0_2 a0_3).bind fun t288 => (spec_MustLog.l0 k y278 t282 t285 t288 0)))) else (some y278)) = some r := H
 have A2 := zM A20
 clear A20
 by_cases c3 : t281 = true
 ·subst c3
  have H1 : ((spec_MayWrite.f k l0_0).bind fun t282 => ((spec_MustWrite.f k l0_0).bind fun t285 => ((spec_MayReadFirst.f k l0_0 a0_1 a0_2 a0_3).bind fun t288 => (spec_MustLog.l0 k y278 t282 t285 t288 0)))) = some r := by rw [if_pos rfl] at H; exact H
  clear H
  have H := H1
  clear H1
  replace H := Option.bind_eq_some_iff.mp H
  obtain ⟨t282, A40, H⟩ := H
  replace H : ((spec_MustWrite.f k l0_0).bind fun t285 => ((spec_MayReadFirst.f k l0_0 a0_1 a0_2 a0_3).bind fun t288 => (spec_MustLog.l0 k y278 t282 t285 t288 0))) = some r := H
  have A4 := zM A40
  clear A40
  replace H := Option.bind_eq_some_iff.mp H
  obtain ⟨t285, A50, H⟩ := H
  replace H : ((spec_MayReadFirst.f k l0_0 a0_1 a0_2 a0_3).bind fun t288 => (spec_MustLog.l0 k y278 t282 t285 t288 0)) = some r := H
  have A5 := zM A50
  clear A50
  replace H := Option.bind_eq_some_iff.mp H
  obtain ⟨t288, A60, H⟩ := H
  replace H : (spec_MustLog.l0 k y278 t282 t285 t288 0) = some r := H
  have A6 := zM A60
  clear A60
  have H' := zM H
  clear H
  go_enter Try.func33, Try.ntmps33
  go_wp2_with (first | ((with_reducible refine gate_dst (N := 1) rfl ?_); refine box_event ?hg (N := 1) ?hd (cs := #[.slice A0_0 l0_0.length c0_0, .int .i64 a0_1, .int .i64 a0_2, .int .i64 a0_3]) (t := 47) ?hr ?_; (case hd => rfl); (case hg => rfl); (case hr => first | (go_simp; done) | (go_simp; rfl)); intro gb277 hg w7 hbox hb; have n0_ := zM (zQ zb hb); have n1_ := zM (hbox); have n2_ := zM ((by rw [hg]; exact (zR zb) : w.heap.size ≤ gb277)); have n3_ := zM ((by rw [hg]; exact (zR zb) : w.heap.size ≤ gb277)); clear HB; have HB := n0_; have BK277 := n1_; have GW277 := n2_; have GE277 := n3_; clear n0_ n1_ n2_ n3_; clear hb hbox hg) | ((with_reducible refine gate_dst (N := 8) rfl ?_); refine Kd.R_lit (Kd.int .i64) _ 3 ?hg (N := 8) ?hd (xs := ([] : List Int)) (inner := []) (ok := fun _ => True) (okp := fun _ => True) ?hr ?hp (fun _ hk => hk) trivial (Below.refl _ _) (Nat.le_refl _) (by simp) ?_; (case hd => rfl); (case hg => rfl); (case hr => first | (go_simp; done) | (go_simp; rfl)); (case hp => exact (Reps.none _ _)); intro v279 w8 ho9 hb hg_ hnew_; clear hg_ hnew_; (first | rw [← Ny278.out] at ho9 | (simp only [Int.reduceToNat] at ho9; rw [← Ny278.out] at ho9)); have n0_ := zM (zf ho9 (zR zb)); have n1_ := zM (z7 (g := gb277) (o := .cells #[.slice A0_0 l0_0.length c0_0, .int .i64 a0_1, .int .i64 a0_2, .int .i64 a0_3] 47 (0, 0)) zk hb); have n2_ := zM (zQ zb hb); clear BK277; clear HB; have HO280 := n0_; have BK277 := n1_; have HB := n2_; clear n0_ n1_ n2_; clear hb ho9; have hcz10_0 := (z5 BK277.out 0).trans rfl; have hcz10_1 := (z5 BK277.out 1).trans rfl; have hcz10_2 := (z5 BK277.out 2).trans rfl; have hcz10_3 := (z5 BK277.out 3).trans rfl; have hfz10_0 := z6 BK277.out 0; have hfz10_1 := z6 BK277.out 1; have hfz10_2 := z6 BK277.out 2; have hfz10_3 := z6 BK277.out 3) | ((with_reducible refine gate_callee (f := 67) rfl ?_); refine goesL_ (some 10) rfl rfl Try.func67 (by kernel_rfl) rfl #[.agg #[.slice A0_0 l0_0.length c0_0, .int .i64 a0_1, .int .i64 a0_2, .int .i64 a0_3]] rfl zg ?_; (with_reducible refine (spec_l08Ok.calls k _ _ l0_0 a0_1 a0_2 a0_3 true _ ?side1 ?side2 A2.out).mono ?_); (case side1 => repeat (first | exact (zX HR0_0.out HB.out) | (with_reducible refine zF ?_ _) | (with_reducible refine zG ?_ _) | (with_reducible refine zH ?_))); (case side2 => exact HC0_0.out); rintro e w11 ⟨rfl, hb⟩; refine ⟨_, rfl, ?_⟩; have n0_ := zM (ze (by (with_reducible repeat (first | apply zI | apply zJ | apply zK)); exact HO280.out) hb); have n1_ := zM (z7 (g := gb277) (o := .cells #[.slice A0_0 l0_0.length c0_0, .int .i64 a0_1, .int .i64 a0_2, .int .i64 a0_3] 47 (0, 0)) zk hb); have n2_ := zM (zQ zb hb); clear HO280; clear BK277; clear HB; have HO280 := n0_; have BK277 := n1_; have HB := n2_; clear n0_ n1_ n2_; (try clear hb); (try clear hk); have hcz12_0 := (z5 BK277.out 0).trans rfl; have hcz12_1 := (z5 BK277.out 1).trans rfl; have hcz12_2 := (z5 BK277.out 2).trans rfl; have hcz12_3 := (z5 BK277.out 3).trans rfl; have hfz12_0 := z6 BK277.out 0; have hfz12_1 := z6 BK277.out 1; have hfz12_2 := z6 BK277.out 2; have hfz12_3 := z6 BK277.out 3) | ((with_reducible refine gate_callee (f := 13) rfl ?_); refine goesL_ (some 15) rfl rfl Try.func13 (by kernel_rfl) rfl #[.slice A0_0 l0_0.length c0_0] rfl zg ?_; (with_reducible refine (spec_MayWrite.calls k _ _ l0_0 t282 _ ?side1 ?side2 A4.out).mono ?_); (case side1 => repeat (first | exact (zX HR0_0.out HB.out) | (with_reducible refine zF ?_ _) | (with_reducible refine zG ?_ _) | (with_reducible refine zH ?_))); (case side2 => exact HC0_0.out); rintro e w13 ⟨v283, rfl, ho0, hb⟩; refine ⟨_, rfl, ?_⟩; have n0_ := zM (Kd.R_elder' (by (with_reducible repeat (first | apply zI | apply zJ | apply zK)); exact HO280.out) (Kd.R_base ho0) hb); have n1_ := zM (zf (Kd.R_new' ho0 (Kd.R_lt (by (with_reducible repeat (first | apply zI | apply zJ | apply zK)); exact HO280.out))) (zR zb)); have n2_ := zM (z7 (g := gb277) (o := .cells #[.slice A0_0 l0_0.length c0_0, .int .i64 a0_1, .int .i64 a0_2, .int .i64 a0_3] 47 (0, 0)) zk hb); have n3_ := zM (zQ zb hb); clear HO280; clear BK277; clear HB; have HO280 := n0_; have HO284 := n1_; have BK277 := n2_; have HB := n3_; clear n0_ n1_ n2_ n3_; (try clear hb); (try clear hk); (try clear ho0); have hcz14_0 := (z5 BK277.out 0).trans rfl; have hcz14_1 := (z5 BK277.out 1).trans rfl; have hcz14_2 := (z5 BK277.out 2).trans rfl; have hcz14_3 := (z5 BK277.out 3).trans rfl; have hfz14_0 := z6 BK277.out 0; have hfz14_1 := z6 BK277.out 1; have hfz14_2 := z6 BK277.out 2; have hfz14_3 := z6 BK277.out 3) | ((with_reducible refine gate_callee (f := 21) rfl ?_); refine goesL_ (some 18) rfl rfl Try.func21 (by kernel_rfl) rfl #[.slice A0_0 l0_0.length c0_0] rfl zg ?_; (with_reducible refine (spec_MustWrite.calls k _ _ l0_0 t285 _ ?side1 ?side2 A5.out).mono ?_); (case side1 => repeat (first | exact (zX HR0_0.out HB.out) | (with_reducible refine zF ?_ _) | (with_reducible refine zG ?_ _) | (with_reducible refine zH ?_))); (case side2 => exact HC0_0.out); rintro e w15 ⟨v286, rfl, ho0, hb⟩; refine ⟨_, rfl, ?_⟩; have n0_ := zM (Kd.R_elder' (by (with_reducible repeat (first | apply zI | apply zJ | apply zK)); exact HO280.out) (Kd.R_base ho0) hb); have n1_ := zM (Kd.R_elder' (by (with_reducible repeat (first | apply zI | apply zJ | apply zK)); exact HO284.out) (Kd.R_base ho0) hb); have n2_ := zM (zf (Kd.R_new' (Kd.R_new' ho0 (Kd.R_lt (by (with_reducible repeat (first | apply zI | apply zJ | apply zK)); exact HO280.out))) (Kd.R_lt (by (with_reducible repeat (first | apply zI | apply zJ | apply zK)); exact HO284.out))) (zR zb)); have n3_ := zM (z7 (g := gb277) (o := .cells #[.slice A0_0 l0_0.length c0_0, .int .i64 a0_1, .int .i64 a0_2, .int .i64 a0_3] 47 (0, 0)) zk hb); have n4_ := zM (zQ zb hb); clear HO280; clear HO284; clear BK277; clear HB; have HO280 := n0_; have HO284 := n1_; have HO287 := n2_; have BK277 := n3_; have HB := n4_; clear n0_ n1_ n2_ n3_ n4_; (try clear hb); (try clear hk); (try clear ho0); have hcz16_0 := (z5 BK277.out 0).trans rfl; have hcz16_1 := (z5 BK277.out 1).trans rfl; have hcz16_2 := (z5 BK277.out 2).trans rfl; have hcz16_3 := (z5 BK277.out 3).trans rfl; have hfz16_0 := z6 BK277.out 0; have hfz16_1 := z6 BK277.out 1; have hfz16_2 := z6 BK277.out 2; have hfz16_3 := z6 BK277.out 3) | ((with_reducible refine gate_callee (f := 28) rfl ?_); refine goesL_ (some 20) rfl rfl Try.func28 (by kernel_rfl) rfl #[.agg #[.slice A0_0 l0_0.length c0_0, .int .i64 a0_1, .int .i64 a0_2, .int .i64 a0_3]] rfl zg ?_; (with_reducible refine (spec_MayReadFirst.calls k _ _ l0_0 a0_1 a0_2 a0_3 t288 _ ?side1 ?side2 A6.out).mono ?_); (case side1 => repeat (first | exact (zX HR0_0.out HB.out) | (with_reducible refine zF ?_ _) | (with_reducible refine zG ?_ _) | (with_reducible refine zH ?_))); (case side2 => exact HC0_0.out); rintro e w17 ⟨v289, rfl, ho0, hb⟩; refine ⟨_, rfl, ?_⟩; have n0_ := zM (Kd.R_elder' (by (with_reducible repeat (first | apply zI | apply zJ | apply zK)); exact HO280.out) (Kd.R_base ho0) hb); have n1_ := zM (Kd.R_elder' (by (with_reducible repeat (first | apply zI | apply zJ | apply zK)); exact HO284.out) (Kd.R_base ho0) hb); have n2_ := zM (Kd.R_elder' (by (with_reducible repeat (first | apply zI | apply zJ | apply zK)); exact HO287.out) (Kd.R_base ho0) hb); have n3_ := zM (zf (Kd.R_new' (Kd.R_new' (Kd.R_new' ho0 (Kd.R_lt (by (with_reducible repeat (first | apply zI | apply zJ | apply zK)); exact HO280.out))) (Kd.R_lt (by (with_reducible repeat (first | apply zI | apply zJ | apply zK)); exact HO284.out))) (Kd.R_lt (by (with_reducible repeat (first | apply zI | apply zJ | apply zK)); exact HO287.out))) (zR zb)); have n4_ := zM (z7 (g := gb277) (o := .cells #[.slice A0_0 l0_0.length c0_0, .int .i64 a0_1, .int .i64 a0_2, .int .i64 a0_3] 47 (0, 0)) zk hb); have n5_ := zM (zQ zb hb); clear HO280; clear HO284; clear HO287; clear BK277; clear HB; have HO280 := n0_; have HO284 := n1_; have HO287 := n2_; have HO290 := n3_; have BK277 := n4_; have HB := n5_; clear n0_ n1_ n2_ n3_ n4_ n5_; (try clear hb); (try clear hk); (try clear ho0)))
  go_loopg [3, 7] k (fun kq v3 v7 w' => ∃ (x3_1 : List Int) (x7_1 : Int), v7 = .int .i64 x7_1 ∧ Aside0 (spec_MustLog.l0 kq x3_1 t282 t285 t288 x7_1 = some r) ∧ Aside0 (kq ≤ k) ∧ Aside0 (Kd.R (Kd.int .i64) 3 w' w.heap.size (fun k_ => some k_ ≠ (v283 : Value).ownBlock ∧ some k_ ≠ (v286 : Value).ownBlock ∧ some k_ ≠ (v289 : Value).ownBlock) v3 x3_1) ∧ Aside0 (Kd.R (Kd.int .i64) 3 w' w.heap.size (fun k_ => some k_ ≠ (v3 : Value).ownBlock ∧ some k_ ≠ (v286 : Value).ownBlock ∧ some k_ ≠ (v289 : Value).ownBlock) v283 t282) ∧ Aside0 (Kd.R (Kd.int .i64) 3 w' w.heap.size (fun k_ => some k_ ≠ (v3 : Value).ownBlock ∧ some k_ ≠ (v283 : Value).ownBlock ∧ some k_ ≠ (v289 : Value).ownBlock) v286 t285) ∧ Aside0 (Kd.R (Kd.int .i64) 3 w' w.heap.size (fun k_ => some k_ ≠ (v3 : Value).ownBlock ∧ some k_ ≠ (v283 : Value).ownBlock ∧ some k_ ≠ (v286 : Value).ownBlock) v289 t288) ∧ Aside0 (w'.heap[gb277]? = some (.cells #[(.slice A0_0 l0_0.length c0_0), .int .i64 a0_1, .int .i64 a0_2, .int .i64 a0_3] 47 (0, 0))) ∧ Aside0 (Below w.heap.size w w'))
  case atStart => exact ⟨(y278), (0), zs, H', ⟨Nat.le_refl _⟩, ⟨by (with_reducible repeat (first | apply zI | apply zJ | apply zK)); exact z1 HO280.out (fun _ hk => ⟨hk.1.1.2, ⟨hk.1.2, hk.2⟩⟩)⟩, ⟨by (with_reducible repeat (first | apply zI | apply zJ | apply zK)); exact z1 HO284.out (fun _ hk => ⟨hk.1.1.2, ⟨hk.1.2, hk.2⟩⟩)⟩, ⟨by (with_reducible repeat (first | apply zI | apply zJ | apply zK)); exact z1 HO287.out (fun _ hk => ⟨hk.1.1.2, ⟨hk.1.2, hk.2⟩⟩)⟩, ⟨by (with_reducible repeat (first | apply zI | apply zJ | apply zK)); exact z1 HO290.out (fun _ hk => ⟨hk.1.1.2, ⟨hk.1.2, hk.2⟩⟩)⟩, ⟨zk⟩, ⟨zb⟩⟩
  case round =>
   clear H'
   try clear c1
   try clear c2
   try clear p2
   try clear c3
   try clear c6
   try clear c13
   try clear hcz10_0
   try clear hcz10_1
   try clear hcz10_2
   try clear hcz10_3
   try clear hcz12_0
   try clear hcz12_1
   try clear hcz12_2
   try clear hcz12_3
   try clear hcz14_0
   try clear hcz14_1
   try clear hcz14_2
   try clear hcz14_3
   try clear hcz16_0
   try clear hcz16_1
   try clear hcz16_2
   try clear hcz16_3
   try clear hfz10_0
   try clear hfz10_1
   try clear hfz10_2
   try clear hfz10_3
   try clear hfz12_0
   try clear hfz12_1
   try clear hfz12_2
   try clear hfz12_3
   try clear hfz14_0
   try clear hfz14_1
   try clear hfz14_2
   try clear hfz14_3
   try clear hfz16_0
   try clear hfz16_1
   try clear hfz16_2
   try clear hfz16_3
   obtain ⟨x3_1, x7_1, rfl, HA, HK1, HO_3, HO_4, HO_5, HO_6, BK277, HB⟩ := hrel
   cases gk with
   | zero => exact absurd HA.out (by simp [spec_MustLog.l0])
   | succ k1 =>
    have H := HA.out
    clear HA
    simp only [spec_MustLog.l0] at H
    by_cases c18 : x7_1 < (t282.length : Int)
    ·rw [if_pos c18] at H
     have c18b0 : decide (x7_1 < (t282.length : Int)) = true := decide_eq_true c18
     clear c18
     by_cases c19 : 0 ≤ x7_1
     ·rw [if_pos c19] at H
      have c19b0 : decide (0 ≤ x7_1) = true := decide_eq_true c19
      clear c19
      replace H := Option.bind_eq_some_iff.mp H
      obtain ⟨t292, A200, H⟩ := H
      replace H : (if t292 = true then (if x3_1.length < 17592186044416 then (spec_MustLog.l0 k1 (x3_1 ++ [rd t282 x7_1]) t282 t285 t288 (wrap64 (x7_1 + 1))) else (none)) else ((spec_HasVar.f k1 t285 (rd t282 x7_1)).bind fun t298 => (if t298 = true then (spec_MustLog.l0 k1 x3_1 t282 t285 t288 (wrap64 (x7_1 + 1))) else (if x3_1.length < 17592186044416 then (spec_MustLog.l0 k1 (x3_1 ++ [rd t282 x7_1]) t282 t285 t288 (wrap64 (x7_1 + 1))) else (none))))) = some r := H
      have A20 := zM A200
      clear A200
      by_cases c21 : t292 = true
      ·subst c21
       have H1 : (if x3_1.length < 17592186044416 then (spec_MustLog.l0 k1 (x3_1 ++ [rd t282 x7_1]) t282 t285 t288 (wrap64 (x7_1 + 1))) else (none)) = some r := by rw [if_pos rfl] at H; exact H
       clear H
       have H := H1
       clear H1
       by_cases c22 : x3_1.length < 17592186044416
       ·rw [if_pos c22] at H
        have LMc22 := zM c22
        clear c22
        obtain ⟨y294, hyq⟩ : ∃ y_ : List Int, y_ = (x3_1 ++ [rd t282 x7_1]) := ⟨_, rfl⟩
        replace H : (spec_MustLog.l0 k1 y294 t282 t285 t288 (wrap64 (x7_1 + 1))) = some r := zh
        have Ny294 := zM hyq
        clear hyq
        have H' := zM H
        clear H
        obtain ⟨Ao23, co23, eo23⟩ := Kd.R_slice HO_4.out
        subst eo23
        have p291 : 0 ≤ (x7_1 : Int) := zd
        have q291 : x7_1 < (t282.length : Int) := zd
        obtain ⟨ad291, e291, hx291_0⟩ := Kd.at_int (z9 HO_4.out).2.2 x7_1 p291 q291
        cases e291
        replace p291 := eq_true p291
        replace q291 := eq_true q291
        obtain ⟨Ao24, co24, eo24⟩ := Kd.R_slice HO_6.out
        subst eo24
        go_wp2_with (first | ((with_reducible refine gate_callee (f := 68) rfl ?_); refine goesL_ (some 32) rfl rfl Try.func68 (by kernel_rfl) rfl #[.slice Ao24 t288.length co24, .int .i64 (rd t282 x7_1)] rfl zg ?_; (with_reducible refine (spec_HasVar.calls k1 _ _ t288 (rd t282 x7_1) true _ ?side1 ?side2 A20.out).mono ?_); (case side1 => repeat (first | exact (z9 HO_6.out).2.2 | (with_reducible refine zF ?_ _) | (with_reducible refine zG ?_ _) | (with_reducible refine zH ?_))); (case side2 => exact (z9 HO_6.out).2.1); rintro e w' ⟨rfl, ⟨nd, rfl⟩⟩; refine ⟨_, rfl, ?_⟩; have p293 : 0 ≤ (x7_1 : Int) := zd; have q293 : x7_1 < (t282.length : Int) := zd; obtain ⟨ad293, e293, hx293_0⟩ := Kd.at_int (z9 HO_4.out).2.2 x7_1 p293 q293; obtain rfl : ad291 = ad293 := (by injection e293); replace p293 := eq_true p293; replace q293 := eq_true q293) | ((with_reducible refine gate_builtin (b := .append) (xs := #[.tmp 42, .tmp 47]) rfl ?_); at_builtin; refine Kd.R_append (Kd.int .i64) (w0 := w) w.heap.size rfl (.tmp 42) (.tmp 47) 24 3 (.int .i64 0) 8 rfl Try.underlying24 info3 rfl (by decide) (by omega) u3 x3_1 (rd t282 x7_1) [.int .i64 (rd t282 x7_1)] (fun k_ => some k_ ≠ (.slice (some ad291) t282.length co23 : Value).ownBlock ∧ some k_ ≠ (v286 : Value).ownBlock ∧ some k_ ≠ (.slice Ao24 t288.length co24 : Value).ownBlock) (fun _ => False) rfl rfl ?aP (fun _ hk => hk.elim) ?aF ?aO ?aB ?aS ?aL ?_; (case aP => exact rfl); (case aB => exact zb); (case aF => exact (fun k_ hk => ⟨Kd.fresh' (Kd.R_lt (by (with_reducible repeat (first | apply zI | apply zJ | apply zK)); exact HO_4.out)) k_ hk, Kd.fresh' (Kd.R_lt (by (with_reducible repeat (first | apply zI | apply zJ | apply zK)); exact HO_5.out)) k_ hk, Kd.fresh' (Kd.R_lt (by (with_reducible repeat (first | apply zI | apply zJ | apply zK)); exact HO_6.out)) k_ hk⟩)); (case aO => exact (by (with_reducible repeat (first | apply zI | apply zJ | apply zK)); exact HO_3.out)); (case aS => exact (zR zb)); (case aL => have := LMc22.out; omega); intro v295 w25 ho hb hg hat; (first | rw [← Ny294.out] at ho | (simp only [Int.reduceToNat] at ho; rw [← Ny294.out] at ho)); have n0_ := zM (Kd.R_after (ok := (fun k_ => some k_ ≠ (v286 : Value).ownBlock ∧ some k_ ≠ (.slice Ao24 t288.length co24 : Value).ownBlock)) (by (with_reducible repeat (first | apply zI | apply zJ | apply zK)); exact z1 HO_4.out (fun _ hk => ⟨⟨hk.2.1, hk.2.2⟩, hk.1⟩)) hg hat); have n1_ := zM (Kd.R_after (ok := (fun k_ => some k_ ≠ (.slice (some ad291) t282.length co23 : Value).ownBlock ∧ some k_ ≠ (.slice Ao24 t288.length co24 : Value).ownBlock)) (by (with_reducible repeat (first | apply zI | apply zJ | apply zK)); exact z1 HO_5.out (fun _ hk => ⟨⟨hk.2.1, hk.2.2⟩, hk.1⟩)) hg hat); have n2_ := zM (Kd.R_after (ok := (fun k_ => some k_ ≠ (.slice (some ad291) t282.length co23 : Value).ownBlock ∧ some k_ ≠ (v286 : Value).ownBlock)) (by (with_reducible repeat (first | apply zI | apply zJ | apply zK)); exact z1 HO_6.out (fun _ hk => ⟨⟨hk.2.1, hk.2.2⟩, hk.1⟩)) hg hat); have n3_ := zM (blk_grown (g := gb277) (o := .cells #[.slice A0_0 l0_0.length c0_0, .int .i64 a0_1, .int .i64 a0_2, .int .i64 a0_3] 47 (0, 0)) zk hg (Kd.R_ne HO_3.out BK277.out (by decide))); have n4_ := zM (hb); have n5_ := zM (ho); clear HO_4; clear HO_5; clear HO_6; clear BK277; clear HB; clear HO_3; have HO_4 := n0_; have HO_5 := n1_; have HO_6 := n2_; have BK277 := n3_; have HB := n4_; have HO296 := n5_; clear n0_ n1_ n2_ n3_ n4_ n5_; clear ho hb hg hat))
        go_roundg k1
        case measure => have := HK1.out; omega
        case rel => exact ⟨(y294), (wrap64 (x7_1 + 1)), zs, H', ⟨by have := HK1.out; omega⟩, ⟨by (with_reducible repeat (first | apply zI | apply zJ | apply zK)); exact HO296.out⟩, ⟨by (with_reducible repeat (first | apply zI | apply zJ | apply zK)); exact z1 HO_4.out (fun _ hk => ⟨hk.2, ⟨hk.1.1, hk.1.2⟩⟩)⟩, ⟨by (with_reducible repeat (first | apply zI | apply zJ | apply zK)); exact z1 HO_5.out (fun _ hk => ⟨hk.2, ⟨hk.1.1, hk.1.2⟩⟩)⟩, ⟨by (with_reducible repeat (first | apply zI | apply zJ | apply zK)); exact z1 HO_6.out (fun _ hk => ⟨hk.2, ⟨hk.1.1, hk.1.2⟩⟩)⟩, ⟨zk⟩, ⟨zb⟩⟩
       ·rw [if_neg c22] at H
        exact absurd H (by simp)
      ·replace c21 := Bool.eq_false_iff.mpr c21
       subst c21
       have H1 : ((spec_HasVar.f k1 t285 (rd t282 x7_1)).bind fun t298 => (if t298 = true then (spec_MustLog.l0 k1 x3_1 t282 t285 t288 (wrap64 (x7_1 + 1))) else (if x3_1.length < 17592186044416 then (spec_MustLog.l0 k1 (x3_1 ++ [rd t282 x7_1]) t282 t285 t288 (wrap64 (x7_1 + 1))) else (none)))) = some r := by rw [if_neg (show ¬ (false = true) by decide)] at H; exact H
       clear H
       have H := H1
       clear H1
       replace H := Option.bind_eq_some_iff.mp H
       obtain ⟨t298, A260, H⟩ := H
       replace H : (if t298 = true then (spec_MustLog.l0 k1 x3_1 t282 t285 t288 (wrap64 (x7_1 + 1))) else (if x3_1.length < 17592186044416 then (spec_MustLog.l0 k1 (x3_1 ++ [rd t282 x7_1]) t282 t285 t288 (wrap64 (x7_1 + 1))) else (none))) = some r := H
       have A26 := zM A260
       clear A260
       by_cases c27 : t298 = true
       ·subst c27
        have H1 : (spec_MustLog.l0 k1 x3_1 t282 t285 t288 (wrap64 (x7_1 + 1))) = some r := by rw [if_pos rfl] at H; exact H
        clear H
        have H := H1
        clear H1
        have H' := zM H
        clear H
        obtain ⟨Ao28, co28, eo28⟩ := Kd.R_slice HO_4.out
        subst eo28
        have p291 : 0 ≤ (x7_1 : Int) := zd
        have q291 : x7_1 < (t282.length : Int) := zd
        obtain ⟨ad291, e291, hx291_0⟩ := Kd.at_int (z9 HO_4.out).2.2 x7_1 p291 q291
        cases e291
        replace p291 := eq_true p291
        replace q291 := eq_true q291
        obtain ⟨Ao29, co29, eo29⟩ := Kd.R_slice HO_6.out
        subst eo29
        go_wp2_with (first | ((with_reducible refine gate_callee (f := 68) rfl ?_); refine goesL_ (some 32) rfl rfl Try.func68 (by kernel_rfl) rfl #[.slice Ao29 t288.length co29, .int .i64 (rd t282 x7_1)] rfl zg ?_; (with_reducible refine (spec_HasVar.calls k1 _ _ t288 (rd t282 x7_1) false _ ?side1 ?side2 A20.out).mono ?_); (case side1 => repeat (first | exact (z9 HO_6.out).2.2 | (with_reducible refine zF ?_ _) | (with_reducible refine zG ?_ _) | (with_reducible refine zH ?_))); (case side2 => exact (z9 HO_6.out).2.1); rintro e w' ⟨rfl, ⟨nd, rfl⟩⟩; refine ⟨_, rfl, ?_⟩; have p297 : 0 ≤ (x7_1 : Int) := zd; have q297 : x7_1 < (t282.length : Int) := zd; obtain ⟨ad297, e297, hx297_0⟩ := Kd.at_int (z9 HO_4.out).2.2 x7_1 p297 q297; obtain rfl : ad291 = ad297 := (by injection e297); replace p297 := eq_true p297; replace q297 := eq_true q297; obtain ⟨Ao30, co30, eo30⟩ := Kd.R_slice HO_5.out; subst eo30) | (go_at_call 68; (with_reducible refine (spec_HasVar.calls k1 _ _ t285 (rd t282 x7_1) true _ ?side1 ?side2 A26.out).mono ?_); (case side1 => repeat (first | exact (z9 HO_5.out).2.2 | (with_reducible refine zF ?_ _) | (with_reducible refine zG ?_ _) | (with_reducible refine zH ?_))); (case side2 => exact (z9 HO_5.out).2.1); rintro e w' ⟨rfl, ⟨nd, rfl⟩⟩))
        go_roundg k1
        case measure => have := HK1.out; omega
        case rel => exact ⟨(x3_1), (wrap64 (x7_1 + 1)), zs, H', ⟨by have := HK1.out; omega⟩, ⟨by (with_reducible repeat (first | apply zI | apply zJ | apply zK)); exact HO_3.out⟩, ⟨by (with_reducible repeat (first | apply zI | apply zJ | apply zK)); exact HO_4.out⟩, ⟨by (with_reducible repeat (first | apply zI | apply zJ | apply zK)); exact HO_5.out⟩, ⟨by (with_reducible repeat (first | apply zI | apply zJ | apply zK)); exact HO_6.out⟩, ⟨zk⟩, ⟨zb⟩⟩
       ·replace c27 := Bool.eq_false_iff.mpr c27
        subst c27
        have H1 : (if x3_1.length < 17592186044416 then (spec_MustLog.l0 k1 (x3_1 ++ [rd t282 x7_1]) t282 t285 t288 (wrap64 (x7_1 + 1))) else (none)) = some r := by rw [if_neg (show ¬ (false = true) by decide)] at H; exact H
        clear H
        have H := H1
        clear H1
        by_cases c31 : x3_1.length < 17592186044416
        ·rw [if_pos c31] at H
         have LMc31 := zM c31
         clear c31
         obtain ⟨y300, hyq⟩ : ∃ y_ : List Int, y_ = (x3_1 ++ [rd t282 x7_1]) := ⟨_, rfl⟩
         replace H : (spec_MustLog.l0 k1 y300 t282 t285 t288 (wrap64 (x7_1 + 1))) = some r := zh
         have Ny300 := zM hyq
         clear hyq
         have H' := zM H
         clear H
         obtain ⟨Ao32, co32, eo32⟩ := Kd.R_slice HO_4.out
         subst eo32
         have p291 : 0 ≤ (x7_1 : Int) := zd
         have q291 : x7_1 < (t282.length : Int) := zd
         obtain ⟨ad291, e291, hx291_0⟩ := Kd.at_int (z9 HO_4.out).2.2 x7_1 p291 q291
         cases e291
         replace p291 := eq_true p291
         replace q291 := eq_true q291
         obtain ⟨Ao33, co33, eo33⟩ := Kd.R_slice HO_6.out
         subst eo33
         go_wp2_with (first | ((with_reducible refine gate_callee (f := 68) rfl ?_); refine goesL_ (some 32) rfl rfl Try.func68 (by kernel_rfl) rfl #[.slice Ao33 t288.length co33, .int .i64 (rd t282 x7_1)] rfl zg ?_; (with_reducible refine (spec_HasVar.calls k1 _ _ t288 (rd t282 x7_1) false _ ?side1 ?side2 A20.out).mono ?_); (case side1 => repeat (first | exact (z9 HO_6.out).2.2 | (with_reducible refine zF ?_ _) | (with_reducible refine zG ?_ _) | (with_reducible refine zH ?_))); (case side2 => exact (z9 HO_6.out).2.1); rintro e w' ⟨rfl, ⟨nd, rfl⟩⟩; refine ⟨_, rfl, ?_⟩; have p297 : 0 ≤ (x7_1 : Int) := zd; have q297 : x7_1 < (t282.length : Int) := zd; obtain ⟨ad297, e297, hx297_0⟩ := Kd.at_int (z9 HO_4.out).2.2 x7_1 p297 q297; obtain rfl : ad291 = ad297 := (by injection e297); replace p297 := eq_true p297; replace q297 := eq_true q297; obtain ⟨Ao34, co34, eo34⟩ := Kd.R_slice HO_5.out; subst eo34) | (go_at_call 68; (with_reducible refine (spec_HasVar.calls k1 _ _ t285 (rd t282 x7_1) false _ ?side1 ?side2 A26.out).mono ?_); (case side1 => repeat (first | exact (z9 HO_5.out).2.2 | (with_reducible refine zF ?_ _) | (with_reducible refine zG ?_ _) | (with_reducible refine zH ?_))); (case side2 => exact (z9 HO_5.out).2.1); rintro e w' ⟨rfl, ⟨nd, rfl⟩⟩; have p299 : 0 ≤ (x7_1 : Int) := zd; have q299 : x7_1 < (t282.length : Int) := zd; obtain ⟨ad299, e299, hx299_0⟩ := Kd.at_int (z9 HO_4.out).2.2 x7_1 p299 q299; obtain rfl : ad291 = ad299 := (by injection e299); replace p299 := eq_true p299; replace q299 := eq_true q299) | ((with_reducible refine gate_builtin (b := .append) (xs := #[.tmp 42, .tmp 47]) rfl ?_); at_builtin; refine Kd.R_append (Kd.int .i64) (w0 := w) w.heap.size rfl (.tmp 42) (.tmp 47) 24 3 (.int .i64 0) 8 rfl Try.underlying24 info3 rfl (by decide) (by omega) u3 x3_1 (rd t282 x7_1) [.int .i64 (rd t282 x7_1)] (fun k_ => some k_ ≠ (.slice (some ad291) t282.length co32 : Value).ownBlock ∧ some k_ ≠ (.slice Ao34 t285.length co34 : Value).ownBlock ∧ some k_ ≠ (.slice Ao33 t288.length co33 : Value).ownBlock) (fun _ => False) rfl rfl ?aP (fun _ hk => hk.elim) ?aF ?aO ?aB ?aS ?aL ?_; (case aP => exact rfl); (case aB => exact zb); (case aF => exact (fun k_ hk => ⟨Kd.fresh' (Kd.R_lt (by (with_reducible repeat (first | apply zI | apply zJ | apply zK)); exact HO_4.out)) k_ hk, Kd.fresh' (Kd.R_lt (by (with_reducible repeat (first | apply zI | apply zJ | apply zK)); exact HO_5.out)) k_ hk, Kd.fresh' (Kd.R_lt (by (with_reducible repeat (first | apply zI | apply zJ | apply zK)); exact HO_6.out)) k_ hk⟩)); (case aO => exact (by (with_reducible repeat (first | apply zI | apply zJ | apply zK)); exact HO_3.out)); (case aS => exact (zR zb)); (case aL => have := LMc31.out; omega); intro v301 w35 ho hb hg hat; (first | rw [← Ny300.out] at ho | (simp only [Int.reduceToNat] at ho; rw [← Ny300.out] at ho)); have n0_ := zM (Kd.R_after (ok := (fun k_ => some k_ ≠ (.slice Ao34 t285.length co34 : Value).ownBlock ∧ some k_ ≠ (.slice Ao33 t288.length co33 : Value).ownBlock)) (by (with_reducible repeat (first | apply zI | apply zJ | apply zK)); exact z1 HO_4.out (fun _ hk => ⟨⟨hk.2.1, hk.2.2⟩, hk.1⟩)) hg hat); have n1_ := zM (Kd.R_after (ok := (fun k_ => some k_ ≠ (.slice (some ad291) t282.length co32 : Value).ownBlock ∧ some k_ ≠ (.slice Ao33 t288.length co33 : Value).ownBlock)) (by (with_reducible repeat (first | apply zI | apply zJ | apply zK)); exact z1 HO_5.out (fun _ hk => ⟨⟨hk.2.1, hk.2.2⟩, hk.1⟩)) hg hat); have n2_ := zM (Kd.R_after (ok := (fun k_ => some k_ ≠ (.slice (some ad291) t282.length co32 : Value).ownBlock ∧ some k_ ≠ (.slice Ao34 t285.length co34 : Value).ownBlock)) (by (with_reducible repeat (first | apply zI | apply zJ | apply zK)); exact z1 HO_6.out (fun _ hk => ⟨⟨hk.2.1, hk.2.2⟩, hk.1⟩)) hg hat); have n3_ := zM (blk_grown (g := gb277) (o := .cells #[.slice A0_0 l0_0.length c0_0, .int .i64 a0_1, .int .i64 a0_2, .int .i64 a0_3] 47 (0, 0)) zk hg (Kd.R_ne HO_3.out BK277.out (by decide))); have n4_ := zM (hb); have n5_ := zM (ho); clear HO_4; clear HO_5; clear HO_6; clear BK277; clear HB; clear HO_3; have HO_4 := n0_; have HO_5 := n1_; have HO_6 := n2_; have BK277 := n3_; have HB := n4_; have HO302 := n5_; clear n0_ n1_ n2_ n3_ n4_ n5_; clear ho hb hg hat))
         go_roundg k1
         case measure => have := HK1.out; omega
         case rel => exact ⟨(y300), (wrap64 (x7_1 + 1)), zs, H', ⟨by have := HK1.out; omega⟩, ⟨by (with_reducible repeat (first | apply zI | apply zJ | apply zK)); exact HO302.out⟩, ⟨by (with_reducible repeat (first | apply zI | apply zJ | apply zK)); exact z1 HO_4.out (fun _ hk => ⟨hk.2, ⟨hk.1.1, hk.1.2⟩⟩)⟩, ⟨by (with_reducible repeat (first | apply zI | apply zJ | apply zK)); exact z1 HO_5.out (fun _ hk => ⟨hk.2, ⟨hk.1.1, hk.1.2⟩⟩)⟩, ⟨by (with_reducible repeat (first | apply zI | apply zJ | apply zK)); exact z1 HO_6.out (fun _ hk => ⟨hk.2, ⟨hk.1.1, hk.1.2⟩⟩)⟩, ⟨zk⟩, ⟨zb⟩⟩
        ·rw [if_neg c31] at H
         exact absurd H (by simp)
     ·rw [if_neg c19] at H
      exact absurd H (by simp)
    ·rw [if_neg c18] at H
     have c18b0 : decide (x7_1 < (t282.length : Int)) = false := decide_eq_false c18
     clear c18
     obtain rfl := Option.some.inj H
     obtain ⟨Ao36, co36, eo36⟩ := Kd.R_slice HO_4.out
     subst eo36
     go_wp2
     go_ret
     exact ⟨_, by first | rfl | (simp [errW_none, errW_some] <;> rfl) | (simp [*, errW_none, errW_some] <;> rfl), by (with_reducible repeat (first | apply zI | apply zJ | apply zK)); exact z1 HO_3.out (fun _ hk => trivial), zb⟩
 ·replace c3 := Bool.eq_false_iff.mpr c3
  subst c3
  have H1 : (some y278) = some r := by rw [if_neg (show ¬ (false = true) by decide)] at H; exact H
  clear H
  have H := H1
  clear H1
  obtain rfl := Option.some.inj H
  go_enter Try.func33, Try.ntmps33
  go_wp2_with (first | ((with_reducible refine gate_dst (N := 1) rfl ?_); refine box_event ?hg (N := 1) ?hd (cs := #[.slice A0_0 l0_0.length c0_0, .int .i64 a0_1, .int .i64 a0_2, .int .i64 a0_3]) (t := 47) ?hr ?_; (case hd => rfl); (case hg => rfl); (case hr => first | (go_simp; done) | (go_simp; rfl)); intro gb277 hg w37 hbox hb; have n0_ := zM (zQ zb hb); have n1_ := zM (hbox); have n2_ := zM ((by rw [hg]; exact (zR zb) : w.heap.size ≤ gb277)); have n3_ := zM ((by rw [hg]; exact (zR zb) : w.heap.size ≤ gb277)); clear HB; have HB := n0_; have BK277 := n1_; have GW277 := n2_; have GE277 := n3_; clear n0_ n1_ n2_ n3_; clear hb hbox hg) | ((with_reducible refine gate_dst (N := 8) rfl ?_); refine Kd.R_lit (Kd.int .i64) _ 3 ?hg (N := 8) ?hd (xs := ([] : List Int)) (inner := []) (ok := fun _ => True) (okp := fun _ => True) ?hr ?hp (fun _ hk => hk) trivial (Below.refl _ _) (Nat.le_refl _) (by simp) ?_; (case hd => rfl); (case hg => rfl); (case hr => first | (go_simp; done) | (go_simp; rfl)); (case hp => exact (Reps.none _ _)); intro v279 w38 ho39 hb hg_ hnew_; clear hg_ hnew_; (first | rw [← Ny278.out] at ho39 | (simp only [Int.reduceToNat] at ho39; rw [← Ny278.out] at ho39)); have n0_ := zM (zf ho39 (zR zb)); have n1_ := zM (z7 (g := gb277) (o := .cells #[.slice A0_0 l0_0.length c0_0, .int .i64 a0_1, .int .i64 a0_2, .int .i64 a0_3] 47 (0, 0)) zk hb); have n2_ := zM (zQ zb hb); clear BK277; clear HB; have HO280 := n0_; have BK277 := n1_; have HB := n2_; clear n0_ n1_ n2_; clear hb ho39; have hcz40_0 := (z5 BK277.out 0).trans rfl; have hcz40_1 := (z5 BK277.out 1).trans rfl; have hcz40_2 := (z5 BK277.out 2).trans rfl; have hcz40_3 := (z5 BK277.out 3).trans rfl; have hfz40_0 := z6 BK277.out 0; have hfz40_1 := z6 BK277.out 1; have hfz40_2 := z6 BK277.out 2; have hfz40_3 := z6 BK277.out 3) | ((with_reducible refine gate_callee (f := 67) rfl ?_); refine goesL_ (some 10) rfl rfl Try.func67 (by kernel_rfl) rfl #[.agg #[.slice A0_0 l0_0.length c0_0, .int .i64 a0_1, .int .i64 a0_2, .int .i64 a0_3]] rfl zg ?_; (with_reducible refine (spec_l08Ok.calls k _ _ l0_0 a0_1 a0_2 a0_3 false _ ?side1 ?side2 A2.out).mono ?_); (case side1 => repeat (first | exact (zX HR0_0.out HB.out) | (with_reducible refine zF ?_ _) | (with_reducible refine zG ?_ _) | (with_reducible refine zH ?_))); (case side2 => exact HC0_0.out); rintro e w41 ⟨rfl, hb⟩; refine ⟨_, rfl, ?_⟩; have n0_ := zM (ze (by (with_reducible repeat (first | apply zI | apply zJ | apply zK)); exact HO280.out) hb); have n1_ := zM (z7 (g := gb277) (o := .cells #[.slice A0_0 l0_0.length c0_0, .int .i64 a0_1, .int .i64 a0_2, .int .i64 a0_3] 47 (0, 0)) zk hb); have n2_ := zM (zQ zb hb); clear HO280; clear BK277; clear HB; have HO280 := n0_; have BK277 := n1_; have HB := n2_; clear n0_ n1_ n2_; (try clear hb); (try clear hk)))
  go_ret
  exact ⟨_, by first | rfl | (simp [errW_none, errW_some] <;> rfl) | (simp [*, errW_none, errW_some] <;> rfl), by (with_reducible repeat (first | apply zI | apply zJ | apply zK)); exact HO280.out, zb⟩

/-! ### impl_hasVar: function 81 -/
def impl_hasVar.f (a0 : Int) : Option (Bool) := if a0 = 1 then (some true) else (some (a0 == 2))
set_option maxHeartbeats 8000000 in
set_option maxRecDepth 100000 in
theorem impl_hasVar.calls (a0 : Int) (r : Bool) (w : World) (h : impl_hasVar.f a0 = some r) :
  Calls Try.prog 81 #[.int .i64 a0] w fun e w' => e = .returned (.bool r) ∧ Drawn0 w w' := by
 have H : (if a0 = 1 then (some true) else (some (a0 == 2))) = some r := h
 clear h
 by_cases c2 : a0 = 1
 ·rw [if_pos c2] at H
  have c2b0 : (a0 == 1) = true := beq_iff_eq.mpr c2
  have c2b1 : (a0 != 1) = false := bne_eq_false_iff_eq.mpr c2
  clear c2
  obtain rfl := Option.some.inj H
  go_enter Try.func81, Try.ntmps81
  go_wp2
  go_ret
  exact ⟨by first | rfl | (simp; done) | (simp [*]; done), by repeat (first | exact Drawn0.refl _ | apply Drawn0.step)⟩
 ·rw [if_neg c2] at H
  have c2b0 : (a0 == 1) = false := beq_eq_false_iff_ne.mpr c2
  have c2b1 : (a0 != 1) = true := bne_iff_ne.mpr c2
  obtain rfl := Option.some.inj H
  go_enter Try.func81, Try.ntmps81
  go_wp2
  go_ret
  exact ⟨by first | rfl | (simp; done) | (simp [*]; done), by repeat (first | exact Drawn0.refl _ | apply Drawn0.step)⟩

/-! ### impl_within: function 94 -/
def impl_within.f (a0 : Int) (a1 : Int) (a2 : Int) : Option (Bool) := if a0 ≥ a1 then (some (decide (a0 ≤ a2))) else (some false)
set_option maxHeartbeats 8000000 in
set_option maxRecDepth 100000 in
theorem impl_within.calls (a0 : Int) (a1 : Int) (a2 : Int) (r : Bool) (w : World) (h : impl_within.f a0 a1 a2 = some r) :
  Calls Try.prog 94 #[.int .i64 a0, .int .i64 a1, .int .i64 a2] w fun e w' => e = .returned (.bool r) ∧ Drawn0 w w' := by
 have H : (if a0 ≥ a1 then (some (decide (a0 ≤ a2))) else (some false)) = some r := h
 clear h
 by_cases c4 : a0 ≥ a1
 ·rw [if_pos c4] at H
  have c4b0 : decide (a1 ≤ a0) = true := decide_eq_true c4
  clear c4
  obtain rfl := Option.some.inj H
  go_enter Try.func94, Try.ntmps94
  go_wp2
  go_ret
  exact ⟨by first | rfl | (simp; done) | (simp [*]; done), by repeat (first | exact Drawn0.refl _ | apply Drawn0.step)⟩
 ·rw [if_neg c4] at H
  have c4b0 : decide (a1 ≤ a0) = false := decide_eq_false c4
  clear c4
  obtain rfl := Option.some.inj H
  go_enter Try.func94, Try.ntmps94
  go_wp2
  go_ret
  exact ⟨by first | rfl | (simp; done) | (simp [*]; done), by repeat (first | exact Drawn0.refl _ | apply Drawn0.step)⟩

/-! ### impl_OperandOk: function 106 -/
def impl_OperandOk.f (a0 : Int) : Option (Bool) := (impl_within.f a0 (-8) 999).bind fun t303 => (some t303)
set_option maxHeartbeats 8000000 in
set_option maxRecDepth 100000 in
theorem impl_OperandOk.calls (a0 : Int) (r : Bool) (w : World) (h : impl_OperandOk.f a0 = some r) :
  Calls Try.prog 106 #[.int .i64 a0] w fun e w' => e = .returned (.bool r) ∧ Drawn0 w w' := by
 have H : ((impl_within.f a0 (-8) 999).bind fun t303 => (some t303)) = some r := h
 clear h
 replace H := Option.bind_eq_some_iff.mp H
 obtain ⟨t303, A20, H⟩ := H
 replace H : (some t303) = some r := H
 have A2 := zM A20
 clear A20
 obtain rfl := Option.some.inj H
 go_enter Try.func106, Try.ntmps106
 go_wp2_with (first | ((with_reducible refine gate_callee (f := 94) rfl ?_); refine goesL_ (some 4) rfl rfl Try.func94 (by kernel_rfl) rfl #[.int .i64 a0, .int .i64 (-8), .int .i64 999] rfl zg ?_; (with_reducible refine (impl_within.calls a0 (-8) 999 t303 _ A2.out).mono ?_); rintro e w' ⟨rfl, ⟨nd, rfl⟩⟩; refine ⟨_, rfl, ?_⟩))
 go_ret
 exact ⟨by first | rfl | (simp; done) | (simp [*]; done), by repeat (first | exact Drawn0.refl _ | apply Drawn0.step)⟩

/-! ### impl_ExprOk: function 90 -/
def impl_ExprOk.f (a0_0 : Int) (a0_1 : Int) (a0_2 : Int) : Option (Bool) := (impl_within.f a0_0 1 7).bind fun t305 => (if t305 = true then ((impl_OperandOk.f a0_1).bind fun t306 => (if t306 = true then ((impl_OperandOk.f a0_2).bind fun t307 => (some t307)) else (some false))) else (some false))
set_option maxHeartbeats 8000000 in
set_option maxRecDepth 100000 in
theorem impl_ExprOk.calls (a0_0 : Int) (a0_1 : Int) (a0_2 : Int) (r : Bool) (w : World) (h : impl_ExprOk.f a0_0 a0_1 a0_2 = some r) :
  Calls Try.prog 90 #[.agg #[.int .i64 a0_0, .int .i64 a0_1, .int .i64 a0_2]] w fun e w' => e = .returned (.bool r) ∧ Below w.heap.size w w' := by
 have hu37 := Try.underlying37
 have HB := zM (Below.refl w.heap.size w)
 have H : ((impl_within.f a0_0 1 7).bind fun t305 => (if t305 = true then ((impl_OperandOk.f a0_1).bind fun t306 => (if t306 = true then ((impl_OperandOk.f a0_2).bind fun t307 => (some t307)) else (some false))) else (some false))) = some r := h
 clear h
 replace H := Option.bind_eq_some_iff.mp H
 obtain ⟨t305, A20, H⟩ := H
 replace H : (if t305 = true then ((impl_OperandOk.f a0_1).bind fun t306 => (if t306 = true then ((impl_OperandOk.f a0_2).bind fun t307 => (some t307)) else (some false))) else (some false)) = some r := H
 have A2 := zM A20
 clear A20
 by_cases c3 : t305 = true
 ·subst c3
  have H1 : ((impl_OperandOk.f a0_1).bind fun t306 => (if t306 = true then ((impl_OperandOk.f a0_2).bind fun t307 => (some t307)) else (some false))) = some r := by rw [if_pos rfl] at H; exact H
  clear H
  have H := H1
  clear H1
  replace H := Option.bind_eq_some_iff.mp H
  obtain ⟨t306, A40, H⟩ := H
  replace H : (if t306 = true then ((impl_OperandOk.f a0_2).bind fun t307 => (some t307)) else (some false)) = some r := H
  have A4 := zM A40
  clear A40
  by_cases c5 : t306 = true
  ·subst c5
   have H1 : ((impl_OperandOk.f a0_2).bind fun t307 => (some t307)) = some r := by rw [if_pos rfl] at H; exact H
   clear H
   have H := H1
   clear H1
   replace H := Option.bind_eq_some_iff.mp H
   obtain ⟨t307, A60, H⟩ := H
   replace H : (some t307) = some r := H
   have A6 := zM A60
   clear A60
   obtain rfl := Option.some.inj H
   go_enter Try.func90, Try.ntmps90
   go_wp2_with (first | ((with_reducible refine gate_dst (N := 1) rfl ?_); refine box_event ?hg (N := 1) ?hd (cs := #[.int .i64 a0_0, .int .i64 a0_1, .int .i64 a0_2]) (t := 37) ?hr ?_; (case hd => rfl); (case hg => rfl); (case hr => first | (go_simp; done) | (go_simp; rfl)); intro gb304 hg w7 hbox hb; have n0_ := zM (zQ zb hb); have n1_ := zM (hbox); have n2_ := zM ((by rw [hg]; exact (zR zb) : w.heap.size ≤ gb304)); have n3_ := zM ((by rw [hg]; exact (zR zb) : w.heap.size ≤ gb304)); clear HB; have HB := n0_; have BK304 := n1_; have GW304 := n2_; have GE304 := n3_; clear n0_ n1_ n2_ n3_; clear hb hbox hg; have hcz8_0 := (z5 BK304.out 0).trans rfl; have hcz8_1 := (z5 BK304.out 1).trans rfl; have hcz8_2 := (z5 BK304.out 2).trans rfl; have hfz8_0 := z6 BK304.out 0; have hfz8_1 := z6 BK304.out 1; have hfz8_2 := z6 BK304.out 2) | ((with_reducible refine gate_callee (f := 94) rfl ?_); refine goesL_ (some 5) rfl rfl Try.func94 (by kernel_rfl) rfl #[.int .i64 a0_0, .int .i64 1, .int .i64 7] rfl zg ?_; (with_reducible refine (impl_within.calls a0_0 1 7 true _ A2.out).mono ?_); rintro e w' ⟨rfl, ⟨nd, rfl⟩⟩; refine ⟨_, rfl, ?_⟩) | (go_at_call 106; (with_reducible refine (impl_OperandOk.calls a0_1 true _ A4.out).mono ?_); rintro e w' ⟨rfl, ⟨nd, rfl⟩⟩) | (go_at_call 106; (with_reducible refine (impl_OperandOk.calls a0_2 t307 _ A6.out).mono ?_); rintro e w' ⟨rfl, ⟨nd, rfl⟩⟩))
   go_ret
   exact ⟨by first | rfl | (simp [errW_none, errW_some] <;> rfl) | (simp [*, errW_none, errW_some] <;> rfl), zb⟩
  ·replace c5 := Bool.eq_false_iff.mpr c5
   subst c5
   have H1 : (some false) = some r := by rw [if_neg (show ¬ (false = true) by decide)] at H; exact H
   clear H
   have H := H1
   clear H1
   obtain rfl := Option.some.inj H
   go_enter Try.func90, Try.ntmps90
   go_wp2_with (first | ((with_reducible refine gate_dst (N := 1) rfl ?_); refine box_event ?hg (N := 1) ?hd (cs := #[.int .i64 a0_0, .int .i64 a0_1, .int .i64 a0_2]) (t := 37) ?hr ?_; (case hd => rfl); (case hg => rfl); (case hr => first | (go_simp; done) | (go_simp; rfl)); intro gb304 hg w9 hbox hb; have n0_ := zM (zQ zb hb); have n1_ := zM (hbox); have n2_ := zM ((by rw [hg]; exact (zR zb) : w.heap.size ≤ gb304)); have n3_ := zM ((by rw [hg]; exact (zR zb) : w.heap.size ≤ gb304)); clear HB; have HB := n0_; have BK304 := n1_; have GW304 := n2_; have GE304 := n3_; clear n0_ n1_ n2_ n3_; clear hb hbox hg; have hcz10_0 := (z5 BK304.out 0).trans rfl; have hcz10_1 := (z5 BK304.out 1).trans rfl; have hcz10_2 := (z5 BK304.out 2).trans rfl; have hfz10_0 := z6 BK304.out 0; have hfz10_1 := z6 BK304.out 1; have hfz10_2 := z6 BK304.out 2) | ((with_reducible refine gate_callee (f := 94) rfl ?_); refine goesL_ (some 5) rfl rfl Try.func94 (by kernel_rfl) rfl #[.int .i64 a0_0, .int .i64 1, .int .i64 7] rfl zg ?_; (with_reducible refine (impl_within.calls a0_0 1 7 true _ A2.out).mono ?_); rintro e w' ⟨rfl, ⟨nd, rfl⟩⟩; refine ⟨_, rfl, ?_⟩) | (go_at_call 106; (with_reducible refine (impl_OperandOk.calls a0_1 false _ A4.out).mono ?_); rintro e w' ⟨rfl, ⟨nd, rfl⟩⟩))
   go_ret
   exact ⟨by first | rfl | (simp [errW_none, errW_some] <;> rfl) | (simp [*, errW_none, errW_some] <;> rfl), zb⟩
 ·replace c3 := Bool.eq_false_iff.mpr c3
  subst c3
  have H1 : (some false) = some r := by rw [if_neg (show ¬ (false = true) by decide)] at H; exact H
  clear H
  have H := H1
  clear H1
  obtain rfl := Option.some.inj H
  go_enter Try.func90, Try.ntmps90
  go_wp2_with (first | ((with_reducible refine gate_dst (N := 1) rfl ?_); refine box_event ?hg (N := 1) ?hd (cs := #[.int .i64 a0_0, .int .i64 a0_1, .int .i64 a0_2]) (t := 37) ?hr ?_; (case hd => rfl); (case hg => rfl); (case hr => first | (go_simp; done) | (go_simp; rfl)); intro gb304 hg w11 hbox hb; have n0_ := zM (zQ zb hb); have n1_ := zM (hbox); have n2_ := zM ((by rw [hg]; exact (zR zb) : w.heap.size ≤ gb304)); have n3_ := zM ((by rw [hg]; exact (zR zb) : w.heap.size ≤ gb304)); clear HB; have HB := n0_; have BK304 := n1_; have GW304 := n2_; have GE304 := n3_; clear n0_ n1_ n2_ n3_; clear hb hbox hg; have hcz12_0 := (z5 BK304.out 0).trans rfl; have hcz12_1 := (z5 BK304.out 1).trans rfl; have hcz12_2 := (z5 BK304.out 2).trans rfl; have hfz12_0 := z6 BK304.out 0; have hfz12_1 := z6 BK304.out 1; have hfz12_2 := z6 BK304.out 2) | ((with_reducible refine gate_callee (f := 94) rfl ?_); refine goesL_ (some 5) rfl rfl Try.func94 (by kernel_rfl) rfl #[.int .i64 a0_0, .int .i64 1, .int .i64 7] rfl zg ?_; (with_reducible refine (impl_within.calls a0_0 1 7 false _ A2.out).mono ?_); rintro e w' ⟨rfl, ⟨nd, rfl⟩⟩; refine ⟨_, rfl, ?_⟩))
  go_ret
  exact ⟨by first | rfl | (simp [errW_none, errW_some] <;> rfl) | (simp [*, errW_none, errW_some] <;> rfl), zb⟩

/-! ### impl_hasExpr: function 91 -/
def impl_hasExpr.f (a0 : Int) : Option (Bool) := if a0 = 1 then (some true) else (if a0 = 3 then (some true) else (some (a0 == 4)))
set_option maxHeartbeats 8000000 in
set_option maxRecDepth 100000 in
theorem impl_hasExpr.calls (a0 : Int) (r : Bool) (w : World) (h : impl_hasExpr.f a0 = some r) :
  Calls Try.prog 91 #[.int .i64 a0] w fun e w' => e = .returned (.bool r) ∧ Drawn0 w w' := by
 have H : (if a0 = 1 then (some true) else (if a0 = 3 then (some true) else (some (a0 == 4)))) = some r := h
 clear h
 by_cases c2 : a0 = 1
 ·rw [if_pos c2] at H
  have c2b0 : (a0 == 1) = true := beq_iff_eq.mpr c2
  have c2b1 : (a0 != 1) = false := bne_eq_false_iff_eq.mpr c2
  clear c2
  obtain rfl := Option.some.inj H
  go_enter Try.func91, Try.ntmps91
  go_wp2
  go_ret
  exact ⟨by first | rfl | (simp; done) | (simp [*]; done), by repeat (first | exact Drawn0.refl _ | apply Drawn0.step)⟩
 ·rw [if_neg c2] at H
  have c2b0 : (a0 == 1) = false := beq_eq_false_iff_ne.mpr c2
  have c2b1 : (a0 != 1) = true := bne_iff_ne.mpr c2
  by_cases c3 : a0 = 3
  ·rw [if_pos c3] at H
   have c3b0 : (a0 == 3) = true := beq_iff_eq.mpr c3
   have c3b1 : (a0 != 3) = false := bne_eq_false_iff_eq.mpr c3
   clear c3
   obtain rfl := Option.some.inj H
   go_enter Try.func91, Try.ntmps91
   go_wp2
   go_ret
   exact ⟨by first | rfl | (simp; done) | (simp [*]; done), by repeat (first | exact Drawn0.refl _ | apply Drawn0.step)⟩
  ·rw [if_neg c3] at H
   have c3b0 : (a0 == 3) = false := beq_eq_false_iff_ne.mpr c3
   have c3b1 : (a0 != 3) = true := bne_iff_ne.mpr c3
   obtain rfl := Option.some.inj H
   go_enter Try.func91, Try.ntmps91
   go_wp2
   go_ret
   exact ⟨by first | rfl | (simp; done) | (simp [*]; done), by repeat (first | exact Drawn0.refl _ | apply Drawn0.step)⟩

/-! ### impl_isVar: function 99 -/
def impl_isVar.f (a0 : Int) : Option (Bool) := (impl_within.f a0 0 7).bind fun t308 => (some t308)
set_option maxHeartbeats 8000000 in
set_option maxRecDepth 100000 in
theorem impl_isVar.calls (a0 : Int) (r : Bool) (w : World) (h : impl_isVar.f a0 = some r) :
  Calls Try.prog 99 #[.int .i64 a0] w fun e w' => e = .returned (.bool r) ∧ Drawn0 w w' := by
 have H : ((impl_within.f a0 0 7).bind fun t308 => (some t308)) = some r := h
 clear h
 replace H := Option.bind_eq_some_iff.mp H
 obtain ⟨t308, A20, H⟩ := H
 replace H : (some t308) = some r := H
 have A2 := zM A20
 clear A20
 obtain rfl := Option.some.inj H
 go_enter Try.func99, Try.ntmps99
 go_wp2_with (first | ((with_reducible refine gate_callee (f := 94) rfl ?_); refine goesL_ (some 4) rfl rfl Try.func94 (by kernel_rfl) rfl #[.int .i64 a0, .int .i64 0, .int .i64 7] rfl zg ?_; (with_reducible refine (impl_within.calls a0 0 7 t308 _ A2.out).mono ?_); rintro e w' ⟨rfl, ⟨nd, rfl⟩⟩; refine ⟨_, rfl, ?_⟩))
 go_ret
 exact ⟨by first | rfl | (simp; done) | (simp [*]; done), by repeat (first | exact Drawn0.refl _ | apply Drawn0.step)⟩

/-! ### impl_isSensor: function 100 -/
def impl_isSensor.f (a0 : Int) : Option (Bool) := (impl_within.f a0 0 3).bind fun t309 => (some t309)
set_option maxHeartbeats 8000000 in
set_option maxRecDepth 100000 in
theorem impl_isSensor.calls (a0 : Int) (r : Bool) (w : World) (h : impl_isSensor.f a0 = some r) :
  Calls Try.prog 100 #[.int .i64 a0] w fun e w' => e = .returned (.bool r) ∧ Drawn0 w w' := by
 have H : ((impl_within.f a0 0 3).bind fun t309 => (some t309)) = some r := h
 clear h
 replace H := Option.bind_eq_some_iff.mp H
 obtain ⟨t309, A20, H⟩ := H
 replace H : (some t309) = some r := H
 have A2 := zM A20
 clear A20
 obtain rfl := Option.some.inj H
 go_enter Try.func100, Try.ntmps100
 go_wp2_with (first | ((with_reducible refine gate_callee (f := 94) rfl ?_); refine goesL_ (some 4) rfl rfl Try.func94 (by kernel_rfl) rfl #[.int .i64 a0, .int .i64 0, .int .i64 3] rfl zg ?_; (with_reducible refine (impl_within.calls a0 0 3 t309 _ A2.out).mono ?_); rintro e w' ⟨rfl, ⟨nd, rfl⟩⟩; refine ⟨_, rfl, ?_⟩))
 go_ret
 exact ⟨by first | rfl | (simp; done) | (simp [*]; done), by repeat (first | exact Drawn0.refl _ | apply Drawn0.step)⟩

end Go.Proofs.Ytlhcofkandeepaa.PFnExactMustLog
