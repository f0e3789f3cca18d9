/- Walks of the functions that a statement reaches, written by a program (the printing program, mended): no condition. -/
import Derived.Test.YtcpmkcidehhbiaaGreatDoorPFnExactParseProgramx0
import Derived.Test.YtcpmkcidehhbiaaGreatDoorPFnExactParseProgramx3
import Derived.Test.YtcpmkcidehhbiaaGreatDoorPFnExactParseProgramx4
import Derived.Test.YtcpmkcidehhbiaaGreatDoorPFnExactParseProgramx6
namespace Go.Proofs.YtcpmkcidehhbiaaGreatDoor.PFnExactParseProgram
open Go.RowKit Go.Proofs.YtcpmkcidehhbiaaGreatDoorW.PrintWords Go.Proofs.YtcpmkcidehhbiaaGreatDoorW.PrintLast Go.Proofs.YtcpmkcidehhbiaaGreatDoorW.PrintMore
attribute [local go_sem] max2_int min2_int max_two min_two max_three min_three max_four min_four
set_option linter.unusedVariables false
set_option maxRecDepth 100000
set_option maxHeartbeats 8000000
set_option linter.unusedSimpArgs false
mutual
def spec_BlockOk.l0 : Nat → List (S35) → Int → Int → Option (Bool)
 | 0, _, _, _ => none
 | k + 1, x0, x3, x4 => if x4 < (x0.length : Int) then (if 0 ≤ x4 then ((spec_StmtOk.f k ((rd_T35 x0 x4).f0) ((rd_T35 x0 x4).f1) ((rd_T35 x0 x4).f2) ((rd_T35 x0 x4).f3.f0) ((rd_T35 x0 x4).f3.f1) ((rd_T35 x0 x4).f3.f2)).bind fun t209 => (if t209 = true then (if ((rd_T35 x0 x4).f0) = 4 then (spec_BlockOk.j1 k x0 x3 x4 ((rd_T35 x0 x4).f0) (((rd_T35 x0 x4).f0) == 4)) else (spec_BlockOk.j1 k x0 x3 x4 ((rd_T35 x0 x4).f0) (((rd_T35 x0 x4).f0) == 5))) else (some false))) else (none)) else (if x3 = 0 then (some (decide ((x0.length : Int) ≤ 24))) else (some false))
def spec_BlockOk.j1 : Nat → List (S35) → Int → Int → Int → Bool → Option (Bool)
 | 0, _, _, _, _, _ => none
 | k + 1, x0, x3, x4, x21, x22 => if x22 = true then ((spec_l01In.f (wrap64 (x3 + 1)) 0 3).bind fun t211 => (if t211 = true then (spec_BlockOk.l0 k x0 (wrap64 (x3 + 1)) (wrap64 (x4 + 1))) else (some false))) else (if x21 = 6 then ((spec_l01In.f (wrap64 (x3 - 1)) 0 3).bind fun t212 => (if t212 = true then (spec_BlockOk.l0 k x0 (wrap64 (x3 - 1)) (wrap64 (x4 + 1))) else (some false))) else ((spec_l01In.f x3 0 3).bind fun t213 => (if t213 = true then (spec_BlockOk.l0 k x0 x3 (wrap64 (x4 + 1))) else (some false))))
end
def spec_BlockOk.f (k : Nat) (l0 : List (S35)) : Option (Bool) := spec_BlockOk.l0 k l0 0 0
theorem spec_BlockOk.mono_l : ∀ k, (∀ y0 y1 y2, LeO (spec_BlockOk.l0 k y0 y1 y2) (spec_BlockOk.l0 (k + 1) y0 y1 y2)) ∧ (∀ y0 y1 y2 y3 y4, LeO (spec_BlockOk.j1 k y0 y1 y2 y3 y4) (spec_BlockOk.j1 (k + 1) y0 y1 y2 y3 y4))
 | 0 => ⟨fun _ _ _ r h => by simp [spec_BlockOk.l0] at h, fun _ _ _ _ _ r h => by simp [spec_BlockOk.j1] at h⟩
 | k + 1 => by
  obtain ⟨ih0, ih1⟩ := spec_BlockOk.mono_l k
  refine ⟨?_, ?_⟩
  intro y0 y1 y2; unfold spec_BlockOk.l0; rotate_left; intro y0 y1 y2 y3 y4; unfold spec_BlockOk.j1; rotate_left
  all_goals repeat' first | (with_reducible first | exact ih0 _ _ _ | exact ih1 _ _ _ _ _ | exact spec_StmtOk.mono _ _ _ _ _ _ _ | exact LeO.refl _ | exact LeO.none _ | refine LeO.ite ?_ ?_ | refine LeO.bind ?_ (fun _ => ?_)) | exact ih0 _ _ _ | exact ih1 _ _ _ _ _ | exact spec_StmtOk.mono _ _ _ _ _ _ _ | exact LeO.none _ | refine LeO.ite ?_ ?_ | refine LeO.bind ?_ (fun _ => ?_)
theorem spec_BlockOk.mono : ∀ a0 k, LeO (spec_BlockOk.f k a0) (spec_BlockOk.f (k + 1) a0) := by
 intro a0 k
 obtain ⟨ih0, ih1⟩ := spec_BlockOk.mono_l k
 unfold spec_BlockOk.f
 repeat' first | (with_reducible first | exact ih0 _ _ _ | exact ih1 _ _ _ _ _ | exact spec_StmtOk.mono _ _ _ _ _ _ _ | exact LeO.refl _ | exact LeO.none _ | refine LeO.ite ?_ ?_ | refine LeO.bind ?_ (fun _ => ?_)) | exact ih0 _ _ _ | exact ih1 _ _ _ _ _ | exact spec_StmtOk.mono _ _ _ _ _ _ _ | exact LeO.none _ | refine LeO.ite ?_ ?_ | refine LeO.bind ?_ (fun _ => ?_)
theorem spec_BlockOk.calls (k : Nat) (A0 : Option Addr) (c0 : Nat) (l0 : List (S35)) (r : Bool) (w : World) (hr0 : Kd.C k35 w A0 l0.length l0) (hc0 : l0.length ≤ c0) (h : spec_BlockOk.f k l0 = some r) :
  Calls Tryz.prog 29 #[.slice A0 l0.length c0] w fun e w' => e = .returned (.bool r) ∧ Below w.heap.size w w' := by
 have hu35 := Tryz.underlying35
 have HR0 := zM hr0
 have HC0 := zM hc0
 clear hr0 hc0
 have HB := zM (Below.refl w.heap.size w)
 have H : (spec_BlockOk.l0 k l0 0 0) = some r := h
 clear h
 have H' := zM H
 clear H
 go_enter Tryz.func29, Tryz.ntmps29
 go_wp2
 go_loopg [3, 4] k (fun kq v3 v4 w' => ∃ (x3_1 : Int) (x4_1 : Int), v3 = .int .i64 x3_1 ∧ v4 = .int .i64 x4_1 ∧ Aside0 (spec_BlockOk.l0 kq l0 x3_1 x4_1 = some r) ∧ Aside0 (kq ≤ k) ∧ Aside0 (Below w.heap.size w w'))
 case atStart => exact ⟨(0), (0), zs, zs, H', ⟨Nat.le_refl _⟩, ⟨zb⟩⟩
 case round =>
  clear H'
  obtain ⟨x3_1, x4_1, rfl, rfl, HA, HK1, HB⟩ := hrel
  cases gk with
  | zero => exact absurd HA.out (by simp [spec_BlockOk.l0])
  | succ k1 =>
   have H := HA.out
   clear HA
   simp only [spec_BlockOk.l0] at H
   by_cases c2 : x4_1 < (l0.length : Int)
   ·rw [if_pos c2] at H
    have c2b0 : decide (x4_1 < (l0.length : Int)) = true := decide_eq_true c2
    clear c2
    by_cases c3 : 0 ≤ x4_1
    ·rw [if_pos c3] at H
     have c3b0 : decide (0 ≤ x4_1) = true := decide_eq_true c3
     clear c3
     replace H := Option.bind_eq_some_iff.mp H
     obtain ⟨t209, A40, H⟩ := H
     replace H : (if t209 = true then (if ((rd_T35 l0 x4_1).f0) = 4 then (spec_BlockOk.j1 k1 l0 x3_1 x4_1 ((rd_T35 l0 x4_1).f0) (((rd_T35 l0 x4_1).f0) == 4)) else (spec_BlockOk.j1 k1 l0 x3_1 x4_1 ((rd_T35 l0 x4_1).f0) (((rd_T35 l0 x4_1).f0) == 5))) else (some false)) = some r := H
     have A4 := zM A40
     clear A40
     by_cases c5 : t209 = true
     ·subst c5
      have H1 : (if ((rd_T35 l0 x4_1).f0) = 4 then (spec_BlockOk.j1 k1 l0 x3_1 x4_1 ((rd_T35 l0 x4_1).f0) (((rd_T35 l0 x4_1).f0) == 4)) else (spec_BlockOk.j1 k1 l0 x3_1 x4_1 ((rd_T35 l0 x4_1).f0) (((rd_T35 l0 x4_1).f0) == 5))) = some r := by rw [if_pos rfl] at H; exact H
      clear H
      have H := H1
      clear H1
      have HC6 := zM H
      clear H
      have p208 : 0 ≤ (x4_1 : Int) := zd
      have q208 : x4_1 < (l0.length : Int) := zd
      obtain ⟨ad208, e208, hx208_0, hx208_1, hx208_2, hx208_3, hx208_4, hx208_5⟩ := at_T35 HR0.out x4_1 p208 q208
      cases e208
      replace hx208_0 := (HB.out.cell (zm w _ hx208_0)).trans hx208_0
      replace hx208_1 := (HB.out.cell (zm w _ hx208_1)).trans hx208_1
      replace hx208_2 := (HB.out.cell (zm w _ hx208_2)).trans hx208_2
      replace hx208_3 := (HB.out.cell (zm w _ hx208_3)).trans hx208_3
      replace hx208_4 := (HB.out.cell (zm w _ hx208_4)).trans hx208_4
      replace hx208_5 := (HB.out.cell (zm w _ hx208_5)).trans hx208_5
      replace p208 := eq_true p208
      replace q208 := eq_true q208
      go_upto_if 22 with (first | ((with_reducible refine gate_callee (f := 27) rfl ?_); refine goesL_ (some 15) rfl rfl Tryz.func27 (by kernel_rfl) rfl #[.agg #[.int .i64 ((rd_T35 l0 x4_1).f0), .int .i64 ((rd_T35 l0 x4_1).f1), .int .i64 ((rd_T35 l0 x4_1).f2), .int .i64 ((rd_T35 l0 x4_1).f3.f0), .int .i64 ((rd_T35 l0 x4_1).f3.f1), .int .i64 ((rd_T35 l0 x4_1).f3.f2)]] rfl zg ?_; (with_reducible refine (spec_StmtOk.calls k1 ((rd_T35 l0 x4_1).f0) ((rd_T35 l0 x4_1).f1) ((rd_T35 l0 x4_1).f2) ((rd_T35 l0 x4_1).f3.f0) ((rd_T35 l0 x4_1).f3.f1) ((rd_T35 l0 x4_1).f3.f2) true _ A4.out).mono ?_); rintro e w7 ⟨rfl, hb⟩; refine ⟨_, rfl, ?_⟩; have n0_ := zM (zQ zb hb); clear HB; have HB := n0_; clear n0_; (try clear hb); have p210 : 0 ≤ (x4_1 : Int) := zd; have q210 : x4_1 < (l0.length : Int) := zd; obtain ⟨ad210, e210, hx210_0, hx210_1, hx210_2, hx210_3, hx210_4, hx210_5⟩ := at_T35 HR0.out x4_1 p210 q210; obtain rfl : ad208 = ad210 := (by injection e210); replace hx210_0 := (HB.out.cell (zm w _ hx210_0)).trans hx210_0; replace hx210_1 := (HB.out.cell (zm w _ hx210_1)).trans hx210_1; replace hx210_2 := (HB.out.cell (zm w _ hx210_2)).trans hx210_2; replace hx210_3 := (HB.out.cell (zm w _ hx210_3)).trans hx210_3; replace hx210_4 := (HB.out.cell (zm w _ hx210_4)).trans hx210_4; replace hx210_5 := (HB.out.cell (zm w _ hx210_5)).trans hx210_5; replace p210 := eq_true p210; replace q210 := eq_true q210))
      (try simp only [Act.put, List.setIfInBounds_toArray, List.set_cons_zero, List.set_cons_succ])
      go_cut [22] (fun v22 wc => ∃ (kq : Nat) (x22_5 : Bool), v22 = .bool x22_5 ∧ Aside0 (spec_BlockOk.j1 kq l0 x3_1 x4_1 ((rd_T35 l0 x4_1).f0) x22_5 = some r) ∧ Aside0 (kq ≤ k1) ∧ Aside0 (Below w.heap.size w wc))
      case first =>
       have H := HC6.out
       clear HC6
       by_cases c8 : ((rd_T35 l0 x4_1).f0) = 4
       ·rw [if_pos c8] at H
        have c8b0 : (((rd_T35 l0 x4_1).f0) == 4) = true := beq_iff_eq.mpr c8
        have c8b1 : (((rd_T35 l0 x4_1).f0) != 4) = false := bne_eq_false_iff_eq.mpr c8
        clear c8
        (first | rw [c8b0] | (simp only [i64_w, i32_w]; rw [c8b0]) | skip)
        have H' := zM H
        clear H
        go_wp2
        go_meet
        case rel => exact ⟨_, ((((rd_T35 l0 x4_1).f0) == 4)), zs, H', ⟨by have := HK1.out; first | omega | exact Nat.le_refl _⟩, ⟨zb⟩⟩
       rw [if_neg c8] at H
       have c8b0 : (((rd_T35 l0 x4_1).f0) == 4) = false := beq_eq_false_iff_ne.mpr c8
       have c8b1 : (((rd_T35 l0 x4_1).f0) != 4) = true := bne_iff_ne.mpr c8
       (first | rw [c8b0] | (simp only [i64_w, i32_w]; rw [c8b0]) | skip)
       have H' := zM H
       clear H
       go_wp2
       go_meet
       case rel => exact ⟨_, ((((rd_T35 l0 x4_1).f0) == 5)), zs, H', ⟨by have := HK1.out; first | omega | exact Nat.le_refl _⟩, ⟨zb⟩⟩
      case rest =>
       clear HC6
       try clear c2
       try clear c2b0
       try clear p2
       try clear q2
       try clear hx2
       try clear c3
       try clear c3b0
       try clear c5
       try clear c8
       try clear c8b0
       try clear c8b1
       try clear hx208_0
       try clear hx208_1
       try clear hx208_2
       try clear hx208_3
       try clear hx208_4
       try clear hx208_5
       try clear hx210_0
       try clear hx210_1
       try clear hx210_2
       try clear hx210_3
       try clear hx210_4
       try clear hx210_5
       try clear p208
       try clear p210
       try clear q208
       try clear q210
       obtain ⟨kq, x22_5, rfl, HA, HJ5, HB⟩ := hcut
       cases kq with
       | zero => exact absurd HA.out (by simp [spec_BlockOk.j1])
       | succ kj5 =>
        have H := HA.out
        clear HA
        simp only [spec_BlockOk.j1] at H
        by_cases c9 : x22_5 = true
        ·subst c9
         have H1 : ((spec_l01In.f (wrap64 (x3_1 + 1)) 0 3).bind fun t211 => (if t211 = true then (spec_BlockOk.l0 kj5 l0 (wrap64 (x3_1 + 1)) (wrap64 (x4_1 + 1))) else (some false))) = some r := by rw [if_pos rfl] at H; exact H
         clear H
         have H := H1
         clear H1
         replace H := Option.bind_eq_some_iff.mp H
         obtain ⟨t211, A100, H⟩ := H
         replace H : (if t211 = true then (spec_BlockOk.l0 kj5 l0 (wrap64 (x3_1 + 1)) (wrap64 (x4_1 + 1))) else (some false)) = some r := H
         have A10 := zM A100
         clear A100
         by_cases c11 : t211 = true
         ·subst c11
          have H1 : (spec_BlockOk.l0 kj5 l0 (wrap64 (x3_1 + 1)) (wrap64 (x4_1 + 1))) = some r := by rw [if_pos rfl] at H; exact H
          clear H
          have H := H1
          clear H1
          have H' := zM H
          clear H
          go_wp2_with (first | ((with_reducible refine gate_callee (f := 25) rfl ?_); refine goesL_ (some 32) rfl rfl Tryz.func25 (by kernel_rfl) rfl #[.int .i64 (wrap64 (x3_1 + 1)), .int .i64 0, .int .i64 3] rfl zg ?_; (with_reducible refine (spec_l01In.calls (wrap64 (x3_1 + 1)) 0 3 true _ A10.out).mono ?_); rintro e w' ⟨rfl, ⟨nd, rfl⟩⟩; refine ⟨_, rfl, ?_⟩))
          go_roundg kj5
          case measure => have := HK1.out; have := HJ5.out; omega
          case rel => exact ⟨(wrap64 (x3_1 + 1)), (wrap64 (x4_1 + 1)), zs, zs, H', ⟨by have := HK1.out; have := HJ5.out; omega⟩, ⟨zb⟩⟩
         replace c11 := Bool.eq_false_iff.mpr c11
         subst c11
         have H1 : (some false) = some r := by rw [if_neg (show ¬ (false = true) by decide)] at H; exact H
         clear H
         have H := H1
         clear H1
         obtain rfl := Option.some.inj H
         go_wp2_with (first | ((with_reducible refine gate_callee (f := 25) rfl ?_); refine goesL_ (some 32) rfl rfl Tryz.func25 (by kernel_rfl) rfl #[.int .i64 (wrap64 (x3_1 + 1)), .int .i64 0, .int .i64 3] rfl zg ?_; (with_reducible refine (spec_l01In.calls (wrap64 (x3_1 + 1)) 0 3 false _ A10.out).mono ?_); rintro e w' ⟨rfl, ⟨nd, rfl⟩⟩; refine ⟨_, rfl, ?_⟩))
         go_ret
         exact ⟨by first | rfl | (simp [errW_none, errW_some] <;> rfl) | (simp [*, errW_none, errW_some] <;> rfl), zb⟩
        replace c9 := Bool.eq_false_iff.mpr c9
        subst c9
        have H1 : (if ((rd_T35 l0 x4_1).f0) = 6 then ((spec_l01In.f (wrap64 (x3_1 - 1)) 0 3).bind fun t212 => (if t212 = true then (spec_BlockOk.l0 kj5 l0 (wrap64 (x3_1 - 1)) (wrap64 (x4_1 + 1))) else (some false))) else ((spec_l01In.f x3_1 0 3).bind fun t213 => (if t213 = true then (spec_BlockOk.l0 kj5 l0 x3_1 (wrap64 (x4_1 + 1))) else (some false)))) = some r := by rw [if_neg (show ¬ (false = true) by decide)] at H; exact H
        clear H
        have H := H1
        clear H1
        by_cases c12 : ((rd_T35 l0 x4_1).f0) = 6
        ·rw [if_pos c12] at H
         have c12b0 : (((rd_T35 l0 x4_1).f0) == 6) = true := beq_iff_eq.mpr c12
         have c12b1 : (((rd_T35 l0 x4_1).f0) != 6) = false := bne_eq_false_iff_eq.mpr c12
         clear c12
         replace H := Option.bind_eq_some_iff.mp H
         obtain ⟨t212, A130, H⟩ := H
         replace H : (if t212 = true then (spec_BlockOk.l0 kj5 l0 (wrap64 (x3_1 - 1)) (wrap64 (x4_1 + 1))) else (some false)) = some r := H
         have A13 := zM A130
         clear A130
         by_cases c14 : t212 = true
         ·subst c14
          have H1 : (spec_BlockOk.l0 kj5 l0 (wrap64 (x3_1 - 1)) (wrap64 (x4_1 + 1))) = some r := by rw [if_pos rfl] at H; exact H
          clear H
          have H := H1
          clear H1
          have H' := zM H
          clear H
          go_wp2_with (first | ((with_reducible refine gate_callee (f := 25) rfl ?_); refine goesL_ (some 32) rfl rfl Tryz.func25 (by kernel_rfl) rfl #[.int .i64 (wrap64 (x3_1 - 1)), .int .i64 0, .int .i64 3] rfl zg ?_; (with_reducible refine (spec_l01In.calls (wrap64 (x3_1 - 1)) 0 3 true _ A13.out).mono ?_); rintro e w' ⟨rfl, ⟨nd, rfl⟩⟩; refine ⟨_, rfl, ?_⟩))
          go_roundg kj5
          case measure => have := HK1.out; have := HJ5.out; omega
          case rel => exact ⟨(wrap64 (x3_1 - 1)), (wrap64 (x4_1 + 1)), zs, zs, H', ⟨by have := HK1.out; have := HJ5.out; omega⟩, ⟨zb⟩⟩
         replace c14 := Bool.eq_false_iff.mpr c14
         subst c14
         have H1 : (some false) = some r := by rw [if_neg (show ¬ (false = true) by decide)] at H; exact H
         clear H
         have H := H1
         clear H1
         obtain rfl := Option.some.inj H
         go_wp2_with (first | ((with_reducible refine gate_callee (f := 25) rfl ?_); refine goesL_ (some 32) rfl rfl Tryz.func25 (by kernel_rfl) rfl #[.int .i64 (wrap64 (x3_1 - 1)), .int .i64 0, .int .i64 3] rfl zg ?_; (with_reducible refine (spec_l01In.calls (wrap64 (x3_1 - 1)) 0 3 false _ A13.out).mono ?_); rintro e w' ⟨rfl, ⟨nd, rfl⟩⟩; refine ⟨_, rfl, ?_⟩))
         go_ret
         exact ⟨by first | rfl | (simp [errW_none, errW_some] <;> rfl) | (simp [*, errW_none, errW_some] <;> rfl), zb⟩
        rw [if_neg c12] at H
        have c12b0 : (((rd_T35 l0 x4_1).f0) == 6) = false := beq_eq_false_iff_ne.mpr c12
        have c12b1 : (((rd_T35 l0 x4_1).f0) != 6) = true := bne_iff_ne.mpr c12
        replace H := Option.bind_eq_some_iff.mp H
        obtain ⟨t213, A150, H⟩ := H
        replace H : (if t213 = true then (spec_BlockOk.l0 kj5 l0 x3_1 (wrap64 (x4_1 + 1))) else (some false)) = some r := H
        have A15 := zM A150
        clear A150
        by_cases c16 : t213 = true
        ·subst c16
         have H1 : (spec_BlockOk.l0 kj5 l0 x3_1 (wrap64 (x4_1 + 1))) = some r := by rw [if_pos rfl] at H; exact H
         clear H
         have H := H1
         clear H1
         have H' := zM H
         clear H
         go_wp2_with (first | ((with_reducible refine gate_callee (f := 25) rfl ?_); refine goesL_ (some 32) rfl rfl Tryz.func25 (by kernel_rfl) rfl #[.int .i64 x3_1, .int .i64 0, .int .i64 3] rfl zg ?_; (with_reducible refine (spec_l01In.calls x3_1 0 3 true _ A15.out).mono ?_); rintro e w' ⟨rfl, ⟨nd, rfl⟩⟩; refine ⟨_, rfl, ?_⟩))
         go_roundg kj5
         case measure => have := HK1.out; have := HJ5.out; omega
         case rel => exact ⟨(x3_1), (wrap64 (x4_1 + 1)), zs, zs, H', ⟨by have := HK1.out; have := HJ5.out; omega⟩, ⟨zb⟩⟩
        replace c16 := Bool.eq_false_iff.mpr c16
        subst c16
        have H1 : (some false) = some r := by rw [if_neg (show ¬ (false = true) by decide)] at H; exact H
        clear H
        have H := H1
        clear H1
        obtain rfl := Option.some.inj H
        go_wp2_with (first | ((with_reducible refine gate_callee (f := 25) rfl ?_); refine goesL_ (some 32) rfl rfl Tryz.func25 (by kernel_rfl) rfl #[.int .i64 x3_1, .int .i64 0, .int .i64 3] rfl zg ?_; (with_reducible refine (spec_l01In.calls x3_1 0 3 false _ A15.out).mono ?_); rintro e w' ⟨rfl, ⟨nd, rfl⟩⟩; refine ⟨_, rfl, ?_⟩))
        go_ret
        exact ⟨by first | rfl | (simp [errW_none, errW_some] <;> rfl) | (simp [*, errW_none, errW_some] <;> rfl), zb⟩
     replace c5 := Bool.eq_false_iff.mpr c5
     subst c5
     have H1 : (some false) = some r := by rw [if_neg (show ¬ (false = true) by decide)] at H; exact H
     clear H
     have H := H1
     clear H1
     obtain rfl := Option.some.inj H
     have p208 : 0 ≤ (x4_1 : Int) := zd
     have q208 : x4_1 < (l0.length : Int) := zd
     obtain ⟨ad208, e208, hx208_0, hx208_1, hx208_2, hx208_3, hx208_4, hx208_5⟩ := at_T35 HR0.out x4_1 p208 q208
     cases e208
     replace hx208_0 := (HB.out.cell (zm w _ hx208_0)).trans hx208_0
     replace hx208_1 := (HB.out.cell (zm w _ hx208_1)).trans hx208_1
     replace hx208_2 := (HB.out.cell (zm w _ hx208_2)).trans hx208_2
     replace hx208_3 := (HB.out.cell (zm w _ hx208_3)).trans hx208_3
     replace hx208_4 := (HB.out.cell (zm w _ hx208_4)).trans hx208_4
     replace hx208_5 := (HB.out.cell (zm w _ hx208_5)).trans hx208_5
     replace p208 := eq_true p208
     replace q208 := eq_true q208
     go_wp2_with (first | ((with_reducible refine gate_callee (f := 27) rfl ?_); refine goesL_ (some 15) rfl rfl Tryz.func27 (by kernel_rfl) rfl #[.agg #[.int .i64 ((rd_T35 l0 x4_1).f0), .int .i64 ((rd_T35 l0 x4_1).f1), .int .i64 ((rd_T35 l0 x4_1).f2), .int .i64 ((rd_T35 l0 x4_1).f3.f0), .int .i64 ((rd_T35 l0 x4_1).f3.f1), .int .i64 ((rd_T35 l0 x4_1).f3.f2)]] rfl zg ?_; (with_reducible refine (spec_StmtOk.calls k1 ((rd_T35 l0 x4_1).f0) ((rd_T35 l0 x4_1).f1) ((rd_T35 l0 x4_1).f2) ((rd_T35 l0 x4_1).f3.f0) ((rd_T35 l0 x4_1).f3.f1) ((rd_T35 l0 x4_1).f3.f2) false _ A4.out).mono ?_); rintro e w17 ⟨rfl, hb⟩; refine ⟨_, rfl, ?_⟩; have n0_ := zM (zQ zb hb); clear HB; have HB := n0_; clear n0_; (try clear hb)))
     go_ret
     exact ⟨by first | rfl | (simp [errW_none, errW_some] <;> rfl) | (simp [*, errW_none, errW_some] <;> rfl), zb⟩
    rw [if_neg c3] at H
    exact absurd H (by simp)
   rw [if_neg c2] at H
   have c2b0 : decide (x4_1 < (l0.length : Int)) = false := decide_eq_false c2
   clear c2
   by_cases c18 : x3_1 = 0
   ·rw [if_pos c18] at H
    have c18b0 : (x3_1 == 0) = true := beq_iff_eq.mpr c18
    have c18b1 : (x3_1 != 0) = false := bne_eq_false_iff_eq.mpr c18
    clear c18
    obtain rfl := Option.some.inj H
    go_wp2
    go_ret
    exact ⟨by first | rfl | (simp [errW_none, errW_some] <;> rfl) | (simp [*, errW_none, errW_some] <;> rfl), zb⟩
   rw [if_neg c18] at H
   have c18b0 : (x3_1 == 0) = false := beq_eq_false_iff_ne.mpr c18
   have c18b1 : (x3_1 != 0) = true := bne_iff_ne.mpr c18
   obtain rfl := Option.some.inj H
   go_wp2
   go_ret
   exact ⟨by first | rfl | (simp [errW_none, errW_some] <;> rfl) | (simp [*, errW_none, errW_some] <;> rfl), zb⟩
def spec_ProgramOk.l0 : Nat → Int → List (S40) → Option (Bool)
 | 0, _, _ => none
 | k + 1, x3, x215000 => if x3 < (x215000.length : Int) then (if 0 ≤ x3 then ((spec_BlockOk.f k ((rd_T40 x215000 x3).f0)).bind fun t217 => (if t217 = true then ((spec_ExprOk.f ((rd_T40 x215000 x3).f1.f0) ((rd_T40 x215000 x3).f1.f1) ((rd_T40 x215000 x3).f1.f2)).bind fun t219 => (if t219 = true then (spec_ProgramOk.l0 k (wrap64 (x3 + 1)) x215000) else (some false))) else (some false))) else (none)) else ((spec_l01In.f (x215000.length : Int) 1 6).bind fun t215 => (some t215))
def spec_ProgramOk.f (k : Nat) (l0_0 : List (S40)) : Option (Bool) := spec_ProgramOk.l0 k 0 l0_0
theorem spec_ProgramOk.mono_l : ∀ k, (∀ y0 y1, LeO (spec_ProgramOk.l0 k y0 y1) (spec_ProgramOk.l0 (k + 1) y0 y1))
 | 0 => fun _ _ r h => by simp [spec_ProgramOk.l0] at h
 | k + 1 => by
  have ih0 := spec_ProgramOk.mono_l k
  intro y0 y1
  unfold spec_ProgramOk.l0
  repeat' first | (with_reducible first | exact ih0 _ _ | exact spec_BlockOk.mono _ _ | exact LeO.refl _ | exact LeO.none _ | refine LeO.ite ?_ ?_ | refine LeO.bind ?_ (fun _ => ?_)) | exact ih0 _ _ | exact spec_BlockOk.mono _ _ | exact LeO.none _ | refine LeO.ite ?_ ?_ | refine LeO.bind ?_ (fun _ => ?_)
theorem spec_ProgramOk.mono : ∀ a0 k, LeO (spec_ProgramOk.f k a0) (spec_ProgramOk.f (k + 1) a0) := by
 intro a0 k
 have ih0 := spec_ProgramOk.mono_l k
 unfold spec_ProgramOk.f
 repeat' first | (with_reducible first | exact ih0 _ _ | exact spec_BlockOk.mono _ _ | exact LeO.refl _ | exact LeO.none _ | refine LeO.ite ?_ ?_ | refine LeO.bind ?_ (fun _ => ?_)) | exact ih0 _ _ | exact spec_BlockOk.mono _ _ | exact LeO.none _ | refine LeO.ite ?_ ?_ | refine LeO.bind ?_ (fun _ => ?_)
theorem spec_ProgramOk.calls (k : Nat) (A0_0 : Option Addr) (c0_0 : Nat) (l0_0 : List (S40)) (r : Bool) (w : World) (hr0_0 : Kd.C k40 w A0_0 l0_0.length l0_0) (hc0_0 : l0_0.length ≤ c0_0) (h : spec_ProgramOk.f k l0_0 = some r) :
  Calls Tryz.prog 13 #[.agg #[.slice A0_0 l0_0.length c0_0]] w fun e w' => e = .returned (.bool r) ∧ Below w.heap.size w w' := by
 have hu24 := Tryz.underlying24
 have hu31 := Tryz.underlying31
 have HR0_0 := zM hr0_0
 have HC0_0 := zM hc0_0
 clear hr0_0 hc0_0
 have HB := zM (Below.refl w.heap.size w)
 have H : (spec_ProgramOk.l0 k 0 l0_0) = some r := h
 clear h
 have H' := zM H
 clear H
 go_enter Tryz.func13, Tryz.ntmps13
 go_wp2_with (first | ((with_reducible refine gate_dst (N := 1) rfl ?_); refine box_event ?hg (N := 1) ?hd (cs := #[.slice A0_0 l0_0.length c0_0]) (t := 24) ?hr ?_; (case hd => rfl); (case hg => rfl); (case hr => first | (go_simp; done) | (go_simp; rfl)); intro gb214 hg w2 hbox hb; have n0_ := zM (zQ zb hb); have n1_ := zM (hbox); have n2_ := zM ((by rw [hg]; exact (zR zb) : w.heap.size ≤ gb214)); have n3_ := zM ((by rw [hg]; exact (zR zb) : w.heap.size ≤ gb214)); clear HB; have HB := n0_; have BK214 := n1_; have GW214 := n2_; have GE214 := n3_; clear n0_ n1_ n2_ n3_; clear hb hbox hg))
 go_loopg [3] k (fun kq v3 w' => ∃ (x3_1 : Int), v3 = .int .i64 x3_1 ∧ Aside0 (spec_ProgramOk.l0 kq x3_1 l0_0 = some r) ∧ Aside0 (kq ≤ k) ∧ Aside0 (w'.heap[gb214]? = some (.cells #[(.slice A0_0 l0_0.length c0_0)] 24 (0, 0))) ∧ Aside0 (Below w.heap.size w w'))
 case atStart => exact ⟨(0), zs, H', ⟨Nat.le_refl _⟩, ⟨zk⟩, ⟨zb⟩⟩
 case round =>
  clear H'
  try clear c1
  try clear p2
  obtain ⟨x3_1, rfl, HA, HK1, BK214, HB⟩ := hrel
  cases gk with
  | zero => exact absurd HA.out (by simp [spec_ProgramOk.l0])
  | succ k1 =>
   have H := HA.out
   clear HA
   simp only [spec_ProgramOk.l0] at H
   by_cases c3 : x3_1 < (l0_0.length : Int)
   ·rw [if_pos c3] at H
    have c3b0 : decide (x3_1 < (l0_0.length : Int)) = true := decide_eq_true c3
    clear c3
    by_cases c4 : 0 ≤ x3_1
    ·rw [if_pos c4] at H
     have c4b0 : decide (0 ≤ x3_1) = true := decide_eq_true c4
     clear c4
     replace H := Option.bind_eq_some_iff.mp H
     obtain ⟨t217, A50, H⟩ := H
     replace H : (if t217 = true then ((spec_ExprOk.f ((rd_T40 l0_0 x3_1).f1.f0) ((rd_T40 l0_0 x3_1).f1.f1) ((rd_T40 l0_0 x3_1).f1.f2)).bind fun t219 => (if t219 = true then (spec_ProgramOk.l0 k1 (wrap64 (x3_1 + 1)) l0_0) else (some false))) else (some false)) = some r := H
     have A5 := zM A50
     clear A50
     by_cases c6 : t217 = true
     ·subst c6
      have H1 : ((spec_ExprOk.f ((rd_T40 l0_0 x3_1).f1.f0) ((rd_T40 l0_0 x3_1).f1.f1) ((rd_T40 l0_0 x3_1).f1.f2)).bind fun t219 => (if t219 = true then (spec_ProgramOk.l0 k1 (wrap64 (x3_1 + 1)) l0_0) else (some false))) = some r := by rw [if_pos rfl] at H; exact H
      clear H
      have H := H1
      clear H1
      replace H := Option.bind_eq_some_iff.mp H
      obtain ⟨t219, A70, H⟩ := H
      replace H : (if t219 = true then (spec_ProgramOk.l0 k1 (wrap64 (x3_1 + 1)) l0_0) else (some false)) = some r := H
      have A7 := zM A70
      clear A70
      by_cases c8 : t219 = true
      ·subst c8
       have H1 : (spec_ProgramOk.l0 k1 (wrap64 (x3_1 + 1)) l0_0) = some r := by rw [if_pos rfl] at H; exact H
       clear H
       have H := H1
       clear H1
       have H' := zM H
       clear H
       have hcz9_0 := (z5 BK214.out 0).trans rfl
       have hfz9_0 := z6 BK214.out 0
       have p216 : 0 ≤ (x3_1 : Int) := zd
       have q216 : x3_1 < (l0_0.length : Int) := zd
       obtain ⟨ad216, A216_0, c216_0, e216, hx216_0, hx216_1, hx216_2, hx216_3, hl216_0, hi216_0⟩ := at_T40 HR0_0.out x3_1 p216 q216
       cases e216
       replace hx216_0 := (HB.out.cell (zm w _ hx216_0)).trans hx216_0
       replace hx216_1 := (HB.out.cell (zm w _ hx216_1)).trans hx216_1
       replace hx216_2 := (HB.out.cell (zm w _ hx216_2)).trans hx216_2
       replace hx216_3 := (HB.out.cell (zm w _ hx216_3)).trans hx216_3
       have HR216_0 := zM hi216_0
       have HC216_0 := zM hl216_0
       clear hi216_0 hl216_0
       replace p216 := eq_true p216
       replace q216 := eq_true q216
       go_wp2_with (first | ((with_reducible refine gate_callee (f := 29) rfl ?_); refine goesL_ (some 17) rfl rfl Tryz.func29 (by kernel_rfl) rfl #[.slice A216_0 ((rd_T40 l0_0 x3_1).f0).length c216_0] rfl zg ?_; (with_reducible refine (spec_BlockOk.calls k1 _ _ ((rd_T40 l0_0 x3_1).f0) true _ ?side1 ?side2 A5.out).mono ?_); (case side1 => repeat (first | exact (zX HR216_0.out HB.out) | (with_reducible refine zF ?_ _) | (with_reducible refine zG ?_ _) | (with_reducible refine zH ?_))); (case side2 => exact HC216_0.out); rintro e w10 ⟨rfl, hb⟩; refine ⟨_, rfl, ?_⟩; have n0_ := zM (z7 (g := gb214) (o := .cells #[.slice (some ad216) l0_0.length c0_0] 24 (0, 0)) zk hb); have n1_ := zM (zQ zb hb); clear BK214; clear HB; have BK214 := n0_; have HB := n1_; clear n0_ n1_; (try clear hb); have hcz11_0 := (z5 BK214.out 0).trans rfl; have hfz11_0 := z6 BK214.out 0; have p218 : 0 ≤ (x3_1 : Int) := zd; have q218 : x3_1 < (l0_0.length : Int) := zd; obtain ⟨ad218, A218_0, c218_0, e218, hx218_0, hx218_1, hx218_2, hx218_3, hl218_0, hi218_0⟩ := at_T40 HR0_0.out x3_1 p218 q218; obtain rfl : ad216 = ad218 := (by injection e218); replace hx218_0 := (HB.out.cell (zm w _ hx218_0)).trans hx218_0; replace hx218_1 := (HB.out.cell (zm w _ hx218_1)).trans hx218_1; replace hx218_2 := (HB.out.cell (zm w _ hx218_2)).trans hx218_2; replace hx218_3 := (HB.out.cell (zm w _ hx218_3)).trans hx218_3; have HR218_0 := zM hi218_0; have HC218_0 := zM hl218_0; clear hi218_0 hl218_0; replace p218 := eq_true p218; replace q218 := eq_true q218) | (go_at_call 23; (with_reducible refine (spec_ExprOk.calls ((rd_T40 l0_0 x3_1).f1.f0) ((rd_T40 l0_0 x3_1).f1.f1) ((rd_T40 l0_0 x3_1).f1.f2) true _ A7.out).mono ?_); rintro e w12 ⟨rfl, hb⟩; have n0_ := zM (z7 (g := gb214) (o := .cells #[.slice (some ad216) l0_0.length c0_0] 24 (0, 0)) zk hb); have n1_ := zM (zQ zb hb); clear BK214; clear HB; have BK214 := n0_; have HB := n1_; clear n0_ n1_; (try clear hb)))
       go_roundg k1
       case measure => have := HK1.out; omega
       case rel => exact ⟨(wrap64 (x3_1 + 1)), zs, H', ⟨by have := HK1.out; omega⟩, ⟨zk⟩, ⟨zb⟩⟩
      replace c8 := Bool.eq_false_iff.mpr c8
      subst c8
      have H1 : (some false) = some r := by rw [if_neg (show ¬ (false = true) by decide)] at H; exact H
      clear H
      have H := H1
      clear H1
      obtain rfl := Option.some.inj H
      have hcz13_0 := (z5 BK214.out 0).trans rfl
      have hfz13_0 := z6 BK214.out 0
      have p216 : 0 ≤ (x3_1 : Int) := zd
      have q216 : x3_1 < (l0_0.length : Int) := zd
      obtain ⟨ad216, A216_0, c216_0, e216, hx216_0, hx216_1, hx216_2, hx216_3, hl216_0, hi216_0⟩ := at_T40 HR0_0.out x3_1 p216 q216
      cases e216
      replace hx216_0 := (HB.out.cell (zm w _ hx216_0)).trans hx216_0
      replace hx216_1 := (HB.out.cell (zm w _ hx216_1)).trans hx216_1
      replace hx216_2 := (HB.out.cell (zm w _ hx216_2)).trans hx216_2
      replace hx216_3 := (HB.out.cell (zm w _ hx216_3)).trans hx216_3
      have HR216_0 := zM hi216_0
      have HC216_0 := zM hl216_0
      clear hi216_0 hl216_0
      replace p216 := eq_true p216
      replace q216 := eq_true q216
      go_wp2_with (first | ((with_reducible refine gate_callee (f := 29) rfl ?_); refine goesL_ (some 17) rfl rfl Tryz.func29 (by kernel_rfl) rfl #[.slice A216_0 ((rd_T40 l0_0 x3_1).f0).length c216_0] rfl zg ?_; (with_reducible refine (spec_BlockOk.calls k1 _ _ ((rd_T40 l0_0 x3_1).f0) true _ ?side1 ?side2 A5.out).mono ?_); (case side1 => repeat (first | exact (zX HR216_0.out HB.out) | (with_reducible refine zF ?_ _) | (with_reducible refine zG ?_ _) | (with_reducible refine zH ?_))); (case side2 => exact HC216_0.out); rintro e w14 ⟨rfl, hb⟩; refine ⟨_, rfl, ?_⟩; have n0_ := zM (z7 (g := gb214) (o := .cells #[.slice (some ad216) l0_0.length c0_0] 24 (0, 0)) zk hb); have n1_ := zM (zQ zb hb); clear BK214; clear HB; have BK214 := n0_; have HB := n1_; clear n0_ n1_; (try clear hb); have hcz15_0 := (z5 BK214.out 0).trans rfl; have hfz15_0 := z6 BK214.out 0; have p218 : 0 ≤ (x3_1 : Int) := zd; have q218 : x3_1 < (l0_0.length : Int) := zd; obtain ⟨ad218, A218_0, c218_0, e218, hx218_0, hx218_1, hx218_2, hx218_3, hl218_0, hi218_0⟩ := at_T40 HR0_0.out x3_1 p218 q218; obtain rfl : ad216 = ad218 := (by injection e218); replace hx218_0 := (HB.out.cell (zm w _ hx218_0)).trans hx218_0; replace hx218_1 := (HB.out.cell (zm w _ hx218_1)).trans hx218_1; replace hx218_2 := (HB.out.cell (zm w _ hx218_2)).trans hx218_2; replace hx218_3 := (HB.out.cell (zm w _ hx218_3)).trans hx218_3; have HR218_0 := zM hi218_0; have HC218_0 := zM hl218_0; clear hi218_0 hl218_0; replace p218 := eq_true p218; replace q218 := eq_true q218) | (go_at_call 23; (with_reducible refine (spec_ExprOk.calls ((rd_T40 l0_0 x3_1).f1.f0) ((rd_T40 l0_0 x3_1).f1.f1) ((rd_T40 l0_0 x3_1).f1.f2) false _ A7.out).mono ?_); rintro e w16 ⟨rfl, hb⟩; have n0_ := zM (z7 (g := gb214) (o := .cells #[.slice (some ad216) l0_0.length c0_0] 24 (0, 0)) zk hb); have n1_ := zM (zQ zb hb); clear BK214; clear HB; have BK214 := n0_; have HB := n1_; clear n0_ n1_; (try clear hb)))
      go_ret
      exact ⟨by first | rfl | (simp [errW_none, errW_some] <;> rfl) | (simp [*, errW_none, errW_some] <;> rfl), zb⟩
     replace c6 := Bool.eq_false_iff.mpr c6
     subst c6
     have H1 : (some false) = some r := by rw [if_neg (show ¬ (false = true) by decide)] at H; exact H
     clear H
     have H := H1
     clear H1
     obtain rfl := Option.some.inj H
     have hcz17_0 := (z5 BK214.out 0).trans rfl
     have hfz17_0 := z6 BK214.out 0
     have p216 : 0 ≤ (x3_1 : Int) := zd
     have q216 : x3_1 < (l0_0.length : Int) := zd
     obtain ⟨ad216, A216_0, c216_0, e216, hx216_0, hx216_1, hx216_2, hx216_3, hl216_0, hi216_0⟩ := at_T40 HR0_0.out x3_1 p216 q216
     cases e216
     replace hx216_0 := (HB.out.cell (zm w _ hx216_0)).trans hx216_0
     replace hx216_1 := (HB.out.cell (zm w _ hx216_1)).trans hx216_1
     replace hx216_2 := (HB.out.cell (zm w _ hx216_2)).trans hx216_2
     replace hx216_3 := (HB.out.cell (zm w _ hx216_3)).trans hx216_3
     have HR216_0 := zM hi216_0
     have HC216_0 := zM hl216_0
     clear hi216_0 hl216_0
     replace p216 := eq_true p216
     replace q216 := eq_true q216
     go_wp2_with (first | ((with_reducible refine gate_callee (f := 29) rfl ?_); refine goesL_ (some 17) rfl rfl Tryz.func29 (by kernel_rfl) rfl #[.slice A216_0 ((rd_T40 l0_0 x3_1).f0).length c216_0] rfl zg ?_; (with_reducible refine (spec_BlockOk.calls k1 _ _ ((rd_T40 l0_0 x3_1).f0) false _ ?side1 ?side2 A5.out).mono ?_); (case side1 => repeat (first | exact (zX HR216_0.out HB.out) | (with_reducible refine zF ?_ _) | (with_reducible refine zG ?_ _) | (with_reducible refine zH ?_))); (case side2 => exact HC216_0.out); rintro e w18 ⟨rfl, hb⟩; refine ⟨_, rfl, ?_⟩; have n0_ := zM (z7 (g := gb214) (o := .cells #[.slice (some ad216) l0_0.length c0_0] 24 (0, 0)) zk hb); have n1_ := zM (zQ zb hb); clear BK214; clear HB; have BK214 := n0_; have HB := n1_; clear n0_ n1_; (try clear hb)))
     go_ret
     exact ⟨by first | rfl | (simp [errW_none, errW_some] <;> rfl) | (simp [*, errW_none, errW_some] <;> rfl), zb⟩
    rw [if_neg c4] at H
    exact absurd H (by simp)
   rw [if_neg c3] at H
   have c3b0 : decide (x3_1 < (l0_0.length : Int)) = false := decide_eq_false c3
   clear c3
   replace H := Option.bind_eq_some_iff.mp H
   obtain ⟨t215, A190, H⟩ := H
   replace H : (some t215) = some r := H
   have A19 := zM A190
   clear A190
   obtain rfl := Option.some.inj H
   have hcz20_0 := (z5 BK214.out 0).trans rfl
   have hfz20_0 := z6 BK214.out 0
   go_wp2_with (first | ((with_reducible refine gate_callee (f := 25) rfl ?_); refine goesL_ (some 32) rfl rfl Tryz.func25 (by kernel_rfl) rfl #[.int .i64 (l0_0.length : Int), .int .i64 1, .int .i64 6] rfl zg ?_; (with_reducible refine (spec_l01In.calls (l0_0.length : Int) 1 6 t215 _ A19.out).mono ?_); rintro e w' ⟨rfl, ⟨nd, rfl⟩⟩; refine ⟨_, rfl, ?_⟩))
   go_ret
   exact ⟨by first | rfl | (simp [errW_none, errW_some] <;> rfl) | (simp [*, errW_none, errW_some] <;> rfl), zb⟩
end Go.Proofs.YtcpmkcidehhbiaaGreatDoor.PFnExactParseProgram
