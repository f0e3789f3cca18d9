/- Walks of the functions that a statement reaches, written by a program (the printing program, mended): no condition. -/
import Derived.Test.YtlhcofkandeepaaPFnExactLogRoomx0
import Derived.Test.YtlhcofkandeepaaPFnExactLogRoomx3
import Derived.Test.YtlhcofkandeepaaPFnExactLogRoomx5
namespace Go.Proofs.Ytlhcofkandeepaa.PFnExactLogRoom
open Go.RowKit Go.Proofs.YtlhcofkandeepaaW.PrintWords Go.Proofs.YtlhcofkandeepaaW.PrintLast Go.Proofs.YtlhcofkandeepaaW.PrintMore
attribute [local go_sem] max2_int min2_int max_two min_two max_three min_three max_four min_four   -- for this text's walks alone
set_option linter.unusedVariables false
set_option linter.unusedSimpArgs false

/-! ### spec_l05End: function 53 -/
mutual
def spec_l05End.l0 : Nat → List (S39) → Int → Int → Option (Int)
 | 0, _, _, _ => none
 | k + 1, x0, x5, x6 => if x6 < (x0.length : Int) then (if 0 ≤ x6 then ((spec_l05Opens.f ((rd_T39 x0 x6).f0) ((rd_T39 x0 x6).f1) ((rd_T39 x0 x6).f2) ((rd_T39 x0 x6).f3.f0) ((rd_T39 x0 x6).f3.f1) ((rd_T39 x0 x6).f3.f2)).bind fun t152 => (if t152 = true then (spec_l05End.j1 k x0 (wrap64 (x5 + 1)) x6) else (spec_l05End.j1 k x0 x5 x6))) else (none)) else (some (-1))
def spec_l05End.j1 : Nat → List (S39) → Int → Int → Option (Int)
 | 0, _, _, _ => none
 | k + 1, x0, x5, x6 => if 0 ≤ x6 then (if x6 < (x0.length : Int) then (if ((rd_T39 x0 x6).f0) = 6 then (if (wrap64 (x5 - 1)) = 0 then (some x6) else (spec_l05End.l0 k x0 (wrap64 (x5 - 1)) (wrap64 (x6 + 1)))) else (spec_l05End.l0 k x0 x5 (wrap64 (x6 + 1)))) else (none)) else (none)
end
def spec_l05End.f (k : Nat) (l0 : List (S39)) (a1 : Int) : Option (Int) := spec_l05End.l0 k l0 0 a1
theorem spec_l05End.mono_l : ∀ k, (∀ y0 y1 y2, LeO (spec_l05End.l0 k y0 y1 y2) (spec_l05End.l0 (k + 1) y0 y1 y2)) ∧ (∀ y0 y1 y2, LeO (spec_l05End.j1 k y0 y1 y2) (spec_l05End.j1 (k + 1) y0 y1 y2))
 | 0 => ⟨fun _ _ _ r h => by simp [spec_l05End.l0] at h, fun _ _ _ r h => by simp [spec_l05End.j1] at h⟩
 | k + 1 => by
  obtain ⟨ih0, ih1⟩ := spec_l05End.mono_l k
  refine ⟨?_, ?_⟩
  ·intro y0 y1 y2
   unfold spec_l05End.l0
   repeat' first
   | (with_reducible exact ih0 _ _ _)
   | (with_reducible exact ih1 _ _ _)
   | (with_reducible exact LeO.refl _)
   | (with_reducible exact LeO.none _)
   | (with_reducible refine LeO.ite ?_ ?_)
   | (with_reducible refine LeO.bind ?_ (fun _ => ?_))
   | exact ih0 _ _ _
   | exact ih1 _ _ _
   | exact LeO.none _
   | refine LeO.ite ?_ ?_
   | refine LeO.bind ?_ (fun _ => ?_)
  ·intro y0 y1 y2
   unfold spec_l05End.j1
   repeat' first
   | (with_reducible exact ih0 _ _ _)
   | (with_reducible exact ih1 _ _ _)
   | (with_reducible exact LeO.refl _)
   | (with_reducible exact LeO.none _)
   | (with_reducible refine LeO.ite ?_ ?_)
   | (with_reducible refine LeO.bind ?_ (fun _ => ?_))
   | exact ih0 _ _ _
   | exact ih1 _ _ _
   | exact LeO.none _
   | refine LeO.ite ?_ ?_
   | refine LeO.bind ?_ (fun _ => ?_)
theorem spec_l05End.mono : ∀ a0 a1 k, LeO (spec_l05End.f k a0 a1) (spec_l05End.f (k + 1) a0 a1) := by
 intro a0 a1 k
 obtain ⟨ih0, ih1⟩ := spec_l05End.mono_l k
 unfold spec_l05End.f
 repeat' first
   | (with_reducible exact ih0 _ _ _)
   | (with_reducible exact ih1 _ _ _)
   | (with_reducible exact LeO.refl _)
   | (with_reducible exact LeO.none _)
   | (with_reducible refine LeO.ite ?_ ?_)
   | (with_reducible refine LeO.bind ?_ (fun _ => ?_))
   | exact ih0 _ _ _
   | exact ih1 _ _ _
   | exact LeO.none _
   | refine LeO.ite ?_ ?_
   | refine LeO.bind ?_ (fun _ => ?_)
set_option maxHeartbeats 8000000 in
set_option maxRecDepth 100000 in
theorem spec_l05End.calls (k : Nat) (A0 : Option Addr) (c0 : Nat) (l0 : List (S39)) (a1 : Int) (r : Int) (w : World) (hr0 : Kd.C k39 w A0 l0.length l0) (hc0 : l0.length ≤ c0) (h : spec_l05End.f k l0 a1 = some r) :
  Calls Try.prog 53 #[.slice A0 l0.length c0, .int .i64 a1] w fun e w' => e = .returned (.int .i64 r) ∧ Below w.heap.size w w' := by
 have hu39 := Try.underlying39
 have HR0 := zM hr0
 have HC0 := zM hc0
 clear hr0 hc0
 have HB := zM (Below.refl w.heap.size w)
 have H : (spec_l05End.l0 k l0 0 a1) = some r := h
 clear h
 have H' := zM H
 clear H
 go_enter Try.func53, Try.ntmps53
 go_wp2
 go_loopg [5, 6] k (fun kq v5 v6 w' => ∃ (x5_1 : Int) (x6_1 : Int), v5 = .int .i64 x5_1 ∧ v6 = .int .i64 x6_1 ∧ Aside0 (spec_l05End.l0 kq l0 x5_1 x6_1 = some r) ∧ Aside0 (kq ≤ k) ∧ Aside0 (Below w.heap.size w w'))
 case atStart => exact ⟨(0), (a1), zs, zs, H', ⟨Nat.le_refl _⟩, ⟨zb⟩⟩
 case round =>
  clear H'
  try clear p2
  obtain ⟨x5_1, x6_1, rfl, rfl, HA, HK1, HB⟩ := hrel
  cases gk with
  | zero => exact absurd HA.out (by simp [spec_l05End.l0])
  | succ k1 =>
   have H := HA.out
   clear HA
   simp only [spec_l05End.l0] at H
   by_cases c3 : x6_1 < (l0.length : Int)
   ·rw [if_pos c3] at H
    have c3b0 : decide (x6_1 < (l0.length : Int)) = true := decide_eq_true c3
    clear c3
    by_cases c4 : 0 ≤ x6_1
    ·rw [if_pos c4] at H
     have c4b0 : decide (0 ≤ x6_1) = true := decide_eq_true c4
     clear c4
     replace H := Option.bind_eq_some_iff.mp H
     obtain ⟨t152, A50, H⟩ := H
     replace H : (if t152 = true then (spec_l05End.j1 k1 l0 (wrap64 (x5_1 + 1)) x6_1) else (spec_l05End.j1 k1 l0 x5_1 x6_1)) = some r := H
     have A5 := zM A50
     clear A50
     have HC6 := zM H
     clear H
     have p151 : 0 ≤ (x6_1 : Int) := zd
     have q151 : x6_1 < (l0.length : Int) := zd
     obtain ⟨ad151, e151, hx151_0, hx151_1, hx151_2, hx151_3, hx151_4, hx151_5⟩ := at_T39 HR0.out x6_1 p151 q151
     cases e151
     replace hx151_0 := (HB.out.cell (World.block_lt_of_cell? w _ hx151_0)).trans hx151_0
     replace hx151_1 := (HB.out.cell (World.block_lt_of_cell? w _ hx151_1)).trans hx151_1
     replace hx151_2 := (HB.out.cell (World.block_lt_of_cell? w _ hx151_2)).trans hx151_2
     replace hx151_3 := (HB.out.cell (World.block_lt_of_cell? w _ hx151_3)).trans hx151_3
     replace hx151_4 := (HB.out.cell (World.block_lt_of_cell? w _ hx151_4)).trans hx151_4
     replace hx151_5 := (HB.out.cell (World.block_lt_of_cell? w _ hx151_5)).trans hx151_5
     replace p151 := eq_true p151
     replace q151 := eq_true q151
     go_upto_if 18 with (first | ((with_reducible refine gate_callee (f := 84) rfl ?_); refine goesL_ (some 18) rfl rfl Try.func84 (by kernel_rfl) rfl #[.agg #[.int .i64 ((rd_T39 l0 x6_1).f0), .int .i64 ((rd_T39 l0 x6_1).f1), .int .i64 ((rd_T39 l0 x6_1).f2), .int .i64 ((rd_T39 l0 x6_1).f3.f0), .int .i64 ((rd_T39 l0 x6_1).f3.f1), .int .i64 ((rd_T39 l0 x6_1).f3.f2)]] rfl zg ?_; (with_reducible refine (spec_l05Opens.calls ((rd_T39 l0 x6_1).f0) ((rd_T39 l0 x6_1).f1) ((rd_T39 l0 x6_1).f2) ((rd_T39 l0 x6_1).f3.f0) ((rd_T39 l0 x6_1).f3.f1) ((rd_T39 l0 x6_1).f3.f2) t152 _ A5.out).mono ?_); rintro e w7 ⟨rfl, hb⟩; refine ⟨_, rfl, ?_⟩; have n0_ := zM (zQ zb hb); clear HB; have HB := n0_; clear n0_; (try clear hb)))
     (try simp only [Act.put, List.setIfInBounds_toArray, List.set_cons_zero, List.set_cons_succ])
     go_cut [5] (fun v5 wc => ∃ (kq : Nat) (x5_5 : Int), v5 = .int .i64 x5_5 ∧ Aside0 (spec_l05End.j1 kq l0 x5_5 x6_1 = some r) ∧ Aside0 (kq ≤ k1) ∧ Aside0 (Below w.heap.size w wc))
     case first =>
      have H := HC6.out
      clear HC6
      by_cases c8 : t152 = true
      ·subst c8
       have H1 : (spec_l05End.j1 k1 l0 (wrap64 (x5_1 + 1)) x6_1) = some r := by rw [if_pos rfl] at H; exact H
       clear H
       have H := H1
       clear H1
       have H' := zM H
       clear H
       go_wp2
       go_meet
       case rel => exact ⟨_, (wrap64 (x5_1 + 1)), zs, H', ⟨by have := HK1.out; first | omega | exact Nat.le_refl _⟩, ⟨zb⟩⟩
      ·replace c8 := Bool.eq_false_iff.mpr c8
       subst c8
       have H1 : (spec_l05End.j1 k1 l0 x5_1 x6_1) = some r := by rw [if_neg (show ¬ (false = true) by decide)] at H; exact H
       clear H
       have H := H1
       clear H1
       have H' := zM H
       clear H
       go_wp2
       go_meet
       case rel => exact ⟨_, (x5_1), zs, H', ⟨by have := HK1.out; first | omega | exact Nat.le_refl _⟩, ⟨zb⟩⟩
     case rest =>
      clear HC6
      try clear p1
      try clear q1
      try clear hx1
      try clear p2
      try clear c3
      try clear c3b0
      try clear c4
      try clear c4b0
      try clear c5
      try clear p6
      try clear c8
      try clear hx151_0
      try clear hx151_1
      try clear hx151_2
      try clear hx151_3
      try clear hx151_4
      try clear hx151_5
      try clear p151
      try clear p2
      try clear q151
      obtain ⟨kq, x5_5, rfl, HA, HJ5, HB⟩ := hcut
      cases kq with
      | zero => exact absurd HA.out (by simp [spec_l05End.j1])
      | succ kj5 =>
       have H := HA.out
       clear HA
       simp only [spec_l05End.j1] at H
       by_cases c9 : 0 ≤ x6_1
       ·rw [if_pos c9] at H
        have c9b0 : decide (0 ≤ x6_1) = true := decide_eq_true c9
        clear c9
        by_cases c10 : x6_1 < (l0.length : Int)
        ·rw [if_pos c10] at H
         have c10b0 : decide (x6_1 < (l0.length : Int)) = true := decide_eq_true c10
         clear c10
         by_cases c11 : ((rd_T39 l0 x6_1).f0) = 6
         ·rw [if_pos c11] at H
          have c11b0 : (((rd_T39 l0 x6_1).f0) == 6) = true := beq_iff_eq.mpr c11
          have c11b1 : (((rd_T39 l0 x6_1).f0) != 6) = false := bne_eq_false_iff_eq.mpr c11
          clear c11
          by_cases c12 : (wrap64 (x5_5 - 1)) = 0
          ·rw [if_pos c12] at H
           have c12b0 : ((wrap64 (x5_5 - 1)) == 0) = true := beq_iff_eq.mpr c12
           have c12b1 : ((wrap64 (x5_5 - 1)) != 0) = false := bne_eq_false_iff_eq.mpr c12
           clear c12
           obtain rfl := Option.some.inj H
           have p153 : 0 ≤ (x6_1 : Int) := zd
           have q153 : x6_1 < (l0.length : Int) := zd
           obtain ⟨ad153, e153, hx153_0, hx153_1, hx153_2, hx153_3, hx153_4, hx153_5⟩ := at_T39 HR0.out x6_1 p153 q153
           obtain rfl : ad151 = ad153 := (by injection e153)
           replace hx153_0 := (HB.out.cell (World.block_lt_of_cell? w _ hx153_0)).trans hx153_0
           replace hx153_1 := (HB.out.cell (World.block_lt_of_cell? w _ hx153_1)).trans hx153_1
           replace hx153_2 := (HB.out.cell (World.block_lt_of_cell? w _ hx153_2)).trans hx153_2
           replace hx153_3 := (HB.out.cell (World.block_lt_of_cell? w _ hx153_3)).trans hx153_3
           replace hx153_4 := (HB.out.cell (World.block_lt_of_cell? w _ hx153_4)).trans hx153_4
           replace hx153_5 := (HB.out.cell (World.block_lt_of_cell? w _ hx153_5)).trans hx153_5
           replace p153 := eq_true p153
           replace q153 := eq_true q153
           go_wp2
           go_ret
           exact ⟨by first | rfl | (simp [errW_none, errW_some] <;> rfl) | (simp [*, errW_none, errW_some] <;> rfl), zb⟩
          ·rw [if_neg c12] at H
           have c12b0 : ((wrap64 (x5_5 - 1)) == 0) = false := beq_eq_false_iff_ne.mpr c12
           have c12b1 : ((wrap64 (x5_5 - 1)) != 0) = true := bne_iff_ne.mpr c12
           have H' := zM H
           clear H
           have p153 : 0 ≤ (x6_1 : Int) := zd
           have q153 : x6_1 < (l0.length : Int) := zd
           obtain ⟨ad153, e153, hx153_0, hx153_1, hx153_2, hx153_3, hx153_4, hx153_5⟩ := at_T39 HR0.out x6_1 p153 q153
           obtain rfl : ad151 = ad153 := (by injection e153)
           replace hx153_0 := (HB.out.cell (World.block_lt_of_cell? w _ hx153_0)).trans hx153_0
           replace hx153_1 := (HB.out.cell (World.block_lt_of_cell? w _ hx153_1)).trans hx153_1
           replace hx153_2 := (HB.out.cell (World.block_lt_of_cell? w _ hx153_2)).trans hx153_2
           replace hx153_3 := (HB.out.cell (World.block_lt_of_cell? w _ hx153_3)).trans hx153_3
           replace hx153_4 := (HB.out.cell (World.block_lt_of_cell? w _ hx153_4)).trans hx153_4
           replace hx153_5 := (HB.out.cell (World.block_lt_of_cell? w _ hx153_5)).trans hx153_5
           replace p153 := eq_true p153
           replace q153 := eq_true q153
           go_wp2
           go_roundg kj5
           case measure => have := HK1.out; have := HJ5.out; omega
           case rel => exact ⟨(wrap64 (x5_5 - 1)), (wrap64 (x6_1 + 1)), zs, zs, H', ⟨by have := HK1.out; have := HJ5.out; omega⟩, ⟨zb⟩⟩
         ·rw [if_neg c11] at H
          have c11b0 : (((rd_T39 l0 x6_1).f0) == 6) = false := beq_eq_false_iff_ne.mpr c11
          have c11b1 : (((rd_T39 l0 x6_1).f0) != 6) = true := bne_iff_ne.mpr c11
          have H' := zM H
          clear H
          have p153 : 0 ≤ (x6_1 : Int) := zd
          have q153 : x6_1 < (l0.length : Int) := zd
          obtain ⟨ad153, e153, hx153_0, hx153_1, hx153_2, hx153_3, hx153_4, hx153_5⟩ := at_T39 HR0.out x6_1 p153 q153
          obtain rfl : ad151 = ad153 := (by injection e153)
          replace hx153_0 := (HB.out.cell (World.block_lt_of_cell? w _ hx153_0)).trans hx153_0
          replace hx153_1 := (HB.out.cell (World.block_lt_of_cell? w _ hx153_1)).trans hx153_1
          replace hx153_2 := (HB.out.cell (World.block_lt_of_cell? w _ hx153_2)).trans hx153_2
          replace hx153_3 := (HB.out.cell (World.block_lt_of_cell? w _ hx153_3)).trans hx153_3
          replace hx153_4 := (HB.out.cell (World.block_lt_of_cell? w _ hx153_4)).trans hx153_4
          replace hx153_5 := (HB.out.cell (World.block_lt_of_cell? w _ hx153_5)).trans hx153_5
          replace p153 := eq_true p153
          replace q153 := eq_true q153
          go_wp2
          go_roundg kj5
          case measure => have := HK1.out; have := HJ5.out; omega
          case rel => exact ⟨(x5_5), (wrap64 (x6_1 + 1)), zs, zs, H', ⟨by have := HK1.out; have := HJ5.out; omega⟩, ⟨zb⟩⟩
        ·rw [if_neg c10] at H
         exact absurd H (by simp)
       ·rw [if_neg c9] at H
        exact absurd H (by simp)
    ·rw [if_neg c4] at H
     exact absurd H (by simp)
   ·rw [if_neg c3] at H
    have c3b0 : decide (x6_1 < (l0.length : Int)) = false := decide_eq_false c3
    clear c3
    obtain rfl := Option.some.inj H
    go_wp2
    go_ret
    exact ⟨by first | rfl | (simp [errW_none, errW_some] <;> rfl) | (simp [*, errW_none, errW_some] <;> rfl), zb⟩

/-! ### spec_MustWrite: function 21 -/
mutual
def spec_MustWrite.l0 : Nat → List (S39) → List Bool → Int → Option (List Int)
 | 0, _, _, _ => none
 | k + 1, x0, x3, x4 => if x4 < (x0.length : Int) then ((spec_BlockOk.f k x0).bind fun t157 => (spec_MustWrite.j1 k x0 x3 x4 t157)) else (spec_MustWrite.j1 k x0 x3 x4 false)
def spec_MustWrite.j1 : Nat → List (S39) → List Bool → Int → Bool → Option (List Int)
 | 0, _, _, _, _ => none
 | k + 1, x0, x3, x4, x13 => if x13 = true then (if 0 ≤ x4 then (if x4 < (x0.length : Int) then (if ((rd_T39 x0 x4).f0) = 4 then ((spec_l05End.f k x0 x4).bind fun t162 => (spec_MustWrite.l0 k x0 x3 (wrap64 (t162 + 1)))) else ((spec_l07Writes.f ((rd_T39 x0 x4).f0) ((rd_T39 x0 x4).f1) ((rd_T39 x0 x4).f2) ((rd_T39 x0 x4).f3.f0) ((rd_T39 x0 x4).f3.f1) ((rd_T39 x0 x4).f3.f2)).bind fun t164 => (if t164 = true then (if 0 ≤ ((rd_T39 x0 x4).f1) then (if ((rd_T39 x0 x4).f1) < (x3.length : Int) then (spec_MustWrite.l0 k x0 (x3.set (((rd_T39 x0 x4).f1) : Int).toNat true) (wrap64 (x4 + 1))) else (none)) else (none)) else (spec_MustWrite.l0 k x0 x3 (wrap64 (x4 + 1)))))) else (none)) else (none)) else ((spec_l07List.f k x3).bind fun t158 => (some t158))
end
def spec_MustWrite.f (k : Nat) (l0 : List (S39)) : Option (List Int) := if 8 ≤ 281474976710656 then (spec_MustWrite.l0 k l0 (List.replicate 8 false) 0) else (none)
theorem spec_MustWrite.mono_l : ∀ k, (∀ y0 y1 y2, LeO (spec_MustWrite.l0 k y0 y1 y2) (spec_MustWrite.l0 (k + 1) y0 y1 y2)) ∧ (∀ y0 y1 y2 y3, LeO (spec_MustWrite.j1 k y0 y1 y2 y3) (spec_MustWrite.j1 (k + 1) y0 y1 y2 y3))
 | 0 => ⟨fun _ _ _ r h => by simp [spec_MustWrite.l0] at h, fun _ _ _ _ r h => by simp [spec_MustWrite.j1] at h⟩
 | k + 1 => by
  obtain ⟨ih0, ih1⟩ := spec_MustWrite.mono_l k
  refine ⟨?_, ?_⟩
  ·intro y0 y1 y2
   unfold spec_MustWrite.l0
   repeat' first
   | (with_reducible exact ih0 _ _ _)
   | (with_reducible exact ih1 _ _ _ _)
   | (with_reducible exact spec_BlockOk.mono _ _)
   | (with_reducible exact spec_l05End.mono _ _ _)
   | (with_reducible exact spec_l07List.mono _ _)
   | (with_reducible exact LeO.refl _)
   | (with_reducible exact LeO.none _)
   | (with_reducible refine LeO.ite ?_ ?_)
   | (with_reducible refine LeO.bind ?_ (fun _ => ?_))
   | exact ih0 _ _ _
   | exact ih1 _ _ _ _
   | exact spec_BlockOk.mono _ _
   | exact spec_l05End.mono _ _ _
   | exact spec_l07List.mono _ _
   | exact LeO.none _
   | refine LeO.ite ?_ ?_
   | refine LeO.bind ?_ (fun _ => ?_)
  ·intro y0 y1 y2 y3
   unfold spec_MustWrite.j1
   repeat' first
   | (with_reducible exact ih0 _ _ _)
   | (with_reducible exact ih1 _ _ _ _)
   | (with_reducible exact spec_BlockOk.mono _ _)
   | (with_reducible exact spec_l05End.mono _ _ _)
   | (with_reducible exact spec_l07List.mono _ _)
   | (with_reducible exact LeO.refl _)
   | (with_reducible exact LeO.none _)
   | (with_reducible refine LeO.ite ?_ ?_)
   | (with_reducible refine LeO.bind ?_ (fun _ => ?_))
   | exact ih0 _ _ _
   | exact ih1 _ _ _ _
   | exact spec_BlockOk.mono _ _
   | exact spec_l05End.mono _ _ _
   | exact spec_l07List.mono _ _
   | exact LeO.none _
   | refine LeO.ite ?_ ?_
   | refine LeO.bind ?_ (fun _ => ?_)
theorem spec_MustWrite.mono : ∀ a0 k, LeO (spec_MustWrite.f k a0) (spec_MustWrite.f (k + 1) a0) := by
 intro a0 k
 obtain ⟨ih0, ih1⟩ := spec_MustWrite.mono_l k
 unfold spec_MustWrite.f
 repeat' first
   | (with_reducible exact ih0 _ _ _)
   | (with_reducible exact ih1 _ _ _ _)
   | (with_reducible exact spec_BlockOk.mono _ _)
   | (with_reducible exact spec_l05End.mono _ _ _)
   | (with_reducible exact spec_l07List.mono _ _)
   | (with_reducible exact LeO.refl _)
   | (with_reducible exact LeO.none _)
   | (with_reducible refine LeO.ite ?_ ?_)
   | (with_reducible refine LeO.bind ?_ (fun _ => ?_))
   | exact ih0 _ _ _
   | exact ih1 _ _ _ _
   | exact spec_BlockOk.mono _ _
   | exact spec_l05End.mono _ _ _
   | exact spec_l07List.mono _ _
   | exact LeO.none _
   | refine LeO.ite ?_ ?_
   | refine LeO.bind ?_ (fun _ => ?_)
set_option maxHeartbeats 8000000 in
set_option maxRecDepth 100000 in
theorem spec_MustWrite.calls (k : Nat) (A0 : Option Addr) (c0 : Nat) (l0 : List (S39)) (r : List Int) (w : World) (hr0 : Kd.C k39 w A0 l0.length l0) (hc0 : l0.length ≤ c0) (h : spec_MustWrite.f k l0 = some r) :
  Calls Try.prog 21 #[.slice A0 l0.length c0] w fun e w' => ∃ v0_ : Value, e = .returned (v0_) ∧ Kd.R (Kd.int .i64) 3 w' w.heap.size (fun _ => True) v0_ r ∧ Below w.heap.size w w' := by
 have hu39 := Try.underlying39
 have HR0 := zM hr0
 have HC0 := zM hc0
 clear hr0 hc0
 have HB := zM (Below.refl w.heap.size w)
 have H : (if 8 ≤ 281474976710656 then (spec_MustWrite.l0 k l0 (List.replicate 8 false) 0) else (none)) = some r := h
 clear h
 by_cases c2 : 8 ≤ 281474976710656
 ·rw [if_pos c2] at H
  have c2b0 := eq_true c2
  have c2b1 : decide (8 ≤ 281474976710656) = true := decide_eq_true c2
  clear c2
  obtain ⟨y154, hyq⟩ : ∃ y_ : List Bool, y_ = (List.replicate 8 false) := ⟨_, rfl⟩
  replace H : (spec_MustWrite.l0 k l0 y154 0) = some r := zh
  have Ny154 := zM hyq
  clear hyq
  have H' := zM H
  clear H
  go_enter Try.func21, Try.ntmps21
  go_wp2_with (first | ((with_reducible refine gate_dst (N := 5) rfl ?_); refine Kd.R_make Kd.bool _ 4 rfl (N := 5) rfl 67 _ _ rfl 8 rfl rfl Try.underlying67 (.bool false) 1 info4 rfl (by decide) (by omega) false (ok := fun _ => True) (okp := fun _ => True) rfl (fun _ hk => hk) trivial (by omega) (by omega) (Below.refl _ _) (Nat.le_refl _) ?_; intro v155 w3 ho4 hb hg_ hnew_; clear hg_ hnew_; (first | rw [← Ny154.out] at ho4 | (simp only [Int.reduceToNat] at ho4; rw [← Ny154.out] at ho4)); have n0_ := zM (zf ho4 (zR zb)); have n1_ := zM (zQ zb hb); clear HB; have HO156 := n0_; have HB := n1_; clear n0_ n1_; clear hb ho4))
  go_loopg [4] k (fun kq v4 w' => ∃ (x3_1 : List Bool) (x4_1 : Int), v4 = .int .i64 x4_1 ∧ Aside0 (spec_MustWrite.l0 kq l0 x3_1 x4_1 = some r) ∧ Aside0 (kq ≤ k) ∧ Aside0 (Kd.R Kd.bool 4 w' w.heap.size (fun _ => True) v155 x3_1) ∧ Aside0 (Below w.heap.size w w'))
  case atStart => exact ⟨(y154), (0), zs, H', ⟨Nat.le_refl _⟩, ⟨by (with_reducible repeat (first | apply zI | apply zJ | apply zK)); exact HO156.out⟩, ⟨zb⟩⟩
  case round =>
   clear H'
   try clear c2
   try clear c2b0
   try clear c2b1
   try clear p2
   obtain ⟨x3_1, x4_1, rfl, HA, HK1, HO_3, HB⟩ := hrel
   cases gk with
   | zero => exact absurd HA.out (by simp [spec_MustWrite.l0])
   | succ k1 =>
    have H := HA.out
    clear HA
    simp only [spec_MustWrite.l0] at H
    have HC5 := zM H
    clear H
    go_upto_region 3 with (fail)
    go_cut [13] (fun v13 wc => ∃ (kq : Nat) (x13_4 : Bool), v13 = .bool x13_4 ∧ Aside0 (spec_MustWrite.j1 kq l0 x3_1 x4_1 x13_4 = some r) ∧ Aside0 (kq ≤ k1) ∧ Aside0 (Kd.R Kd.bool 4 wc w.heap.size (fun _ => True) v155 x3_1) ∧ Aside0 (Below w.heap.size w wc))
    case first =>
     have H := HC5.out
     clear HC5
     by_cases c6 : x4_1 < (l0.length : Int)
     ·rw [if_pos c6] at H
      have c6b0 : decide (x4_1 < (l0.length : Int)) = true := decide_eq_true c6
      clear c6
      (first | rw [c6b0] | (simp only [i64_w, i32_w]; rw [c6b0]) | skip)
      replace H := Option.bind_eq_some_iff.mp H
      obtain ⟨t157, A70, H⟩ := H
      replace H : (spec_MustWrite.j1 k1 l0 x3_1 x4_1 t157) = some r := H
      have A7 := zM A70
      clear A70
      have H' := zM H
      clear H
      go_wp2_with (first | (go_at_call 45; (with_reducible refine (spec_BlockOk.calls k1 _ _ l0 t157 _ ?side1 ?side2 A7.out).mono ?_); (case side1 => repeat (first | exact (zX HR0.out HB.out) | (with_reducible refine zF ?_ _) | (with_reducible refine zG ?_ _) | (with_reducible refine zH ?_))); (case side2 => exact HC0.out); rintro e w8 ⟨rfl, hb⟩; have n0_ := zM (ze (by (with_reducible repeat (first | apply zI | apply zJ | apply zK)); exact HO_3.out) hb); have n1_ := zM (zQ zb hb); clear HO_3; clear HB; have HO_3 := n0_; have HB := n1_; clear n0_ n1_; (try clear hb)))
      go_meet
      case rel => exact ⟨_, (t157), zs, H', ⟨by have := HK1.out; first | omega | exact Nat.le_refl _⟩, ⟨by (with_reducible repeat (first | apply zI | apply zJ | apply zK)); exact HO_3.out⟩, ⟨zb⟩⟩
     ·rw [if_neg c6] at H
      have c6b0 : decide (x4_1 < (l0.length : Int)) = false := decide_eq_false c6
      clear c6
      (first | rw [c6b0] | (simp only [i64_w, i32_w]; rw [c6b0]) | skip)
      have H' := zM H
      clear H
      go_wp2
      go_meet
      case rel => exact ⟨_, (false), zs, H', ⟨by have := HK1.out; first | omega | exact Nat.le_refl _⟩, ⟨by (with_reducible repeat (first | apply zI | apply zJ | apply zK)); exact HO_3.out⟩, ⟨zb⟩⟩
    case rest =>
     clear HC5
     try clear c2
     try clear c2b0
     try clear c2b1
     try clear p2
     try clear c6
     try clear c6b0
     try clear p2
     obtain ⟨kq, x13_4, rfl, HA, HJ4, HO_3, HB⟩ := hcut
     cases kq with
     | zero => exact absurd HA.out (by simp [spec_MustWrite.j1])
     | succ kj4 =>
      have H := HA.out
      clear HA
      simp only [spec_MustWrite.j1] at H
      by_cases c9 : x13_4 = true
      ·subst c9
       have H1 : (if 0 ≤ x4_1 then (if x4_1 < (l0.length : Int) then (if ((rd_T39 l0 x4_1).f0) = 4 then ((spec_l05End.f kj4 l0 x4_1).bind fun t162 => (spec_MustWrite.l0 kj4 l0 x3_1 (wrap64 (t162 + 1)))) else ((spec_l07Writes.f ((rd_T39 l0 x4_1).f0) ((rd_T39 l0 x4_1).f1) ((rd_T39 l0 x4_1).f2) ((rd_T39 l0 x4_1).f3.f0) ((rd_T39 l0 x4_1).f3.f1) ((rd_T39 l0 x4_1).f3.f2)).bind fun t164 => (if t164 = true then (if 0 ≤ ((rd_T39 l0 x4_1).f1) then (if ((rd_T39 l0 x4_1).f1) < (x3_1.length : Int) then (spec_MustWrite.l0 kj4 l0 (x3_1.set (((rd_T39 l0 x4_1).f1) : Int).toNat true) (wrap64 (x4_1 + 1))) else (none)) else (none)) else (spec_MustWrite.l0 kj4 l0 x3_1 (wrap64 (x4_1 + 1)))))) else (none)) else (none)) = some r := by rw [if_pos rfl] at H; exact H
       clear H
       have H := H1
       clear H1
       by_cases c10 : 0 ≤ x4_1
       ·rw [if_pos c10] at H
        have c10b0 : decide (0 ≤ x4_1) = true := decide_eq_true c10
        clear c10
        by_cases c11 : x4_1 < (l0.length : Int)
        ·rw [if_pos c11] at H
         have c11b0 : decide (x4_1 < (l0.length : Int)) = true := decide_eq_true c11
         clear c11
         by_cases c12 : ((rd_T39 l0 x4_1).f0) = 4
         ·rw [if_pos c12] at H
          have c12b0 : (((rd_T39 l0 x4_1).f0) == 4) = true := beq_iff_eq.mpr c12
          have c12b1 : (((rd_T39 l0 x4_1).f0) != 4) = false := bne_eq_false_iff_eq.mpr c12
          clear c12
          replace H := Option.bind_eq_some_iff.mp H
          obtain ⟨t162, A130, H⟩ := H
          replace H : (spec_MustWrite.l0 kj4 l0 x3_1 (wrap64 (t162 + 1))) = some r := H
          have A13 := zM A130
          clear A130
          have H' := zM H
          clear H
          have p161 : 0 ≤ (x4_1 : Int) := zd
          have q161 : x4_1 < (l0.length : Int) := zd
          obtain ⟨ad161, e161, hx161_0, hx161_1, hx161_2, hx161_3, hx161_4, hx161_5⟩ := at_T39 HR0.out x4_1 p161 q161
          cases e161
          replace hx161_0 := (HB.out.cell (World.block_lt_of_cell? w _ hx161_0)).trans hx161_0
          replace hx161_1 := (HB.out.cell (World.block_lt_of_cell? w _ hx161_1)).trans hx161_1
          replace hx161_2 := (HB.out.cell (World.block_lt_of_cell? w _ hx161_2)).trans hx161_2
          replace hx161_3 := (HB.out.cell (World.block_lt_of_cell? w _ hx161_3)).trans hx161_3
          replace hx161_4 := (HB.out.cell (World.block_lt_of_cell? w _ hx161_4)).trans hx161_4
          replace hx161_5 := (HB.out.cell (World.block_lt_of_cell? w _ hx161_5)).trans hx161_5
          replace p161 := eq_true p161
          replace q161 := eq_true q161
          go_wp2_with (first | ((with_reducible refine gate_callee (f := 53) rfl ?_); refine goesL_ (some 24) rfl rfl Try.func53 (by kernel_rfl) rfl #[.slice (some ad161) l0.length c0, .int .i64 x4_1] rfl zg ?_; (with_reducible refine (spec_l05End.calls kj4 _ _ l0 x4_1 t162 _ ?side1 ?side2 A13.out).mono ?_); (case side1 => repeat (first | exact (zX HR0.out HB.out) | (with_reducible refine zF ?_ _) | (with_reducible refine zG ?_ _) | (with_reducible refine zH ?_))); (case side2 => exact HC0.out); rintro e w14 ⟨rfl, hb⟩; refine ⟨_, rfl, ?_⟩; have n0_ := zM (ze (by (with_reducible repeat (first | apply zI | apply zJ | apply zK)); exact HO_3.out) hb); have n1_ := zM (zQ zb hb); clear HO_3; clear HB; have HO_3 := n0_; have HB := n1_; clear n0_ n1_; (try clear hb)))
          go_roundg kj4
          case measure => have := HK1.out; have := HJ4.out; omega
          case rel => exact ⟨(x3_1), (wrap64 (t162 + 1)), zs, H', ⟨by have := HK1.out; have := HJ4.out; omega⟩, ⟨by (with_reducible repeat (first | apply zI | apply zJ | apply zK)); exact HO_3.out⟩, ⟨zb⟩⟩
         ·rw [if_neg c12] at H
          have c12b0 : (((rd_T39 l0 x4_1).f0) == 4) = false := beq_eq_false_iff_ne.mpr c12
          have c12b1 : (((rd_T39 l0 x4_1).f0) != 4) = true := bne_iff_ne.mpr c12
          replace H := Option.bind_eq_some_iff.mp H
          obtain ⟨t164, A150, H⟩ := H
          replace H : (if t164 = true then (if 0 ≤ ((rd_T39 l0 x4_1).f1) then (if ((rd_T39 l0 x4_1).f1) < (x3_1.length : Int) then (spec_MustWrite.l0 kj4 l0 (x3_1.set (((rd_T39 l0 x4_1).f1) : Int).toNat true) (wrap64 (x4_1 + 1))) else (none)) else (none)) else (spec_MustWrite.l0 kj4 l0 x3_1 (wrap64 (x4_1 + 1)))) = some r := H
          have A15 := zM A150
          clear A150
          by_cases c16 : t164 = true
          ·subst c16
           have H1 : (if 0 ≤ ((rd_T39 l0 x4_1).f1) then (if ((rd_T39 l0 x4_1).f1) < (x3_1.length : Int) then (spec_MustWrite.l0 kj4 l0 (x3_1.set (((rd_T39 l0 x4_1).f1) : Int).toNat true) (wrap64 (x4_1 + 1))) else (none)) else (none)) = some r := by rw [if_pos rfl] at H; exact H
           clear H
           have H := H1
           clear H1
           by_cases c17 : 0 ≤ ((rd_T39 l0 x4_1).f1)
           ·rw [if_pos c17] at H
            have c17b0 : decide (0 ≤ ((rd_T39 l0 x4_1).f1)) = true := decide_eq_true c17
            clear c17
            by_cases c18 : ((rd_T39 l0 x4_1).f1) < (x3_1.length : Int)
            ·rw [if_pos c18] at H
             have c18b0 : decide (((rd_T39 l0 x4_1).f1) < (x3_1.length : Int)) = true := decide_eq_true c18
             clear c18
             obtain ⟨y166, hyq⟩ : ∃ y_ : List Bool, y_ = (x3_1.set (((rd_T39 l0 x4_1).f1) : Int).toNat true) := ⟨_, rfl⟩
             replace H : (spec_MustWrite.l0 kj4 l0 y166 (wrap64 (x4_1 + 1))) = some r := zh
             have Ny166 := zM hyq
             clear hyq
             have H' := zM H
             clear H
             have p161 : 0 ≤ (x4_1 : Int) := zd
             have q161 : x4_1 < (l0.length : Int) := zd
             obtain ⟨ad161, e161, hx161_0, hx161_1, hx161_2, hx161_3, hx161_4, hx161_5⟩ := at_T39 HR0.out x4_1 p161 q161
             cases e161
             replace hx161_0 := (HB.out.cell (World.block_lt_of_cell? w _ hx161_0)).trans hx161_0
             replace hx161_1 := (HB.out.cell (World.block_lt_of_cell? w _ hx161_1)).trans hx161_1
             replace hx161_2 := (HB.out.cell (World.block_lt_of_cell? w _ hx161_2)).trans hx161_2
             replace hx161_3 := (HB.out.cell (World.block_lt_of_cell? w _ hx161_3)).trans hx161_3
             replace hx161_4 := (HB.out.cell (World.block_lt_of_cell? w _ hx161_4)).trans hx161_4
             replace hx161_5 := (HB.out.cell (World.block_lt_of_cell? w _ hx161_5)).trans hx161_5
             replace p161 := eq_true p161
             replace q161 := eq_true q161
             have p163 : 0 ≤ (x4_1 : Int) := zd
             have q163 : x4_1 < (l0.length : Int) := zd
             obtain ⟨ad163, e163, hx163_0, hx163_1, hx163_2, hx163_3, hx163_4, hx163_5⟩ := at_T39 HR0.out x4_1 p163 q163
             obtain rfl : ad161 = ad163 := (by injection e163)
             replace hx163_0 := (HB.out.cell (World.block_lt_of_cell? w _ hx163_0)).trans hx163_0
             replace hx163_1 := (HB.out.cell (World.block_lt_of_cell? w _ hx163_1)).trans hx163_1
             replace hx163_2 := (HB.out.cell (World.block_lt_of_cell? w _ hx163_2)).trans hx163_2
             replace hx163_3 := (HB.out.cell (World.block_lt_of_cell? w _ hx163_3)).trans hx163_3
             replace hx163_4 := (HB.out.cell (World.block_lt_of_cell? w _ hx163_4)).trans hx163_4
             replace hx163_5 := (HB.out.cell (World.block_lt_of_cell? w _ hx163_5)).trans hx163_5
             replace p163 := eq_true p163
             replace q163 := eq_true q163
             go_wp2_with (first | ((with_reducible refine gate_callee (f := 46) rfl ?_); refine goesL_ (some 29) rfl rfl Try.func46 (by kernel_rfl) rfl #[.agg #[.int .i64 ((rd_T39 l0 x4_1).f0), .int .i64 ((rd_T39 l0 x4_1).f1), .int .i64 ((rd_T39 l0 x4_1).f2), .int .i64 ((rd_T39 l0 x4_1).f3.f0), .int .i64 ((rd_T39 l0 x4_1).f3.f1), .int .i64 ((rd_T39 l0 x4_1).f3.f2)]] rfl zg ?_; (with_reducible refine (spec_l07Writes.calls ((rd_T39 l0 x4_1).f0) ((rd_T39 l0 x4_1).f1) ((rd_T39 l0 x4_1).f2) ((rd_T39 l0 x4_1).f3.f0) ((rd_T39 l0 x4_1).f3.f1) ((rd_T39 l0 x4_1).f3.f2) true _ A15.out).mono ?_); rintro e w20 ⟨rfl, hb⟩; refine ⟨_, rfl, ?_⟩; have n0_ := zM (ze (by (with_reducible repeat (first | apply zI | apply zJ | apply zK)); exact HO_3.out) hb); have n1_ := zM (zQ zb hb); clear HO_3; clear HB; have HO_3 := n0_; have HB := n1_; clear n0_ n1_; (try clear hb); have p165 : 0 ≤ (x4_1 : Int) := zd; have q165 : x4_1 < (l0.length : Int) := zd; obtain ⟨ad165, e165, hx165_0, hx165_1, hx165_2, hx165_3, hx165_4, hx165_5⟩ := at_T39 HR0.out x4_1 p165 q165; obtain rfl : ad161 = ad165 := (by injection e165); replace hx165_0 := (HB.out.cell (World.block_lt_of_cell? w _ hx165_0)).trans hx165_0; replace hx165_1 := (HB.out.cell (World.block_lt_of_cell? w _ hx165_1)).trans hx165_1; replace hx165_2 := (HB.out.cell (World.block_lt_of_cell? w _ hx165_2)).trans hx165_2; replace hx165_3 := (HB.out.cell (World.block_lt_of_cell? w _ hx165_3)).trans hx165_3; replace hx165_4 := (HB.out.cell (World.block_lt_of_cell? w _ hx165_4)).trans hx165_4; replace hx165_5 := (HB.out.cell (World.block_lt_of_cell? w _ hx165_5)).trans hx165_5; replace p165 := eq_true p165; replace q165 := eq_true q165; have p19 : 0 ≤ (((rd_T39 l0 x4_1).f1) : Int) := zd; have q19 : (((rd_T39 l0 x4_1).f1) : Int) < ((x3_1.length : Int) : Int) := zd; obtain ⟨go19, co19, eo19, gb19, gl19, cl19, HG19⟩ := Kd.R_form HO_3.out (by omega); (first | cases eo19 | (injection eo19 with ea_ en_ ec_; (first | subst ea_ | (injection ea_ with ea_; subst ea_)); subst ec_; clear en_)); have GB19 := zM gb19; have GG19 := zM HG19; clear gb19 gl19 HG19; obtain ⟨hx19_0, hf19_0⟩ := Kd.R_celln false HO_3.out (((rd_T39 l0 x4_1).f1) : Int) p19 q19; replace p19 := eq_true p19; replace q19 := eq_true q19; obtain ⟨hy21_, hz21_⟩ := Kd.R_celln false HO_3.out (((rd_T39 l0 x4_1).f1) : Int) (zd) (zd); have HP21 := Kd.R_putg HO_3.out (((rd_T39 l0 x4_1).f1) : Int) true) | ((with_reducible refine gate_store (t := 4) (p := 36) rfl ?_); refine store_event (t := 4) (p := 36) (v := ?vo_w22) (w1 := (w20.setCell ⟨go19, (((rd_T39 l0 x4_1).f1) : Int).toNat, none⟩ (.bool true))) ?hg ?ho ?hn ?hr ?_; (case ho => rfl); (case hg => rfl); (case hn => rfl); (case hr => first | (go_simp; done) | (go_simp; rfl)); intro w22 hw; have hg : w20.grownBy w22 (some go19) := (by rw [hw]; exact HP21.2); have hp_ : Kd.R Kd.bool 4 w22 w.heap.size (fun _ => True) (.slice (some ⟨go19, 0, none⟩) x3_1.length co19) y166 := (by rw [hw, Ny166.out]; exact HP21.1); clear HP21; have n0_ := zM (hp_); have n1_ := zM ((by rw [hw]; exact zS (HB.out) GB19.out : Below w.heap.size w w22)); clear HO_3; clear HB; have HO_3 := n0_; have HB := n1_; clear n0_ n1_; clear hg hw hp_))
             go_roundg kj4
             case measure => have := HK1.out; have := HJ4.out; omega
             case rel => exact ⟨(y166), (wrap64 (x4_1 + 1)), zs, H', ⟨by have := HK1.out; have := HJ4.out; omega⟩, ⟨by (with_reducible repeat (first | apply zI | apply zJ | apply zK)); exact HO_3.out⟩, ⟨zb⟩⟩
            ·rw [if_neg c18] at H
             exact absurd H (by simp)
           ·rw [if_neg c17] at H
            exact absurd H (by simp)
          ·replace c16 := Bool.eq_false_iff.mpr c16
           subst c16
           have H1 : (spec_MustWrite.l0 kj4 l0 x3_1 (wrap64 (x4_1 + 1))) = some r := by rw [if_neg (show ¬ (false = true) by decide)] at H; exact H
           clear H
           have H := H1
           clear H1
           have H' := zM H
           clear H
           have p161 : 0 ≤ (x4_1 : Int) := zd
           have q161 : x4_1 < (l0.length : Int) := zd
           obtain ⟨ad161, e161, hx161_0, hx161_1, hx161_2, hx161_3, hx161_4, hx161_5⟩ := at_T39 HR0.out x4_1 p161 q161
           cases e161
           replace hx161_0 := (HB.out.cell (World.block_lt_of_cell? w _ hx161_0)).trans hx161_0
           replace hx161_1 := (HB.out.cell (World.block_lt_of_cell? w _ hx161_1)).trans hx161_1
           replace hx161_2 := (HB.out.cell (World.block_lt_of_cell? w _ hx161_2)).trans hx161_2
           replace hx161_3 := (HB.out.cell (World.block_lt_of_cell? w _ hx161_3)).trans hx161_3
           replace hx161_4 := (HB.out.cell (World.block_lt_of_cell? w _ hx161_4)).trans hx161_4
           replace hx161_5 := (HB.out.cell (World.block_lt_of_cell? w _ hx161_5)).trans hx161_5
           replace p161 := eq_true p161
           replace q161 := eq_true q161
           have p163 : 0 ≤ (x4_1 : Int) := zd
           have q163 : x4_1 < (l0.length : Int) := zd
           obtain ⟨ad163, e163, hx163_0, hx163_1, hx163_2, hx163_3, hx163_4, hx163_5⟩ := at_T39 HR0.out x4_1 p163 q163
           obtain rfl : ad161 = ad163 := (by injection e163)
           replace hx163_0 := (HB.out.cell (World.block_lt_of_cell? w _ hx163_0)).trans hx163_0
           replace hx163_1 := (HB.out.cell (World.block_lt_of_cell? w _ hx163_1)).trans hx163_1
           replace hx163_2 := (HB.out.cell (World.block_lt_of_cell? w _ hx163_2)).trans hx163_2
           replace hx163_3 := (HB.out.cell (World.block_lt_of_cell? w _ hx163_3)).trans hx163_3
           replace hx163_4 := (HB.out.cell (World.block_lt_of_cell? w _ hx163_4)).trans hx163_4
           replace hx163_5 := (HB.out.cell (World.block_lt_of_cell? w _ hx163_5)).trans hx163_5
           replace p163 := eq_true p163
           replace q163 := eq_true q163
           go_wp2_with (first | ((with_reducible refine gate_callee (f := 46) rfl ?_); refine goesL_ (some 29) rfl rfl Try.func46 (by kernel_rfl) rfl #[.agg #[.int .i64 ((rd_T39 l0 x4_1).f0), .int .i64 ((rd_T39 l0 x4_1).f1), .int .i64 ((rd_T39 l0 x4_1).f2), .int .i64 ((rd_T39 l0 x4_1).f3.f0), .int .i64 ((rd_T39 l0 x4_1).f3.f1), .int .i64 ((rd_T39 l0 x4_1).f3.f2)]] rfl zg ?_; (with_reducible refine (spec_l07Writes.calls ((rd_T39 l0 x4_1).f0) ((rd_T39 l0 x4_1).f1) ((rd_T39 l0 x4_1).f2) ((rd_T39 l0 x4_1).f3.f0) ((rd_T39 l0 x4_1).f3.f1) ((rd_T39 l0 x4_1).f3.f2) false _ A15.out).mono ?_); rintro e w23 ⟨rfl, hb⟩; refine ⟨_, rfl, ?_⟩; have n0_ := zM (ze (by (with_reducible repeat (first | apply zI | apply zJ | apply zK)); exact HO_3.out) hb); have n1_ := zM (zQ zb hb); clear HO_3; clear HB; have HO_3 := n0_; have HB := n1_; clear n0_ n1_; (try clear hb)))
           go_roundg kj4
           case measure => have := HK1.out; have := HJ4.out; omega
           case rel => exact ⟨(x3_1), (wrap64 (x4_1 + 1)), zs, H', ⟨by have := HK1.out; have := HJ4.out; omega⟩, ⟨by (with_reducible repeat (first | apply zI | apply zJ | apply zK)); exact HO_3.out⟩, ⟨zb⟩⟩
        ·rw [if_neg c11] at H
         exact absurd H (by simp)
       ·rw [if_neg c10] at H
        exact absurd H (by simp)
      ·replace c9 := Bool.eq_false_iff.mpr c9
       subst c9
       have H1 : ((spec_l07List.f kj4 x3_1).bind fun t158 => (some t158)) = some r := by rw [if_neg (show ¬ (false = true) by decide)] at H; exact H
       clear H
       have H := H1
       clear H1
       replace H := Option.bind_eq_some_iff.mp H
       obtain ⟨t158, A240, H⟩ := H
       replace H : (some t158) = some r := H
       have A24 := zM A240
       clear A240
       obtain rfl := Option.some.inj H
       obtain ⟨Ao25, co25, eo25⟩ := Kd.R_slice HO_3.out
       subst eo25
       go_wp2_with (first | ((with_reducible refine gate_callee (f := 47) rfl ?_); refine goesL_ (some 38) rfl rfl Try.func47 (by kernel_rfl) rfl #[.slice Ao25 x3_1.length co25] rfl zg ?_; (with_reducible refine (spec_l07List.calls kj4 _ _ x3_1 t158 _ ?side1 ?side2 A24.out).mono ?_); (case side1 => repeat (first | exact (z9 HO_3.out).2.2 | (with_reducible refine zF ?_ _) | (with_reducible refine zG ?_ _) | (with_reducible refine zH ?_))); (case side2 => exact (z9 HO_3.out).2.1); rintro e w26 ⟨v159, rfl, ho0, hb⟩; refine ⟨_, rfl, ?_⟩; have n0_ := zM (ze (by (with_reducible repeat (first | apply zI | apply zJ | apply zK)); exact HO_3.out) hb); have n1_ := zM (zf ho0 (zR zb)); have n2_ := zM (zQ zb hb); clear HO_3; clear HB; have HO_3 := n0_; have HO160 := n1_; have HB := n2_; clear n0_ n1_ n2_; (try clear hb); (try clear ho0)))
       go_ret
       exact ⟨_, by first | rfl | (simp [errW_none, errW_some] <;> rfl) | (simp [*, errW_none, errW_some] <;> rfl), by (with_reducible repeat (first | apply zI | apply zJ | apply zK)); exact HO160.out, zb⟩
 ·rw [if_neg c2] at H
  exact absurd H (by simp)

/-! ### spec_ReadsOf: function 89 -/
mutual
def spec_ReadsOf.l0 : Nat → List Int → Int → Int → Int → Int → Option (List Int)
 | 0, _, _, _, _, _ => none
 | k + 1, x3, x4, x168000, x168001, x168002 => if x4 < 8 then ((spec_ExprOk.f x168000 x168001 x168002).bind fun t171 => (spec_ReadsOf.j1 k x3 x4 t171 x168000 x168001 x168002)) else (spec_ReadsOf.j1 k x3 x4 false x168000 x168001 x168002)
def spec_ReadsOf.j1 : Nat → List Int → Int → Bool → Int → Int → Int → Option (List Int)
 | 0, _, _, _, _, _, _ => none
 | k + 1, x3, x4, x11, x168000, x168001, x168002 => if x11 = true then (if x168001 = (wrap64 ((-1) - x4)) then (if x3.length < 17592186044416 then (spec_ReadsOf.l0 k (x3 ++ [x4]) (wrap64 (x4 + 1)) x168000 x168001 x168002) else (none)) else (if x168002 = (wrap64 ((-1) - x4)) then (if x3.length < 17592186044416 then (spec_ReadsOf.l0 k (x3 ++ [x4]) (wrap64 (x4 + 1)) x168000 x168001 x168002) else (none)) else (spec_ReadsOf.l0 k x3 (wrap64 (x4 + 1)) x168000 x168001 x168002))) else (some x3)
end
def spec_ReadsOf.f (k : Nat) (a0_0 : Int) (a0_1 : Int) (a0_2 : Int) : Option (List Int) := spec_ReadsOf.l0 k (([] : List Int)) 0 a0_0 a0_1 a0_2
theorem spec_ReadsOf.mono_l : ∀ k, (∀ y0 y1 y2 y3 y4, LeO (spec_ReadsOf.l0 k y0 y1 y2 y3 y4) (spec_ReadsOf.l0 (k + 1) y0 y1 y2 y3 y4)) ∧ (∀ y0 y1 y2 y3 y4 y5, LeO (spec_ReadsOf.j1 k y0 y1 y2 y3 y4 y5) (spec_ReadsOf.j1 (k + 1) y0 y1 y2 y3 y4 y5))
 | 0 => ⟨fun _ _ _ _ _ r h => by simp [spec_ReadsOf.l0] at h, fun _ _ _ _ _ _ r h => by simp [spec_ReadsOf.j1] at h⟩
 | k + 1 => by
  obtain ⟨ih0, ih1⟩ := spec_ReadsOf.mono_l k
  refine ⟨?_, ?_⟩
  ·intro y0 y1 y2 y3 y4
   unfold spec_ReadsOf.l0
   repeat' first
   | (with_reducible exact ih0 _ _ _ _ _)
   | (with_reducible exact ih1 _ _ _ _ _ _)
   | (with_reducible exact LeO.refl _)
   | (with_reducible exact LeO.none _)
   | (with_reducible refine LeO.ite ?_ ?_)
   | (with_reducible refine LeO.bind ?_ (fun _ => ?_))
   | exact ih0 _ _ _ _ _
   | exact ih1 _ _ _ _ _ _
   | exact LeO.none _
   | refine LeO.ite ?_ ?_
   | refine LeO.bind ?_ (fun _ => ?_)
  ·intro y0 y1 y2 y3 y4 y5
   unfold spec_ReadsOf.j1
   repeat' first
   | (with_reducible exact ih0 _ _ _ _ _)
   | (with_reducible exact ih1 _ _ _ _ _ _)
   | (with_reducible exact LeO.refl _)
   | (with_reducible exact LeO.none _)
   | (with_reducible refine LeO.ite ?_ ?_)
   | (with_reducible refine LeO.bind ?_ (fun _ => ?_))
   | exact ih0 _ _ _ _ _
   | exact ih1 _ _ _ _ _ _
   | exact LeO.none _
   | refine LeO.ite ?_ ?_
   | refine LeO.bind ?_ (fun _ => ?_)
theorem spec_ReadsOf.mono : ∀ a0 a1 a2 k, LeO (spec_ReadsOf.f k a0 a1 a2) (spec_ReadsOf.f (k + 1) a0 a1 a2) := by
 intro a0 a1 a2 k
 obtain ⟨ih0, ih1⟩ := spec_ReadsOf.mono_l k
 unfold spec_ReadsOf.f
 repeat' first
   | (with_reducible exact ih0 _ _ _ _ _)
   | (with_reducible exact ih1 _ _ _ _ _ _)
   | (with_reducible exact LeO.refl _)
   | (with_reducible exact LeO.none _)
   | (with_reducible refine LeO.ite ?_ ?_)
   | (with_reducible refine LeO.bind ?_ (fun _ => ?_))
   | exact ih0 _ _ _ _ _
   | exact ih1 _ _ _ _ _ _
   | exact LeO.none _
   | refine LeO.ite ?_ ?_
   | refine LeO.bind ?_ (fun _ => ?_)
set_option maxHeartbeats 8000000 in
set_option maxRecDepth 100000 in
theorem spec_ReadsOf.calls (k : Nat) (a0_0 : Int) (a0_1 : Int) (a0_2 : Int) (r : List Int) (w : World) (h : spec_ReadsOf.f k a0_0 a0_1 a0_2 = some r) :
  Calls Try.prog 89 #[.agg #[.int .i64 a0_0, .int .i64 a0_1, .int .i64 a0_2]] w fun e w' => ∃ v0_ : Value, e = .returned (v0_) ∧ Kd.R (Kd.int .i64) 3 w' w.heap.size (fun _ => True) v0_ r ∧ Below w.heap.size w w' := by
 have hu37 := Try.underlying37
 have HB := zM (Below.refl w.heap.size w)
 have H : (spec_ReadsOf.l0 k (([] : List Int)) 0 a0_0 a0_1 a0_2) = some r := h
 clear h
 obtain ⟨y168, hyq⟩ : ∃ y_ : List Int, y_ = (([] : List Int)) := ⟨_, rfl⟩
 replace H : (spec_ReadsOf.l0 k y168 0 a0_0 a0_1 a0_2) = some r := zh
 have Ny168 := zM hyq
 clear hyq
 have H' := zM H
 clear H
 go_enter Try.func89, Try.ntmps89
 go_wp2_with (first | ((with_reducible refine gate_dst (N := 1) rfl ?_); refine box_event ?hg (N := 1) ?hd (cs := #[.int .i64 a0_0, .int .i64 a0_1, .int .i64 a0_2]) (t := 37) ?hr ?_; (case hd => rfl); (case hg => rfl); (case hr => first | (go_simp; done) | (go_simp; rfl)); intro gb167 hg w2 hbox hb; have n0_ := zM (zQ zb hb); have n1_ := zM (hbox); have n2_ := zM ((by rw [hg]; exact (zR zb) : w.heap.size ≤ gb167)); have n3_ := zM ((by rw [hg]; exact (zR zb) : w.heap.size ≤ gb167)); clear HB; have HB := n0_; have BK167 := n1_; have GW167 := n2_; have GE167 := n3_; clear n0_ n1_ n2_ n3_; clear hb hbox hg) | ((with_reducible refine gate_dst (N := 5) rfl ?_); refine Kd.R_lit (Kd.int .i64) _ 3 ?hg (N := 5) ?hd (xs := ([] : List Int)) (inner := []) (ok := fun _ => True) (okp := fun _ => True) ?hr ?hp (fun _ hk => hk) trivial (Below.refl _ _) (Nat.le_refl _) (by simp) ?_; (case hd => rfl); (case hg => rfl); (case hr => first | (go_simp; done) | (go_simp; rfl)); (case hp => exact (Reps.none _ _)); intro v169 w3 ho4 hb hg_ hnew_; clear hg_ hnew_; (first | rw [← Ny168.out] at ho4 | (simp only [Int.reduceToNat] at ho4; rw [← Ny168.out] at ho4)); have n0_ := zM (zf ho4 (zR zb)); have n1_ := zM (z7 (g := gb167) (o := .cells #[.int .i64 a0_0, .int .i64 a0_1, .int .i64 a0_2] 37 (0, 0)) zk hb); have n2_ := zM (zQ zb hb); clear BK167; clear HB; have HO170 := n0_; have BK167 := n1_; have HB := n2_; clear n0_ n1_ n2_; clear hb ho4))
 go_loopg [3, 4] k (fun kq v3 v4 w' => ∃ (x3_1 : List Int) (x4_1 : Int), v4 = .int .i64 x4_1 ∧ Aside0 (spec_ReadsOf.l0 kq x3_1 x4_1 a0_0 a0_1 a0_2 = some r) ∧ Aside0 (kq ≤ k) ∧ Aside0 (Kd.R (Kd.int .i64) 3 w' w.heap.size (fun _ => True) v3 x3_1) ∧ Aside0 (w'.heap[gb167]? = some (.cells #[.int .i64 a0_0, .int .i64 a0_1, .int .i64 a0_2] 37 (0, 0))) ∧ Aside0 (Below w.heap.size w w'))
 case atStart => exact ⟨(y168), (0), zs, H', ⟨Nat.le_refl _⟩, ⟨by (with_reducible repeat (first | apply zI | apply zJ | apply zK)); exact HO170.out⟩, ⟨zk⟩, ⟨zb⟩⟩
 case round =>
  clear H'
  try clear p2
  obtain ⟨x3_1, x4_1, rfl, HA, HK1, HO_3, BK167, HB⟩ := hrel
  cases gk with
  | zero => exact absurd HA.out (by simp [spec_ReadsOf.l0])
  | succ k1 =>
   have H := HA.out
   clear HA
   simp only [spec_ReadsOf.l0] at H
   have HC5 := zM H
   clear H
   go_upto_region 3 with (fail)
   go_cut [11] (fun v11 wc => ∃ (kq : Nat) (x11_4 : Bool), v11 = .bool x11_4 ∧ Aside0 (spec_ReadsOf.j1 kq x3_1 x4_1 x11_4 a0_0 a0_1 a0_2 = some r) ∧ Aside0 (kq ≤ k1) ∧ Aside0 (Kd.R (Kd.int .i64) 3 wc w.heap.size (fun _ => True) u3 x3_1) ∧ Aside0 (wc.heap[gb167]? = some (.cells #[.int .i64 a0_0, .int .i64 a0_1, .int .i64 a0_2] 37 (0, 0))) ∧ Aside0 (Below w.heap.size w wc))
   case first =>
    have H := HC5.out
    clear HC5
    by_cases c6 : x4_1 < 8
    ·rw [if_pos c6] at H
     have c6b0 : decide (x4_1 < 8) = true := decide_eq_true c6
     clear c6
     (first | rw [c6b0] | (simp only [i64_w, i32_w]; rw [c6b0]) | skip)
     replace H := Option.bind_eq_some_iff.mp H
     obtain ⟨t171, A70, H⟩ := H
     replace H : (spec_ReadsOf.j1 k1 x3_1 x4_1 t171 a0_0 a0_1 a0_2) = some r := H
     have A7 := zM A70
     clear A70
     have H' := zM H
     clear H
     have hcz8_0 := (z5 BK167.out 0).trans rfl
     have hcz8_1 := (z5 BK167.out 1).trans rfl
     have hcz8_2 := (z5 BK167.out 2).trans rfl
     have hfz8_0 := z6 BK167.out 0
     have hfz8_1 := z6 BK167.out 1
     have hfz8_2 := z6 BK167.out 2
     go_wp2_with (first | (go_at_call 59; (with_reducible refine (spec_ExprOk.calls a0_0 a0_1 a0_2 t171 _ A7.out).mono ?_); rintro e w9 ⟨rfl, hb⟩; have n0_ := zM (ze (by (with_reducible repeat (first | apply zI | apply zJ | apply zK)); exact HO_3.out) hb); have n1_ := zM (z7 (g := gb167) (o := .cells #[.int .i64 a0_0, .int .i64 a0_1, .int .i64 a0_2] 37 (0, 0)) zk hb); have n2_ := zM (zQ zb hb); clear HO_3; clear BK167; clear HB; have HO_3 := n0_; have BK167 := n1_; have HB := n2_; clear n0_ n1_ n2_; (try clear hb)))
     go_meet
     case rel => exact ⟨_, (t171), zs, H', ⟨by have := HK1.out; first | omega | exact Nat.le_refl _⟩, ⟨by (with_reducible repeat (first | apply zI | apply zJ | apply zK)); exact HO_3.out⟩, ⟨zk⟩, ⟨zb⟩⟩
    ·rw [if_neg c6] at H
     have c6b0 : decide (x4_1 < 8) = false := decide_eq_false c6
     clear c6
     (first | rw [c6b0] | (simp only [i64_w, i32_w]; rw [c6b0]) | skip)
     have H' := zM H
     clear H
     go_wp2
     go_meet
     case rel => exact ⟨_, (false), zs, H', ⟨by have := HK1.out; first | omega | exact Nat.le_refl _⟩, ⟨by (with_reducible repeat (first | apply zI | apply zJ | apply zK)); exact HO_3.out⟩, ⟨zk⟩, ⟨zb⟩⟩
   case rest =>
    clear HC5
    try clear p2
    try clear c6
    try clear c6b0
    try clear c8
    try clear hcz8_0
    try clear hcz8_1
    try clear hcz8_2
    try clear hfz8_0
    try clear hfz8_1
    try clear hfz8_2
    try clear p2
    obtain ⟨kq, x11_4, rfl, HA, HJ4, HO_3, BK167, HB⟩ := hcut
    cases kq with
    | zero => exact absurd HA.out (by simp [spec_ReadsOf.j1])
    | succ kj4 =>
     have H := HA.out
     clear HA
     simp only [spec_ReadsOf.j1] at H
     by_cases c10 : x11_4 = true
     ·subst c10
      have H1 : (if a0_1 = (wrap64 ((-1) - x4_1)) then (if x3_1.length < 17592186044416 then (spec_ReadsOf.l0 kj4 (x3_1 ++ [x4_1]) (wrap64 (x4_1 + 1)) a0_0 a0_1 a0_2) else (none)) else (if a0_2 = (wrap64 ((-1) - x4_1)) then (if x3_1.length < 17592186044416 then (spec_ReadsOf.l0 kj4 (x3_1 ++ [x4_1]) (wrap64 (x4_1 + 1)) a0_0 a0_1 a0_2) else (none)) else (spec_ReadsOf.l0 kj4 x3_1 (wrap64 (x4_1 + 1)) a0_0 a0_1 a0_2))) = some r := by rw [if_pos rfl] at H; exact H
      clear H
      have H := H1
      clear H1
      by_cases c11 : a0_1 = (wrap64 ((-1) - x4_1))
      ·rw [if_pos c11] at H
       have c11b0 : (a0_1 == (wrap64 ((-1) - x4_1))) = true := beq_iff_eq.mpr c11
       have c11b1 : (a0_1 != (wrap64 ((-1) - x4_1))) = false := bne_eq_false_iff_eq.mpr c11
       clear c11
       by_cases c12 : x3_1.length < 17592186044416
       ·rw [if_pos c12] at H
        have LMc12 := zM c12
        clear c12
        obtain ⟨y172, hyq⟩ : ∃ y_ : List Int, y_ = (x3_1 ++ [x4_1]) := ⟨_, rfl⟩
        replace H : (spec_ReadsOf.l0 kj4 y172 (wrap64 (x4_1 + 1)) a0_0 a0_1 a0_2) = some r := zh
        have Ny172 := zM hyq
        clear hyq
        have H' := zM H
        clear H
        have hcz13_0 := (z5 BK167.out 0).trans rfl
        have hcz13_1 := (z5 BK167.out 1).trans rfl
        have hcz13_2 := (z5 BK167.out 2).trans rfl
        have hfz13_0 := z6 BK167.out 0
        have hfz13_1 := z6 BK167.out 1
        have hfz13_2 := z6 BK167.out 2
        go_wp2_with (first | ((with_reducible refine gate_builtin (b := .append) (xs := #[.tmp 26, .tmp 28]) rfl ?_); at_builtin; refine Kd.R_append (Kd.int .i64) (w0 := w) w.heap.size rfl (.tmp 26) (.tmp 28) 24 3 (.int .i64 0) 8 rfl Try.underlying24 info3 rfl (by decide) (by omega) u3 x3_1 x4_1 [.int .i64 x4_1] (fun _ => True) (fun _ => False) rfl rfl ?aP (fun _ hk => hk.elim) ?aF ?aO ?aB ?aS ?aL ?_; (case aP => exact rfl); (case aB => exact zb); (case aF => exact (fun _ _ => trivial)); (case aO => exact (by (with_reducible repeat (first | apply zI | apply zJ | apply zK)); exact HO_3.out)); (case aS => exact (zR zb)); (case aL => have := LMc12.out; omega); intro v173 w14 ho hb hg hat; (first | rw [← Ny172.out] at ho | (simp only [Int.reduceToNat] at ho; rw [← Ny172.out] at ho)); have n0_ := zM (blk_grown (g := gb167) (o := .cells #[.int .i64 a0_0, .int .i64 a0_1, .int .i64 a0_2] 37 (0, 0)) zk hg (Kd.R_ne HO_3.out BK167.out (by decide))); have n1_ := zM (hb); have n2_ := zM (ho); clear BK167; clear HB; clear HO_3; have BK167 := n0_; have HB := n1_; have HO174 := n2_; clear n0_ n1_ n2_; clear ho hb hg hat))
        go_roundg kj4
        case measure => have := HK1.out; have := HJ4.out; omega
        case rel => exact ⟨(y172), (wrap64 (x4_1 + 1)), zs, H', ⟨by have := HK1.out; have := HJ4.out; omega⟩, ⟨by (with_reducible repeat (first | apply zI | apply zJ | apply zK)); exact HO174.out⟩, ⟨zk⟩, ⟨zb⟩⟩
       ·rw [if_neg c12] at H
        exact absurd H (by simp)
      ·rw [if_neg c11] at H
       have c11b0 : (a0_1 == (wrap64 ((-1) - x4_1))) = false := beq_eq_false_iff_ne.mpr c11
       have c11b1 : (a0_1 != (wrap64 ((-1) - x4_1))) = true := bne_iff_ne.mpr c11
       by_cases c15 : a0_2 = (wrap64 ((-1) - x4_1))
       ·rw [if_pos c15] at H
        have c15b0 : (a0_2 == (wrap64 ((-1) - x4_1))) = true := beq_iff_eq.mpr c15
        have c15b1 : (a0_2 != (wrap64 ((-1) - x4_1))) = false := bne_eq_false_iff_eq.mpr c15
        clear c15
        by_cases c16 : x3_1.length < 17592186044416
        ·rw [if_pos c16] at H
         have LMc16 := zM c16
         clear c16
         obtain ⟨y175, hyq⟩ : ∃ y_ : List Int, y_ = (x3_1 ++ [x4_1]) := ⟨_, rfl⟩
         replace H : (spec_ReadsOf.l0 kj4 y175 (wrap64 (x4_1 + 1)) a0_0 a0_1 a0_2) = some r := zh
         have Ny175 := zM hyq
         clear hyq
         have H' := zM H
         clear H
         have hcz17_0 := (z5 BK167.out 0).trans rfl
         have hcz17_1 := (z5 BK167.out 1).trans rfl
         have hcz17_2 := (z5 BK167.out 2).trans rfl
         have hfz17_0 := z6 BK167.out 0
         have hfz17_1 := z6 BK167.out 1
         have hfz17_2 := z6 BK167.out 2
         go_wp2_with (first | ((with_reducible refine gate_builtin (b := .append) (xs := #[.tmp 26, .tmp 28]) rfl ?_); at_builtin; refine Kd.R_append (Kd.int .i64) (w0 := w) w.heap.size rfl (.tmp 26) (.tmp 28) 24 3 (.int .i64 0) 8 rfl Try.underlying24 info3 rfl (by decide) (by omega) u3 x3_1 x4_1 [.int .i64 x4_1] (fun _ => True) (fun _ => False) rfl rfl ?aP (fun _ hk => hk.elim) ?aF ?aO ?aB ?aS ?aL ?_; (case aP => exact rfl); (case aB => exact zb); (case aF => exact (fun _ _ => trivial)); (case aO => exact (by (with_reducible repeat (first | apply zI | apply zJ | apply zK)); exact HO_3.out)); (case aS => exact (zR zb)); (case aL => have := LMc16.out; omega); intro v176 w18 ho hb hg hat; (first | rw [← Ny175.out] at ho | (simp only [Int.reduceToNat] at ho; rw [← Ny175.out] at ho)); have n0_ := zM (blk_grown (g := gb167) (o := .cells #[.int .i64 a0_0, .int .i64 a0_1, .int .i64 a0_2] 37 (0, 0)) zk hg (Kd.R_ne HO_3.out BK167.out (by decide))); have n1_ := zM (hb); have n2_ := zM (ho); clear BK167; clear HB; clear HO_3; have BK167 := n0_; have HB := n1_; have HO177 := n2_; clear n0_ n1_ n2_; clear ho hb hg hat))
         go_roundg kj4
         case measure => have := HK1.out; have := HJ4.out; omega
         case rel => exact ⟨(y175), (wrap64 (x4_1 + 1)), zs, H', ⟨by have := HK1.out; have := HJ4.out; omega⟩, ⟨by (with_reducible repeat (first | apply zI | apply zJ | apply zK)); exact HO177.out⟩, ⟨zk⟩, ⟨zb⟩⟩
        ·rw [if_neg c16] at H
         exact absurd H (by simp)
       ·rw [if_neg c15] at H
        have c15b0 : (a0_2 == (wrap64 ((-1) - x4_1))) = false := beq_eq_false_iff_ne.mpr c15
        have c15b1 : (a0_2 != (wrap64 ((-1) - x4_1))) = true := bne_iff_ne.mpr c15
        have H' := zM H
        clear H
        have hcz19_0 := (z5 BK167.out 0).trans rfl
        have hcz19_1 := (z5 BK167.out 1).trans rfl
        have hcz19_2 := (z5 BK167.out 2).trans rfl
        have hfz19_0 := z6 BK167.out 0
        have hfz19_1 := z6 BK167.out 1
        have hfz19_2 := z6 BK167.out 2
        go_wp2
        go_roundg kj4
        case measure => have := HK1.out; have := HJ4.out; omega
        case rel => exact ⟨(x3_1), (wrap64 (x4_1 + 1)), zs, H', ⟨by have := HK1.out; have := HJ4.out; omega⟩, ⟨by (with_reducible repeat (first | apply zI | apply zJ | apply zK)); exact HO_3.out⟩, ⟨zk⟩, ⟨zb⟩⟩
     ·replace c10 := Bool.eq_false_iff.mpr c10
      subst c10
      have H1 : (some x3_1) = some r := by rw [if_neg (show ¬ (false = true) by decide)] at H; exact H
      clear H
      have H := H1
      clear H1
      obtain rfl := Option.some.inj H
      go_wp2
      go_ret
      exact ⟨_, by first | rfl | (simp [errW_none, errW_some] <;> rfl) | (simp [*, errW_none, errW_some] <;> rfl), by (with_reducible repeat (first | apply zI | apply zJ | apply zK)); exact HO_3.out, zb⟩

end Go.Proofs.Ytlhcofkandeepaa.PFnExactLogRoom
