/- Walks of the functions that a statement reaches, written by a program (the printing program, mended): no condition. -/
import Derived.Test.YtlhcofkandeepaaPFnLogsx0
import Derived.Test.YtlhcofkandeepaaPFnLogsx2
import Derived.Test.YtlhcofkandeepaaPFnLogsx3
import Derived.Test.YtlhcofkandeepaaPFnLogsx4
namespace Go.Proofs.Ytlhcofkandeepaa.PFnLogs
open Go.RowKit Go.Proofs.YtlhcofkandeepaaW.PrintWords Go.Proofs.YtlhcofkandeepaaW.PrintLast Go.Proofs.YtlhcofkandeepaaW.PrintMore
attribute [local go_sem] max2_int min2_int max_two min_two max_three min_three max_four min_four   -- for this text's walks alone
set_option linter.unusedVariables false
set_option linter.unusedSimpArgs false

/-! ### impl_ReadsOf: function 92 -/
def impl_ReadsOf.l0 : Nat → List Int → List Int → Int → Int → Option (List Int)
  | 0, _, _, _, _ => none
  | k + 1, x3, x14, x15, x16 => if x16 < x15 then (if 0 ≤ x16 then (if x16 < (x14.length : Int) then (if (rd x14 x16) < 0 then (if x3.length < 17592186044416 then (impl_ReadsOf.l0 k (x3 ++ [wrap64 ((-1) - (rd x14 x16))]) x14 x15 (wrap64 (x16 + 1))) else (none)) else (impl_ReadsOf.l0 k x3 x14 x15 (wrap64 (x16 + 1)))) else (none)) else (none)) else ((slices_Sort_int_int.f x3).bind fun t188 => ((slices_Compact_int_int.f t188).bind fun t189 => (some t189)))
def impl_ReadsOf.f (k : Nat) (a0_0 : Int) (a0_1 : Int) (a0_2 : Int) : Option (List Int) := (impl_ExprOk.f a0_0 a0_1 a0_2).bind fun t177 => (if t177 = true then ((some (([a0_1, a0_2] : List Int) : List Int)).bind fun y181 => (impl_ReadsOf.l0 k (([] : List Int)) y181 (y181.length : Int) 0)) else (some ([] : List Int)))
theorem impl_ReadsOf.mono_l : ∀ k, (∀ y0 y1 y2 y3, LeO (impl_ReadsOf.l0 k y0 y1 y2 y3) (impl_ReadsOf.l0 (k + 1) y0 y1 y2 y3))
  | 0 => fun _ _ _ _ r h => by simp [impl_ReadsOf.l0] at h
  | k + 1 => by
    have ih0 := impl_ReadsOf.mono_l k
    · intro y0 y1 y2 y3
      unfold impl_ReadsOf.l0
      repeat' first
      | (with_reducible exact ih0 _ _ _ _)
      | (with_reducible exact LeO.refl _)
      | (with_reducible exact LeO.none _)
      | (with_reducible refine LeO.ite ?_ ?_)
      | (with_reducible refine LeO.bind ?_ (fun _ => ?_))
      | exact ih0 _ _ _ _
      | exact LeO.none _
      | refine LeO.ite ?_ ?_
      | refine LeO.bind ?_ (fun _ => ?_)
theorem impl_ReadsOf.mono : ∀ a0 a1 a2 k, LeO (impl_ReadsOf.f k a0 a1 a2) (impl_ReadsOf.f (k + 1) a0 a1 a2) := by
  intro a0 a1 a2 k
  have ih0 := impl_ReadsOf.mono_l k
  unfold impl_ReadsOf.f
  repeat' first
      | (with_reducible exact ih0 _ _ _ _)
      | (with_reducible exact LeO.refl _)
      | (with_reducible exact LeO.none _)
      | (with_reducible refine LeO.ite ?_ ?_)
      | (with_reducible refine LeO.bind ?_ (fun _ => ?_))
      | exact ih0 _ _ _ _
      | exact LeO.none _
      | refine LeO.ite ?_ ?_
      | refine LeO.bind ?_ (fun _ => ?_)
set_option maxHeartbeats 8000000 in
set_option maxRecDepth 100000 in
theorem impl_ReadsOf.calls (k : Nat) (a0_0 : Int) (a0_1 : Int) (a0_2 : Int) (r : List Int) (w : World) (h : impl_ReadsOf.f k a0_0 a0_1 a0_2 = some r) :
    Calls Try.prog 92 #[.agg #[.int .i64 a0_0, .int .i64 a0_1, .int .i64 a0_2]] w fun e w' => ∃ v0_ : Value, e = .returned (v0_) ∧ Kd.R (Kd.int .i64) 3 w' w.heap.size (fun _ => True) v0_ r ∧ Below w.heap.size w w' := by
  have hu37 := Try.underlying37
  have HB := Aside0.mk (Below.refl w.heap.size w)
  have H : ((impl_ExprOk.f a0_0 a0_1 a0_2).bind fun t177 => (if t177 = true then ((some (([a0_1, a0_2] : List Int) : List Int)).bind fun y181 => (impl_ReadsOf.l0 k (([] : List Int)) y181 (y181.length : Int) 0)) else (some ([] : List Int)))) = some r := h
  clear h
  replace H := Option.bind_eq_some_iff.mp H
  obtain ⟨t177, A20, H⟩ := H
  replace H : (if t177 = true then ((some (([a0_1, a0_2] : List Int) : List Int)).bind fun y181 => (impl_ReadsOf.l0 k (([] : List Int)) y181 (y181.length : Int) 0)) else (some ([] : List Int))) = some r := H
  have A2 := Aside0.mk A20
  clear A20
  by_cases c3 : t177 = true
  · subst c3
    have H1 : ((some (([a0_1, a0_2] : List Int) : List Int)).bind fun y181 => (impl_ReadsOf.l0 k (([] : List Int)) y181 (y181.length : Int) 0)) = some r := by rw [if_pos rfl] at H; exact H
    clear H
    have H := H1
    clear H1
    obtain ⟨y178, hy178⟩ : ∃ y_ : List Int, y_ = (([] : List Int)) := ⟨_, rfl⟩
    replace H : ((some (([a0_1, a0_2] : List Int) : List Int)).bind fun y181 => (impl_ReadsOf.l0 k y178 y181 (y181.length : Int) 0)) = some r := by first | (rw [hy178]; with_reducible exact H) | (have H2_ := (Option.bind_some _ _).symm.trans H; rw [hy178]; with_reducible exact H2_) | (have H2_ := (Option.bind_some _ _).symm.trans H; with_reducible exact H2_) | with_reducible exact H | (rw [hy178]; exact H) | exact H
    have Ny178 := Aside0.mk hy178
    clear hy178
    obtain ⟨y181, hy181⟩ : ∃ y_ : List Int, y_ = (([a0_1, a0_2] : List Int)) := ⟨_, rfl⟩
    replace H : (impl_ReadsOf.l0 k y178 y181 (y181.length : Int) 0) = some r := by first | (rw [hy181]; with_reducible exact H) | (have H2_ := (Option.bind_some _ _).symm.trans H; rw [hy181]; with_reducible exact H2_) | (have H2_ := (Option.bind_some _ _).symm.trans H; with_reducible exact H2_) | with_reducible exact H | (rw [hy181]; exact H) | exact H
    have Ny181 := Aside0.mk hy181
    clear hy181
    have H' := Aside0.mk H
    clear H
    go_enter Try.func92, Try.ntmps92
    go_wp2_with (first | ((with_reducible refine gate_dst (N := 1) rfl ?_); refine box_event ?hg (N := 1) ?hd (cs := #[.int .i64 a0_0, .int .i64 a0_1, .int .i64 a0_2]) (t := 37) ?hr ?_; (case hd => rfl); (case hg => rfl); (case hr => first | (go_simp; done) | (go_simp; rfl)); intro gb176 hg w4 hbox hb; have n0_ := Aside0.mk (below_step (by repeat (first | (with_reducible first | exact HB.out | apply below_alloc | apply pw_below_drewN | apply below_drew1) | exact HB.out)) hb); have n1_ := Aside0.mk (hbox); have n2_ := Aside0.mk ((by rw [hg]; exact (below_size (by repeat (first | (with_reducible first | exact HB.out | apply below_alloc | apply pw_below_drewN | apply below_drew1) | exact HB.out))) : w.heap.size ≤ gb176)); have n3_ := Aside0.mk ((by rw [hg]; exact (below_size (by repeat (first | (with_reducible first | exact HB.out | apply below_alloc | apply pw_below_drewN | apply below_drew1) | exact HB.out))) : w.heap.size ≤ gb176)); clear HB; have HB := n0_; have BK176 := n1_; have GW176 := n2_; have GE176 := n3_; clear n0_ n1_ n2_ n3_; clear hb hbox hg; have hcz5_0 : w4.cell? ⟨gb176, 0, none⟩ = some (.int .i64 a0_0) := (blk_cell BK176.out 0).trans rfl; have hcz5_1 : w4.cell? ⟨gb176, 1, none⟩ = some (.int .i64 a0_1) := (blk_cell BK176.out 1).trans rfl; have hcz5_2 : w4.cell? ⟨gb176, 2, none⟩ = some (.int .i64 a0_2) := (blk_cell BK176.out 2).trans rfl; have hfz5_0 := blk_frozen BK176.out 0; have hfz5_1 := blk_frozen BK176.out 1; have hfz5_2 := blk_frozen BK176.out 2) | ((with_reducible refine gate_callee (f := 90) rfl ?_); refine goesL_ (some 7) rfl rfl Try.func90 (by kernel_rfl) rfl #[.agg #[.int .i64 a0_0, .int .i64 a0_1, .int .i64 a0_2]] rfl (by (try simp only [List.map_toArray, List.map_cons, List.map_nil]); first | done | rfl | (simp only [List.length_drop, List.length_take]; rfl)) ?_; (with_reducible refine (impl_ExprOk.calls a0_0 a0_1 a0_2 true _ A2.out).mono ?_); rintro e w6 ⟨rfl, hb⟩; refine ⟨_, rfl, ?_⟩; have n0_ := Aside0.mk (blk_below (g := gb176) (o := .cells #[.int .i64 a0_0, .int .i64 a0_1, .int .i64 a0_2] 37 (0, 0)) (by (with_reducible repeat (first | refine blk_drewN ?_ _ | refine blk_drew ?_ | refine blk_alloc ?_ _)); exact BK176.out) hb); have n1_ := Aside0.mk (below_step (by repeat (first | (with_reducible first | exact HB.out | apply below_alloc | apply pw_below_drewN | apply below_drew1 | refine below_set ?_ GE176.out) | exact HB.out)) hb); clear BK176; clear HB; have BK176 := n0_; have HB := n1_; clear n0_ n1_; (try clear hb); (try clear hb2); (try clear hk); (try clear hi)) | ((with_reducible refine gate_dst (N := 9) rfl ?_); refine Kd.R_lit (Kd.int .i64) _ 3 ?hg (N := 9) ?hd (xs := ([] : List Int)) (inner := []) (ok := fun _ => True) (okp := fun _ => True) ?hr ?hp (fun _ hk => hk) trivial (Below.refl _ _) (Nat.le_refl _) (by simp) ?_; (case hd => rfl); (case hg => rfl); (case hr => first | (go_simp; done) | (go_simp; rfl)); (case hp => exact (Reps.none _ _)); intro v179 w7 ho8 hb hg_ hnew_; clear hg_ hnew_; (first | rw [← Ny178.out] at ho8 | (simp only [Int.reduceToNat] at ho8; rw [← Ny178.out] at ho8)); have n0_ := Aside0.mk (Kd.R_lower ho8 (below_size (by repeat (first | (with_reducible first | exact HB.out | apply below_alloc | apply pw_below_drewN | apply below_drew1 | refine below_set ?_ GE176.out) | exact HB.out)))); have n1_ := Aside0.mk (blk_below (g := gb176) (o := .cells #[.int .i64 a0_0, .int .i64 a0_1, .int .i64 a0_2] 37 (0, 0)) (by (with_reducible repeat (first | refine blk_drewN ?_ _ | refine blk_drew ?_ | refine blk_alloc ?_ _)); exact BK176.out) hb); have n2_ := Aside0.mk (below_step (by repeat (first | (with_reducible first | exact HB.out | apply below_alloc | apply pw_below_drewN | apply below_drew1 | refine below_set ?_ GE176.out) | exact HB.out)) hb); clear BK176; clear HB; have HO180 := n0_; have BK176 := n1_; have HB := n2_; clear n0_ n1_ n2_; clear hb ho8; have hcz9_0 : w7.cell? ⟨gb176, 0, none⟩ = some (.int .i64 a0_0) := (blk_cell BK176.out 0).trans rfl; have hcz9_1 : w7.cell? ⟨gb176, 1, none⟩ = some (.int .i64 a0_1) := (blk_cell BK176.out 1).trans rfl; have hcz9_2 : w7.cell? ⟨gb176, 2, none⟩ = some (.int .i64 a0_2) := (blk_cell BK176.out 2).trans rfl; have hfz9_0 := blk_frozen BK176.out 0; have hfz9_1 := blk_frozen BK176.out 1; have hfz9_2 := blk_frozen BK176.out 2) | ((with_reducible refine gate_dst (N := 14) rfl ?_); refine Kd.R_lit (Kd.int .i64) _ 3 ?hg (N := 14) ?hd (xs := ([a0_1, a0_2] : List Int)) (inner := [.int .i64 a0_1, .int .i64 a0_2]) (ok := fun _ => True) (okp := fun _ => True) ?hr ?hp (fun _ hk => hk) trivial (Below.refl _ _) (Nat.le_refl _) (by simp) ?_; (case hd => rfl); (case hg => rfl); (case hr => first | (go_simp; done) | (go_simp; rfl)); (case hp => exact (Reps.one (show Kd.M (Kd.int .i64) _ _ _ a0_1 [.int .i64 a0_1] from rfl) (Reps.one (show Kd.M (Kd.int .i64) _ _ _ a0_2 [.int .i64 a0_2] from rfl) (Reps.none _ _)))); intro v182 w10 ho11 hb hg_ hnew_; clear hg_ hnew_; (first | rw [← Ny181.out] at ho11 | (simp only [Int.reduceToNat] at ho11; rw [← Ny181.out] at ho11)); have n0_ := Aside0.mk (Kd.R_elder' (by (with_reducible repeat (first | apply Kd.R_alloc | apply Kd.R_drewN | apply Kd.R_drew)); exact HO180.out) (Kd.R_base ho11) hb); have n1_ := Aside0.mk (Kd.R_lower (Kd.R_new' ho11 (Kd.R_lt (by (with_reducible repeat (first | apply Kd.R_alloc | apply Kd.R_drewN | apply Kd.R_drew)); exact HO180.out))) (below_size (by repeat (first | (with_reducible first | exact HB.out | apply below_alloc | apply pw_below_drewN | apply below_drew1 | refine below_set ?_ GE176.out) | exact HB.out)))); have n2_ := Aside0.mk (blk_below (g := gb176) (o := .cells #[.int .i64 a0_0, .int .i64 a0_1, .int .i64 a0_2] 37 (0, 0)) (by (with_reducible repeat (first | refine blk_drewN ?_ _ | refine blk_drew ?_ | refine blk_alloc ?_ _)); exact BK176.out) hb); have n3_ := Aside0.mk (below_step (by repeat (first | (with_reducible first | exact HB.out | apply below_alloc | apply pw_below_drewN | apply below_drew1 | refine below_set ?_ GE176.out) | exact HB.out)) hb); clear HO180; clear BK176; clear HB; have HO180 := n0_; have HO183 := n1_; have BK176 := n2_; have HB := n3_; clear n0_ n1_ n2_ n3_; clear hb ho11; obtain ⟨Ao12, co12, eo12⟩ := Kd.R_slice HO183.out; subst eo12))
    go_loopg [3, 16] k (fun kq v3 v16 w' => ∃ (x3_1 : List Int) (x16_1 : Int), v16 = .int .i64 x16_1 ∧ Aside0 (impl_ReadsOf.l0 kq x3_1 y181 (y181.length : Int) x16_1 = some r) ∧ Aside0 (kq ≤ k) ∧ Aside0 (Kd.R (Kd.int .i64) 3 w' w.heap.size (fun k_ => some k_ ≠ ((.slice Ao12 y181.length co12) : Value).ownBlock) v3 x3_1) ∧ Aside0 (Kd.R (Kd.int .i64) 3 w' w.heap.size (fun k_ => some k_ ≠ (v3 : Value).ownBlock) (.slice Ao12 y181.length co12) y181) ∧ Aside0 (w'.heap[gb176]? = some (.cells #[.int .i64 a0_0, .int .i64 a0_1, .int .i64 a0_2] 37 (0, 0))) ∧ Aside0 (Below w.heap.size w w'))
    case atStart => exact ⟨(y178), (0), (by first | rfl | (simp; done) | (simp [*]; done)), H', ⟨Nat.le_refl _⟩, ⟨by (with_reducible repeat (first | apply Kd.R_alloc | apply Kd.R_drewN | apply Kd.R_drew)); exact Kd.R_mono HO180.out (fun _ hk => hk.2)⟩, ⟨by (with_reducible repeat (first | apply Kd.R_alloc | apply Kd.R_drewN | apply Kd.R_drew)); exact Kd.R_mono HO183.out (fun _ hk => hk.2)⟩, ⟨by (with_reducible repeat (first | refine blk_drewN ?_ _ | refine blk_drew ?_ | refine blk_alloc ?_ _)); exact BK176.out⟩, ⟨by repeat (first | (with_reducible first | exact HB.out | apply below_alloc | apply pw_below_drewN | apply below_drew1 | refine below_set ?_ GE176.out) | exact HB.out)⟩⟩
    case round =>
      clear H'
      try clear p2
      try clear c3
      try clear c9
      try clear hcz5_0
      try clear hcz5_1
      try clear hcz5_2
      try clear hcz9_0
      try clear hcz9_1
      try clear hcz9_2
      try clear hfz5_0
      try clear hfz5_1
      try clear hfz5_2
      try clear hfz9_0
      try clear hfz9_1
      try clear hfz9_2
      obtain ⟨x3_1, x16_1, rfl, HA, HK1, HO_3, HO_14, BK176, HB⟩ := hrel
      cases gk with
      | zero => exact absurd HA.out (by simp [impl_ReadsOf.l0])
      | succ k1 =>
        have H := HA.out
        clear HA
        simp only [impl_ReadsOf.l0] at H
        by_cases c13 : x16_1 < (y181.length : Int)
        · rw [if_pos c13] at H
          have c13b0 : decide (x16_1 < (y181.length : Int)) = true := decide_eq_true c13
          clear c13
          by_cases c14 : 0 ≤ x16_1
          · rw [if_pos c14] at H
            have c14b0 : decide (0 ≤ x16_1) = true := decide_eq_true c14
            clear c14
            by_cases c15 : x16_1 < (y181.length : Int)
            · rw [if_pos c15] at H
              have c15b0 : decide (x16_1 < (y181.length : Int)) = true := decide_eq_true c15
              clear c15
              by_cases c16 : (rd y181 x16_1) < 0
              · rw [if_pos c16] at H
                have c16b0 : decide ((rd y181 x16_1) < 0) = true := decide_eq_true c16
                clear c16
                by_cases c17 : x3_1.length < 17592186044416
                · rw [if_pos c17] at H
                  have LMc17 := Aside0.mk c17
                  clear c17
                  obtain ⟨y185, hy185⟩ : ∃ y_ : List Int, y_ = (x3_1 ++ [wrap64 ((-1) - (rd y181 x16_1))]) := ⟨_, rfl⟩
                  replace H : (impl_ReadsOf.l0 k1 y185 y181 (y181.length : Int) (wrap64 (x16_1 + 1))) = some r := by first | (rw [hy185]; with_reducible exact H) | (have H2_ := (Option.bind_some _ _).symm.trans H; rw [hy185]; with_reducible exact H2_) | (have H2_ := (Option.bind_some _ _).symm.trans H; with_reducible exact H2_) | with_reducible exact H | (rw [hy185]; exact H) | exact H
                  have Ny185 := Aside0.mk hy185
                  clear hy185
                  have H' := Aside0.mk H
                  clear H
                  have p184 : 0 ≤ (x16_1 : Int) := of_decide_eq_true (by first | (with_reducible assumption) | assumption)
                  have q184 : x16_1 < (y181.length : Int) := of_decide_eq_true (by first | (with_reducible assumption) | assumption)
                  obtain ⟨ad184, e184, hx184_0⟩ := Kd.at_int (Kd.R_reads' HO_14.out).2.2 x16_1 p184 q184
                  cases e184
                  replace p184 := eq_true p184
                  replace q184 := eq_true q184
                  go_wp2_with (first | ((with_reducible refine gate_builtin (b := .append) (xs := #[.tmp 22, .tmp 25]) rfl ?_); at_builtin; refine Kd.R_append (Kd.int .i64) (w0 := w) w.heap.size rfl (.tmp 22) (.tmp 25) 24 3 (.int .i64 0) 8 rfl Try.underlying24 info3 rfl (by decide) (by omega) u3 x3_1 (wrap64 ((-1) - (rd y181 x16_1))) [.int .i64 (wrap64 ((-1) - (rd y181 x16_1)))] (fun k_ => some k_ ≠ (.slice (some ad184) y181.length co12 : Value).ownBlock) (fun _ => False) rfl rfl ?aP (fun _ hk => hk.elim) ?aF ?aO ?aB ?aS ?aL ?_; (case aP => exact rfl); (case aB => exact (by repeat (first | (with_reducible first | exact HB.out | apply below_alloc | apply pw_below_drewN | apply below_drew1 | refine below_set ?_ GE176.out) | exact HB.out))); (case aF => exact (fun k_ hk => Kd.fresh' (Kd.R_lt (by (with_reducible repeat (first | apply Kd.R_alloc | apply Kd.R_drewN | apply Kd.R_drew)); exact HO_14.out)) k_ hk)); (case aO => exact (by (with_reducible repeat (first | apply Kd.R_alloc | apply Kd.R_drewN | apply Kd.R_drew)); exact HO_3.out)); (case aS => exact (below_size (by repeat (first | (with_reducible first | exact HB.out | apply below_alloc | apply pw_below_drewN | apply below_drew1 | refine below_set ?_ GE176.out) | exact HB.out)))); (case aL => have := LMc17.out; omega); intro v186 w18 ho hb hg hat; (first | rw [← Ny185.out] at ho | (simp only [Int.reduceToNat] at ho; rw [← Ny185.out] at ho)); have n0_ := Aside0.mk (Kd.R_after (ok := (fun _ => True)) (by (with_reducible repeat (first | apply Kd.R_alloc | apply Kd.R_drewN | apply Kd.R_drew)); exact Kd.R_mono HO_14.out (fun _ hk => ⟨trivial, hk⟩)) hg hat); have n1_ := Aside0.mk (blk_grown (g := gb176) (o := .cells #[.int .i64 a0_0, .int .i64 a0_1, .int .i64 a0_2] 37 (0, 0)) (by (with_reducible repeat (first | refine blk_drewN ?_ _ | refine blk_drew ?_ | refine blk_alloc ?_ _)); exact BK176.out) hg (Kd.R_ne HO_3.out BK176.out (by decide))); have n2_ := Aside0.mk (hb); have n3_ := Aside0.mk (ho); clear HO_14; clear BK176; clear HB; clear HO_3; have HO_14 := n0_; have BK176 := n1_; have HB := n2_; have HO187 := n3_; clear n0_ n1_ n2_ n3_; clear ho hb hg hat))
                  go_roundg k1
                  case measure => have := HK1.out; omega
                  case rel => exact ⟨(y185), (wrap64 (x16_1 + 1)), (by first | rfl | (simp; done) | (simp [*]; done)), H', ⟨by have := HK1.out; omega⟩, ⟨by (with_reducible repeat (first | apply Kd.R_alloc | apply Kd.R_drewN | apply Kd.R_drew)); exact HO187.out⟩, ⟨by (with_reducible repeat (first | apply Kd.R_alloc | apply Kd.R_drewN | apply Kd.R_drew)); exact Kd.R_mono HO_14.out (fun _ hk => hk.2)⟩, ⟨by (with_reducible repeat (first | refine blk_drewN ?_ _ | refine blk_drew ?_ | refine blk_alloc ?_ _)); exact BK176.out⟩, ⟨by repeat (first | (with_reducible first | exact HB.out | apply below_alloc | apply pw_below_drewN | apply below_drew1 | refine below_set ?_ GE176.out) | exact HB.out)⟩⟩
                · rw [if_neg c17] at H
                  exact absurd H (by simp)
              · rw [if_neg c16] at H
                have c16b0 : decide ((rd y181 x16_1) < 0) = false := decide_eq_false c16
                clear c16
                have H' := Aside0.mk H
                clear H
                have p184 : 0 ≤ (x16_1 : Int) := of_decide_eq_true (by first | (with_reducible assumption) | assumption)
                have q184 : x16_1 < (y181.length : Int) := of_decide_eq_true (by first | (with_reducible assumption) | assumption)
                obtain ⟨ad184, e184, hx184_0⟩ := Kd.at_int (Kd.R_reads' HO_14.out).2.2 x16_1 p184 q184
                cases e184
                replace p184 := eq_true p184
                replace q184 := eq_true q184
                go_wp2
                go_roundg k1
                case measure => have := HK1.out; omega
                case rel => exact ⟨(x3_1), (wrap64 (x16_1 + 1)), (by first | rfl | (simp; done) | (simp [*]; done)), H', ⟨by have := HK1.out; omega⟩, ⟨by (with_reducible repeat (first | apply Kd.R_alloc | apply Kd.R_drewN | apply Kd.R_drew)); exact HO_3.out⟩, ⟨by (with_reducible repeat (first | apply Kd.R_alloc | apply Kd.R_drewN | apply Kd.R_drew)); exact HO_14.out⟩, ⟨by (with_reducible repeat (first | refine blk_drewN ?_ _ | refine blk_drew ?_ | refine blk_alloc ?_ _)); exact BK176.out⟩, ⟨by repeat (first | (with_reducible first | exact HB.out | apply below_alloc | apply pw_below_drewN | apply below_drew1 | refine below_set ?_ GE176.out) | exact HB.out)⟩⟩
            · rw [if_neg c15] at H
              exact absurd H (by simp)
          · rw [if_neg c14] at H
            exact absurd H (by simp)
        · rw [if_neg c13] at H
          have c13b0 : decide (x16_1 < (y181.length : Int)) = false := decide_eq_false c13
          clear c13
          replace H := Option.bind_eq_some_iff.mp H
          obtain ⟨t188, A190, H⟩ := H
          replace H : ((slices_Compact_int_int.f t188).bind fun t189 => (some t189)) = some r := H
          have A19 := Aside0.mk A190
          clear A190
          replace H := Option.bind_eq_some_iff.mp H
          obtain ⟨t189, A200, H⟩ := H
          replace H : (some t189) = some r := H
          have A20 := Aside0.mk A200
          clear A200
          obtain rfl := Option.some.inj H
          obtain ⟨Ao21, co21, eo21⟩ := Kd.R_slice HO_3.out
          subst eo21
          go_wp2_with (first | ((with_reducible refine gate_callee (f := 82) rfl ?_); refine goesL_ (some 29) rfl rfl Try.func82 (by kernel_rfl) rfl #[.slice Ao21 x3_1.length co21] rfl (by (try simp only [List.map_toArray, List.map_cons, List.map_nil]); first | done | rfl | (simp only [List.length_drop, List.length_take]; rfl)) ?_; (with_reducible refine (slices_Sort_int_int.calls (fun k_ => some k_ = (.slice Ao21 x3_1.length co21 : Value).ownBlock) (.slice Ao21 x3_1.length co21) x3_1 t188 w _ ?side1 ?side2 A19.out).mono ?_); (case side1 => repeat (first | (with_reducible first | exact HB.out | apply below_alloc | apply pw_below_drewN | apply below_drew1 | refine below_set ?_ GE176.out) | exact HB.out)); (case side2 => exact Kd.R_tight rfl HO_3.out); rintro e w22 ⟨rfl, hy0, hb, hkp⟩; refine ⟨_, rfl, ?_⟩; have n0_ := Aside0.mk (Kd.R_reok rfl hy0 (fun k_ e_ => HO_3.out.1 k_ e_)); have n1_ := Aside0.mk (Kd.R_mono (ok' := fun k_ => some k_ ≠ (.slice Ao21 x3_1.length co21 : Value).ownBlock) (Kd.R_keptB (HO_14.out) hkp (fun k_ hk_ hs_ => (hk_) hs_)) (fun k_ hk_ => hk_.1)); have n2_ := Aside0.mk (blk_kept (by (with_reducible repeat (first | refine blk_drewN ?_ _ | refine blk_drew ?_ | refine blk_alloc ?_ _)); exact BK176.out) hkp (fun hs_ => (fun e_ => (Kd.R_ne HO_3.out BK176.out (by decide)) e_) hs_)); have n3_ := Aside0.mk (hb); clear HO_3; clear HO_14; clear BK176; clear HB; have HO_3 := n0_; have HO_14 := n1_; have BK176 := n2_; have HB := n3_; clear n0_ n1_ n2_ n3_; (try clear hb); (try clear hkp); (try clear hy0)) | ((with_reducible refine gate_callee (f := 83) rfl ?_); refine goesL_ (some 31) rfl rfl Try.func83 (by kernel_rfl) rfl #[.slice Ao21 x3_1.length co21] rfl (by (try simp only [List.map_toArray, List.map_cons, List.map_nil]); first | done | rfl | (simp only [List.length_drop, List.length_take]; rfl)) ?_; (with_reducible refine (slices_Compact_int_int.calls (fun k_ => some k_ = (.slice Ao21 x3_1.length co21 : Value).ownBlock) (.slice Ao21 x3_1.length co21) t188 t189 w _ ?side1 ?side2 A20.out).mono ?_); (case side1 => repeat (first | (with_reducible first | exact HB.out | apply below_alloc | apply pw_below_drewN | apply below_drew1 | refine below_set ?_ GE176.out) | exact HB.out)); (case side2 => exact Kd.R_tight rfl HO_3.out); rintro e w23 ⟨v190, rfl, ho0, hb, hkp⟩; refine ⟨_, rfl, ?_⟩; have n0_ := Aside0.mk (Kd.R_mono (ok' := fun k_ => some k_ ≠ (v190 : Value).ownBlock) (Kd.R_keptB (HO_14.out) hkp (fun k_ hk_ hs_ => (hk_) hs_)) (fun k_ hk_ => fun e_ => Or.elim (ho0.1 k_ e_.symm) (fun hs_ => hk_.2.1 hs_) (fun hn_ => Nat.not_le.2 hk_.2.2 hn_))); have n1_ := Aside0.mk (blk_kept (by (with_reducible repeat (first | refine blk_drewN ?_ _ | refine blk_drew ?_ | refine blk_alloc ?_ _)); exact BK176.out) hkp (fun hs_ => (fun e_ => (Kd.R_ne HO_3.out BK176.out (by decide)) e_) hs_)); have n2_ := Aside0.mk (Kd.R_mono (ok' := fun k_ => some k_ ≠ (.slice Ao12 y181.length co12 : Value).ownBlock) ho0 (fun k_ hk_ => Or.elim hk_ (fun hs_ => fun e_ => (((HO_14.out).1 k_ e_.symm)) hs_) (fun hn_ => (Kd.fresh' (Kd.R_lt (by (with_reducible repeat (first | apply Kd.R_alloc | apply Kd.R_drewN | apply Kd.R_drew)); exact HO_14.out)) k_ hn_)))); have n3_ := Aside0.mk (hb); clear HO_14; clear BK176; clear HB; clear HO_3; have HO_14 := n0_; have BK176 := n1_; have HO191 := n2_; have HB := n3_; clear n0_ n1_ n2_ n3_; (try clear hb); (try clear hkp); (try clear ho0)))
          go_ret
          exact ⟨_, by first | rfl | (simp [errW_none, errW_some] <;> rfl) | (simp [*, errW_none, errW_some] <;> rfl), by (with_reducible repeat (first | apply Kd.R_alloc | apply Kd.R_drewN | apply Kd.R_drew)); exact Kd.R_mono HO191.out (fun _ hk => trivial), by repeat (first | (with_reducible first | exact HB.out | apply below_alloc | apply pw_below_drewN | apply below_drew1 | refine below_set ?_ GE176.out) | exact HB.out)⟩
  · replace c3 := Bool.eq_false_iff.mpr c3
    subst c3
    have H1 : (some ([] : List Int)) = some r := by rw [if_neg (show ¬ (false = true) by decide)] at H; exact H
    clear H
    have H := H1
    clear H1
    obtain rfl := Option.some.inj H
    go_enter Try.func92, Try.ntmps92
    go_wp2_with (first | ((with_reducible refine gate_dst (N := 1) rfl ?_); refine box_event ?hg (N := 1) ?hd (cs := #[.int .i64 a0_0, .int .i64 a0_1, .int .i64 a0_2]) (t := 37) ?hr ?_; (case hd => rfl); (case hg => rfl); (case hr => first | (go_simp; done) | (go_simp; rfl)); intro gb176 hg w24 hbox hb; have n0_ := Aside0.mk (below_step (by repeat (first | (with_reducible first | exact HB.out | apply below_alloc | apply pw_below_drewN | apply below_drew1) | exact HB.out)) hb); have n1_ := Aside0.mk (hbox); have n2_ := Aside0.mk ((by rw [hg]; exact (below_size (by repeat (first | (with_reducible first | exact HB.out | apply below_alloc | apply pw_below_drewN | apply below_drew1) | exact HB.out))) : w.heap.size ≤ gb176)); have n3_ := Aside0.mk ((by rw [hg]; exact (below_size (by repeat (first | (with_reducible first | exact HB.out | apply below_alloc | apply pw_below_drewN | apply below_drew1) | exact HB.out))) : w.heap.size ≤ gb176)); clear HB; have HB := n0_; have BK176 := n1_; have GW176 := n2_; have GE176 := n3_; clear n0_ n1_ n2_ n3_; clear hb hbox hg; have hcz25_0 : w24.cell? ⟨gb176, 0, none⟩ = some (.int .i64 a0_0) := (blk_cell BK176.out 0).trans rfl; have hcz25_1 : w24.cell? ⟨gb176, 1, none⟩ = some (.int .i64 a0_1) := (blk_cell BK176.out 1).trans rfl; have hcz25_2 : w24.cell? ⟨gb176, 2, none⟩ = some (.int .i64 a0_2) := (blk_cell BK176.out 2).trans rfl; have hfz25_0 := blk_frozen BK176.out 0; have hfz25_1 := blk_frozen BK176.out 1; have hfz25_2 := blk_frozen BK176.out 2) | ((with_reducible refine gate_callee (f := 90) rfl ?_); refine goesL_ (some 7) rfl rfl Try.func90 (by kernel_rfl) rfl #[.agg #[.int .i64 a0_0, .int .i64 a0_1, .int .i64 a0_2]] rfl (by (try simp only [List.map_toArray, List.map_cons, List.map_nil]); first | done | rfl | (simp only [List.length_drop, List.length_take]; rfl)) ?_; (with_reducible refine (impl_ExprOk.calls a0_0 a0_1 a0_2 false _ A2.out).mono ?_); rintro e w26 ⟨rfl, hb⟩; refine ⟨_, rfl, ?_⟩; have n0_ := Aside0.mk (blk_below (g := gb176) (o := .cells #[.int .i64 a0_0, .int .i64 a0_1, .int .i64 a0_2] 37 (0, 0)) (by (with_reducible repeat (first | refine blk_drewN ?_ _ | refine blk_drew ?_ | refine blk_alloc ?_ _)); exact BK176.out) hb); have n1_ := Aside0.mk (below_step (by repeat (first | (with_reducible first | exact HB.out | apply below_alloc | apply pw_below_drewN | apply below_drew1 | refine below_set ?_ GE176.out) | exact HB.out)) hb); clear BK176; clear HB; have BK176 := n0_; have HB := n1_; clear n0_ n1_; (try clear hb); (try clear hb2); (try clear hk); (try clear hi)))
    go_ret
    exact ⟨_, by first | rfl | (simp [errW_none, errW_some] <;> rfl) | (simp [*, errW_none, errW_some] <;> rfl), by first | exact Kd.R_nil _ _ _ _ _ | exact Kd.N_nil _ _ _ _ _ | exact Kd.V_nil _ _ _ _ _ | exact Kd.Q_nil _ _ _ _ _ | exact Kd.S_nil _ _ _ _ _, by repeat (first | (with_reducible first | exact HB.out | apply below_alloc | apply pw_below_drewN | apply below_drew1 | refine below_set ?_ GE176.out) | exact HB.out)⟩

/-! ### impl_MayReadFirst: function 30 (given) -/
/-- The reader's sixteen bools at block g. -/
def impl_MayReadFirst.Bx (W : World) (g : Nat) (xs : List Bool) : Prop := W.heap[g]? = some (.cells (xs.map Value.bool).toArray 87 (0, 0)) ∧ xs.length = 16
theorem impl_MayReadFirst.Bx.cell {W : World} {g : Nat} {xs : List Bool} (h : impl_MayReadFirst.Bx W g xs) (i : Nat) (hi : i < 16) : W.cell? ⟨g, i, none⟩ = some (.bool (xs.getD i false)) := by
  have hl := h.2
  rw [blk_cell h.1 i]
  simp [List.getElem?_eq_getElem (show i < xs.length by omega)]
theorem impl_MayReadFirst.Bx.set {W : World} {g : Nat} {xs : List Bool} (h : impl_MayReadFirst.Bx W g xs) (i : Nat) (b : Bool) : impl_MayReadFirst.Bx (W.setCell ⟨g, i, none⟩ (.bool b)) g (xs.set i b) := by
  refine ⟨?_, by rw [List.length_set]; exact h.2⟩
  rw [blk_set h.1 i (.bool b)]
  simp [List.map_set]
theorem impl_MayReadFirst.Bx.below {W W1 : World} {g : Nat} {xs : List Bool} (h : impl_MayReadFirst.Bx W g xs) (hb : Below W.heap.size W W1) : impl_MayReadFirst.Bx W1 g xs := ⟨blk_below h.1 hb, h.2⟩
theorem impl_MayReadFirst.Bx.drewN {W : World} {g : Nat} {xs : List Bool} (h : impl_MayReadFirst.Bx W g xs) (m : Nat) : impl_MayReadFirst.Bx (W.drewN m) g xs := h
theorem impl_MayReadFirst.Bx.drew {W : World} {g : Nat} {xs : List Bool} (h : impl_MayReadFirst.Bx W g xs) : impl_MayReadFirst.Bx W.drew g xs := h
theorem impl_MayReadFirst.Bx.far {W : World} {g : Nat} {xs : List Bool} (h : impl_MayReadFirst.Bx W g xs) {p : Addr} (hne : g ≠ p.block) (u : Value) : impl_MayReadFirst.Bx (W.setCell p u) g xs := ⟨blk_far h.1 hne u, h.2⟩
theorem impl_MayReadFirst.kb_drewN {w W : World} {g : Nat} (h : KeepBut w W g none) (m : Nat) : KeepBut w (W.drewN m) g none := h
theorem impl_MayReadFirst.kb_drew {w W : World} {g : Nat} (h : KeepBut w W g none) : KeepBut w W.drew g none := h
def impl_MayReadFirst.r0 : Nat → List Int → Int → List Bool → Option (List Bool)
  | 0, _, _, _ => none
  | k + 1, l, i, xs => if i < (l.length : Int) then (if 0 ≤ i then (if 0 ≤ rd l i then (if rd l i < 8 then (if xs.getD (rd l i).toNat false = true then impl_MayReadFirst.r0 k l (wrap64 (i + 1)) xs else impl_MayReadFirst.r0 k l (wrap64 (i + 1)) (xs.set (8 + (rd l i).toNat) true)) else none) else none) else none) else some xs
def impl_MayReadFirst.rf (k : Nat) (xs : List Bool) (o a b : Int) : Option (List Bool) := (impl_ReadsOf.f k o a b).bind fun l => impl_MayReadFirst.r0 k l 0 xs
theorem impl_MayReadFirst.r0_mono : ∀ k y0 y1 y2, LeO (impl_MayReadFirst.r0 k y0 y1 y2) (impl_MayReadFirst.r0 (k + 1) y0 y1 y2)
  | 0 => fun _ _ _ r h => by simp [impl_MayReadFirst.r0] at h
  | k + 1 => by
    have ih0 := impl_MayReadFirst.r0_mono k
    intro y0 y1 y2
    unfold impl_MayReadFirst.r0
    repeat' first
      | (with_reducible exact ih0 _ _ _)
      | (with_reducible exact LeO.refl _)
      | (with_reducible exact LeO.none _)
      | (with_reducible refine LeO.ite ?_ ?_)
      | exact ih0 _ _ _
      | exact LeO.none _
      | refine LeO.ite ?_ ?_
theorem impl_MayReadFirst.rf_mono (k : Nat) (xs : List Bool) (o a b : Int) : LeO (impl_MayReadFirst.rf k xs o a b) (impl_MayReadFirst.rf (k + 1) xs o a b) := by
  unfold impl_MayReadFirst.rf
  exact LeO.bind (impl_ReadsOf.mono o a b k) (fun _ => impl_MayReadFirst.r0_mono k _ _ _)
set_option maxHeartbeats 8000000 in
set_option maxRecDepth 100000 in
theorem impl_MayReadFirst.rcalls (k : Nat) (g : Nat) (xs ys : List Bool) (o a b : Int) (w0 w : World) (hX : impl_MayReadFirst.Bx w g xs) (hg : w0.heap.size ≤ g) (hB : Below w0.heap.size w0 w) (h : impl_MayReadFirst.rf k xs o a b = some ys) :
    Calls Try.prog 65 #[.pointer (some ⟨g, 0, none⟩), .agg #[.int .i64 o, .int .i64 a, .int .i64 b]] w fun e w' => e = .returned (.tuple #[]) ∧ impl_MayReadFirst.Bx w' g ys ∧ Below w0.heap.size w0 w' ∧ KeepBut w w' g none := by
  have hu37 := Try.underlying37
  have HX := Aside0.mk hX
  have HG := Aside0.mk hg
  have HB := Aside0.mk hB
  have HK := Aside0.mk (KeepBut.refl w g none)
  unfold impl_MayReadFirst.rf at h
  obtain ⟨l, A10, H⟩ := Option.bind_eq_some_iff.mp h
  have A1 := Aside0.mk A10
  have H' := Aside0.mk H
  clear hX hg hB h A10 H
  go_enter Try.func65, Try.ntmps65
  go_wp2_with (first | ((with_reducible refine gate_dst (N := 3) rfl ?_); refine box_event ?hg (N := 3) ?hd (cs := #[.int .i64 o, .int .i64 a, .int .i64 b]) (t := 37) ?hr ?_; (case hd => rfl); (case hg => rfl); (case hr => first | (go_simp; done) | (go_simp; rfl)); intro gb hg w4 hbox hb; have n0_ := Aside0.mk (HX.out.below hb); have n1_ := Aside0.mk (below_step HB.out hb); have n2_ := Aside0.mk (HK.out.trans (KeepBut.of_below hb g none) (.inl rfl)); clear HX HB HK; have HX := n0_; have HB := n1_; have HK := n2_; clear n0_ n1_ n2_ hb hg; have hcz_0 : w4.cell? ⟨gb, 0, none⟩ = some (.int .i64 o) := (blk_cell hbox 0).trans rfl; have hcz_1 : w4.cell? ⟨gb, 1, none⟩ = some (.int .i64 a) := (blk_cell hbox 1).trans rfl; have hcz_2 : w4.cell? ⟨gb, 2, none⟩ = some (.int .i64 b) := (blk_cell hbox 2).trans rfl) | ((with_reducible refine gate_callee (f := 92) rfl ?_); refine goesL_ (some 7) rfl rfl Try.func92 (by kernel_rfl) rfl #[.agg #[.int .i64 o, .int .i64 a, .int .i64 b]] rfl (by (try simp only [List.map_toArray, List.map_cons, List.map_nil]); first | done | rfl | (simp only [List.length_drop, List.length_take]; rfl)) ?_; (with_reducible refine (impl_ReadsOf.calls k o a b l _ A1.out).mono ?_); rintro e w6 ⟨v7, rfl, ho, hb⟩; refine ⟨_, rfl, ?_⟩; have n0_ := Aside0.mk (HX.out.below hb); have n1_ := Aside0.mk (below_step HB.out hb); have n2_ := Aside0.mk (HK.out.trans (KeepBut.of_below hb g none) (.inl rfl)); clear HX HB HK; have HX := n0_; have HB := n1_; have HK := n2_; clear n0_ n1_ n2_ hb; obtain ⟨base, HO0⟩ : ∃ base, Aside0 (Kd.R (Kd.int .i64) 3 w6 base (fun _ => True) v7 l) := ⟨_, ⟨ho⟩⟩; have HO := HO0; clear HO0 ho; obtain ⟨Ao, co, eo⟩ := Kd.R_slice HO.out; subst eo))
  go_loopg [9] k (fun kq v9 w' => ∃ (x9 : Int) (zs : List Bool), v9 = .int .i64 x9 ∧ Aside0 (impl_MayReadFirst.r0 kq l x9 zs = some ys) ∧ Aside0 (Kd.R (Kd.int .i64) 3 w' base (fun _ => True) (.slice Ao l.length co) l) ∧ Aside0 (impl_MayReadFirst.Bx w' g zs) ∧ Aside0 (Below w0.heap.size w0 w') ∧ Aside0 (KeepBut w w' g none))
  case atStart => exact ⟨0, xs, rfl, H', ⟨by (with_reducible repeat (first | apply Kd.R_alloc | apply Kd.R_drewN | apply Kd.R_drew)); exact HO.out⟩, ⟨by repeat (first | exact HX.out | apply impl_MayReadFirst.Bx.drewN | apply impl_MayReadFirst.Bx.drew)⟩, ⟨by repeat (first | (with_reducible first | exact HB.out | apply below_alloc | apply pw_below_drewN | apply below_drew1) | exact HB.out)⟩, ⟨by repeat (first | exact HK.out | apply impl_MayReadFirst.kb_drewN | apply impl_MayReadFirst.kb_drew)⟩⟩
  case round =>
    clear H' HO HX HB HK
    try clear hcz_0
    try clear hcz_1
    try clear hcz_2
    try clear hbox
    obtain ⟨x9, zs, rfl, HA, HO, HX, HB, HK⟩ := hrel
    cases gk with
    | zero => exact absurd HA.out (by simp [impl_MayReadFirst.r0])
    | succ k1 =>
      have H := HA.out
      clear HA
      simp only [impl_MayReadFirst.r0] at H
      by_cases c1 : x9 < (l.length : Int)
      · rw [if_pos c1] at H
        have c1b : decide (x9 < (l.length : Int)) = true := decide_eq_true c1
        by_cases c2 : 0 ≤ x9
        · rw [if_pos c2] at H
          have c2b : decide (0 ≤ x9) = true := decide_eq_true c2
          obtain ⟨ad, e1, hx0⟩ := Kd.at_int (Kd.R_reads' HO.out).2.2 x9 c2 c1
          cases e1
          by_cases c3 : 0 ≤ rd l x9
          · rw [if_pos c3] at H
            have c3b : decide (0 ≤ rd l x9) = true := decide_eq_true c3
            by_cases c4 : rd l x9 < 8
            · rw [if_pos c4] at H
              have c4b : decide (rd l x9 < 8) = true := decide_eq_true c4
              have hs := HX.out.cell (rd l x9).toNat (by omega)
              have hfz := blk_frozen HX.out.1 (8 + (rd l x9).toNat)
              by_cases c5 : zs.getD (rd l x9).toNat false = true
              · rw [if_pos c5] at H
                rw [c5] at hs
                have H' := Aside0.mk H
                clear H
                go_wp2
                go_roundg k1
                case measure => omega
                case rel => exact ⟨wrap64 (x9 + 1), zs, rfl, H', ⟨by (with_reducible repeat (first | apply Kd.R_alloc | apply Kd.R_drewN | apply Kd.R_drew)); exact HO.out⟩, ⟨by repeat (first | exact HX.out | apply impl_MayReadFirst.Bx.drewN | apply impl_MayReadFirst.Bx.drew)⟩, ⟨by repeat (first | (with_reducible first | exact HB.out | apply below_alloc | apply pw_below_drewN | apply below_drew1) | exact HB.out)⟩, ⟨by repeat (first | exact HK.out | apply impl_MayReadFirst.kb_drewN | apply impl_MayReadFirst.kb_drew)⟩⟩
              · rw [if_neg c5] at H
                replace c5 := Bool.eq_false_iff.mpr c5
                rw [c5] at hs
                have H' := Aside0.mk H
                clear H
                have hs8 := HX.out.cell (8 + (rd l x9).toNat) (by omega)
                go_wp2
                go_roundg k1
                case measure => omega
                case rel => exact ⟨wrap64 (x9 + 1), zs.set (8 + (rd l x9).toNat) true, rfl, H', ⟨Kd.R_set HO.out HX.out.1 (by decide) _ _⟩, ⟨HX.out.set _ _⟩, ⟨below_set HB.out HG.out⟩, ⟨HK.out.set_ _ _⟩⟩
            · rw [if_neg c4] at H; exact absurd H (by simp)
          · rw [if_neg c3] at H; exact absurd H (by simp)
        · rw [if_neg c2] at H; exact absurd H (by simp)
      · rw [if_neg c1] at H
        have c1b : decide (x9 < (l.length : Int)) = false := decide_eq_false c1
        obtain rfl := Option.some.inj H
        go_wp2
        go_end0
        exact ⟨rfl, by repeat (first | exact HX.out | apply impl_MayReadFirst.Bx.drewN | apply impl_MayReadFirst.Bx.drew), by repeat (first | (with_reducible first | exact HB.out | apply below_alloc | apply pw_below_drewN | apply below_drew1) | exact HB.out), by repeat (first | exact HK.out | apply impl_MayReadFirst.kb_drewN | apply impl_MayReadFirst.kb_drew)⟩
/-- The eight bools that were copied, put back. -/
def impl_MayReadFirst.rst (ys b : List Bool) : List Bool := (((((((ys.set 0 (b.getD 0 false)).set 1 (b.getD 1 false)).set 2 (b.getD 2 false)).set 3 (b.getD 3 false)).set 4 (b.getD 4 false)).set 5 (b.getD 5 false)).set 6 (b.getD 6 false)).set 7 (b.getD 7 false)
mutual
def impl_MayReadFirst.pf : Nat → List (S39) → List Bool → Option (List Bool)
  | 0, _, _ => none
  | k + 1, l, xs => impl_MayReadFirst.p0 k l 0 xs
def impl_MayReadFirst.p0 : Nat → List (S39) → Int → List Bool → Option (List Bool)
  | 0, _, _, _ => none
  | k + 1, l, i, xs => if i < (l.length : Int) then (if 0 ≤ i then ((impl_hasExpr.f ((rd_T39 l i).f0)).bind fun t1 => ((impl_hasVar.f ((rd_T39 l i).f0)).bind fun t2 => (if ((rd_T39 l i).f0) = 4 then (if t1 = true then (if t2 = true then none else ((impl_MayReadFirst.rf k xs ((rd_T39 l i).f3.f0) ((rd_T39 l i).f3.f1) ((rd_T39 l i).f3.f2)).bind fun x1 => ((impl_endOf.f k l i).bind fun e => (if 0 ≤ (wrap64 (i + 1)) then (if (wrap64 (i + 1)) ≤ e then (if e ≤ (l.length : Int) then ((impl_MayReadFirst.pf k ((l.take e.toNat).drop (wrap64 (i + 1)).toNat) x1).bind fun y => impl_MayReadFirst.p0 k l (wrap64 (e + 1)) (impl_MayReadFirst.rst y x1)) else none) else none) else none)))) else none) else (if t1 = true then ((impl_MayReadFirst.rf k xs ((rd_T39 l i).f3.f0) ((rd_T39 l i).f3.f1) ((rd_T39 l i).f3.f2)).bind fun x1 => (if t2 = true then (if 0 ≤ ((rd_T39 l i).f1) then (if ((rd_T39 l i).f1) < 8 then impl_MayReadFirst.p0 k l (wrap64 (i + 1)) (x1.set ((rd_T39 l i).f1).toNat true) else none) else none) else impl_MayReadFirst.p0 k l (wrap64 (i + 1)) x1)) else (if t2 = true then (if 0 ≤ ((rd_T39 l i).f1) then (if ((rd_T39 l i).f1) < 8 then impl_MayReadFirst.p0 k l (wrap64 (i + 1)) (xs.set ((rd_T39 l i).f1).toNat true) else none) else none) else impl_MayReadFirst.p0 k l (wrap64 (i + 1)) xs))))) else none) else some xs
end
theorem impl_MayReadFirst.p_mono : ∀ k, (∀ y0 y1, LeO (impl_MayReadFirst.pf k y0 y1) (impl_MayReadFirst.pf (k + 1) y0 y1)) ∧ (∀ y0 y1 y2, LeO (impl_MayReadFirst.p0 k y0 y1 y2) (impl_MayReadFirst.p0 (k + 1) y0 y1 y2))
  | 0 => ⟨fun _ _ r h => by simp [impl_MayReadFirst.pf] at h, fun _ _ _ r h => by simp [impl_MayReadFirst.p0] at h⟩
  | k + 1 => by
    obtain ⟨ih0, ih1⟩ := impl_MayReadFirst.p_mono k
    refine ⟨?_, ?_⟩
    · intro y0 y1
      unfold impl_MayReadFirst.pf
      exact ih1 _ _ _
    · intro y0 y1 y2
      unfold impl_MayReadFirst.p0
      repeat' first
      | (with_reducible exact ih0 _ _)
      | (with_reducible exact ih1 _ _ _)
      | (with_reducible exact LeO.refl _)
      | (with_reducible exact LeO.none _)
      | (with_reducible refine LeO.ite ?_ ?_)
      | (with_reducible refine LeO.bind ?_ (fun _ => ?_))
      | (with_reducible exact impl_MayReadFirst.rf_mono _ _ _ _ _)
      | (with_reducible exact impl_endOf.mono _ _ _)
      | exact ih0 _ _
      | exact ih1 _ _ _
      | exact LeO.none _
      | refine LeO.ite ?_ ?_
      | refine LeO.bind ?_ (fun _ => ?_)
theorem impl_MayReadFirst.box6 {W : World} {g t : Nat} {u0 u1 u2 u3 u4 u5 : Value} (h : W.heap[g]? = some (.cells #[u0, u1, u2, u3, u4, u5] t (0, 0))) (v0 v1 v2 v3 v4 v5 : Value) : ((((((W.setCell ⟨g, 0, none⟩ v0).setCell ⟨g, 1, none⟩ v1).setCell ⟨g, 2, none⟩ v2).setCell ⟨g, 3, none⟩ v3).setCell ⟨g, 4, none⟩ v4).setCell ⟨g, 5, none⟩ v5).heap[g]? = some (.cells #[v0, v1, v2, v3, v4, v5] t (0, 0)) := by
  simpa using blk_set (blk_set (blk_set (blk_set (blk_set (blk_set h 0 v0) 1 v1) 2 v2) 3 v3) 4 v4) 5 v5
theorem impl_MayReadFirst.box8 {W : World} {g t : Nat} {u0 u1 u2 u3 u4 u5 u6 u7 : Value} (h : W.heap[g]? = some (.cells #[u0, u1, u2, u3, u4, u5, u6, u7] t (0, 0))) (v0 v1 v2 v3 v4 v5 v6 v7 : Value) : ((((((((W.setCell ⟨g, 0, none⟩ v0).setCell ⟨g, 1, none⟩ v1).setCell ⟨g, 2, none⟩ v2).setCell ⟨g, 3, none⟩ v3).setCell ⟨g, 4, none⟩ v4).setCell ⟨g, 5, none⟩ v5).setCell ⟨g, 6, none⟩ v6).setCell ⟨g, 7, none⟩ v7).heap[g]? = some (.cells #[v0, v1, v2, v3, v4, v5, v6, v7] t (0, 0)) := by
  simpa using blk_set (blk_set (blk_set (blk_set (blk_set (blk_set (blk_set (blk_set h 0 v0) 1 v1) 2 v2) 3 v3) 4 v4) 5 v5) 6 v6) 7 v7
set_option maxHeartbeats 8000000 in
set_option maxRecDepth 100000 in
theorem impl_MayReadFirst.pcalls (k : Nat) : ∀ (g : Nat) (A0 : Option Addr) (c0 : Nat) (l0 : List (S39)) (xs ys : List Bool) (w0 w : World) (hX : impl_MayReadFirst.Bx w g xs) (hg : w0.heap.size ≤ g) (hB : Below w0.heap.size w0 w) (hr0 : ∀ W_, KeepBut w W_ g none → Kd.C k39 W_ A0 l0.length l0) (hc0 : l0.length ≤ c0) (h : impl_MayReadFirst.pf k l0 xs = some ys),
    Calls Try.prog 64 #[.pointer (some ⟨g, 0, none⟩), .slice A0 l0.length c0] w fun e w' => e = .returned (.tuple #[]) ∧ impl_MayReadFirst.Bx w' g ys ∧ Below w0.heap.size w0 w' ∧ KeepBut w w' g none := by
  induction k using Nat.strongRecOn with
  | _ k ih =>
  intro g A0 c0 l0 xs ys w0 w hX hg hB hr0 hc0 h
  cases k with
  | zero => exact absurd h (by simp [impl_MayReadFirst.pf])
  | succ k =>
  simp only [impl_MayReadFirst.pf] at h
  have hu39 := Try.underlying39
  have hu37 := Try.underlying37
  have HX := Aside0.mk hX
  have HG := Aside0.mk hg
  have HB := Aside0.mk hB
  have HR0 := Aside0.mk hr0
  have HC0 := Aside0.mk hc0
  have HK := Aside0.mk (KeepBut.refl w g none)
  have H' := Aside0.mk h
  clear hX hg hB hr0 hc0 h
  go_enter Try.func64, Try.ntmps64
  go_wp2
  go_loopg [4] k (fun kq v4 w' => ∃ (x4 : Int) (zs : List Bool), v4 = .int .i64 x4 ∧ Aside0 (impl_MayReadFirst.p0 kq l0 x4 zs = some ys) ∧ Aside0 (kq ≤ k) ∧ Aside0 (impl_MayReadFirst.Bx w' g zs) ∧ Aside0 (Below w0.heap.size w0 w') ∧ Aside0 (KeepBut w w' g none))
  case atStart => exact ⟨0, xs, rfl, H', ⟨Nat.le_refl _⟩, ⟨by repeat (first | exact HX.out | apply impl_MayReadFirst.Bx.drewN | apply impl_MayReadFirst.Bx.drew)⟩, ⟨by repeat (first | (with_reducible first | exact HB.out | apply below_alloc | apply pw_below_drewN | apply below_drew1) | exact HB.out)⟩, ⟨by repeat (first | exact HK.out | apply impl_MayReadFirst.kb_drewN | apply impl_MayReadFirst.kb_drew)⟩⟩
  case round =>
    clear H' HX HB HK
    obtain ⟨x4, zs, rfl, HA, HQ, HX, HB, HK⟩ := hrel
    cases gk with
    | zero => exact absurd HA.out (by simp [impl_MayReadFirst.p0])
    | succ k1 =>
      have H := HA.out
      clear HA
      simp only [impl_MayReadFirst.p0] at H
      by_cases c1 : x4 < (l0.length : Int)
      · rw [if_pos c1] at H
        have c1b : decide (x4 < (l0.length : Int)) = true := decide_eq_true c1
        by_cases c2 : 0 ≤ x4
        · rw [if_pos c2] at H
          have c2b : decide (0 ≤ x4) = true := decide_eq_true c2
          obtain ⟨t1, A10, H⟩ := Option.bind_eq_some_iff.mp H
          obtain ⟨t2, A20, H⟩ := Option.bind_eq_some_iff.mp H
          have A1 := Aside0.mk A10
          have A2 := Aside0.mk A20
          clear A10 A20
          by_cases c4 : (rd_T39 l0 x4).f0 = 4
          · rw [if_pos c4] at H
            have c4b : ((rd_T39 l0 x4).f0 == 4) = true := beq_iff_eq.mpr c4
            clear c4
            cases t1 with
            | false => exact absurd H (by simp)
            | true =>
              cases t2 with
              | true => exact absurd H (by simp)
              | false =>
                simp only [if_true, Bool.false_eq_true, if_false] at H
                obtain ⟨x1, A30, H⟩ := Option.bind_eq_some_iff.mp H
                obtain ⟨e, A40, H⟩ := Option.bind_eq_some_iff.mp H
                have A3 := Aside0.mk A30
                have A4 := Aside0.mk A40
                clear A30 A40
                by_cases c5 : 0 ≤ (wrap64 (x4 + 1))
                · rw [if_pos c5] at H
                  by_cases c6 : (wrap64 (x4 + 1)) ≤ e
                  · rw [if_pos c6] at H
                    by_cases c7 : e ≤ (l0.length : Int)
                    · rw [if_pos c7] at H
                      obtain ⟨y, A50, H⟩ := Option.bind_eq_some_iff.mp H
                      have A5 := Aside0.mk A50
                      clear A50
                      have H' := Aside0.mk H
                      clear H
                      obtain ⟨vv, hvv⟩ : ∃ vv, vv = (l0.take e.toNat).drop (wrap64 (x4 + 1)).toNat := ⟨_, rfl⟩
                      rw [← hvv] at A5
                      have HR := HR0
                      have HCC := HC0
                      obtain ⟨ad, e1, hx0, hx1, hx2, hx3, hx4, hx5⟩ := at_T39 (Kd.C_foot_now HR0.out HK.out) x4 c2 c1
                      cases e1
                      obtain ⟨i0q, hi0q, _, hszq, _⟩ := info_parts info39
                      have hcutq := cut_mid (P := Try.prog) 26 39 .i64 .i64 Try.underlying26 hi0q 6 hszq (some ad) l0.length c0 (wrap64 (x4 + 1)) e c5 c6 c7 HC0.out
                      obtain ⟨Aq, hAq⟩ : ∃ A1, A1 = (if c0 = (wrap64 (x4 + 1)).toNat then (some ad) else (some ad : Option Addr).map (·.add ((wrap64 (x4 + 1)).toNat * 6))) := ⟨_, rfl⟩
                      obtain ⟨cq, hcq⟩ : ∃ c1, c1 = c0 - (wrap64 (x4 + 1)).toNat := ⟨_, rfl⟩
                      have hroomq := HC0.out
                      have hyq : vv.length = e.toNat - (wrap64 (x4 + 1)).toNat := (by rw [hvv, List.length_drop, List.length_take]; omega)
                      have HRv := Aside0.mk (show ∀ W_, KeepBut w W_ g none → Kd.C k39 W_ Aq vv.length vv from (fun W_ hk_ => by have h_ := Kd.C_mid (lo := (wrap64 (x4 + 1)).toNat) (hi := e.toNat) (c := c0) (HR0.out W_ hk_) (by omega) (by omega) hroomq; rw [← hvv] at h_; rw [hAq]; exact h_))
                      have HCv := Aside0.mk (show vv.length ≤ cq from by rw [hyq, hcq]; exact Nat.sub_le_sub_right (Nat.le_trans (by omega) hroomq) _)
                      rw [← hyq, ← hAq, ← hcq] at hcutq
                      clear hAq hcq hyq hi0q hszq hroomq hvv
                      go_wp2_with (first | ((with_reducible refine gate_dst (N := 5) rfl ?_); refine box_event ?hg (N := 5) ?hd (cs := #[.int .i64 0, .int .i64 0, .int .i64 0, .int .i64 0, .int .i64 0, .int .i64 0]) (t := 39) ?hr ?_; (case hd => rfl); (case hg => rfl); (case hr => first | (go_simp; done) | (go_simp; rfl)); intro gs hgs w5 hbox hb; have hne : g ≠ gs := (by rw [hgs]; exact Nat.ne_of_lt (blk_lt HX.out.1)); have GEs := Aside0.mk (show w0.heap.size ≤ gs from (by rw [hgs]; exact below_size HB.out)); have GWs := Aside0.mk (show w.heap.size ≤ gs from (by rw [hgs]; exact HK.out.1)); have n0_ := Aside0.mk (HX.out.below hb); have n1_ := Aside0.mk (below_step HB.out hb); have n2_ := Aside0.mk (HK.out.trans (KeepBut.of_below hb g none) (.inl rfl)); clear HX HB HK; have HX := n0_; have HB := n1_; have HK := n2_; clear n0_ n1_ n2_ hb hgs; have HS := Aside0.mk hbox; clear hbox; have hcza_0 := (blk_cell HS.out 0).trans rfl; have hcza_1 := (blk_cell HS.out 1).trans rfl; have hcza_2 := (blk_cell HS.out 2).trans rfl; have hcza_3 := (blk_cell HS.out 3).trans rfl; have hcza_4 := (blk_cell HS.out 4).trans rfl; have hcza_5 := (blk_cell HS.out 5).trans rfl; have hfhcza_0 := blk_frozen HS.out 0; have hfhcza_1 := blk_frozen HS.out 1; have hfhcza_2 := blk_frozen HS.out 2; have hfhcza_3 := blk_frozen HS.out 3; have hfhcza_4 := blk_frozen HS.out 4; have hfhcza_5 := blk_frozen HS.out 5) | ((with_reducible refine gate_callee (f := 91) rfl ?_); refine goesL_ (some 20) rfl rfl Try.func91 (by kernel_rfl) rfl #[.int .i64 ((rd_T39 l0 x4).f0)] rfl (by (try simp only [List.map_toArray, List.map_cons, List.map_nil]); first | done | rfl | (simp only [List.length_drop, List.length_take]; rfl)) ?_; (with_reducible refine (impl_hasExpr.calls ((rd_T39 l0 x4).f0) true _ A1.out).mono ?_); rintro e wE ⟨rfl, hd⟩; refine ⟨_, rfl, ?_⟩; have n0_ := Aside0.mk (show impl_MayReadFirst.Bx wE g zs from (by obtain ⟨nd, rfl⟩ := hd; exact by repeat (with_reducible first | exact HX.out | refine impl_MayReadFirst.Bx.far (p := ⟨gs, _, none⟩) ?_ hne _ | apply impl_MayReadFirst.Bx.drewN | apply impl_MayReadFirst.Bx.drew))); have n1_ := Aside0.mk (show Below w0.heap.size w0 wE from (by obtain ⟨nd, rfl⟩ := hd; exact by repeat (with_reducible first | exact HB.out | apply below_alloc | apply pw_below_drewN | apply below_drew1 | refine below_set ?_ GEs.out | refine below_set ?_ HG.out))); have n2_ := Aside0.mk (show KeepBut w wE g none from (by obtain ⟨nd, rfl⟩ := hd; exact by repeat (with_reducible first | exact HK.out | refine keep_far (p := ⟨gs, _, none⟩) ?_ GWs.out _ | apply impl_MayReadFirst.kb_drewN | apply impl_MayReadFirst.kb_drew))); have n3_ := Aside0.mk (show wE.heap[gs]? = some (.cells #[.int .i64 ((rd_T39 l0 x4).f0), .int .i64 ((rd_T39 l0 x4).f1), .int .i64 ((rd_T39 l0 x4).f2), .int .i64 ((rd_T39 l0 x4).f3.f0), .int .i64 ((rd_T39 l0 x4).f3.f1), .int .i64 ((rd_T39 l0 x4).f3.f2)] 39 (0, 0)) from (by obtain ⟨nd, rfl⟩ := hd; exact blk_drewN (impl_MayReadFirst.box6 HS.out (.int .i64 ((rd_T39 l0 x4).f0)) (.int .i64 ((rd_T39 l0 x4).f1)) (.int .i64 ((rd_T39 l0 x4).f2)) (.int .i64 ((rd_T39 l0 x4).f3.f0)) (.int .i64 ((rd_T39 l0 x4).f3.f1)) (.int .i64 ((rd_T39 l0 x4).f3.f2))) nd)); clear HX HB HK HS hd; have HX := n0_; have HB := n1_; have HK := n2_; have HS := n3_; clear n0_ n1_ n2_ n3_; (try clear hcza_0 hcza_1 hcza_2 hcza_3 hcza_4 hcza_5 hfhcza_0 hfhcza_1 hfhcza_2 hfhcza_3 hfhcza_4 hfhcza_5); have hcze_0 := (blk_cell HS.out 0).trans rfl; have hcze_1 := (blk_cell HS.out 1).trans rfl; have hcze_2 := (blk_cell HS.out 2).trans rfl; have hcze_3 := (blk_cell HS.out 3).trans rfl; have hcze_4 := (blk_cell HS.out 4).trans rfl; have hcze_5 := (blk_cell HS.out 5).trans rfl; have hfhcze_0 := blk_frozen HS.out 0; have hfhcze_1 := blk_frozen HS.out 1; have hfhcze_2 := blk_frozen HS.out 2; have hfhcze_3 := blk_frozen HS.out 3; have hfhcze_4 := blk_frozen HS.out 4; have hfhcze_5 := blk_frozen HS.out 5) | (go_at_call 65; (with_reducible refine (impl_MayReadFirst.rcalls k1 g zs x1 ((rd_T39 l0 x4).f3.f0) ((rd_T39 l0 x4).f3.f1) ((rd_T39 l0 x4).f3.f2) w0 _ ?hX HG.out ?hB A3.out).mono ?_); (case hX => exact (by repeat (with_reducible first | exact HX.out | refine impl_MayReadFirst.Bx.far (p := ⟨gs, _, none⟩) ?_ hne _ | apply impl_MayReadFirst.Bx.drewN | apply impl_MayReadFirst.Bx.drew))); (case hB => exact (by repeat (with_reducible first | exact HB.out | apply below_alloc | apply pw_below_drewN | apply below_drew1 | refine below_set ?_ GEs.out | refine below_set ?_ HG.out))); rintro e w6 ⟨rfl, hx, hb, hk⟩; have n0_ := Aside0.mk hx; have n1_ := Aside0.mk hb; have n2_ := Aside0.mk (KeepBut.trans (by repeat (with_reducible first | exact HK.out | refine keep_far (p := ⟨gs, _, none⟩) ?_ GWs.out _ | apply impl_MayReadFirst.kb_drewN | apply impl_MayReadFirst.kb_drew)) hk (.inl rfl)); have n3_ := Aside0.mk (hk.blk HS.out hne.symm (by simp)); clear HX HB HK HS; have HX := n0_; have HB := n1_; have HK := n2_; have HS := n3_; clear n0_ n1_ n2_ n3_ hx hb hk; (try clear hcze_0 hcze_1 hcze_2 hcze_3 hcze_4 hcze_5 hfhcze_0 hfhcze_1 hfhcze_2 hfhcze_3 hfhcze_4 hfhcze_5); have hczb_0 := (blk_cell HS.out 0).trans rfl; have hczb_1 := (blk_cell HS.out 1).trans rfl; have hczb_2 := (blk_cell HS.out 2).trans rfl; have hczb_3 := (blk_cell HS.out 3).trans rfl; have hczb_4 := (blk_cell HS.out 4).trans rfl; have hczb_5 := (blk_cell HS.out 5).trans rfl; have hfhczb_0 := blk_frozen HS.out 0; have hfhczb_1 := blk_frozen HS.out 1; have hfhczb_2 := blk_frozen HS.out 2; have hfhczb_3 := blk_frozen HS.out 3; have hfhczb_4 := blk_frozen HS.out 4; have hfhczb_5 := blk_frozen HS.out 5; have hrs_0 := HX.out.cell 0 (by omega); have hrs_1 := HX.out.cell 1 (by omega); have hrs_2 := HX.out.cell 2 (by omega); have hrs_3 := HX.out.cell 3 (by omega); have hrs_4 := HX.out.cell 4 (by omega); have hrs_5 := HX.out.cell 5 (by omega); have hrs_6 := HX.out.cell 6 (by omega); have hrs_7 := HX.out.cell 7 (by omega)) | ((with_reducible refine gate_callee (f := 81) rfl ?_); refine goesL_ (some 27) rfl rfl Try.func81 (by kernel_rfl) rfl #[.int .i64 ((rd_T39 l0 x4).f0)] rfl (by (try simp only [List.map_toArray, List.map_cons, List.map_nil]); first | done | rfl | (simp only [List.length_drop, List.length_take]; rfl)) ?_; (with_reducible refine (impl_hasVar.calls ((rd_T39 l0 x4).f0) false _ A2.out).mono ?_); rintro e w' ⟨rfl, ⟨nd, rfl⟩⟩; refine ⟨_, rfl, ?_⟩) | ((with_reducible refine gate_callee (f := 54) rfl ?_); refine goesL_ (some 39) rfl rfl Try.func54 (by kernel_rfl) rfl #[.slice (some ad) l0.length c0, .int .i64 x4] rfl (by (try simp only [List.map_toArray, List.map_cons, List.map_nil]); first | done | rfl | (simp only [List.length_drop, List.length_take]; rfl)) ?_; (with_reducible refine (impl_endOf.calls k1 (some ad) c0 l0 x4 e _ ?sC HC0.out A4.out).mono ?_); (case sC => (repeat (first | exact (Kd.C_foot_now HR0.out HK.out) | (with_reducible refine Kd.C_alloc ?_ _) | (with_reducible refine Kd.C_drewN ?_ _) | (with_reducible refine Kd.C_drew ?_)))); rintro e w' ⟨rfl, ⟨nd, rfl⟩⟩; refine ⟨_, rfl, ?_⟩) | ((with_reducible refine gate_dst (N := 7) rfl ?_); refine box_event ?hg (N := 7) ?hd (cs := #[.bool false, .bool false, .bool false, .bool false, .bool false, .bool false, .bool false, .bool false]) (t := 85) ?hr ?_; (case hd => rfl); (case hg => rfl); (case hr => first | (go_simp; done) | (go_simp; rfl)); intro ga hga w7 hbox hb; have hnea : g ≠ ga := (by rw [hga]; exact Nat.ne_of_lt (blk_lt HX.out.1)); have GEa := Aside0.mk (show w0.heap.size ≤ ga from (by rw [hga]; exact (show w0.heap.size ≤ w6.heap.size from below_size HB.out))); have GWa := Aside0.mk (show w.heap.size ≤ ga from (by rw [hga]; exact HK.out.1)); have n0_ := Aside0.mk (impl_MayReadFirst.Bx.below (by repeat (with_reducible first | exact HX.out | apply impl_MayReadFirst.Bx.drewN | apply impl_MayReadFirst.Bx.drew)) hb); have n1_ := Aside0.mk (below_step (by repeat (with_reducible first | exact HB.out | apply pw_below_drewN | apply below_drew1)) hb); have n2_ := Aside0.mk (KeepBut.trans (by repeat (with_reducible first | exact HK.out | apply impl_MayReadFirst.kb_drewN | apply impl_MayReadFirst.kb_drew)) (KeepBut.of_below hb g none) (.inl rfl)); clear HX HB HK; have HX := n0_; have HB := n1_; have HK := n2_; clear n0_ n1_ n2_ hb hga; have HA := Aside0.mk hbox; clear hbox; have hcaa_0 := (blk_cell HA.out 0).trans rfl; have hcaa_1 := (blk_cell HA.out 1).trans rfl; have hcaa_2 := (blk_cell HA.out 2).trans rfl; have hcaa_3 := (blk_cell HA.out 3).trans rfl; have hcaa_4 := (blk_cell HA.out 4).trans rfl; have hcaa_5 := (blk_cell HA.out 5).trans rfl; have hcaa_6 := (blk_cell HA.out 6).trans rfl; have hcaa_7 := (blk_cell HA.out 7).trans rfl; have hfhcaa_0 := blk_frozen HA.out 0; have hfhcaa_1 := blk_frozen HA.out 1; have hfhcaa_2 := blk_frozen HA.out 2; have hfhcaa_3 := blk_frozen HA.out 3; have hfhcaa_4 := blk_frozen HA.out 4; have hfhcaa_5 := blk_frozen HA.out 5; have hfhcaa_6 := blk_frozen HA.out 6; have hfhcaa_7 := blk_frozen HA.out 7) | (go_at_call 64; (with_reducible refine (ih k1 (by have := HQ.out; omega) g Aq cq vv x1 y w0 _ ?hX HG.out ?hB ?hR HCv.out A5.out).mono ?_); (case hX => exact (by repeat (with_reducible first | exact HX.out | refine impl_MayReadFirst.Bx.far (p := ⟨ga, _, none⟩) ?_ hnea _ | apply impl_MayReadFirst.Bx.drewN | apply impl_MayReadFirst.Bx.drew))); (case hB => exact (by repeat (with_reducible first | exact HB.out | apply below_alloc | apply pw_below_drewN | apply below_drew1 | refine below_set ?_ GEs.out | refine below_set ?_ HG.out | refine below_set ?_ GEa.out))); (case hR => exact Kd.C_foot_step HRv.out (by repeat (with_reducible first | exact HK.out | refine keep_far (p := ⟨ga, _, none⟩) ?_ GWa.out _ | apply impl_MayReadFirst.kb_drewN | apply impl_MayReadFirst.kb_drew))); rintro e w9 ⟨rfl, hx, hb, hk⟩; have n0_ := Aside0.mk hx; have n1_ := Aside0.mk hb; have n2_ := Aside0.mk (KeepBut.trans (by repeat (with_reducible first | exact HK.out | refine keep_far (p := ⟨ga, _, none⟩) ?_ GWa.out _ | apply impl_MayReadFirst.kb_drewN | apply impl_MayReadFirst.kb_drew)) hk (.inl rfl)); have n3_ := Aside0.mk (hk.blk (impl_MayReadFirst.box8 HA.out (.bool (x1.getD 0 false)) (.bool (x1.getD 1 false)) (.bool (x1.getD 2 false)) (.bool (x1.getD 3 false)) (.bool (x1.getD 4 false)) (.bool (x1.getD 5 false)) (.bool (x1.getD 6 false)) (.bool (x1.getD 7 false))) hnea.symm (by simp)); clear HX HB HK HA; have HX := n0_; have HB := n1_; have HK := n2_; have HA := n3_; clear n0_ n1_ n2_ n3_ hx hb hk; have hcab_0 := (blk_cell HA.out 0).trans rfl; have hcab_1 := (blk_cell HA.out 1).trans rfl; have hcab_2 := (blk_cell HA.out 2).trans rfl; have hcab_3 := (blk_cell HA.out 3).trans rfl; have hcab_4 := (blk_cell HA.out 4).trans rfl; have hcab_5 := (blk_cell HA.out 5).trans rfl; have hcab_6 := (blk_cell HA.out 6).trans rfl; have hcab_7 := (blk_cell HA.out 7).trans rfl; have hfhcab_0 := blk_frozen HA.out 0; have hfhcab_1 := blk_frozen HA.out 1; have hfhcab_2 := blk_frozen HA.out 2; have hfhcab_3 := blk_frozen HA.out 3; have hfhcab_4 := blk_frozen HA.out 4; have hfhcab_5 := blk_frozen HA.out 5; have hfhcab_6 := blk_frozen HA.out 6; have hfhcab_7 := blk_frozen HA.out 7; have hgf_0 := blk_frozen HX.out.1 0; have hgc_0 := HX.out.cell 0 (by omega); have hgf_1 := blk_frozen HX.out.1 1; have hgc_1 := HX.out.cell 1 (by omega); have hgf_2 := blk_frozen HX.out.1 2; have hgc_2 := HX.out.cell 2 (by omega); have hgf_3 := blk_frozen HX.out.1 3; have hgc_3 := HX.out.cell 3 (by omega); have hgf_4 := blk_frozen HX.out.1 4; have hgc_4 := HX.out.cell 4 (by omega); have hgf_5 := blk_frozen HX.out.1 5; have hgc_5 := HX.out.cell 5 (by omega); have hgf_6 := blk_frozen HX.out.1 6; have hgc_6 := HX.out.cell 6 (by omega); have hgf_7 := blk_frozen HX.out.1 7; have hgc_7 := HX.out.cell 7 (by omega)))
                      go_roundg k1
                      case measure => omega
                      case rel => exact ⟨wrap64 (e + 1), impl_MayReadFirst.rst y x1, rfl, H', ⟨by have := HQ.out; omega⟩, ⟨(show impl_MayReadFirst.Bx _ g (impl_MayReadFirst.rst y x1) from ((((((((HX.out.set 0 _).set 1 _).set 2 _).set 3 _).set 4 _).set 5 _).set 6 _).set 7 _))⟩, ⟨by repeat (first | (with_reducible first | exact HB.out | apply below_alloc | apply pw_below_drewN | apply below_drew1 | refine below_set ?_ HG.out) | exact HB.out)⟩, ⟨by repeat (with_reducible first | exact HK.out | apply KeepBut.set_ | apply impl_MayReadFirst.kb_drewN | apply impl_MayReadFirst.kb_drew)⟩⟩
                    · rw [if_neg c7] at H; exact absurd H (by simp)
                  · rw [if_neg c6] at H; exact absurd H (by simp)
                · rw [if_neg c5] at H; exact absurd H (by simp)
          · rw [if_neg c4] at H
            have c4b : ((rd_T39 l0 x4).f0 == 4) = false := beq_eq_false_iff_ne.mpr c4
            clear c4
            cases t1 with
            | false =>
              simp only [if_true, Bool.false_eq_true, if_false] at H
              cases t2 with
              | false =>
                simp only [if_true, Bool.false_eq_true, if_false] at H
                have H' := Aside0.mk H
                clear H
                obtain ⟨ad, e1, hx0, hx1, hx2, hx3, hx4, hx5⟩ := at_T39 (Kd.C_foot_now HR0.out HK.out) x4 c2 c1
                cases e1
                go_wp2_with (first | ((with_reducible refine gate_dst (N := 5) rfl ?_); refine box_event ?hg (N := 5) ?hd (cs := #[.int .i64 0, .int .i64 0, .int .i64 0, .int .i64 0, .int .i64 0, .int .i64 0]) (t := 39) ?hr ?_; (case hd => rfl); (case hg => rfl); (case hr => first | (go_simp; done) | (go_simp; rfl)); intro gs hgs w5 hbox hb; have hne : g ≠ gs := (by rw [hgs]; exact Nat.ne_of_lt (blk_lt HX.out.1)); have GEs := Aside0.mk (show w0.heap.size ≤ gs from (by rw [hgs]; exact below_size HB.out)); have GWs := Aside0.mk (show w.heap.size ≤ gs from (by rw [hgs]; exact HK.out.1)); have n0_ := Aside0.mk (HX.out.below hb); have n1_ := Aside0.mk (below_step HB.out hb); have n2_ := Aside0.mk (HK.out.trans (KeepBut.of_below hb g none) (.inl rfl)); clear HX HB HK; have HX := n0_; have HB := n1_; have HK := n2_; clear n0_ n1_ n2_ hb hgs; have HS := Aside0.mk hbox; clear hbox; have hcza_0 := (blk_cell HS.out 0).trans rfl; have hcza_1 := (blk_cell HS.out 1).trans rfl; have hcza_2 := (blk_cell HS.out 2).trans rfl; have hcza_3 := (blk_cell HS.out 3).trans rfl; have hcza_4 := (blk_cell HS.out 4).trans rfl; have hcza_5 := (blk_cell HS.out 5).trans rfl; have hfhcza_0 := blk_frozen HS.out 0; have hfhcza_1 := blk_frozen HS.out 1; have hfhcza_2 := blk_frozen HS.out 2; have hfhcza_3 := blk_frozen HS.out 3; have hfhcza_4 := blk_frozen HS.out 4; have hfhcza_5 := blk_frozen HS.out 5) | ((with_reducible refine gate_callee (f := 91) rfl ?_); refine goesL_ (some 20) rfl rfl Try.func91 (by kernel_rfl) rfl #[.int .i64 ((rd_T39 l0 x4).f0)] rfl (by (try simp only [List.map_toArray, List.map_cons, List.map_nil]); first | done | rfl | (simp only [List.length_drop, List.length_take]; rfl)) ?_; (with_reducible refine (impl_hasExpr.calls ((rd_T39 l0 x4).f0) false _ A1.out).mono ?_); rintro e wE ⟨rfl, hd⟩; refine ⟨_, rfl, ?_⟩; have n0_ := Aside0.mk (show impl_MayReadFirst.Bx wE g zs from (by obtain ⟨nd, rfl⟩ := hd; exact by repeat (with_reducible first | exact HX.out | refine impl_MayReadFirst.Bx.far (p := ⟨gs, _, none⟩) ?_ hne _ | apply impl_MayReadFirst.Bx.drewN | apply impl_MayReadFirst.Bx.drew))); have n1_ := Aside0.mk (show Below w0.heap.size w0 wE from (by obtain ⟨nd, rfl⟩ := hd; exact by repeat (with_reducible first | exact HB.out | apply below_alloc | apply pw_below_drewN | apply below_drew1 | refine below_set ?_ GEs.out | refine below_set ?_ HG.out))); have n2_ := Aside0.mk (show KeepBut w wE g none from (by obtain ⟨nd, rfl⟩ := hd; exact by repeat (with_reducible first | exact HK.out | refine keep_far (p := ⟨gs, _, none⟩) ?_ GWs.out _ | apply impl_MayReadFirst.kb_drewN | apply impl_MayReadFirst.kb_drew))); have n3_ := Aside0.mk (show wE.heap[gs]? = some (.cells #[.int .i64 ((rd_T39 l0 x4).f0), .int .i64 ((rd_T39 l0 x4).f1), .int .i64 ((rd_T39 l0 x4).f2), .int .i64 ((rd_T39 l0 x4).f3.f0), .int .i64 ((rd_T39 l0 x4).f3.f1), .int .i64 ((rd_T39 l0 x4).f3.f2)] 39 (0, 0)) from (by obtain ⟨nd, rfl⟩ := hd; exact blk_drewN (impl_MayReadFirst.box6 HS.out (.int .i64 ((rd_T39 l0 x4).f0)) (.int .i64 ((rd_T39 l0 x4).f1)) (.int .i64 ((rd_T39 l0 x4).f2)) (.int .i64 ((rd_T39 l0 x4).f3.f0)) (.int .i64 ((rd_T39 l0 x4).f3.f1)) (.int .i64 ((rd_T39 l0 x4).f3.f2))) nd)); clear HX HB HK HS hd; have HX := n0_; have HB := n1_; have HK := n2_; have HS := n3_; clear n0_ n1_ n2_ n3_; (try clear hcza_0 hcza_1 hcza_2 hcza_3 hcza_4 hcza_5 hfhcza_0 hfhcza_1 hfhcza_2 hfhcza_3 hfhcza_4 hfhcza_5); have hcze_0 := (blk_cell HS.out 0).trans rfl; have hcze_1 := (blk_cell HS.out 1).trans rfl; have hcze_2 := (blk_cell HS.out 2).trans rfl; have hcze_3 := (blk_cell HS.out 3).trans rfl; have hcze_4 := (blk_cell HS.out 4).trans rfl; have hcze_5 := (blk_cell HS.out 5).trans rfl; have hfhcze_0 := blk_frozen HS.out 0; have hfhcze_1 := blk_frozen HS.out 1; have hfhcze_2 := blk_frozen HS.out 2; have hfhcze_3 := blk_frozen HS.out 3; have hfhcze_4 := blk_frozen HS.out 4; have hfhcze_5 := blk_frozen HS.out 5) | ((with_reducible refine gate_callee (f := 81) rfl ?_); refine goesL_ (some 27) rfl rfl Try.func81 (by kernel_rfl) rfl #[.int .i64 ((rd_T39 l0 x4).f0)] rfl (by (try simp only [List.map_toArray, List.map_cons, List.map_nil]); first | done | rfl | (simp only [List.length_drop, List.length_take]; rfl)) ?_; (with_reducible refine (impl_hasVar.calls ((rd_T39 l0 x4).f0) false _ A2.out).mono ?_); rintro e w' ⟨rfl, ⟨nd, rfl⟩⟩; refine ⟨_, rfl, ?_⟩))
                go_roundg k1
                case measure => omega
                case rel => exact ⟨wrap64 (x4 + 1), zs, rfl, H', ⟨by have := HQ.out; omega⟩, ⟨by repeat (with_reducible first | exact HX.out | refine impl_MayReadFirst.Bx.far (p := ⟨gs, _, none⟩) ?_ hne _ | apply impl_MayReadFirst.Bx.drewN | apply impl_MayReadFirst.Bx.drew)⟩, ⟨by repeat (with_reducible first | exact HB.out | apply below_alloc | apply pw_below_drewN | apply below_drew1 | refine below_set ?_ GEs.out | refine below_set ?_ HG.out)⟩, ⟨by repeat (with_reducible first | exact HK.out | refine keep_far (p := ⟨gs, _, none⟩) ?_ GWs.out _ | apply impl_MayReadFirst.kb_drewN | apply impl_MayReadFirst.kb_drew)⟩⟩
              | true =>
                simp only [if_true, Bool.false_eq_true, if_false] at H
                by_cases c5 : 0 ≤ (rd_T39 l0 x4).f1
                · rw [if_pos c5] at H
                  have c5b : decide (0 ≤ (rd_T39 l0 x4).f1) = true := decide_eq_true c5
                  by_cases c6 : (rd_T39 l0 x4).f1 < 8
                  · rw [if_pos c6] at H
                    have c6b : decide ((rd_T39 l0 x4).f1 < 8) = true := decide_eq_true c6
                    have H' := Aside0.mk H
                    clear H
                    obtain ⟨ad, e1, hx0, hx1, hx2, hx3, hx4, hx5⟩ := at_T39 (Kd.C_foot_now HR0.out HK.out) x4 c2 c1
                    cases e1
                    try go_wp2_with (first | ((with_reducible refine gate_dst (N := 5) rfl ?_); refine box_event ?hg (N := 5) ?hd (cs := #[.int .i64 0, .int .i64 0, .int .i64 0, .int .i64 0, .int .i64 0, .int .i64 0]) (t := 39) ?hr ?_; (case hd => rfl); (case hg => rfl); (case hr => first | (go_simp; done) | (go_simp; rfl)); intro gs hgs w5 hbox hb; have hne : g ≠ gs := (by rw [hgs]; exact Nat.ne_of_lt (blk_lt HX.out.1)); have GEs := Aside0.mk (show w0.heap.size ≤ gs from (by rw [hgs]; exact below_size HB.out)); have GWs := Aside0.mk (show w.heap.size ≤ gs from (by rw [hgs]; exact HK.out.1)); have n0_ := Aside0.mk (HX.out.below hb); have n1_ := Aside0.mk (below_step HB.out hb); have n2_ := Aside0.mk (HK.out.trans (KeepBut.of_below hb g none) (.inl rfl)); clear HX HB HK; have HX := n0_; have HB := n1_; have HK := n2_; clear n0_ n1_ n2_ hb hgs; have HS := Aside0.mk hbox; clear hbox; have hcza_0 := (blk_cell HS.out 0).trans rfl; have hcza_1 := (blk_cell HS.out 1).trans rfl; have hcza_2 := (blk_cell HS.out 2).trans rfl; have hcza_3 := (blk_cell HS.out 3).trans rfl; have hcza_4 := (blk_cell HS.out 4).trans rfl; have hcza_5 := (blk_cell HS.out 5).trans rfl; have hfhcza_0 := blk_frozen HS.out 0; have hfhcza_1 := blk_frozen HS.out 1; have hfhcza_2 := blk_frozen HS.out 2; have hfhcza_3 := blk_frozen HS.out 3; have hfhcza_4 := blk_frozen HS.out 4; have hfhcza_5 := blk_frozen HS.out 5) | ((with_reducible refine gate_callee (f := 91) rfl ?_); refine goesL_ (some 20) rfl rfl Try.func91 (by kernel_rfl) rfl #[.int .i64 ((rd_T39 l0 x4).f0)] rfl (by (try simp only [List.map_toArray, List.map_cons, List.map_nil]); first | done | rfl | (simp only [List.length_drop, List.length_take]; rfl)) ?_; (with_reducible refine (impl_hasExpr.calls ((rd_T39 l0 x4).f0) false _ A1.out).mono ?_); rintro e wE ⟨rfl, hd⟩; refine ⟨_, rfl, ?_⟩; have n0_ := Aside0.mk (show impl_MayReadFirst.Bx wE g zs from (by obtain ⟨nd, rfl⟩ := hd; exact by repeat (with_reducible first | exact HX.out | refine impl_MayReadFirst.Bx.far (p := ⟨gs, _, none⟩) ?_ hne _ | apply impl_MayReadFirst.Bx.drewN | apply impl_MayReadFirst.Bx.drew))); have n1_ := Aside0.mk (show Below w0.heap.size w0 wE from (by obtain ⟨nd, rfl⟩ := hd; exact by repeat (with_reducible first | exact HB.out | apply below_alloc | apply pw_below_drewN | apply below_drew1 | refine below_set ?_ GEs.out | refine below_set ?_ HG.out))); have n2_ := Aside0.mk (show KeepBut w wE g none from (by obtain ⟨nd, rfl⟩ := hd; exact by repeat (with_reducible first | exact HK.out | refine keep_far (p := ⟨gs, _, none⟩) ?_ GWs.out _ | apply impl_MayReadFirst.kb_drewN | apply impl_MayReadFirst.kb_drew))); have n3_ := Aside0.mk (show wE.heap[gs]? = some (.cells #[.int .i64 ((rd_T39 l0 x4).f0), .int .i64 ((rd_T39 l0 x4).f1), .int .i64 ((rd_T39 l0 x4).f2), .int .i64 ((rd_T39 l0 x4).f3.f0), .int .i64 ((rd_T39 l0 x4).f3.f1), .int .i64 ((rd_T39 l0 x4).f3.f2)] 39 (0, 0)) from (by obtain ⟨nd, rfl⟩ := hd; exact blk_drewN (impl_MayReadFirst.box6 HS.out (.int .i64 ((rd_T39 l0 x4).f0)) (.int .i64 ((rd_T39 l0 x4).f1)) (.int .i64 ((rd_T39 l0 x4).f2)) (.int .i64 ((rd_T39 l0 x4).f3.f0)) (.int .i64 ((rd_T39 l0 x4).f3.f1)) (.int .i64 ((rd_T39 l0 x4).f3.f2))) nd)); clear HX HB HK HS hd; have HX := n0_; have HB := n1_; have HK := n2_; have HS := n3_; clear n0_ n1_ n2_ n3_; (try clear hcza_0 hcza_1 hcza_2 hcza_3 hcza_4 hcza_5 hfhcza_0 hfhcza_1 hfhcza_2 hfhcza_3 hfhcza_4 hfhcza_5); have hcze_0 := (blk_cell HS.out 0).trans rfl; have hcze_1 := (blk_cell HS.out 1).trans rfl; have hcze_2 := (blk_cell HS.out 2).trans rfl; have hcze_3 := (blk_cell HS.out 3).trans rfl; have hcze_4 := (blk_cell HS.out 4).trans rfl; have hcze_5 := (blk_cell HS.out 5).trans rfl; have hfhcze_0 := blk_frozen HS.out 0; have hfhcze_1 := blk_frozen HS.out 1; have hfhcze_2 := blk_frozen HS.out 2; have hfhcze_3 := blk_frozen HS.out 3; have hfhcze_4 := blk_frozen HS.out 4; have hfhcze_5 := blk_frozen HS.out 5) | ((with_reducible refine gate_callee (f := 81) rfl ?_); refine goesL_ (some 27) rfl rfl Try.func81 (by kernel_rfl) rfl #[.int .i64 ((rd_T39 l0 x4).f0)] rfl (by (try simp only [List.map_toArray, List.map_cons, List.map_nil]); first | done | rfl | (simp only [List.length_drop, List.length_take]; rfl)) ?_; (with_reducible refine (impl_hasVar.calls ((rd_T39 l0 x4).f0) true _ A2.out).mono ?_); rintro e w7 ⟨rfl, hd⟩; refine ⟨_, rfl, ?_⟩; have n0_ := Aside0.mk (show impl_MayReadFirst.Bx w7 g zs from (by obtain ⟨nd, rfl⟩ := hd; exact by repeat (with_reducible first | exact HX.out | refine impl_MayReadFirst.Bx.far (p := ⟨gs, _, none⟩) ?_ hne _ | apply impl_MayReadFirst.Bx.drewN | apply impl_MayReadFirst.Bx.drew))); have n1_ := Aside0.mk (show Below w0.heap.size w0 w7 from (by obtain ⟨nd, rfl⟩ := hd; exact by repeat (with_reducible first | exact HB.out | apply below_alloc | apply pw_below_drewN | apply below_drew1 | refine below_set ?_ GEs.out | refine below_set ?_ HG.out))); have n2_ := Aside0.mk (show KeepBut w w7 g none from (by obtain ⟨nd, rfl⟩ := hd; exact by repeat (with_reducible first | exact HK.out | refine keep_far (p := ⟨gs, _, none⟩) ?_ GWs.out _ | apply impl_MayReadFirst.kb_drewN | apply impl_MayReadFirst.kb_drew))); have n3_ := Aside0.mk (show w7.heap[gs]? = some (.cells #[.int .i64 ((rd_T39 l0 x4).f0), .int .i64 ((rd_T39 l0 x4).f1), .int .i64 ((rd_T39 l0 x4).f2), .int .i64 ((rd_T39 l0 x4).f3.f0), .int .i64 ((rd_T39 l0 x4).f3.f1), .int .i64 ((rd_T39 l0 x4).f3.f2)] 39 (0, 0)) from (by obtain ⟨nd, rfl⟩ := hd; exact blk_drewN HS.out nd)); clear HX HB HK HS hd; have HX := n0_; have HB := n1_; have HK := n2_; have HS := n3_; clear n0_ n1_ n2_ n3_; have hczy_0 := (blk_cell HS.out 0).trans rfl; have hczy_1 := (blk_cell HS.out 1).trans rfl; have hczy_2 := (blk_cell HS.out 2).trans rfl; have hczy_3 := (blk_cell HS.out 3).trans rfl; have hczy_4 := (blk_cell HS.out 4).trans rfl; have hczy_5 := (blk_cell HS.out 5).trans rfl; have hfhczy_0 := blk_frozen HS.out 0; have hfhczy_1 := blk_frozen HS.out 1; have hfhczy_2 := blk_frozen HS.out 2; have hfhczy_3 := blk_frozen HS.out 3; have hfhczy_4 := blk_frozen HS.out 4; have hfhczy_5 := blk_frozen HS.out 5))
                    have hgc := HX.out.drew.cell ((rd_T39 l0 x4).f1).toNat (by omega)
                    have hgf : w7.drew.frozen? ⟨g, ((rd_T39 l0 x4).f1).toNat, none⟩ = false := blk_frozen HX.out.drew.1 _
                    refine start_ (n := 7) (S := fun w' => w'.cell? ⟨gs, 1, none⟩ = some (.int .i64 ((rd_T39 l0 x4).f1))) (ds := [6]) #[false, false, false, false, false, false, false] (by kernel_rfl) rfl rfl (((blk_cell HS.out 1).trans rfl)) (fun hHeld => ?_)
                    refine pure_ (i := 0) (N := some 28) (v := ?_) (a' := ?_) #[true, false, false, false, false, false, false] rfl rfl (by kernel_rfl) (fun _ _ _ h => h) (Or.inl ⟨by rfl, ?_⟩) ?_ ?_
                    rotate_left
                    · intro w'
                      go_simp
                      with_reducible rfl
                    rotate_left
                    · simp only [Act.put, List.setIfInBounds_toArray, List.set_cons_zero, List.set_cons_succ, i64_w, i32_w]
                      rfl
                    refine pure_ (i := 1) (N := some 29) (v := ?_) (a' := ?_) #[true, true, false, false, false, false, false] rfl rfl (by kernel_rfl) (fun _ _ _ h => h) (Or.inl ⟨by rfl, ?_⟩) ?_ ?_
                    rotate_left
                    · intro w'
                      go_simp
                      with_reducible rfl
                    rotate_left
                    · simp only [Act.put, List.setIfInBounds_toArray, List.set_cons_zero, List.set_cons_succ, i64_w, i32_w]
                      rfl
                    refine pure_ (i := 3) (N := some 31) (v := ?_) (a' := ?_) #[true, true, false, true, false, false, false] rfl rfl (by kernel_rfl) (fun _ _ _ h => h) (Or.inl ⟨by rfl, ?_⟩) ?_ ?_
                    rotate_left
                    · intro w'
                      go_simp
                      with_reducible rfl
                    rotate_left
                    · simp only [Act.put, List.setIfInBounds_toArray, List.set_cons_zero, List.set_cons_succ, i64_w, i32_w]
                      rfl
                    refine pure_ (i := 4) (N := some 32) (v := ?_) (a' := ?_) #[true, true, false, true, true, false, false] rfl rfl (by kernel_rfl) (fun _ _ _ h => h) (Or.inl ⟨by rfl, ?_⟩) ?_ ?_
                    rotate_left
                    · intro w'
                      go_simp
                      with_reducible rfl
                    rotate_left
                    · simp only [Act.put, List.setIfInBounds_toArray, List.set_cons_zero, List.set_cons_succ, i64_w, i32_w]
                      rfl
                    refine take_ (i := 2) (N := some 30) (v := ?_) (a' := ?_) #[true, true, true, true, true, false, false] rfl rfl (by kernel_rfl) (fun _ _ _ h => h) (Or.inl ⟨by rfl, ?_⟩) hHeld ?_ ?_
                    rotate_left
                    · intro w' s0
                      go_simp
                      with_reducible rfl
                    rotate_left
                    · simp only [Act.put, List.setIfInBounds_toArray, List.set_cons_zero, List.set_cons_succ, i64_w, i32_w]
                      rfl
                    refine pure_ (i := 5) (N := some 33) (v := ?_) (a' := ?_) #[true, true, true, true, true, true, false] rfl rfl (by kernel_rfl) (fun _ _ _ h => h) (Or.inl ⟨by rfl, ?_⟩) ?_ ?_
                    rotate_left
                    · intro w'
                      go_simp
                      with_reducible rfl
                    rotate_left
                    · simp only [Act.put, List.setIfInBounds_toArray, List.set_cons_zero, List.set_cons_succ, i64_w, i32_w]
                      rfl
                    refine last_ (i := 6) (N := none) #[true, true, true, true, true, true, true] rfl rfl (by kernel_rfl) (by decide) (fun K hK => ?_)
                    refine skip_ (w1 := ?_) (by rfl) rfl ?_ ?_
                    rotate_left
                    · go_simp
                      rfl
                    refine hK.out _ _ ?_
                    clear hK K
                    refine done_ (by kernel_rfl) ?_

                    generalize hwz : World.setCell _ ⟨g, ((rd_T39 l0 x4).f1).toNat, none⟩ (.bool true) = wz
                    have HXz := Aside0.mk (show impl_MayReadFirst.Bx wz g (zs.set ((rd_T39 l0 x4).f1).toNat true) from (by rw [← hwz]; exact impl_MayReadFirst.Bx.set HX.out.drew _ _))
                    have HBz := Aside0.mk (show Below w0.heap.size w0 wz from (by rw [← hwz]; (repeat (with_reducible first | exact HB.out | refine below_set ?_ HG.out | apply below_drew1 | apply pw_below_drewN))))
                    have HKz := Aside0.mk (show KeepBut w wz g none from (by rw [← hwz]; exact KeepBut.set_ (impl_MayReadFirst.kb_drew HK.out) _ _))
                    have HSz := Aside0.mk (show wz.heap[gs]? = some (.cells #[.int .i64 ((rd_T39 l0 x4).f0), .int .i64 ((rd_T39 l0 x4).f1), .int .i64 ((rd_T39 l0 x4).f2), .int .i64 ((rd_T39 l0 x4).f3.f0), .int .i64 ((rd_T39 l0 x4).f3.f1), .int .i64 ((rd_T39 l0 x4).f3.f2)] 39 (0, 0)) from (by rw [← hwz]; exact blk_far (p := ⟨g, _, none⟩) (blk_drew HS.out) hne.symm _))
                    clear hwz
                    try clear hcza_0; try clear hfhcza_0; try clear hcza_1; try clear hfhcza_1; try clear hcza_2; try clear hfhcza_2; try clear hcza_3; try clear hfhcza_3; try clear hcza_4; try clear hfhcza_4; try clear hcza_5; try clear hfhcza_5; try clear hczb_0; try clear hfhczb_0; try clear hczb_1; try clear hfhczb_1; try clear hczb_2; try clear hfhczb_2; try clear hczb_3; try clear hfhczb_3; try clear hczb_4; try clear hfhczb_4; try clear hczb_5; try clear hfhczb_5; try clear hcze_0; try clear hfhcze_0; try clear hcze_1; try clear hfhcze_1; try clear hcze_2; try clear hfhcze_2; try clear hcze_3; try clear hfhcze_3; try clear hcze_4; try clear hfhcze_4; try clear hcze_5; try clear hfhcze_5; try clear hczy_0; try clear hfhczy_0; try clear hczy_1; try clear hfhczy_1; try clear hczy_2; try clear hfhczy_2; try clear hczy_3; try clear hfhczy_3; try clear hczy_4; try clear hfhczy_4; try clear hczy_5; try clear hfhczy_5
                    have hczz_0 := (blk_cell HSz.out 0).trans rfl; have hczz_1 := (blk_cell HSz.out 1).trans rfl; have hczz_2 := (blk_cell HSz.out 2).trans rfl; have hczz_3 := (blk_cell HSz.out 3).trans rfl; have hczz_4 := (blk_cell HSz.out 4).trans rfl; have hczz_5 := (blk_cell HSz.out 5).trans rfl; have hfhczz_0 := blk_frozen HSz.out 0; have hfhczz_1 := blk_frozen HSz.out 1; have hfhczz_2 := blk_frozen HSz.out 2; have hfhczz_3 := blk_frozen HSz.out 3; have hfhczz_4 := blk_frozen HSz.out 4; have hfhczz_5 := blk_frozen HSz.out 5
                    go_wp2
                    go_roundg k1
                    case measure => omega
                    case rel => exact ⟨wrap64 (x4 + 1), zs.set ((rd_T39 l0 x4).f1).toNat true, rfl, H', ⟨by have := HQ.out; omega⟩, ⟨by repeat (with_reducible first | exact HXz.out | apply impl_MayReadFirst.Bx.drewN | apply impl_MayReadFirst.Bx.drew)⟩, ⟨by repeat (with_reducible first | exact HBz.out | apply pw_below_drewN | apply below_drew1)⟩, ⟨by repeat (with_reducible first | exact HKz.out | apply impl_MayReadFirst.kb_drewN | apply impl_MayReadFirst.kb_drew)⟩⟩
                  · rw [if_neg c6] at H; exact absurd H (by simp)
                · rw [if_neg c5] at H; exact absurd H (by simp)
            | true =>
              simp only [if_true, Bool.false_eq_true, if_false] at H
              obtain ⟨x1, A30, H⟩ := Option.bind_eq_some_iff.mp H
              have A3 := Aside0.mk A30
              clear A30
              cases t2 with
              | false =>
                simp only [if_true, Bool.false_eq_true, if_false] at H
                have H' := Aside0.mk H
                clear H
                obtain ⟨ad, e1, hx0, hx1, hx2, hx3, hx4, hx5⟩ := at_T39 (Kd.C_foot_now HR0.out HK.out) x4 c2 c1
                cases e1
                go_wp2_with (first | ((with_reducible refine gate_dst (N := 5) rfl ?_); refine box_event ?hg (N := 5) ?hd (cs := #[.int .i64 0, .int .i64 0, .int .i64 0, .int .i64 0, .int .i64 0, .int .i64 0]) (t := 39) ?hr ?_; (case hd => rfl); (case hg => rfl); (case hr => first | (go_simp; done) | (go_simp; rfl)); intro gs hgs w5 hbox hb; have hne : g ≠ gs := (by rw [hgs]; exact Nat.ne_of_lt (blk_lt HX.out.1)); have GEs := Aside0.mk (show w0.heap.size ≤ gs from (by rw [hgs]; exact below_size HB.out)); have GWs := Aside0.mk (show w.heap.size ≤ gs from (by rw [hgs]; exact HK.out.1)); have n0_ := Aside0.mk (HX.out.below hb); have n1_ := Aside0.mk (below_step HB.out hb); have n2_ := Aside0.mk (HK.out.trans (KeepBut.of_below hb g none) (.inl rfl)); clear HX HB HK; have HX := n0_; have HB := n1_; have HK := n2_; clear n0_ n1_ n2_ hb hgs; have HS := Aside0.mk hbox; clear hbox; have hcza_0 := (blk_cell HS.out 0).trans rfl; have hcza_1 := (blk_cell HS.out 1).trans rfl; have hcza_2 := (blk_cell HS.out 2).trans rfl; have hcza_3 := (blk_cell HS.out 3).trans rfl; have hcza_4 := (blk_cell HS.out 4).trans rfl; have hcza_5 := (blk_cell HS.out 5).trans rfl; have hfhcza_0 := blk_frozen HS.out 0; have hfhcza_1 := blk_frozen HS.out 1; have hfhcza_2 := blk_frozen HS.out 2; have hfhcza_3 := blk_frozen HS.out 3; have hfhcza_4 := blk_frozen HS.out 4; have hfhcza_5 := blk_frozen HS.out 5) | ((with_reducible refine gate_callee (f := 91) rfl ?_); refine goesL_ (some 20) rfl rfl Try.func91 (by kernel_rfl) rfl #[.int .i64 ((rd_T39 l0 x4).f0)] rfl (by (try simp only [List.map_toArray, List.map_cons, List.map_nil]); first | done | rfl | (simp only [List.length_drop, List.length_take]; rfl)) ?_; (with_reducible refine (impl_hasExpr.calls ((rd_T39 l0 x4).f0) true _ A1.out).mono ?_); rintro e wE ⟨rfl, hd⟩; refine ⟨_, rfl, ?_⟩; have n0_ := Aside0.mk (show impl_MayReadFirst.Bx wE g zs from (by obtain ⟨nd, rfl⟩ := hd; exact by repeat (with_reducible first | exact HX.out | refine impl_MayReadFirst.Bx.far (p := ⟨gs, _, none⟩) ?_ hne _ | apply impl_MayReadFirst.Bx.drewN | apply impl_MayReadFirst.Bx.drew))); have n1_ := Aside0.mk (show Below w0.heap.size w0 wE from (by obtain ⟨nd, rfl⟩ := hd; exact by repeat (with_reducible first | exact HB.out | apply below_alloc | apply pw_below_drewN | apply below_drew1 | refine below_set ?_ GEs.out | refine below_set ?_ HG.out))); have n2_ := Aside0.mk (show KeepBut w wE g none from (by obtain ⟨nd, rfl⟩ := hd; exact by repeat (with_reducible first | exact HK.out | refine keep_far (p := ⟨gs, _, none⟩) ?_ GWs.out _ | apply impl_MayReadFirst.kb_drewN | apply impl_MayReadFirst.kb_drew))); have n3_ := Aside0.mk (show wE.heap[gs]? = some (.cells #[.int .i64 ((rd_T39 l0 x4).f0), .int .i64 ((rd_T39 l0 x4).f1), .int .i64 ((rd_T39 l0 x4).f2), .int .i64 ((rd_T39 l0 x4).f3.f0), .int .i64 ((rd_T39 l0 x4).f3.f1), .int .i64 ((rd_T39 l0 x4).f3.f2)] 39 (0, 0)) from (by obtain ⟨nd, rfl⟩ := hd; exact blk_drewN (impl_MayReadFirst.box6 HS.out (.int .i64 ((rd_T39 l0 x4).f0)) (.int .i64 ((rd_T39 l0 x4).f1)) (.int .i64 ((rd_T39 l0 x4).f2)) (.int .i64 ((rd_T39 l0 x4).f3.f0)) (.int .i64 ((rd_T39 l0 x4).f3.f1)) (.int .i64 ((rd_T39 l0 x4).f3.f2))) nd)); clear HX HB HK HS hd; have HX := n0_; have HB := n1_; have HK := n2_; have HS := n3_; clear n0_ n1_ n2_ n3_; (try clear hcza_0 hcza_1 hcza_2 hcza_3 hcza_4 hcza_5 hfhcza_0 hfhcza_1 hfhcza_2 hfhcza_3 hfhcza_4 hfhcza_5); have hcze_0 := (blk_cell HS.out 0).trans rfl; have hcze_1 := (blk_cell HS.out 1).trans rfl; have hcze_2 := (blk_cell HS.out 2).trans rfl; have hcze_3 := (blk_cell HS.out 3).trans rfl; have hcze_4 := (blk_cell HS.out 4).trans rfl; have hcze_5 := (blk_cell HS.out 5).trans rfl; have hfhcze_0 := blk_frozen HS.out 0; have hfhcze_1 := blk_frozen HS.out 1; have hfhcze_2 := blk_frozen HS.out 2; have hfhcze_3 := blk_frozen HS.out 3; have hfhcze_4 := blk_frozen HS.out 4; have hfhcze_5 := blk_frozen HS.out 5) | (go_at_call 65; (with_reducible refine (impl_MayReadFirst.rcalls k1 g zs x1 ((rd_T39 l0 x4).f3.f0) ((rd_T39 l0 x4).f3.f1) ((rd_T39 l0 x4).f3.f2) w0 _ ?hX HG.out ?hB A3.out).mono ?_); (case hX => exact (by repeat (with_reducible first | exact HX.out | refine impl_MayReadFirst.Bx.far (p := ⟨gs, _, none⟩) ?_ hne _ | apply impl_MayReadFirst.Bx.drewN | apply impl_MayReadFirst.Bx.drew))); (case hB => exact (by repeat (with_reducible first | exact HB.out | apply below_alloc | apply pw_below_drewN | apply below_drew1 | refine below_set ?_ GEs.out | refine below_set ?_ HG.out))); rintro e w6 ⟨rfl, hx, hb, hk⟩; have n0_ := Aside0.mk hx; have n1_ := Aside0.mk hb; have n2_ := Aside0.mk (KeepBut.trans (by repeat (with_reducible first | exact HK.out | refine keep_far (p := ⟨gs, _, none⟩) ?_ GWs.out _ | apply impl_MayReadFirst.kb_drewN | apply impl_MayReadFirst.kb_drew)) hk (.inl rfl)); have n3_ := Aside0.mk (hk.blk HS.out hne.symm (by simp)); clear HX HB HK HS; have HX := n0_; have HB := n1_; have HK := n2_; have HS := n3_; clear n0_ n1_ n2_ n3_ hx hb hk; (try clear hcze_0 hcze_1 hcze_2 hcze_3 hcze_4 hcze_5 hfhcze_0 hfhcze_1 hfhcze_2 hfhcze_3 hfhcze_4 hfhcze_5); have hczb_0 := (blk_cell HS.out 0).trans rfl; have hczb_1 := (blk_cell HS.out 1).trans rfl; have hczb_2 := (blk_cell HS.out 2).trans rfl; have hczb_3 := (blk_cell HS.out 3).trans rfl; have hczb_4 := (blk_cell HS.out 4).trans rfl; have hczb_5 := (blk_cell HS.out 5).trans rfl; have hfhczb_0 := blk_frozen HS.out 0; have hfhczb_1 := blk_frozen HS.out 1; have hfhczb_2 := blk_frozen HS.out 2; have hfhczb_3 := blk_frozen HS.out 3; have hfhczb_4 := blk_frozen HS.out 4; have hfhczb_5 := blk_frozen HS.out 5) | ((with_reducible refine gate_callee (f := 81) rfl ?_); refine goesL_ (some 27) rfl rfl Try.func81 (by kernel_rfl) rfl #[.int .i64 ((rd_T39 l0 x4).f0)] rfl (by (try simp only [List.map_toArray, List.map_cons, List.map_nil]); first | done | rfl | (simp only [List.length_drop, List.length_take]; rfl)) ?_; (with_reducible refine (impl_hasVar.calls ((rd_T39 l0 x4).f0) false _ A2.out).mono ?_); rintro e w' ⟨rfl, ⟨nd, rfl⟩⟩; refine ⟨_, rfl, ?_⟩))
                go_roundg k1
                case measure => omega
                case rel => exact ⟨wrap64 (x4 + 1), x1, rfl, H', ⟨by have := HQ.out; omega⟩, ⟨by repeat (with_reducible first | exact HX.out | refine impl_MayReadFirst.Bx.far (p := ⟨gs, _, none⟩) ?_ hne _ | apply impl_MayReadFirst.Bx.drewN | apply impl_MayReadFirst.Bx.drew)⟩, ⟨by repeat (with_reducible first | exact HB.out | apply below_alloc | apply pw_below_drewN | apply below_drew1 | refine below_set ?_ GEs.out | refine below_set ?_ HG.out)⟩, ⟨by repeat (with_reducible first | exact HK.out | refine keep_far (p := ⟨gs, _, none⟩) ?_ GWs.out _ | apply impl_MayReadFirst.kb_drewN | apply impl_MayReadFirst.kb_drew)⟩⟩
              | true =>
                simp only [if_true, Bool.false_eq_true, if_false] at H
                by_cases c5 : 0 ≤ (rd_T39 l0 x4).f1
                · rw [if_pos c5] at H
                  have c5b : decide (0 ≤ (rd_T39 l0 x4).f1) = true := decide_eq_true c5
                  by_cases c6 : (rd_T39 l0 x4).f1 < 8
                  · rw [if_pos c6] at H
                    have c6b : decide ((rd_T39 l0 x4).f1 < 8) = true := decide_eq_true c6
                    have H' := Aside0.mk H
                    clear H
                    obtain ⟨ad, e1, hx0, hx1, hx2, hx3, hx4, hx5⟩ := at_T39 (Kd.C_foot_now HR0.out HK.out) x4 c2 c1
                    cases e1
                    try go_wp2_with (first | ((with_reducible refine gate_dst (N := 5) rfl ?_); refine box_event ?hg (N := 5) ?hd (cs := #[.int .i64 0, .int .i64 0, .int .i64 0, .int .i64 0, .int .i64 0, .int .i64 0]) (t := 39) ?hr ?_; (case hd => rfl); (case hg => rfl); (case hr => first | (go_simp; done) | (go_simp; rfl)); intro gs hgs w5 hbox hb; have hne : g ≠ gs := (by rw [hgs]; exact Nat.ne_of_lt (blk_lt HX.out.1)); have GEs := Aside0.mk (show w0.heap.size ≤ gs from (by rw [hgs]; exact below_size HB.out)); have GWs := Aside0.mk (show w.heap.size ≤ gs from (by rw [hgs]; exact HK.out.1)); have n0_ := Aside0.mk (HX.out.below hb); have n1_ := Aside0.mk (below_step HB.out hb); have n2_ := Aside0.mk (HK.out.trans (KeepBut.of_below hb g none) (.inl rfl)); clear HX HB HK; have HX := n0_; have HB := n1_; have HK := n2_; clear n0_ n1_ n2_ hb hgs; have HS := Aside0.mk hbox; clear hbox; have hcza_0 := (blk_cell HS.out 0).trans rfl; have hcza_1 := (blk_cell HS.out 1).trans rfl; have hcza_2 := (blk_cell HS.out 2).trans rfl; have hcza_3 := (blk_cell HS.out 3).trans rfl; have hcza_4 := (blk_cell HS.out 4).trans rfl; have hcza_5 := (blk_cell HS.out 5).trans rfl; have hfhcza_0 := blk_frozen HS.out 0; have hfhcza_1 := blk_frozen HS.out 1; have hfhcza_2 := blk_frozen HS.out 2; have hfhcza_3 := blk_frozen HS.out 3; have hfhcza_4 := blk_frozen HS.out 4; have hfhcza_5 := blk_frozen HS.out 5) | ((with_reducible refine gate_callee (f := 91) rfl ?_); refine goesL_ (some 20) rfl rfl Try.func91 (by kernel_rfl) rfl #[.int .i64 ((rd_T39 l0 x4).f0)] rfl (by (try simp only [List.map_toArray, List.map_cons, List.map_nil]); first | done | rfl | (simp only [List.length_drop, List.length_take]; rfl)) ?_; (with_reducible refine (impl_hasExpr.calls ((rd_T39 l0 x4).f0) true _ A1.out).mono ?_); rintro e wE ⟨rfl, hd⟩; refine ⟨_, rfl, ?_⟩; have n0_ := Aside0.mk (show impl_MayReadFirst.Bx wE g zs from (by obtain ⟨nd, rfl⟩ := hd; exact by repeat (with_reducible first | exact HX.out | refine impl_MayReadFirst.Bx.far (p := ⟨gs, _, none⟩) ?_ hne _ | apply impl_MayReadFirst.Bx.drewN | apply impl_MayReadFirst.Bx.drew))); have n1_ := Aside0.mk (show Below w0.heap.size w0 wE from (by obtain ⟨nd, rfl⟩ := hd; exact by repeat (with_reducible first | exact HB.out | apply below_alloc | apply pw_below_drewN | apply below_drew1 | refine below_set ?_ GEs.out | refine below_set ?_ HG.out))); have n2_ := Aside0.mk (show KeepBut w wE g none from (by obtain ⟨nd, rfl⟩ := hd; exact by repeat (with_reducible first | exact HK.out | refine keep_far (p := ⟨gs, _, none⟩) ?_ GWs.out _ | apply impl_MayReadFirst.kb_drewN | apply impl_MayReadFirst.kb_drew))); have n3_ := Aside0.mk (show wE.heap[gs]? = some (.cells #[.int .i64 ((rd_T39 l0 x4).f0), .int .i64 ((rd_T39 l0 x4).f1), .int .i64 ((rd_T39 l0 x4).f2), .int .i64 ((rd_T39 l0 x4).f3.f0), .int .i64 ((rd_T39 l0 x4).f3.f1), .int .i64 ((rd_T39 l0 x4).f3.f2)] 39 (0, 0)) from (by obtain ⟨nd, rfl⟩ := hd; exact blk_drewN (impl_MayReadFirst.box6 HS.out (.int .i64 ((rd_T39 l0 x4).f0)) (.int .i64 ((rd_T39 l0 x4).f1)) (.int .i64 ((rd_T39 l0 x4).f2)) (.int .i64 ((rd_T39 l0 x4).f3.f0)) (.int .i64 ((rd_T39 l0 x4).f3.f1)) (.int .i64 ((rd_T39 l0 x4).f3.f2))) nd)); clear HX HB HK HS hd; have HX := n0_; have HB := n1_; have HK := n2_; have HS := n3_; clear n0_ n1_ n2_ n3_; (try clear hcza_0 hcza_1 hcza_2 hcza_3 hcza_4 hcza_5 hfhcza_0 hfhcza_1 hfhcza_2 hfhcza_3 hfhcza_4 hfhcza_5); have hcze_0 := (blk_cell HS.out 0).trans rfl; have hcze_1 := (blk_cell HS.out 1).trans rfl; have hcze_2 := (blk_cell HS.out 2).trans rfl; have hcze_3 := (blk_cell HS.out 3).trans rfl; have hcze_4 := (blk_cell HS.out 4).trans rfl; have hcze_5 := (blk_cell HS.out 5).trans rfl; have hfhcze_0 := blk_frozen HS.out 0; have hfhcze_1 := blk_frozen HS.out 1; have hfhcze_2 := blk_frozen HS.out 2; have hfhcze_3 := blk_frozen HS.out 3; have hfhcze_4 := blk_frozen HS.out 4; have hfhcze_5 := blk_frozen HS.out 5) | (go_at_call 65; (with_reducible refine (impl_MayReadFirst.rcalls k1 g zs x1 ((rd_T39 l0 x4).f3.f0) ((rd_T39 l0 x4).f3.f1) ((rd_T39 l0 x4).f3.f2) w0 _ ?hX HG.out ?hB A3.out).mono ?_); (case hX => exact (by repeat (with_reducible first | exact HX.out | refine impl_MayReadFirst.Bx.far (p := ⟨gs, _, none⟩) ?_ hne _ | apply impl_MayReadFirst.Bx.drewN | apply impl_MayReadFirst.Bx.drew))); (case hB => exact (by repeat (with_reducible first | exact HB.out | apply below_alloc | apply pw_below_drewN | apply below_drew1 | refine below_set ?_ GEs.out | refine below_set ?_ HG.out))); rintro e w6 ⟨rfl, hx, hb, hk⟩; have n0_ := Aside0.mk hx; have n1_ := Aside0.mk hb; have n2_ := Aside0.mk (KeepBut.trans (by repeat (with_reducible first | exact HK.out | refine keep_far (p := ⟨gs, _, none⟩) ?_ GWs.out _ | apply impl_MayReadFirst.kb_drewN | apply impl_MayReadFirst.kb_drew)) hk (.inl rfl)); have n3_ := Aside0.mk (hk.blk HS.out hne.symm (by simp)); clear HX HB HK HS; have HX := n0_; have HB := n1_; have HK := n2_; have HS := n3_; clear n0_ n1_ n2_ n3_ hx hb hk; (try clear hcze_0 hcze_1 hcze_2 hcze_3 hcze_4 hcze_5 hfhcze_0 hfhcze_1 hfhcze_2 hfhcze_3 hfhcze_4 hfhcze_5); have hczb_0 := (blk_cell HS.out 0).trans rfl; have hczb_1 := (blk_cell HS.out 1).trans rfl; have hczb_2 := (blk_cell HS.out 2).trans rfl; have hczb_3 := (blk_cell HS.out 3).trans rfl; have hczb_4 := (blk_cell HS.out 4).trans rfl; have hczb_5 := (blk_cell HS.out 5).trans rfl; have hfhczb_0 := blk_frozen HS.out 0; have hfhczb_1 := blk_frozen HS.out 1; have hfhczb_2 := blk_frozen HS.out 2; have hfhczb_3 := blk_frozen HS.out 3; have hfhczb_4 := blk_frozen HS.out 4; have hfhczb_5 := blk_frozen HS.out 5) | ((with_reducible refine gate_callee (f := 81) rfl ?_); refine goesL_ (some 27) rfl rfl Try.func81 (by kernel_rfl) rfl #[.int .i64 ((rd_T39 l0 x4).f0)] rfl (by (try simp only [List.map_toArray, List.map_cons, List.map_nil]); first | done | rfl | (simp only [List.length_drop, List.length_take]; rfl)) ?_; (with_reducible refine (impl_hasVar.calls ((rd_T39 l0 x4).f0) true _ A2.out).mono ?_); rintro e w7 ⟨rfl, hd⟩; refine ⟨_, rfl, ?_⟩; have n0_ := Aside0.mk (show impl_MayReadFirst.Bx w7 g x1 from (by obtain ⟨nd, rfl⟩ := hd; exact by repeat (with_reducible first | exact HX.out | refine impl_MayReadFirst.Bx.far (p := ⟨gs, _, none⟩) ?_ hne _ | apply impl_MayReadFirst.Bx.drewN | apply impl_MayReadFirst.Bx.drew))); have n1_ := Aside0.mk (show Below w0.heap.size w0 w7 from (by obtain ⟨nd, rfl⟩ := hd; exact by repeat (with_reducible first | exact HB.out | apply below_alloc | apply pw_below_drewN | apply below_drew1 | refine below_set ?_ GEs.out | refine below_set ?_ HG.out))); have n2_ := Aside0.mk (show KeepBut w w7 g none from (by obtain ⟨nd, rfl⟩ := hd; exact by repeat (with_reducible first | exact HK.out | refine keep_far (p := ⟨gs, _, none⟩) ?_ GWs.out _ | apply impl_MayReadFirst.kb_drewN | apply impl_MayReadFirst.kb_drew))); have n3_ := Aside0.mk (show w7.heap[gs]? = some (.cells #[.int .i64 ((rd_T39 l0 x4).f0), .int .i64 ((rd_T39 l0 x4).f1), .int .i64 ((rd_T39 l0 x4).f2), .int .i64 ((rd_T39 l0 x4).f3.f0), .int .i64 ((rd_T39 l0 x4).f3.f1), .int .i64 ((rd_T39 l0 x4).f3.f2)] 39 (0, 0)) from (by obtain ⟨nd, rfl⟩ := hd; exact blk_drewN HS.out nd)); clear HX HB HK HS hd; have HX := n0_; have HB := n1_; have HK := n2_; have HS := n3_; clear n0_ n1_ n2_ n3_; have hczy_0 := (blk_cell HS.out 0).trans rfl; have hczy_1 := (blk_cell HS.out 1).trans rfl; have hczy_2 := (blk_cell HS.out 2).trans rfl; have hczy_3 := (blk_cell HS.out 3).trans rfl; have hczy_4 := (blk_cell HS.out 4).trans rfl; have hczy_5 := (blk_cell HS.out 5).trans rfl; have hfhczy_0 := blk_frozen HS.out 0; have hfhczy_1 := blk_frozen HS.out 1; have hfhczy_2 := blk_frozen HS.out 2; have hfhczy_3 := blk_frozen HS.out 3; have hfhczy_4 := blk_frozen HS.out 4; have hfhczy_5 := blk_frozen HS.out 5))
                    have hgc := HX.out.drew.cell ((rd_T39 l0 x4).f1).toNat (by omega)
                    have hgf : w7.drew.frozen? ⟨g, ((rd_T39 l0 x4).f1).toNat, none⟩ = false := blk_frozen HX.out.drew.1 _
                    refine start_ (n := 7) (S := fun w' => w'.cell? ⟨gs, 1, none⟩ = some (.int .i64 ((rd_T39 l0 x4).f1))) (ds := [6]) #[false, false, false, false, false, false, false] (by kernel_rfl) rfl rfl (((blk_cell HS.out 1).trans rfl)) (fun hHeld => ?_)
                    refine pure_ (i := 0) (N := some 28) (v := ?_) (a' := ?_) #[true, false, false, false, false, false, false] rfl rfl (by kernel_rfl) (fun _ _ _ h => h) (Or.inl ⟨by rfl, ?_⟩) ?_ ?_
                    rotate_left
                    · intro w'
                      go_simp
                      with_reducible rfl
                    rotate_left
                    · simp only [Act.put, List.setIfInBounds_toArray, List.set_cons_zero, List.set_cons_succ, i64_w, i32_w]
                      rfl
                    refine pure_ (i := 1) (N := some 29) (v := ?_) (a' := ?_) #[true, true, false, false, false, false, false] rfl rfl (by kernel_rfl) (fun _ _ _ h => h) (Or.inl ⟨by rfl, ?_⟩) ?_ ?_
                    rotate_left
                    · intro w'
                      go_simp
                      with_reducible rfl
                    rotate_left
                    · simp only [Act.put, List.setIfInBounds_toArray, List.set_cons_zero, List.set_cons_succ, i64_w, i32_w]
                      rfl
                    refine pure_ (i := 3) (N := some 31) (v := ?_) (a' := ?_) #[true, true, false, true, false, false, false] rfl rfl (by kernel_rfl) (fun _ _ _ h => h) (Or.inl ⟨by rfl, ?_⟩) ?_ ?_
                    rotate_left
                    · intro w'
                      go_simp
                      with_reducible rfl
                    rotate_left
                    · simp only [Act.put, List.setIfInBounds_toArray, List.set_cons_zero, List.set_cons_succ, i64_w, i32_w]
                      rfl
                    refine pure_ (i := 4) (N := some 32) (v := ?_) (a' := ?_) #[true, true, false, true, true, false, false] rfl rfl (by kernel_rfl) (fun _ _ _ h => h) (Or.inl ⟨by rfl, ?_⟩) ?_ ?_
                    rotate_left
                    · intro w'
                      go_simp
                      with_reducible rfl
                    rotate_left
                    · simp only [Act.put, List.setIfInBounds_toArray, List.set_cons_zero, List.set_cons_succ, i64_w, i32_w]
                      rfl
                    refine take_ (i := 2) (N := some 30) (v := ?_) (a' := ?_) #[true, true, true, true, true, false, false] rfl rfl (by kernel_rfl) (fun _ _ _ h => h) (Or.inl ⟨by rfl, ?_⟩) hHeld ?_ ?_
                    rotate_left
                    · intro w' s0
                      go_simp
                      with_reducible rfl
                    rotate_left
                    · simp only [Act.put, List.setIfInBounds_toArray, List.set_cons_zero, List.set_cons_succ, i64_w, i32_w]
                      rfl
                    refine pure_ (i := 5) (N := some 33) (v := ?_) (a' := ?_) #[true, true, true, true, true, true, false] rfl rfl (by kernel_rfl) (fun _ _ _ h => h) (Or.inl ⟨by rfl, ?_⟩) ?_ ?_
                    rotate_left
                    · intro w'
                      go_simp
                      with_reducible rfl
                    rotate_left
                    · simp only [Act.put, List.setIfInBounds_toArray, List.set_cons_zero, List.set_cons_succ, i64_w, i32_w]
                      rfl
                    refine last_ (i := 6) (N := none) #[true, true, true, true, true, true, true] rfl rfl (by kernel_rfl) (by decide) (fun K hK => ?_)
                    refine skip_ (w1 := ?_) (by rfl) rfl ?_ ?_
                    rotate_left
                    · go_simp
                      rfl
                    refine hK.out _ _ ?_
                    clear hK K
                    refine done_ (by kernel_rfl) ?_

                    generalize hwz : World.setCell _ ⟨g, ((rd_T39 l0 x4).f1).toNat, none⟩ (.bool true) = wz
                    have HXz := Aside0.mk (show impl_MayReadFirst.Bx wz g (x1.set ((rd_T39 l0 x4).f1).toNat true) from (by rw [← hwz]; exact impl_MayReadFirst.Bx.set HX.out.drew _ _))
                    have HBz := Aside0.mk (show Below w0.heap.size w0 wz from (by rw [← hwz]; (repeat (with_reducible first | exact HB.out | refine below_set ?_ HG.out | apply below_drew1 | apply pw_below_drewN))))
                    have HKz := Aside0.mk (show KeepBut w wz g none from (by rw [← hwz]; exact KeepBut.set_ (impl_MayReadFirst.kb_drew HK.out) _ _))
                    have HSz := Aside0.mk (show wz.heap[gs]? = some (.cells #[.int .i64 ((rd_T39 l0 x4).f0), .int .i64 ((rd_T39 l0 x4).f1), .int .i64 ((rd_T39 l0 x4).f2), .int .i64 ((rd_T39 l0 x4).f3.f0), .int .i64 ((rd_T39 l0 x4).f3.f1), .int .i64 ((rd_T39 l0 x4).f3.f2)] 39 (0, 0)) from (by rw [← hwz]; exact blk_far (p := ⟨g, _, none⟩) (blk_drew HS.out) hne.symm _))
                    clear hwz
                    try clear hcza_0; try clear hfhcza_0; try clear hcza_1; try clear hfhcza_1; try clear hcza_2; try clear hfhcza_2; try clear hcza_3; try clear hfhcza_3; try clear hcza_4; try clear hfhcza_4; try clear hcza_5; try clear hfhcza_5; try clear hczb_0; try clear hfhczb_0; try clear hczb_1; try clear hfhczb_1; try clear hczb_2; try clear hfhczb_2; try clear hczb_3; try clear hfhczb_3; try clear hczb_4; try clear hfhczb_4; try clear hczb_5; try clear hfhczb_5; try clear hcze_0; try clear hfhcze_0; try clear hcze_1; try clear hfhcze_1; try clear hcze_2; try clear hfhcze_2; try clear hcze_3; try clear hfhcze_3; try clear hcze_4; try clear hfhcze_4; try clear hcze_5; try clear hfhcze_5; try clear hczy_0; try clear hfhczy_0; try clear hczy_1; try clear hfhczy_1; try clear hczy_2; try clear hfhczy_2; try clear hczy_3; try clear hfhczy_3; try clear hczy_4; try clear hfhczy_4; try clear hczy_5; try clear hfhczy_5
                    have hczz_0 := (blk_cell HSz.out 0).trans rfl; have hczz_1 := (blk_cell HSz.out 1).trans rfl; have hczz_2 := (blk_cell HSz.out 2).trans rfl; have hczz_3 := (blk_cell HSz.out 3).trans rfl; have hczz_4 := (blk_cell HSz.out 4).trans rfl; have hczz_5 := (blk_cell HSz.out 5).trans rfl; have hfhczz_0 := blk_frozen HSz.out 0; have hfhczz_1 := blk_frozen HSz.out 1; have hfhczz_2 := blk_frozen HSz.out 2; have hfhczz_3 := blk_frozen HSz.out 3; have hfhczz_4 := blk_frozen HSz.out 4; have hfhczz_5 := blk_frozen HSz.out 5
                    go_wp2
                    go_roundg k1
                    case measure => omega
                    case rel => exact ⟨wrap64 (x4 + 1), x1.set ((rd_T39 l0 x4).f1).toNat true, rfl, H', ⟨by have := HQ.out; omega⟩, ⟨by repeat (with_reducible first | exact HXz.out | apply impl_MayReadFirst.Bx.drewN | apply impl_MayReadFirst.Bx.drew)⟩, ⟨by repeat (with_reducible first | exact HBz.out | apply pw_below_drewN | apply below_drew1)⟩, ⟨by repeat (with_reducible first | exact HKz.out | apply impl_MayReadFirst.kb_drewN | apply impl_MayReadFirst.kb_drew)⟩⟩
                  · rw [if_neg c6] at H; exact absurd H (by simp)
                · rw [if_neg c5] at H; exact absurd H (by simp)
        · rw [if_neg c2] at H; exact absurd H (by simp)
      · rw [if_neg c1] at H
        have c1b : decide (x4 < (l0.length : Int)) = false := decide_eq_false c1
        obtain rfl := Option.some.inj H
        go_wp2
        first | go_end0 | ((try simp only [Exit.inBlock, Exit.then]); refine bodyPost_ret (results_none rfl _ _ _) rfl ?_)
        exact ⟨rfl, by repeat (first | exact HX.out | apply impl_MayReadFirst.Bx.drewN | apply impl_MayReadFirst.Bx.drew), by repeat (first | (with_reducible first | exact HB.out | apply below_alloc | apply pw_below_drewN | apply below_drew1) | exact HB.out), by repeat (first | exact HK.out | apply impl_MayReadFirst.kb_drewN | apply impl_MayReadFirst.kb_drew)⟩
def impl_MayReadFirst.q0 : Nat → List Bool → Int → List Int → Option (List Int)
  | 0, _, _, _ => none
  | k + 1, xs, i, acc => if i < 8 then (if 0 ≤ i then (if xs.getD (8 + i.toNat) false = true then (if acc.length < 17592186044416 then impl_MayReadFirst.q0 k xs (i + 1) (acc ++ [i]) else none) else impl_MayReadFirst.q0 k xs (i + 1) acc) else none) else some acc
def impl_MayReadFirst.f (k : Nat) (l0_0 : List (S39)) (a0_1 a0_2 a0_3 : Int) : Option (List Int) := (impl_taskOk.f k l0_0 a0_1 a0_2 a0_3).bind fun t => (if t = true then ((impl_MayReadFirst.pf k l0_0 (List.replicate 16 false)).bind fun x1 => ((impl_MayReadFirst.rf k x1 a0_1 a0_2 a0_3).bind fun x2 => impl_MayReadFirst.q0 k x2 0 [])) else some [])
theorem impl_MayReadFirst.q0_mono : ∀ k y0 y1 y2, LeO (impl_MayReadFirst.q0 k y0 y1 y2) (impl_MayReadFirst.q0 (k + 1) y0 y1 y2)
  | 0 => fun _ _ _ r h => by simp [impl_MayReadFirst.q0] at h
  | k + 1 => by
    have ih0 := impl_MayReadFirst.q0_mono k
    intro y0 y1 y2
    unfold impl_MayReadFirst.q0
    repeat' first
      | (with_reducible exact ih0 _ _ _)
      | (with_reducible exact LeO.refl _)
      | (with_reducible exact LeO.none _)
      | (with_reducible refine LeO.ite ?_ ?_)
      | exact ih0 _ _ _
      | exact LeO.none _
      | refine LeO.ite ?_ ?_
theorem impl_MayReadFirst.mono : ∀ a0 a1 a2 a3 k, LeO (impl_MayReadFirst.f k a0 a1 a2 a3) (impl_MayReadFirst.f (k + 1) a0 a1 a2 a3) := by
  intro a0 a1 a2 a3 k
  unfold impl_MayReadFirst.f
  refine LeO.bind (impl_taskOk.mono a0 a1 a2 a3 k) (fun _ => LeO.ite ?_ (LeO.refl _))
  refine LeO.bind ((impl_MayReadFirst.p_mono k).1 _ _) (fun _ => ?_)
  refine LeO.bind (impl_MayReadFirst.rf_mono k _ _ _ _) (fun _ => ?_)
  exact impl_MayReadFirst.q0_mono k _ _ _
set_option maxHeartbeats 8000000 in
theorem impl_MayReadFirst.idx8 (xs : List Bool) (i : Int) (h0 : 0 ≤ i) (h1 : i < 8) (W : World) : (Instr.index 85 (.agg #[Value.bool (xs[8]?.getD false), Value.bool (xs[9]?.getD false), Value.bool (xs[10]?.getD false), Value.bool (xs[11]?.getD false), Value.bool (xs[12]?.getD false), Value.bool (xs[13]?.getD false), Value.bool (xs[14]?.getD false), Value.bool (xs[15]?.getD false)]) (.int .i64 i)).run Try.prog W = .ok (.bool (xs.getD (8 + i.toNat) false)) W := by
  have h : i = 0 ∨ i = 1 ∨ i = 2 ∨ i = 3 ∨ i = 4 ∨ i = 5 ∨ i = 6 ∨ i = 7 := by omega
  rcases h with rfl | rfl | rfl | rfl | rfl | rfl | rfl | rfl <;> simp [Instr.index, run_underlying Try.underlying85, asIntOf, go_sem]
set_option maxHeartbeats 8000000 in
set_option maxRecDepth 100000 in
theorem impl_MayReadFirst.calls (k : Nat) (A0_0 : Option Addr) (c0_0 : Nat) (l0_0 : List (S39)) (a0_1 a0_2 a0_3 : Int) (r : List Int) (w : World) (hr0_0 : Kd.C k39 w A0_0 l0_0.length l0_0) (hc0_0 : l0_0.length ≤ c0_0) (h : impl_MayReadFirst.f k l0_0 a0_1 a0_2 a0_3 = some r) :
    Calls Try.prog 30 #[.agg #[.slice A0_0 l0_0.length c0_0, .int .i64 a0_1, .int .i64 a0_2, .int .i64 a0_3]] w fun e w' => ∃ v0_ : Value, e = .returned (v0_) ∧ Kd.R (Kd.int .i64) 3 w' w.heap.size (fun _ => True) v0_ r ∧ Below w.heap.size w w' := by
  have hu47 := Try.underlying47
  have hu37 := Try.underlying37
  have HR0 := Aside0.mk hr0_0
  have HC0 := Aside0.mk hc0_0
  have HB := Aside0.mk (Below.refl w.heap.size w)
  clear hr0_0 hc0_0
  unfold impl_MayReadFirst.f at h
  obtain ⟨t, A10, H⟩ := Option.bind_eq_some_iff.mp h
  have A1 := Aside0.mk A10
  clear h A10
  cases t with
  | false =>
    rw [if_neg (by decide)] at H
    obtain rfl := Option.some.inj H
    clear H
    go_enter Try.func30, Try.ntmps30
    go_wp2_with (first | ((with_reducible refine gate_dst (N := 1) rfl ?_); refine box_event ?hg (N := 1) ?hd (cs := #[.slice A0_0 l0_0.length c0_0, .int .i64 a0_1, .int .i64 a0_2, .int .i64 a0_3]) (t := 47) ?hr ?_; (case hd => rfl); (case hg => rfl); (case hr => first | (go_simp; done) | (go_simp; rfl)); intro gt hgt w4 hbox hb; have n1_ := Aside0.mk (below_step HB.out hb); clear HB; have HB := n1_; clear n1_ hb hgt; have HT := Aside0.mk hbox; clear hbox; have hcta_0 := (blk_cell HT.out 0).trans rfl; have hcta_1 := (blk_cell HT.out 1).trans rfl; have hcta_2 := (blk_cell HT.out 2).trans rfl; have hcta_3 := (blk_cell HT.out 3).trans rfl; have hfhcta_0 := blk_frozen HT.out 0; have hfhcta_1 := blk_frozen HT.out 1; have hfhcta_2 := blk_frozen HT.out 2; have hfhcta_3 := blk_frozen HT.out 3) | ((with_reducible refine gate_callee (f := 63) rfl ?_); refine goesL_ (some 8) rfl rfl Try.func63 (by kernel_rfl) rfl #[.agg #[.slice A0_0 l0_0.length c0_0, .int .i64 a0_1, .int .i64 a0_2, .int .i64 a0_3]] rfl (by (try simp only [List.map_toArray, List.map_cons, List.map_nil]); first | done | rfl | (simp only [List.length_drop, List.length_take]; rfl)) ?_; (with_reducible refine (impl_taskOk.calls k A0_0 c0_0 l0_0 a0_1 a0_2 a0_3 false _ ?sC HC0.out A1.out).mono ?_); (case sC => (repeat (first | exact (Kd.C_below HR0.out HB.out) | (with_reducible refine Kd.C_alloc ?_ _) | (with_reducible refine Kd.C_drewN ?_ _) | (with_reducible refine Kd.C_drew ?_)))); rintro e w5 ⟨rfl, hb⟩; refine ⟨_, rfl, ?_⟩; have n0_ := Aside0.mk (blk_below HT.out hb); have n1_ := Aside0.mk (below_step HB.out hb); clear HB HT; have HB := n1_; have HT := n0_; clear n0_ n1_ hb; (try clear hcta_0 hcta_1 hcta_2 hcta_3 hfhcta_0 hfhcta_1 hfhcta_2 hfhcta_3); have hctb_0 := (blk_cell HT.out 0).trans rfl; have hctb_1 := (blk_cell HT.out 1).trans rfl; have hctb_2 := (blk_cell HT.out 2).trans rfl; have hctb_3 := (blk_cell HT.out 3).trans rfl; have hfhctb_0 := blk_frozen HT.out 0; have hfhctb_1 := blk_frozen HT.out 1; have hfhctb_2 := blk_frozen HT.out 2; have hfhctb_3 := blk_frozen HT.out 3))
    go_ret
    exact ⟨_, rfl, Kd.R_nil _ _ _ _ _, by repeat (with_reducible first | exact HB.out | apply pw_below_drewN | apply below_drew1)⟩
  | true =>
    rw [if_pos rfl] at H
    obtain ⟨x1, A20, H⟩ := Option.bind_eq_some_iff.mp H
    obtain ⟨x2, A30, H⟩ := Option.bind_eq_some_iff.mp H
    have A2 := Aside0.mk A20
    have A3 := Aside0.mk A30
    have H' := Aside0.mk H
    clear A20 A30 H
    obtain ⟨yl, hyl⟩ : ∃ y_ : List Int, y_ = ([] : List Int) := ⟨_, rfl⟩
    have Nyl := Aside0.mk hyl
    clear hyl
    go_enter Try.func30, Try.ntmps30
    go_wp2_with (first | ((with_reducible refine gate_dst (N := 1) rfl ?_); refine box_event ?hg (N := 1) ?hd (cs := #[.slice A0_0 l0_0.length c0_0, .int .i64 a0_1, .int .i64 a0_2, .int .i64 a0_3]) (t := 47) ?hr ?_; (case hd => rfl); (case hg => rfl); (case hr => first | (go_simp; done) | (go_simp; rfl)); intro gt hgt w4 hbox hb; have n1_ := Aside0.mk (below_step HB.out hb); clear HB; have HB := n1_; clear n1_ hb hgt; have HT := Aside0.mk hbox; clear hbox; have hcta_0 := (blk_cell HT.out 0).trans rfl; have hcta_1 := (blk_cell HT.out 1).trans rfl; have hcta_2 := (blk_cell HT.out 2).trans rfl; have hcta_3 := (blk_cell HT.out 3).trans rfl; have hfhcta_0 := blk_frozen HT.out 0; have hfhcta_1 := blk_frozen HT.out 1; have hfhcta_2 := blk_frozen HT.out 2; have hfhcta_3 := blk_frozen HT.out 3) | ((with_reducible refine gate_callee (f := 63) rfl ?_); refine goesL_ (some 8) rfl rfl Try.func63 (by kernel_rfl) rfl #[.agg #[.slice A0_0 l0_0.length c0_0, .int .i64 a0_1, .int .i64 a0_2, .int .i64 a0_3]] rfl (by (try simp only [List.map_toArray, List.map_cons, List.map_nil]); first | done | rfl | (simp only [List.length_drop, List.length_take]; rfl)) ?_; (with_reducible refine (impl_taskOk.calls k A0_0 c0_0 l0_0 a0_1 a0_2 a0_3 true _ ?sC HC0.out A1.out).mono ?_); (case sC => (repeat (first | exact (Kd.C_below HR0.out HB.out) | (with_reducible refine Kd.C_alloc ?_ _) | (with_reducible refine Kd.C_drewN ?_ _) | (with_reducible refine Kd.C_drew ?_)))); rintro e w5 ⟨rfl, hb⟩; refine ⟨_, rfl, ?_⟩; have n0_ := Aside0.mk (blk_below HT.out hb); have n1_ := Aside0.mk (below_step HB.out hb); clear HB HT; have HB := n1_; have HT := n0_; clear n0_ n1_ hb; (try clear hcta_0 hcta_1 hcta_2 hcta_3 hfhcta_0 hfhcta_1 hfhcta_2 hfhcta_3); have hctb_0 := (blk_cell HT.out 0).trans rfl; have hctb_1 := (blk_cell HT.out 1).trans rfl; have hctb_2 := (blk_cell HT.out 2).trans rfl; have hctb_3 := (blk_cell HT.out 3).trans rfl; have hfhctb_0 := blk_frozen HT.out 0; have hfhctb_1 := blk_frozen HT.out 1; have hfhctb_2 := blk_frozen HT.out 2; have hfhctb_3 := blk_frozen HT.out 3) | ((with_reducible refine gate_dst (N := 11) rfl ?_); refine box_event ?hg (N := 11) ?hd (cs := #[.bool false, .bool false, .bool false, .bool false, .bool false, .bool false, .bool false, .bool false, .bool false, .bool false, .bool false, .bool false, .bool false, .bool false, .bool false, .bool false]) (t := 87) ?hr ?_; (case hd => rfl); (case hg => rfl); (case hr => first | (go_simp; done) | (go_simp; rfl)); intro g hgg w6 hbox hb; have GE := Aside0.mk (show w.heap.size ≤ g from (by rw [hgg]; exact (show w.heap.size ≤ w5.heap.size from below_size HB.out))); have n0_ := Aside0.mk (blk_below (by (with_reducible repeat (first | refine blk_drewN ?_ _ | refine blk_drew ?_)); exact HT.out) hb); have n1_ := Aside0.mk (below_step (by repeat (with_reducible first | exact HB.out | apply pw_below_drewN | apply below_drew1)) hb); clear HB HT; have HB := n1_; have HT := n0_; clear n0_ n1_ hb hgg; have HX := Aside0.mk (show impl_MayReadFirst.Bx w6 g (List.replicate 16 false) from ⟨hbox, rfl⟩); clear hbox; (try clear hctb_0 hctb_1 hctb_2 hctb_3 hfhctb_0 hfhctb_1 hfhctb_2 hfhctb_3); have hctc_0 := (blk_cell HT.out 0).trans rfl; have hctc_1 := (blk_cell HT.out 1).trans rfl; have hctc_2 := (blk_cell HT.out 2).trans rfl; have hctc_3 := (blk_cell HT.out 3).trans rfl; have hfhctc_0 := blk_frozen HT.out 0; have hfhctc_1 := blk_frozen HT.out 1; have hfhctc_2 := blk_frozen HT.out 2; have hfhctc_3 := blk_frozen HT.out 3) | (go_at_call 64; have GT := Aside0.mk (show gt ≠ g from (fun e_ => by have h_ := HT.out; rw [e_] at h_; have h2_ := h_.symm.trans HX.out.1; simp at h2_)); (with_reducible refine (impl_MayReadFirst.pcalls k g A0_0 c0_0 l0_0 (List.replicate 16 false) x1 w _ ?hX GE.out ?hB ?hR HC0.out A2.out).mono ?_); (case hX => exact HX.out); (case hB => exact HB.out); (case hR => exact Kd.C_foot_came k39_heap HR0.out HB.out GE.out); rintro e w7 ⟨rfl, hx, hb, hk⟩; have n3_ := Aside0.mk (KeepBut.blk hk HT.out (fun e_ => GT.out e_) (by simp)); clear HX HB HT; have HX := Aside0.mk hx; have HB := Aside0.mk hb; have HT := n3_; clear n3_ hx hb hk; (try clear hctc_0 hfhctc_0 hctc_1 hfhctc_1 hctc_2 hfhctc_2 hctc_3 hfhctc_3); have hctd_0 := (blk_cell HT.out 0).trans rfl; have hctd_1 := (blk_cell HT.out 1).trans rfl; have hctd_2 := (blk_cell HT.out 2).trans rfl; have hctd_3 := (blk_cell HT.out 3).trans rfl; have hfhctd_0 := blk_frozen HT.out 0; have hfhctd_1 := blk_frozen HT.out 1; have hfhctd_2 := blk_frozen HT.out 2; have hfhctd_3 := blk_frozen HT.out 3) | (go_at_call 65; (with_reducible refine (impl_MayReadFirst.rcalls k g x1 x2 a0_1 a0_2 a0_3 w _ ?hX GE.out ?hB A3.out).mono ?_); (case hX => exact HX.out); (case hB => exact HB.out); rintro e w8 ⟨rfl, hx, hb, hk⟩; have n3_ := Aside0.mk (KeepBut.blk hk HT.out (fun e_ => GT.out e_) (by simp)); clear HX HB HT; have HX := Aside0.mk hx; have HB := Aside0.mk hb; have HT := n3_; clear n3_ hx hb hk; (try clear hctd_0 hfhctd_0 hctd_1 hfhctd_1 hctd_2 hfhctd_2 hctd_3 hfhctd_3); have hcte_0 := (blk_cell HT.out 0).trans rfl; have hcte_1 := (blk_cell HT.out 1).trans rfl; have hcte_2 := (blk_cell HT.out 2).trans rfl; have hcte_3 := (blk_cell HT.out 3).trans rfl; have hfhcte_0 := blk_frozen HT.out 0; have hfhcte_1 := blk_frozen HT.out 1; have hfhcte_2 := blk_frozen HT.out 2; have hfhcte_3 := blk_frozen HT.out 3; have hrs_8 := HX.out.cell 8 (by omega); have hrs_9 := HX.out.cell 9 (by omega); have hrs_10 := HX.out.cell 10 (by omega); have hrs_11 := HX.out.cell 11 (by omega); have hrs_12 := HX.out.cell 12 (by omega); have hrs_13 := HX.out.cell 13 (by omega); have hrs_14 := HX.out.cell 14 (by omega); have hrs_15 := HX.out.cell 15 (by omega)) | ((with_reducible refine gate_dst (N := 20) rfl ?_); refine Kd.R_lit (Kd.int .i64) _ 3 ?hg (N := 20) ?hd (xs := ([] : List Int)) (inner := []) (ok := fun _ => True) (okp := fun _ => True) ?hr ?hp (fun _ hk => hk) trivial (Below.refl _ _) (Nat.le_refl _) (by simp) ?_; (case hd => rfl); (case hg => rfl); (case hr => first | (go_simp; done) | (go_simp; rfl)); (case hp => exact (Reps.none _ _)); intro v20 w9 ho3 hb hg_ hnew_; clear hg_ hnew_; (first | rw [← Nyl.out] at ho3 | (simp only [Int.reduceToNat] at ho3; rw [← Nyl.out] at ho3)); have n0_ := Aside0.mk (Kd.R_lower ho3 (show w.heap.size ≤ w8.heap.size from below_size HB.out)); have n1_ := Aside0.mk (below_step (by repeat (with_reducible first | exact HB.out | apply pw_below_drewN | apply below_drew1)) hb); have n2_ := Aside0.mk (impl_MayReadFirst.Bx.below (by repeat (with_reducible first | exact HX.out | apply impl_MayReadFirst.Bx.drewN | apply impl_MayReadFirst.Bx.drew)) hb); clear HB HX; have HO := n0_; have HB := n1_; have HX := n2_; clear n0_ n1_ n2_ hb ho3; (try clear hrs_8 hrs_9 hrs_10 hrs_11 hrs_12 hrs_13 hrs_14 hrs_15); have hrt_8 := HX.out.cell 8 (by omega); have hrt_9 := HX.out.cell 9 (by omega); have hrt_10 := HX.out.cell 10 (by omega); have hrt_11 := HX.out.cell 11 (by omega); have hrt_12 := HX.out.cell 12 (by omega); have hrt_13 := HX.out.cell 13 (by omega); have hrt_14 := HX.out.cell 14 (by omega); have hrt_15 := HX.out.cell 15 (by omega)))
    go_loopg [4, 25] k (fun kq v4 v25 w' => ∃ (ac : List Int) (x25 : Int), v25 = .int .i64 x25 ∧ Aside0 (impl_MayReadFirst.q0 kq x2 x25 ac = some r) ∧ Aside0 (Kd.R (Kd.int .i64) 3 w' w.heap.size (fun _ => True) v4 ac) ∧ Aside0 (Below w.heap.size w w'))
    case atStart => exact ⟨yl, 0, rfl, ⟨by rw [Nyl.out]; exact H'.out⟩, ⟨by (with_reducible repeat (first | apply Kd.R_alloc | apply Kd.R_drewN | apply Kd.R_drew)); exact HO.out⟩, ⟨by repeat (with_reducible first | exact HB.out | apply pw_below_drewN | apply below_drew1)⟩⟩
    case round =>
      clear H' HO HX HB HT
      obtain ⟨ac, x25, rfl, HA, HO, HB⟩ := hrel
      cases gk with
      | zero => exact absurd HA.out (by simp [impl_MayReadFirst.q0])
      | succ k1 =>
        have H := HA.out
        clear HA
        simp only [impl_MayReadFirst.q0] at H
        by_cases c1 : x25 < 8
        · rw [if_pos c1] at H
          have c1b : decide (x25 < 8) = true := decide_eq_true c1
          by_cases c2 : 0 ≤ x25
          · rw [if_pos c2] at H
            have c2b : decide (0 ≤ x25) = true := decide_eq_true c2
            have hix := impl_MayReadFirst.idx8 x2 x25 c2 c1
            by_cases c3 : x2.getD (8 + x25.toNat) false = true
            · rw [if_pos c3] at H
              rw [c3] at hix
              by_cases c4 : ac.length < 17592186044416
              · rw [if_pos c4] at H
                have LM := Aside0.mk c4
                obtain ⟨yn, hyn⟩ : ∃ y_ : List Int, y_ = ac ++ [x25] := ⟨_, rfl⟩
                rw [← hyn] at H
                have Nyn := Aside0.mk hyn
                have H' := Aside0.mk H
                clear H hyn c4
                go_wp2_with (((with_reducible refine gate_builtin (b := .append) (xs := #[.tmp 30, .tmp 32]) rfl ?_); at_builtin; refine Kd.R_append (Kd.int .i64) (w0 := w) w.heap.size rfl (.tmp 30) (.tmp 32) 24 3 (.int .i64 0) 8 rfl Try.underlying24 info3 rfl (by decide) (by omega) u4 ac x25 [.int .i64 x25] (fun _ => True) (fun _ => False) rfl (by first | (go_simp; done) | (go_simp; rfl)) ?aP (fun _ hk => hk.elim) ?aF ?aO ?aB ?aS ?aL ?_; (case aP => exact rfl); (case aB => exact (by repeat (with_reducible first | exact HB.out | apply pw_below_drewN | apply below_drew1))); (case aF => exact (fun _ _ => trivial)); (case aO => exact (by (with_reducible repeat (first | apply Kd.R_alloc | apply Kd.R_drewN | apply Kd.R_drew)); exact HO.out)); (case aS => exact (below_size (by repeat (with_reducible first | exact HB.out | apply pw_below_drewN | apply below_drew1)))); (case aL => have := LM.out; omega); intro v33 w14 ho hb hg hat; (first | rw [← Nyn.out] at ho | (simp only [Int.reduceToNat] at ho; rw [← Nyn.out] at ho)); clear HB HO; have HB := Aside0.mk hb; have HO := Aside0.mk ho; clear ho hb hg hat))
                go_roundg k1
                case measure => omega
                case rel => exact ⟨yn, (x25 + 1), rfl, H', ⟨by (with_reducible repeat (first | apply Kd.R_alloc | apply Kd.R_drewN | apply Kd.R_drew)); exact HO.out⟩, ⟨by repeat (with_reducible first | exact HB.out | apply pw_below_drewN | apply below_drew1)⟩⟩
              · rw [if_neg c4] at H; exact absurd H (by simp)
            · rw [if_neg c3] at H
              replace c3 := Bool.eq_false_iff.mpr c3
              rw [c3] at hix
              have H' := Aside0.mk H
              clear H
              go_wp2
              go_roundg k1
              case measure => omega
              case rel => exact ⟨ac, (x25 + 1), rfl, H', ⟨by (with_reducible repeat (first | apply Kd.R_alloc | apply Kd.R_drewN | apply Kd.R_drew)); exact HO.out⟩, ⟨by repeat (with_reducible first | exact HB.out | apply pw_below_drewN | apply below_drew1)⟩⟩
          · rw [if_neg c2] at H; exact absurd H (by simp)
        · rw [if_neg c1] at H
          have c1b : decide (x25 < 8) = false := decide_eq_false c1
          obtain rfl := Option.some.inj H
          go_wp2
          go_ret
          exact ⟨_, rfl, by (with_reducible repeat (first | apply Kd.R_alloc | apply Kd.R_drewN | apply Kd.R_drew)); exact HO.out, by repeat (with_reducible first | exact HB.out | apply pw_below_drewN | apply below_drew1)⟩


/-! ### slices_Index_int_int: function 87 -/
def slices_Index_int_int.l0 : Nat → List Int → Int → Int → Int → Option (Int)
  | 0, _, _, _, _ => none
  | k + 1, x0, x1, x7, x8 => if x8 < x7 then (if 0 ≤ x8 then (if x8 < (x0.length : Int) then (if x1 = (rd x0 x8) then (some x8) else (slices_Index_int_int.l0 k x0 x1 x7 (wrap64 (x8 + 1)))) else (none)) else (none)) else (some (-1))
def slices_Index_int_int.f (k : Nat) (l0 : List Int) (a1 : Int) : Option (Int) := slices_Index_int_int.l0 k l0 a1 (l0.length : Int) 0
theorem slices_Index_int_int.mono_l : ∀ k, (∀ y0 y1 y2 y3, LeO (slices_Index_int_int.l0 k y0 y1 y2 y3) (slices_Index_int_int.l0 (k + 1) y0 y1 y2 y3))
  | 0 => fun _ _ _ _ r h => by simp [slices_Index_int_int.l0] at h
  | k + 1 => by
    have ih0 := slices_Index_int_int.mono_l k
    · intro y0 y1 y2 y3
      unfold slices_Index_int_int.l0
      repeat' first
      | (with_reducible exact ih0 _ _ _ _)
      | (with_reducible exact LeO.refl _)
      | (with_reducible exact LeO.none _)
      | (with_reducible refine LeO.ite ?_ ?_)
      | (with_reducible refine LeO.bind ?_ (fun _ => ?_))
      | exact ih0 _ _ _ _
      | exact LeO.none _
      | refine LeO.ite ?_ ?_
      | refine LeO.bind ?_ (fun _ => ?_)
theorem slices_Index_int_int.mono : ∀ a0 a1 k, LeO (slices_Index_int_int.f k a0 a1) (slices_Index_int_int.f (k + 1) a0 a1) := by
  intro a0 a1 k
  have ih0 := slices_Index_int_int.mono_l k
  unfold slices_Index_int_int.f
  repeat' first
      | (with_reducible exact ih0 _ _ _ _)
      | (with_reducible exact LeO.refl _)
      | (with_reducible exact LeO.none _)
      | (with_reducible refine LeO.ite ?_ ?_)
      | (with_reducible refine LeO.bind ?_ (fun _ => ?_))
      | exact ih0 _ _ _ _
      | exact LeO.none _
      | refine LeO.ite ?_ ?_
      | refine LeO.bind ?_ (fun _ => ?_)
set_option maxHeartbeats 8000000 in
set_option maxRecDepth 100000 in
theorem slices_Index_int_int.calls (k : Nat) (A0 : Option Addr) (c0 : Nat) (l0 : List Int) (a1 : Int) (r : Int) (w : World) (hr0 : Kd.C (Kd.int .i64) w A0 l0.length l0) (hc0 : l0.length ≤ c0) (h : slices_Index_int_int.f k l0 a1 = some r) :
    Calls Try.prog 87 #[.slice A0 l0.length c0, .int .i64 a1] w fun e w' => e = .returned (.int .i64 r) ∧ Drawn0 w w' := by
  have HR0 := Aside0.mk hr0
  have HC0 := Aside0.mk hc0
  clear hr0 hc0
  have H : (slices_Index_int_int.l0 k l0 a1 (l0.length : Int) 0) = some r := h
  clear h
  have H' := Aside0.mk H
  clear H
  go_enter Try.func87, Try.ntmps87
  go_wp2
  go_loopg [8] k (fun kq v8 w' => ∃ (x8_1 : Int), v8 = .int .i64 x8_1 ∧ Aside0 (slices_Index_int_int.l0 kq l0 a1 (l0.length : Int) x8_1 = some r) ∧ Aside0 (kq ≤ k) ∧ Drawn0 w w')
  case atStart => exact ⟨(0), (by first | rfl | (simp; done) | (simp [*]; done)), H', ⟨Nat.le_refl _⟩, by repeat (first | exact Drawn0.refl _ | apply Drawn0.step)⟩
  case round =>
    clear H'
    try clear p2
    obtain ⟨x8_1, rfl, HA, HK1, ⟨m1, rfl⟩⟩ := hrel
    cases gk with
    | zero => exact absurd HA.out (by simp [slices_Index_int_int.l0])
    | succ k1 =>
      have H := HA.out
      clear HA
      simp only [slices_Index_int_int.l0] at H
      by_cases c3 : x8_1 < (l0.length : Int)
      · rw [if_pos c3] at H
        have c3b0 : decide (x8_1 < (l0.length : Int)) = true := decide_eq_true c3
        clear c3
        by_cases c4 : 0 ≤ x8_1
        · rw [if_pos c4] at H
          have c4b0 : decide (0 ≤ x8_1) = true := decide_eq_true c4
          clear c4
          by_cases c5 : x8_1 < (l0.length : Int)
          · rw [if_pos c5] at H
            have c5b0 : decide (x8_1 < (l0.length : Int)) = true := decide_eq_true c5
            clear c5
            by_cases c6 : a1 = (rd l0 x8_1)
            · rw [if_pos c6] at H
              have c6b0 : (a1 == (rd l0 x8_1)) = true := beq_iff_eq.mpr c6
              have c6b1 : (a1 != (rd l0 x8_1)) = false := bne_eq_false_iff_eq.mpr c6
              clear c6
              obtain rfl := Option.some.inj H
              have p192 : 0 ≤ (x8_1 : Int) := of_decide_eq_true (by first | (with_reducible assumption) | assumption)
              have q192 : x8_1 < (l0.length : Int) := of_decide_eq_true (by first | (with_reducible assumption) | assumption)
              obtain ⟨ad192, e192, hx192_0⟩ := Kd.at_int HR0.out x8_1 p192 q192
              cases e192
              replace p192 := eq_true p192
              replace q192 := eq_true q192
              go_wp2
              go_ret
              exact ⟨by first | rfl | (simp; done) | (simp [*]; done), by repeat (first | exact Drawn0.refl _ | apply Drawn0.step)⟩
            · rw [if_neg c6] at H
              have c6b0 : (a1 == (rd l0 x8_1)) = false := beq_eq_false_iff_ne.mpr c6
              have c6b1 : (a1 != (rd l0 x8_1)) = true := bne_iff_ne.mpr c6
              have H' := Aside0.mk H
              clear H
              have p192 : 0 ≤ (x8_1 : Int) := of_decide_eq_true (by first | (with_reducible assumption) | assumption)
              have q192 : x8_1 < (l0.length : Int) := of_decide_eq_true (by first | (with_reducible assumption) | assumption)
              obtain ⟨ad192, e192, hx192_0⟩ := Kd.at_int HR0.out x8_1 p192 q192
              cases e192
              replace p192 := eq_true p192
              replace q192 := eq_true q192
              go_wp2
              go_roundg k1
              case measure => have := HK1.out; omega
              case rel => exact ⟨(wrap64 (x8_1 + 1)), (by first | rfl | (simp; done) | (simp [*]; done)), H', ⟨by have := HK1.out; omega⟩, by repeat (first | exact Drawn0.refl _ | apply Drawn0.step)⟩
          · rw [if_neg c5] at H
            exact absurd H (by simp)
        · rw [if_neg c4] at H
          exact absurd H (by simp)
      · rw [if_neg c3] at H
        have c3b0 : decide (x8_1 < (l0.length : Int)) = false := decide_eq_false c3
        clear c3
        obtain rfl := Option.some.inj H
        go_wp2
        go_ret
        exact ⟨by first | rfl | (simp; done) | (simp [*]; done), by repeat (first | exact Drawn0.refl _ | apply Drawn0.step)⟩

end Go.Proofs.Ytlhcofkandeepaa.PFnLogs
