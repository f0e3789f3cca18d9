/- Walks of the functions that a statement reaches, written by a program (the printing program, mended): no condition. -/
import Derived.Test.YtlhcofkandeepaaPFnExactLogRoomx0
import Derived.Test.YtlhcofkandeepaaPFnExactLogRoomx11
import Derived.Test.YtlhcofkandeepaaPFnExactLogRoomx12
import Derived.Test.YtlhcofkandeepaaPFnExactLogRoomx13
import Derived.Test.YtlhcofkandeepaaPFnExactLogRoomx14
namespace Go.Proofs.Ytlhcofkandeepaa.PFnExactLogRoom
open Go.RowKit Go.Proofs.YtlhcofkandeepaaW.PrintWords Go.Proofs.YtlhcofkandeepaaW.PrintLast Go.Proofs.YtlhcofkandeepaaW.PrintMore
attribute [local go_sem] max2_int min2_int max_two min_two max_three min_three max_four min_four   -- for this text's walks alone
set_option linter.unusedVariables false
set_option linter.unusedSimpArgs false

/-! ### impl_MustLog: function 34 -/
def impl_MustLog.f (k : Nat) (l0_0 : List (S39)) (a0_1 : Int) (a0_2 : Int) (a0_3 : Int) : Option (List Int) := (impl_taskOk.f k l0_0 a0_1 a0_2 a0_3).bind fun t405 => (if t405 = true then ((impl_MayReadFirst.f k l0_0 a0_1 a0_2 a0_3).bind fun t406 => ((impl_MustWrite.f k l0_0).bind fun t409 => ((impl_MayWrite.f k l0_0).bind fun t414 => ((slices_DeleteFunc_MustLog.f t414 t406 t409).bind fun t417 => (some t417))))) else (some ([] : List Int)))
theorem impl_MustLog.mono : ∀ a0 a1 a2 a3 k, LeO (impl_MustLog.f k a0 a1 a2 a3) (impl_MustLog.f (k + 1) a0 a1 a2 a3) := by
 intro a0 a1 a2 a3 k
 unfold impl_MustLog.f
 repeat' first
   | (with_reducible exact impl_MayReadFirst.mono _ _ _ _ _)
   | (with_reducible exact impl_MayWrite.mono _ _)
   | (with_reducible exact impl_MustWrite.mono _ _)
   | (with_reducible exact impl_taskOk.mono _ _ _ _ _)
   | (with_reducible exact LeO.refl _)
   | (with_reducible exact LeO.none _)
   | (with_reducible refine LeO.ite ?_ ?_)
   | (with_reducible refine LeO.bind ?_ (fun _ => ?_))
   | exact impl_MayReadFirst.mono _ _ _ _ _
   | exact impl_MayWrite.mono _ _
   | exact impl_MustWrite.mono _ _
   | exact impl_taskOk.mono _ _ _ _ _
   | exact LeO.none _
   | refine LeO.ite ?_ ?_
   | refine LeO.bind ?_ (fun _ => ?_)
def impl_MustLog.T3 : Bool × List (List Nat × List Nat) := (true, [([], []), ([0], [0]), ([], []), ([2], [2]), ([3, 1], [3]), ([], []), ([], []), ([5, 1, 4, 0, 1, 5, 6], [1, 5]), ([6, 4, 7, 0, 1, 2, 3, 4, 5, 6, 7], [4, 6])])
def impl_MustLog.B3 : List Nat := [0, 1, 0, 4, 15, 0, 0, 127, 255]
theorem impl_MustLog.tab3 : rtab .any (opsOf Try.f34 3) = impl_MustLog.T3 := by kernel_rfl
theorem impl_MustLog.bits3 : waitsOk impl_MustLog.T3.2 impl_MustLog.B3 = true := by kernel_rfl
set_option maxHeartbeats 8000000 in
set_option maxRecDepth 100000 in
theorem impl_MustLog.calls (k : Nat) (A0_0 : Option Addr) (c0_0 : Nat) (l0_0 : List (S39)) (a0_1 : Int) (a0_2 : Int) (a0_3 : Int) (r : List Int) (w : World) (hr0_0 : Kd.C k39 w A0_0 l0_0.length l0_0) (hc0_0 : l0_0.length ≤ c0_0) (h : impl_MustLog.f k l0_0 a0_1 a0_2 a0_3 = some r) :
  Calls Try.prog 34 #[.agg #[.slice A0_0 l0_0.length c0_0, .int .i64 a0_1, .int .i64 a0_2, .int .i64 a0_3]] w fun e w' => ∃ v0_ : Value, e = .returned (v0_) ∧ Kd.R (Kd.int .i64) 3 w' w.heap.size (fun _ => True) v0_ r ∧ Below w.heap.size w w' := by
 have hu47 := Try.underlying47
 have hu24 := Try.underlying24
 have HR0_0 := zM hr0_0
 have HC0_0 := zM hc0_0
 clear hr0_0 hc0_0
 have HB := zM (Below.refl w.heap.size w)
 have H : ((impl_taskOk.f k l0_0 a0_1 a0_2 a0_3).bind fun t405 => (if t405 = true then ((impl_MayReadFirst.f k l0_0 a0_1 a0_2 a0_3).bind fun t406 => ((impl_MustWrite.f k l0_0).bind fun t409 => ((impl_MayWrite.f k l0_0).bind fun t414 => ((slices_DeleteFunc_MustLog.f t414 t406 t409).bind fun t417 => (some t417))))) else (some ([] : List Int)))) = some r := h
 clear h
 replace H := Option.bind_eq_some_iff.mp H
 obtain ⟨t405, A20, H⟩ := H
 replace H : (if t405 = true then ((impl_MayReadFirst.f k l0_0 a0_1 a0_2 a0_3).bind fun t406 => ((impl_MustWrite.f k l0_0).bind fun t409 => ((impl_MayWrite.f k l0_0).bind fun t414 => ((slices_DeleteFunc_MustLog.f t414 t406 t409).bind fun t417 => (some t417))))) else (some ([] : List Int))) = some r := H
 have A2 := zM A20
 clear A20
 by_cases c3 : t405 = true
 ·subst c3
  have H1 : ((impl_MayReadFirst.f k l0_0 a0_1 a0_2 a0_3).bind fun t406 => ((impl_MustWrite.f k l0_0).bind fun t409 => ((impl_MayWrite.f k l0_0).bind fun t414 => ((slices_DeleteFunc_MustLog.f t414 t406 t409).bind fun t417 => (some t417))))) = some r := by rw [if_pos rfl] at H; exact H
  clear H
  have H := H1
  clear H1
  replace H := Option.bind_eq_some_iff.mp H
  obtain ⟨t406, A40, H⟩ := H
  replace H : ((impl_MustWrite.f k l0_0).bind fun t409 => ((impl_MayWrite.f k l0_0).bind fun t414 => ((slices_DeleteFunc_MustLog.f t414 t406 t409).bind fun t417 => (some t417)))) = some r := H
  have A4 := zM A40
  clear A40
  replace H := Option.bind_eq_some_iff.mp H
  obtain ⟨t409, A50, H⟩ := H
  replace H : ((impl_MayWrite.f k l0_0).bind fun t414 => ((slices_DeleteFunc_MustLog.f t414 t406 t409).bind fun t417 => (some t417))) = some r := H
  have A5 := zM A50
  clear A50
  replace H := Option.bind_eq_some_iff.mp H
  obtain ⟨t414, A60, H⟩ := H
  replace H : ((slices_DeleteFunc_MustLog.f t414 t406 t409).bind fun t417 => (some t417)) = some r := H
  have A6 := zM A60
  clear A60
  replace H := Option.bind_eq_some_iff.mp H
  obtain ⟨t417, A70, H⟩ := H
  replace H : (some t417) = some r := H
  have A7 := zM A70
  clear A70
  obtain rfl := Option.some.inj H
  go_enter Try.func34, Try.ntmps34
  try go_wp2_with (first | ((with_reducible refine gate_dst (N := 1) rfl ?_); refine box_event ?hg (N := 1) ?hd (cs := #[.slice A0_0 l0_0.length c0_0, .int .i64 a0_1, .int .i64 a0_2, .int .i64 a0_3]) (t := 47) ?hr ?_; (case hd => rfl); (case hg => rfl); (case hr => first | (go_simp; done) | (go_simp; rfl)); intro gb404 hg w8 hbox hb; have n0_ := zM (zQ zb hb); have n1_ := zM (hbox); have n2_ := zM ((by rw [hg]; exact (zR zb) : w.heap.size ≤ gb404)); have n3_ := zM ((by rw [hg]; exact (zR zb) : w.heap.size ≤ gb404)); clear HB; have HB := n0_; have BK404 := n1_; have GW404 := n2_; have GE404 := n3_; clear n0_ n1_ n2_ n3_; clear hb hbox hg; have hcz9_0 := (z5 BK404.out 0).trans rfl; have hcz9_1 := (z5 BK404.out 1).trans rfl; have hcz9_2 := (z5 BK404.out 2).trans rfl; have hcz9_3 := (z5 BK404.out 3).trans rfl; have hfz9_0 := z6 BK404.out 0; have hfz9_1 := z6 BK404.out 1; have hfz9_2 := z6 BK404.out 2; have hfz9_3 := z6 BK404.out 3) | ((with_reducible refine gate_callee (f := 63) rfl ?_); refine goesL_ (some 6) rfl rfl Try.func63 (by kernel_rfl) rfl #[.agg #[.slice A0_0 l0_0.length c0_0, .int .i64 a0_1, .int .i64 a0_2, .int .i64 a0_3]] rfl zg ?_; (with_reducible refine (impl_taskOk.calls k _ _ l0_0 a0_1 a0_2 a0_3 true _ ?side1 ?side2 A2.out).mono ?_); (case side1 => repeat (first | exact (zX HR0_0.out HB.out) | (with_reducible refine zF ?_ _) | (with_reducible refine zG ?_ _) | (with_reducible refine zH ?_))); (case side2 => exact HC0_0.out); rintro e w10 ⟨rfl, hb⟩; refine ⟨_, rfl, ?_⟩; have n0_ := zM (z7 (g := gb404) (o := .cells #[.slice A0_0 l0_0.length c0_0, .int .i64 a0_1, .int .i64 a0_2, .int .i64 a0_3] 47 (0, 0)) zk hb); have n1_ := zM (zQ zb hb); clear BK404; clear HB; have BK404 := n0_; have HB := n1_; clear n0_ n1_; (try clear hb)))
  have n0_ := zM (zO BK404.out)
  have n1_ := zM (z4 HB.out)
  clear BK404
  clear HB
  have BK404 := n0_
  have HB := n1_
  clear n0_ n1_
  refine start_ (n := 9) (S := fun w' => w'.cell? ⟨gb404, 0, none⟩ = some (.slice A0_0 l0_0.length c0_0) ∧ w'.cell? ⟨gb404, 1, none⟩ = some (.int .i64 a0_1) ∧ w'.cell? ⟨gb404, 2, none⟩ = some (.int .i64 a0_2) ∧ w'.cell? ⟨gb404, 3, none⟩ = some (.int .i64 a0_3)) (ds := []) #[false, false, false, false, false, false, false, false, false] (by kernel_rfl) rfl rfl ⟨(z5 BK404.out 0).trans rfl, (z5 BK404.out 1).trans rfl, (z5 BK404.out 2).trans rfl, (z5 BK404.out 3).trans rfl⟩ (fun hHeld => ?_); refine with_tabW impl_MustLog.tab3 impl_MustLog.bits3 (fun HT_ HW_ => ?_)
  generalize w10.drew = w11 at BK404 HB hHeld ⊢
  refine pure_ (i := 2) (N := some 10) (v := ?_) (a' := ?_) #[false, false, true, false, false, false, false, false, false] rfl rfl (any_of HT_.out (by kernel_rfl)) (fun _ _ _ h => h) (Or.inl ⟨by rfl, ?_⟩) ?_ ?_
  rotate_left
  ·intro w'
   go_simp
   with_reducible rfl
  rotate_left
  ·simp only [Act.put, List.setIfInBounds_toArray, List.set_cons_zero, List.set_cons_succ, i64_w, i32_w]
   rfl
  refine take_ (i := 0) (N := some 8) (v := ?_) (a' := ?_) #[true, false, true, false, false, false, false, false, false] rfl rfl (take_ofW HT_.out HW_.out (by kernel_rfl)) (fun _ _ _ h => h) (Or.inl ⟨by rfl, ?_⟩) hHeld ?_ ?_
  rotate_left
  ·rintro w' ⟨s0, s1, s2, s3⟩
   go_simp
   with_reducible rfl
  rotate_left
  ·simp only [Act.put, List.setIfInBounds_toArray, List.set_cons_zero, List.set_cons_succ, i64_w, i32_w]
   rfl
  refine take_ (i := 3) (N := some 11) (v := ?_) (a' := ?_) #[true, false, true, true, false, false, false, false, false] rfl rfl (take_ofW HT_.out HW_.out (by kernel_rfl)) (fun _ _ _ h => h) (Or.inl ⟨by rfl, ?_⟩) hHeld ?_ ?_
  rotate_left
  ·rintro w' ⟨s0, s1, s2, s3⟩
   go_simp
   with_reducible rfl
  rotate_left
  ·simp only [Act.put, List.setIfInBounds_toArray, List.set_cons_zero, List.set_cons_succ, i64_w, i32_w]
   rfl
  refine join_ (σ := Value × Value × Nat × Nat) 2 #[true, true, true, true, true, true, true, false, false] (fun s_ => [(9, s_.1), (12, s_.2.1), (3, .pointer (some ⟨s_.2.2.1, 0, none⟩)), (4, .pointer (some ⟨s_.2.2.2, 0, none⟩))]) (fun s_ w' => (w'.cell? ⟨gb404, 0, none⟩ = some (.slice A0_0 l0_0.length c0_0) ∧ w'.cell? ⟨gb404, 1, none⟩ = some (.int .i64 a0_1) ∧ w'.cell? ⟨gb404, 2, none⟩ = some (.int .i64 a0_2) ∧ w'.cell? ⟨gb404, 3, none⟩ = some (.int .i64 a0_3)) ∧ (Kd.R (Kd.int .i64) 3 w' w.heap.size (fun k_ => some k_ ≠ (s_.2.1 : Value).ownBlock) s_.1 t406) ∧ (Kd.R (Kd.int .i64) 3 w' w.heap.size (fun k_ => some k_ ≠ (s_.1 : Value).ownBlock) s_.2.1 t409) ∧ (w'.heap[gb404]? = some (.cells #[.slice A0_0 l0_0.length c0_0, .int .i64 a0_1, .int .i64 a0_2, .int .i64 a0_3] 47 (0, 0))) ∧ (w'.heap[s_.2.2.1]? = some (.cells #[.slice none 0 0] 24 (0, 0))) ∧ (w'.heap[s_.2.2.2]? = some (.cells #[.slice none 0 0] 24 (0, 0))) ∧ (w.heap.size ≤ s_.2.2.1) ∧ (w.heap.size ≤ s_.2.2.1) ∧ (gb404 ≠ s_.2.2.1) ∧ (s_.2.2.1 ≠ gb404) ∧ (s_.2.2.2 ≠ s_.2.2.1) ∧ (s_.2.2.1 ≠ s_.2.2.2) ∧ (w.heap.size ≤ s_.2.2.2) ∧ (w.heap.size ≤ s_.2.2.2) ∧ (gb404 ≠ s_.2.2.2) ∧ (s_.2.2.2 ≠ gb404) ∧ (Below w.heap.size w w')) ?_ ?_
  rotate_left
  ·intro hJ1_4_5_6
   refine join_ (σ := Value × Value × Nat) 3 #[true, true, true, true, true, true, false, false, false] (fun s_ => [(9, s_.1), (12, s_.2.1), (3, .pointer (some ⟨s_.2.2, 0, none⟩))]) (fun s_ w' => (w'.cell? ⟨gb404, 0, none⟩ = some (.slice A0_0 l0_0.length c0_0) ∧ w'.cell? ⟨gb404, 1, none⟩ = some (.int .i64 a0_1) ∧ w'.cell? ⟨gb404, 2, none⟩ = some (.int .i64 a0_2) ∧ w'.cell? ⟨gb404, 3, none⟩ = some (.int .i64 a0_3)) ∧ (Kd.R (Kd.int .i64) 3 w' w.heap.size (fun k_ => some k_ ≠ (s_.2.1 : Value).ownBlock) s_.1 t406) ∧ (Kd.R (Kd.int .i64) 3 w' w.heap.size (fun k_ => some k_ ≠ (s_.1 : Value).ownBlock) s_.2.1 t409) ∧ (w'.heap[gb404]? = some (.cells #[.slice A0_0 l0_0.length c0_0, .int .i64 a0_1, .int .i64 a0_2, .int .i64 a0_3] 47 (0, 0))) ∧ (w'.heap[s_.2.2]? = some (.cells #[.slice none 0 0] 24 (0, 0))) ∧ (w.heap.size ≤ s_.2.2) ∧ (w.heap.size ≤ s_.2.2) ∧ (gb404 ≠ s_.2.2) ∧ (s_.2.2 ≠ gb404) ∧ (Below w.heap.size w w')) ?_ ?_
   rotate_left
   ·intro hJ1_4_5
    refine join_ (σ := Value × Value × Nat) 3 #[true, true, true, true, true, false, true, false, false] (fun s_ => [(9, s_.1), (12, s_.2.1), (4, .pointer (some ⟨s_.2.2, 0, none⟩))]) (fun s_ w' => (w'.cell? ⟨gb404, 0, none⟩ = some (.slice A0_0 l0_0.length c0_0) ∧ w'.cell? ⟨gb404, 1, none⟩ = some (.int .i64 a0_1) ∧ w'.cell? ⟨gb404, 2, none⟩ = some (.int .i64 a0_2) ∧ w'.cell? ⟨gb404, 3, none⟩ = some (.int .i64 a0_3)) ∧ (Kd.R (Kd.int .i64) 3 w' w.heap.size (fun k_ => some k_ ≠ (s_.2.1 : Value).ownBlock) s_.1 t406) ∧ (Kd.R (Kd.int .i64) 3 w' w.heap.size (fun k_ => some k_ ≠ (s_.1 : Value).ownBlock) s_.2.1 t409) ∧ (w'.heap[gb404]? = some (.cells #[.slice A0_0 l0_0.length c0_0, .int .i64 a0_1, .int .i64 a0_2, .int .i64 a0_3] 47 (0, 0))) ∧ (w'.heap[s_.2.2]? = some (.cells #[.slice none 0 0] 24 (0, 0))) ∧ (w.heap.size ≤ s_.2.2) ∧ (w.heap.size ≤ s_.2.2) ∧ (gb404 ≠ s_.2.2) ∧ (s_.2.2 ≠ gb404) ∧ (Below w.heap.size w w')) ?_ ?_
    rotate_left
    ·intro hJ1_4_6
     refine join_ (σ := Value × Nat × Nat) 3 #[true, true, true, true, false, true, true, false, false] (fun s_ => [(9, s_.1), (3, .pointer (some ⟨s_.2.1, 0, none⟩)), (4, .pointer (some ⟨s_.2.2, 0, none⟩))]) (fun s_ w' => (w'.cell? ⟨gb404, 0, none⟩ = some (.slice A0_0 l0_0.length c0_0) ∧ w'.cell? ⟨gb404, 1, none⟩ = some (.int .i64 a0_1) ∧ w'.cell? ⟨gb404, 2, none⟩ = some (.int .i64 a0_2) ∧ w'.cell? ⟨gb404, 3, none⟩ = some (.int .i64 a0_3)) ∧ (Kd.R (Kd.int .i64) 3 w' w.heap.size (fun _ => True) s_.1 t406) ∧ (w'.heap[gb404]? = some (.cells #[.slice A0_0 l0_0.length c0_0, .int .i64 a0_1, .int .i64 a0_2, .int .i64 a0_3] 47 (0, 0))) ∧ (w'.heap[s_.2.1]? = some (.cells #[.slice none 0 0] 24 (0, 0))) ∧ (w'.heap[s_.2.2]? = some (.cells #[.slice none 0 0] 24 (0, 0))) ∧ (w.heap.size ≤ s_.2.1) ∧ (w.heap.size ≤ s_.2.1) ∧ (gb404 ≠ s_.2.1) ∧ (s_.2.1 ≠ gb404) ∧ (s_.2.2 ≠ s_.2.1) ∧ (s_.2.1 ≠ s_.2.2) ∧ (w.heap.size ≤ s_.2.2) ∧ (w.heap.size ≤ s_.2.2) ∧ (gb404 ≠ s_.2.2) ∧ (s_.2.2 ≠ gb404) ∧ (Below w.heap.size w w')) ?_ ?_
     rotate_left
     ·intro hJ1_5_6
      refine join_ (σ := Value × Value) 4 #[true, true, true, true, true, false, false, false, false] (fun s_ => [(9, s_.1), (12, s_.2)]) (fun s_ w' => (w'.cell? ⟨gb404, 0, none⟩ = some (.slice A0_0 l0_0.length c0_0) ∧ w'.cell? ⟨gb404, 1, none⟩ = some (.int .i64 a0_1) ∧ w'.cell? ⟨gb404, 2, none⟩ = some (.int .i64 a0_2) ∧ w'.cell? ⟨gb404, 3, none⟩ = some (.int .i64 a0_3)) ∧ (Kd.R (Kd.int .i64) 3 w' w.heap.size (fun k_ => some k_ ≠ (s_.2 : Value).ownBlock) s_.1 t406) ∧ (Kd.R (Kd.int .i64) 3 w' w.heap.size (fun k_ => some k_ ≠ (s_.1 : Value).ownBlock) s_.2 t409) ∧ (w'.heap[gb404]? = some (.cells #[.slice A0_0 l0_0.length c0_0, .int .i64 a0_1, .int .i64 a0_2, .int .i64 a0_3] 47 (0, 0))) ∧ (Below w.heap.size w w')) ?_ ?_
      rotate_left
      ·intro hJ1_4
       refine join_ (σ := Value × Nat) 4 #[true, true, true, true, false, true, false, false, false] (fun s_ => [(9, s_.1), (3, .pointer (some ⟨s_.2, 0, none⟩))]) (fun s_ w' => (w'.cell? ⟨gb404, 0, none⟩ = some (.slice A0_0 l0_0.length c0_0) ∧ w'.cell? ⟨gb404, 1, none⟩ = some (.int .i64 a0_1) ∧ w'.cell? ⟨gb404, 2, none⟩ = some (.int .i64 a0_2) ∧ w'.cell? ⟨gb404, 3, none⟩ = some (.int .i64 a0_3)) ∧ (Kd.R (Kd.int .i64) 3 w' w.heap.size (fun _ => True) s_.1 t406) ∧ (w'.heap[gb404]? = some (.cells #[.slice A0_0 l0_0.length c0_0, .int .i64 a0_1, .int .i64 a0_2, .int .i64 a0_3] 47 (0, 0))) ∧ (w'.heap[s_.2]? = some (.cells #[.slice none 0 0] 24 (0, 0))) ∧ (w.heap.size ≤ s_.2) ∧ (w.heap.size ≤ s_.2) ∧ (gb404 ≠ s_.2) ∧ (s_.2 ≠ gb404) ∧ (Below w.heap.size w w')) ?_ ?_
       rotate_left
       ·intro hJ1_5
        refine join_ (σ := Value × Nat) 4 #[true, true, true, true, false, false, true, false, false] (fun s_ => [(9, s_.1), (4, .pointer (some ⟨s_.2, 0, none⟩))]) (fun s_ w' => (w'.cell? ⟨gb404, 0, none⟩ = some (.slice A0_0 l0_0.length c0_0) ∧ w'.cell? ⟨gb404, 1, none⟩ = some (.int .i64 a0_1) ∧ w'.cell? ⟨gb404, 2, none⟩ = some (.int .i64 a0_2) ∧ w'.cell? ⟨gb404, 3, none⟩ = some (.int .i64 a0_3)) ∧ (Kd.R (Kd.int .i64) 3 w' w.heap.size (fun _ => True) s_.1 t406) ∧ (w'.heap[gb404]? = some (.cells #[.slice A0_0 l0_0.length c0_0, .int .i64 a0_1, .int .i64 a0_2, .int .i64 a0_3] 47 (0, 0))) ∧ (w'.heap[s_.2]? = some (.cells #[.slice none 0 0] 24 (0, 0))) ∧ (w.heap.size ≤ s_.2) ∧ (w.heap.size ≤ s_.2) ∧ (gb404 ≠ s_.2) ∧ (s_.2 ≠ gb404) ∧ (Below w.heap.size w w')) ?_ ?_
        rotate_left
        ·intro hJ1_6
         refine join_ (σ := Nat × Nat) 4 #[true, false, true, true, false, true, true, false, false] (fun s_ => [(3, .pointer (some ⟨s_.1, 0, none⟩)), (4, .pointer (some ⟨s_.2, 0, none⟩))]) (fun s_ w' => (w'.cell? ⟨gb404, 0, none⟩ = some (.slice A0_0 l0_0.length c0_0) ∧ w'.cell? ⟨gb404, 1, none⟩ = some (.int .i64 a0_1) ∧ w'.cell? ⟨gb404, 2, none⟩ = some (.int .i64 a0_2) ∧ w'.cell? ⟨gb404, 3, none⟩ = some (.int .i64 a0_3)) ∧ (w'.heap[gb404]? = some (.cells #[.slice A0_0 l0_0.length c0_0, .int .i64 a0_1, .int .i64 a0_2, .int .i64 a0_3] 47 (0, 0))) ∧ (w'.heap[s_.1]? = some (.cells #[.slice none 0 0] 24 (0, 0))) ∧ (w'.heap[s_.2]? = some (.cells #[.slice none 0 0] 24 (0, 0))) ∧ (w.heap.size ≤ s_.1) ∧ (w.heap.size ≤ s_.1) ∧ (gb404 ≠ s_.1) ∧ (s_.1 ≠ gb404) ∧ (s_.2 ≠ s_.1) ∧ (s_.1 ≠ s_.2) ∧ (w.heap.size ≤ s_.2) ∧ (w.heap.size ≤ s_.2) ∧ (gb404 ≠ s_.2) ∧ (s_.2 ≠ gb404) ∧ (Below w.heap.size w w')) ?_ ?_
         rotate_left
         ·intro hJ5_6
          refine join_ (σ := Value) 5 #[true, true, true, true, false, false, false, false, false] (fun s_ => [(9, s_)]) (fun s_ w' => (w'.cell? ⟨gb404, 0, none⟩ = some (.slice A0_0 l0_0.length c0_0) ∧ w'.cell? ⟨gb404, 1, none⟩ = some (.int .i64 a0_1) ∧ w'.cell? ⟨gb404, 2, none⟩ = some (.int .i64 a0_2) ∧ w'.cell? ⟨gb404, 3, none⟩ = some (.int .i64 a0_3)) ∧ (Kd.R (Kd.int .i64) 3 w' w.heap.size (fun _ => True) s_ t406) ∧ (w'.heap[gb404]? = some (.cells #[.slice A0_0 l0_0.length c0_0, .int .i64 a0_1, .int .i64 a0_2, .int .i64 a0_3] 47 (0, 0))) ∧ (Below w.heap.size w w')) ?_ ?_
          rotate_left
          ·intro hJ1
           refine join_ (σ := Nat) 5 #[true, false, true, true, false, true, false, false, false] (fun s_ => [(3, .pointer (some ⟨s_, 0, none⟩))]) (fun s_ w' => (w'.cell? ⟨gb404, 0, none⟩ = some (.slice A0_0 l0_0.length c0_0) ∧ w'.cell? ⟨gb404, 1, none⟩ = some (.int .i64 a0_1) ∧ w'.cell? ⟨gb404, 2, none⟩ = some (.int .i64 a0_2) ∧ w'.cell? ⟨gb404, 3, none⟩ = some (.int .i64 a0_3)) ∧ (w'.heap[gb404]? = some (.cells #[.slice A0_0 l0_0.length c0_0, .int .i64 a0_1, .int .i64 a0_2, .int .i64 a0_3] 47 (0, 0))) ∧ (w'.heap[s_]? = some (.cells #[.slice none 0 0] 24 (0, 0))) ∧ (w.heap.size ≤ s_) ∧ (w.heap.size ≤ s_) ∧ (gb404 ≠ s_) ∧ (s_ ≠ gb404) ∧ (Below w.heap.size w w')) ?_ ?_
           rotate_left
           ·intro hJ5
            refine join_ (σ := Nat) 5 #[true, false, true, true, false, false, true, false, false] (fun s_ => [(4, .pointer (some ⟨s_, 0, none⟩))]) (fun s_ w' => (w'.cell? ⟨gb404, 0, none⟩ = some (.slice A0_0 l0_0.length c0_0) ∧ w'.cell? ⟨gb404, 1, none⟩ = some (.int .i64 a0_1) ∧ w'.cell? ⟨gb404, 2, none⟩ = some (.int .i64 a0_2) ∧ w'.cell? ⟨gb404, 3, none⟩ = some (.int .i64 a0_3)) ∧ (w'.heap[gb404]? = some (.cells #[.slice A0_0 l0_0.length c0_0, .int .i64 a0_1, .int .i64 a0_2, .int .i64 a0_3] 47 (0, 0))) ∧ (w'.heap[s_]? = some (.cells #[.slice none 0 0] 24 (0, 0))) ∧ (w.heap.size ≤ s_) ∧ (w.heap.size ≤ s_) ∧ (gb404 ≠ s_) ∧ (s_ ≠ gb404) ∧ (Below w.heap.size w w')) ?_ ?_
            rotate_left
            ·intro hJ6
             refine three_ (i := 1) (j := 5) (k := 6) (Ni := some 9) (Nj := some 3) (Nk := some 4) #[true, true, true, true, false, false, false, false, false] #[true, false, true, true, false, true, false, false, false] #[true, false, true, true, false, false, true, false, false] rfl rfl rfl rfl rfl rfl (three_of HT_.out (by kernel_rfl)) (by decide) (by decide) (by decide) (fun K hK => ?_) (fun K hK => ?_) (fun K hK => ?_)
             ·skip
              refine goes_ Try.func30 (by kernel_rfl) rfl #[.agg #[.slice A0_0 l0_0.length c0_0, .int .i64 a0_1, .int .i64 a0_2, .int .i64 a0_3]] (by rfl) rfl rfl zg ?_
              with_reducible refine (impl_MayReadFirst.calls k _ _ l0_0 a0_1 a0_2 a0_3 t406 _ ?side1 ?side2 A4.out).mono ?_
              (case side1 => repeat (first | exact (zX HR0_0.out HB.out) | (with_reducible refine zF ?_ _) | (with_reducible refine zG ?_ _) | (with_reducible refine zH ?_)))
              (case side2 => exact HC0_0.out)
              rintro e w12 ⟨v407, rfl, ho0, hb⟩
              refine ⟨_, rfl, ?_⟩
              have n0_ := zM (zf ho0 (zR zb))
              have n1_ := zM (z7 (g := gb404) (o := .cells #[.slice A0_0 l0_0.length c0_0, .int .i64 a0_1, .int .i64 a0_2, .int .i64 a0_3] 47 (0, 0)) zk hb)
              have n2_ := zM (zQ zb hb)
              clear BK404
              clear HB
              have HO408 := n0_
              have BK404 := n1_
              have HB := n2_
              clear n0_ n1_ n2_
              (try clear hb)
              (try clear hb2)
              (try clear hk)
              (try clear hi)
              (try clear ho0)
              refine hK.out _ _ ⟨(z5 BK404.out 0).trans rfl, (z5 BK404.out 1).trans rfl, (z5 BK404.out 2).trans rfl, (z5 BK404.out 3).trans rfl⟩ (fun hHeld => ?_)
              clear hK K
              refine norm_ (a' := ?_) ?_ ?_
              rotate_left
              ·show Act.put _ (some 9) _ = _
               simp only [Act.put, List.setIfInBounds_toArray, List.set_cons_zero, List.set_cons_succ, i64_w, i32_w]
               rfl
              exact norm_ (by first | (simp only [putAll, Act.put, List.setIfInBounds_toArray, List.set_cons_zero, List.set_cons_succ]; done) | (simp only [putAll, Act.put, List.setIfInBounds_toArray, List.set_cons_zero, List.set_cons_succ]; rfl)) (hJ1 (v407) _ ⟨hHeld, (by (with_reducible repeat (first | apply zI | apply zJ | apply zK)); exact HO408.out), zk, zb⟩)
             ·skip
              refine box_step ?hg (N := 3) ?hd (cs := #[.slice none 0 0]) (t := 24) ?hr ?_; (case hd => rfl); (case hg => rfl); (case hr => first | (go_simp; done) | (go_simp; rfl))
              intro gb412 hg w12 hbox hb
              have n0_ := zM (z7 (g := gb404) (o := .cells #[.slice A0_0 l0_0.length c0_0, .int .i64 a0_1, .int .i64 a0_2, .int .i64 a0_3] 47 (0, 0)) zk hb)
              have n1_ := zM (zQ zb hb)
              have n2_ := zM (hbox)
              have n3_ := zM ((by rw [hg]; exact (zR zb) : w.heap.size ≤ gb412))
              have n4_ := zM ((by rw [hg]; exact (zR zb) : w.heap.size ≤ gb412))
              have n5_ := zM ((by rw [hg]; exact Nat.ne_of_lt (blk_lt (g := gb404) (o := .cells #[.slice A0_0 l0_0.length c0_0, .int .i64 a0_1, .int .i64 a0_2, .int .i64 a0_3] 47 (0, 0)) zk) : gb404 ≠ gb412))
              have n6_ := zM ((by rw [hg]; exact Nat.ne_of_gt (blk_lt (g := gb404) (o := .cells #[.slice A0_0 l0_0.length c0_0, .int .i64 a0_1, .int .i64 a0_2, .int .i64 a0_3] 47 (0, 0)) zk) : gb412 ≠ gb404))
              clear BK404
              clear HB
              have BK404 := n0_
              have HB := n1_
              have BK412 := n2_
              have GW412 := n3_
              have GE412 := n4_
              have NB404_412 := n5_
              have NB412_404 := n6_
              clear n0_ n1_ n2_ n3_ n4_ n5_ n6_
              clear hb hbox hg
              refine hK.out _ _ ⟨(z5 BK404.out 0).trans rfl, (z5 BK404.out 1).trans rfl, (z5 BK404.out 2).trans rfl, (z5 BK404.out 3).trans rfl⟩ (fun hHeld => ?_)
              clear hK K
              refine norm_ (a' := ?_) ?_ ?_
              rotate_left
              ·show Act.put _ (some 3) _ = _
               simp only [Act.put, List.setIfInBounds_toArray, List.set_cons_zero, List.set_cons_succ, i64_w, i32_w]
               rfl
              exact norm_ (by first | (simp only [putAll, Act.put, List.setIfInBounds_toArray, List.set_cons_zero, List.set_cons_succ]; done) | (simp only [putAll, Act.put, List.setIfInBounds_toArray, List.set_cons_zero, List.set_cons_succ]; rfl)) (hJ5 (gb412) _ ⟨hHeld, zk, zk, GW412.out, GE412.out, NB404_412.out, NB412_404.out, zb⟩)
             ·skip
              refine box_step ?hg (N := 4) ?hd (cs := #[.slice none 0 0]) (t := 24) ?hr ?_; (case hd => rfl); (case hg => rfl); (case hr => first | (go_simp; done) | (go_simp; rfl))
              intro gb413 hg w12 hbox hb
              have n0_ := zM (z7 (g := gb404) (o := .cells #[.slice A0_0 l0_0.length c0_0, .int .i64 a0_1, .int .i64 a0_2, .int .i64 a0_3] 47 (0, 0)) zk hb)
              have n1_ := zM (zQ zb hb)
              have n2_ := zM (hbox)
              have n3_ := zM ((by rw [hg]; exact (zR zb) : w.heap.size ≤ gb413))
              have n4_ := zM ((by rw [hg]; exact (zR zb) : w.heap.size ≤ gb413))
              have n5_ := zM ((by rw [hg]; exact Nat.ne_of_lt (blk_lt (g := gb404) (o := .cells #[.slice A0_0 l0_0.length c0_0, .int .i64 a0_1, .int .i64 a0_2, .int .i64 a0_3] 47 (0, 0)) zk) : gb404 ≠ gb413))
              have n6_ := zM ((by rw [hg]; exact Nat.ne_of_gt (blk_lt (g := gb404) (o := .cells #[.slice A0_0 l0_0.length c0_0, .int .i64 a0_1, .int .i64 a0_2, .int .i64 a0_3] 47 (0, 0)) zk) : gb413 ≠ gb404))
              clear BK404
              clear HB
              have BK404 := n0_
              have HB := n1_
              have BK413 := n2_
              have GW413 := n3_
              have GE413 := n4_
              have NB404_413 := n5_
              have NB413_404 := n6_
              clear n0_ n1_ n2_ n3_ n4_ n5_ n6_
              clear hb hbox hg
              refine hK.out _ _ ⟨(z5 BK404.out 0).trans rfl, (z5 BK404.out 1).trans rfl, (z5 BK404.out 2).trans rfl, (z5 BK404.out 3).trans rfl⟩ (fun hHeld => ?_)
              clear hK K
              refine norm_ (a' := ?_) ?_ ?_
              rotate_left
              ·show Act.put _ (some 4) _ = _
               simp only [Act.put, List.setIfInBounds_toArray, List.set_cons_zero, List.set_cons_succ, i64_w, i32_w]
               rfl
              exact norm_ (by first | (simp only [putAll, Act.put, List.setIfInBounds_toArray, List.set_cons_zero, List.set_cons_succ]; done) | (simp only [putAll, Act.put, List.setIfInBounds_toArray, List.set_cons_zero, List.set_cons_succ]; rfl)) (hJ6 (gb413) _ ⟨hHeld, zk, zk, GW413.out, GE413.out, NB404_413.out, NB413_404.out, zb⟩)
            ·skip
             rintro gb413 w13 ⟨hS_, h0_, h1_, h2_, h3_, h4_, h5_, h6_⟩
             have n0_ : Aside0 (w13.heap[gb404]? = some (.cells #[.slice A0_0 l0_0.length c0_0, .int .i64 a0_1, .int .i64 a0_2, .int .i64 a0_3] 47 (0, 0))) := ⟨h0_⟩
             have n1_ : Aside0 (w13.heap[gb413]? = some (.cells #[.slice none 0 0] 24 (0, 0))) := ⟨h1_⟩
             have n2_ : Aside0 (w.heap.size ≤ gb413) := ⟨h2_⟩
             have n3_ : Aside0 (w.heap.size ≤ gb413) := ⟨h3_⟩
             have n4_ : Aside0 (gb404 ≠ gb413) := ⟨h4_⟩
             have n5_ : Aside0 (gb413 ≠ gb404) := ⟨h5_⟩
             have n6_ : Aside0 (Below w.heap.size w w13) := ⟨h6_⟩
             clear BK404
             clear HB
             clear h0_ h1_ h2_ h3_ h4_ h5_ h6_
             have BK404 := n0_
             have BK413 := n1_
             have GW413 := n2_
             have GE413 := n3_
             have NB404_413 := n4_
             have NB413_404 := n5_
             have HB := n6_
             clear n0_ n1_ n2_ n3_ n4_ n5_ n6_
             have hHeld : w13.cell? ⟨gb404, 0, none⟩ = some (.slice A0_0 l0_0.length c0_0) ∧ w13.cell? ⟨gb404, 1, none⟩ = some (.int .i64 a0_1) ∧ w13.cell? ⟨gb404, 2, none⟩ = some (.int .i64 a0_2) ∧ w13.cell? ⟨gb404, 3, none⟩ = some (.int .i64 a0_3) := hS_
             refine norm_ (a' := ?_) ?_ ?_
             rotate_left
             ·simp only [putAll, Act.put, List.setIfInBounds_toArray, List.set_cons_zero, List.set_cons_succ]
              rfl
             refine two_ (i := 1) (j := 5) (Ni := some 9) (Nj := some 3) #[true, true, true, true, false, false, true, false, false] #[true, false, true, true, false, true, true, false, false] rfl rfl rfl rfl (two_of HT_.out (by kernel_rfl)) (by decide) (by decide) (fun K hK => ?_) (fun K hK => ?_)
             ·skip
              refine goes_ Try.func30 (by kernel_rfl) rfl #[.agg #[.slice A0_0 l0_0.length c0_0, .int .i64 a0_1, .int .i64 a0_2, .int .i64 a0_3]] (by rfl) rfl rfl zg ?_
              with_reducible refine (impl_MayReadFirst.calls k _ _ l0_0 a0_1 a0_2 a0_3 t406 _ ?side1 ?side2 A4.out).mono ?_
              (case side1 => repeat (first | exact (zX HR0_0.out HB.out) | (with_reducible refine zF ?_ _) | (with_reducible refine zG ?_ _) | (with_reducible refine zH ?_)))
              (case side2 => exact HC0_0.out)
              rintro e w14 ⟨v407, rfl, ho0, hb⟩
              refine ⟨_, rfl, ?_⟩
              have n0_ := zM (zf ho0 (zR zb))
              have n1_ := zM (z7 (g := gb404) (o := .cells #[.slice A0_0 l0_0.length c0_0, .int .i64 a0_1, .int .i64 a0_2, .int .i64 a0_3] 47 (0, 0)) zk hb)
              have n2_ := zM (z7 (g := gb413) (o := .cells #[.slice none 0 0] 24 (0, 0)) zk hb)
              have n3_ := zM (zQ zb hb)
              clear BK404
              clear BK413
              clear HB
              have HO408 := n0_
              have BK404 := n1_
              have BK413 := n2_
              have HB := n3_
              clear n0_ n1_ n2_ n3_
              (try clear hb)
              (try clear hb2)
              (try clear hk)
              (try clear hi)
              (try clear ho0)
              refine hK.out _ _ ⟨(z5 BK404.out 0).trans rfl, (z5 BK404.out 1).trans rfl, (z5 BK404.out 2).trans rfl, (z5 BK404.out 3).trans rfl⟩ (fun hHeld => ?_)
              clear hK K
              refine norm_ (a' := ?_) ?_ ?_
              rotate_left
              ·show Act.put _ (some 9) _ = _
               simp only [Act.put, List.setIfInBounds_toArray, List.set_cons_zero, List.set_cons_succ, i64_w, i32_w]
               rfl
              exact norm_ (by first | (simp only [putAll, Act.put, List.setIfInBounds_toArray, List.set_cons_zero, List.set_cons_succ]; done) | (simp only [putAll, Act.put, List.setIfInBounds_toArray, List.set_cons_zero, List.set_cons_succ]; rfl)) (hJ1_6 (v407, gb413) _ ⟨hHeld, (by (with_reducible repeat (first | apply zI | apply zJ | apply zK)); exact HO408.out), zk, zk, GW413.out, GE413.out, NB404_413.out, NB413_404.out, zb⟩)
             ·skip
              refine box_step ?hg (N := 3) ?hd (cs := #[.slice none 0 0]) (t := 24) ?hr ?_; (case hd => rfl); (case hg => rfl); (case hr => first | (go_simp; done) | (go_simp; rfl))
              intro gb412 hg w14 hbox hb
              have n0_ := zM (z7 (g := gb404) (o := .cells #[.slice A0_0 l0_0.length c0_0, .int .i64 a0_1, .int .i64 a0_2, .int .i64 a0_3] 47 (0, 0)) zk hb)
              have n1_ := zM (z7 (g := gb413) (o := .cells #[.slice none 0 0] 24 (0, 0)) zk hb)
              have n2_ := zM (zQ zb hb)
              have n3_ := zM (hbox)
              have n4_ := zM ((by rw [hg]; exact (zR zb) : w.heap.size ≤ gb412))
              have n5_ := zM ((by rw [hg]; exact (zR zb) : w.heap.size ≤ gb412))
              have n6_ := zM ((by rw [hg]; exact Nat.ne_of_lt (blk_lt (g := gb404) (o := .cells #[.slice A0_0 l0_0.length c0_0, .int .i64 a0_1, .int .i64 a0_2, .int .i64 a0_3] 47 (0, 0)) zk) : gb404 ≠ gb412))
              have n7_ := zM ((by rw [hg]; exact Nat.ne_of_gt (blk_lt (g := gb404) (o := .cells #[.slice A0_0 l0_0.length c0_0, .int .i64 a0_1, .int .i64 a0_2, .int .i64 a0_3] 47 (0, 0)) zk) : gb412 ≠ gb404))
              have n8_ := zM ((by rw [hg]; exact Nat.ne_of_lt (blk_lt (g := gb413) (o := .cells #[.slice none 0 0] 24 (0, 0)) zk) : gb413 ≠ gb412))
              have n9_ := zM ((by rw [hg]; exact Nat.ne_of_gt (blk_lt (g := gb413) (o := .cells #[.slice none 0 0] 24 (0, 0)) zk) : gb412 ≠ gb413))
              clear BK404
              clear BK413
              clear HB
              have BK404 := n0_
              have BK413 := n1_
              have HB := n2_
              have BK412 := n3_
              have GW412 := n4_
              have GE412 := n5_
              have NB404_412 := n6_
              have NB412_404 := n7_
              have NB413_412 := n8_
              have NB412_413 := n9_
              clear n0_ n1_ n2_ n3_ n4_ n5_ n6_ n7_ n8_ n9_
              clear hb hbox hg
              refine hK.out _ _ ⟨(z5 BK404.out 0).trans rfl, (z5 BK404.out 1).trans rfl, (z5 BK404.out 2).trans rfl, (z5 BK404.out 3).trans rfl⟩ (fun hHeld => ?_)
              clear hK K
              refine norm_ (a' := ?_) ?_ ?_
              rotate_left
              ·show Act.put _ (some 3) _ = _
               simp only [Act.put, List.setIfInBounds_toArray, List.set_cons_zero, List.set_cons_succ, i64_w, i32_w]
               rfl
              exact norm_ (by first | (simp only [putAll, Act.put, List.setIfInBounds_toArray, List.set_cons_zero, List.set_cons_succ]; done) | (simp only [putAll, Act.put, List.setIfInBounds_toArray, List.set_cons_zero, List.set_cons_succ]; rfl)) (hJ5_6 (gb412, gb413) _ ⟨hHeld, zk, zk, zk, GW412.out, GE412.out, NB404_412.out, NB412_404.out, NB413_412.out, NB412_413.out, GW413.out, GE413.out, NB404_413.out, NB413_404.out, zb⟩)
           ·skip
            rintro gb412 w13 ⟨hS_, h0_, h1_, h2_, h3_, h4_, h5_, h6_⟩
            have n0_ : Aside0 (w13.heap[gb404]? = some (.cells #[.slice A0_0 l0_0.length c0_0, .int .i64 a0_1, .int .i64 a0_2, .int .i64 a0_3] 47 (0, 0))) := ⟨h0_⟩
            have n1_ : Aside0 (w13.heap[gb412]? = some (.cells #[.slice none 0 0] 24 (0, 0))) := ⟨h1_⟩
            have n2_ : Aside0 (w.heap.size ≤ gb412) := ⟨h2_⟩
            have n3_ : Aside0 (w.heap.size ≤ gb412) := ⟨h3_⟩
            have n4_ : Aside0 (gb404 ≠ gb412) := ⟨h4_⟩
            have n5_ : Aside0 (gb412 ≠ gb404) := ⟨h5_⟩
            have n6_ : Aside0 (Below w.heap.size w w13) := ⟨h6_⟩
            clear BK404
            clear HB
            clear h0_ h1_ h2_ h3_ h4_ h5_ h6_
            have BK404 := n0_
            have BK412 := n1_
            have GW412 := n2_
            have GE412 := n3_
            have NB404_412 := n4_
            have NB412_404 := n5_
            have HB := n6_
            clear n0_ n1_ n2_ n3_ n4_ n5_ n6_
            have hHeld : w13.cell? ⟨gb404, 0, none⟩ = some (.slice A0_0 l0_0.length c0_0) ∧ w13.cell? ⟨gb404, 1, none⟩ = some (.int .i64 a0_1) ∧ w13.cell? ⟨gb404, 2, none⟩ = some (.int .i64 a0_2) ∧ w13.cell? ⟨gb404, 3, none⟩ = some (.int .i64 a0_3) := hS_
            refine norm_ (a' := ?_) ?_ ?_
            rotate_left
            ·simp only [putAll, Act.put, List.setIfInBounds_toArray, List.set_cons_zero, List.set_cons_succ]
             rfl
            refine two_ (i := 1) (j := 6) (Ni := some 9) (Nj := some 4) #[true, true, true, true, false, true, false, false, false] #[true, false, true, true, false, true, true, false, false] rfl rfl rfl rfl (two_of HT_.out (by kernel_rfl)) (by decide) (by decide) (fun K hK => ?_) (fun K hK => ?_)
            ·skip
             refine goes_ Try.func30 (by kernel_rfl) rfl #[.agg #[.slice A0_0 l0_0.length c0_0, .int .i64 a0_1, .int .i64 a0_2, .int .i64 a0_3]] (by rfl) rfl rfl zg ?_
             with_reducible refine (impl_MayReadFirst.calls k _ _ l0_0 a0_1 a0_2 a0_3 t406 _ ?side1 ?side2 A4.out).mono ?_
             (case side1 => repeat (first | exact (zX HR0_0.out HB.out) | (with_reducible refine zF ?_ _) | (with_reducible refine zG ?_ _) | (with_reducible refine zH ?_)))
             (case side2 => exact HC0_0.out)
             rintro e w14 ⟨v407, rfl, ho0, hb⟩
             refine ⟨_, rfl, ?_⟩
             have n0_ := zM (zf ho0 (zR zb))
             have n1_ := zM (z7 (g := gb404) (o := .cells #[.slice A0_0 l0_0.length c0_0, .int .i64 a0_1, .int .i64 a0_2, .int .i64 a0_3] 47 (0, 0)) zk hb)
             have n2_ := zM (z7 (g := gb412) (o := .cells #[.slice none 0 0] 24 (0, 0)) zk hb)
             have n3_ := zM (zQ zb hb)
             clear BK404
             clear BK412
             clear HB
             have HO408 := n0_
             have BK404 := n1_
             have BK412 := n2_
             have HB := n3_
             clear n0_ n1_ n2_ n3_
             (try clear hb)
             (try clear hb2)
             (try clear hk)
             (try clear hi)
             (try clear ho0)
             refine hK.out _ _ ⟨(z5 BK404.out 0).trans rfl, (z5 BK404.out 1).trans rfl, (z5 BK404.out 2).trans rfl, (z5 BK404.out 3).trans rfl⟩ (fun hHeld => ?_)
             clear hK K
             refine norm_ (a' := ?_) ?_ ?_
             rotate_left
             ·show Act.put _ (some 9) _ = _
              simp only [Act.put, List.setIfInBounds_toArray, List.set_cons_zero, List.set_cons_succ, i64_w, i32_w]
              rfl
             exact norm_ (by first | (simp only [putAll, Act.put, List.setIfInBounds_toArray, List.set_cons_zero, List.set_cons_succ]; done) | (simp only [putAll, Act.put, List.setIfInBounds_toArray, List.set_cons_zero, List.set_cons_succ]; rfl)) (hJ1_5 (v407, gb412) _ ⟨hHeld, (by (with_reducible repeat (first | apply zI | apply zJ | apply zK)); exact HO408.out), zk, zk, GW412.out, GE412.out, NB404_412.out, NB412_404.out, zb⟩)
            ·skip
             refine box_step ?hg (N := 4) ?hd (cs := #[.slice none 0 0]) (t := 24) ?hr ?_; (case hd => rfl); (case hg => rfl); (case hr => first | (go_simp; done) | (go_simp; rfl))
             intro gb413 hg w14 hbox hb
             have n0_ := zM (z7 (g := gb404) (o := .cells #[.slice A0_0 l0_0.length c0_0, .int .i64 a0_1, .int .i64 a0_2, .int .i64 a0_3] 47 (0, 0)) zk hb)
             have n1_ := zM (z7 (g := gb412) (o := .cells #[.slice none 0 0] 24 (0, 0)) zk hb)
             have n2_ := zM (zQ zb hb)
             have n3_ := zM (hbox)
             have n4_ := zM ((by rw [hg]; exact (zR zb) : w.heap.size ≤ gb413))
             have n5_ := zM ((by rw [hg]; exact (zR zb) : w.heap.size ≤ gb413))
             have n6_ := zM ((by rw [hg]; exact Nat.ne_of_lt (blk_lt (g := gb404) (o := .cells #[.slice A0_0 l0_0.length c0_0, .int .i64 a0_1, .int .i64 a0_2, .int .i64 a0_3] 47 (0, 0)) zk) : gb404 ≠ gb413))
             have n7_ := zM ((by rw [hg]; exact Nat.ne_of_gt (blk_lt (g := gb404) (o := .cells #[.slice A0_0 l0_0.length c0_0, .int .i64 a0_1, .int .i64 a0_2, .int .i64 a0_3] 47 (0, 0)) zk) : gb413 ≠ gb404))
             have n8_ := zM ((by rw [hg]; exact Nat.ne_of_lt (blk_lt (g := gb412) (o := .cells #[.slice none 0 0] 24 (0, 0)) zk) : gb412 ≠ gb413))
             have n9_ := zM ((by rw [hg]; exact Nat.ne_of_gt (blk_lt (g := gb412) (o := .cells #[.slice none 0 0] 24 (0, 0)) zk) : gb413 ≠ gb412))
             clear BK404
             clear BK412
             clear HB
             have BK404 := n0_
             have BK412 := n1_
             have HB := n2_
             have BK413 := n3_
             have GW413 := n4_
             have GE413 := n5_
             have NB404_413 := n6_
             have NB413_404 := n7_
             have NB412_413 := n8_
             have NB413_412 := n9_
             clear n0_ n1_ n2_ n3_ n4_ n5_ n6_ n7_ n8_ n9_
             clear hb hbox hg
             refine hK.out _ _ ⟨(z5 BK404.out 0).trans rfl, (z5 BK404.out 1).trans rfl, (z5 BK404.out 2).trans rfl, (z5 BK404.out 3).trans rfl⟩ (fun hHeld => ?_)
             clear hK K
             refine norm_ (a' := ?_) ?_ ?_
             rotate_left
             ·show Act.put _ (some 4) _ = _
              simp only [Act.put, List.setIfInBounds_toArray, List.set_cons_zero, List.set_cons_succ, i64_w, i32_w]
              rfl
             exact norm_ (by first | (simp only [putAll, Act.put, List.setIfInBounds_toArray, List.set_cons_zero, List.set_cons_succ]; done) | (simp only [putAll, Act.put, List.setIfInBounds_toArray, List.set_cons_zero, List.set_cons_succ]; rfl)) (hJ5_6 (gb412, gb413) _ ⟨hHeld, zk, zk, zk, GW412.out, GE412.out, NB404_412.out, NB412_404.out, NB413_412.out, NB412_413.out, GW413.out, GE413.out, NB404_413.out, NB413_404.out, zb⟩)
          ·skip
           rintro v407 w13 ⟨hS_, h0_, h1_, h2_⟩
           have n0_ : Aside0 (Kd.R (Kd.int .i64) 3 w13 w.heap.size (fun _ => True) v407 t406) := ⟨h0_⟩
           have n1_ : Aside0 (w13.heap[gb404]? = some (.cells #[.slice A0_0 l0_0.length c0_0, .int .i64 a0_1, .int .i64 a0_2, .int .i64 a0_3] 47 (0, 0))) := ⟨h1_⟩
           have n2_ : Aside0 (Below w.heap.size w w13) := ⟨h2_⟩
           clear BK404
           clear HB
           clear h0_ h1_ h2_
           have HO408 := n0_
           have BK404 := n1_
           have HB := n2_
           clear n0_ n1_ n2_
           have hHeld : w13.cell? ⟨gb404, 0, none⟩ = some (.slice A0_0 l0_0.length c0_0) ∧ w13.cell? ⟨gb404, 1, none⟩ = some (.int .i64 a0_1) ∧ w13.cell? ⟨gb404, 2, none⟩ = some (.int .i64 a0_2) ∧ w13.cell? ⟨gb404, 3, none⟩ = some (.int .i64 a0_3) := hS_
           refine norm_ (a' := ?_) ?_ ?_
           rotate_left
           ·simp only [putAll, Act.put, List.setIfInBounds_toArray, List.set_cons_zero, List.set_cons_succ]
            rfl
           refine three_ (i := 4) (j := 5) (k := 6) (Ni := some 12) (Nj := some 3) (Nk := some 4) #[true, true, true, true, true, false, false, false, false] #[true, true, true, true, false, true, false, false, false] #[true, true, true, true, false, false, true, false, false] rfl rfl rfl rfl rfl rfl (three_of HT_.out (by kernel_rfl)) (by decide) (by decide) (by decide) (fun K hK => ?_) (fun K hK => ?_) (fun K hK => ?_)
           ·skip
            refine goes_ Try.func22 (by kernel_rfl) rfl #[.slice A0_0 l0_0.length c0_0] (by rfl) rfl rfl zg ?_
            with_reducible refine (impl_MustWrite.calls k _ _ l0_0 t409 _ ?side1 ?side2 A5.out).mono ?_
            (case side1 => repeat (first | exact (zX HR0_0.out HB.out) | (with_reducible refine zF ?_ _) | (with_reducible refine zG ?_ _) | (with_reducible refine zH ?_)))
            (case side2 => exact HC0_0.out)
            rintro e w14 ⟨v410, rfl, ho0, hb⟩
            refine ⟨_, rfl, ?_⟩
            have n0_ := zM (Kd.R_elder' (by (with_reducible repeat (first | apply zI | apply zJ | apply zK)); exact HO408.out) (Kd.R_base ho0) hb)
            have n1_ := zM (zf (Kd.R_new' ho0 (Kd.R_lt (by (with_reducible repeat (first | apply zI | apply zJ | apply zK)); exact HO408.out))) (zR zb))
            have n2_ := zM (z7 (g := gb404) (o := .cells #[.slice A0_0 l0_0.length c0_0, .int .i64 a0_1, .int .i64 a0_2, .int .i64 a0_3] 47 (0, 0)) zk hb)
            have n3_ := zM (zQ zb hb)
            clear HO408
            clear BK404
            clear HB
            have HO408 := n0_
            have HO411 := n1_
            have BK404 := n2_
            have HB := n3_
            clear n0_ n1_ n2_ n3_
            (try clear hb)
            (try clear hb2)
            (try clear hk)
            (try clear hi)
            (try clear ho0)
            refine hK.out _ _ ⟨(z5 BK404.out 0).trans rfl, (z5 BK404.out 1).trans rfl, (z5 BK404.out 2).trans rfl, (z5 BK404.out 3).trans rfl⟩ (fun hHeld => ?_)
            clear hK K
            refine norm_ (a' := ?_) ?_ ?_
            rotate_left
            ·show Act.put _ (some 12) _ = _
             simp only [Act.put, List.setIfInBounds_toArray, List.set_cons_zero, List.set_cons_succ, i64_w, i32_w]
             rfl
            exact norm_ (by first | (simp only [putAll, Act.put, List.setIfInBounds_toArray, List.set_cons_zero, List.set_cons_succ]; done) | (simp only [putAll, Act.put, List.setIfInBounds_toArray, List.set_cons_zero, List.set_cons_succ]; rfl)) (hJ1_4 (v407, v410) _ ⟨hHeld, (by (with_reducible repeat (first | apply zI | apply zJ | apply zK)); exact z1 HO408.out (fun _ hk => hk.2)), (by (with_reducible repeat (first | apply zI | apply zJ | apply zK)); exact z1 HO411.out (fun _ hk => hk.2)), zk, zb⟩)
           ·skip
            refine box_step ?hg (N := 3) ?hd (cs := #[.slice none 0 0]) (t := 24) ?hr ?_; (case hd => rfl); (case hg => rfl); (case hr => first | (go_simp; done) | (go_simp; rfl))
            intro gb412 hg w14 hbox hb
            have n0_ := zM (ze (by (with_reducible repeat (first | apply zI | apply zJ | apply zK)); exact HO408.out) hb)
            have n1_ := zM (z7 (g := gb404) (o := .cells #[.slice A0_0 l0_0.length c0_0, .int .i64 a0_1, .int .i64 a0_2, .int .i64 a0_3] 47 (0, 0)) zk hb)
            have n2_ := zM (zQ zb hb)
            have n3_ := zM (hbox)
            have n4_ := zM ((by rw [hg]; exact (zR zb) : w.heap.size ≤ gb412))
            have n5_ := zM ((by rw [hg]; exact (zR zb) : w.heap.size ≤ gb412))
            have n6_ := zM ((by rw [hg]; exact Nat.ne_of_lt (blk_lt (g := gb404) (o := .cells #[.slice A0_0 l0_0.length c0_0, .int .i64 a0_1, .int .i64 a0_2, .int .i64 a0_3] 47 (0, 0)) zk) : gb404 ≠ gb412))
            have n7_ := zM ((by rw [hg]; exact Nat.ne_of_gt (blk_lt (g := gb404) (o := .cells #[.slice A0_0 l0_0.length c0_0, .int .i64 a0_1, .int .i64 a0_2, .int .i64 a0_3] 47 (0, 0)) zk) : gb412 ≠ gb404))
            clear HO408
            clear BK404
            clear HB
            have HO408 := n0_
            have BK404 := n1_
            have HB := n2_
            have BK412 := n3_
            have GW412 := n4_
            have GE412 := n5_
            have NB404_412 := n6_
            have NB412_404 := n7_
            clear n0_ n1_ n2_ n3_ n4_ n5_ n6_ n7_
            clear hb hbox hg
            refine hK.out _ _ ⟨(z5 BK404.out 0).trans rfl, (z5 BK404.out 1).trans rfl, (z5 BK404.out 2).trans rfl, (z5 BK404.out 3).trans rfl⟩ (fun hHeld => ?_)
            clear hK K
            refine norm_ (a' := ?_) ?_ ?_
            rotate_left
            ·show Act.put _ (some 3) _ = _
             simp only [Act.put, List.setIfInBounds_toArray, List.set_cons_zero, List.set_cons_succ, i64_w, i32_w]
             rfl
            exact norm_ (by first | (simp only [putAll, Act.put, List.setIfInBounds_toArray, List.set_cons_zero, List.set_cons_succ]; done) | (simp only [putAll, Act.put, List.setIfInBounds_toArray, List.set_cons_zero, List.set_cons_succ]; rfl)) (hJ1_5 (v407, gb412) _ ⟨hHeld, (by (with_reducible repeat (first | apply zI | apply zJ | apply zK)); exact HO408.out), zk, zk, GW412.out, GE412.out, NB404_412.out, NB412_404.out, zb⟩)
           ·skip
            refine box_step ?hg (N := 4) ?hd (cs := #[.slice none 0 0]) (t := 24) ?hr ?_; (case hd => rfl); (case hg => rfl); (case hr => first | (go_simp; done) | (go_simp; rfl))
            intro gb413 hg w14 hbox hb
            have n0_ := zM (ze (by (with_reducible repeat (first | apply zI | apply zJ | apply zK)); exact HO408.out) hb)
            have n1_ := zM (z7 (g := gb404) (o := .cells #[.slice A0_0 l0_0.length c0_0, .int .i64 a0_1, .int .i64 a0_2, .int .i64 a0_3] 47 (0, 0)) zk hb)
            have n2_ := zM (zQ zb hb)
            have n3_ := zM (hbox)
            have n4_ := zM ((by rw [hg]; exact (zR zb) : w.heap.size ≤ gb413))
            have n5_ := zM ((by rw [hg]; exact (zR zb) : w.heap.size ≤ gb413))
            have n6_ := zM ((by rw [hg]; exact Nat.ne_of_lt (blk_lt (g := gb404) (o := .cells #[.slice A0_0 l0_0.length c0_0, .int .i64 a0_1, .int .i64 a0_2, .int .i64 a0_3] 47 (0, 0)) zk) : gb404 ≠ gb413))
            have n7_ := zM ((by rw [hg]; exact Nat.ne_of_gt (blk_lt (g := gb404) (o := .cells #[.slice A0_0 l0_0.length c0_0, .int .i64 a0_1, .int .i64 a0_2, .int .i64 a0_3] 47 (0, 0)) zk) : gb413 ≠ gb404))
            clear HO408
            clear BK404
            clear HB
            have HO408 := n0_
            have BK404 := n1_
            have HB := n2_
            have BK413 := n3_
            have GW413 := n4_
            have GE413 := n5_
            have NB404_413 := n6_
            have NB413_404 := n7_
            clear n0_ n1_ n2_ n3_ n4_ n5_ n6_ n7_
            clear hb hbox hg
            refine hK.out _ _ ⟨(z5 BK404.out 0).trans rfl, (z5 BK404.out 1).trans rfl, (z5 BK404.out 2).trans rfl, (z5 BK404.out 3).trans rfl⟩ (fun hHeld => ?_)
            clear hK K
            refine norm_ (a' := ?_) ?_ ?_
            rotate_left
            ·show Act.put _ (some 4) _ = _
             simp only [Act.put, List.setIfInBounds_toArray, List.set_cons_zero, List.set_cons_succ, i64_w, i32_w]
             rfl
            exact norm_ (by first | (simp only [putAll, Act.put, List.setIfInBounds_toArray, List.set_cons_zero, List.set_cons_succ]; done) | (simp only [putAll, Act.put, List.setIfInBounds_toArray, List.set_cons_zero, List.set_cons_succ]; rfl)) (hJ1_6 (v407, gb413) _ ⟨hHeld, (by (with_reducible repeat (first | apply zI | apply zJ | apply zK)); exact HO408.out), zk, zk, GW413.out, GE413.out, NB404_413.out, NB413_404.out, zb⟩)
         ·skip
          rintro ⟨gb412, gb413⟩ w14 ⟨hS_, h0_, h1_, h2_, h3_, h4_, h5_, h6_, h7_, h8_, h9_, h10_, h11_, h12_, h13_⟩
          have n0_ : Aside0 (w14.heap[gb404]? = some (.cells #[.slice A0_0 l0_0.length c0_0, .int .i64 a0_1, .int .i64 a0_2, .int .i64 a0_3] 47 (0, 0))) := ⟨h0_⟩
          have n1_ : Aside0 (w14.heap[gb412]? = some (.cells #[.slice none 0 0] 24 (0, 0))) := ⟨h1_⟩
          have n2_ : Aside0 (w14.heap[gb413]? = some (.cells #[.slice none 0 0] 24 (0, 0))) := ⟨h2_⟩
          have n3_ : Aside0 (w.heap.size ≤ gb412) := ⟨h3_⟩
          have n4_ : Aside0 (w.heap.size ≤ gb412) := ⟨h4_⟩
          have n5_ : Aside0 (gb404 ≠ gb412) := ⟨h5_⟩
          have n6_ : Aside0 (gb412 ≠ gb404) := ⟨h6_⟩
          have n7_ : Aside0 (gb413 ≠ gb412) := ⟨h7_⟩
          have n8_ : Aside0 (gb412 ≠ gb413) := ⟨h8_⟩
          have n9_ : Aside0 (w.heap.size ≤ gb413) := ⟨h9_⟩
          have n10_ : Aside0 (w.heap.size ≤ gb413) := ⟨h10_⟩
          have n11_ : Aside0 (gb404 ≠ gb413) := ⟨h11_⟩
          have n12_ : Aside0 (gb413 ≠ gb404) := ⟨h12_⟩
          have n13_ : Aside0 (Below w.heap.size w w14) := ⟨h13_⟩
          clear BK404
          clear HB
          clear h0_ h1_ h2_ h3_ h4_ h5_ h6_ h7_ h8_ h9_ h10_ h11_ h12_ h13_
          have BK404 := n0_
          have BK412 := n1_
          have BK413 := n2_
          have GW412 := n3_
          have GE412 := n4_
          have NB404_412 := n5_
          have NB412_404 := n6_
          have NB413_412 := n7_
          have NB412_413 := n8_
          have GW413 := n9_
          have GE413 := n10_
          have NB404_413 := n11_
          have NB413_404 := n12_
          have HB := n13_
          clear n0_ n1_ n2_ n3_ n4_ n5_ n6_ n7_ n8_ n9_ n10_ n11_ n12_ n13_
          have hHeld : w14.cell? ⟨gb404, 0, none⟩ = some (.slice A0_0 l0_0.length c0_0) ∧ w14.cell? ⟨gb404, 1, none⟩ = some (.int .i64 a0_1) ∧ w14.cell? ⟨gb404, 2, none⟩ = some (.int .i64 a0_2) ∧ w14.cell? ⟨gb404, 3, none⟩ = some (.int .i64 a0_3) := hS_
          refine norm_ (a' := ?_) ?_ ?_
          rotate_left
          ·simp only [putAll, Act.put, List.setIfInBounds_toArray, List.set_cons_zero, List.set_cons_succ]
           rfl
          refine one_ (i := 1) (N := some 9) #[true, true, true, true, false, true, true, false, false] rfl rfl (one_of HT_.out (by kernel_rfl)) (by decide) (fun K hK => ?_)
          refine goes_ Try.func30 (by kernel_rfl) rfl #[.agg #[.slice A0_0 l0_0.length c0_0, .int .i64 a0_1, .int .i64 a0_2, .int .i64 a0_3]] (by rfl) rfl rfl zg ?_
          with_reducible refine (impl_MayReadFirst.calls k _ _ l0_0 a0_1 a0_2 a0_3 t406 _ ?side1 ?side2 A4.out).mono ?_
          (case side1 => repeat (first | exact (zX HR0_0.out HB.out) | (with_reducible refine zF ?_ _) | (with_reducible refine zG ?_ _) | (with_reducible refine zH ?_)))
          (case side2 => exact HC0_0.out)
          rintro e w15 ⟨v407, rfl, ho0, hb⟩
          refine ⟨_, rfl, ?_⟩
          have n0_ := zM (zf ho0 (zR zb))
          have n1_ := zM (z7 (g := gb404) (o := .cells #[.slice A0_0 l0_0.length c0_0, .int .i64 a0_1, .int .i64 a0_2, .int .i64 a0_3] 47 (0, 0)) zk hb)
          have n2_ := zM (z7 (g := gb412) (o := .cells #[.slice none 0 0] 24 (0, 0)) zk hb)
          have n3_ := zM (z7 (g := gb413) (o := .cells #[.slice none 0 0] 24 (0, 0)) zk hb)
          have n4_ := zM (zQ zb hb)
          clear BK404
          clear BK412
          clear BK413
          clear HB
          have HO408 := n0_
          have BK404 := n1_
          have BK412 := n2_
          have BK413 := n3_
          have HB := n4_
          clear n0_ n1_ n2_ n3_ n4_
          (try clear hb)
          (try clear hb2)
          (try clear hk)
          (try clear hi)
          (try clear ho0)
          refine hK.out _ _ ⟨(z5 BK404.out 0).trans rfl, (z5 BK404.out 1).trans rfl, (z5 BK404.out 2).trans rfl, (z5 BK404.out 3).trans rfl⟩ (fun hHeld => ?_)
          clear hK K
          refine norm_ (a' := ?_) ?_ ?_
          rotate_left
          ·show Act.put _ (some 9) _ = _
           simp only [Act.put, List.setIfInBounds_toArray, List.set_cons_zero, List.set_cons_succ, i64_w, i32_w]
           rfl
          exact norm_ (by first | (simp only [putAll, Act.put, List.setIfInBounds_toArray, List.set_cons_zero, List.set_cons_succ]; done) | (simp only [putAll, Act.put, List.setIfInBounds_toArray, List.set_cons_zero, List.set_cons_succ]; rfl)) (hJ1_5_6 (v407, gb412, gb413) _ ⟨hHeld, (by (with_reducible repeat (first | apply zI | apply zJ | apply zK)); exact HO408.out), zk, zk, zk, GW412.out, GE412.out, NB404_412.out, NB412_404.out, NB413_412.out, NB412_413.out, GW413.out, GE413.out, NB404_413.out, NB413_404.out, zb⟩)
        ·skip
         rintro ⟨v407, gb413⟩ w14 ⟨hS_, h0_, h1_, h2_, h3_, h4_, h5_, h6_, h7_⟩
         have n0_ : Aside0 (Kd.R (Kd.int .i64) 3 w14 w.heap.size (fun _ => True) v407 t406) := ⟨h0_⟩
         have n1_ : Aside0 (w14.heap[gb404]? = some (.cells #[.slice A0_0 l0_0.length c0_0, .int .i64 a0_1, .int .i64 a0_2, .int .i64 a0_3] 47 (0, 0))) := ⟨h1_⟩
         have n2_ : Aside0 (w14.heap[gb413]? = some (.cells #[.slice none 0 0] 24 (0, 0))) := ⟨h2_⟩
         have n3_ : Aside0 (w.heap.size ≤ gb413) := ⟨h3_⟩
         have n4_ : Aside0 (w.heap.size ≤ gb413) := ⟨h4_⟩
         have n5_ : Aside0 (gb404 ≠ gb413) := ⟨h5_⟩
         have n6_ : Aside0 (gb413 ≠ gb404) := ⟨h6_⟩
         have n7_ : Aside0 (Below w.heap.size w w14) := ⟨h7_⟩
         clear BK404
         clear HB
         clear h0_ h1_ h2_ h3_ h4_ h5_ h6_ h7_
         have HO408 := n0_
         have BK404 := n1_
         have BK413 := n2_
         have GW413 := n3_
         have GE413 := n4_
         have NB404_413 := n5_
         have NB413_404 := n6_
         have HB := n7_
         clear n0_ n1_ n2_ n3_ n4_ n5_ n6_ n7_
         have hHeld : w14.cell? ⟨gb404, 0, none⟩ = some (.slice A0_0 l0_0.length c0_0) ∧ w14.cell? ⟨gb404, 1, none⟩ = some (.int .i64 a0_1) ∧ w14.cell? ⟨gb404, 2, none⟩ = some (.int .i64 a0_2) ∧ w14.cell? ⟨gb404, 3, none⟩ = some (.int .i64 a0_3) := hS_
         refine norm_ (a' := ?_) ?_ ?_
         rotate_left
         ·simp only [putAll, Act.put, List.setIfInBounds_toArray, List.set_cons_zero, List.set_cons_succ]
          rfl
         refine two_ (i := 4) (j := 5) (Ni := some 12) (Nj := some 3) #[true, true, true, true, true, false, true, false, false] #[true, true, true, true, false, true, true, false, false] rfl rfl rfl rfl (two_of HT_.out (by kernel_rfl)) (by decide) (by decide) (fun K hK => ?_) (fun K hK => ?_)
         ·skip
          refine goes_ Try.func22 (by kernel_rfl) rfl #[.slice A0_0 l0_0.length c0_0] (by rfl) rfl rfl zg ?_
          with_reducible refine (impl_MustWrite.calls k _ _ l0_0 t409 _ ?side1 ?side2 A5.out).mono ?_
          (case side1 => repeat (first | exact (zX HR0_0.out HB.out) | (with_reducible refine zF ?_ _) | (with_reducible refine zG ?_ _) | (with_reducible refine zH ?_)))
          (case side2 => exact HC0_0.out)
          rintro e w15 ⟨v410, rfl, ho0, hb⟩
          refine ⟨_, rfl, ?_⟩
          have n0_ := zM (Kd.R_elder' (by (with_reducible repeat (first | apply zI | apply zJ | apply zK)); exact HO408.out) (Kd.R_base ho0) hb)
          have n1_ := zM (zf (Kd.R_new' ho0 (Kd.R_lt (by (with_reducible repeat (first | apply zI | apply zJ | apply zK)); exact HO408.out))) (zR zb))
          have n2_ := zM (z7 (g := gb404) (o := .cells #[.slice A0_0 l0_0.length c0_0, .int .i64 a0_1, .int .i64 a0_2, .int .i64 a0_3] 47 (0, 0)) zk hb)
          have n3_ := zM (z7 (g := gb413) (o := .cells #[.slice none 0 0] 24 (0, 0)) zk hb)
          have n4_ := zM (zQ zb hb)
          clear HO408
          clear BK404
          clear BK413
          clear HB
          have HO408 := n0_
          have HO411 := n1_
          have BK404 := n2_
          have BK413 := n3_
          have HB := n4_
          clear n0_ n1_ n2_ n3_ n4_
          (try clear hb)
          (try clear hb2)
          (try clear hk)
          (try clear hi)
          (try clear ho0)
          refine hK.out _ _ ⟨(z5 BK404.out 0).trans rfl, (z5 BK404.out 1).trans rfl, (z5 BK404.out 2).trans rfl, (z5 BK404.out 3).trans rfl⟩ (fun hHeld => ?_)
          clear hK K
          refine norm_ (a' := ?_) ?_ ?_
          rotate_left
          ·show Act.put _ (some 12) _ = _
           simp only [Act.put, List.setIfInBounds_toArray, List.set_cons_zero, List.set_cons_succ, i64_w, i32_w]
           rfl
          exact norm_ (by first | (simp only [putAll, Act.put, List.setIfInBounds_toArray, List.set_cons_zero, List.set_cons_succ]; done) | (simp only [putAll, Act.put, List.setIfInBounds_toArray, List.set_cons_zero, List.set_cons_succ]; rfl)) (hJ1_4_6 (v407, v410, gb413) _ ⟨hHeld, (by (with_reducible repeat (first | apply zI | apply zJ | apply zK)); exact z1 HO408.out (fun _ hk => hk.2)), (by (with_reducible repeat (first | apply zI | apply zJ | apply zK)); exact z1 HO411.out (fun _ hk => hk.2)), zk, zk, GW413.out, GE413.out, NB404_413.out, NB413_404.out, zb⟩)
         ·skip
          refine box_step ?hg (N := 3) ?hd (cs := #[.slice none 0 0]) (t := 24) ?hr ?_; (case hd => rfl); (case hg => rfl); (case hr => first | (go_simp; done) | (go_simp; rfl))
          intro gb412 hg w15 hbox hb
          have n0_ := zM (ze (by (with_reducible repeat (first | apply zI | apply zJ | apply zK)); exact HO408.out) hb)
          have n1_ := zM (z7 (g := gb404) (o := .cells #[.slice A0_0 l0_0.length c0_0, .int .i64 a0_1, .int .i64 a0_2, .int .i64 a0_3] 47 (0, 0)) zk hb)
          have n2_ := zM (z7 (g := gb413) (o := .cells #[.slice none 0 0] 24 (0, 0)) zk hb)
          have n3_ := zM (zQ zb hb)
          have n4_ := zM (hbox)
          have n5_ := zM ((by rw [hg]; exact (zR zb) : w.heap.size ≤ gb412))
          have n6_ := zM ((by rw [hg]; exact (zR zb) : w.heap.size ≤ gb412))
          have n7_ := zM ((by rw [hg]; exact Nat.ne_of_lt (blk_lt (g := gb404) (o := .cells #[.slice A0_0 l0_0.length c0_0, .int .i64 a0_1, .int .i64 a0_2, .int .i64 a0_3] 47 (0, 0)) zk) : gb404 ≠ gb412))
          have n8_ := zM ((by rw [hg]; exact Nat.ne_of_gt (blk_lt (g := gb404) (o := .cells #[.slice A0_0 l0_0.length c0_0, .int .i64 a0_1, .int .i64 a0_2, .int .i64 a0_3] 47 (0, 0)) zk) : gb412 ≠ gb404))
          have n9_ := zM ((by rw [hg]; exact Nat.ne_of_lt (blk_lt (g := gb413) (o := .cells #[.slice none 0 0] 24 (0, 0)) zk) : gb413 ≠ gb412))
          have n10_ := zM ((by rw [hg]; exact Nat.ne_of_gt (blk_lt (g := gb413) (o := .cells #[.slice none 0 0] 24 (0, 0)) zk) : gb412 ≠ gb413))
          clear HO408
          clear BK404
          clear BK413
          clear HB
          have HO408 := n0_
          have BK404 := n1_
          have BK413 := n2_
          have HB := n3_
          have BK412 := n4_
          have GW412 := n5_
          have GE412 := n6_
          have NB404_412 := n7_
          have NB412_404 := n8_
          have NB413_412 := n9_
          have NB412_413 := n10_
          clear n0_ n1_ n2_ n3_ n4_ n5_ n6_ n7_ n8_ n9_ n10_
          clear hb hbox hg
          refine hK.out _ _ ⟨(z5 BK404.out 0).trans rfl, (z5 BK404.out 1).trans rfl, (z5 BK404.out 2).trans rfl, (z5 BK404.out 3).trans rfl⟩ (fun hHeld => ?_)
          clear hK K
          refine norm_ (a' := ?_) ?_ ?_
          rotate_left
          ·show Act.put _ (some 3) _ = _
           simp only [Act.put, List.setIfInBounds_toArray, List.set_cons_zero, List.set_cons_succ, i64_w, i32_w]
           rfl
          exact norm_ (by first | (simp only [putAll, Act.put, List.setIfInBounds_toArray, List.set_cons_zero, List.set_cons_succ]; done) | (simp only [putAll, Act.put, List.setIfInBounds_toArray, List.set_cons_zero, List.set_cons_succ]; rfl)) (hJ1_5_6 (v407, gb412, gb413) _ ⟨hHeld, (by (with_reducible repeat (first | apply zI | apply zJ | apply zK)); exact HO408.out), zk, zk, zk, GW412.out, GE412.out, NB404_412.out, NB412_404.out, NB413_412.out, NB412_413.out, GW413.out, GE413.out, NB404_413.out, NB413_404.out, zb⟩)
       ·skip
        rintro ⟨v407, gb412⟩ w14 ⟨hS_, h0_, h1_, h2_, h3_, h4_, h5_, h6_, h7_⟩
        have n0_ : Aside0 (Kd.R (Kd.int .i64) 3 w14 w.heap.size (fun _ => True) v407 t406) := ⟨h0_⟩
        have n1_ : Aside0 (w14.heap[gb404]? = some (.cells #[.slice A0_0 l0_0.length c0_0, .int .i64 a0_1, .int .i64 a0_2, .int .i64 a0_3] 47 (0, 0))) := ⟨h1_⟩
        have n2_ : Aside0 (w14.heap[gb412]? = some (.cells #[.slice none 0 0] 24 (0, 0))) := ⟨h2_⟩
        have n3_ : Aside0 (w.heap.size ≤ gb412) := ⟨h3_⟩
        have n4_ : Aside0 (w.heap.size ≤ gb412) := ⟨h4_⟩
        have n5_ : Aside0 (gb404 ≠ gb412) := ⟨h5_⟩
        have n6_ : Aside0 (gb412 ≠ gb404) := ⟨h6_⟩
        have n7_ : Aside0 (Below w.heap.size w w14) := ⟨h7_⟩
        clear BK404
        clear HB
        clear h0_ h1_ h2_ h3_ h4_ h5_ h6_ h7_
        have HO408 := n0_
        have BK404 := n1_
        have BK412 := n2_
        have GW412 := n3_
        have GE412 := n4_
        have NB404_412 := n5_
        have NB412_404 := n6_
        have HB := n7_
        clear n0_ n1_ n2_ n3_ n4_ n5_ n6_ n7_
        have hHeld : w14.cell? ⟨gb404, 0, none⟩ = some (.slice A0_0 l0_0.length c0_0) ∧ w14.cell? ⟨gb404, 1, none⟩ = some (.int .i64 a0_1) ∧ w14.cell? ⟨gb404, 2, none⟩ = some (.int .i64 a0_2) ∧ w14.cell? ⟨gb404, 3, none⟩ = some (.int .i64 a0_3) := hS_
        refine norm_ (a' := ?_) ?_ ?_
        rotate_left
        ·simp only [putAll, Act.put, List.setIfInBounds_toArray, List.set_cons_zero, List.set_cons_succ]
         rfl
        refine two_ (i := 4) (j := 6) (Ni := some 12) (Nj := some 4) #[true, true, true, true, true, true, false, false, false] #[true, true, true, true, false, true, true, false, false] rfl rfl rfl rfl (two_of HT_.out (by kernel_rfl)) (by decide) (by decide) (fun K hK => ?_) (fun K hK => ?_)
        ·skip
         refine goes_ Try.func22 (by kernel_rfl) rfl #[.slice A0_0 l0_0.length c0_0] (by rfl) rfl rfl zg ?_
         with_reducible refine (impl_MustWrite.calls k _ _ l0_0 t409 _ ?side1 ?side2 A5.out).mono ?_
         (case side1 => repeat (first | exact (zX HR0_0.out HB.out) | (with_reducible refine zF ?_ _) | (with_reducible refine zG ?_ _) | (with_reducible refine zH ?_)))
         (case side2 => exact HC0_0.out)
         rintro e w15 ⟨v410, rfl, ho0, hb⟩
         refine ⟨_, rfl, ?_⟩
         have n0_ := zM (Kd.R_elder' (by (with_reducible repeat (first | apply zI | apply zJ | apply zK)); exact HO408.out) (Kd.R_base ho0) hb)
         have n1_ := zM (zf (Kd.R_new' ho0 (Kd.R_lt (by (with_reducible repeat (first | apply zI | apply zJ | apply zK)); exact HO408.out))) (zR zb))
         have n2_ := zM (z7 (g := gb404) (o := .cells #[.slice A0_0 l0_0.length c0_0, .int .i64 a0_1, .int .i64 a0_2, .int .i64 a0_3] 47 (0, 0)) zk hb)
         have n3_ := zM (z7 (g := gb412) (o := .cells #[.slice none 0 0] 24 (0, 0)) zk hb)
         have n4_ := zM (zQ zb hb)
         clear HO408
         clear BK404
         clear BK412
         clear HB
         have HO408 := n0_
         have HO411 := n1_
         have BK404 := n2_
         have BK412 := n3_
         have HB := n4_
         clear n0_ n1_ n2_ n3_ n4_
         (try clear hb)
         (try clear hb2)
         (try clear hk)
         (try clear hi)
         (try clear ho0)
         refine hK.out _ _ ⟨(z5 BK404.out 0).trans rfl, (z5 BK404.out 1).trans rfl, (z5 BK404.out 2).trans rfl, (z5 BK404.out 3).trans rfl⟩ (fun hHeld => ?_)
         clear hK K
         refine norm_ (a' := ?_) ?_ ?_
         rotate_left
         ·show Act.put _ (some 12) _ = _
          simp only [Act.put, List.setIfInBounds_toArray, List.set_cons_zero, List.set_cons_succ, i64_w, i32_w]
          rfl
         exact norm_ (by first | (simp only [putAll, Act.put, List.setIfInBounds_toArray, List.set_cons_zero, List.set_cons_succ]; done) | (simp only [putAll, Act.put, List.setIfInBounds_toArray, List.set_cons_zero, List.set_cons_succ]; rfl)) (hJ1_4_5 (v407, v410, gb412) _ ⟨hHeld, (by (with_reducible repeat (first | apply zI | apply zJ | apply zK)); exact z1 HO408.out (fun _ hk => hk.2)), (by (with_reducible repeat (first | apply zI | apply zJ | apply zK)); exact z1 HO411.out (fun _ hk => hk.2)), zk, zk, GW412.out, GE412.out, NB404_412.out, NB412_404.out, zb⟩)
        ·skip
         refine box_step ?hg (N := 4) ?hd (cs := #[.slice none 0 0]) (t := 24) ?hr ?_; (case hd => rfl); (case hg => rfl); (case hr => first | (go_simp; done) | (go_simp; rfl))
         intro gb413 hg w15 hbox hb
         have n0_ := zM (ze (by (with_reducible repeat (first | apply zI | apply zJ | apply zK)); exact HO408.out) hb)
         have n1_ := zM (z7 (g := gb404) (o := .cells #[.slice A0_0 l0_0.length c0_0, .int .i64 a0_1, .int .i64 a0_2, .int .i64 a0_3] 47 (0, 0)) zk hb)
         have n2_ := zM (z7 (g := gb412) (o := .cells #[.slice none 0 0] 24 (0, 0)) zk hb)
         have n3_ := zM (zQ zb hb)
         have n4_ := zM (hbox)
         have n5_ := zM ((by rw [hg]; exact (zR zb) : w.heap.size ≤ gb413))
         have n6_ := zM ((by rw [hg]; exact (zR zb) : w.heap.size ≤ gb413))
         have n7_ := zM ((by rw [hg]; exact Nat.ne_of_lt (blk_lt (g := gb404) (o := .cells #[.slice A0_0 l0_0.length c0_0, .int .i64 a0_1, .int .i64 a0_2, .int .i64 a0_3] 47 (0, 0)) zk) : gb404 ≠ gb413))
         have n8_ := zM ((by rw [hg]; exact Nat.ne_of_gt (blk_lt (g := gb404) (o := .cells #[.slice A0_0 l0_0.length c0_0, .int .i64 a0_1, .int .i64 a0_2, .int .i64 a0_3] 47 (0, 0)) zk) : gb413 ≠ gb404))
         have n9_ := zM ((by rw [hg]; exact Nat.ne_of_lt (blk_lt (g := gb412) (o := .cells #[.slice none 0 0] 24 (0, 0)) zk) : gb412 ≠ gb413))
         have n10_ := zM ((by rw [hg]; exact Nat.ne_of_gt (blk_lt (g := gb412) (o := .cells #[.slice none 0 0] 24 (0, 0)) zk) : gb413 ≠ gb412))
         clear HO408
         clear BK404
         clear BK412
         clear HB
         have HO408 := n0_
         have BK404 := n1_
         have BK412 := n2_
         have HB := n3_
         have BK413 := n4_
         have GW413 := n5_
         have GE413 := n6_
         have NB404_413 := n7_
         have NB413_404 := n8_
         have NB412_413 := n9_
         have NB413_412 := n10_
         clear n0_ n1_ n2_ n3_ n4_ n5_ n6_ n7_ n8_ n9_ n10_
         clear hb hbox hg
         refine hK.out _ _ ⟨(z5 BK404.out 0).trans rfl, (z5 BK404.out 1).trans rfl, (z5 BK404.out 2).trans rfl, (z5 BK404.out 3).trans rfl⟩ (fun hHeld => ?_)
         clear hK K
         refine norm_ (a' := ?_) ?_ ?_
         rotate_left
         ·show Act.put _ (some 4) _ = _
          simp only [Act.put, List.setIfInBounds_toArray, List.set_cons_zero, List.set_cons_succ, i64_w, i32_w]
          rfl
         exact norm_ (by first | (simp only [putAll, Act.put, List.setIfInBounds_toArray, List.set_cons_zero, List.set_cons_succ]; done) | (simp only [putAll, Act.put, List.setIfInBounds_toArray, List.set_cons_zero, List.set_cons_succ]; rfl)) (hJ1_5_6 (v407, gb412, gb413) _ ⟨hHeld, (by (with_reducible repeat (first | apply zI | apply zJ | apply zK)); exact HO408.out), zk, zk, zk, GW412.out, GE412.out, NB404_412.out, NB412_404.out, NB413_412.out, NB412_413.out, GW413.out, GE413.out, NB404_413.out, NB413_404.out, zb⟩)
      ·skip
       rintro ⟨v407, v410⟩ w14 ⟨hS_, h0_, h1_, h2_, h3_⟩
       have n0_ : Aside0 (Kd.R (Kd.int .i64) 3 w14 w.heap.size (fun k_ => some k_ ≠ (v410 : Value).ownBlock) v407 t406) := ⟨h0_⟩
       have n1_ : Aside0 (Kd.R (Kd.int .i64) 3 w14 w.heap.size (fun k_ => some k_ ≠ (v407 : Value).ownBlock) v410 t409) := ⟨h1_⟩
       have n2_ : Aside0 (w14.heap[gb404]? = some (.cells #[.slice A0_0 l0_0.length c0_0, .int .i64 a0_1, .int .i64 a0_2, .int .i64 a0_3] 47 (0, 0))) := ⟨h2_⟩
       have n3_ : Aside0 (Below w.heap.size w w14) := ⟨h3_⟩
       clear BK404
       clear HB
       clear h0_ h1_ h2_ h3_
       have HO408 := n0_
       have HO411 := n1_
       have BK404 := n2_
       have HB := n3_
       clear n0_ n1_ n2_ n3_
       have hHeld : w14.cell? ⟨gb404, 0, none⟩ = some (.slice A0_0 l0_0.length c0_0) ∧ w14.cell? ⟨gb404, 1, none⟩ = some (.int .i64 a0_1) ∧ w14.cell? ⟨gb404, 2, none⟩ = some (.int .i64 a0_2) ∧ w14.cell? ⟨gb404, 3, none⟩ = some (.int .i64 a0_3) := hS_
       refine norm_ (a' := ?_) ?_ ?_
       rotate_left
       ·simp only [putAll, Act.put, List.setIfInBounds_toArray, List.set_cons_zero, List.set_cons_succ]
        rfl
       refine two_ (i := 5) (j := 6) (Ni := some 3) (Nj := some 4) #[true, true, true, true, true, true, false, false, false] #[true, true, true, true, true, false, true, false, false] rfl rfl rfl rfl (two_of HT_.out (by kernel_rfl)) (by decide) (by decide) (fun K hK => ?_) (fun K hK => ?_)
       ·skip
        refine box_step ?hg (N := 3) ?hd (cs := #[.slice none 0 0]) (t := 24) ?hr ?_; (case hd => rfl); (case hg => rfl); (case hr => first | (go_simp; done) | (go_simp; rfl))
        intro gb412 hg w15 hbox hb
        have n0_ := zM (ze (by (with_reducible repeat (first | apply zI | apply zJ | apply zK)); exact HO408.out) hb)
        have n1_ := zM (ze (by (with_reducible repeat (first | apply zI | apply zJ | apply zK)); exact HO411.out) hb)
        have n2_ := zM (z7 (g := gb404) (o := .cells #[.slice A0_0 l0_0.length c0_0, .int .i64 a0_1, .int .i64 a0_2, .int .i64 a0_3] 47 (0, 0)) zk hb)
        have n3_ := zM (zQ zb hb)
        have n4_ := zM (hbox)
        have n5_ := zM ((by rw [hg]; exact (zR zb) : w.heap.size ≤ gb412))
        have n6_ := zM ((by rw [hg]; exact (zR zb) : w.heap.size ≤ gb412))
        have n7_ := zM ((by rw [hg]; exact Nat.ne_of_lt (blk_lt (g := gb404) (o := .cells #[.slice A0_0 l0_0.length c0_0, .int .i64 a0_1, .int .i64 a0_2, .int .i64 a0_3] 47 (0, 0)) zk) : gb404 ≠ gb412))
        have n8_ := zM ((by rw [hg]; exact Nat.ne_of_gt (blk_lt (g := gb404) (o := .cells #[.slice A0_0 l0_0.length c0_0, .int .i64 a0_1, .int .i64 a0_2, .int .i64 a0_3] 47 (0, 0)) zk) : gb412 ≠ gb404))
        clear HO408
        clear HO411
        clear BK404
        clear HB
        have HO408 := n0_
        have HO411 := n1_
        have BK404 := n2_
        have HB := n3_
        have BK412 := n4_
        have GW412 := n5_
        have GE412 := n6_
        have NB404_412 := n7_
        have NB412_404 := n8_
        clear n0_ n1_ n2_ n3_ n4_ n5_ n6_ n7_ n8_
        clear hb hbox hg
        refine hK.out _ _ ⟨(z5 BK404.out 0).trans rfl, (z5 BK404.out 1).trans rfl, (z5 BK404.out 2).trans rfl, (z5 BK404.out 3).trans rfl⟩ (fun hHeld => ?_)
        clear hK K
        refine norm_ (a' := ?_) ?_ ?_
        rotate_left
        ·show Act.put _ (some 3) _ = _
         simp only [Act.put, List.setIfInBounds_toArray, List.set_cons_zero, List.set_cons_succ, i64_w, i32_w]
         rfl
        exact norm_ (by first | (simp only [putAll, Act.put, List.setIfInBounds_toArray, List.set_cons_zero, List.set_cons_succ]; done) | (simp only [putAll, Act.put, List.setIfInBounds_toArray, List.set_cons_zero, List.set_cons_succ]; rfl)) (hJ1_4_5 (v407, v410, gb412) _ ⟨hHeld, (by (with_reducible repeat (first | apply zI | apply zJ | apply zK)); exact HO408.out), (by (with_reducible repeat (first | apply zI | apply zJ | apply zK)); exact HO411.out), zk, zk, GW412.out, GE412.out, NB404_412.out, NB412_404.out, zb⟩)
       ·skip
        refine box_step ?hg (N := 4) ?hd (cs := #[.slice none 0 0]) (t := 24) ?hr ?_; (case hd => rfl); (case hg => rfl); (case hr => first | (go_simp; done) | (go_simp; rfl))
        intro gb413 hg w15 hbox hb
        have n0_ := zM (ze (by (with_reducible repeat (first | apply zI | apply zJ | apply zK)); exact HO408.out) hb)
        have n1_ := zM (ze (by (with_reducible repeat (first | apply zI | apply zJ | apply zK)); exact HO411.out) hb)
        have n2_ := zM (z7 (g := gb404) (o := .cells #[.slice A0_0 l0_0.length c0_0, .int .i64 a0_1, .int .i64 a0_2, .int .i64 a0_3] 47 (0, 0)) zk hb)
        have n3_ := zM (zQ zb hb)
        have n4_ := zM (hbox)
        have n5_ := zM ((by rw [hg]; exact (zR zb) : w.heap.size ≤ gb413))
        have n6_ := zM ((by rw [hg]; exact (zR zb) : w.heap.size ≤ gb413))
        have n7_ := zM ((by rw [hg]; exact Nat.ne_of_lt (blk_lt (g := gb404) (o := .cells #[.slice A0_0 l0_0.length c0_0, .int .i64 a0_1, .int .i64 a0_2, .int .i64 a0_3] 47 (0, 0)) zk) : gb404 ≠ gb413))
        have n8_ := zM ((by rw [hg]; exact Nat.ne_of_gt (blk_lt (g := gb404) (o := .cells #[.slice A0_0 l0_0.length c0_0, .int .i64 a0_1, .int .i64 a0_2, .int .i64 a0_3] 47 (0, 0)) zk) : gb413 ≠ gb404))
        clear HO408
        clear HO411
        clear BK404
        clear HB
        have HO408 := n0_
        have HO411 := n1_
        have BK404 := n2_
        have HB := n3_
        have BK413 := n4_
        have GW413 := n5_
        have GE413 := n6_
        have NB404_413 := n7_
        have NB413_404 := n8_
        clear n0_ n1_ n2_ n3_ n4_ n5_ n6_ n7_ n8_
        clear hb hbox hg
        refine hK.out _ _ ⟨(z5 BK404.out 0).trans rfl, (z5 BK404.out 1).trans rfl, (z5 BK404.out 2).trans rfl, (z5 BK404.out 3).trans rfl⟩ (fun hHeld => ?_)
        clear hK K
        refine norm_ (a' := ?_) ?_ ?_
        rotate_left
        ·show Act.put _ (some 4) _ = _
         simp only [Act.put, List.setIfInBounds_toArray, List.set_cons_zero, List.set_cons_succ, i64_w, i32_w]
         rfl
        exact norm_ (by first | (simp only [putAll, Act.put, List.setIfInBounds_toArray, List.set_cons_zero, List.set_cons_succ]; done) | (simp only [putAll, Act.put, List.setIfInBounds_toArray, List.set_cons_zero, List.set_cons_succ]; rfl)) (hJ1_4_6 (v407, v410, gb413) _ ⟨hHeld, (by (with_reducible repeat (first | apply zI | apply zJ | apply zK)); exact HO408.out), (by (with_reducible repeat (first | apply zI | apply zJ | apply zK)); exact HO411.out), zk, zk, GW413.out, GE413.out, NB404_413.out, NB413_404.out, zb⟩)
     ·skip
      rintro ⟨v407, gb412, gb413⟩ w15 ⟨hS_, h0_, h1_, h2_, h3_, h4_, h5_, h6_, h7_, h8_, h9_, h10_, h11_, h12_, h13_, h14_⟩
      have n0_ : Aside0 (Kd.R (Kd.int .i64) 3 w15 w.heap.size (fun _ => True) v407 t406) := ⟨h0_⟩
      have n1_ : Aside0 (w15.heap[gb404]? = some (.cells #[.slice A0_0 l0_0.length c0_0, .int .i64 a0_1, .int .i64 a0_2, .int .i64 a0_3] 47 (0, 0))) := ⟨h1_⟩
      have n2_ : Aside0 (w15.heap[gb412]? = some (.cells #[.slice none 0 0] 24 (0, 0))) := ⟨h2_⟩
      have n3_ : Aside0 (w15.heap[gb413]? = some (.cells #[.slice none 0 0] 24 (0, 0))) := ⟨h3_⟩
      have n4_ : Aside0 (w.heap.size ≤ gb412) := ⟨h4_⟩
      have n5_ : Aside0 (w.heap.size ≤ gb412) := ⟨h5_⟩
      have n6_ : Aside0 (gb404 ≠ gb412) := ⟨h6_⟩
      have n7_ : Aside0 (gb412 ≠ gb404) := ⟨h7_⟩
      have n8_ : Aside0 (gb413 ≠ gb412) := ⟨h8_⟩
      have n9_ : Aside0 (gb412 ≠ gb413) := ⟨h9_⟩
      have n10_ : Aside0 (w.heap.size ≤ gb413) := ⟨h10_⟩
      have n11_ : Aside0 (w.heap.size ≤ gb413) := ⟨h11_⟩
      have n12_ : Aside0 (gb404 ≠ gb413) := ⟨h12_⟩
      have n13_ : Aside0 (gb413 ≠ gb404) := ⟨h13_⟩
      have n14_ : Aside0 (Below w.heap.size w w15) := ⟨h14_⟩
      clear BK404
      clear HB
      clear h0_ h1_ h2_ h3_ h4_ h5_ h6_ h7_ h8_ h9_ h10_ h11_ h12_ h13_ h14_
      have HO408 := n0_
      have BK404 := n1_
      have BK412 := n2_
      have BK413 := n3_
      have GW412 := n4_
      have GE412 := n5_
      have NB404_412 := n6_
      have NB412_404 := n7_
      have NB413_412 := n8_
      have NB412_413 := n9_
      have GW413 := n10_
      have GE413 := n11_
      have NB404_413 := n12_
      have NB413_404 := n13_
      have HB := n14_
      clear n0_ n1_ n2_ n3_ n4_ n5_ n6_ n7_ n8_ n9_ n10_ n11_ n12_ n13_ n14_
      have hHeld : w15.cell? ⟨gb404, 0, none⟩ = some (.slice A0_0 l0_0.length c0_0) ∧ w15.cell? ⟨gb404, 1, none⟩ = some (.int .i64 a0_1) ∧ w15.cell? ⟨gb404, 2, none⟩ = some (.int .i64 a0_2) ∧ w15.cell? ⟨gb404, 3, none⟩ = some (.int .i64 a0_3) := hS_
      refine norm_ (a' := ?_) ?_ ?_
      rotate_left
      ·simp only [putAll, Act.put, List.setIfInBounds_toArray, List.set_cons_zero, List.set_cons_succ]
       rfl
      refine one_ (i := 4) (N := some 12) #[true, true, true, true, true, true, true, false, false] rfl rfl (one_of HT_.out (by kernel_rfl)) (by decide) (fun K hK => ?_)
      refine goes_ Try.func22 (by kernel_rfl) rfl #[.slice A0_0 l0_0.length c0_0] (by rfl) rfl rfl zg ?_
      with_reducible refine (impl_MustWrite.calls k _ _ l0_0 t409 _ ?side1 ?side2 A5.out).mono ?_
      (case side1 => repeat (first | exact (zX HR0_0.out HB.out) | (with_reducible refine zF ?_ _) | (with_reducible refine zG ?_ _) | (with_reducible refine zH ?_)))
      (case side2 => exact HC0_0.out)
      rintro e w16 ⟨v410, rfl, ho0, hb⟩
      refine ⟨_, rfl, ?_⟩
      have n0_ := zM (Kd.R_elder' (by (with_reducible repeat (first | apply zI | apply zJ | apply zK)); exact HO408.out) (Kd.R_base ho0) hb)
      have n1_ := zM (zf (Kd.R_new' ho0 (Kd.R_lt (by (with_reducible repeat (first | apply zI | apply zJ | apply zK)); exact HO408.out))) (zR zb))
      have n2_ := zM (z7 (g := gb404) (o := .cells #[.slice A0_0 l0_0.length c0_0, .int .i64 a0_1, .int .i64 a0_2, .int .i64 a0_3] 47 (0, 0)) zk hb)
      have n3_ := zM (z7 (g := gb412) (o := .cells #[.slice none 0 0] 24 (0, 0)) zk hb)
      have n4_ := zM (z7 (g := gb413) (o := .cells #[.slice none 0 0] 24 (0, 0)) zk hb)
      have n5_ := zM (zQ zb hb)
      clear HO408
      clear BK404
      clear BK412
      clear BK413
      clear HB
      have HO408 := n0_
      have HO411 := n1_
      have BK404 := n2_
      have BK412 := n3_
      have BK413 := n4_
      have HB := n5_
      clear n0_ n1_ n2_ n3_ n4_ n5_
      (try clear hb)
      (try clear hb2)
      (try clear hk)
      (try clear hi)
      (try clear ho0)
      refine hK.out _ _ ⟨(z5 BK404.out 0).trans rfl, (z5 BK404.out 1).trans rfl, (z5 BK404.out 2).trans rfl, (z5 BK404.out 3).trans rfl⟩ (fun hHeld => ?_)
      clear hK K
      refine norm_ (a' := ?_) ?_ ?_
      rotate_left
      ·show Act.put _ (some 12) _ = _
       simp only [Act.put, List.setIfInBounds_toArray, List.set_cons_zero, List.set_cons_succ, i64_w, i32_w]
       rfl
      exact norm_ (by first | (simp only [putAll, Act.put, List.setIfInBounds_toArray, List.set_cons_zero, List.set_cons_succ]; done) | (simp only [putAll, Act.put, List.setIfInBounds_toArray, List.set_cons_zero, List.set_cons_succ]; rfl)) (hJ1_4_5_6 (v407, v410, gb412, gb413) _ ⟨hHeld, (by (with_reducible repeat (first | apply zI | apply zJ | apply zK)); exact z1 HO408.out (fun _ hk => hk.2)), (by (with_reducible repeat (first | apply zI | apply zJ | apply zK)); exact z1 HO411.out (fun _ hk => hk.2)), zk, zk, zk, GW412.out, GE412.out, NB404_412.out, NB412_404.out, NB413_412.out, NB412_413.out, GW413.out, GE413.out, NB404_413.out, NB413_404.out, zb⟩)
    ·skip
     rintro ⟨v407, v410, gb413⟩ w15 ⟨hS_, h0_, h1_, h2_, h3_, h4_, h5_, h6_, h7_, h8_⟩
     have n0_ : Aside0 (Kd.R (Kd.int .i64) 3 w15 w.heap.size (fun k_ => some k_ ≠ (v410 : Value).ownBlock) v407 t406) := ⟨h0_⟩
     have n1_ : Aside0 (Kd.R (Kd.int .i64) 3 w15 w.heap.size (fun k_ => some k_ ≠ (v407 : Value).ownBlock) v410 t409) := ⟨h1_⟩
     have n2_ : Aside0 (w15.heap[gb404]? = some (.cells #[.slice A0_0 l0_0.length c0_0, .int .i64 a0_1, .int .i64 a0_2, .int .i64 a0_3] 47 (0, 0))) := ⟨h2_⟩
     have n3_ : Aside0 (w15.heap[gb413]? = some (.cells #[.slice none 0 0] 24 (0, 0))) := ⟨h3_⟩
     have n4_ : Aside0 (w.heap.size ≤ gb413) := ⟨h4_⟩
     have n5_ : Aside0 (w.heap.size ≤ gb413) := ⟨h5_⟩
     have n6_ : Aside0 (gb404 ≠ gb413) := ⟨h6_⟩
     have n7_ : Aside0 (gb413 ≠ gb404) := ⟨h7_⟩
     have n8_ : Aside0 (Below w.heap.size w w15) := ⟨h8_⟩
     clear BK404
     clear HB
     clear h0_ h1_ h2_ h3_ h4_ h5_ h6_ h7_ h8_
     have HO408 := n0_
     have HO411 := n1_
     have BK404 := n2_
     have BK413 := n3_
     have GW413 := n4_
     have GE413 := n5_
     have NB404_413 := n6_
     have NB413_404 := n7_
     have HB := n8_
     clear n0_ n1_ n2_ n3_ n4_ n5_ n6_ n7_ n8_
     have hHeld : w15.cell? ⟨gb404, 0, none⟩ = some (.slice A0_0 l0_0.length c0_0) ∧ w15.cell? ⟨gb404, 1, none⟩ = some (.int .i64 a0_1) ∧ w15.cell? ⟨gb404, 2, none⟩ = some (.int .i64 a0_2) ∧ w15.cell? ⟨gb404, 3, none⟩ = some (.int .i64 a0_3) := hS_
     refine norm_ (a' := ?_) ?_ ?_
     rotate_left
     ·simp only [putAll, Act.put, List.setIfInBounds_toArray, List.set_cons_zero, List.set_cons_succ]
      rfl
     refine one_ (i := 5) (N := some 3) #[true, true, true, true, true, true, true, false, false] rfl rfl (one_of HT_.out (by kernel_rfl)) (by decide) (fun K hK => ?_)
     refine box_step ?hg (N := 3) ?hd (cs := #[.slice none 0 0]) (t := 24) ?hr ?_; (case hd => rfl); (case hg => rfl); (case hr => first | (go_simp; done) | (go_simp; rfl))
     intro gb412 hg w16 hbox hb
     have n0_ := zM (ze (by (with_reducible repeat (first | apply zI | apply zJ | apply zK)); exact HO408.out) hb)
     have n1_ := zM (ze (by (with_reducible repeat (first | apply zI | apply zJ | apply zK)); exact HO411.out) hb)
     have n2_ := zM (z7 (g := gb404) (o := .cells #[.slice A0_0 l0_0.length c0_0, .int .i64 a0_1, .int .i64 a0_2, .int .i64 a0_3] 47 (0, 0)) zk hb)
     have n3_ := zM (z7 (g := gb413) (o := .cells #[.slice none 0 0] 24 (0, 0)) zk hb)
     have n4_ := zM (zQ zb hb)
     have n5_ := zM (hbox)
     have n6_ := zM ((by rw [hg]; exact (zR zb) : w.heap.size ≤ gb412))
     have n7_ := zM ((by rw [hg]; exact (zR zb) : w.heap.size ≤ gb412))
     have n8_ := zM ((by rw [hg]; exact Nat.ne_of_lt (blk_lt (g := gb404) (o := .cells #[.slice A0_0 l0_0.length c0_0, .int .i64 a0_1, .int .i64 a0_2, .int .i64 a0_3] 47 (0, 0)) zk) : gb404 ≠ gb412))
     have n9_ := zM ((by rw [hg]; exact Nat.ne_of_gt (blk_lt (g := gb404) (o := .cells #[.slice A0_0 l0_0.length c0_0, .int .i64 a0_1, .int .i64 a0_2, .int .i64 a0_3] 47 (0, 0)) zk) : gb412 ≠ gb404))
     have n10_ := zM ((by rw [hg]; exact Nat.ne_of_lt (blk_lt (g := gb413) (o := .cells #[.slice none 0 0] 24 (0, 0)) zk) : gb413 ≠ gb412))
     have n11_ := zM ((by rw [hg]; exact Nat.ne_of_gt (blk_lt (g := gb413) (o := .cells #[.slice none 0 0] 24 (0, 0)) zk) : gb412 ≠ gb413))
     clear HO408
     clear HO411
     clear BK404
     clear BK413
     clear HB
     have HO408 := n0_
     have HO411 := n1_
     have BK404 := n2_
     have BK413 := n3_
     have HB := n4_
     have BK412 := n5_
     have GW412 := n6_
     have GE412 := n7_
     have NB404_412 := n8_
     have NB412_404 := n9_
     have NB413_412 := n10_
     have NB412_413 := n11_
     clear n0_ n1_ n2_ n3_ n4_ n5_ n6_ n7_ n8_ n9_ n10_ n11_
     clear hb hbox hg
     refine hK.out _ _ ⟨(z5 BK404.out 0).trans rfl, (z5 BK404.out 1).trans rfl, (z5 BK404.out 2).trans rfl, (z5 BK404.out 3).trans rfl⟩ (fun hHeld => ?_)
     clear hK K
     refine norm_ (a' := ?_) ?_ ?_
     rotate_left
     ·show Act.put _ (some 3) _ = _
      simp only [Act.put, List.setIfInBounds_toArray, List.set_cons_zero, List.set_cons_succ, i64_w, i32_w]
      rfl
     exact norm_ (by first | (simp only [putAll, Act.put, List.setIfInBounds_toArray, List.set_cons_zero, List.set_cons_succ]; done) | (simp only [putAll, Act.put, List.setIfInBounds_toArray, List.set_cons_zero, List.set_cons_succ]; rfl)) (hJ1_4_5_6 (v407, v410, gb412, gb413) _ ⟨hHeld, (by (with_reducible repeat (first | apply zI | apply zJ | apply zK)); exact HO408.out), (by (with_reducible repeat (first | apply zI | apply zJ | apply zK)); exact HO411.out), zk, zk, zk, GW412.out, GE412.out, NB404_412.out, NB412_404.out, NB413_412.out, NB412_413.out, GW413.out, GE413.out, NB404_413.out, NB413_404.out, zb⟩)
   ·skip
    rintro ⟨v407, v410, gb412⟩ w15 ⟨hS_, h0_, h1_, h2_, h3_, h4_, h5_, h6_, h7_, h8_⟩
    have n0_ : Aside0 (Kd.R (Kd.int .i64) 3 w15 w.heap.size (fun k_ => some k_ ≠ (v410 : Value).ownBlock) v407 t406) := ⟨h0_⟩
    have n1_ : Aside0 (Kd.R (Kd.int .i64) 3 w15 w.heap.size (fun k_ => some k_ ≠ (v407 : Value).ownBlock) v410 t409) := ⟨h1_⟩
    have n2_ : Aside0 (w15.heap[gb404]? = some (.cells #[.slice A0_0 l0_0.length c0_0, .int .i64 a0_1, .int .i64 a0_2, .int .i64 a0_3] 47 (0, 0))) := ⟨h2_⟩
    have n3_ : Aside0 (w15.heap[gb412]? = some (.cells #[.slice none 0 0] 24 (0, 0))) := ⟨h3_⟩
    have n4_ : Aside0 (w.heap.size ≤ gb412) := ⟨h4_⟩
    have n5_ : Aside0 (w.heap.size ≤ gb412) := ⟨h5_⟩
    have n6_ : Aside0 (gb404 ≠ gb412) := ⟨h6_⟩
    have n7_ : Aside0 (gb412 ≠ gb404) := ⟨h7_⟩
    have n8_ : Aside0 (Below w.heap.size w w15) := ⟨h8_⟩
    clear BK404
    clear HB
    clear h0_ h1_ h2_ h3_ h4_ h5_ h6_ h7_ h8_
    have HO408 := n0_
    have HO411 := n1_
    have BK404 := n2_
    have BK412 := n3_
    have GW412 := n4_
    have GE412 := n5_
    have NB404_412 := n6_
    have NB412_404 := n7_
    have HB := n8_
    clear n0_ n1_ n2_ n3_ n4_ n5_ n6_ n7_ n8_
    have hHeld : w15.cell? ⟨gb404, 0, none⟩ = some (.slice A0_0 l0_0.length c0_0) ∧ w15.cell? ⟨gb404, 1, none⟩ = some (.int .i64 a0_1) ∧ w15.cell? ⟨gb404, 2, none⟩ = some (.int .i64 a0_2) ∧ w15.cell? ⟨gb404, 3, none⟩ = some (.int .i64 a0_3) := hS_
    refine norm_ (a' := ?_) ?_ ?_
    rotate_left
    ·simp only [putAll, Act.put, List.setIfInBounds_toArray, List.set_cons_zero, List.set_cons_succ]
     rfl
    refine one_ (i := 6) (N := some 4) #[true, true, true, true, true, true, true, false, false] rfl rfl (one_of HT_.out (by kernel_rfl)) (by decide) (fun K hK => ?_)
    refine box_step ?hg (N := 4) ?hd (cs := #[.slice none 0 0]) (t := 24) ?hr ?_; (case hd => rfl); (case hg => rfl); (case hr => first | (go_simp; done) | (go_simp; rfl))
    intro gb413 hg w16 hbox hb
    have n0_ := zM (ze (by (with_reducible repeat (first | apply zI | apply zJ | apply zK)); exact HO408.out) hb)
    have n1_ := zM (ze (by (with_reducible repeat (first | apply zI | apply zJ | apply zK)); exact HO411.out) hb)
    have n2_ := zM (z7 (g := gb404) (o := .cells #[.slice A0_0 l0_0.length c0_0, .int .i64 a0_1, .int .i64 a0_2, .int .i64 a0_3] 47 (0, 0)) zk hb)
    have n3_ := zM (z7 (g := gb412) (o := .cells #[.slice none 0 0] 24 (0, 0)) zk hb)
    have n4_ := zM (zQ zb hb)
    have n5_ := zM (hbox)
    have n6_ := zM ((by rw [hg]; exact (zR zb) : w.heap.size ≤ gb413))
    have n7_ := zM ((by rw [hg]; exact (zR zb) : w.heap.size ≤ gb413))
    have n8_ := zM ((by rw [hg]; exact Nat.ne_of_lt (blk_lt (g := gb404) (o := .cells #[.slice A0_0 l0_0.length c0_0, .int .i64 a0_1, .int .i64 a0_2, .int .i64 a0_3] 47 (0, 0)) zk) : gb404 ≠ gb413))
    have n9_ := zM ((by rw [hg]; exact Nat.ne_of_gt (blk_lt (g := gb404) (o := .cells #[.slice A0_0 l0_0.length c0_0, .int .i64 a0_1, .int .i64 a0_2, .int .i64 a0_3] 47 (0, 0)) zk) : gb413 ≠ gb404))
    have n10_ := zM ((by rw [hg]; exact Nat.ne_of_lt (blk_lt (g := gb412) (o := .cells #[.slice none 0 0] 24 (0, 0)) zk) : gb412 ≠ gb413))
    have n11_ := zM ((by rw [hg]; exact Nat.ne_of_gt (blk_lt (g := gb412) (o := .cells #[.slice none 0 0] 24 (0, 0)) zk) : gb413 ≠ gb412))
    clear HO408
    clear HO411
    clear BK404
    clear BK412
    clear HB
    have HO408 := n0_
    have HO411 := n1_
    have BK404 := n2_
    have BK412 := n3_
    have HB := n4_
    have BK413 := n5_
    have GW413 := n6_
    have GE413 := n7_
    have NB404_413 := n8_
    have NB413_404 := n9_
    have NB412_413 := n10_
    have NB413_412 := n11_
    clear n0_ n1_ n2_ n3_ n4_ n5_ n6_ n7_ n8_ n9_ n10_ n11_
    clear hb hbox hg
    refine hK.out _ _ ⟨(z5 BK404.out 0).trans rfl, (z5 BK404.out 1).trans rfl, (z5 BK404.out 2).trans rfl, (z5 BK404.out 3).trans rfl⟩ (fun hHeld => ?_)
    clear hK K
    refine norm_ (a' := ?_) ?_ ?_
    rotate_left
    ·show Act.put _ (some 4) _ = _
     simp only [Act.put, List.setIfInBounds_toArray, List.set_cons_zero, List.set_cons_succ, i64_w, i32_w]
     rfl
    exact norm_ (by first | (simp only [putAll, Act.put, List.setIfInBounds_toArray, List.set_cons_zero, List.set_cons_succ]; done) | (simp only [putAll, Act.put, List.setIfInBounds_toArray, List.set_cons_zero, List.set_cons_succ]; rfl)) (hJ1_4_5_6 (v407, v410, gb412, gb413) _ ⟨hHeld, (by (with_reducible repeat (first | apply zI | apply zJ | apply zK)); exact HO408.out), (by (with_reducible repeat (first | apply zI | apply zJ | apply zK)); exact HO411.out), zk, zk, zk, GW412.out, GE412.out, NB404_412.out, NB412_404.out, NB413_412.out, NB412_413.out, GW413.out, GE413.out, NB404_413.out, NB413_404.out, zb⟩)
  rintro ⟨v407, v410, gb412, gb413⟩ w16 ⟨hS_, h0_, h1_, h2_, h3_, h4_, h5_, h6_, h7_, h8_, h9_, h10_, h11_, h12_, h13_, h14_, h15_⟩
  have n0_ : Aside0 (Kd.R (Kd.int .i64) 3 w16 w.heap.size (fun k_ => some k_ ≠ (v410 : Value).ownBlock) v407 t406) := ⟨h0_⟩
  have n1_ : Aside0 (Kd.R (Kd.int .i64) 3 w16 w.heap.size (fun k_ => some k_ ≠ (v407 : Value).ownBlock) v410 t409) := ⟨h1_⟩
  have n2_ : Aside0 (w16.heap[gb404]? = some (.cells #[.slice A0_0 l0_0.length c0_0, .int .i64 a0_1, .int .i64 a0_2, .int .i64 a0_3] 47 (0, 0))) := ⟨h2_⟩
  have n3_ : Aside0 (w16.heap[gb412]? = some (.cells #[.slice none 0 0] 24 (0, 0))) := ⟨h3_⟩
  have n4_ : Aside0 (w16.heap[gb413]? = some (.cells #[.slice none 0 0] 24 (0, 0))) := ⟨h4_⟩
  have n5_ : Aside0 (w.heap.size ≤ gb412) := ⟨h5_⟩
  have n6_ : Aside0 (w.heap.size ≤ gb412) := ⟨h6_⟩
  have n7_ : Aside0 (gb404 ≠ gb412) := ⟨h7_⟩
  have n8_ : Aside0 (gb412 ≠ gb404) := ⟨h8_⟩
  have n9_ : Aside0 (gb413 ≠ gb412) := ⟨h9_⟩
  have n10_ : Aside0 (gb412 ≠ gb413) := ⟨h10_⟩
  have n11_ : Aside0 (w.heap.size ≤ gb413) := ⟨h11_⟩
  have n12_ : Aside0 (w.heap.size ≤ gb413) := ⟨h12_⟩
  have n13_ : Aside0 (gb404 ≠ gb413) := ⟨h13_⟩
  have n14_ : Aside0 (gb413 ≠ gb404) := ⟨h14_⟩
  have n15_ : Aside0 (Below w.heap.size w w16) := ⟨h15_⟩
  clear BK404
  clear HB
  clear h0_ h1_ h2_ h3_ h4_ h5_ h6_ h7_ h8_ h9_ h10_ h11_ h12_ h13_ h14_ h15_
  have HO408 := n0_
  have HO411 := n1_
  have BK404 := n2_
  have BK412 := n3_
  have BK413 := n4_
  have GW412 := n5_
  have GE412 := n6_
  have NB404_412 := n7_
  have NB412_404 := n8_
  have NB413_412 := n9_
  have NB412_413 := n10_
  have GW413 := n11_
  have GE413 := n12_
  have NB404_413 := n13_
  have NB413_404 := n14_
  have HB := n15_
  clear n0_ n1_ n2_ n3_ n4_ n5_ n6_ n7_ n8_ n9_ n10_ n11_ n12_ n13_ n14_ n15_
  have hHeld : w16.cell? ⟨gb404, 0, none⟩ = some (.slice A0_0 l0_0.length c0_0) ∧ w16.cell? ⟨gb404, 1, none⟩ = some (.int .i64 a0_1) ∧ w16.cell? ⟨gb404, 2, none⟩ = some (.int .i64 a0_2) ∧ w16.cell? ⟨gb404, 3, none⟩ = some (.int .i64 a0_3) := hS_
  obtain ⟨Ao17, co17, eo17⟩ := Kd.R_slice HO408.out
  (first | subst eo17 | (injection eo17 with f1_ f2_ f3_; have f4_ := f1_.symm; have f5_ := f3_.symm; clear f1_ f2_ f3_; subst f4_; subst f5_))
  obtain ⟨Ao19, co19, eo19⟩ := Kd.R_slice HO411.out
  (first | subst eo19 | (injection eo19 with f1_ f2_ f3_; have f4_ := f1_.symm; have f5_ := f3_.symm; clear f1_ f2_ f3_; subst f4_; subst f5_))
  refine norm_ (a' := ?_) ?_ ?_
  rotate_left
  ·simp only [putAll, Act.put, List.setIfInBounds_toArray, List.set_cons_zero, List.set_cons_succ]
   rfl
  refine one_ (i := 7) (N := none) #[true, true, true, true, true, true, true, true, false] rfl rfl (one_of HT_.out (by kernel_rfl)) (by decide) (fun K hK => ?_)
  have hs18 : w16.cell? ⟨gb412, 0, none⟩ = some (.slice none 0 0) := (z5 BK412.out 0).trans rfl
  have hfs18 := z6 BK412.out 0
  have hns18_0 := NB404_412.out
  have hns18_2 := NB413_412.out
  have hms18_0 := NB412_404.out
  have hms18_2 := NB412_413.out
  refine skip_ (w1 := ?_) (by rfl) rfl ?_ ?_
  rotate_left
  ·go_simp
   rfl
  refine hK.out _ _ ⟨((cell_far (p := ⟨gb412, _, none⟩) NB404_412.out _).trans (hHeld.1)), ((cell_far (p := ⟨gb412, _, none⟩) NB404_412.out _).trans (hHeld.2.1)), ((cell_far (p := ⟨gb412, _, none⟩) NB404_412.out _).trans (hHeld.2.2.1)), ((cell_far (p := ⟨gb412, _, none⟩) NB404_412.out _).trans (hHeld.2.2.2))⟩ (fun hHeld => ?_)
  clear hK K
  refine one_ (i := 8) (N := none) #[true, true, true, true, true, true, true, true, true] rfl rfl (one_of HT_.out (by kernel_rfl)) (by decide) (fun K hK => ?_)
  have hs20 : w16.cell? ⟨gb413, 0, none⟩ = some (.slice none 0 0) := (z5 BK413.out 0).trans rfl
  have hfs20 := z6 BK413.out 0
  have hns20_0 := NB404_413.out
  have hns20_1 := NB412_413.out
  have hms20_0 := NB413_404.out
  have hms20_1 := NB413_412.out
  refine skip_ (w1 := ?_) (by rfl) rfl ?_ ?_
  rotate_left
  ·go_simp
   rfl
  refine hK.out _ _ ⟨((cell_far (p := ⟨gb413, _, none⟩) NB404_413.out _).trans (hHeld.1)), ((cell_far (p := ⟨gb413, _, none⟩) NB404_413.out _).trans (hHeld.2.1)), ((cell_far (p := ⟨gb413, _, none⟩) NB404_413.out _).trans (hHeld.2.2.1)), ((cell_far (p := ⟨gb413, _, none⟩) NB404_413.out _).trans (hHeld.2.2.2))⟩ (fun hHeld => ?_)
  clear hK K
  refine done_ (done_of HT_.out (by kernel_rfl)) ?_
  have hnb21 := NB404_412.out
  have hnc21 := NB412_404.out
  have hnb22 := NB404_413.out
  have hnc22 := NB413_404.out
  have hcz23_0 := (z5 BK404.out 0).trans rfl
  have hcz23_1 := (z5 BK404.out 1).trans rfl
  have hcz23_2 := (z5 BK404.out 2).trans rfl
  have hcz23_3 := (z5 BK404.out 3).trans rfl
  have hfz23_0 := z6 BK404.out 0
  have hfz23_1 := z6 BK404.out 1
  have hfz23_2 := z6 BK404.out 2
  have hfz23_3 := z6 BK404.out 3
  try go_wp2_with (first | ((with_reducible refine gate_callee (f := 15) rfl ?_); refine goesL_ (some 15) rfl rfl Try.func15 (by kernel_rfl) rfl #[.slice A0_0 l0_0.length c0_0] rfl zg ?_; (with_reducible refine (impl_MayWrite.calls k _ _ l0_0 t414 _ ?side1 ?side2 A6.out).mono ?_); (case side1 => exact zX HR0_0.out zb); (case side2 => exact HC0_0.out); rintro e w24 ⟨v415, rfl, ho0, hb⟩; refine ⟨_, rfl, ?_⟩; have n0_ := zM (Kd.R_elder' (by (with_reducible repeat (first | apply zI | apply zJ | apply zK)); exact (z1 (z1 (zc (p := ⟨gb413, 0, none⟩) (zc (p := ⟨gb412, 0, none⟩) (Kd.R_types (Kd.R_types HO408.out BK412.out (by decide)) BK413.out (by decide)) (fun _ hk => hk.1.2) (.slice Ao17 t406.length co17)) (fun _ hk => hk.2) (.slice Ao19 t409.length co19)) (fun _ h_ => h_.1)) (fun _ h_ => h_.1))) (Kd.R_base ho0) hb); have n1_ := zM (Kd.R_elder' (by (with_reducible repeat (first | apply zI | apply zJ | apply zK)); exact (z1 (z1 (zc (p := ⟨gb413, 0, none⟩) (zc (p := ⟨gb412, 0, none⟩) (Kd.R_types (Kd.R_types HO411.out BK412.out (by decide)) BK413.out (by decide)) (fun _ hk => hk.1.2) (.slice Ao17 t406.length co17)) (fun _ hk => hk.2) (.slice Ao19 t409.length co19)) (fun _ h_ => h_.1)) (fun _ h_ => h_.1))) (Kd.R_base ho0) hb); have n2_ := zM (zf (Kd.R_new' (Kd.R_new' ho0 (Kd.R_lt (by (with_reducible repeat (first | apply zI | apply zJ | apply zK)); exact (z1 (z1 (zc (p := ⟨gb413, 0, none⟩) (zc (p := ⟨gb412, 0, none⟩) (Kd.R_types (Kd.R_types HO408.out BK412.out (by decide)) BK413.out (by decide)) (fun _ hk => hk.1.2) (.slice Ao17 t406.length co17)) (fun _ hk => hk.2) (.slice Ao19 t409.length co19)) (fun _ h_ => h_.1)) (fun _ h_ => h_.1))))) (Kd.R_lt (by (with_reducible repeat (first | apply zI | apply zJ | apply zK)); exact (z1 (z1 (zc (p := ⟨gb413, 0, none⟩) (zc (p := ⟨gb412, 0, none⟩) (Kd.R_types (Kd.R_types HO411.out BK412.out (by decide)) BK413.out (by decide)) (fun _ hk => hk.1.2) (.slice Ao17 t406.length co17)) (fun _ hk => hk.2) (.slice Ao19 t409.length co19)) (fun _ h_ => h_.1)) (fun _ h_ => h_.1))))) (zR zb)); have n3_ := zM (z7 (g := gb404) (o := .cells #[.slice A0_0 l0_0.length c0_0, .int .i64 a0_1, .int .i64 a0_2, .int .i64 a0_3] 47 (0, 0)) (by (with_reducible repeat (first | refine zN ?_ _ | refine zO ?_ | refine zP ?_ _)); refine blk_far ?_ NB404_413.out _; (with_reducible repeat (first | refine zN ?_ _ | refine zO ?_ | refine zP ?_ _)); refine blk_far ?_ NB404_412.out _; (with_reducible repeat (first | refine zN ?_ _ | refine zO ?_ | refine zP ?_ _)); exact BK404.out) hb); have n4_ := zM (z7 (g := gb412) (o := .cells #[.slice Ao17 t406.length co17] 24 (0, 0)) (by (with_reducible repeat (first | refine zN ?_ _ | refine zO ?_ | refine zP ?_ _)); refine blk_far ?_ NB412_413.out _; (with_reducible repeat (first | refine zN ?_ _ | refine zO ?_ | refine zP ?_ _)); refine blk_put (cs := #[.slice none 0 0]) ?_ 0 _ rfl; (with_reducible repeat (first | refine zN ?_ _ | refine zO ?_ | refine zP ?_ _)); exact BK412.out) hb); have n5_ := zM (z7 (g := gb413) (o := .cells #[.slice Ao19 t409.length co19] 24 (0, 0)) (by (with_reducible repeat (first | refine zN ?_ _ | refine zO ?_ | refine zP ?_ _)); refine blk_put (cs := #[.slice none 0 0]) ?_ 0 _ rfl; (with_reducible repeat (first | refine zN ?_ _ | refine zO ?_ | refine zP ?_ _)); refine blk_far ?_ NB413_412.out _; (with_reducible repeat (first | refine zN ?_ _ | refine zO ?_ | refine zP ?_ _)); exact BK413.out) hb); have n6_ := zM (zQ zb hb); clear HO408; clear HO411; clear BK404; clear BK412; clear BK413; clear HB; have HO408 := n0_; have HO411 := n1_; have HO416 := n2_; have BK404 := n3_; have BK412 := n4_; have BK413 := n5_; have HB := n6_; clear n0_ n1_ n2_ n3_ n4_ n5_ n6_; (try clear hb); (try clear hk); (try clear ho0); have hnb25 := NB413_412.out; have hnc25 := NB412_413.out; have hcz26_0 := (z5 BK413.out 0).trans rfl; have hfz26_0 := z6 BK413.out 0; have hcz27_0 := (z5 BK412.out 0).trans rfl; have hfz27_0 := z6 BK412.out 0; obtain ⟨Ao28, co28, eo28⟩ := Kd.R_slice HO416.out; subst eo28) | ((with_reducible refine gate_callee (f := 69) rfl ?_); refine goesL_ (some 17) rfl rfl Try.func69 (by kernel_rfl) rfl #[.slice Ao28 t414.length co28, .func (.func 70) #[] #[.pointer (some ⟨gb412, 0, none⟩), .pointer (some ⟨gb413, 0, none⟩)]] rfl zg ?_; (with_reducible refine (slices_DeleteFunc_MustLog.calls (fun k_ => some k_ = (.slice Ao28 t414.length co28 : Value).ownBlock) (.slice Ao28 t414.length co28) t414 Ao17 co17 t406 Ao19 co19 t409 t417 w _ ?side1 ?side2 ?side3 ?side4 ?side5 ?side6 A7.out gb412 gb413 ?side7 ?side8).mono ?_); (case side7 => (with_reducible repeat (first | refine zN ?_ _ | refine zO ?_ | refine zP ?_ _)); exact BK412.out); (case side8 => (with_reducible repeat (first | refine zN ?_ _ | refine zO ?_ | refine zP ?_ _)); exact BK413.out); (case side1 => repeat (first | (with_reducible first | exact HB.out | apply z2 | apply z3 | apply z4 | refine zS ?_ GE404.out | refine zS ?_ GE412.out | refine zS ?_ GE413.out) | exact HB.out)); (case side2 => exact Kd.R_tight rfl HO416.out); (case side3 => exact Kd.C_kept_own (HO408.out) (fun k_ hk_ hs_ => (hk_.2) hs_)); (case side4 => exact (z9 HO408.out).2.1); (case side5 => exact Kd.C_kept_own (HO411.out) (fun k_ hk_ hs_ => (hk_.2) hs_)); (case side6 => exact (z9 HO411.out).2.1); rintro e w29 ⟨v418, rfl, ho0, hb, hkp⟩; refine ⟨_, rfl, ?_⟩; have n0_ := zM (blk_kept zk hkp (fun hs_ => (fun e_ => (Kd.R_ne HO416.out BK404.out (by decide)) e_) hs_)); have n1_ := zM (z1 (ok' := fun k_ => some k_ ≠ (.slice Ao19 t409.length co19 : Value).ownBlock ∧ some k_ ≠ (v418 : Value).ownBlock) (Kd.R_keptB (HO408.out) hkp (fun k_ hk_ hs_ => (hk_.2) hs_)) (fun k_ hk_ => ⟨hk_.1.1, fun e_ => Or.elim (ho0.1 k_ e_.symm) (fun hs_ => hk_.2.1 hs_) (fun hn_ => Nat.not_le.2 hk_.2.2 hn_)⟩)); have n2_ := zM (z1 (ok' := fun k_ => some k_ ≠ (.slice Ao17 t406.length co17 : Value).ownBlock ∧ some k_ ≠ (v418 : Value).ownBlock) (Kd.R_keptB (HO411.out) hkp (fun k_ hk_ hs_ => (hk_.2) hs_)) (fun k_ hk_ => ⟨hk_.1.1, fun e_ => Or.elim (ho0.1 k_ e_.symm) (fun hs_ => hk_.2.1 hs_) (fun hn_ => Nat.not_le.2 hk_.2.2 hn_)⟩)); have n3_ := zM (blk_kept zk hkp (fun hs_ => (fun e_ => (Kd.R_ne HO416.out BK412.out (by decide)) e_) hs_)); have n4_ := zM (blk_kept zk hkp (fun hs_ => (fun e_ => (Kd.R_ne HO416.out BK413.out (by decide)) e_) hs_)); have n5_ := zM (z1 (ok' := fun k_ => some k_ ≠ (.slice Ao17 t406.length co17 : Value).ownBlock ∧ some k_ ≠ (.slice Ao19 t409.length co19 : Value).ownBlock) ho0 (fun k_ hk_ => ⟨Or.elim hk_ (fun hs_ => fun e_ => (((HO408.out).1 k_ e_.symm).2) hs_) (fun hn_ => (Kd.fresh' (Kd.R_lt (by (with_reducible repeat (first | apply zI | apply zJ | apply zK)); exact HO408.out)) k_ hn_)), Or.elim hk_ (fun hs_ => fun e_ => (((HO411.out).1 k_ e_.symm).2) hs_) (fun hn_ => (Kd.fresh' (Kd.R_lt (by (with_reducible repeat (first | apply zI | apply zJ | apply zK)); exact HO411.out)) k_ hn_))⟩)); have n6_ := zM (hb); clear BK404; clear HO408; clear HO411; clear BK412; clear BK413; clear HB; clear HO416; have BK404 := n0_; have HO408 := n1_; have HO411 := n2_; have BK412 := n3_; have BK413 := n4_; have HO419 := n5_; have HB := n6_; clear n0_ n1_ n2_ n3_ n4_ n5_ n6_; (try clear hb); (try clear hkp); (try clear ho0)))
  go_ret
  exact ⟨_, by first | rfl | (simp [errW_none, errW_some] <;> rfl) | (simp [*, errW_none, errW_some] <;> rfl), by (with_reducible repeat (first | apply zI | apply zJ | apply zK)); exact z1 HO419.out (fun _ hk => trivial), zb⟩
 ·replace c3 := Bool.eq_false_iff.mpr c3
  subst c3
  have H1 : (some ([] : List Int)) = some r := by rw [if_neg (show ¬ (false = true) by decide)] at H; exact H
  clear H
  have H := H1
  clear H1
  obtain rfl := Option.some.inj H
  go_enter Try.func34, Try.ntmps34
  go_wp2_with (first | ((with_reducible refine gate_dst (N := 1) rfl ?_); refine box_event ?hg (N := 1) ?hd (cs := #[.slice A0_0 l0_0.length c0_0, .int .i64 a0_1, .int .i64 a0_2, .int .i64 a0_3]) (t := 47) ?hr ?_; (case hd => rfl); (case hg => rfl); (case hr => first | (go_simp; done) | (go_simp; rfl)); intro gb404 hg w30 hbox hb; have n0_ := zM (zQ zb hb); have n1_ := zM (hbox); have n2_ := zM ((by rw [hg]; exact (zR zb) : w.heap.size ≤ gb404)); have n3_ := zM ((by rw [hg]; exact (zR zb) : w.heap.size ≤ gb404)); clear HB; have HB := n0_; have BK404 := n1_; have GW404 := n2_; have GE404 := n3_; clear n0_ n1_ n2_ n3_; clear hb hbox hg; have hcz31_0 := (z5 BK404.out 0).trans rfl; have hcz31_1 := (z5 BK404.out 1).trans rfl; have hcz31_2 := (z5 BK404.out 2).trans rfl; have hcz31_3 := (z5 BK404.out 3).trans rfl; have hfz31_0 := z6 BK404.out 0; have hfz31_1 := z6 BK404.out 1; have hfz31_2 := z6 BK404.out 2; have hfz31_3 := z6 BK404.out 3) | ((with_reducible refine gate_callee (f := 63) rfl ?_); refine goesL_ (some 6) rfl rfl Try.func63 (by kernel_rfl) rfl #[.agg #[.slice A0_0 l0_0.length c0_0, .int .i64 a0_1, .int .i64 a0_2, .int .i64 a0_3]] rfl zg ?_; (with_reducible refine (impl_taskOk.calls k _ _ l0_0 a0_1 a0_2 a0_3 false _ ?side1 ?side2 A2.out).mono ?_); (case side1 => repeat (first | exact (zX HR0_0.out HB.out) | (with_reducible refine zF ?_ _) | (with_reducible refine zG ?_ _) | (with_reducible refine zH ?_))); (case side2 => exact HC0_0.out); rintro e w32 ⟨rfl, hb⟩; refine ⟨_, rfl, ?_⟩; have n0_ := zM (z7 (g := gb404) (o := .cells #[.slice A0_0 l0_0.length c0_0, .int .i64 a0_1, .int .i64 a0_2, .int .i64 a0_3] 47 (0, 0)) zk hb); have n1_ := zM (zQ zb hb); clear BK404; clear HB; have BK404 := n0_; have HB := n1_; clear n0_ n1_; (try clear hb)))
  go_ret
  exact ⟨_, by first | rfl | (simp [errW_none, errW_some] <;> rfl) | (simp [*, errW_none, errW_some] <;> rfl), by first | exact Kd.R_nil _ _ _ _ _ | exact Kd.N_nil _ _ _ _ _ | exact Kd.V_nil _ _ _ _ _ | exact Kd.Q_nil _ _ _ _ _ | exact Kd.S_nil _ _ _ _ _, zb⟩

end Go.Proofs.Ytlhcofkandeepaa.PFnExactLogRoom
