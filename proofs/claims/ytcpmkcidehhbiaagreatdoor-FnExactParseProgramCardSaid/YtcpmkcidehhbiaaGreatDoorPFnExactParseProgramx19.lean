/- Walks of the functions that a statement reaches, written by a program (the printing program, mended): no condition. -/
import Derived.Test.YtcpmkcidehhbiaaGreatDoorPFnExactParseProgramx0
import Derived.Test.YtcpmkcidehhbiaaGreatDoorPFnExactParseProgramx11
import Derived.Test.YtcpmkcidehhbiaaGreatDoorPFnExactParseProgramx18
namespace Go.Proofs.YtcpmkcidehhbiaaGreatDoor.PFnExactParseProgram
open Go.RowKit Go.Proofs.YtcpmkcidehhbiaaGreatDoorW.PrintWords Go.Proofs.YtcpmkcidehhbiaaGreatDoorW.PrintLast Go.Proofs.YtcpmkcidehhbiaaGreatDoorW.PrintMore
attribute [local go_sem] max2_int min2_int max_two min_two max_three min_three max_four min_four
set_option linter.unusedVariables false
set_option maxRecDepth 100000
set_option maxHeartbeats 8000000
set_option linter.unusedSimpArgs false
theorem laws_FnExactParseProgram.eqE (o a b : Int) (w : World) : Calls Tryz.prog 60 #[.agg #[.int .i64 o, .int .i64 a, .int .i64 b], .agg #[.int .i64 o, .int .i64 a, .int .i64 b]] w fun e w' => e = .returned (.bool true) ∧ Below w.heap.size w w' := by
 go_enter Tryz.func60, Tryz.ntmps60
 go_wp2
 go_ret
 exact ⟨rfl, z2 (z2 (Below.refl _ _) _) _⟩
theorem laws_FnExactParseProgram.eqS (c v n o a b : Int) (w : World) : Calls Tryz.prog 75 #[.agg #[.int .i64 c, .int .i64 v, .int .i64 n, .int .i64 o, .int .i64 a, .int .i64 b], .agg #[.int .i64 c, .int .i64 v, .int .i64 n, .int .i64 o, .int .i64 a, .int .i64 b]] w fun e w' => e = .returned (.bool true) ∧ Below w.heap.size w w' := by
 go_enter Tryz.func75, Tryz.ntmps75
 go_wp2_with (go_at_call 60; (with_reducible refine (laws_FnExactParseProgram.eqE _ _ _ _).mono ?_); rintro e w9 ⟨rfl, hb⟩; have HB := zM (zQ (w := w) (z2 (z2 (Below.refl _ _) _) _) hb); clear hb)
 go_ret
 exact ⟨rfl, HB.out⟩
def laws_FnExactParseProgram.T : Bool × List (List Nat × List Nat) := (true, [([], []), ([], []), ([0, 1], [0, 1]), ([2], [2]), ([], []), ([], []), ([4, 5], [4, 5]), ([6], [6]), ([3, 7], [3, 7]), ([8], [8])])
def laws_FnExactParseProgram.B : List Nat := [0, 0, 3, 7, 0, 0, 48, 112, 255, 511]
theorem laws_FnExactParseProgram.tab1 : rtab .any (opsOf Tryz.f59 6) = laws_FnExactParseProgram.T := by kernel_rfl
theorem laws_FnExactParseProgram.tab2 : rtab .any (opsOf Tryz.f18 6) = laws_FnExactParseProgram.T := by kernel_rfl
theorem laws_FnExactParseProgram.bits : waitsOk laws_FnExactParseProgram.T.2 laws_FnExactParseProgram.B = true := by kernel_rfl
theorem laws_FnExactParseProgram.eqSS (A0 : Option Addr) (c0 : Nat) (A1 : Option Addr) (c1 : Nat) (l : List S35) (w : World) (hr0 : Kd.C k35 w A0 l.length l) (hr1 : Kd.C k35 w A1 l.length l) : Calls Tryz.prog 59 #[.slice A0 l.length c0, .slice A1 l.length c1] w fun e w' => e = .returned (.bool true) ∧ Below w.heap.size w w' := by
 have HR0 := zM hr0
 have HR1 := zM hr1
 clear hr0 hr1
 have HB := zM (Below.refl w.heap.size w)
 go_enter Tryz.func59, Tryz.ntmps59
 go_wp2
 go_loopg [5] l.length (fun kq v5 wr => ∃ x : Int, v5 = .int .i64 x ∧ Aside0 (0 ≤ x ∧ x + kq = l.length) ∧ Aside0 (Below w.heap.size w wr))
 case atStart => exact ⟨0, rfl, ⟨by omega⟩, HB⟩
 case round =>
  clear HB
  obtain ⟨x, rfl, HX, HB⟩ := hrel
  by_cases hz : x < (l.length : Int)
  ·have hz0 : 0 ≤ x := HX.out.1
   have hxm : x ≤ 9223372036854775806 := by have h1 := HR0.out.2.1; omega
   obtain ⟨ad0, e0, hx0, hx1, hx2, hx3, hx4, hx5⟩ := at_T35 HR0.out x hz0 hz
   obtain ⟨ad1, e1, hy0, hy1, hy2, hy3, hy4, hy5⟩ := at_T35 HR1.out x hz0 hz
   cases e0
   cases e1
   generalize rd_T35 l x = t at hx0 hx1 hx2 hx3 hx4 hx5 hy0 hy1 hy2 hy3 hy4 hy5
   have hd := decide_eq_true hz
   have hd0 := decide_eq_true hz0
   replace hz := eq_true hz
   replace hz0 := eq_true hz0
   go_wp2
   refine start_ (n := 10) (S := fun w' => w'.cell? (ad0.add (x.toNat * 6)) = some (.int .i64 t.f0) ∧ w'.cell? ⟨(ad0.add (x.toNat * 6)).block, (ad0.add (x.toNat * 6)).off + 1, none⟩ = some (.int .i64 t.f1) ∧ w'.cell? ⟨(ad0.add (x.toNat * 6)).block, (ad0.add (x.toNat * 6)).off + 2, none⟩ = some (.int .i64 t.f2) ∧ w'.cell? ⟨(ad0.add (x.toNat * 6)).block, (ad0.add (x.toNat * 6)).off + 3, none⟩ = some (.int .i64 t.f3.f0) ∧ w'.cell? ⟨(ad0.add (x.toNat * 6)).block, (ad0.add (x.toNat * 6)).off + 4, none⟩ = some (.int .i64 t.f3.f1) ∧ w'.cell? ⟨(ad0.add (x.toNat * 6)).block, (ad0.add (x.toNat * 6)).off + 5, none⟩ = some (.int .i64 t.f3.f2) ∧ w'.cell? (ad1.add (x.toNat * 6)) = some (.int .i64 t.f0) ∧ w'.cell? ⟨(ad1.add (x.toNat * 6)).block, (ad1.add (x.toNat * 6)).off + 1, none⟩ = some (.int .i64 t.f1) ∧ w'.cell? ⟨(ad1.add (x.toNat * 6)).block, (ad1.add (x.toNat * 6)).off + 2, none⟩ = some (.int .i64 t.f2) ∧ w'.cell? ⟨(ad1.add (x.toNat * 6)).block, (ad1.add (x.toNat * 6)).off + 3, none⟩ = some (.int .i64 t.f3.f0) ∧ w'.cell? ⟨(ad1.add (x.toNat * 6)).block, (ad1.add (x.toNat * 6)).off + 4, none⟩ = some (.int .i64 t.f3.f1) ∧ w'.cell? ⟨(ad1.add (x.toNat * 6)).block, (ad1.add (x.toNat * 6)).off + 5, none⟩ = some (.int .i64 t.f3.f2)) (ds := []) #[false, false, false, false, false, false, false, false, false, false] (by kernel_rfl) rfl rfl ⟨((z4 HB.out).cell (zm w _ hx0)).trans hx0, ((z4 HB.out).cell (zm w _ hx1)).trans hx1, ((z4 HB.out).cell (zm w _ hx2)).trans hx2, ((z4 HB.out).cell (zm w _ hx3)).trans hx3, ((z4 HB.out).cell (zm w _ hx4)).trans hx4, ((z4 HB.out).cell (zm w _ hx5)).trans hx5, ((z4 HB.out).cell (zm w _ hy0)).trans hy0, ((z4 HB.out).cell (zm w _ hy1)).trans hy1, ((z4 HB.out).cell (zm w _ hy2)).trans hy2, ((z4 HB.out).cell (zm w _ hy3)).trans hy3, ((z4 HB.out).cell (zm w _ hy4)).trans hy4, ((z4 HB.out).cell (zm w _ hy5)).trans hy5⟩ (fun hHeld => ?_); refine with_tabW laws_FnExactParseProgram.tab1 laws_FnExactParseProgram.bits (fun HT_ HW_ => ?_)
   refine pure_ (i := 0) (N := some 17) (v := ?_) (a' := ?_) #[true, false, false, false, false, false, false, false, false, false] rfl rfl (any_of HT_.out (by kernel_rfl)) (fun _ _ _ h => h) (Or.inl ⟨by rfl, ?_⟩) ?_ ?_
   rotate_left
   ·intro w'; go_simp; with_reducible rfl
   rotate_left
   ·simp only [Act.put, List.setIfInBounds_toArray, List.set_cons_zero, List.set_cons_succ, i64_w, i32_w]; rfl
   refine pure_ (i := 1) (N := some 18) (v := ?_) (a' := ?_) #[true, true, false, false, false, false, false, false, false, false] rfl rfl (any_of HT_.out (by kernel_rfl)) (fun _ _ _ h => h) (Or.inl ⟨by rfl, ?_⟩) ?_ ?_
   rotate_left
   ·intro w'; go_simp; with_reducible rfl
   rotate_left
   ·simp only [Act.put, List.setIfInBounds_toArray, List.set_cons_zero, List.set_cons_succ, i64_w, i32_w]; rfl
   refine pure_ (i := 2) (N := some 19) (v := ?_) (a' := ?_) #[true, true, true, false, false, false, false, false, false, false] rfl rfl (any_of HT_.out (by kernel_rfl)) (fun _ _ _ h => h) (Or.inl ⟨by rfl, ?_⟩) ?_ ?_
   rotate_left
   ·intro w'; go_simp; with_reducible rfl
   rotate_left
   ·simp only [Act.put, List.setIfInBounds_toArray, List.set_cons_zero, List.set_cons_succ, i64_w, i32_w]; rfl
   refine pure_ (i := 4) (N := some 21) (v := ?_) (a' := ?_) #[true, true, true, false, true, false, false, false, false, false] rfl rfl (any_of HT_.out (by kernel_rfl)) (fun _ _ _ h => h) (Or.inl ⟨by rfl, ?_⟩) ?_ ?_
   rotate_left
   ·intro w'; go_simp; with_reducible rfl
   rotate_left
   ·simp only [Act.put, List.setIfInBounds_toArray, List.set_cons_zero, List.set_cons_succ, i64_w, i32_w]; rfl
   refine pure_ (i := 5) (N := some 22) (v := ?_) (a' := ?_) #[true, true, true, false, true, true, false, false, false, false] rfl rfl (any_of HT_.out (by kernel_rfl)) (fun _ _ _ h => h) (Or.inl ⟨by rfl, ?_⟩) ?_ ?_
   rotate_left
   ·intro w'; go_simp; with_reducible rfl
   rotate_left
   ·simp only [Act.put, List.setIfInBounds_toArray, List.set_cons_zero, List.set_cons_succ, i64_w, i32_w]; rfl
   refine pure_ (i := 6) (N := some 23) (v := ?_) (a' := ?_) #[true, true, true, false, true, true, true, false, false, false] rfl rfl (any_of HT_.out (by kernel_rfl)) (fun _ _ _ h => h) (Or.inl ⟨by rfl, ?_⟩) ?_ ?_
   rotate_left
   ·intro w'; go_simp; with_reducible rfl
   rotate_left
   ·simp only [Act.put, List.setIfInBounds_toArray, List.set_cons_zero, List.set_cons_succ, i64_w, i32_w]; rfl
   refine take_ (i := 3) (N := some 20) (v := ?_) (a' := ?_) #[true, true, true, true, true, true, true, false, false, false] rfl rfl (take_ofW HT_.out HW_.out (by kernel_rfl)) (fun _ _ _ h => h) (Or.inl ⟨by rfl, ?_⟩) hHeld ?_ ?_
   rotate_left
   ·rintro w' ⟨s0, s1, s2, s3, s4, s5, s6, s7, s8, s9, s10, s11⟩; go_simp; with_reducible rfl
   rotate_left
   ·simp only [Act.put, List.setIfInBounds_toArray, List.set_cons_zero, List.set_cons_succ, i64_w, i32_w]; rfl
   refine take_ (i := 7) (N := some 24) (v := ?_) (a' := ?_) #[true, true, true, true, true, true, true, true, false, false] rfl rfl (take_ofW HT_.out HW_.out (by kernel_rfl)) (fun _ _ _ h => h) (Or.inl ⟨by rfl, ?_⟩) hHeld ?_ ?_
   rotate_left
   ·rintro w' ⟨s0, s1, s2, s3, s4, s5, s6, s7, s8, s9, s10, s11⟩; go_simp; with_reducible rfl
   rotate_left
   ·simp only [Act.put, List.setIfInBounds_toArray, List.set_cons_zero, List.set_cons_succ, i64_w, i32_w]; rfl
   refine one_ (i := 8) (N := some 25) #[true, true, true, true, true, true, true, true, true, false] rfl rfl (one_of HT_.out (by kernel_rfl)) (by decide) (fun K hK => ?_)
   refine goes_ Tryz.func75 (by kernel_rfl) rfl #[.agg #[.int .i64 t.f0, .int .i64 t.f1, .int .i64 t.f2, .int .i64 t.f3.f0, .int .i64 t.f3.f1, .int .i64 t.f3.f2], .agg #[.int .i64 t.f0, .int .i64 t.f1, .int .i64 t.f2, .int .i64 t.f3.f0, .int .i64 t.f3.f1, .int .i64 t.f3.f2]] (by rfl) rfl rfl (by (try simp only [List.map_toArray, List.map_cons, List.map_nil]); first | done | rfl) ?_
   with_reducible refine (laws_FnExactParseProgram.eqS t.f0 t.f1 t.f2 t.f3.f0 t.f3.f1 t.f3.f2 _).mono ?_
   rintro e w9 ⟨rfl, hb⟩
   refine ⟨_, rfl, ?_⟩
   have HB9 := zM (zQ (z4 HB.out) hb)
   clear hHeld hb
   refine hK.out _ _ ⟨((HB9.out).cell (zm w _ hx0)).trans hx0, ((HB9.out).cell (zm w _ hx1)).trans hx1, ((HB9.out).cell (zm w _ hx2)).trans hx2, ((HB9.out).cell (zm w _ hx3)).trans hx3, ((HB9.out).cell (zm w _ hx4)).trans hx4, ((HB9.out).cell (zm w _ hx5)).trans hx5, ((HB9.out).cell (zm w _ hy0)).trans hy0, ((HB9.out).cell (zm w _ hy1)).trans hy1, ((HB9.out).cell (zm w _ hy2)).trans hy2, ((HB9.out).cell (zm w _ hy3)).trans hy3, ((HB9.out).cell (zm w _ hy4)).trans hy4, ((HB9.out).cell (zm w _ hy5)).trans hy5⟩ (fun hHeld => ?_)
   clear hK K
   refine norm_ (a' := ?_) ?_ ?_
   rotate_left
   ·show Act.put _ (some 25) _ = _; simp only [Act.put, List.setIfInBounds_toArray, List.set_cons_zero, List.set_cons_succ, i64_w, i32_w]; rfl
   refine pure_ (i := 9) (N := some 26) (v := ?_) (a' := ?_) #[true, true, true, true, true, true, true, true, true, true] rfl rfl (any_of HT_.out (by kernel_rfl)) (fun _ _ _ h => h) (Or.inl ⟨by rfl, ?_⟩) ?_ ?_
   rotate_left
   ·intro w'; go_simp; with_reducible rfl
   rotate_left
   ·simp only [Act.put, List.setIfInBounds_toArray, List.set_cons_zero, List.set_cons_succ, i64_w, i32_w]; rfl
   refine done_ (done_of HT_.out (by kernel_rfl)) ?_
   go_wp2
   obtain ⟨k1, rfl⟩ : ∃ m, gk = m + 1 := ⟨gk - 1, by have := HX.out; have := of_eq_true hz; omega⟩
   go_roundg k1
   case measure => omega
   case rel => exact ⟨x + 1, by rw [show wrap64 (x + 1) = x + 1 by have := HX.out.1; unfold wrap64; omega], ⟨by have := HX.out; omega⟩, HB9⟩
  have hd := decide_eq_false hz
  go_wp2
  go_ret
  exact ⟨rfl, HB.out⟩
theorem laws_FnExactParseProgram.eqT (A0 : Option Addr) (c0 : Nat) (A1 : Option Addr) (c1 : Nat) (lb : List S35) (o a b : Int) (w : World) (hr0 : Kd.C k35 w A0 lb.length lb) (hr1 : Kd.C k35 w A1 lb.length lb) : Calls Tryz.prog 43 #[.agg #[.slice A0 lb.length c0, .int .i64 o, .int .i64 a, .int .i64 b], .agg #[.slice A1 lb.length c1, .int .i64 o, .int .i64 a, .int .i64 b]] w fun e w' => e = .returned (.bool true) ∧ Below w.heap.size w w' := by
 have HR0 := zM (zF (zF hr0 (.cells #[.slice A0 lb.length c0, .int .i64 o, .int .i64 a, .int .i64 b] 40)) (.cells #[.slice A1 lb.length c1, .int .i64 o, .int .i64 a, .int .i64 b] 40))
 have HR1 := zM (zF (zF hr1 (.cells #[.slice A0 lb.length c0, .int .i64 o, .int .i64 a, .int .i64 b] 40)) (.cells #[.slice A1 lb.length c1, .int .i64 o, .int .i64 a, .int .i64 b] 40))
 have HX := zM (zP (blk_new w (.cells #[.slice A0 lb.length c0, .int .i64 o, .int .i64 a, .int .i64 b] 40)) (.cells #[.slice A1 lb.length c1, .int .i64 o, .int .i64 a, .int .i64 b] 40))
 have HY := zM (show ((w.alloc (.cells #[.slice A0 lb.length c0, .int .i64 o, .int .i64 a, .int .i64 b] 40)).alloc (.cells #[.slice A1 lb.length c1, .int .i64 o, .int .i64 a, .int .i64 b] 40)).heap[w.heap.size + 1]? = some (.cells #[.slice A1 lb.length c1, .int .i64 o, .int .i64 a, .int .i64 b] 40 (0, 0)) from (by simp : (w.alloc (.cells #[.slice A0 lb.length c0, .int .i64 o, .int .i64 a, .int .i64 b] 40)).heap.size = w.heap.size + 1) ▸ blk_new (w.alloc (.cells #[.slice A0 lb.length c0, .int .i64 o, .int .i64 a, .int .i64 b] 40)) _)
 clear hr0 hr1
 go_enter Tryz.func43, Tryz.ntmps43
 go_wp2_with (first
  | (go_at_call 59; (with_reducible refine (laws_FnExactParseProgram.eqSS A0 c0 A1 c1 lb _ HR0.out HR1.out).mono ?_); rintro e w8 ⟨rfl, hb⟩; have HB8 := zM (zQ (w := w) (z2 (z2 (Below.refl _ _) _) _) hb); have X8 := zM (z7 HX.out hb); have Y8 := zM (z7 HY.out hb); clear hb; have x1 : w8.cell? ⟨w.heap.size, 1, none⟩ = some (.int .i64 o) := (z5 X8.out 1).trans rfl; have x2 : w8.cell? ⟨w.heap.size, 2, none⟩ = some (.int .i64 a) := (z5 X8.out 2).trans rfl; have x3 : w8.cell? ⟨w.heap.size, 3, none⟩ = some (.int .i64 b) := (z5 X8.out 3).trans rfl; have y1 : w8.cell? ⟨w.heap.size + 1, 1, none⟩ = some (.int .i64 o) := (z5 Y8.out 1).trans rfl; have y2 : w8.cell? ⟨w.heap.size + 1, 2, none⟩ = some (.int .i64 a) := (z5 Y8.out 2).trans rfl; have y3 : w8.cell? ⟨w.heap.size + 1, 3, none⟩ = some (.int .i64 b) := (z5 Y8.out 3).trans rfl)
  | (go_at_call 60; (with_reducible refine (laws_FnExactParseProgram.eqE _ _ _ _).mono ?_); rintro e w9 ⟨rfl, hb⟩; have HB9 := zM (zQ HB8.out hb); clear hb))
 go_ret
 exact ⟨rfl, HB9.out⟩
theorem laws_FnExactParseProgram.eqTS (A0 : Option Addr) (c0 : Nat) (A1 : Option Addr) (c1 : Nat) (l : List S40) (w : World) (hr0 : Kd.C k40 w A0 l.length l) (hr1 : Kd.C k40 w A1 l.length l) : Calls Tryz.prog 18 #[.slice A0 l.length c0, .slice A1 l.length c1] w fun e w' => e = .returned (.bool true) ∧ Below w.heap.size w w' := by
 have HR0 := zM hr0
 have HR1 := zM hr1
 clear hr0 hr1
 have HB := zM (Below.refl w.heap.size w)
 go_enter Tryz.func18, Tryz.ntmps18
 go_wp2
 go_loopg [5] l.length (fun kq v5 wr => ∃ x : Int, v5 = .int .i64 x ∧ Aside0 (0 ≤ x ∧ x + kq = l.length) ∧ Aside0 (Below w.heap.size w wr))
 case atStart => exact ⟨0, rfl, ⟨by omega⟩, HB⟩
 case round =>
  clear HB
  obtain ⟨x, rfl, HX, HB⟩ := hrel
  by_cases hz : x < (l.length : Int)
  ·have hz0 : 0 ≤ x := HX.out.1
   have hxm : x ≤ 9223372036854775806 := by have h1 := HR0.out.2.1; omega
   obtain ⟨ad0, B0, d0, e0, hx0, hx1, hx2, hx3, -, hC0⟩ := at_T40 HR0.out x hz0 hz
   obtain ⟨ad1, B1, d1, e1, hy0, hy1, hy2, hy3, -, hC1⟩ := at_T40 HR1.out x hz0 hz
   cases e0
   cases e1
   generalize rd_T40 l x = t at hx0 hx1 hx2 hx3 hy0 hy1 hy2 hy3 hC0 hC1
   have hd := decide_eq_true hz
   have hd0 := decide_eq_true hz0
   replace hz := eq_true hz
   replace hz0 := eq_true hz0
   go_wp2
   refine start_ (n := 10) (S := fun w' => w'.cell? (ad0.add (x.toNat * 4)) = some (.slice B0 t.f0.length d0) ∧ w'.cell? ⟨(ad0.add (x.toNat * 4)).block, (ad0.add (x.toNat * 4)).off + 1, none⟩ = some (.int .i64 t.f1.f0) ∧ w'.cell? ⟨(ad0.add (x.toNat * 4)).block, (ad0.add (x.toNat * 4)).off + 2, none⟩ = some (.int .i64 t.f1.f1) ∧ w'.cell? ⟨(ad0.add (x.toNat * 4)).block, (ad0.add (x.toNat * 4)).off + 3, none⟩ = some (.int .i64 t.f1.f2) ∧ w'.cell? (ad1.add (x.toNat * 4)) = some (.slice B1 t.f0.length d1) ∧ w'.cell? ⟨(ad1.add (x.toNat * 4)).block, (ad1.add (x.toNat * 4)).off + 1, none⟩ = some (.int .i64 t.f1.f0) ∧ w'.cell? ⟨(ad1.add (x.toNat * 4)).block, (ad1.add (x.toNat * 4)).off + 2, none⟩ = some (.int .i64 t.f1.f1) ∧ w'.cell? ⟨(ad1.add (x.toNat * 4)).block, (ad1.add (x.toNat * 4)).off + 3, none⟩ = some (.int .i64 t.f1.f2)) (ds := []) #[false, false, false, false, false, false, false, false, false, false] (by kernel_rfl) rfl rfl ⟨((z4 HB.out).cell (zm w _ hx0)).trans hx0, ((z4 HB.out).cell (zm w _ hx1)).trans hx1, ((z4 HB.out).cell (zm w _ hx2)).trans hx2, ((z4 HB.out).cell (zm w _ hx3)).trans hx3, ((z4 HB.out).cell (zm w _ hy0)).trans hy0, ((z4 HB.out).cell (zm w _ hy1)).trans hy1, ((z4 HB.out).cell (zm w _ hy2)).trans hy2, ((z4 HB.out).cell (zm w _ hy3)).trans hy3⟩ (fun hHeld => ?_); refine with_tabW laws_FnExactParseProgram.tab2 laws_FnExactParseProgram.bits (fun HT_ HW_ => ?_)
   refine pure_ (i := 0) (N := some 17) (v := ?_) (a' := ?_) #[true, false, false, false, false, false, false, false, false, false] rfl rfl (any_of HT_.out (by kernel_rfl)) (fun _ _ _ h => h) (Or.inl ⟨by rfl, ?_⟩) ?_ ?_
   rotate_left
   ·intro w'; go_simp; with_reducible rfl
   rotate_left
   ·simp only [Act.put, List.setIfInBounds_toArray, List.set_cons_zero, List.set_cons_succ, i64_w, i32_w]; rfl
   refine pure_ (i := 1) (N := some 18) (v := ?_) (a' := ?_) #[true, true, false, false, false, false, false, false, false, false] rfl rfl (any_of HT_.out (by kernel_rfl)) (fun _ _ _ h => h) (Or.inl ⟨by rfl, ?_⟩) ?_ ?_
   rotate_left
   ·intro w'; go_simp; with_reducible rfl
   rotate_left
   ·simp only [Act.put, List.setIfInBounds_toArray, List.set_cons_zero, List.set_cons_succ, i64_w, i32_w]; rfl
   refine pure_ (i := 2) (N := some 19) (v := ?_) (a' := ?_) #[true, true, true, false, false, false, false, false, false, false] rfl rfl (any_of HT_.out (by kernel_rfl)) (fun _ _ _ h => h) (Or.inl ⟨by rfl, ?_⟩) ?_ ?_
   rotate_left
   ·intro w'; go_simp; with_reducible rfl
   rotate_left
   ·simp only [Act.put, List.setIfInBounds_toArray, List.set_cons_zero, List.set_cons_succ, i64_w, i32_w]; rfl
   refine pure_ (i := 4) (N := some 21) (v := ?_) (a' := ?_) #[true, true, true, false, true, false, false, false, false, false] rfl rfl (any_of HT_.out (by kernel_rfl)) (fun _ _ _ h => h) (Or.inl ⟨by rfl, ?_⟩) ?_ ?_
   rotate_left
   ·intro w'; go_simp; with_reducible rfl
   rotate_left
   ·simp only [Act.put, List.setIfInBounds_toArray, List.set_cons_zero, List.set_cons_succ, i64_w, i32_w]; rfl
   refine pure_ (i := 5) (N := some 22) (v := ?_) (a' := ?_) #[true, true, true, false, true, true, false, false, false, false] rfl rfl (any_of HT_.out (by kernel_rfl)) (fun _ _ _ h => h) (Or.inl ⟨by rfl, ?_⟩) ?_ ?_
   rotate_left
   ·intro w'; go_simp; with_reducible rfl
   rotate_left
   ·simp only [Act.put, List.setIfInBounds_toArray, List.set_cons_zero, List.set_cons_succ, i64_w, i32_w]; rfl
   refine pure_ (i := 6) (N := some 23) (v := ?_) (a' := ?_) #[true, true, true, false, true, true, true, false, false, false] rfl rfl (any_of HT_.out (by kernel_rfl)) (fun _ _ _ h => h) (Or.inl ⟨by rfl, ?_⟩) ?_ ?_
   rotate_left
   ·intro w'; go_simp; with_reducible rfl
   rotate_left
   ·simp only [Act.put, List.setIfInBounds_toArray, List.set_cons_zero, List.set_cons_succ, i64_w, i32_w]; rfl
   refine take_ (i := 3) (N := some 20) (v := ?_) (a' := ?_) #[true, true, true, true, true, true, true, false, false, false] rfl rfl (take_ofW HT_.out HW_.out (by kernel_rfl)) (fun _ _ _ h => h) (Or.inl ⟨by rfl, ?_⟩) hHeld ?_ ?_
   rotate_left
   ·rintro w' ⟨s0, s1, s2, s3, s4, s5, s6, s7⟩; go_simp; with_reducible rfl
   rotate_left
   ·simp only [Act.put, List.setIfInBounds_toArray, List.set_cons_zero, List.set_cons_succ, i64_w, i32_w]; rfl
   refine take_ (i := 7) (N := some 24) (v := ?_) (a' := ?_) #[true, true, true, true, true, true, true, true, false, false] rfl rfl (take_ofW HT_.out HW_.out (by kernel_rfl)) (fun _ _ _ h => h) (Or.inl ⟨by rfl, ?_⟩) hHeld ?_ ?_
   rotate_left
   ·rintro w' ⟨s0, s1, s2, s3, s4, s5, s6, s7⟩; go_simp; with_reducible rfl
   rotate_left
   ·simp only [Act.put, List.setIfInBounds_toArray, List.set_cons_zero, List.set_cons_succ, i64_w, i32_w]; rfl
   refine one_ (i := 8) (N := some 25) #[true, true, true, true, true, true, true, true, true, false] rfl rfl (one_of HT_.out (by kernel_rfl)) (by decide) (fun K hK => ?_)
   refine goes_ Tryz.func43 (by kernel_rfl) rfl #[.agg #[.slice B0 t.f0.length d0, .int .i64 t.f1.f0, .int .i64 t.f1.f1, .int .i64 t.f1.f2], .agg #[.slice B1 t.f0.length d1, .int .i64 t.f1.f0, .int .i64 t.f1.f1, .int .i64 t.f1.f2]] (by rfl) rfl rfl (by (try simp only [List.map_toArray, List.map_cons, List.map_nil]); first | done | rfl) ?_
   with_reducible refine (laws_FnExactParseProgram.eqT B0 d0 B1 d1 t.f0 t.f1.f0 t.f1.f1 t.f1.f2 _ (zX hC0 (z4 HB.out)) (zX hC1 (z4 HB.out))).mono ?_
   rintro e w9 ⟨rfl, hb⟩
   refine ⟨_, rfl, ?_⟩
   have HB9 := zM (zQ (z4 HB.out) hb)
   clear hHeld hb
   refine hK.out _ _ ⟨((HB9.out).cell (zm w _ hx0)).trans hx0, ((HB9.out).cell (zm w _ hx1)).trans hx1, ((HB9.out).cell (zm w _ hx2)).trans hx2, ((HB9.out).cell (zm w _ hx3)).trans hx3, ((HB9.out).cell (zm w _ hy0)).trans hy0, ((HB9.out).cell (zm w _ hy1)).trans hy1, ((HB9.out).cell (zm w _ hy2)).trans hy2, ((HB9.out).cell (zm w _ hy3)).trans hy3⟩ (fun hHeld => ?_)
   clear hK K
   refine norm_ (a' := ?_) ?_ ?_
   rotate_left
   ·show Act.put _ (some 25) _ = _; simp only [Act.put, List.setIfInBounds_toArray, List.set_cons_zero, List.set_cons_succ, i64_w, i32_w]; rfl
   refine pure_ (i := 9) (N := some 26) (v := ?_) (a' := ?_) #[true, true, true, true, true, true, true, true, true, true] rfl rfl (any_of HT_.out (by kernel_rfl)) (fun _ _ _ h => h) (Or.inl ⟨by rfl, ?_⟩) ?_ ?_
   rotate_left
   ·intro w'; go_simp; with_reducible rfl
   rotate_left
   ·simp only [Act.put, List.setIfInBounds_toArray, List.set_cons_zero, List.set_cons_succ, i64_w, i32_w]; rfl
   refine done_ (done_of HT_.out (by kernel_rfl)) ?_
   go_wp2
   obtain ⟨k1, rfl⟩ : ∃ m, gk = m + 1 := ⟨gk - 1, by have := HX.out; have := of_eq_true hz; omega⟩
   go_roundg k1
   case measure => omega
   case rel => exact ⟨x + 1, by rw [show wrap64 (x + 1) = x + 1 by have := HX.out.1; unfold wrap64; omega], ⟨by have := HX.out; omega⟩, HB9⟩
  have hd := decide_eq_false hz
  go_wp2
  go_ret
  exact ⟨rfl, HB.out⟩
theorem laws_FnExactParseProgram.eqP (A0 : Option Addr) (c0 : Nat) (A1 : Option Addr) (c1 : Nat) (l : List S40) (w : World) (hr0 : Kd.C k40 w A0 l.length l) (hr1 : Kd.C k40 w A1 l.length l) : Calls Tryz.prog 6 #[.agg #[.slice A0 l.length c0], .agg #[.slice A1 l.length c1]] w fun e w' => e = .returned (.bool true) ∧ Below w.heap.size w w' := by
 have HR0 := zM (zF (zF hr0 (.cells #[.slice A0 l.length c0] 24)) (.cells #[.slice A1 l.length c1] 24))
 have HR1 := zM (zF (zF hr1 (.cells #[.slice A0 l.length c0] 24)) (.cells #[.slice A1 l.length c1] 24))
 clear hr0 hr1
 go_enter Tryz.func6, Tryz.ntmps6
 go_wp2_with (go_at_call 18; (with_reducible refine (laws_FnExactParseProgram.eqTS A0 c0 A1 c1 l _ HR0.out HR1.out).mono ?_); rintro e w9 ⟨rfl, hb⟩; have HB := zM (zQ (w := w) (z2 (z2 (Below.refl _ _) _) _) hb); clear hb)
 go_ret
 exact ⟨rfl, HB.out⟩
def laws_FnExactParseProgram.mks (a : Int) : List S35 → List S35
 | [] => []
 | _ :: t => ⟨a, a + 1, a + 2, ⟨a + 3, a + 4, a + 5⟩⟩ :: laws_FnExactParseProgram.mks (a + 6) t
def laws_FnExactParseProgram.mkt (a : Int) : List S40 → List S40
 | [] => []
 | t :: r => ⟨laws_FnExactParseProgram.mks a t.f0, ⟨a + 6 * t.f0.length, a + 6 * t.f0.length + 1, a + 6 * t.f0.length + 2⟩⟩ :: laws_FnExactParseProgram.mkt (a + 6 * t.f0.length + 3) r
def laws_FnExactParseProgram.mke (a : Int) : List S40 → Int
 | [] => a
 | t :: r => laws_FnExactParseProgram.mke (a + 6 * t.f0.length + 3) r
theorem laws_FnExactParseProgram.mks_len (l : List S35) : ∀ a, (laws_FnExactParseProgram.mks a l).length = l.length := by
 induction l with
 | nil => intro a; rfl
 | cons s t ih => intro a; simp [laws_FnExactParseProgram.mks, ih]
theorem laws_FnExactParseProgram.mkt_len (l : List S40) : ∀ a, (laws_FnExactParseProgram.mkt a l).length = l.length := by
 induction l with
 | nil => intro a; rfl
 | cons s t ih => intro a; simp [laws_FnExactParseProgram.mkt, ih]
theorem laws_FnExactParseProgram.mke_in (l : List S40) : ∀ a, (∀ t ∈ l, t.f0.length ≤ 24) → a ≤ laws_FnExactParseProgram.mke a l ∧ laws_FnExactParseProgram.mke a l ≤ a + 147 * l.length := by
 induction l with
 | nil => intro a _; simp [laws_FnExactParseProgram.mke]
 | cons s t ih =>
  intro a h
  have h0 := h s (by simp)
  have h1 := ih (a + 6 * s.f0.length + 3) (fun x hx => h x (by simp [hx]))
  simp only [laws_FnExactParseProgram.mke, List.length_cons]
  omega
theorem laws_FnExactParseProgram.mstep {W : World} {base n cap g x : Nat} {ok : Nat → Prop} {l : List S35} (hR : Kd.R k35 35 W base ok (.slice (some ⟨g, 0, none⟩) n cap) l) (hx : x < n) :
  (∃ u0 u1 u2 u3 u4 u5, W.cell? ⟨g, x * 6, none⟩ = some u0 ∧ W.cell? ⟨g, x * 6 + 1, none⟩ = some u1 ∧ W.cell? ⟨g, x * 6 + 2, none⟩ = some u2 ∧ W.cell? ⟨g, x * 6 + 3, none⟩ = some u3 ∧ W.cell? ⟨g, x * 6 + 4, none⟩ = some u4 ∧ W.cell? ⟨g, x * 6 + 5, none⟩ = some u5) ∧ (∀ j, W.frozen? ⟨g, j, none⟩ = false) ∧ ok g ∧ base ≤ g ∧
   ∀ a0 a1 a2 a3 a4 a5 : Int, Kd.R k35 35 ((((((W.setCell ⟨g, x * 6, none⟩ (.int .i64 a0)).setCell ⟨g, x * 6 + 1, none⟩ (.int .i64 a1)).setCell ⟨g, x * 6 + 2, none⟩ (.int .i64 a2)).setCell ⟨g, x * 6 + 3, none⟩ (.int .i64 a3)).setCell ⟨g, x * 6 + 4, none⟩ (.int .i64 a4)).setCell ⟨g, x * 6 + 5, none⟩ (.int .i64 a5)) base ok (.slice (some ⟨g, 0, none⟩) n cap) (l.set x ⟨a0, a1, a2, ⟨a3, a4, a5⟩⟩) := by
 have h0 : (0 : Int) ≤ (x : Int) := by omega
 have h1 : (x : Int) < (n : Int) := by omega
 obtain ⟨c, hcl, hM, hcc, hfr⟩ := Kd.R_elem hR z35 (x : Int) h0 h1
 have hlen : l.length = n := (z9 hR).1.symm
 obtain ⟨g', cap', e', hge, -, cells, hblk⟩ := Kd.R_form hR (by omega)
 have hg : g' = g := by injection e' with ea _ _; injection ea with ea; injection ea with ea; exact ea.symm
 subst hg
 have hc2 := hcc
 rw [Int.toNat_natCast] at hc2
 obtain ⟨e0, e1, e2, e3, e4, e5, rfl⟩ : ∃ e0 e1 e2 e3 e4 e5, c = [e0, e1, e2, e3, e4, e5] := by
  have h6 : c.length = 6 := hcl
  match c, h6 with
  | [a, b, d, e, f, g], _ => exact ⟨a, b, d, e, f, g, rfl⟩
 refine ⟨⟨_, _, _, _, _, _, hc2 0 _ rfl, hc2 1 _ rfl, hc2 2 _ rfl, hc2 3 _ rfl, hc2 4 _ rfl, hc2 5 _ rfl⟩, fun j => z6 hblk j, hR.1 g' (by simp [Value.ownBlock]), hge, fun a0 a1 a2 a3 a4 a5 => ?_⟩
 have h := (Kd.R_seg hR (x : Int) h0 h1 (seg := [.int .i64 a0, .int .i64 a1, .int .i64 a2, .int .i64 a3, .int .i64 a4, .int .i64 a5]) (j := 0) hcl hcc (show 6 ≤ 6 by decide) (x' := (⟨a0, a1, a2, ⟨a3, a4, a5⟩⟩ : S35)) (okp := fun _ => False) (k35_mkM _ _ _ (⟨a0, a1, a2, ⟨a3, a4, a5⟩⟩ : S35)) (fun _ hk => hk.elim)).1
 rw [Int.toNat_natCast] at h
 exact h
theorem laws_FnExactParseProgram.markS (P0_ : Nat → Prop) (v : Value) (l0 : List S35) (a : Int) (w0 w : World) (hB : Below w0.heap.size w0 w) (ho0 : Kd.R k35 35 w w0.heap.size P0_ v l0) (ha : 0 ≤ a ∧ a ≤ 1000000) (hl : l0.length ≤ 24) (q : Int) (hq0 : a + 6 * l0.length = q) :
  Calls Tryz.prog 44 #[v, .int .i64 a] w fun e w' => e = .returned (.int .i64 q) ∧ Kd.R k35 35 w' w0.heap.size (fun k_ => (P0_ k_ ∨ w.heap.size ≤ k_)) v (laws_FnExactParseProgram.mks a l0) ∧ Below w0.heap.size w0 w' ∧ Kept w w' (fun k_ => P0_ k_) := by
 have HO0 := zM (show Kd.R k35 35 w w0.heap.size (fun k_ => (P0_ k_ ∨ w.heap.size ≤ k_)) v l0 from z1 ho0 (fun k_ hk => (.inl hk)))
 have HK := zM (Kept.refl w (fun k_ => P0_ k_))
 have HB := zM hB
 have HA := zM ha
 obtain ⟨A, cap, rfl⟩ := Kd.R_slice HO0.out
 have HQ := zM hq0
 clear hB ho0 ha hq0
 go_enter Tryz.func44, Tryz.ntmps44
 go_wp2
 go_loopg [1, 5] l0.length (fun kq v1 v5 wr => ∃ (b : Int) (x : Nat) (pre suf : List S35), v1 = .int .i64 b ∧ v5 = .int .i64 (x : Int) ∧ Aside0 (0 ≤ b ∧ b + 6 * suf.length = a + 6 * l0.length ∧ pre ++ laws_FnExactParseProgram.mks b suf = laws_FnExactParseProgram.mks a l0) ∧ Aside0 (pre.length = x ∧ x + kq = l0.length ∧ suf.length = kq) ∧ Aside0 (Kd.R k35 35 wr w0.heap.size (fun k_ => (P0_ k_ ∨ w.heap.size ≤ k_)) (.slice A l0.length cap) (pre ++ suf)) ∧ Aside0 (Kept w wr (fun k_ => P0_ k_)) ∧ Aside0 (Below w0.heap.size w0 wr))
 case atStart => exact ⟨a, 0, [], l0, rfl, rfl, ⟨HA.out.1, rfl, rfl⟩, ⟨rfl, by omega, rfl⟩, HO0, HK, HB⟩
 case round =>
  clear HO0 HK HB
  obtain ⟨b, x, pre, suf, rfl, rfl, HE, HX, HO, HK, HB⟩ := hrel
  cases suf with
  | nil =>
   have hd : decide ((x : Int) < (l0.length : Int)) = false := decide_eq_false (by have := HX.out; simp at this; omega)
   have hd2 : decide (x < l0.length) = false := decide_eq_false (by have := HX.out; simp at this; omega)
   go_wp2
   go_ret
   have h := HE.out
   rw [laws_FnExactParseProgram.mks] at h
   have hb : b = a + 6 * l0.length := by have := h.2.1; simp at this; omega
   exact ⟨by rw [hb, HQ.out]; rfl, by rw [← h.2.2]; exact HO.out, HB.out, HK.out⟩
  | cons t suf =>
   have hx : x < l0.length := by have := HX.out; simp at this; omega
   have hd : decide ((x : Int) < (l0.length : Int)) = true := decide_eq_true (by omega)
   have hd2 : decide (x < l0.length) = true := decide_eq_true hx
   have hxb : (x : Int) ≤ 24 := by omega
   have hb0 : 0 ≤ b := HE.out.1
   have hb1 : b ≤ 2000000 := by have := HE.out.2.1; have := HA.out; omega
   obtain ⟨g, cap', e', -, -, -, -⟩ := Kd.R_form HO.out (by simp; omega)
   injection e' with ea eb ec
   clear eb
   subst ea
   subst ec
   obtain ⟨⟨u0, u1, u2, u3, u4, u5, hu0, hu1, hu2, hu3, hu4, hu5⟩, hfr, hokg, hge, hst⟩ := laws_FnExactParseProgram.mstep HO.out hx
   have HOG := zM hokg
   have HGE := zM hge
   have HST := zM (hst b (b + 1) (b + 1 + 1) (b + 1 + 1 + 1) (b + 1 + 1 + 1 + 1) (b + 1 + 1 + 1 + 1 + 1))
   have hf0 := hfr (x * 6)
   have hf1 := hfr (x * 6 + 1)
   have hf2 := hfr (x * 6 + 2)
   have hf3 := hfr (x * 6 + 3)
   have hf4 := hfr (x * 6 + 4)
   have hf5 := hfr (x * 6 + 5)
   clear hokg hge hst hfr
   obtain ⟨k1, rfl⟩ : ∃ m, gk = m + 1 := ⟨gk - 1, by have := HX.out; simp at this; omega⟩
   go_wp2
   go_roundg k1
   case measure => have := HX.out; simp at this; omega
   case rel =>
    have hl2 : (pre ++ t :: suf).set x (⟨b, b + 1, b + 1 + 1, ⟨b + 1 + 1 + 1, b + 1 + 1 + 1 + 1, b + 1 + 1 + 1 + 1 + 1⟩⟩ : S35) = (pre ++ [(⟨b, b + 1, b + 2, ⟨b + 3, b + 4, b + 5⟩⟩ : S35)]) ++ suf := by
     rw [← HX.out.1, show b + 1 + 1 = b + 2 by omega, show b + 2 + 1 = b + 3 by omega, show b + 3 + 1 = b + 4 by omega, show b + 4 + 1 = b + 5 by omega]
     simp
    have hS := HST.out
    rw [hl2] at hS
    have hE := HE.out
    exact ⟨b + 6, x + 1, _, suf, by congr 1; omega, (show Value.int .i64 ((x : Int) + 1) = .int .i64 ((x + 1 : Nat) : Int) by rw [Int.natCast_add]; rfl), ⟨by omega, by have := hE.2.1; simp only [List.length_cons] at this; omega, by rw [← hE.2.2, laws_FnExactParseProgram.mks]; simp⟩, ⟨by have := HX.out.1; simp; exact this, by have := HX.out; simp at this; omega, by have := HX.out; simp at this; omega⟩, ⟨hS⟩, ⟨(((((HK.out.setCell (p := ⟨g, _, none⟩) HOG.out _).setCell (p := ⟨g, _, none⟩) HOG.out _).setCell (p := ⟨g, _, none⟩) HOG.out _).setCell (p := ⟨g, _, none⟩) HOG.out _).setCell (p := ⟨g, _, none⟩) HOG.out _).setCell (p := ⟨g, _, none⟩) HOG.out _⟩, ⟨zS (zS (zS (zS (zS (zS HB.out HGE.out) HGE.out) HGE.out) HGE.out) HGE.out) HGE.out⟩⟩
theorem laws_FnExactParseProgram.len {W : World} {base : Nat} {ok : Nat → Prop} {v : Value} {l : List S40} (hS : Kd.S k40 40 W base ok v l) : l.length ≤ maxLen := by
 obtain ⟨inner, ho⟩ := Kd.S_own hS
 rcases ho.2 with ⟨_, h0⟩ | ⟨g, cap, cur, he, hb, hh, hnc, hcm, hcs, ht⟩
 ·rw [h0]; exact Nat.zero_le _
 exact Nat.le_trans hnc hcm
theorem laws_FnExactParseProgram.step {W : World} {base n cap g x : Nat} {ok : Nat → Prop} {l : List S40} (hS : Kd.S k40 40 W base ok (.slice (some ⟨g, 0, none⟩) n cap) l) (hx : x < n) (hnew : ∀ k, W.heap.size ≤ k → ok k) :
  ∃ (oki : Nat → Prop) (v0 : Value), W.cell? ⟨g, x * 4, none⟩ = some v0 ∧ Kd.R k35 35 W base oki v0 (l.getD x z40).f0 ∧ (∀ k, oki k → ok k ∧ k ≠ g) ∧ ok g ∧
   ∀ (W9 : World) (r2 : List S35), Kept W W9 (fun k => oki k) → Kd.R k35 35 W9 base (fun k => oki k ∨ W.heap.size ≤ k) v0 r2 →
    (∃ u1 u2 u3, W9.cell? ⟨g, x * 4 + 1, none⟩ = some u1 ∧ W9.cell? ⟨g, x * 4 + 2, none⟩ = some u2 ∧ W9.cell? ⟨g, x * 4 + 3, none⟩ = some u3) ∧ (∀ j, W9.frozen? ⟨g, j, none⟩ = false) ∧
    ∀ a b c : Int, Kd.S k40 40 (((W9.setCell ⟨g, x * 4 + 1, none⟩ (.int .i64 a)).setCell ⟨g, x * 4 + 2, none⟩ (.int .i64 b)).setCell ⟨g, x * 4 + 3, none⟩ (.int .i64 c)) base ok (.slice (some ⟨g, 0, none⟩) n cap) (l.set x ⟨r2, ⟨a, b, c⟩⟩) := by
 have h0 : (0 : Int) ≤ (x : Int) := by omega
 have h1 : (x : Int) < (n : Int) := by omega
 obtain ⟨oki, cc, hcl, hM, hcc, _, hoki, hH⟩ := Kd.S_elem hS z40 (x : Int) h0 h1
 rw [Int.toNat_natCast] at hM hcc
 obtain ⟨v0, rfl, hR⟩ := k40_openM hM
 have hne : ¬ oki g := fun h => (hoki g h).2 rfl
 have hlen : l.length = n := (Kd.S_reads' hS).1.symm
 obtain ⟨g', cap', e', _, _, cells, hblk⟩ := Kd.S_form hS (by omega)
 have hg : g' = g := by injection e' with ea _ _; injection ea with ea; injection ea with ea; exact ea.symm
 subst hg
 have hokg : ok g' := (Kd.S_R hS).1 g' (by simp [Value.ownBlock])
 have c0 := hcc 0 _ rfl
 have c1 := hcc 1 _ rfl
 have c2 := hcc 2 _ rfl
 have c3 := hcc 3 _ rfl
 refine ⟨oki, v0, c0, hR, hoki, hokg, ?_⟩
 intro W9 r2 hK hR2
 have hb9 := blk_kept hblk hK hne
 refine ⟨⟨_, _, _, cell_kept c1 hK hne, cell_kept c2 hK hne, cell_kept c3 hK hne⟩, fun j => z6 hb9 j, fun a b c => ?_⟩
 have hH1 := Kd.H_kept (Kd.H_widen hH) hK (fun k _ hn hk => hn (.inl hk))
 have hs1 := (Kd.H_seg hH1 h0 h1 (seg := [.int .i64 a]) (j := 1) (show 1 + 1 ≤ 4 by decide) (by simp [Value.oneCell'])).1
 have hs2 := (Kd.H_seg hs1 h0 h1 (seg := [.int .i64 b]) (j := 2) (show 2 + 1 ≤ 4 by decide) (by simp [Value.oneCell'])).1
 have hs3 := (Kd.H_seg hs2 h0 h1 (seg := [.int .i64 c]) (j := 3) (show 3 + 1 ≤ 4 by decide) (by simp [Value.oneCell'])).1
 have hR3 : Kd.R k35 35 (((W9.setCell ⟨g', x * 4 + 1, none⟩ (.int .i64 a)).setCell ⟨g', x * 4 + 2, none⟩ (.int .i64 b)).setCell ⟨g', x * 4 + 3, none⟩ (.int .i64 c)) base (fun k => oki k ∨ W.heap.size ≤ k) v0 r2 := by
  have hq : ∀ k, (oki k ∨ W.heap.size ≤ k) → k ≠ g' := fun k hk => hk.elim (fun z => (hoki k z).2) (fun z e => by have := blk_lt hblk; omega)
  exact zc (p := ⟨g', _, none⟩) (zc (p := ⟨g', _, none⟩) (zc (p := ⟨g', _, none⟩) hR2 hq _) hq _) hq _
 have hM3 := k40_mkM _ base _ (⟨r2, ⟨a, b, c⟩⟩ : S40) hR3
 have hfin := Kd.H_back hs3 (x' := (⟨r2, ⟨a, b, c⟩⟩ : S40)) hM3 (fun k hk => hk.elim .inl (fun z => .inr ⟨hnew k z, z⟩))
 rw [Int.toNat_natCast] at hfin
 exact hfin
theorem laws_FnExactParseProgram.markT (P0_ : Nat → Prop) (v : Value) (l0 : List S40) (a : Int) (w0 w : World) (hB : Below w0.heap.size w0 w) (ho0 : Kd.S k40 40 w w0.heap.size P0_ v l0) (ha : 0 ≤ a ∧ a ≤ 1000) (hl : l0.length ≤ 6) (h24 : ∀ t ∈ l0, t.f0.length ≤ 24) :
  Calls Tryz.prog 19 #[v, .int .i64 a] w fun e w' => e = .returned (.int .i64 (laws_FnExactParseProgram.mke a l0)) ∧ Kd.S k40 40 w' w0.heap.size (fun k_ => (P0_ k_ ∨ w.heap.size ≤ k_)) v (laws_FnExactParseProgram.mkt a l0) ∧ Below w0.heap.size w0 w' ∧ Kept w w' (fun k_ => P0_ k_) := by
 have HO0 := zM (show Kd.S k40 40 w w0.heap.size (fun k_ => (P0_ k_ ∨ w.heap.size ≤ k_)) v l0 from Kd.S_mono ho0 (fun k_ hk => (.inl hk)))
 have HK := zM (Kept.refl w (fun k_ => P0_ k_))
 have HB := zM hB
 obtain ⟨A, cap, rfl⟩ := Kd.S_slice HO0.out
 have HA := zM ha
 have H24 := zM h24
 clear hB ho0 ha h24
 go_enter Tryz.func19, Tryz.ntmps19
 go_wp2
 go_loopg [1, 5] l0.length (fun kq v1 v5 wr => ∃ (b : Int) (x : Nat) (pre suf : List S40), v1 = .int .i64 b ∧ v5 = .int .i64 (x : Int) ∧ Aside0 (0 ≤ b ∧ b ≤ a + 147 * x ∧ laws_FnExactParseProgram.mke b suf = laws_FnExactParseProgram.mke a l0 ∧ pre ++ laws_FnExactParseProgram.mkt b suf = laws_FnExactParseProgram.mkt a l0 ∧ ∀ t ∈ suf, t.f0.length ≤ 24) ∧ Aside0 (pre.length = x ∧ x + kq = l0.length ∧ suf.length = kq) ∧ Aside0 (Kd.S k40 40 wr w0.heap.size (fun k_ => (P0_ k_ ∨ w.heap.size ≤ k_)) (.slice A l0.length cap) (pre ++ suf)) ∧ Aside0 (Kept w wr (fun k_ => P0_ k_)) ∧ Aside0 (Below w0.heap.size w0 wr))
 case atStart => exact ⟨a, 0, [], l0, rfl, rfl, ⟨HA.out.1, by simp, rfl, rfl, H24.out⟩, ⟨rfl, by omega, rfl⟩, HO0, HK, HB⟩
 case round =>
  clear HO0 HK HB
  obtain ⟨b, x, pre, suf, rfl, rfl, HE, HX, HO, HK, HB⟩ := hrel
  cases suf with
  | nil =>
   have hd : decide ((x : Int) < (l0.length : Int)) = false := decide_eq_false (by have := HX.out; simp at this; omega)
   have hd2 : decide (x < l0.length) = false := decide_eq_false (by have := HX.out; simp at this; omega)
   go_wp2
   go_ret
   have h := HE.out
   rw [laws_FnExactParseProgram.mke, laws_FnExactParseProgram.mkt] at h
   exact ⟨by rw [h.2.2.1]; rfl, by rw [← h.2.2.2.1]; exact HO.out, HB.out, HK.out⟩
  | cons t suf =>
   have hx : x < l0.length := by have := HX.out; simp at this; omega
   have hd : decide ((x : Int) < (l0.length : Int)) = true := decide_eq_true (by omega)
   have hd2 : decide (x < l0.length) = true := decide_eq_true hx
   have hxb : (x : Int) ≤ 6 := by omega
   have hb0 : 0 ≤ b := HE.out.1
   have hb1 : b ≤ 10000 := by have := HE.out.2.1; have := HA.out; omega
   have ht24 := HE.out.2.2.2.2 t (by simp)
   obtain ⟨q1, hq1⟩ : ∃ q, b + 6 * (t.f0.length : Int) = q := ⟨_, rfl⟩
   have hq0 : 0 ≤ q1 := by omega
   have hqb : q1 ≤ 20000 := by omega
   have HQ := zM hq1
   clear hq1
   obtain ⟨g, cap', e', hge, -, -, -⟩ := Kd.S_form HO.out (by simp; omega)
   injection e' with ea eb ec
   clear eb
   subst ea
   subst ec
   have HGE := zM hge
   clear hge
   obtain ⟨oki, v0, hc0, hR, hoki, hokg, hstep⟩ := laws_FnExactParseProgram.step HO.out hx (fun k hk => .inr (Nat.le_trans HK.out.1 hk))
   have ht : (pre ++ t :: suf).getD x z40 = t := by rw [← HX.out.1]; simp [List.getD]
   rw [ht] at hR
   have HR := zM hR
   have HOK := zM hoki
   have HOG := zM hokg
   have HST := zM hstep
   have HT := zM ht24
   clear hR hoki hokg hstep ht ht24
   obtain ⟨k1, rfl⟩ : ∃ m, gk = m + 1 := ⟨gk - 1, by have := HX.out; simp at this; omega⟩
   go_wp2_with (first | (go_at_call 44; (with_reducible refine (laws_FnExactParseProgram.markS (fun k_ => oki k_) v0 t.f0 b w0 wr HB.out HR.out ⟨hb0, by omega⟩ HT.out q1 HQ.out).mono ?_); rintro e w9 ⟨rfl, hr9, hb9, hk9⟩; have HW9 := zM (HST.out w9 _ hk9 hr9); have HB9 := zM hb9; have HK9 := zM hk9; clear hr9 hb9 hk9; obtain ⟨u1, u2, u3, hu1, hu2, hu3⟩ := HW9.out.1; have hf1 := HW9.out.2.1 (x * 4 + 1); have hf2 := HW9.out.2.1 (x * 4 + 2); have hf3 := HW9.out.2.1 (x * 4 + 3)))
   go_roundg k1
   case measure => have := HX.out; simp at this; omega
   case rel =>
    have hl2 : (pre ++ t :: suf).set x (⟨laws_FnExactParseProgram.mks b t.f0, ⟨q1, q1 + 1, q1 + 1 + 1⟩⟩ : S40) = (pre ++ [(⟨laws_FnExactParseProgram.mks b t.f0, ⟨b + 6 * t.f0.length, b + 6 * t.f0.length + 1, b + 6 * t.f0.length + 2⟩⟩ : S40)]) ++ suf := by
     rw [← HX.out.1, HQ.out, show q1 + 1 + 1 = q1 + 2 by omega]; simp
    have hS := HW9.out.2.2 q1 (q1 + 1) (q1 + 1 + 1)
    rw [hl2] at hS
    have hk := HK.out.then_ HK9.out (fun k hk => (HOK.out k hk).1)
    have hE := HE.out
    have hQ := HQ.out
    have hT := HT.out
    exact ⟨b + 6 * t.f0.length + 3, x + 1, _, suf, by congr 1; omega, (show Value.int .i64 ((x : Int) + 1) = .int .i64 ((x + 1 : Nat) : Int) by rw [Int.natCast_add]; rfl), ⟨by omega, by have := hE.2.1; omega, by rw [← hE.2.2.1, laws_FnExactParseProgram.mke], by rw [← hE.2.2.2.1, laws_FnExactParseProgram.mkt]; simp, fun y hy => hE.2.2.2.2 y (by simp [hy])⟩, ⟨by have := HX.out.1; simp; exact this, by have := HX.out; simp at this; omega, by have := HX.out; simp at this; omega⟩, ⟨hS⟩, ⟨((hk.setCell (p := ⟨g, _, none⟩) HOG.out _).setCell (p := ⟨g, _, none⟩) HOG.out _).setCell (p := ⟨g, _, none⟩) HOG.out _⟩, ⟨zS (zS (zS HB9.out HGE.out) HGE.out) HGE.out⟩⟩
theorem laws_FnExactParseProgram.markP (P0_ : Nat → Prop) (v : Value) (l0 : List S40) (w0 w : World) (hB : Below w0.heap.size w0 w) (ho0 : Kd.S k40 40 w w0.heap.size P0_ v l0) (hl : l0.length ≤ 6) (h24 : ∀ t ∈ l0, t.f0.length ≤ 24) :
  Calls Tryz.prog 7 #[.agg #[v], .int .i64 1] w fun e w' => e = .returned (.int .i64 (laws_FnExactParseProgram.mke 1 l0)) ∧ Kd.S k40 40 w' w0.heap.size (fun k_ => (P0_ k_ ∨ w.heap.size ≤ k_)) v (laws_FnExactParseProgram.mkt 1 l0) ∧ Below w0.heap.size w0 w' ∧ Kept w w' (fun k_ => P0_ k_) := by
 obtain ⟨A, cap, rfl⟩ := Kd.S_slice ho0
 have HC := zM (laws_FnExactParseProgram.markT P0_ (.slice A l0.length cap) l0 1 w0 (w.alloc (.cells #[.slice A l0.length cap] 24)) (z2 hB _) (zU ho0 _) ⟨by decide, by decide⟩ hl h24)
 clear ho0 hB hl h24
 go_enter Tryz.func7, Tryz.ntmps7
 go_wp2_with (first | (go_at_call 19; (with_reducible refine HC.out.mono ?_); rintro e w9 ⟨rfl, hs9, hb9, hk9⟩; have HS9 := zM hs9; have HB9 := zM hb9; have HK9 := zM hk9; clear hs9 hb9 hk9))
 go_ret
 exact ⟨rfl, Kd.S_mono HS9.out (fun k hk => hk.elim .inl (fun z => .inr (by simp at z; omega))), HB9.out, ((Kept.refl w _).alloc _).then_ HK9.out (fun k hk => .inl hk)⟩
theorem laws_FnExactParseProgram.mks_rd (l : List S35) : ∀ (a b x : Int), 0 ≤ x → x < (l.length : Int) → a + 6 * x = b → rd_T35 (laws_FnExactParseProgram.mks a l) x = ⟨b, b + 1, b + 1 + 1, ⟨b + 1 + 1 + 1, b + 1 + 1 + 1 + 1, b + 1 + 1 + 1 + 1 + 1⟩⟩ := by
 induction l with
 | nil => intro a b x h0 h1 _; simp at h1; omega
 | cons s t ih =>
  intro a b x h0 h1 hb
  simp only [List.length_cons] at h1
  by_cases hx : x = 0
  ·subst hx
   obtain rfl : a = b := by omega
   show (⟨a, a + 1, a + 2, ⟨a + 3, a + 4, a + 5⟩⟩ : S35) = _
   rw [show a + 1 + 1 = a + 2 by omega, show a + 2 + 1 = a + 3 by omega, show a + 3 + 1 = a + 4 by omega, show a + 4 + 1 = a + 5 by omega]
  have h := ih (a + 6) b (x - 1) (by omega) (by omega) (by omega)
  rw [← h]
  unfold rd_T35
  obtain ⟨y, rfl⟩ : ∃ y : Nat, x = (y : Int) + 1 := ⟨(x - 1).toNat, by omega⟩
  rw [show ((y : Int) + 1).toNat = y + 1 by omega, show ((y : Int) + 1 - 1).toNat = y by omega]
  rfl
theorem laws_FnExactParseProgram.heldS (A : Option Addr) (c : Nat) (l : List S35) (a : Int) (w : World) (hr : Kd.C k35 w A (laws_FnExactParseProgram.mks a l).length (laws_FnExactParseProgram.mks a l)) (ha : 0 ≤ a ∧ a ≤ 100000) (hl : l.length ≤ 24) (q : Int) (hq0 : a + 6 * l.length = q) :
  Calls Tryz.prog 45 #[.slice A (laws_FnExactParseProgram.mks a l).length c, .int .i64 a] w fun e w' => e = .returned (.int .i64 q) ∧ Below w.heap.size w w' := by
 have HR := zM hr
 have HA := zM ha
 have HQ := zM hq0
 have HB := zM (Below.refl w.heap.size w)
 have hn := laws_FnExactParseProgram.mks_len l a
 obtain ⟨n, hm⟩ : ∃ n, (laws_FnExactParseProgram.mks a l).length = n := ⟨_, rfl⟩
 rw [hm]
 have HN := zM (show n = l.length by omega)
 have HM := zM hm
 clear hr ha hq0 hn hm
 go_enter Tryz.func45, Tryz.ntmps45
 go_wp2
 go_loopg [1, 5] n (fun kq v1 v5 wr => ∃ (b x : Int), v1 = .int .i64 b ∧ v5 = .int .i64 x ∧ Aside0 (a + 6 * x = b ∧ 0 ≤ x ∧ x + kq = n) ∧ Aside0 (Below w.heap.size w wr))
 case atStart => exact ⟨a, 0, rfl, rfl, ⟨by omega, by omega, by omega⟩, HB⟩
 case round =>
  clear HB
  obtain ⟨b, x, rfl, rfl, HX, HB⟩ := hrel
  by_cases hz : x < (n : Int)
  ·have hz0 : 0 ≤ x := HX.out.2.1
   have hxm : x ≤ 24 := by have := HN.out; omega
   have hb0 : 0 ≤ b := by have := HX.out; have := HA.out; omega
   have hb1 : b ≤ 200000 := by have := HX.out; have := HA.out; omega
   obtain ⟨ad, e0, h0, h1, h2, h3, h4, h5⟩ := at_T35 HR.out x hz0 (by rw [HM.out]; exact hz)
   rw [laws_FnExactParseProgram.mks_rd l a b x hz0 (by rw [← HN.out]; exact hz) HX.out.1] at h0 h1 h2 h3 h4 h5
   cases e0
   replace h0 := (HB.out.cell (zm w _ h0)).trans h0
   replace h1 := (HB.out.cell (zm w _ h1)).trans h1
   replace h2 := (HB.out.cell (zm w _ h2)).trans h2
   replace h3 := (HB.out.cell (zm w _ h3)).trans h3
   replace h4 := (HB.out.cell (zm w _ h4)).trans h4
   replace h5 := (HB.out.cell (zm w _ h5)).trans h5
   dsimp only at h0 h1 h2 h3 h4 h5
   have hd := decide_eq_true hz
   have hd0 := decide_eq_true hz0
   obtain ⟨k1, rfl⟩ : ∃ m, gk = m + 1 := ⟨gk - 1, by have := HX.out; omega⟩
   go_wp2
   go_roundg k1
   case measure => omega
   case rel => exact ⟨b + 6, x + 1, by congr 1; omega, rfl, ⟨by have := HX.out; omega, by omega, by have := HX.out; omega⟩, HB⟩
  have hd := decide_eq_false hz
  go_wp2
  go_ret
  have hb : b = q := by have := HX.out; have := HQ.out; have := HN.out; omega
  exact ⟨by rw [hb]; rfl, HB.out⟩
theorem laws_FnExactParseProgram.heldT (A : Option Addr) (c : Nat) (l : List S40) (a : Int) (w : World) (hr : Kd.C k40 w A (laws_FnExactParseProgram.mkt a l).length (laws_FnExactParseProgram.mkt a l)) (ha : 0 ≤ a ∧ a ≤ 1000) (hl : l.length ≤ 6) (h24 : ∀ t ∈ l, t.f0.length ≤ 24) :
  Calls Tryz.prog 20 #[.slice A (laws_FnExactParseProgram.mkt a l).length c, .int .i64 a] w fun e w' => e = .returned (.int .i64 (laws_FnExactParseProgram.mke a l)) ∧ Below w.heap.size w w' := by
 have HR := zM hr
 have HA := zM ha
 have H24 := zM h24
 have HB := zM (Below.refl w.heap.size w)
 have hn := laws_FnExactParseProgram.mkt_len l a
 obtain ⟨n, hm⟩ : ∃ n, (laws_FnExactParseProgram.mkt a l).length = n := ⟨_, rfl⟩
 rw [hm]
 have HN := zM (show n = l.length by omega)
 have HM := zM hm
 clear hr ha hn hm h24
 go_enter Tryz.func20, Tryz.ntmps20
 go_wp2
 go_loopg [1, 5] n (fun kq v1 v5 wr => ∃ (b x : Int) (pre suf : List S40), v1 = .int .i64 b ∧ v5 = .int .i64 x ∧ Aside0 (0 ≤ b ∧ b ≤ a + 147 * x ∧ laws_FnExactParseProgram.mke b suf = laws_FnExactParseProgram.mke a l ∧ laws_FnExactParseProgram.mkt a l = pre ++ laws_FnExactParseProgram.mkt b suf ∧ ∀ t ∈ suf, t.f0.length ≤ 24) ∧ Aside0 ((pre.length : Int) = x ∧ x + kq = n ∧ suf.length = kq) ∧ Aside0 (Below w.heap.size w wr))
 case atStart => exact ⟨a, 0, [], l, rfl, rfl, ⟨HA.out.1, by omega, rfl, rfl, H24.out⟩, ⟨rfl, by omega, HN.out.symm⟩, HB⟩
 case round =>
  clear HB
  obtain ⟨b, x, pre, suf, rfl, rfl, HE, HX, HB⟩ := hrel
  cases suf with
  | nil =>
   have hd : decide (x < (n : Int)) = false := decide_eq_false (by have := HX.out; simp at this; omega)
   go_wp2
   go_ret
   have h := HE.out.2.2.1
   rw [laws_FnExactParseProgram.mke] at h
   exact ⟨by rw [h]; rfl, HB.out⟩
  | cons t suf =>
   have hz : x < (n : Int) := by have := HX.out; simp at this; omega
   have hz0 : 0 ≤ x := by have := HX.out; omega
   have hxm : x ≤ 6 := by have := HN.out; omega
   have hb0 : 0 ≤ b := HE.out.1
   have hb1 : b ≤ 100000 := by have := HE.out; have := HA.out; omega
   have ht24 := HE.out.2.2.2.2 t (by simp)
   obtain ⟨q1, hq1⟩ : ∃ q, b + 6 * (t.f0.length : Int) = q := ⟨_, rfl⟩
   have hq0 : 0 ≤ q1 := by omega
   have hqb : q1 ≤ 200000 := by omega
   have hqn : decide (q1 < 0) = false := decide_eq_false (by omega)
   obtain ⟨ad, B, d, e0, h0, h1, h2, h3, -, hC⟩ := at_T40 HR.out x hz0 (by rw [HM.out]; exact hz)
   have hrd : rd_T40 (laws_FnExactParseProgram.mkt a l) x = ⟨laws_FnExactParseProgram.mks b t.f0, ⟨q1, q1 + 1, q1 + 1 + 1⟩⟩ := by
    rw [HE.out.2.2.2.1, laws_FnExactParseProgram.mkt, hq1, show q1 + 1 + 1 = q1 + 2 by omega, ← HX.out.1]
    unfold rd_T40
    simp [List.getD]
   rw [hrd] at h0 h1 h2 h3 hC
   cases e0
   dsimp only at h0 h1 h2 h3 hC
   have z1 := h1
   have z2 := h2
   have z3 := h3
   replace h0 := (HB.out.cell (zm w _ h0)).trans h0
   have HZ := zM (And.intro z1 (And.intro z2 z3))
   clear z1 z2 z3 h1 h2 h3 hrd
   have HC := zM hC
   have HQ := zM hq1
   have HT := zM ht24
   clear hC hq1 ht24
   have hd := decide_eq_true hz
   have hd0 := decide_eq_true hz0
   obtain ⟨k1, rfl⟩ : ∃ m, gk = m + 1 := ⟨gk - 1, by have := HX.out; simp at this; omega⟩
   go_wp2_with (first | (go_at_call 45; (with_reducible refine (laws_FnExactParseProgram.heldS B d t.f0 b _ (zX HC.out HB.out) ⟨hb0, hb1⟩ HT.out q1 HQ.out).mono ?_); rintro e w9 ⟨rfl, hb⟩; have HB9 := zM (zQ HB.out hb); clear hb; have h1 := (HB9.out.cell (zm w _ HZ.out.1)).trans HZ.out.1; have h2 := (HB9.out.cell (zm w _ HZ.out.2.1)).trans HZ.out.2.1; have h3 := (HB9.out.cell (zm w _ HZ.out.2.2)).trans HZ.out.2.2))
   go_roundg k1
   case measure => have := HX.out; simp at this; omega
   case rel =>
    have hE := HE.out
    have hQ := HQ.out
    have hT := HT.out
    have hX := HX.out
    simp only [List.length_cons] at hX
    exact ⟨b + 6 * t.f0.length + 3, x + 1, pre ++ [⟨laws_FnExactParseProgram.mks b t.f0, ⟨b + 6 * t.f0.length, b + 6 * t.f0.length + 1, b + 6 * t.f0.length + 2⟩⟩], suf, by congr 1; omega, rfl, ⟨by omega, by have := hE.2.1; omega, by rw [← hE.2.2.1, laws_FnExactParseProgram.mke], by rw [hE.2.2.2.1, laws_FnExactParseProgram.mkt]; simp, fun y hy => hE.2.2.2.2 y (by simp [hy])⟩, ⟨by simp; omega, by omega, by omega⟩, HB9⟩
theorem laws_FnExactParseProgram.heldP (lg : List S40) (h6 : lg.length ≤ 6) (h24 : ∀ t ∈ lg, t.f0.length ≤ 24) : ∀ (W : World) {A : Option Addr} {c j : Nat}, Kd.C k40 W A (laws_FnExactParseProgram.mkt 1 lg).length (laws_FnExactParseProgram.mkt 1 lg) → j = (laws_FnExactParseProgram.mkt 1 lg).length → j ≤ c → Calls Tryz.prog 8 #[.agg #[.slice A j c], .int .i64 1] W fun e w' => e = .returned (.int .i64 (laws_FnExactParseProgram.mke 1 lg)) ∧ Below W.heap.size W w' := by
 intro W A c j hC hj _
 subst hj
 have HC := zM (laws_FnExactParseProgram.heldT A c lg 1 (W.alloc (.cells #[.slice A (laws_FnExactParseProgram.mkt 1 lg).length c] 24)) (zF hC _) ⟨by decide, by decide⟩ h6 h24)
 have hm := (laws_FnExactParseProgram.mke_in lg 1 h24).1
 have hd : decide (laws_FnExactParseProgram.mke 1 lg < 0) = false := decide_eq_false (by omega)
 clear hC h6 h24 hm
 go_enter Tryz.func8, Tryz.ntmps8
 go_wp2_with (first | (go_at_call 20; (with_reducible refine HC.out.mono ?_); rintro e w9 ⟨rfl, hb⟩; have HB := zM (zQ (w := W) (z2 (Below.refl _ _) _) hb); clear hb))
 go_ret
 exact ⟨rfl, HB.out⟩
theorem laws_FnExactParseProgram.calls (k : Nat) (a0 : ByteArray) (w : World) (l : List S40) (n : Int) (h : (a0.size : Int) ≤ 1048576 → spec_ParseProgram.f k a0 = some (l, n) ∧ impl_ParseProgram.f k a0 = some (l, n) ∧ l.length ≤ 6 ∧ ∀ t ∈ l, t.f0.length ≤ 24) (hGL : GL w) :
  Calls Tryz.prog 3 #[.string a0] w fun e w' => e = .returned (.bool true) ∧ Below w.heap.size w w' := by
 have HG := zM hGL
 clear hGL
 by_cases c2 : (a0.size : Int) > 1048576
 ·have c2b0 : decide (1048576 < (a0.size : Int)) = true := decide_eq_true c2
  have c2b1 : decide (1048576 < a0.size) = true := decide_eq_true (by omega)
  clear c2 h
  go_enter Tryz.func3, Tryz.ntmps3
  go_wp2
  go_ret
  exact ⟨rfl, Below.refl _ _⟩
 obtain ⟨h3, h4, h6, h24⟩ := h (by omega)
 have c2b0 : decide (1048576 < (a0.size : Int)) = false := decide_eq_false c2
 have c2b1 : decide (1048576 < a0.size) = false := decide_eq_false (by omega)
 have c5 := (laws_FnExactParseProgram.mke_in l 1 h24).1
 have c5b : decide (laws_FnExactParseProgram.mke 1 l < 0) = false := decide_eq_false (by omega)
 have HELDC := zM (laws_FnExactParseProgram.heldP l h6 h24)
 have A3 := zM h3
 have A4 := zM h4
 have H6 := zM h6
 have H24 := zM h24
 clear c2 h h3 h4 h6 h24 c5
 go_enter Tryz.func3, Tryz.ntmps3
 go_wp2_with (first
  | ((with_reducible refine gate_callee (f := 4) rfl ?_); refine goesL_ (some 16) rfl rfl Tryz.func4 (by kernel_rfl) rfl #[.string a0] rfl (by (try simp only [List.map_toArray, List.map_cons, List.map_nil]); first | done | rfl) ?_; (with_reducible refine (spec_ParseProgram.calls k a0 l n _ A3.out).mono ?_); rintro e w1 ⟨vw, rfl, ho, hb⟩; refine ⟨_, rfl, ?_⟩; have S1 := zM ho; have B1 := zM hb; clear ho hb)
  | ((with_reducible refine gate_dst (N := 3) rfl ?_); refine box_event ?hg (N := 3) ?hd (cs := #[.slice none 0 0]) (t := 24) ?hr ?_; (case hd => rfl); (case hg => rfl); (case hr => first | (go_simp; done) | (go_simp; rfl)); intro gw hg w2 hbox hb; obtain ⟨Aw, cw, ew⟩ := Kd.S_slice S1.out; subst ew; have S2 := zM (Kd.S_below S1.out hb); have B2 := zM (zQ B1.out hb); have W2 := zM hbox; have G2 := zM (show w.heap.size ≤ gw by rw [hg]; exact zR B1.out); have L2 := zM (blk_lt hbox); clear hb hbox hg; have hc_gw_w2 : w2.cell? ⟨gw, 0, none⟩ = some (.slice none 0 0) := (z5 W2.out 0).trans rfl; have hf_gw_w2 := z6 W2.out 0)
  | ((with_reducible refine gate_callee (f := 5) rfl ?_); refine goesL_ (some 21) rfl rfl Tryz.func5 (by kernel_rfl) rfl #[.string a0] rfl (by (try simp only [List.map_toArray, List.map_cons, List.map_nil]); first | done | rfl) ?_; (with_reducible refine (impl_ParseProgram.calls k a0 l n _ A4.out (GL.below HG.out (zS B2.out G2.out))).mono ?_); rintro e w3 ⟨vg, rfl, ho, hb⟩; refine ⟨_, rfl, ?_⟩; have B2s := zM (show Below w.heap.size w (w2.setCell ⟨gw, 0, none⟩ (.slice Aw l.length cw)) from zS B2.out G2.out); have W2s := zM (show (w2.setCell ⟨gw, 0, none⟩ (.slice Aw l.length cw)).heap[gw]? = some (.cells #[.slice Aw l.length cw] 24 (0, 0)) from blk_put (cs := #[.slice none 0 0]) W2.out 0 _ rfl); have S2s := zM (show Kd.S k40 40 (w2.setCell ⟨gw, 0, none⟩ (.slice Aw l.length cw)) w.heap.size (fun _ => True) (.slice Aw l.length cw) l from Kd.S_set S2.out W2.out (by decide) 0 _); obtain ⟨X, hX⟩ : ∃ X, (w2.setCell ⟨gw, 0, none⟩ (.slice Aw l.length cw)) = X := ⟨_, rfl⟩; rw [hX] at ho hb B2s W2s S2s; have S3 := zM (Kd.S_old S2s.out hb); have T3 := zM ho; have W3 := zM (z7 W2s.out hb); have B3 := zM (show Below X.heap.size X w3 from hb); have LX := zM (blk_lt W2s.out); clear ho hb hX W2s S2s S1 B1 S2 B2 W2 hc_gw_w2 hf_gw_w2)
  | ((with_reducible refine gate_dst (N := 5) rfl ?_); refine box_event ?hg (N := 5) ?hd (cs := #[.slice none 0 0]) (t := 24) ?hr ?_; (case hd => rfl); (case hg => rfl); (case hr => first | (go_simp; done) | (go_simp; rfl)); intro gg hg w4 hbox hb; obtain ⟨Ag, cg, eg⟩ := Kd.S_slice T3.out; subst eg; have S4 := zM (Kd.S_below S3.out hb); have T4 := zM (Kd.S_below T3.out hb); have W4 := zM (z7 W3.out hb); have V4 := zM hbox; have B4 := zM (zQ B3.out hb); have G4 := zM (show X.heap.size ≤ gg by rw [hg]; exact zR B3.out); have N4 := zM (show gw ≠ gg by have := LX.out; have := G4.out; omega); have M4 := zM (show gg ≠ gw by have := LX.out; have := G4.out; omega); clear hb hbox hg S3 T3 W3 B3; have hn_ := N4.out; have hm_ := M4.out; have hc_gg_w4 : w4.cell? ⟨gg, 0, none⟩ = some (.slice none 0 0) := (z5 V4.out 0).trans rfl; have hf_gg_w4 := z6 V4.out 0; have hc_gw_w4 : w4.cell? ⟨gw, 0, none⟩ = some (.slice Aw l.length cw) := (z5 W4.out 0).trans rfl; have hf_gw_w4 := z6 W4.out 0)
  | (have S4s := zM (Kd.S_far (p := ⟨gg, 0, none⟩) (Kd.S_types S4.out V4.out (by decide)) (fun _ hk => hk.2) (.slice Ag l.length cg)); have T4s := zM (Kd.S_far (p := ⟨gg, 0, none⟩) (Kd.S_types T4.out V4.out (by decide)) (fun _ hk => hk.2) (.slice Ag l.length cg)); (with_reducible refine gate_callee (f := 6) rfl ?_); refine goesL_ (some 26) rfl rfl Tryz.func6 (by kernel_rfl) rfl #[.agg #[.slice Ag l.length cg], .agg #[.slice Aw l.length cw]] rfl (by (try simp only [List.map_toArray, List.map_cons, List.map_nil]); first | done | rfl) ?_; (with_reducible refine (laws_FnExactParseProgram.eqP _ _ _ _ l _ (Kd.S_reads' T4s.out).2.2 (Kd.S_reads' S4s.out).2.2).mono ?_); rintro e w5 ⟨rfl, hb⟩; refine ⟨_, rfl, ?_⟩; have S5 := zM (Kd.S_mono (Kd.S_below S4s.out hb) (fun _ hk => hk.1)); have T5 := zM (Kd.S_mono (Kd.S_below T4s.out hb) (fun _ hk => hk.1)); have W5 := zM (z7 (blk_far W4.out N4.out _) hb); have V5 := zM (z7 (blk_put (cs := #[.slice none 0 0]) V4.out 0 (.slice Ag l.length cg) rfl) hb); have B5 := zM (zQ (zS B4.out G4.out) hb); clear hb S4 T4 W4 V4 B4 S4s T4s; have hc_gg_w5 : w5.cell? ⟨gg, 0, none⟩ = some (.slice Ag l.length cg) := (z5 V5.out 0).trans rfl; have hf_gg_w5 := z6 V5.out 0)
  | ((with_reducible refine gate_callee (f := 7) rfl ?_); refine goesL_ (some 35) rfl rfl Tryz.func7 (by kernel_rfl) rfl #[.agg #[.slice Ag l.length cg], .int .i64 1] rfl (by (try simp only [List.map_toArray, List.map_cons, List.map_nil]); first | done | rfl) ?_; (with_reducible refine (laws_FnExactParseProgram.markP _ (.slice Ag l.length cg) l X w5 B5.out (Kd.S_bound T5.out) H6.out H24.out).mono ?_); rintro e w6 ⟨rfl, ht, hb, hk⟩; refine ⟨_, rfl, ?_⟩; have S6 := zM (Kd.S_kept S5.out hk (fun k_ h1 h2 => by have := h1.2; have := h2.2.1; omega)); have T6 := zM (show Kd.S k40 40 w6 X.heap.size (fun _ => True) (.slice Ag l.length cg) (laws_FnExactParseProgram.mkt 1 l) from Kd.S_mono ht (fun _ _ => trivial)); have W6 := zM (blk_kept W5.out hk (fun h2 => by have := h2.2.1; have := LX.out; omega)); have V6 := zM (blk_kept V5.out hk (fun h2 => by obtain ⟨q, hq, cs_, hc⟩ := h2.2.2.2; have e_ := hc.symm.trans V5.out; injection e_ with e_; injection e_ with _ e_; subst e_; revert hq; decide)); have B6 := zM hb; have EL := zM ((Kd.S_reads' T5.out).1.symm.trans (Kd.S_reads' T6.out).1); clear ht hb hk S5 T5 W5 V5 B5 hc_gg_w5 hf_gg_w5; have hc_gg_w6 : w6.cell? ⟨gg, 0, none⟩ = some (.slice Ag l.length cg) := (z5 V6.out 0).trans rfl; have hf_gg_w6 := z6 V6.out 0)
  | (have T6s := zM (Kd.S_reads' T6.out); (with_reducible refine gate_callee (f := 8) rfl ?_); refine goesL_ (some 38) rfl rfl Tryz.func8 (by kernel_rfl) rfl #[.agg #[.slice Ag l.length cg], .int .i64 1] rfl (by (try simp only [List.map_toArray, List.map_cons, List.map_nil]); first | done | rfl) ?_; (with_reducible refine (HELDC.out w6 T6s.out.2.2 T6s.out.1 T6s.out.2.1).mono ?_); rintro e w7 ⟨rfl, hb⟩; refine ⟨_, rfl, ?_⟩; have S7 := zM (Kd.S_below S6.out hb); have T7 := zM (Kd.S_below T6.out hb); have W7 := zM (z7 W6.out hb); have V7 := zM (z7 V6.out hb); have B7 := zM (zQ B6.out hb); clear hb S6 T6 W6 V6 B6 T6s hc_gg_w6 hf_gg_w6)
  | ((with_reducible refine gate_callee (f := 5) rfl ?_); refine goesL_ (some 46) rfl rfl Tryz.func5 (by kernel_rfl) rfl #[.string a0] rfl (by (try simp only [List.map_toArray, List.map_cons, List.map_nil]); first | done | rfl) ?_; (with_reducible refine (impl_ParseProgram.calls k a0 l n _ A4.out (GL.below HG.out (B2s.out.trans (B7.out.mono (zR B2s.out))))).mono ?_); rintro e w8 ⟨vh, rfl, ho, hb⟩; refine ⟨_, rfl, ?_⟩; have S8 := zM (Kd.S_below S7.out hb); have T8 := zM (Kd.S_below T7.out hb); have U8 := zM ho; have W8 := zM (z7 W7.out hb); have V8 := zM (z7 V7.out hb); have B8 := zM (zQ B7.out hb); clear ho hb S7 T7 W7 V7 B7)
  | ((with_reducible refine gate_dst (N := 9) rfl ?_); refine box_event ?hg (N := 9) ?hd (cs := #[.slice none 0 0]) (t := 24) ?hr ?_; (case hd => rfl); (case hg => rfl); (case hr => first | (go_simp; done) | (go_simp; rfl)); intro gh hg w9 hbox hb; obtain ⟨Ah, ch, eh⟩ := Kd.S_slice U8.out; subst eh; have S9 := zM (Kd.S_below S8.out hb); have T9 := zM (Kd.S_below T8.out hb); have U9 := zM (Kd.S_below U8.out hb); have W9 := zM (z7 W8.out hb); have V9 := zM (z7 V8.out hb); have H9 := zM hbox; have B9 := zM (zQ B8.out hb); have G9 := zM (show X.heap.size ≤ gh by rw [hg]; exact zR B8.out); have N9 := zM (show gw ≠ gh by have := LX.out; have := G9.out; omega); have M9 := zM (show gh ≠ gw by have := LX.out; have := G9.out; omega); have N9g := zM (show gg ≠ gh by rw [hg]; exact Nat.ne_of_lt (blk_lt V8.out)); have M9g := zM (show gh ≠ gg from fun z => N9g.out z.symm); clear hb hbox hg S8 T8 U8 W8 V8 B8; have hn2_ := N9.out; have hm2_ := M9.out; have hn3_ := N9g.out; have hm3_ := M9g.out; have hc_gh_w9 : w9.cell? ⟨gh, 0, none⟩ = some (.slice none 0 0) := (z5 H9.out 0).trans rfl; have hf_gh_w9 := z6 H9.out 0; have hc_gw_w9 : w9.cell? ⟨gw, 0, none⟩ = some (.slice Aw l.length cw) := (z5 W9.out 0).trans rfl; have hf_gw_w9 := z6 W9.out 0; have hc_gg_w9 : w9.cell? ⟨gg, 0, none⟩ = some (.slice Ag l.length cg) := (z5 V9.out 0).trans rfl; have hf_gg_w9 := z6 V9.out 0)
  | (have S9s := zM (Kd.S_far (p := ⟨gh, 0, none⟩) (Kd.S_types S9.out H9.out (by decide)) (fun _ hk => hk.2) (.slice Ah l.length ch)); have T9s := zM (Kd.S_far (p := ⟨gh, 0, none⟩) (Kd.S_types T9.out H9.out (by decide)) (fun _ hk => hk.2) (.slice Ah l.length ch)); have U9s := zM (Kd.S_far (p := ⟨gh, 0, none⟩) (Kd.S_types U9.out H9.out (by decide)) (fun _ hk => hk.2) (.slice Ah l.length ch)); (with_reducible refine gate_callee (f := 6) rfl ?_); refine goesL_ (some 51) rfl rfl Tryz.func6 (by kernel_rfl) rfl #[.agg #[.slice Ah l.length ch], .agg #[.slice Aw l.length cw]] rfl (by (try simp only [List.map_toArray, List.map_cons, List.map_nil]); first | done | rfl) ?_; (with_reducible refine (laws_FnExactParseProgram.eqP _ _ _ _ l _ (Kd.S_reads' U9s.out).2.2 (Kd.S_reads' S9s.out).2.2).mono ?_); rintro e w10 ⟨rfl, hb⟩; refine ⟨_, rfl, ?_⟩; have T10 := zM (Kd.S_below T9s.out hb); have V10 := zM (z7 (blk_far V9.out N9g.out _) hb); have B10 := zM (zQ (zS B9.out G9.out) hb); clear hb S9 T9 U9 W9 V9 H9 B9 S9s T9s U9s; have hc_gg_w10 : w10.cell? ⟨gg, 0, none⟩ = some (.slice Ag l.length cg) := (z5 V10.out 0).trans rfl; have hf_gg_w10 := z6 V10.out 0)
  | (have T10s := zM (Kd.S_reads' T10.out); (with_reducible refine gate_callee (f := 8) rfl ?_); refine goesL_ (some 60) rfl rfl Tryz.func8 (by kernel_rfl) rfl #[.agg #[.slice Ag l.length cg], .int .i64 1] rfl (by (try simp only [List.map_toArray, List.map_cons, List.map_nil]); first | done | rfl) ?_; (with_reducible refine (HELDC.out w10 T10s.out.2.2 T10s.out.1 T10s.out.2.1).mono ?_); rintro e w11 ⟨rfl, hb⟩; refine ⟨_, rfl, ?_⟩; have B11 := zM (zQ B10.out hb); clear hb))
 go_ret
 exact ⟨rfl, B2s.out.trans (B11.out.mono (zR B2s.out))⟩
def laws_FnExactParseProgram.Pure : Prop := ∀ (a0 : ByteArray), a0.size ≤ 140737488351232 → ∃ (k : Nat) (l : List S40) (n : Int), (a0.size : Int) ≤ 1048576 → spec_ParseProgram.f k a0 = some (l, n) ∧ impl_ParseProgram.f k a0 = some (l, n) ∧ l.length ≤ 6 ∧ ∀ t ∈ l, t.f0.length ≤ 24
theorem laws_FnExactParseProgram.walk (P : laws_FnExactParseProgram.Pure) (a0 : ByteArray) (w : World) (w0 : a0.size ≤ 140737488351232) (hGL : GL w) :
  Calls Tryz.prog 3 #[.string a0] w fun e w' => e = .returned (.bool true) ∧ Below w.heap.size w w' := by
 obtain ⟨k, l, n, h⟩ := P a0 w0
 exact laws_FnExactParseProgram.calls k a0 w l n h hGL
end Go.Proofs.YtcpmkcidehhbiaaGreatDoor.PFnExactParseProgram
