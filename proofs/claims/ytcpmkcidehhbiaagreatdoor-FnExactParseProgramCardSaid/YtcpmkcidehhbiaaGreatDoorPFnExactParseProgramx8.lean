/- Walks of the functions that a statement reaches, written by a program (the printing program, mended): no condition. -/
import Derived.Test.YtcpmkcidehhbiaaGreatDoorPFnExactParseProgramx0
import Derived.Test.YtcpmkcidehhbiaaGreatDoorPFnExactParseProgramx3
import Derived.Test.YtcpmkcidehhbiaaGreatDoorPFnExactParseProgramx6
import Derived.Test.YtcpmkcidehhbiaaGreatDoorPFnExactParseProgramx7
namespace Go.Proofs.YtcpmkcidehhbiaaGreatDoor.PFnExactParseProgram
open Go.RowKit Go.Proofs.YtcpmkcidehhbiaaGreatDoorW.PrintWords Go.Proofs.YtcpmkcidehhbiaaGreatDoorW.PrintLast Go.Proofs.YtcpmkcidehhbiaaGreatDoorW.PrintMore
attribute [local go_sem] max2_int min2_int max_two min_two max_three min_three max_four min_four
set_option linter.unusedVariables false
set_option maxRecDepth 100000
set_option maxHeartbeats 8000000
set_option linter.unusedSimpArgs false
mutual
def spec_ParseStmt.j0 : Nat → List ByteArray → Bool → Option (Int × Int × Int × Int × Int × Int × Bool)
 | 0, _, _ => none
 | k + 1, x4, x23 => if x23 = true then (some (0, 0, 0, 0, 0, 0, false)) else (if 0 < (x4.length : Int) then (spec_ParseStmt.l0 k x4 (rdOf ByteArray.empty x4 0) (([] : List Int)) 1) else (none))
def spec_ParseStmt.l0 : Nat → List ByteArray → ByteArray → List Int → Int → Option (Int × Int × Int × Int × Int × Int × Bool)
 | 0, _, _, _, _ => none
 | k + 1, x4, x6, x7, x8 => if x8 < (x4.length : Int) then (if x6.size + 1 ≤ 9223372036854775807 then (if 0 ≤ x8 then (if (x6 ++ (⟨#[32]⟩ : ByteArray)).size + (rdOf ByteArray.empty x4 x8).size ≤ 9223372036854775807 then ((spec_l04Number.f k (rdOf ByteArray.empty x4 x8)).bind fun t180 => (if x7.length < 17592186044416 then (spec_ParseStmt.l0 k x4 ((x6 ++ (⟨#[32]⟩ : ByteArray)) ++ (rdOf ByteArray.empty x4 x8)) (x7 ++ [t180]) (wrap64 (x8 + 1))) else (none))) else (none)) else (none)) else (none)) else ((some (([0, 0, 0, 0] : List Int) : List Int)).bind fun y184 => (if x7.length + y184.length < 17592186044416 then (spec_ParseStmt.l1 k x6 (x7 ++ y184) 1) else (none)))
def spec_ParseStmt.l1 : Nat → ByteArray → List Int → Int → Option (Int × Int × Int × Int × Int × Int × Bool)
 | 0, _, _, _ => none
 | k + 1, x6, x7, x9 => if x9 ≤ 6 then (if 0 < (x7.length : Int) then (if 1 < (x7.length : Int) then (if 2 < (x7.length : Int) then (if 3 < (x7.length : Int) then ((spec_l04Plain.f x9 (rd x7 0) (rd x7 1) (rd x7 1) (rd x7 2) (rd x7 3)).bind fun bt195 => (if x9 = 3 then (spec_ParseStmt.j3 k x6 x7 x9 x9 (x9 == 3) bt195.1 bt195.2.1 bt195.2.2.1 bt195.2.2.2.1 bt195.2.2.2.2.1 bt195.2.2.2.2.2) else (spec_ParseStmt.j3 k x6 x7 x9 x9 (x9 == 4) bt195.1 bt195.2.1 bt195.2.2.1 bt195.2.2.2.1 bt195.2.2.2.2.1 bt195.2.2.2.2.2))) else (none)) else (none)) else (none)) else (none)) else (some (0, 0, 0, 0, 0, 0, false))
def spec_ParseStmt.j4 : Nat → ByteArray → List Int → Int → Int → Int → Int → Int → Int → Int → Option (Int × Int × Int × Int × Int × Int × Bool)
 | 0, _, _, _, _, _, _, _, _, _ => none
 | k + 1, x6, x7, x9, x202000, x202001, x202002, x202003, x202004, x202005 => (spec_StmtOk.f k x202000 x202001 x202002 x202003 x202004 x202005).bind fun t206 => (if t206 = true then ((spec_FormatStmt.f k x202000 x202001 x202002 x202003 x202004 x202005).bind fun t207 => (if t207.toList = x6.toList then (some (x202000, x202001, x202002, x202003, x202004, x202005, true)) else (spec_ParseStmt.l1 k x6 x7 (wrap64 (x9 + 1))))) else (spec_ParseStmt.l1 k x6 x7 (wrap64 (x9 + 1))))
def spec_ParseStmt.j3 : Nat → ByteArray → List Int → Int → Int → Bool → Int → Int → Int → Int → Int → Int → Option (Int × Int × Int × Int × Int × Int × Bool)
 | 0, _, _, _, _, _, _, _, _, _, _, _ => none
 | k + 1, x6, x7, x9, x76, x77, x202000, x202001, x202002, x202003, x202004, x202005 => if x77 = true then (if 0 < (x7.length : Int) then (if 1 < (x7.length : Int) then (if 2 < (x7.length : Int) then (spec_ParseStmt.j4 k x6 x7 x9 x202000 x202001 x202002 (rd x7 0) (rd x7 1) (rd x7 2)) else (none)) else (none)) else (none)) else (if x76 = 5 then (if 0 < (x7.length : Int) then (spec_ParseStmt.j4 k x6 x7 x9 x202000 x202001 (rd x7 0) x202003 x202004 x202005) else (none)) else (spec_ParseStmt.j4 k x6 x7 x9 x202000 x202001 x202002 x202003 x202004 x202005))
end
def spec_ParseStmt.f (k : Nat) (a0 : ByteArray) : Option (Int × Int × Int × Int × Int × Int × Bool) := (spec_SplitFields.f k a0).bind fun bt169 => (if bt169.2 = true then ((spec_l01In.f (bt169.1.length : Int) 1 5).bind fun t173 => (spec_ParseStmt.j0 k bt169.1 (!t173))) else (spec_ParseStmt.j0 k bt169.1 true))
theorem spec_ParseStmt.mono_l : ∀ k, (∀ y0 y1, LeO (spec_ParseStmt.j0 k y0 y1) (spec_ParseStmt.j0 (k + 1) y0 y1)) ∧ (∀ y0 y1 y2 y3, LeO (spec_ParseStmt.l0 k y0 y1 y2 y3) (spec_ParseStmt.l0 (k + 1) y0 y1 y2 y3)) ∧ (∀ y0 y1 y2, LeO (spec_ParseStmt.l1 k y0 y1 y2) (spec_ParseStmt.l1 (k + 1) y0 y1 y2)) ∧ (∀ y0 y1 y2 y3 y4 y5 y6 y7 y8, LeO (spec_ParseStmt.j4 k y0 y1 y2 y3 y4 y5 y6 y7 y8) (spec_ParseStmt.j4 (k + 1) y0 y1 y2 y3 y4 y5 y6 y7 y8)) ∧ (∀ y0 y1 y2 y3 y4 y5 y6 y7 y8 y9 y10, LeO (spec_ParseStmt.j3 k y0 y1 y2 y3 y4 y5 y6 y7 y8 y9 y10) (spec_ParseStmt.j3 (k + 1) y0 y1 y2 y3 y4 y5 y6 y7 y8 y9 y10))
 | 0 => ⟨fun _ _ r h => by simp [spec_ParseStmt.j0] at h, fun _ _ _ _ r h => by simp [spec_ParseStmt.l0] at h, fun _ _ _ r h => by simp [spec_ParseStmt.l1] at h, fun _ _ _ _ _ _ _ _ _ r h => by simp [spec_ParseStmt.j4] at h, fun _ _ _ _ _ _ _ _ _ _ _ r h => by simp [spec_ParseStmt.j3] at h⟩
 | k + 1 => by
  obtain ⟨ih0, ih1, ih2, ih3, ih4⟩ := spec_ParseStmt.mono_l k
  refine ⟨?_, ?_, ?_, ?_, ?_⟩
  intro y0 y1; unfold spec_ParseStmt.j0; rotate_left; intro y0 y1 y2 y3; unfold spec_ParseStmt.l0; rotate_left; intro y0 y1 y2; unfold spec_ParseStmt.l1; rotate_left; intro y0 y1 y2 y3 y4 y5 y6 y7 y8; unfold spec_ParseStmt.j4; rotate_left; intro y0 y1 y2 y3 y4 y5 y6 y7 y8 y9 y10; unfold spec_ParseStmt.j3; rotate_left
  all_goals repeat' first | (with_reducible first | exact ih0 _ _ | exact ih1 _ _ _ _ | exact ih2 _ _ _ | exact ih3 _ _ _ _ _ _ _ _ _ | exact ih4 _ _ _ _ _ _ _ _ _ _ _ | exact spec_FormatStmt.mono _ _ _ _ _ _ _ | exact spec_SplitFields.mono _ _ | exact spec_StmtOk.mono _ _ _ _ _ _ _ | exact spec_l04Number.mono _ _ | exact LeO.refl _ | exact LeO.none _ | refine LeO.ite ?_ ?_ | refine LeO.bind ?_ (fun _ => ?_)) | exact ih0 _ _ | exact ih1 _ _ _ _ | exact ih2 _ _ _ | exact ih3 _ _ _ _ _ _ _ _ _ | exact ih4 _ _ _ _ _ _ _ _ _ _ _ | exact spec_FormatStmt.mono _ _ _ _ _ _ _ | exact spec_SplitFields.mono _ _ | exact spec_StmtOk.mono _ _ _ _ _ _ _ | exact spec_l04Number.mono _ _ | exact LeO.none _ | refine LeO.ite ?_ ?_ | refine LeO.bind ?_ (fun _ => ?_)
theorem spec_ParseStmt.mono : ∀ a0 k, LeO (spec_ParseStmt.f k a0) (spec_ParseStmt.f (k + 1) a0) := by
 intro a0 k
 obtain ⟨ih0, ih1, ih2, ih3, ih4⟩ := spec_ParseStmt.mono_l k
 unfold spec_ParseStmt.f
 repeat' first | (with_reducible first | exact ih0 _ _ | exact ih1 _ _ _ _ | exact ih2 _ _ _ | exact ih3 _ _ _ _ _ _ _ _ _ | exact ih4 _ _ _ _ _ _ _ _ _ _ _ | exact spec_FormatStmt.mono _ _ _ _ _ _ _ | exact spec_SplitFields.mono _ _ | exact spec_StmtOk.mono _ _ _ _ _ _ _ | exact spec_l04Number.mono _ _ | exact LeO.refl _ | exact LeO.none _ | refine LeO.ite ?_ ?_ | refine LeO.bind ?_ (fun _ => ?_)) | exact ih0 _ _ | exact ih1 _ _ _ _ | exact ih2 _ _ _ | exact ih3 _ _ _ _ _ _ _ _ _ | exact ih4 _ _ _ _ _ _ _ _ _ _ _ | exact spec_FormatStmt.mono _ _ _ _ _ _ _ | exact spec_SplitFields.mono _ _ | exact spec_StmtOk.mono _ _ _ _ _ _ _ | exact spec_l04Number.mono _ _ | exact LeO.none _ | refine LeO.ite ?_ ?_ | refine LeO.bind ?_ (fun _ => ?_)
def spec_ParseStmt.T15 : Bool × List (List Nat × List Nat) := (true, [([], []), ([], []), ([1], [1]), ([2], [2]), ([], []), ([4], [4]), ([5], [5]), ([], []), ([7], [7]), ([8], [8]), ([], []), ([10], [10]), ([11], [11]), ([], []), ([13], [13]), ([14], [14]), ([9, 12, 15], [9, 12, 15]), ([0, 3, 6, 16], [0, 3, 6, 16]), ([17], [17]), ([], []), ([19, 18, 18, 0, 1, 2, 3, 4, 5, 6, 7, 8, 9, 10, 11, 12, 13, 14, 15, 16, 17, 18, 19], [18, 19])])
def spec_ParseStmt.B15 : List Nat := [0, 0, 2, 6, 0, 16, 48, 0, 128, 384, 0, 1024, 3072, 0, 8192, 24576, 65408, 131071, 262143, 0, 1048575]
theorem spec_ParseStmt.tab15 : rtab .any (opsOf Tryz.f10 15) = spec_ParseStmt.T15 := by kernel_rfl
theorem spec_ParseStmt.bits15 : waitsOk spec_ParseStmt.T15.2 spec_ParseStmt.B15 = true := by kernel_rfl
def spec_ParseStmt.T19 : Bool × List (List Nat × List Nat) := (true, [([], []), ([0], [0]), ([1], [1]), ([], []), ([3], [3]), ([4], [4]), ([], []), ([6], [6]), ([7], [7]), ([2, 5, 8], [2, 5, 8]), ([0, 1, 2, 3, 4, 5, 6, 7, 8, 9], []), ([10, 9, 0, 1, 2, 3, 4, 5, 6, 7, 8, 9], [9, 10])])
def spec_ParseStmt.B19 : List Nat := [0, 1, 3, 0, 8, 24, 0, 64, 192, 511, 1023, 2047]
theorem spec_ParseStmt.tab19 : rtab .any (opsOf Tryz.f10 19) = spec_ParseStmt.T19 := by kernel_rfl
theorem spec_ParseStmt.bits19 : waitsOk spec_ParseStmt.T19.2 spec_ParseStmt.B19 = true := by kernel_rfl
theorem spec_ParseStmt.calls (k : Nat) (a0 : ByteArray) (r1 : Int) (r2 : Int) (r3 : Int) (r4 : Int) (r5 : Int) (r6 : Int) (r7 : Bool) (w : World) (h : spec_ParseStmt.f k a0 = some (r1, r2, r3, r4, r5, r6, r7)) :
  Calls Tryz.prog 10 #[.string a0] w fun e w' => e = .returned (.tuple #[.agg #[.int .i64 r1, .int .i64 r2, .int .i64 r3, .int .i64 r4, .int .i64 r5, .int .i64 r6], .bool r7]) ∧ Below w.heap.size w w' := by
 have hu35 := Tryz.underlying35
 have hu31 := Tryz.underlying31
 have HB := zM (Below.refl w.heap.size w)
 have H : ((spec_SplitFields.f k a0).bind fun bt169 => (if bt169.2 = true then ((spec_l01In.f (bt169.1.length : Int) 1 5).bind fun t173 => (spec_ParseStmt.j0 k bt169.1 (!t173))) else (spec_ParseStmt.j0 k bt169.1 true))) = some (r1, r2, r3, r4, r5, r6, r7) := h
 clear h
 replace H := Option.bind_eq_some_iff.mp H
 obtain ⟨⟨t169, t170⟩, A20, H⟩ := H
 replace H : (if t170 = true then ((spec_l01In.f (t169.length : Int) 1 5).bind fun t173 => (spec_ParseStmt.j0 k t169 (!t173))) else (spec_ParseStmt.j0 k t169 true)) = some (r1, r2, r3, r4, r5, r6, r7) := H
 have A2 := zM A20
 clear A20
 have HC3 := zM H
 clear H
 go_enter Tryz.func10, Tryz.ntmps10
 go_upto_region 2 with (first | ((with_reducible refine gate_dst (N := 2) rfl ?_); (try (refine gate_guard (by rfl) ?_; dsimp only)); refine box_event ?hg (N := 2) ?hd (cs := #[.int .i64 0, .int .i64 0, .int .i64 0, .int .i64 0, .int .i64 0, .int .i64 0]) (t := 35) ?hr ?_; (case hd => rfl); (case hg => rfl); (case hr => first | (go_simp; done) | (go_simp; rfl)); intro gb168 hg w4 hbox hb; have n0_ := zM (zQ zb hb); have n1_ := zM (hbox); have n2_ := zM ((by rw [hg]; exact (zR zb) : w.heap.size ≤ gb168)); have n3_ := zM ((by rw [hg]; exact (zR zb) : w.heap.size ≤ gb168)); clear HB; have HB := n0_; have BK168 := n1_; have GW168 := n2_; have GE168 := n3_; clear n0_ n1_ n2_ n3_; clear hb hbox hg) | ((with_reducible refine gate_callee (f := 21) rfl ?_); refine goesL_ (some 13) rfl rfl Tryz.func21 (by kernel_rfl) rfl #[.string a0] rfl zg ?_; (with_reducible refine (spec_SplitFields.calls k a0 t169 t170 _ A2.out).mono ?_); rintro e w5 ⟨v171, rfl, ho0, hb⟩; refine ⟨_, rfl, ?_⟩; have n0_ := zM (zf ho0 (zR zb)); have n1_ := zM (z7 (g := gb168) (o := .cells #[.int .i64 0, .int .i64 0, .int .i64 0, .int .i64 0, .int .i64 0, .int .i64 0] 35 (0, 0)) zk hb); have n2_ := zM (zQ zb hb); clear BK168; clear HB; have HO172 := n0_; have BK168 := n1_; have HB := n2_; clear n0_ n1_ n2_; (try clear hb); (try clear ho0)))
 (try simp only [Act.put, List.setIfInBounds_toArray, List.set_cons_zero, List.set_cons_succ])
 go_cut [23] (fun v23 wc => ∃ (kq : Nat) (x23_2 : Bool), v23 = .bool x23_2 ∧ Aside0 (spec_ParseStmt.j0 kq t169 x23_2 = some (r1, r2, r3, r4, r5, r6, r7)) ∧ Aside0 (kq ≤ k) ∧ Aside0 (Kd.R Kd.string 9 wc w.heap.size (fun _ => True) v171 t169) ∧ Aside0 (wc.heap[gb168]? = some (.cells #[.int .i64 0, .int .i64 0, .int .i64 0, .int .i64 0, .int .i64 0, .int .i64 0] 35 (0, 0))) ∧ Aside0 (Below w.heap.size w wc))
 case first =>
  have H := HC3.out
  clear HC3
  by_cases c6 : t170 = true
  ·subst c6
   have H1 : ((spec_l01In.f (t169.length : Int) 1 5).bind fun t173 => (spec_ParseStmt.j0 k t169 (!t173))) = some (r1, r2, r3, r4, r5, r6, r7) := by rw [if_pos rfl] at H; exact H
   clear H
   have H := H1
   clear H1
   replace H := Option.bind_eq_some_iff.mp H
   obtain ⟨t173, A70, H⟩ := H
   replace H : (spec_ParseStmt.j0 k t169 (!t173)) = some (r1, r2, r3, r4, r5, r6, r7) := H
   have A7 := zM A70
   clear A70
   have H' := zM H
   clear H
   obtain ⟨Ao8, co8, eo8⟩ := Kd.R_slice HO172.out
   subst eo8
   go_wp2_with (first | (go_at_call 25; (with_reducible refine (spec_l01In.calls (t169.length : Int) 1 5 t173 _ A7.out).mono ?_); rintro e w' ⟨rfl, ⟨nd, rfl⟩⟩))
   go_meet
   case rel => exact ⟨_, (!t173), zs, H', ⟨by first | omega | exact Nat.le_refl _⟩, ⟨by (with_reducible repeat (first | apply zI | apply zJ | apply zK)); exact HO172.out⟩, ⟨zk⟩, ⟨zb⟩⟩
  replace c6 := Bool.eq_false_iff.mpr c6
  subst c6
  have H1 : (spec_ParseStmt.j0 k t169 true) = some (r1, r2, r3, r4, r5, r6, r7) := by rw [if_neg (show ¬ (false = true) by decide)] at H; exact H
  clear H
  have H := H1
  clear H1
  have H' := zM H
  clear H
  go_wp2
  go_meet
  case rel => exact ⟨_, (true), zs, H', ⟨by first | omega | exact Nat.le_refl _⟩, ⟨by (with_reducible repeat (first | apply zI | apply zJ | apply zK)); exact HO172.out⟩, ⟨zk⟩, ⟨zb⟩⟩
 case rest =>
  clear HC3
  try clear c1
  try clear c2
  try clear p2
  try clear c6
  obtain ⟨kq, x23_2, rfl, HA, HJ2, HO_4, BK168, HB⟩ := hcut
  cases kq with
  | zero => exact absurd HA.out (by simp [spec_ParseStmt.j0])
  | succ kj2 =>
   have H := HA.out
   clear HA
   simp only [spec_ParseStmt.j0] at H
   by_cases c9 : x23_2 = true
   ·subst c9
    have H1 : (some (0, 0, 0, 0, 0, 0, false)) = some (r1, r2, r3, r4, r5, r6, r7) := by rw [if_pos rfl] at H; exact H
    clear H
    have H := H1
    clear H1
    simp only [Option.some.injEq, Prod.mk.injEq] at H
    obtain ⟨rfl, rfl, rfl, rfl, rfl, rfl, rfl⟩ := H
    have hcz10_0 := (z5 BK168.out 0).trans rfl
    have hcz10_1 := (z5 BK168.out 1).trans rfl
    have hcz10_2 := (z5 BK168.out 2).trans rfl
    have hcz10_3 := (z5 BK168.out 3).trans rfl
    have hcz10_4 := (z5 BK168.out 4).trans rfl
    have hcz10_5 := (z5 BK168.out 5).trans rfl
    have hfz10_0 := z6 BK168.out 0
    have hfz10_1 := z6 BK168.out 1
    have hfz10_2 := z6 BK168.out 2
    have hfz10_3 := z6 BK168.out 3
    have hfz10_4 := z6 BK168.out 4
    have hfz10_5 := z6 BK168.out 5
    go_wp2
    refine bodyPost_ret (results_ct rfl _ _ gb168 35 #[.int .i64 0, .int .i64 0, .int .i64 0, .int .i64 0, .int .i64 0, .int .i64 0] (0, 0) _ rfl (by (with_reducible repeat (first | refine zN ?_ _ | refine zO ?_ | refine zP ?_ _)); refine blk_put (cs := #[.int .i64 0, .int .i64 0, .int .i64 0, .int .i64 0, .int .i64 0, .int .i64 0]) ?_ 5 _ rfl; (with_reducible repeat (first | refine zN ?_ _ | refine zO ?_ | refine zP ?_ _)); refine blk_put (cs := #[.int .i64 0, .int .i64 0, .int .i64 0, .int .i64 0, .int .i64 0, .int .i64 0]) ?_ 4 _ rfl; (with_reducible repeat (first | refine zN ?_ _ | refine zO ?_ | refine zP ?_ _)); refine blk_put (cs := #[.int .i64 0, .int .i64 0, .int .i64 0, .int .i64 0, .int .i64 0, .int .i64 0]) ?_ 3 _ rfl; (with_reducible repeat (first | refine zN ?_ _ | refine zO ?_ | refine zP ?_ _)); refine blk_put (cs := #[.int .i64 0, .int .i64 0, .int .i64 0, .int .i64 0, .int .i64 0, .int .i64 0]) ?_ 2 _ rfl; (with_reducible repeat (first | refine zN ?_ _ | refine zO ?_ | refine zP ?_ _)); refine blk_put (cs := #[.int .i64 0, .int .i64 0, .int .i64 0, .int .i64 0, .int .i64 0, .int .i64 0]) ?_ 1 _ rfl; (with_reducible repeat (first | refine zN ?_ _ | refine zO ?_ | refine zP ?_ _)); refine blk_put (cs := #[.int .i64 0, .int .i64 0, .int .i64 0, .int .i64 0, .int .i64 0, .int .i64 0]) ?_ 0 _ rfl; (with_reducible repeat (first | refine zN ?_ _ | refine zO ?_ | refine zP ?_ _)); exact BK168.out) Tryz.underlying35 rfl (by kernel_rfl)) rfl ?_
    exact ⟨by first | rfl | (simp [errW_none, errW_some] <;> rfl) | (simp [*, errW_none, errW_some] <;> rfl), zb⟩
   replace c9 := Bool.eq_false_iff.mpr c9
   subst c9
   have H1 : (if 0 < (t169.length : Int) then (spec_ParseStmt.l0 kj2 t169 (rdOf ByteArray.empty t169 0) (([] : List Int)) 1) else (none)) = some (r1, r2, r3, r4, r5, r6, r7) := by rw [if_neg (show ¬ (false = true) by decide)] at H; exact H
   clear H
   have H := H1
   clear H1
   by_cases c11 : 0 < (t169.length : Int)
   ·rw [if_pos c11] at H
    have c11b0 : decide (0 < (t169.length : Int)) = true := decide_eq_true c11
    have c11b1 : decide (0 < t169.length) = true := decide_eq_true (by omega)
    clear c11
    obtain ⟨y175, hyq⟩ : ∃ y_ : List Int, y_ = (([] : List Int)) := ⟨_, rfl⟩
    replace H : (spec_ParseStmt.l0 kj2 t169 (rdOf ByteArray.empty t169 0) y175 1) = some (r1, r2, r3, r4, r5, r6, r7) := zh
    have Ny175 := zM hyq
    clear hyq
    have H' := zM H
    clear H
    obtain ⟨Ao12, co12, eo12⟩ := Kd.R_slice HO_4.out
    subst eo12
    have p174 : 0 ≤ (0 : Int) := (by omega)
    have q174 : 0 < (t169.length : Int) := zd
    obtain ⟨ad174, e174, hx174_0⟩ := Kd.at_string (z9 HO_4.out).2.2 0 p174 q174
    cases e174
    have qi174 : (0 < t169.length) = True := eq_true (by omega)
    (try rw [show ((0 : Int)).toNat = 0 from rfl] at hx174_0)
    (try rw [Addr.add_zero'] at hx174_0)
    replace p174 := eq_true p174
    replace q174 := eq_true q174
    go_wp2_with (first | ((with_reducible refine gate_dst (N := 28) rfl ?_); (try (refine gate_guard (by rfl) ?_; dsimp only)); refine Kd.R_lit (Kd.int .i64) _ 3 ?hg (N := 28) ?hd (xs := ([] : List Int)) (inner := []) (ok := fun _ => True) (okp := fun _ => True) ?hr ?hp (fun _ hk => hk) trivial (Below.refl _ _) (Nat.le_refl _) (by simp) ?_; (case hd => rfl); (case hg => rfl); (case hr => first | (go_simp; done) | (go_simp; rfl)); (case hp => exact (Reps.none _ _)); intro v176 w13 ho14 hb hg_ hnew_; clear hg_ hnew_; (first | rw [← Ny175.out] at ho14 | (simp only [Int.reduceToNat] at ho14; rw [← Ny175.out] at ho14)); have n0_ := zM (ze (by (with_reducible repeat (first | apply zI | apply zJ | apply zK)); exact HO_4.out) hb); have n1_ := zM (zf ho14 (zR zb)); have n2_ := zM (z7 (g := gb168) (o := .cells #[.int .i64 0, .int .i64 0, .int .i64 0, .int .i64 0, .int .i64 0, .int .i64 0] 35 (0, 0)) zk hb); have n3_ := zM (zQ zb hb); clear HO_4; clear BK168; clear HB; have HO_4 := n0_; have HO177 := n1_; have BK168 := n2_; have HB := n3_; clear n0_ n1_ n2_ n3_; clear hb ho14))
    go_loopg [6, 7, 8] kj2 (fun kq v6 v7 v8 w' => ∃ (x6_2 : ByteArray) (x7_2 : List Int) (x8_2 : Int), v6 = .string x6_2 ∧ v8 = .int .i64 x8_2 ∧ Aside0 (spec_ParseStmt.l0 kq t169 x6_2 x7_2 x8_2 = some (r1, r2, r3, r4, r5, r6, r7)) ∧ Aside0 (kq ≤ kj2) ∧ Aside0 (Kd.R Kd.string 9 w' w.heap.size (fun _ => True) (.slice (some ad174) t169.length co12) t169) ∧ Aside0 (Kd.R (Kd.int .i64) 3 w' w.heap.size (fun _ => True) v7 x7_2) ∧ Aside0 (w'.heap[gb168]? = some (.cells #[.int .i64 0, .int .i64 0, .int .i64 0, .int .i64 0, .int .i64 0, .int .i64 0] 35 (0, 0))) ∧ Aside0 (Below w.heap.size w w'))
    case atStart => exact ⟨(rdOf ByteArray.empty t169 0), (y175), (1), zs, zs, H', ⟨Nat.le_refl _⟩, ⟨by (with_reducible repeat (first | apply zI | apply zJ | apply zK)); exact HO_4.out⟩, ⟨by (with_reducible repeat (first | apply zI | apply zJ | apply zK)); exact HO177.out⟩, ⟨zk⟩, ⟨zb⟩⟩
    case round =>
     clear H'
     try clear c1
     try clear p1
     try clear q1
     try clear hx1
     try clear qi1
     try clear c2
     try clear p2
     try clear c6
     try clear c9
     try clear c10
     try clear c11
     try clear c11b0
     try clear c11b1
     try clear hcz10_0
     try clear hcz10_1
     try clear hcz10_2
     try clear hcz10_3
     try clear hcz10_4
     try clear hcz10_5
     try clear hfz10_0
     try clear hfz10_1
     try clear hfz10_2
     try clear hfz10_3
     try clear hfz10_4
     try clear hfz10_5
     try clear hx174_0
     try clear p174
     try clear p2
     try clear q174
     obtain ⟨x6_2, x7_2, x8_2, rfl, rfl, HA, HK2, HO_4, HO_7, BK168, HB⟩ := hrel
     cases gk with
     | zero => exact absurd HA.out (by simp [spec_ParseStmt.l0])
     | succ k2 =>
      have H := HA.out
      clear HA
      simp only [spec_ParseStmt.l0] at H
      by_cases c15 : x8_2 < (t169.length : Int)
      ·rw [if_pos c15] at H
       have c15b0 : decide (x8_2 < (t169.length : Int)) = true := decide_eq_true c15
       clear c15
       by_cases c16 : x6_2.size + 1 ≤ 9223372036854775807
       ·rw [if_pos c16] at H
        have c16b0 := eq_true c16
        have c16b1 : decide (x6_2.size + 1 ≤ 9223372036854775807) = true := decide_eq_true c16
        try have c16b2 : (9223372036854775807 < x6_2.size + 1) = False := eq_false (Nat.not_lt.2 c16)
        by_cases c17 : 0 ≤ x8_2
        ·rw [if_pos c17] at H
         have c17b0 : decide (0 ≤ x8_2) = true := decide_eq_true c17
         clear c17
         by_cases c18 : (x6_2 ++ (⟨#[32]⟩ : ByteArray)).size + (rdOf ByteArray.empty t169 x8_2).size ≤ 9223372036854775807
         ·rw [if_pos c18] at H
          have c18b0 := eq_true c18
          have c18b1 : decide ((x6_2 ++ (⟨#[32]⟩ : ByteArray)).size + (rdOf ByteArray.empty t169 x8_2).size ≤ 9223372036854775807) = true := decide_eq_true c18
          try have c18b2 : (9223372036854775807 < (x6_2 ++ (⟨#[32]⟩ : ByteArray)).size + (rdOf ByteArray.empty t169 x8_2).size) = False := eq_false (Nat.not_lt.2 c18)
          try have c18b3 : (9223372036854775807 < x6_2.size + 1 + (rdOf ByteArray.empty t169 x8_2).size) = False := by have z := c18b2; simp only [ByteArray.size_append] at z; exact z
          replace H := Option.bind_eq_some_iff.mp H
          obtain ⟨t180, A190, H⟩ := H
          replace H : (if x7_2.length < 17592186044416 then (spec_ParseStmt.l0 k2 t169 ((x6_2 ++ (⟨#[32]⟩ : ByteArray)) ++ (rdOf ByteArray.empty t169 x8_2)) (x7_2 ++ [t180]) (wrap64 (x8_2 + 1))) else (none)) = some (r1, r2, r3, r4, r5, r6, r7) := H
          have A19 := zM A190
          clear A190
          by_cases c20 : x7_2.length < 17592186044416
          ·rw [if_pos c20] at H
           have LMc20 := zM c20
           clear c20
           obtain ⟨y181, hyq⟩ : ∃ y_ : List Int, y_ = (x7_2 ++ [t180]) := ⟨_, rfl⟩
           replace H : (spec_ParseStmt.l0 k2 t169 ((x6_2 ++ (⟨#[32]⟩ : ByteArray)) ++ (rdOf ByteArray.empty t169 x8_2)) y181 (wrap64 (x8_2 + 1))) = some (r1, r2, r3, r4, r5, r6, r7) := zh
           have Ny181 := zM hyq
           clear hyq
           have H' := zM H
           clear H
           have p178 : 0 ≤ (x8_2 : Int) := zd
           have q178 : x8_2 < (t169.length : Int) := zd
           obtain ⟨ad178, e178, hx178_0⟩ := Kd.at_string (z9 HO_4.out).2.2 x8_2 p178 q178
           obtain rfl : ad174 = ad178 := (by injection e178)
           replace p178 := eq_true p178
           replace q178 := eq_true q178
           have p179 : 0 ≤ (x8_2 : Int) := zd
           have q179 : x8_2 < (t169.length : Int) := zd
           obtain ⟨ad179, e179, hx179_0⟩ := Kd.at_string (z9 HO_4.out).2.2 x8_2 p179 q179
           obtain rfl : ad174 = ad179 := (by injection e179)
           replace p179 := eq_true p179
           replace q179 := eq_true q179
           go_wp2_with (first | ((with_reducible refine gate_callee (f := 22) rfl ?_); refine goesL_ (some 47) rfl rfl Tryz.func22 (by kernel_rfl) rfl #[.string (rdOf ByteArray.empty t169 x8_2)] rfl zg ?_; (with_reducible refine (spec_l04Number.calls k2 (rdOf ByteArray.empty t169 x8_2) t180 _ A19.out).mono ?_); rintro e w' ⟨rfl, ⟨nd, rfl⟩⟩; refine ⟨_, rfl, ?_⟩) | ((with_reducible refine gate_builtin (b := .append) (xs := #[.tmp 42, .tmp 48]) rfl ?_); (try (refine gate_guard (by rfl) ?_; dsimp only)); at_builtin; refine Kd.R_append (Kd.int .i64) (w0 := w) w.heap.size rfl (.tmp 42) (.tmp 48) 54 3 (.int .i64 0) 8 rfl Tryz.underlying54 info3 rfl (by decide) (by omega) u7 x7_2 t180 [.int .i64 t180] (fun _ => True) (fun _ => False) rfl rfl ?aP (fun _ hk => hk.elim) ?aF ?aO ?aB ?aS ?aL ?_; (case aP => exact rfl); (case aB => exact zb); (case aF => exact (fun _ _ => trivial)); (case aO => exact (by (with_reducible repeat (first | apply zI | apply zJ | apply zK)); exact HO_7.out)); (case aS => exact (zR zb)); (case aL => have := LMc20.out; omega); intro v182 w21 ho hb hg hat; (first | rw [← Ny181.out] at ho | (simp only [Int.reduceToNat] at ho; rw [← Ny181.out] at ho)); have n0_ := zM (Kd.R_over' (by (with_reducible repeat (first | apply zI | apply zJ | apply zK)); exact HO_4.out) (Kd.R_typed (by (with_reducible repeat (first | apply zI | apply zJ | apply zK)); exact HO_7.out)) (by decide) hg); have n1_ := zM (blk_grown (g := gb168) (o := .cells #[.int .i64 0, .int .i64 0, .int .i64 0, .int .i64 0, .int .i64 0, .int .i64 0] 35 (0, 0)) zk hg (Kd.R_ne HO_7.out BK168.out (by decide))); have n2_ := zM (hb); have n3_ := zM (ho); clear HO_4; clear BK168; clear HB; clear HO_7; have HO_4 := n0_; have BK168 := n1_; have HB := n2_; have HO183 := n3_; clear n0_ n1_ n2_ n3_; clear ho hb hg hat))
           go_roundg k2
           case measure => have := HJ2.out; have := HK2.out; omega
           case rel => exact ⟨((x6_2 ++ (⟨#[32]⟩ : ByteArray)) ++ (rdOf ByteArray.empty t169 x8_2)), (y181), (wrap64 (x8_2 + 1)), zs, zs, H', ⟨by have := HJ2.out; have := HK2.out; omega⟩, ⟨by (with_reducible repeat (first | apply zI | apply zJ | apply zK)); exact HO_4.out⟩, ⟨by (with_reducible repeat (first | apply zI | apply zJ | apply zK)); exact HO183.out⟩, ⟨zk⟩, ⟨zb⟩⟩
          rw [if_neg c20] at H
          exact absurd H (by simp)
         rw [if_neg c18] at H
         exact absurd H (by simp)
        rw [if_neg c17] at H
        exact absurd H (by simp)
       rw [if_neg c16] at H
       exact absurd H (by simp)
      rw [if_neg c15] at H
      have c15b0 : decide (x8_2 < (t169.length : Int)) = false := decide_eq_false c15
      clear c15
      obtain ⟨y184, hyq⟩ : ∃ y_ : List Int, y_ = (([0, 0, 0, 0] : List Int)) := ⟨_, rfl⟩
      replace H : (if x7_2.length + y184.length < 17592186044416 then (spec_ParseStmt.l1 k2 x6_2 (x7_2 ++ y184) 1) else (none)) = some (r1, r2, r3, r4, r5, r6, r7) := zh
      have Ny184 := zM hyq
      clear hyq
      by_cases c22 : x7_2.length + y184.length < 17592186044416
      ·rw [if_pos c22] at H
       have LMc22 := zM c22
       clear c22
       obtain ⟨y187, hyq⟩ : ∃ y_ : List Int, y_ = (x7_2 ++ y184) := ⟨_, rfl⟩
       replace H : (spec_ParseStmt.l1 k2 x6_2 y187 1) = some (r1, r2, r3, r4, r5, r6, r7) := zh
       have Ny187 := zM hyq
       clear hyq
       have H' := zM H
       clear H
       go_wp2_with (first | ((with_reducible refine gate_dst (N := 51) rfl ?_); (try (refine gate_guard (by rfl) ?_; dsimp only)); refine Kd.R_lit (Kd.int .i64) _ 3 ?hg (N := 51) ?hd (xs := ([0, 0, 0, 0] : List Int)) (inner := [.int .i64 0, .int .i64 0, .int .i64 0, .int .i64 0]) (ok := fun _ => True) (okp := fun _ => True) ?hr ?hp (fun _ hk => hk) trivial (Below.refl _ _) (Nat.le_refl _) (by simp) ?_; (case hd => rfl); (case hg => rfl); (case hr => first | (go_simp; done) | (go_simp; rfl)); (case hp => exact (Reps.one (show Kd.M (Kd.int .i64) _ _ _ 0 [.int .i64 0] from rfl) (Reps.one (show Kd.M (Kd.int .i64) _ _ _ 0 [.int .i64 0] from rfl) (Reps.one (show Kd.M (Kd.int .i64) _ _ _ 0 [.int .i64 0] from rfl) (Reps.one (show Kd.M (Kd.int .i64) _ _ _ 0 [.int .i64 0] from rfl) (Reps.none _ _)))))); intro v185 w23 ho24 hb hg_ hnew_; clear hg_ hnew_; (first | rw [← Ny184.out] at ho24 | (simp only [Int.reduceToNat] at ho24; rw [← Ny184.out] at ho24)); have n0_ := zM (ze (by (with_reducible repeat (first | apply zI | apply zJ | apply zK)); exact HO_4.out) hb); have n1_ := zM (Kd.R_elder' (by (with_reducible repeat (first | apply zI | apply zJ | apply zK)); exact HO_7.out) (Kd.R_base ho24) hb); have n2_ := zM (zf (Kd.R_new' ho24 (Kd.R_lt (by (with_reducible repeat (first | apply zI | apply zJ | apply zK)); exact HO_7.out))) (zR zb)); have n3_ := zM (z7 (g := gb168) (o := .cells #[.int .i64 0, .int .i64 0, .int .i64 0, .int .i64 0, .int .i64 0, .int .i64 0] 35 (0, 0)) zk hb); have n4_ := zM (zQ zb hb); clear HO_4; clear HO_7; clear BK168; clear HB; have HO_4 := n0_; have HO_7 := n1_; have HO186 := n2_; have BK168 := n3_; have HB := n4_; clear n0_ n1_ n2_ n3_ n4_; clear hb ho24; obtain ⟨Ao26, co26, eo26⟩ := Kd.R_slice HO186.out; subst eo26) | ((with_reducible refine gate_builtin (b := .append) (xs := #[.tmp 50, .tmp 51]) rfl ?_); (try (refine gate_guard (by rfl) ?_; dsimp only)); at_builtin; refine Kd.R_append_rows (Kd.int .i64) (w0 := w) w.heap.size rfl (.tmp 50) (.tmp 51) 54 3 (.int .i64 0) 8 rfl Tryz.underlying54 info3 rfl (by decide) (by omega) u7 x7_2 y184 _ _ _ (fun k_ => some k_ ≠ (.slice Ao26 y184.length co26 : Value).ownBlock) (fun _ => False) rfl rfl ?aO ?aR (fun _ _ h => h) (fun _ h => h.elim) ?aF ?aB ?aS ?aL ?_; (case aR => repeat (first | exact (z9 HO186.out).2.2 | (with_reducible refine zF ?_ _) | (with_reducible refine zG ?_ _) | (with_reducible refine zH ?_))); (case aB => exact zb); (case aF => exact (fun k_ hk => Kd.fresh' (Kd.R_lt (by (with_reducible repeat (first | apply zI | apply zJ | apply zK)); exact HO186.out)) k_ hk)); (case aO => exact (by (with_reducible repeat (first | apply zI | apply zJ | apply zK)); exact z1 HO_7.out (fun _ hk => hk.2))); (case aS => exact (zR zb)); (case aL => have := LMc22.out; omega); intro v188 w25 ho hb hg hat; (first | rw [← Ny187.out] at ho | (simp only [Int.reduceToNat] at ho; rw [← Ny187.out] at ho)); have n0_ := zM (Kd.R_over' (by (with_reducible repeat (first | apply zI | apply zJ | apply zK)); exact HO_4.out) (Kd.R_typed (by (with_reducible repeat (first | apply zI | apply zJ | apply zK)); exact HO_7.out)) (by decide) hg); have n1_ := zM (blk_grown (g := gb168) (o := .cells #[.int .i64 0, .int .i64 0, .int .i64 0, .int .i64 0, .int .i64 0, .int .i64 0] 35 (0, 0)) zk hg (Kd.R_ne HO_7.out BK168.out (by decide))); have n2_ := zM (Kd.R_after (ok := (fun _ => True)) (by (with_reducible repeat (first | apply zI | apply zJ | apply zK)); exact HO186.out) hg hat); have n3_ := zM (hb); have n4_ := zM (ho); clear HO_4; clear BK168; clear HO186; clear HB; clear HO_7; have HO_4 := n0_; have BK168 := n1_; have HO186 := n2_; have HB := n3_; have HO189 := n4_; clear n0_ n1_ n2_ n3_ n4_; clear ho hb hg hat))
       go_loopg [9] k2 (fun kq v9 w' => ∃ (x9_3 : Int) (x169000_3 : Int) (x169001_3 : Int) (x169002_3 : Int) (x169003_3 : Int) (x169004_3 : Int) (x169005_3 : Int), v9 = .int .i64 x9_3 ∧ Aside0 (spec_ParseStmt.l1 kq x6_2 y187 x9_3 = some (r1, r2, r3, r4, r5, r6, r7)) ∧ Aside0 (kq ≤ k2) ∧ Aside0 (Kd.R (Kd.int .i64) 3 w' w.heap.size (fun _ => True) v188 y187) ∧ Aside0 (w'.heap[gb168]? = some (.cells #[.int .i64 x169000_3, .int .i64 x169001_3, .int .i64 x169002_3, .int .i64 x169003_3, .int .i64 x169004_3, .int .i64 x169005_3] 35 (0, 0))) ∧ Aside0 (Below w.heap.size w w'))
       case atStart => exact ⟨(1), (0), (0), (0), (0), (0), (0), zs, H', ⟨Nat.le_refl _⟩, ⟨by (with_reducible repeat (first | apply zI | apply zJ | apply zK)); exact z1 HO189.out (fun _ hk => trivial)⟩, ⟨zk⟩, ⟨zb⟩⟩
       case round =>
        clear H'
        try clear c1
        try clear p1
        try clear q1
        try clear hx1
        try clear qi1
        try clear c2
        try clear p2
        try clear c6
        try clear p6
        try clear c9
        try clear c10
        try clear c11
        try clear c11b0
        try clear c11b1
        try clear c15
        try clear c15b0
        try clear c16
        try clear c16b0
        try clear c16b1
        try clear c16b2
        try clear c17
        try clear c17b0
        try clear p17
        try clear q17
        try clear hx17
        try clear qi17
        try clear c18
        try clear c18b0
        try clear c18b1
        try clear c18b2
        try clear c20
        try clear c21
        try clear c22
        try clear hcz10_0
        try clear hcz10_1
        try clear hcz10_2
        try clear hcz10_3
        try clear hcz10_4
        try clear hcz10_5
        try clear hfz10_0
        try clear hfz10_1
        try clear hfz10_2
        try clear hfz10_3
        try clear hfz10_4
        try clear hfz10_5
        try clear hx174_0
        try clear hx178_0
        try clear hx179_0
        try clear p1
        try clear p174
        try clear p178
        try clear p179
        try clear p2
        try clear q1
        try clear q174
        try clear q178
        try clear q179
        obtain ⟨x9_3, x169000_3, x169001_3, x169002_3, x169003_3, x169004_3, x169005_3, rfl, HA, HK3, HO_7, BK168, HB⟩ := hrel
        cases gk with
        | zero => exact absurd HA.out (by simp [spec_ParseStmt.l1])
        | succ k3 =>
         have H := HA.out
         clear HA
         simp only [spec_ParseStmt.l1] at H
         by_cases c27 : x9_3 ≤ 6
         ·rw [if_pos c27] at H
          have c27b0 : decide (x9_3 ≤ 6) = true := decide_eq_true c27
          clear c27
          by_cases c28 : 0 < (y187.length : Int)
          ·rw [if_pos c28] at H
           have c28b0 : decide (0 < (y187.length : Int)) = true := decide_eq_true c28
           have c28b1 : decide (0 < y187.length) = true := decide_eq_true (by omega)
           clear c28
           by_cases c29 : 1 < (y187.length : Int)
           ·rw [if_pos c29] at H
            have c29b0 : decide (1 < (y187.length : Int)) = true := decide_eq_true c29
            have c29b1 : decide (1 < y187.length) = true := decide_eq_true (by omega)
            clear c29
            by_cases c30 : 2 < (y187.length : Int)
            ·rw [if_pos c30] at H
             have c30b0 : decide (2 < (y187.length : Int)) = true := decide_eq_true c30
             have c30b1 : decide (2 < y187.length) = true := decide_eq_true (by omega)
             clear c30
             by_cases c31 : 3 < (y187.length : Int)
             ·rw [if_pos c31] at H
              have c31b0 : decide (3 < (y187.length : Int)) = true := decide_eq_true c31
              have c31b1 : decide (3 < y187.length) = true := decide_eq_true (by omega)
              clear c31
              replace H := Option.bind_eq_some_iff.mp H
              obtain ⟨⟨t195, t196, t197, t198, t199, t200⟩, A320, H⟩ := H
              replace H : (if x9_3 = 3 then (spec_ParseStmt.j3 k3 x6_2 y187 x9_3 x9_3 (x9_3 == 3) t195 t196 t197 t198 t199 t200) else (spec_ParseStmt.j3 k3 x6_2 y187 x9_3 x9_3 (x9_3 == 4) t195 t196 t197 t198 t199 t200)) = some (r1, r2, r3, r4, r5, r6, r7) := H
              have A32 := zM A320
              clear A320
              have HC33 := zM H
              clear H
              try go_wp2
              have n0_ := zM (zK HO_7.out)
              have n1_ := zM (zO BK168.out)
              have n2_ := zM (z4 HB.out)
              clear HO_7
              clear BK168
              clear HB
              have HO_7 := n0_
              have BK168 := n1_
              have HB := n2_
              clear n0_ n1_ n2_
              obtain ⟨Ao35, co35, eo35⟩ := Kd.R_slice HO_7.out
              (first | subst eo35 | (injection eo35 with f1_ f2_ f3_; have f4_ := f1_.symm; have f5_ := f3_.symm; clear f1_ f2_ f3_; subst f4_; subst f5_))
              have p190 : 0 ≤ (0 : Int) := (by omega)
              have q190 : 0 < (y187.length : Int) := zd
              obtain ⟨ad190, e190, hx190_0⟩ := Kd.at_int (z9 HO_7.out).2.2 0 p190 q190
              cases e190
              have qi190 : (0 < y187.length) = True := eq_true (by omega)
              (try rw [show ((0 : Int)).toNat = 0 from rfl] at hx190_0)
              (try rw [Addr.add_zero'] at hx190_0)
              replace p190 := eq_true p190
              replace q190 := eq_true q190
              have p191 : 0 ≤ (1 : Int) := (by omega)
              have q191 : 1 < (y187.length : Int) := zd
              obtain ⟨ad191, e191, hx191_0⟩ := Kd.at_int (z9 HO_7.out).2.2 1 p191 q191
              obtain rfl : ad190 = ad191 := (by injection e191)
              (try simp only [show (1 : Int).toNat = 1 from rfl, Nat.reduceMul, Nat.reduceEqDiff, Go.Addr.add, ↓reduceIte] at hx191_0)
              have qi191 : (1 < y187.length) = True := eq_true (by omega)
              (try rw [show ((1 : Int)).toNat = 1 from rfl] at hx191_0)
              replace p191 := eq_true p191
              replace q191 := eq_true q191
              have p192 : 0 ≤ (1 : Int) := (by omega)
              have q192 : 1 < (y187.length : Int) := zd
              obtain ⟨ad192, e192, hx192_0⟩ := Kd.at_int (z9 HO_7.out).2.2 1 p192 q192
              obtain rfl : ad190 = ad192 := (by injection e192)
              (try simp only [show (1 : Int).toNat = 1 from rfl, Nat.reduceMul, Nat.reduceEqDiff, Go.Addr.add, ↓reduceIte] at hx192_0)
              have qi192 : (1 < y187.length) = True := eq_true (by omega)
              (try rw [show ((1 : Int)).toNat = 1 from rfl] at hx192_0)
              replace p192 := eq_true p192
              replace q192 := eq_true q192
              have p193 : 0 ≤ (2 : Int) := (by omega)
              have q193 : 2 < (y187.length : Int) := zd
              obtain ⟨ad193, e193, hx193_0⟩ := Kd.at_int (z9 HO_7.out).2.2 2 p193 q193
              obtain rfl : ad190 = ad193 := (by injection e193)
              (try simp only [show (2 : Int).toNat = 2 from rfl, Nat.reduceMul, Nat.reduceEqDiff, Go.Addr.add, ↓reduceIte] at hx193_0)
              have qi193 : (2 < y187.length) = True := eq_true (by omega)
              (try rw [show ((2 : Int)).toNat = 2 from rfl] at hx193_0)
              replace p193 := eq_true p193
              replace q193 := eq_true q193
              have p194 : 0 ≤ (3 : Int) := (by omega)
              have q194 : 3 < (y187.length : Int) := zd
              obtain ⟨ad194, e194, hx194_0⟩ := Kd.at_int (z9 HO_7.out).2.2 3 p194 q194
              obtain rfl : ad190 = ad194 := (by injection e194)
              (try simp only [show (3 : Int).toNat = 3 from rfl, Nat.reduceMul, Nat.reduceEqDiff, Go.Addr.add, ↓reduceIte] at hx194_0)
              have qi194 : (3 < y187.length) = True := eq_true (by omega)
              (try rw [show ((3 : Int)).toNat = 3 from rfl] at hx194_0)
              replace p194 := eq_true p194
              replace q194 := eq_true q194
              refine start_ (n := 21) (S := fun w' => w'.cell? ad190 = some (.int .i64 (rd y187 0)) ∧ w'.cell? ⟨ad190.block, ad190.off + 1, none⟩ = some (.int .i64 (rd y187 1)) ∧ w'.cell? ⟨ad190.block, ad190.off + 1, none⟩ = some (.int .i64 (rd y187 1)) ∧ w'.cell? ⟨ad190.block, ad190.off + 2, none⟩ = some (.int .i64 (rd y187 2)) ∧ w'.cell? ⟨ad190.block, ad190.off + 3, none⟩ = some (.int .i64 (rd y187 3))) (ds := []) #[false, false, false, false, false, false, false, false, false, false, false, false, false, false, false, false, false, false, false, false, false] (by kernel_rfl) rfl rfl ⟨hx190_0, hx191_0, hx192_0, hx193_0, hx194_0⟩ (fun hHeld => ?_); refine with_tabW spec_ParseStmt.tab15 spec_ParseStmt.bits15 (fun HT_ HW_ => ?_)
              generalize wr.drew = w34 at HO_7 BK168 HB hx190_0 hx191_0 hx192_0 hx193_0 hx194_0 hHeld ⊢
              refine pure_ (i := 0) (N := some 57) (v := ?_) (a' := ?_) #[true, false, false, false, false, false, false, false, false, false, false, false, false, false, false, false, false, false, false, false, false] rfl rfl (any_of HT_.out (by kernel_rfl)) (fun _ _ _ h => h) (Or.inl ⟨by rfl, ?_⟩) ?_ ?_
              rotate_left
              ·intro w'
               go_simp
               with_reducible rfl
              rotate_left
              ·exact zu
              refine pure_ (i := 1) (N := some 58) (v := ?_) (a' := ?_) #[true, true, false, false, false, false, false, false, false, false, false, false, false, false, false, false, false, false, false, false, false] rfl rfl (any_of HT_.out (by kernel_rfl)) (fun _ _ _ h => h) (Or.inl ⟨by rfl, ?_⟩) ?_ ?_
              rotate_left
              ·intro w'
               go_simp
               with_reducible rfl
              rotate_left
              ·exact zu
              refine pure_ (i := 2) (N := some 59) (v := ?_) (a' := ?_) #[true, true, true, false, false, false, false, false, false, false, false, false, false, false, false, false, false, false, false, false, false] rfl rfl (any_of HT_.out (by kernel_rfl)) (fun _ _ _ h => h) (Or.inl ⟨by rfl, ?_⟩) ?_ ?_
              rotate_left
              ·intro w'
               go_simp
               with_reducible rfl
              rotate_left
              ·exact zu
              refine pure_ (i := 4) (N := some 61) (v := ?_) (a' := ?_) #[true, true, true, false, true, false, false, false, false, false, false, false, false, false, false, false, false, false, false, false, false] rfl rfl (any_of HT_.out (by kernel_rfl)) (fun _ _ _ h => h) (Or.inl ⟨by rfl, ?_⟩) ?_ ?_
              rotate_left
              ·intro w'
               go_simp
               with_reducible rfl
              rotate_left
              ·exact zu
              refine pure_ (i := 5) (N := some 62) (v := ?_) (a' := ?_) #[true, true, true, false, true, true, false, false, false, false, false, false, false, false, false, false, false, false, false, false, false] rfl rfl (any_of HT_.out (by kernel_rfl)) (fun _ _ _ h => h) (Or.inl ⟨by rfl, ?_⟩) ?_ ?_
              rotate_left
              ·intro w'
               go_simp
               with_reducible rfl
              rotate_left
              ·exact zu
              refine pure_ (i := 7) (N := some 64) (v := ?_) (a' := ?_) #[true, true, true, false, true, true, false, true, false, false, false, false, false, false, false, false, false, false, false, false, false] rfl rfl (any_of HT_.out (by kernel_rfl)) (fun _ _ _ h => h) (Or.inl ⟨by rfl, ?_⟩) ?_ ?_
              rotate_left
              ·intro w'
               go_simp
               with_reducible rfl
              rotate_left
              ·exact zu
              refine pure_ (i := 8) (N := some 65) (v := ?_) (a' := ?_) #[true, true, true, false, true, true, false, true, true, false, false, false, false, false, false, false, false, false, false, false, false] rfl rfl (any_of HT_.out (by kernel_rfl)) (fun _ _ _ h => h) (Or.inl ⟨by rfl, ?_⟩) ?_ ?_
              rotate_left
              ·intro w'
               go_simp
               with_reducible rfl
              rotate_left
              ·exact zu
              refine pure_ (i := 10) (N := some 67) (v := ?_) (a' := ?_) #[true, true, true, false, true, true, false, true, true, false, true, false, false, false, false, false, false, false, false, false, false] rfl rfl (any_of HT_.out (by kernel_rfl)) (fun _ _ _ h => h) (Or.inl ⟨by rfl, ?_⟩) ?_ ?_
              rotate_left
              ·intro w'
               go_simp
               with_reducible rfl
              rotate_left
              ·exact zu
              refine pure_ (i := 11) (N := some 68) (v := ?_) (a' := ?_) #[true, true, true, false, true, true, false, true, true, false, true, true, false, false, false, false, false, false, false, false, false] rfl rfl (any_of HT_.out (by kernel_rfl)) (fun _ _ _ h => h) (Or.inl ⟨by rfl, ?_⟩) ?_ ?_
              rotate_left
              ·intro w'
               go_simp
               with_reducible rfl
              rotate_left
              ·exact zu
              refine pure_ (i := 13) (N := some 70) (v := ?_) (a' := ?_) #[true, true, true, false, true, true, false, true, true, false, true, true, false, true, false, false, false, false, false, false, false] rfl rfl (any_of HT_.out (by kernel_rfl)) (fun _ _ _ h => h) (Or.inl ⟨by rfl, ?_⟩) ?_ ?_
              rotate_left
              ·intro w'
               go_simp
               with_reducible rfl
              rotate_left
              ·exact zu
              refine pure_ (i := 14) (N := some 71) (v := ?_) (a' := ?_) #[true, true, true, false, true, true, false, true, true, false, true, true, false, true, true, false, false, false, false, false, false] rfl rfl (any_of HT_.out (by kernel_rfl)) (fun _ _ _ h => h) (Or.inl ⟨by rfl, ?_⟩) ?_ ?_
              rotate_left
              ·intro w'
               go_simp
               with_reducible rfl
              rotate_left
              ·exact zu
              refine take_ (i := 3) (N := some 60) (v := ?_) (a' := ?_) #[true, true, true, true, true, true, false, true, true, false, true, true, false, true, true, false, false, false, false, false, false] rfl rfl (take_ofW HT_.out HW_.out (by kernel_rfl)) (fun _ _ _ h => h) (Or.inl ⟨by rfl, ?_⟩) hHeld ?_ ?_
              rotate_left
              ·rintro w' ⟨s0, s1, s2, s3, s4⟩
               go_simp
               with_reducible rfl
              rotate_left
              ·exact zu
              refine take_ (i := 6) (N := some 63) (v := ?_) (a' := ?_) #[true, true, true, true, true, true, true, true, true, false, true, true, false, true, true, false, false, false, false, false, false] rfl rfl (take_ofW HT_.out HW_.out (by kernel_rfl)) (fun _ _ _ h => h) (Or.inl ⟨by rfl, ?_⟩) hHeld ?_ ?_
              rotate_left
              ·rintro w' ⟨s0, s1, s2, s3, s4⟩
               go_simp
               with_reducible rfl
              rotate_left
              ·exact zu
              refine take_ (i := 9) (N := some 66) (v := ?_) (a' := ?_) #[true, true, true, true, true, true, true, true, true, true, true, true, false, true, true, false, false, false, false, false, false] rfl rfl (take_ofW HT_.out HW_.out (by kernel_rfl)) (fun _ _ _ h => h) (Or.inl ⟨by rfl, ?_⟩) hHeld ?_ ?_
              rotate_left
              ·rintro w' ⟨s0, s1, s2, s3, s4⟩
               go_simp
               with_reducible rfl
              rotate_left
              ·exact zu
              refine take_ (i := 12) (N := some 69) (v := ?_) (a' := ?_) #[true, true, true, true, true, true, true, true, true, true, true, true, true, true, true, false, false, false, false, false, false] rfl rfl (take_ofW HT_.out HW_.out (by kernel_rfl)) (fun _ _ _ h => h) (Or.inl ⟨by rfl, ?_⟩) hHeld ?_ ?_
              rotate_left
              ·rintro w' ⟨s0, s1, s2, s3, s4⟩
               go_simp
               with_reducible rfl
              rotate_left
              ·exact zu
              refine take_ (i := 15) (N := some 72) (v := ?_) (a' := ?_) #[true, true, true, true, true, true, true, true, true, true, true, true, true, true, true, true, false, false, false, false, false] rfl rfl (take_ofW HT_.out HW_.out (by kernel_rfl)) (fun _ _ _ h => h) (Or.inl ⟨by rfl, ?_⟩) hHeld ?_ ?_
              rotate_left
              ·rintro w' ⟨s0, s1, s2, s3, s4⟩
               go_simp
               with_reducible rfl
              rotate_left
              ·exact zu
              refine pure_ (i := 16) (N := some 73) (v := ?_) (a' := ?_) #[true, true, true, true, true, true, true, true, true, true, true, true, true, true, true, true, true, false, false, false, false] rfl rfl (any_of HT_.out (by kernel_rfl)) (fun _ _ _ h => h) (Or.inl ⟨by rfl, ?_⟩) ?_ ?_
              rotate_left
              ·intro w'
               go_simp
               with_reducible rfl
              rotate_left
              ·exact zu
              refine pure_ (i := 17) (N := some 74) (v := ?_) (a' := ?_) #[true, true, true, true, true, true, true, true, true, true, true, true, true, true, true, true, true, true, false, false, false] rfl rfl (any_of HT_.out (by kernel_rfl)) (fun _ _ _ h => h) (Or.inl ⟨by rfl, ?_⟩) ?_ ?_
              rotate_left
              ·intro w'
               go_simp
               with_reducible rfl
              rotate_left
              ·exact zu
              refine join_ (σ := Nat) 1 #[true, true, true, true, true, true, true, true, true, true, true, true, true, true, true, true, true, true, true, true, false] (fun s_ => [(75, .agg #[.int .i64 t195, .int .i64 t196, .int .i64 t197, .int .i64 t198, .int .i64 t199, .int .i64 t200]), (10, .pointer (some ⟨s_, 0, none⟩))]) (fun s_ w' => (w'.cell? ad190 = some (.int .i64 (rd y187 0)) ∧ w'.cell? ⟨ad190.block, ad190.off + 1, none⟩ = some (.int .i64 (rd y187 1)) ∧ w'.cell? ⟨ad190.block, ad190.off + 1, none⟩ = some (.int .i64 (rd y187 1)) ∧ w'.cell? ⟨ad190.block, ad190.off + 2, none⟩ = some (.int .i64 (rd y187 2)) ∧ w'.cell? ⟨ad190.block, ad190.off + 3, none⟩ = some (.int .i64 (rd y187 3))) ∧ (Kd.R (Kd.int .i64) 3 w' w.heap.size (fun _ => True) (.slice (some ad190) y187.length co35) y187) ∧ (w'.heap[gb168]? = some (.cells #[.int .i64 x169000_3, .int .i64 x169001_3, .int .i64 x169002_3, .int .i64 x169003_3, .int .i64 x169004_3, .int .i64 x169005_3] 35 (0, 0))) ∧ (w'.heap[s_]? = some (.cells #[.int .i64 0, .int .i64 0, .int .i64 0, .int .i64 0, .int .i64 0, .int .i64 0] 35 (0, 0))) ∧ (w.heap.size ≤ s_) ∧ (w.heap.size ≤ s_) ∧ (gb168 ≠ s_) ∧ (s_ ≠ gb168) ∧ (Below w.heap.size w w')) ?_ ?_
              rotate_left
              ·intro hCont
               refine two_ (i := 18) (j := 19) (Ni := some 75) (Nj := some 10) #[true, true, true, true, true, true, true, true, true, true, true, true, true, true, true, true, true, true, true, false, false] #[true, true, true, true, true, true, true, true, true, true, true, true, true, true, true, true, true, true, false, true, false] rfl rfl rfl rfl (two_of HT_.out (by kernel_rfl)) (by decide) (by decide) (fun K hK => ?_) (fun K hK => ?_)
               ·skip
                refine goes_ Tryz.func26 (by kernel_rfl) rfl #[.agg #[.int .i64 x9_3, .int .i64 (rd y187 0), .int .i64 (rd y187 1), .int .i64 (rd y187 1), .int .i64 (rd y187 2), .int .i64 (rd y187 3)]] (by rfl) rfl rfl zg ?_
                with_reducible refine (spec_l04Plain.calls x9_3 (rd y187 0) (rd y187 1) (rd y187 1) (rd y187 2) (rd y187 3) t195 t196 t197 t198 t199 t200 _ A32.out).mono ?_
                rintro e w36 ⟨rfl, hb⟩
                have HS0_ := (hb.cell (zm _ _ (hHeld.1))).trans (hHeld.1)
                have HS1_ := (hb.cell (zm _ _ (hHeld.2.1))).trans (hHeld.2.1)
                have HS2_ := (hb.cell (zm _ _ (hHeld.2.2.1))).trans (hHeld.2.2.1)
                have HS3_ := (hb.cell (zm _ _ (hHeld.2.2.2.1))).trans (hHeld.2.2.2.1)
                have HS4_ := (hb.cell (zm _ _ (hHeld.2.2.2.2))).trans (hHeld.2.2.2.2)
                refine ⟨_, rfl, ?_⟩
                have n0_ := zM (ze (by (with_reducible repeat (first | apply zI | apply zJ | apply zK)); exact HO_7.out) hb)
                have n1_ := zM (z7 (g := gb168) (o := .cells #[.int .i64 x169000_3, .int .i64 x169001_3, .int .i64 x169002_3, .int .i64 x169003_3, .int .i64 x169004_3, .int .i64 x169005_3] 35 (0, 0)) zk hb)
                have n2_ := zM (zQ zb hb)
                clear HO_7
                clear BK168
                clear HB
                have HO_7 := n0_
                have BK168 := n1_
                have HB := n2_
                clear n0_ n1_ n2_
                (try clear hb)
                (try clear hb2)
                (try clear hk)
                (try clear hi)
                refine hK.out _ _ ⟨HS0_, HS1_, HS2_, HS3_, HS4_⟩ (fun hHeld => ?_)
                clear hK K
                refine norm_ (a' := ?_) ?_ ?_
                rotate_left
                ·show Act.put _ (some 75) _ = _
                 exact zu
                refine one_ (i := 19) (N := some 10) #[true, true, true, true, true, true, true, true, true, true, true, true, true, true, true, true, true, true, true, true, false] rfl rfl (one_of HT_.out (by kernel_rfl)) (by decide) (fun K hK => ?_)
                refine box_step ?hg (N := 10) ?hd (cs := #[.int .i64 0, .int .i64 0, .int .i64 0, .int .i64 0, .int .i64 0, .int .i64 0]) (t := 35) ?hr ?_; (case hd => rfl); (case hg => rfl); (case hr => first | (go_simp; done) | (go_simp; rfl))
                intro gb201 hg w37 hbox hb
                have HS0_ := (hb.cell (zm _ _ (hHeld.1))).trans (hHeld.1)
                have HS1_ := (hb.cell (zm _ _ (hHeld.2.1))).trans (hHeld.2.1)
                have HS2_ := (hb.cell (zm _ _ (hHeld.2.2.1))).trans (hHeld.2.2.1)
                have HS3_ := (hb.cell (zm _ _ (hHeld.2.2.2.1))).trans (hHeld.2.2.2.1)
                have HS4_ := (hb.cell (zm _ _ (hHeld.2.2.2.2))).trans (hHeld.2.2.2.2)
                have n0_ := zM (ze (by (with_reducible repeat (first | apply zI | apply zJ | apply zK)); exact HO_7.out) hb)
                have n1_ := zM (z7 (g := gb168) (o := .cells #[.int .i64 x169000_3, .int .i64 x169001_3, .int .i64 x169002_3, .int .i64 x169003_3, .int .i64 x169004_3, .int .i64 x169005_3] 35 (0, 0)) zk hb)
                have n2_ := zM (zQ zb hb)
                have n3_ := zM (hbox)
                have n4_ := zM ((by rw [hg]; exact (zR zb) : w.heap.size ≤ gb201))
                have n5_ := zM ((by rw [hg]; exact (zR zb) : w.heap.size ≤ gb201))
                have n6_ := zM ((by rw [hg]; exact Nat.ne_of_lt (blk_lt (g := gb168) (o := .cells #[.int .i64 x169000_3, .int .i64 x169001_3, .int .i64 x169002_3, .int .i64 x169003_3, .int .i64 x169004_3, .int .i64 x169005_3] 35 (0, 0)) zk) : gb168 ≠ gb201))
                have n7_ := zM ((by rw [hg]; exact Nat.ne_of_gt (blk_lt (g := gb168) (o := .cells #[.int .i64 x169000_3, .int .i64 x169001_3, .int .i64 x169002_3, .int .i64 x169003_3, .int .i64 x169004_3, .int .i64 x169005_3] 35 (0, 0)) zk) : gb201 ≠ gb168))
                clear HO_7
                clear BK168
                clear HB
                have HO_7 := n0_
                have BK168 := n1_
                have HB := n2_
                have BK201 := n3_
                have GW201 := n4_
                have GE201 := n5_
                have NB168_201 := n6_
                have NB201_168 := n7_
                clear n0_ n1_ n2_ n3_ n4_ n5_ n6_ n7_
                clear hb hbox hg
                refine hK.out _ _ ⟨HS0_, HS1_, HS2_, HS3_, HS4_⟩ (fun hHeld => ?_)
                clear hK K
                refine norm_ (a' := ?_) ?_ ?_
                rotate_left
                ·show Act.put _ (some 10) _ = _
                 exact zu
                exact norm_ (by simp only [putAll, Act.put, List.setIfInBounds_toArray, List.set_cons_zero, List.set_cons_succ]) (hCont (gb201) _ ⟨hHeld, (by (with_reducible repeat (first | apply zI | apply zJ | apply zK)); exact HO_7.out), zk, zk, GW201.out, GE201.out, NB168_201.out, NB201_168.out, zb⟩)
               skip
               refine box_step ?hg (N := 10) ?hd (cs := #[.int .i64 0, .int .i64 0, .int .i64 0, .int .i64 0, .int .i64 0, .int .i64 0]) (t := 35) ?hr ?_; (case hd => rfl); (case hg => rfl); (case hr => first | (go_simp; done) | (go_simp; rfl))
               intro gb201 hg w36 hbox hb
               have HS0_ := (hb.cell (zm _ _ (hHeld.1))).trans (hHeld.1)
               have HS1_ := (hb.cell (zm _ _ (hHeld.2.1))).trans (hHeld.2.1)
               have HS2_ := (hb.cell (zm _ _ (hHeld.2.2.1))).trans (hHeld.2.2.1)
               have HS3_ := (hb.cell (zm _ _ (hHeld.2.2.2.1))).trans (hHeld.2.2.2.1)
               have HS4_ := (hb.cell (zm _ _ (hHeld.2.2.2.2))).trans (hHeld.2.2.2.2)
               have n0_ := zM (ze (by (with_reducible repeat (first | apply zI | apply zJ | apply zK)); exact HO_7.out) hb)
               have n1_ := zM (z7 (g := gb168) (o := .cells #[.int .i64 x169000_3, .int .i64 x169001_3, .int .i64 x169002_3, .int .i64 x169003_3, .int .i64 x169004_3, .int .i64 x169005_3] 35 (0, 0)) zk hb)
               have n2_ := zM (zQ zb hb)
               have n3_ := zM (hbox)
               have n4_ := zM ((by rw [hg]; exact (zR zb) : w.heap.size ≤ gb201))
               have n5_ := zM ((by rw [hg]; exact (zR zb) : w.heap.size ≤ gb201))
               have n6_ := zM ((by rw [hg]; exact Nat.ne_of_lt (blk_lt (g := gb168) (o := .cells #[.int .i64 x169000_3, .int .i64 x169001_3, .int .i64 x169002_3, .int .i64 x169003_3, .int .i64 x169004_3, .int .i64 x169005_3] 35 (0, 0)) zk) : gb168 ≠ gb201))
               have n7_ := zM ((by rw [hg]; exact Nat.ne_of_gt (blk_lt (g := gb168) (o := .cells #[.int .i64 x169000_3, .int .i64 x169001_3, .int .i64 x169002_3, .int .i64 x169003_3, .int .i64 x169004_3, .int .i64 x169005_3] 35 (0, 0)) zk) : gb201 ≠ gb168))
               clear HO_7
               clear BK168
               clear HB
               have HO_7 := n0_
               have BK168 := n1_
               have HB := n2_
               have BK201 := n3_
               have GW201 := n4_
               have GE201 := n5_
               have NB168_201 := n6_
               have NB201_168 := n7_
               clear n0_ n1_ n2_ n3_ n4_ n5_ n6_ n7_
               clear hb hbox hg
               refine hK.out _ _ ⟨HS0_, HS1_, HS2_, HS3_, HS4_⟩ (fun hHeld => ?_)
               clear hK K
               refine norm_ (a' := ?_) ?_ ?_
               rotate_left
               ·show Act.put _ (some 10) _ = _
                exact zu
               refine one_ (i := 18) (N := some 75) #[true, true, true, true, true, true, true, true, true, true, true, true, true, true, true, true, true, true, true, true, false] rfl rfl (one_of HT_.out (by kernel_rfl)) (by decide) (fun K hK => ?_)
               refine goes_ Tryz.func26 (by kernel_rfl) rfl #[.agg #[.int .i64 x9_3, .int .i64 (rd y187 0), .int .i64 (rd y187 1), .int .i64 (rd y187 1), .int .i64 (rd y187 2), .int .i64 (rd y187 3)]] (by rfl) rfl rfl zg ?_
               with_reducible refine (spec_l04Plain.calls x9_3 (rd y187 0) (rd y187 1) (rd y187 1) (rd y187 2) (rd y187 3) t195 t196 t197 t198 t199 t200 _ A32.out).mono ?_
               rintro e w37 ⟨rfl, hb⟩
               have HS0_ := (hb.cell (zm _ _ (hHeld.1))).trans (hHeld.1)
               have HS1_ := (hb.cell (zm _ _ (hHeld.2.1))).trans (hHeld.2.1)
               have HS2_ := (hb.cell (zm _ _ (hHeld.2.2.1))).trans (hHeld.2.2.1)
               have HS3_ := (hb.cell (zm _ _ (hHeld.2.2.2.1))).trans (hHeld.2.2.2.1)
               have HS4_ := (hb.cell (zm _ _ (hHeld.2.2.2.2))).trans (hHeld.2.2.2.2)
               refine ⟨_, rfl, ?_⟩
               have n0_ := zM (ze (by (with_reducible repeat (first | apply zI | apply zJ | apply zK)); exact HO_7.out) hb)
               have n1_ := zM (z7 (g := gb168) (o := .cells #[.int .i64 x169000_3, .int .i64 x169001_3, .int .i64 x169002_3, .int .i64 x169003_3, .int .i64 x169004_3, .int .i64 x169005_3] 35 (0, 0)) zk hb)
               have n2_ := zM (z7 (g := gb201) (o := .cells #[.int .i64 0, .int .i64 0, .int .i64 0, .int .i64 0, .int .i64 0, .int .i64 0] 35 (0, 0)) zk hb)
               have n3_ := zM (zQ zb hb)
               clear HO_7
               clear BK168
               clear BK201
               clear HB
               have HO_7 := n0_
               have BK168 := n1_
               have BK201 := n2_
               have HB := n3_
               clear n0_ n1_ n2_ n3_
               (try clear hb)
               (try clear hb2)
               (try clear hk)
               (try clear hi)
               refine hK.out _ _ ⟨HS0_, HS1_, HS2_, HS3_, HS4_⟩ (fun hHeld => ?_)
               clear hK K
               refine norm_ (a' := ?_) ?_ ?_
               rotate_left
               ·show Act.put _ (some 75) _ = _
                exact zu
               exact norm_ (by simp only [putAll, Act.put, List.setIfInBounds_toArray, List.set_cons_zero, List.set_cons_succ]) (hCont (gb201) _ ⟨hHeld, (by (with_reducible repeat (first | apply zI | apply zJ | apply zK)); exact HO_7.out), zk, zk, GW201.out, GE201.out, NB168_201.out, NB201_168.out, zb⟩)
              rintro gb201 w38 ⟨hS_, h0_, h1_, h2_, h3_, h4_, h5_, h6_, h7_⟩
              have n0_ : Aside0 (Kd.R (Kd.int .i64) 3 w38 w.heap.size (fun _ => True) (.slice (some ad190) y187.length co35) y187) := ⟨h0_⟩
              have n1_ : Aside0 (w38.heap[gb168]? = some (.cells #[.int .i64 x169000_3, .int .i64 x169001_3, .int .i64 x169002_3, .int .i64 x169003_3, .int .i64 x169004_3, .int .i64 x169005_3] 35 (0, 0))) := ⟨h1_⟩
              have n2_ : Aside0 (w38.heap[gb201]? = some (.cells #[.int .i64 0, .int .i64 0, .int .i64 0, .int .i64 0, .int .i64 0, .int .i64 0] 35 (0, 0))) := ⟨h2_⟩
              have n3_ : Aside0 (w.heap.size ≤ gb201) := ⟨h3_⟩
              have n4_ : Aside0 (w.heap.size ≤ gb201) := ⟨h4_⟩
              have n5_ : Aside0 (gb168 ≠ gb201) := ⟨h5_⟩
              have n6_ : Aside0 (gb201 ≠ gb168) := ⟨h6_⟩
              have n7_ : Aside0 (Below w.heap.size w w38) := ⟨h7_⟩
              clear HO_7
              clear BK168
              clear HB
              clear h0_ h1_ h2_ h3_ h4_ h5_ h6_ h7_
              have HO_7 := n0_
              have BK168 := n1_
              have BK201 := n2_
              have GW201 := n3_
              have GE201 := n4_
              have NB168_201 := n5_
              have NB201_168 := n6_
              have HB := n7_
              clear n0_ n1_ n2_ n3_ n4_ n5_ n6_ n7_
              have hHeld : w38.cell? ad190 = some (.int .i64 (rd y187 0)) ∧ w38.cell? ⟨ad190.block, ad190.off + 1, none⟩ = some (.int .i64 (rd y187 1)) ∧ w38.cell? ⟨ad190.block, ad190.off + 1, none⟩ = some (.int .i64 (rd y187 1)) ∧ w38.cell? ⟨ad190.block, ad190.off + 2, none⟩ = some (.int .i64 (rd y187 2)) ∧ w38.cell? ⟨ad190.block, ad190.off + 3, none⟩ = some (.int .i64 (rd y187 3)) := hS_
              refine norm_ (a' := ?_) ?_ ?_
              rotate_left
              ·simp only [putAll, Act.put, List.setIfInBounds_toArray, List.set_cons_zero, List.set_cons_succ]
               rfl
              refine one_ (i := 20) (N := none) #[true, true, true, true, true, true, true, true, true, true, true, true, true, true, true, true, true, true, true, true, true] rfl rfl (one_of HT_.out (by kernel_rfl)) (by decide) (fun K hK => ?_)
              have hs39 : w38.cell? ⟨gb201, 0, none⟩ = some (.int .i64 0) := (z5 BK201.out 0).trans rfl
              have hfs39 := z6 BK201.out 0
              have hns39_0 := NB168_201.out
              have hms39_0 := NB201_168.out
              have hs40 : w38.cell? ⟨gb201, 1, none⟩ = some (.int .i64 0) := (z5 BK201.out 1).trans rfl
              have hfs40 := z6 BK201.out 1
              have hns40_0 := NB168_201.out
              have hms40_0 := NB201_168.out
              have hs41 : w38.cell? ⟨gb201, 2, none⟩ = some (.int .i64 0) := (z5 BK201.out 2).trans rfl
              have hfs41 := z6 BK201.out 2
              have hns41_0 := NB168_201.out
              have hms41_0 := NB201_168.out
              have hs42 : w38.cell? ⟨gb201, 3, none⟩ = some (.int .i64 0) := (z5 BK201.out 3).trans rfl
              have hfs42 := z6 BK201.out 3
              have hns42_0 := NB168_201.out
              have hms42_0 := NB201_168.out
              have hs43 : w38.cell? ⟨gb201, 4, none⟩ = some (.int .i64 0) := (z5 BK201.out 4).trans rfl
              have hfs43 := z6 BK201.out 4
              have hns43_0 := NB168_201.out
              have hms43_0 := NB201_168.out
              have hs44 : w38.cell? ⟨gb201, 5, none⟩ = some (.int .i64 0) := (z5 BK201.out 5).trans rfl
              have hfs44 := z6 BK201.out 5
              have hns44_0 := NB168_201.out
              have hms44_0 := NB201_168.out
              refine skip_ (w1 := ?_) (by rfl) rfl ?_ ?_
              rotate_left
              ·go_simp
               rfl
              have hne_ := Kd.own_blk (Kd.R_ne HO_7.out BK201.out (by decide))
              refine hK.out _ _ ⟨((cell_far (a := ad190) (p := ⟨gb201, _, none⟩) hne_ _).trans (((cell_far (a := ad190) (p := ⟨gb201, _, none⟩) hne_ _).trans (((cell_far (a := ad190) (p := ⟨gb201, _, none⟩) hne_ _).trans (((cell_far (a := ad190) (p := ⟨gb201, _, none⟩) hne_ _).trans (((cell_far (a := ad190) (p := ⟨gb201, _, none⟩) hne_ _).trans (((cell_far (a := ad190) (p := ⟨gb201, _, none⟩) hne_ _).trans (hHeld.1)))))))))))), ((cell_far (a := ⟨ad190.block, ad190.off + 1, none⟩) (p := ⟨gb201, _, none⟩) hne_ _).trans (((cell_far (a := ⟨ad190.block, ad190.off + 1, none⟩) (p := ⟨gb201, _, none⟩) hne_ _).trans (((cell_far (a := ⟨ad190.block, ad190.off + 1, none⟩) (p := ⟨gb201, _, none⟩) hne_ _).trans (((cell_far (a := ⟨ad190.block, ad190.off + 1, none⟩) (p := ⟨gb201, _, none⟩) hne_ _).trans (((cell_far (a := ⟨ad190.block, ad190.off + 1, none⟩) (p := ⟨gb201, _, none⟩) hne_ _).trans (((cell_far (a := ⟨ad190.block, ad190.off + 1, none⟩) (p := ⟨gb201, _, none⟩) hne_ _).trans (hHeld.2.1)))))))))))), ((cell_far (a := ⟨ad190.block, ad190.off + 1, none⟩) (p := ⟨gb201, _, none⟩) hne_ _).trans (((cell_far (a := ⟨ad190.block, ad190.off + 1, none⟩) (p := ⟨gb201, _, none⟩) hne_ _).trans (((cell_far (a := ⟨ad190.block, ad190.off + 1, none⟩) (p := ⟨gb201, _, none⟩) hne_ _).trans (((cell_far (a := ⟨ad190.block, ad190.off + 1, none⟩) (p := ⟨gb201, _, none⟩) hne_ _).trans (((cell_far (a := ⟨ad190.block, ad190.off + 1, none⟩) (p := ⟨gb201, _, none⟩) hne_ _).trans (((cell_far (a := ⟨ad190.block, ad190.off + 1, none⟩) (p := ⟨gb201, _, none⟩) hne_ _).trans (hHeld.2.2.1)))))))))))), ((cell_far (a := ⟨ad190.block, ad190.off + 2, none⟩) (p := ⟨gb201, _, none⟩) hne_ _).trans (((cell_far (a := ⟨ad190.block, ad190.off + 2, none⟩) (p := ⟨gb201, _, none⟩) hne_ _).trans (((cell_far (a := ⟨ad190.block, ad190.off + 2, none⟩) (p := ⟨gb201, _, none⟩) hne_ _).trans (((cell_far (a := ⟨ad190.block, ad190.off + 2, none⟩) (p := ⟨gb201, _, none⟩) hne_ _).trans (((cell_far (a := ⟨ad190.block, ad190.off + 2, none⟩) (p := ⟨gb201, _, none⟩) hne_ _).trans (((cell_far (a := ⟨ad190.block, ad190.off + 2, none⟩) (p := ⟨gb201, _, none⟩) hne_ _).trans (hHeld.2.2.2.1)))))))))))), ((cell_far (a := ⟨ad190.block, ad190.off + 3, none⟩) (p := ⟨gb201, _, none⟩) hne_ _).trans (((cell_far (a := ⟨ad190.block, ad190.off + 3, none⟩) (p := ⟨gb201, _, none⟩) hne_ _).trans (((cell_far (a := ⟨ad190.block, ad190.off + 3, none⟩) (p := ⟨gb201, _, none⟩) hne_ _).trans (((cell_far (a := ⟨ad190.block, ad190.off + 3, none⟩) (p := ⟨gb201, _, none⟩) hne_ _).trans (((cell_far (a := ⟨ad190.block, ad190.off + 3, none⟩) (p := ⟨gb201, _, none⟩) hne_ _).trans (((cell_far (a := ⟨ad190.block, ad190.off + 3, none⟩) (p := ⟨gb201, _, none⟩) hne_ _).trans (hHeld.2.2.2.2))))))))))))⟩ (fun hHeld => ?_)
              clear hK K
              refine done_ (done_of HT_.out (by kernel_rfl)) ?_
              go_upto_block 4 with (fail)
              go_cut [] (fun wc => ∃ (kq : Nat) (x202002_32 : Int) (x202003_32 : Int) (x202004_32 : Int) (x202005_32 : Int), Aside0 (spec_ParseStmt.j4 kq x6_2 y187 x9_3 t195 t196 x202002_32 x202003_32 x202004_32 x202005_32 = some (r1, r2, r3, r4, r5, r6, r7)) ∧ Aside0 (kq ≤ k3) ∧ Aside0 (Kd.R (Kd.int .i64) 3 wc w.heap.size (fun _ => True) (.slice (some ad190) y187.length co35) y187) ∧ Aside0 (wc.heap[gb168]? = some (.cells #[.int .i64 x169000_3, .int .i64 x169001_3, .int .i64 x169002_3, .int .i64 x169003_3, .int .i64 x169004_3, .int .i64 x169005_3] 35 (0, 0))) ∧ Aside0 (wc.heap[gb201]? = some (.cells #[.int .i64 t195, .int .i64 t196, .int .i64 x202002_32, .int .i64 x202003_32, .int .i64 x202004_32, .int .i64 x202005_32] 35 (0, 0))) ∧ Aside0 (Below w.heap.size w wc))
              case first =>
               have H := HC33.out
               clear HC33
               have HC45 := zM H
               clear H
               go_upto_if 77 with (fail)
               go_cut [77] (fun v77 wc => ∃ (kq : Nat) (x77_44 : Bool), v77 = .bool x77_44 ∧ Aside0 (spec_ParseStmt.j3 kq x6_2 y187 x9_3 x9_3 x77_44 t195 t196 t197 t198 t199 t200 = some (r1, r2, r3, r4, r5, r6, r7)) ∧ Aside0 (kq ≤ k3) ∧ Aside0 (Kd.R (Kd.int .i64) 3 wc w.heap.size (fun _ => True) (.slice (some ad190) y187.length co35) y187) ∧ Aside0 (wc.heap[gb168]? = some (.cells #[.int .i64 x169000_3, .int .i64 x169001_3, .int .i64 x169002_3, .int .i64 x169003_3, .int .i64 x169004_3, .int .i64 x169005_3] 35 (0, 0))) ∧ Aside0 (wc.heap[gb201]? = some (.cells #[.int .i64 t195, .int .i64 t196, .int .i64 t197, .int .i64 t198, .int .i64 t199, .int .i64 t200] 35 (0, 0))) ∧ Aside0 (Below w.heap.size w wc))
               case first =>
                have H := HC45.out
                clear HC45
                by_cases c46 : x9_3 = 3
                ·rw [if_pos c46] at H
                 have c46b0 : (x9_3 == 3) = true := beq_iff_eq.mpr c46
                 have c46b1 : (x9_3 != 3) = false := bne_eq_false_iff_eq.mpr c46
                 clear c46
                 (first | rw [c46b0] | (simp only [i64_w, i32_w]; rw [c46b0]) | skip)
                 have H' := zM H
                 clear H
                 go_wp2
                 go_meet
                 case rel => exact ⟨_, ((x9_3 == 3)), zs, H', ⟨by have := HJ2.out; have := HK2.out; have := HK3.out; first | omega | exact Nat.le_refl _⟩, ⟨by (with_reducible repeat (first | apply zI | apply zJ | apply zK)); exact z1 (zc (p := ⟨gb201, 5, none⟩) (zc (p := ⟨gb201, 4, none⟩) (zc (p := ⟨gb201, 3, none⟩) (zc (p := ⟨gb201, 2, none⟩) (zc (p := ⟨gb201, 1, none⟩) (zc (p := ⟨gb201, 0, none⟩) (Kd.R_types HO_7.out BK201.out (by decide)) (fun _ hk => hk.2) (.int .i64 t195)) (fun _ hk => hk.2) (.int .i64 t196)) (fun _ hk => hk.2) (.int .i64 t197)) (fun _ hk => hk.2) (.int .i64 t198)) (fun _ hk => hk.2) (.int .i64 t199)) (fun _ hk => hk.2) (.int .i64 t200)) (fun _ hk => trivial)⟩, ⟨zl NB168_201.out BK168.out⟩, ⟨by (with_reducible repeat (first | refine zN ?_ _ | refine zO ?_ | refine zP ?_ _)); refine blk_put (cs := #[.int .i64 t195, .int .i64 t196, .int .i64 t197, .int .i64 t198, .int .i64 t199, .int .i64 0]) ?_ 5 _ rfl; (with_reducible repeat (first | refine zN ?_ _ | refine zO ?_ | refine zP ?_ _)); refine blk_put (cs := #[.int .i64 t195, .int .i64 t196, .int .i64 t197, .int .i64 t198, .int .i64 0, .int .i64 0]) ?_ 4 _ rfl; (with_reducible repeat (first | refine zN ?_ _ | refine zO ?_ | refine zP ?_ _)); refine blk_put (cs := #[.int .i64 t195, .int .i64 t196, .int .i64 t197, .int .i64 0, .int .i64 0, .int .i64 0]) ?_ 3 _ rfl; (with_reducible repeat (first | refine zN ?_ _ | refine zO ?_ | refine zP ?_ _)); refine blk_put (cs := #[.int .i64 t195, .int .i64 t196, .int .i64 0, .int .i64 0, .int .i64 0, .int .i64 0]) ?_ 2 _ rfl; (with_reducible repeat (first | refine zN ?_ _ | refine zO ?_ | refine zP ?_ _)); refine blk_put (cs := #[.int .i64 t195, .int .i64 0, .int .i64 0, .int .i64 0, .int .i64 0, .int .i64 0]) ?_ 1 _ rfl; (with_reducible repeat (first | refine zN ?_ _ | refine zO ?_ | refine zP ?_ _)); refine blk_put (cs := #[.int .i64 0, .int .i64 0, .int .i64 0, .int .i64 0, .int .i64 0, .int .i64 0]) ?_ 0 _ rfl; (with_reducible repeat (first | refine zN ?_ _ | refine zO ?_ | refine zP ?_ _)); exact BK201.out⟩, ⟨zb⟩⟩
                rw [if_neg c46] at H
                have c46b0 : (x9_3 == 3) = false := beq_eq_false_iff_ne.mpr c46
                have c46b1 : (x9_3 != 3) = true := bne_iff_ne.mpr c46
                (first | rw [c46b0] | (simp only [i64_w, i32_w]; rw [c46b0]) | skip)
                have H' := zM H
                clear H
                go_wp2
                go_meet
                case rel => exact ⟨_, ((x9_3 == 4)), zs, H', ⟨by have := HJ2.out; have := HK2.out; have := HK3.out; first | omega | exact Nat.le_refl _⟩, ⟨by (with_reducible repeat (first | apply zI | apply zJ | apply zK)); exact z1 (zc (p := ⟨gb201, 5, none⟩) (zc (p := ⟨gb201, 4, none⟩) (zc (p := ⟨gb201, 3, none⟩) (zc (p := ⟨gb201, 2, none⟩) (zc (p := ⟨gb201, 1, none⟩) (zc (p := ⟨gb201, 0, none⟩) (Kd.R_types HO_7.out BK201.out (by decide)) (fun _ hk => hk.2) (.int .i64 t195)) (fun _ hk => hk.2) (.int .i64 t196)) (fun _ hk => hk.2) (.int .i64 t197)) (fun _ hk => hk.2) (.int .i64 t198)) (fun _ hk => hk.2) (.int .i64 t199)) (fun _ hk => hk.2) (.int .i64 t200)) (fun _ hk => trivial)⟩, ⟨zl NB168_201.out BK168.out⟩, ⟨by (with_reducible repeat (first | refine zN ?_ _ | refine zO ?_ | refine zP ?_ _)); refine blk_put (cs := #[.int .i64 t195, .int .i64 t196, .int .i64 t197, .int .i64 t198, .int .i64 t199, .int .i64 0]) ?_ 5 _ rfl; (with_reducible repeat (first | refine zN ?_ _ | refine zO ?_ | refine zP ?_ _)); refine blk_put (cs := #[.int .i64 t195, .int .i64 t196, .int .i64 t197, .int .i64 t198, .int .i64 0, .int .i64 0]) ?_ 4 _ rfl; (with_reducible repeat (first | refine zN ?_ _ | refine zO ?_ | refine zP ?_ _)); refine blk_put (cs := #[.int .i64 t195, .int .i64 t196, .int .i64 t197, .int .i64 0, .int .i64 0, .int .i64 0]) ?_ 3 _ rfl; (with_reducible repeat (first | refine zN ?_ _ | refine zO ?_ | refine zP ?_ _)); refine blk_put (cs := #[.int .i64 t195, .int .i64 t196, .int .i64 0, .int .i64 0, .int .i64 0, .int .i64 0]) ?_ 2 _ rfl; (with_reducible repeat (first | refine zN ?_ _ | refine zO ?_ | refine zP ?_ _)); refine blk_put (cs := #[.int .i64 t195, .int .i64 0, .int .i64 0, .int .i64 0, .int .i64 0, .int .i64 0]) ?_ 1 _ rfl; (with_reducible repeat (first | refine zN ?_ _ | refine zO ?_ | refine zP ?_ _)); refine blk_put (cs := #[.int .i64 0, .int .i64 0, .int .i64 0, .int .i64 0, .int .i64 0, .int .i64 0]) ?_ 0 _ rfl; (with_reducible repeat (first | refine zN ?_ _ | refine zO ?_ | refine zP ?_ _)); exact BK201.out⟩, ⟨zb⟩⟩
               case rest =>
                clear HC45
                try clear c1
                try clear p1
                try clear q1
                try clear hx1
                try clear qi1
                try clear c2
                try clear p2
                try clear c3
                try clear c4
                try clear c6
                try clear p6
                try clear c9
                try clear c10
                try clear c11
                try clear c11b0
                try clear c11b1
                try clear c15
                try clear c15b0
                try clear c16
                try clear c16b0
                try clear c16b1
                try clear c16b2
                try clear c17
                try clear c17b0
                try clear p17
                try clear q17
                try clear hx17
                try clear qi17
                try clear c18
                try clear c18b0
                try clear c18b1
                try clear c18b2
                try clear p19
                try clear q19
                try clear hx19
                try clear qi19
                try clear c20
                try clear c21
                try clear c22
                try clear c26
                try clear c27
                try clear c27b0
                try clear c28
                try clear c28b0
                try clear c28b1
                try clear c29
                try clear c29b0
                try clear c29b1
                try clear c30
                try clear c30b0
                try clear c30b1
                try clear c31
                try clear c31b0
                try clear c31b1
                try clear c46
                try clear c46b0
                try clear c46b1
                try clear hcz10_0
                try clear hcz10_1
                try clear hcz10_2
                try clear hcz10_3
                try clear hcz10_4
                try clear hcz10_5
                try clear hfz10_0
                try clear hfz10_1
                try clear hfz10_2
                try clear hfz10_3
                try clear hfz10_4
                try clear hfz10_5
                try clear hx174_0
                try clear hx178_0
                try clear hx179_0
                try clear hx190_0
                try clear hx191_0
                try clear hx192_0
                try clear hx193_0
                try clear hx194_0
                try clear p1
                try clear p17
                try clear p174
                try clear p178
                try clear p179
                try clear p190
                try clear p191
                try clear p192
                try clear p193
                try clear p194
                try clear p2
                try clear p6
                try clear q1
                try clear q17
                try clear q174
                try clear q178
                try clear q179
                try clear q190
                try clear q191
                try clear q192
                try clear q193
                try clear q194
                obtain ⟨kq, x77_44, rfl, HA, HJ44, HO_7, BK168, BK201, HB⟩ := hcut
                cases kq with
                | zero => exact absurd HA.out (by simp [spec_ParseStmt.j3])
                | succ kj44 =>
                 have H := HA.out
                 clear HA
                 simp only [spec_ParseStmt.j3] at H
                 by_cases c47 : x77_44 = true
                 ·subst c47
                  have H1 : (if 0 < (y187.length : Int) then (if 1 < (y187.length : Int) then (if 2 < (y187.length : Int) then (spec_ParseStmt.j4 kj44 x6_2 y187 x9_3 t195 t196 t197 (rd y187 0) (rd y187 1) (rd y187 2)) else (none)) else (none)) else (none)) = some (r1, r2, r3, r4, r5, r6, r7) := by rw [if_pos rfl] at H; exact H
                  clear H
                  have H := H1
                  clear H1
                  by_cases c48 : 0 < (y187.length : Int)
                  ·rw [if_pos c48] at H
                   have c48b0 : decide (0 < (y187.length : Int)) = true := decide_eq_true c48
                   have c48b1 : decide (0 < y187.length) = true := decide_eq_true (by omega)
                   clear c48
                   by_cases c49 : 1 < (y187.length : Int)
                   ·rw [if_pos c49] at H
                    have c49b0 : decide (1 < (y187.length : Int)) = true := decide_eq_true c49
                    have c49b1 : decide (1 < y187.length) = true := decide_eq_true (by omega)
                    clear c49
                    by_cases c50 : 2 < (y187.length : Int)
                    ·rw [if_pos c50] at H
                     have c50b0 : decide (2 < (y187.length : Int)) = true := decide_eq_true c50
                     have c50b1 : decide (2 < y187.length) = true := decide_eq_true (by omega)
                     clear c50
                     have H' := zM H
                     clear H
                     try go_wp2
                     have n0_ := zM (zK HO_7.out)
                     have n1_ := zM (zO BK168.out)
                     have n2_ := zM (zO BK201.out)
                     have n3_ := zM (z4 HB.out)
                     clear HO_7
                     clear BK168
                     clear BK201
                     clear HB
                     have HO_7 := n0_
                     have BK168 := n1_
                     have BK201 := n2_
                     have HB := n3_
                     clear n0_ n1_ n2_ n3_
                     have p202 : 0 ≤ (0 : Int) := (by omega)
                     have q202 : 0 < (y187.length : Int) := zd
                     obtain ⟨ad202, e202, hx202_0⟩ := Kd.at_int (z9 HO_7.out).2.2 0 p202 q202
                     obtain rfl : ad190 = ad202 := (by injection e202)
                     have qi202 : (0 < y187.length) = True := eq_true (by omega)
                     (try rw [show ((0 : Int)).toNat = 0 from rfl] at hx202_0)
                     (try rw [Addr.add_zero'] at hx202_0)
                     replace p202 := eq_true p202
                     replace q202 := eq_true q202
                     have p203 : 0 ≤ (1 : Int) := (by omega)
                     have q203 : 1 < (y187.length : Int) := zd
                     obtain ⟨ad203, e203, hx203_0⟩ := Kd.at_int (z9 HO_7.out).2.2 1 p203 q203
                     obtain rfl : ad190 = ad203 := (by injection e203)
                     (try simp only [show (1 : Int).toNat = 1 from rfl, Nat.reduceMul, Nat.reduceEqDiff, Go.Addr.add, ↓reduceIte] at hx203_0)
                     have qi203 : (1 < y187.length) = True := eq_true (by omega)
                     (try rw [show ((1 : Int)).toNat = 1 from rfl] at hx203_0)
                     replace p203 := eq_true p203
                     replace q203 := eq_true q203
                     have p204 : 0 ≤ (2 : Int) := (by omega)
                     have q204 : 2 < (y187.length : Int) := zd
                     obtain ⟨ad204, e204, hx204_0⟩ := Kd.at_int (z9 HO_7.out).2.2 2 p204 q204
                     obtain rfl : ad190 = ad204 := (by injection e204)
                     (try simp only [show (2 : Int).toNat = 2 from rfl, Nat.reduceMul, Nat.reduceEqDiff, Go.Addr.add, ↓reduceIte] at hx204_0)
                     have qi204 : (2 < y187.length) = True := eq_true (by omega)
                     (try rw [show ((2 : Int)).toNat = 2 from rfl] at hx204_0)
                     replace p204 := eq_true p204
                     replace q204 := eq_true q204
                     refine start_ (n := 12) (S := fun w' => w'.cell? ad190 = some (.int .i64 (rd y187 0)) ∧ w'.cell? ⟨ad190.block, ad190.off + 1, none⟩ = some (.int .i64 (rd y187 1)) ∧ w'.cell? ⟨ad190.block, ad190.off + 2, none⟩ = some (.int .i64 (rd y187 2))) (ds := []) #[false, false, false, false, false, false, false, false, false, false, false, false] (by kernel_rfl) rfl rfl ⟨hx202_0, hx203_0, hx204_0⟩ (fun hHeld => ?_); refine with_tabW spec_ParseStmt.tab19 spec_ParseStmt.bits19 (fun HT_ HW_ => ?_)
                     generalize wc.drew = w51 at HO_7 BK168 BK201 HB hx202_0 hx203_0 hx204_0 hHeld ⊢
                     refine pure_ (i := 0) (N := some 80) (v := ?_) (a' := ?_) #[true, false, false, false, false, false, false, false, false, false, false, false] rfl rfl (any_of HT_.out (by kernel_rfl)) (fun _ _ _ h => h) (Or.inl ⟨by rfl, ?_⟩) ?_ ?_
                     rotate_left
                     ·intro w'
                      go_simp
                      with_reducible rfl
                     rotate_left
                     ·exact zu
                     refine pure_ (i := 1) (N := some 81) (v := ?_) (a' := ?_) #[true, true, false, false, false, false, false, false, false, false, false, false] rfl rfl (any_of HT_.out (by kernel_rfl)) (fun _ _ _ h => h) (Or.inl ⟨by rfl, ?_⟩) ?_ ?_
                     rotate_left
                     ·intro w'
                      go_simp
                      with_reducible rfl
                     rotate_left
                     ·exact zu
                     refine pure_ (i := 3) (N := some 83) (v := ?_) (a' := ?_) #[true, true, false, true, false, false, false, false, false, false, false, false] rfl rfl (any_of HT_.out (by kernel_rfl)) (fun _ _ _ h => h) (Or.inl ⟨by rfl, ?_⟩) ?_ ?_
                     rotate_left
                     ·intro w'
                      go_simp
                      with_reducible rfl
                     rotate_left
                     ·exact zu
                     refine pure_ (i := 4) (N := some 84) (v := ?_) (a' := ?_) #[true, true, false, true, true, false, false, false, false, false, false, false] rfl rfl (any_of HT_.out (by kernel_rfl)) (fun _ _ _ h => h) (Or.inl ⟨by rfl, ?_⟩) ?_ ?_
                     rotate_left
                     ·intro w'
                      go_simp
                      with_reducible rfl
                     rotate_left
                     ·exact zu
                     refine pure_ (i := 6) (N := some 86) (v := ?_) (a' := ?_) #[true, true, false, true, true, false, true, false, false, false, false, false] rfl rfl (any_of HT_.out (by kernel_rfl)) (fun _ _ _ h => h) (Or.inl ⟨by rfl, ?_⟩) ?_ ?_
                     rotate_left
                     ·intro w'
                      go_simp
                      with_reducible rfl
                     rotate_left
                     ·exact zu
                     refine pure_ (i := 7) (N := some 87) (v := ?_) (a' := ?_) #[true, true, false, true, true, false, true, true, false, false, false, false] rfl rfl (any_of HT_.out (by kernel_rfl)) (fun _ _ _ h => h) (Or.inl ⟨by rfl, ?_⟩) ?_ ?_
                     rotate_left
                     ·intro w'
                      go_simp
                      with_reducible rfl
                     rotate_left
                     ·exact zu
                     refine take_ (i := 2) (N := some 82) (v := ?_) (a' := ?_) #[true, true, true, true, true, false, true, true, false, false, false, false] rfl rfl (take_ofW HT_.out HW_.out (by kernel_rfl)) (fun _ _ _ h => h) (Or.inl ⟨by rfl, ?_⟩) hHeld ?_ ?_
                     rotate_left
                     ·rintro w' ⟨s0, s1, s2⟩
                      go_simp
                      with_reducible rfl
                     rotate_left
                     ·exact zu
                     refine take_ (i := 5) (N := some 85) (v := ?_) (a' := ?_) #[true, true, true, true, true, true, true, true, false, false, false, false] rfl rfl (take_ofW HT_.out HW_.out (by kernel_rfl)) (fun _ _ _ h => h) (Or.inl ⟨by rfl, ?_⟩) hHeld ?_ ?_
                     rotate_left
                     ·rintro w' ⟨s0, s1, s2⟩
                      go_simp
                      with_reducible rfl
                     rotate_left
                     ·exact zu
                     refine take_ (i := 8) (N := some 88) (v := ?_) (a' := ?_) #[true, true, true, true, true, true, true, true, true, false, false, false] rfl rfl (take_ofW HT_.out HW_.out (by kernel_rfl)) (fun _ _ _ h => h) (Or.inl ⟨by rfl, ?_⟩) hHeld ?_ ?_
                     rotate_left
                     ·rintro w' ⟨s0, s1, s2⟩
                      go_simp
                      with_reducible rfl
                     rotate_left
                     ·exact zu
                     refine pure_ (i := 9) (N := some 89) (v := ?_) (a' := ?_) #[true, true, true, true, true, true, true, true, true, true, false, false] rfl rfl (any_of HT_.out (by kernel_rfl)) (fun _ _ _ h => h) (Or.inl ⟨by rfl, ?_⟩) ?_ ?_
                     rotate_left
                     ·intro w'
                      go_simp
                      with_reducible rfl
                     rotate_left
                     ·exact zu
                     refine pure_ (i := 10) (N := some 90) (v := ?_) (a' := ?_) #[true, true, true, true, true, true, true, true, true, true, true, false] rfl rfl (any_of HT_.out (by kernel_rfl)) (fun _ _ _ h => h) (Or.inl ⟨by rfl, ?_⟩) ?_ ?_
                     rotate_left
                     ·intro w'
                      go_simp
                      with_reducible rfl
                     rotate_left
                     ·exact zu
                     refine one_ (i := 11) (N := none) #[true, true, true, true, true, true, true, true, true, true, true, true] rfl rfl (one_of HT_.out (by kernel_rfl)) (by decide) (fun K hK => ?_)
                     have hs52 : w51.cell? ⟨gb201, 3, none⟩ = some (.int .i64 t198) := (z5 BK201.out 3).trans rfl
                     have hfs52 := z6 BK201.out 3
                     have hns52_0 := NB168_201.out
                     have hms52_0 := NB201_168.out
                     have hs53 : w51.cell? ⟨gb201, 4, none⟩ = some (.int .i64 t199) := (z5 BK201.out 4).trans rfl
                     have hfs53 := z6 BK201.out 4
                     have hns53_0 := NB168_201.out
                     have hms53_0 := NB201_168.out
                     have hs54 : w51.cell? ⟨gb201, 5, none⟩ = some (.int .i64 t200) := (z5 BK201.out 5).trans rfl
                     have hfs54 := z6 BK201.out 5
                     have hns54_0 := NB168_201.out
                     have hms54_0 := NB201_168.out
                     refine skip_ (w1 := ?_) (by rfl) rfl ?_ ?_
                     rotate_left
                     ·go_simp
                      rfl
                     have hne_ := Kd.own_blk (Kd.R_ne HO_7.out BK201.out (by decide))
                     refine hK.out _ _ ⟨((cell_far (a := ad190) (p := ⟨gb201, _, none⟩) hne_ _).trans (((cell_far (a := ad190) (p := ⟨gb201, _, none⟩) hne_ _).trans (((cell_far (a := ad190) (p := ⟨gb201, _, none⟩) hne_ _).trans (hHeld.1)))))), ((cell_far (a := ⟨ad190.block, ad190.off + 1, none⟩) (p := ⟨gb201, _, none⟩) hne_ _).trans (((cell_far (a := ⟨ad190.block, ad190.off + 1, none⟩) (p := ⟨gb201, _, none⟩) hne_ _).trans (((cell_far (a := ⟨ad190.block, ad190.off + 1, none⟩) (p := ⟨gb201, _, none⟩) hne_ _).trans (hHeld.2.1)))))), ((cell_far (a := ⟨ad190.block, ad190.off + 2, none⟩) (p := ⟨gb201, _, none⟩) hne_ _).trans (((cell_far (a := ⟨ad190.block, ad190.off + 2, none⟩) (p := ⟨gb201, _, none⟩) hne_ _).trans (((cell_far (a := ⟨ad190.block, ad190.off + 2, none⟩) (p := ⟨gb201, _, none⟩) hne_ _).trans (hHeld.2.2))))))⟩ (fun hHeld => ?_)
                     clear hK K
                     refine done_ (done_of HT_.out (by kernel_rfl)) ?_
                     try go_wp2
                     go_meet
                     case rel => exact ⟨_, (t197), (rd y187 0), (rd y187 1), (rd y187 2), H', ⟨by have := HJ2.out; have := HK2.out; have := HK3.out; have := HJ44.out; first | omega | exact Nat.le_refl _⟩, ⟨by (with_reducible repeat (first | apply zI | apply zJ | apply zK)); exact z1 (zc (p := ⟨gb201, 5, none⟩) (zc (p := ⟨gb201, 4, none⟩) (zc (p := ⟨gb201, 3, none⟩) (Kd.R_types HO_7.out BK201.out (by decide)) (fun _ hk => hk.2) (.int .i64 (rd y187 0))) (fun _ hk => hk.2) (.int .i64 (rd y187 1))) (fun _ hk => hk.2) (.int .i64 (rd y187 2))) (fun _ hk => trivial)⟩, ⟨zl NB168_201.out BK168.out⟩, ⟨by (with_reducible repeat (first | refine zN ?_ _ | refine zO ?_ | refine zP ?_ _)); refine blk_put (cs := #[.int .i64 t195, .int .i64 t196, .int .i64 t197, .int .i64 (rd y187 0), .int .i64 (rd y187 1), .int .i64 t200]) ?_ 5 _ rfl; (with_reducible repeat (first | refine zN ?_ _ | refine zO ?_ | refine zP ?_ _)); refine blk_put (cs := #[.int .i64 t195, .int .i64 t196, .int .i64 t197, .int .i64 (rd y187 0), .int .i64 t199, .int .i64 t200]) ?_ 4 _ rfl; (with_reducible repeat (first | refine zN ?_ _ | refine zO ?_ | refine zP ?_ _)); refine blk_put (cs := #[.int .i64 t195, .int .i64 t196, .int .i64 t197, .int .i64 t198, .int .i64 t199, .int .i64 t200]) ?_ 3 _ rfl; (with_reducible repeat (first | refine zN ?_ _ | refine zO ?_ | refine zP ?_ _)); exact BK201.out⟩, ⟨zb⟩⟩
                    rw [if_neg c50] at H
                    exact absurd H (by simp)
                   rw [if_neg c49] at H
                   exact absurd H (by simp)
                  rw [if_neg c48] at H
                  exact absurd H (by simp)
                 replace c47 := Bool.eq_false_iff.mpr c47
                 subst c47
                 have H1 : (if x9_3 = 5 then (if 0 < (y187.length : Int) then (spec_ParseStmt.j4 kj44 x6_2 y187 x9_3 t195 t196 (rd y187 0) t198 t199 t200) else (none)) else (spec_ParseStmt.j4 kj44 x6_2 y187 x9_3 t195 t196 t197 t198 t199 t200)) = some (r1, r2, r3, r4, r5, r6, r7) := by rw [if_neg (show ¬ (false = true) by decide)] at H; exact H
                 clear H
                 have H := H1
                 clear H1
                 by_cases c55 : x9_3 = 5
                 ·rw [if_pos c55] at H
                  have c55b0 : (x9_3 == 5) = true := beq_iff_eq.mpr c55
                  have c55b1 : (x9_3 != 5) = false := bne_eq_false_iff_eq.mpr c55
                  clear c55
                  by_cases c56 : 0 < (y187.length : Int)
                  ·rw [if_pos c56] at H
                   have c56b0 : decide (0 < (y187.length : Int)) = true := decide_eq_true c56
                   have c56b1 : decide (0 < y187.length) = true := decide_eq_true (by omega)
                   clear c56
                   have H' := zM H
                   clear H
                   have p205 : 0 ≤ (0 : Int) := (by omega)
                   have q205 : 0 < (y187.length : Int) := zd
                   obtain ⟨ad205, e205, hx205_0⟩ := Kd.at_int (z9 HO_7.out).2.2 0 p205 q205
                   obtain rfl : ad190 = ad205 := (by injection e205)
                   have qi205 : (0 < y187.length) = True := eq_true (by omega)
                   (try rw [show ((0 : Int)).toNat = 0 from rfl] at hx205_0)
                   (try rw [Addr.add_zero'] at hx205_0)
                   replace p205 := eq_true p205
                   replace q205 := eq_true q205
                   have hnb57 := NB201_168.out
                   have hnc57 := NB168_201.out
                   have hcz58_0 := (z5 BK201.out 0).trans rfl
                   have hcz58_1 := (z5 BK201.out 1).trans rfl
                   have hcz58_2 := (z5 BK201.out 2).trans rfl
                   have hcz58_3 := (z5 BK201.out 3).trans rfl
                   have hcz58_4 := (z5 BK201.out 4).trans rfl
                   have hcz58_5 := (z5 BK201.out 5).trans rfl
                   have hfz58_0 := z6 BK201.out 0
                   have hfz58_1 := z6 BK201.out 1
                   have hfz58_2 := z6 BK201.out 2
                   have hfz58_3 := z6 BK201.out 3
                   have hfz58_4 := z6 BK201.out 4
                   have hfz58_5 := z6 BK201.out 5
                   go_wp2
                   go_meet
                   case rel => exact ⟨_, (rd y187 0), (t198), (t199), (t200), H', ⟨by have := HJ2.out; have := HK2.out; have := HK3.out; have := HJ44.out; first | omega | exact Nat.le_refl _⟩, ⟨by (with_reducible repeat (first | apply zI | apply zJ | apply zK)); exact z1 (zc (p := ⟨gb201, 2, none⟩) (Kd.R_types HO_7.out BK201.out (by decide)) (fun _ hk => hk.2) (.int .i64 (rd y187 0))) (fun _ hk => trivial)⟩, ⟨zl NB168_201.out BK168.out⟩, ⟨by (with_reducible repeat (first | refine zN ?_ _ | refine zO ?_ | refine zP ?_ _)); refine blk_put (cs := #[.int .i64 t195, .int .i64 t196, .int .i64 t197, .int .i64 t198, .int .i64 t199, .int .i64 t200]) ?_ 2 _ rfl; (with_reducible repeat (first | refine zN ?_ _ | refine zO ?_ | refine zP ?_ _)); exact BK201.out⟩, ⟨zb⟩⟩
                  rw [if_neg c56] at H
                  exact absurd H (by simp)
                 rw [if_neg c55] at H
                 have c55b0 : (x9_3 == 5) = false := beq_eq_false_iff_ne.mpr c55
                 have c55b1 : (x9_3 != 5) = true := bne_iff_ne.mpr c55
                 have H' := zM H
                 clear H
                 go_wp2
                 go_meet
                 case rel => exact ⟨_, (t197), (t198), (t199), (t200), H', ⟨by have := HJ2.out; have := HK2.out; have := HK3.out; have := HJ44.out; first | omega | exact Nat.le_refl _⟩, ⟨by (with_reducible repeat (first | apply zI | apply zJ | apply zK)); exact HO_7.out⟩, ⟨zk⟩, ⟨zk⟩, ⟨zb⟩⟩
              case rest =>
               clear HC33
               try clear c1
               try clear p1
               try clear q1
               try clear hx1
               try clear qi1
               try clear c2
               try clear p2
               try clear q2
               try clear hx2
               try clear qi2
               try clear c3
               try clear c4
               try clear c5
               try clear c6
               try clear p6
               try clear c9
               try clear c10
               try clear c11
               try clear c11b0
               try clear c11b1
               try clear c15
               try clear c15b0
               try clear c16
               try clear c16b0
               try clear c16b1
               try clear c16b2
               try clear c17
               try clear c17b0
               try clear p17
               try clear q17
               try clear hx17
               try clear qi17
               try clear c18
               try clear c18b0
               try clear c18b1
               try clear c18b2
               try clear p19
               try clear q19
               try clear hx19
               try clear qi19
               try clear c20
               try clear p20
               try clear q20
               try clear hx20
               try clear qi20
               try clear c21
               try clear c22
               try clear c26
               try clear c27
               try clear c27b0
               try clear c28
               try clear c28b0
               try clear c28b1
               try clear c29
               try clear c29b0
               try clear c29b1
               try clear c30
               try clear c30b0
               try clear c30b1
               try clear c31
               try clear c31b0
               try clear c31b1
               try clear c46
               try clear c46b0
               try clear c46b1
               try clear c47
               try clear c48
               try clear c48b0
               try clear c48b1
               try clear c49
               try clear c49b0
               try clear c49b1
               try clear c50
               try clear c50b0
               try clear c50b1
               try clear c55
               try clear c55b0
               try clear c55b1
               try clear c56
               try clear c56b0
               try clear c56b1
               try clear c57
               try clear hcz10_0
               try clear hcz10_1
               try clear hcz10_2
               try clear hcz10_3
               try clear hcz10_4
               try clear hcz10_5
               try clear hcz58_0
               try clear hcz58_1
               try clear hcz58_2
               try clear hcz58_3
               try clear hcz58_4
               try clear hcz58_5
               try clear hfz10_0
               try clear hfz10_1
               try clear hfz10_2
               try clear hfz10_3
               try clear hfz10_4
               try clear hfz10_5
               try clear hfz58_0
               try clear hfz58_1
               try clear hfz58_2
               try clear hfz58_3
               try clear hfz58_4
               try clear hfz58_5
               try clear hx174_0
               try clear hx178_0
               try clear hx179_0
               try clear hx190_0
               try clear hx191_0
               try clear hx192_0
               try clear hx193_0
               try clear hx194_0
               try clear hx202_0
               try clear hx203_0
               try clear hx204_0
               try clear hx205_0
               try clear p1
               try clear p17
               try clear p174
               try clear p178
               try clear p179
               try clear p19
               try clear p190
               try clear p191
               try clear p192
               try clear p193
               try clear p194
               try clear p2
               try clear p202
               try clear p203
               try clear p204
               try clear p205
               try clear p6
               try clear q1
               try clear q17
               try clear q174
               try clear q178
               try clear q179
               try clear q19
               try clear q190
               try clear q191
               try clear q192
               try clear q193
               try clear q194
               try clear q202
               try clear q203
               try clear q204
               try clear q205
               obtain ⟨kq, x202002_32, x202003_32, x202004_32, x202005_32, HA, HJ32, HO_7, BK168, BK201, HB⟩ := hcut
               cases kq with
               | zero => exact absurd HA.out (by simp [spec_ParseStmt.j4])
               | succ kj32 =>
                have H := HA.out
                clear HA
                simp only [spec_ParseStmt.j4] at H
                replace H := Option.bind_eq_some_iff.mp H
                obtain ⟨t206, A590, H⟩ := H
                replace H : (if t206 = true then ((spec_FormatStmt.f kj32 t195 t196 x202002_32 x202003_32 x202004_32 x202005_32).bind fun t207 => (if t207.toList = x6_2.toList then (some (t195, t196, x202002_32, x202003_32, x202004_32, x202005_32, true)) else (spec_ParseStmt.l1 kj32 x6_2 y187 (wrap64 (x9_3 + 1))))) else (spec_ParseStmt.l1 kj32 x6_2 y187 (wrap64 (x9_3 + 1)))) = some (r1, r2, r3, r4, r5, r6, r7) := H
                have A59 := zM A590
                clear A590
                by_cases c60 : t206 = true
                ·subst c60
                 have H1 : ((spec_FormatStmt.f kj32 t195 t196 x202002_32 x202003_32 x202004_32 x202005_32).bind fun t207 => (if t207.toList = x6_2.toList then (some (t195, t196, x202002_32, x202003_32, x202004_32, x202005_32, true)) else (spec_ParseStmt.l1 kj32 x6_2 y187 (wrap64 (x9_3 + 1))))) = some (r1, r2, r3, r4, r5, r6, r7) := by rw [if_pos rfl] at H; exact H
                 clear H
                 have H := H1
                 clear H1
                 replace H := Option.bind_eq_some_iff.mp H
                 obtain ⟨t207, A610, H⟩ := H
                 replace H : (if t207.toList = x6_2.toList then (some (t195, t196, x202002_32, x202003_32, x202004_32, x202005_32, true)) else (spec_ParseStmt.l1 kj32 x6_2 y187 (wrap64 (x9_3 + 1)))) = some (r1, r2, r3, r4, r5, r6, r7) := H
                 have A61 := zM A610
                 clear A610
                 by_cases c62 : t207.toList = x6_2.toList
                 ·rw [if_pos c62] at H
                  have c62b0 : (t207.toList == x6_2.toList) = true := beq_iff_eq.mpr c62
                  have c62b1 : (t207.toList != x6_2.toList) = false := bne_eq_false_iff_eq.mpr c62
                  clear c62
                  simp only [Option.some.injEq, Prod.mk.injEq] at H
                  obtain ⟨rfl, rfl, rfl, rfl, rfl, rfl, rfl⟩ := H
                  have hnb63 := NB201_168.out
                  have hnc63 := NB168_201.out
                  have hcz64_0 := (z5 BK201.out 0).trans rfl
                  have hcz64_1 := (z5 BK201.out 1).trans rfl
                  have hcz64_2 := (z5 BK201.out 2).trans rfl
                  have hcz64_3 := (z5 BK201.out 3).trans rfl
                  have hcz64_4 := (z5 BK201.out 4).trans rfl
                  have hcz64_5 := (z5 BK201.out 5).trans rfl
                  have hfz64_0 := z6 BK201.out 0
                  have hfz64_1 := z6 BK201.out 1
                  have hfz64_2 := z6 BK201.out 2
                  have hfz64_3 := z6 BK201.out 3
                  have hfz64_4 := z6 BK201.out 4
                  have hfz64_5 := z6 BK201.out 5
                  go_wp2_with (first | ((with_reducible refine gate_callee (f := 27) rfl ?_); refine goesL_ (some 98) rfl rfl Tryz.func27 (by kernel_rfl) rfl #[.agg #[.int .i64 t195, .int .i64 t196, .int .i64 x202002_32, .int .i64 x202003_32, .int .i64 x202004_32, .int .i64 x202005_32]] rfl zg ?_; (with_reducible refine (spec_StmtOk.calls kj32 t195 t196 x202002_32 x202003_32 x202004_32 x202005_32 true _ A59.out).mono ?_); rintro e w65 ⟨rfl, hb⟩; refine ⟨_, rfl, ?_⟩; have n0_ := zM (ze (by (with_reducible repeat (first | apply zI | apply zJ | apply zK)); exact HO_7.out) hb); have n1_ := zM (z7 (g := gb168) (o := .cells #[.int .i64 x169000_3, .int .i64 x169001_3, .int .i64 x169002_3, .int .i64 x169003_3, .int .i64 x169004_3, .int .i64 x169005_3] 35 (0, 0)) zk hb); have n2_ := zM (z7 (g := gb201) (o := .cells #[.int .i64 t195, .int .i64 t196, .int .i64 x202002_32, .int .i64 x202003_32, .int .i64 x202004_32, .int .i64 x202005_32] 35 (0, 0)) zk hb); have n3_ := zM (zQ zb hb); clear HO_7; clear BK168; clear BK201; clear HB; have HO_7 := n0_; have BK168 := n1_; have BK201 := n2_; have HB := n3_; clear n0_ n1_ n2_ n3_; (try clear hb); have hcz66_0 := (z5 BK201.out 0).trans rfl; have hcz66_1 := (z5 BK201.out 1).trans rfl; have hcz66_2 := (z5 BK201.out 2).trans rfl; have hcz66_3 := (z5 BK201.out 3).trans rfl; have hcz66_4 := (z5 BK201.out 4).trans rfl; have hcz66_5 := (z5 BK201.out 5).trans rfl; have hfz66_0 := z6 BK201.out 0; have hfz66_1 := z6 BK201.out 1; have hfz66_2 := z6 BK201.out 2; have hfz66_3 := z6 BK201.out 3; have hfz66_4 := z6 BK201.out 4; have hfz66_5 := z6 BK201.out 5) | (go_at_call 11; (with_reducible refine (spec_FormatStmt.calls kj32 t195 t196 x202002_32 x202003_32 x202004_32 x202005_32 t207 _ A61.out).mono ?_); rintro e w67 ⟨rfl, hb⟩; have n0_ := zM (ze (by (with_reducible repeat (first | apply zI | apply zJ | apply zK)); exact HO_7.out) hb); have n1_ := zM (z7 (g := gb168) (o := .cells #[.int .i64 x169000_3, .int .i64 x169001_3, .int .i64 x169002_3, .int .i64 x169003_3, .int .i64 x169004_3, .int .i64 x169005_3] 35 (0, 0)) zk hb); have n2_ := zM (z7 (g := gb201) (o := .cells #[.int .i64 t195, .int .i64 t196, .int .i64 x202002_32, .int .i64 x202003_32, .int .i64 x202004_32, .int .i64 x202005_32] 35 (0, 0)) zk hb); have n3_ := zM (zQ zb hb); clear HO_7; clear BK168; clear BK201; clear HB; have HO_7 := n0_; have BK168 := n1_; have BK201 := n2_; have HB := n3_; clear n0_ n1_ n2_ n3_; (try clear hb); have hcz68_0 := (z5 BK201.out 0).trans rfl; have hcz68_1 := (z5 BK201.out 1).trans rfl; have hcz68_2 := (z5 BK201.out 2).trans rfl; have hcz68_3 := (z5 BK201.out 3).trans rfl; have hcz68_4 := (z5 BK201.out 4).trans rfl; have hcz68_5 := (z5 BK201.out 5).trans rfl; have hfz68_0 := z6 BK201.out 0; have hfz68_1 := z6 BK201.out 1; have hfz68_2 := z6 BK201.out 2; have hfz68_3 := z6 BK201.out 3; have hfz68_4 := z6 BK201.out 4; have hfz68_5 := z6 BK201.out 5; have hcz69_0 := (z5 BK168.out 0).trans rfl; have hcz69_1 := (z5 BK168.out 1).trans rfl; have hcz69_2 := (z5 BK168.out 2).trans rfl; have hcz69_3 := (z5 BK168.out 3).trans rfl; have hcz69_4 := (z5 BK168.out 4).trans rfl; have hcz69_5 := (z5 BK168.out 5).trans rfl; have hfz69_0 := z6 BK168.out 0; have hfz69_1 := z6 BK168.out 1; have hfz69_2 := z6 BK168.out 2; have hfz69_3 := z6 BK168.out 3; have hfz69_4 := z6 BK168.out 4; have hfz69_5 := z6 BK168.out 5))
                  refine bodyPost_ret (results_ct rfl _ _ gb168 35 #[.int .i64 t195, .int .i64 t196, .int .i64 x202002_32, .int .i64 x202003_32, .int .i64 x202004_32, .int .i64 x202005_32] (0, 0) _ rfl (by (with_reducible repeat (first | refine zN ?_ _ | refine zO ?_ | refine zP ?_ _)); refine blk_put (cs := #[.int .i64 t195, .int .i64 t196, .int .i64 x202002_32, .int .i64 x202003_32, .int .i64 x202004_32, .int .i64 x169005_3]) ?_ 5 _ rfl; (with_reducible repeat (first | refine zN ?_ _ | refine zO ?_ | refine zP ?_ _)); refine blk_put (cs := #[.int .i64 t195, .int .i64 t196, .int .i64 x202002_32, .int .i64 x202003_32, .int .i64 x169004_3, .int .i64 x169005_3]) ?_ 4 _ rfl; (with_reducible repeat (first | refine zN ?_ _ | refine zO ?_ | refine zP ?_ _)); refine blk_put (cs := #[.int .i64 t195, .int .i64 t196, .int .i64 x202002_32, .int .i64 x169003_3, .int .i64 x169004_3, .int .i64 x169005_3]) ?_ 3 _ rfl; (with_reducible repeat (first | refine zN ?_ _ | refine zO ?_ | refine zP ?_ _)); refine blk_put (cs := #[.int .i64 t195, .int .i64 t196, .int .i64 x169002_3, .int .i64 x169003_3, .int .i64 x169004_3, .int .i64 x169005_3]) ?_ 2 _ rfl; (with_reducible repeat (first | refine zN ?_ _ | refine zO ?_ | refine zP ?_ _)); refine blk_put (cs := #[.int .i64 t195, .int .i64 x169001_3, .int .i64 x169002_3, .int .i64 x169003_3, .int .i64 x169004_3, .int .i64 x169005_3]) ?_ 1 _ rfl; (with_reducible repeat (first | refine zN ?_ _ | refine zO ?_ | refine zP ?_ _)); refine blk_put (cs := #[.int .i64 x169000_3, .int .i64 x169001_3, .int .i64 x169002_3, .int .i64 x169003_3, .int .i64 x169004_3, .int .i64 x169005_3]) ?_ 0 _ rfl; (with_reducible repeat (first | refine zN ?_ _ | refine zO ?_ | refine zP ?_ _)); exact BK168.out) Tryz.underlying35 rfl (by kernel_rfl)) rfl ?_
                  exact ⟨by first | rfl | (simp [errW_none, errW_some] <;> rfl) | (simp [*, errW_none, errW_some] <;> rfl), zb⟩
                 rw [if_neg c62] at H
                 have c62b0 : (t207.toList == x6_2.toList) = false := beq_eq_false_iff_ne.mpr c62
                 have c62b1 : (t207.toList != x6_2.toList) = true := bne_iff_ne.mpr c62
                 have H' := zM H
                 clear H
                 have hnb70 := NB201_168.out
                 have hnc70 := NB168_201.out
                 have hcz71_0 := (z5 BK201.out 0).trans rfl
                 have hcz71_1 := (z5 BK201.out 1).trans rfl
                 have hcz71_2 := (z5 BK201.out 2).trans rfl
                 have hcz71_3 := (z5 BK201.out 3).trans rfl
                 have hcz71_4 := (z5 BK201.out 4).trans rfl
                 have hcz71_5 := (z5 BK201.out 5).trans rfl
                 have hfz71_0 := z6 BK201.out 0
                 have hfz71_1 := z6 BK201.out 1
                 have hfz71_2 := z6 BK201.out 2
                 have hfz71_3 := z6 BK201.out 3
                 have hfz71_4 := z6 BK201.out 4
                 have hfz71_5 := z6 BK201.out 5
                 go_wp2_with (first | ((with_reducible refine gate_callee (f := 27) rfl ?_); refine goesL_ (some 98) rfl rfl Tryz.func27 (by kernel_rfl) rfl #[.agg #[.int .i64 t195, .int .i64 t196, .int .i64 x202002_32, .int .i64 x202003_32, .int .i64 x202004_32, .int .i64 x202005_32]] rfl zg ?_; (with_reducible refine (spec_StmtOk.calls kj32 t195 t196 x202002_32 x202003_32 x202004_32 x202005_32 true _ A59.out).mono ?_); rintro e w72 ⟨rfl, hb⟩; refine ⟨_, rfl, ?_⟩; have n0_ := zM (ze (by (with_reducible repeat (first | apply zI | apply zJ | apply zK)); exact HO_7.out) hb); have n1_ := zM (z7 (g := gb168) (o := .cells #[.int .i64 x169000_3, .int .i64 x169001_3, .int .i64 x169002_3, .int .i64 x169003_3, .int .i64 x169004_3, .int .i64 x169005_3] 35 (0, 0)) zk hb); have n2_ := zM (z7 (g := gb201) (o := .cells #[.int .i64 t195, .int .i64 t196, .int .i64 x202002_32, .int .i64 x202003_32, .int .i64 x202004_32, .int .i64 x202005_32] 35 (0, 0)) zk hb); have n3_ := zM (zQ zb hb); clear HO_7; clear BK168; clear BK201; clear HB; have HO_7 := n0_; have BK168 := n1_; have BK201 := n2_; have HB := n3_; clear n0_ n1_ n2_ n3_; (try clear hb); have hcz73_0 := (z5 BK201.out 0).trans rfl; have hcz73_1 := (z5 BK201.out 1).trans rfl; have hcz73_2 := (z5 BK201.out 2).trans rfl; have hcz73_3 := (z5 BK201.out 3).trans rfl; have hcz73_4 := (z5 BK201.out 4).trans rfl; have hcz73_5 := (z5 BK201.out 5).trans rfl; have hfz73_0 := z6 BK201.out 0; have hfz73_1 := z6 BK201.out 1; have hfz73_2 := z6 BK201.out 2; have hfz73_3 := z6 BK201.out 3; have hfz73_4 := z6 BK201.out 4; have hfz73_5 := z6 BK201.out 5) | (go_at_call 11; (with_reducible refine (spec_FormatStmt.calls kj32 t195 t196 x202002_32 x202003_32 x202004_32 x202005_32 t207 _ A61.out).mono ?_); rintro e w74 ⟨rfl, hb⟩; have n0_ := zM (ze (by (with_reducible repeat (first | apply zI | apply zJ | apply zK)); exact HO_7.out) hb); have n1_ := zM (z7 (g := gb168) (o := .cells #[.int .i64 x169000_3, .int .i64 x169001_3, .int .i64 x169002_3, .int .i64 x169003_3, .int .i64 x169004_3, .int .i64 x169005_3] 35 (0, 0)) zk hb); have n2_ := zM (z7 (g := gb201) (o := .cells #[.int .i64 t195, .int .i64 t196, .int .i64 x202002_32, .int .i64 x202003_32, .int .i64 x202004_32, .int .i64 x202005_32] 35 (0, 0)) zk hb); have n3_ := zM (zQ zb hb); clear HO_7; clear BK168; clear BK201; clear HB; have HO_7 := n0_; have BK168 := n1_; have BK201 := n2_; have HB := n3_; clear n0_ n1_ n2_ n3_; (try clear hb)))
                 go_roundg kj32
                 case measure => have := HJ2.out; have := HK2.out; have := HK3.out; have := HJ32.out; omega
                 case rel => exact ⟨(wrap64 (x9_3 + 1)), (x169000_3), (x169001_3), (x169002_3), (x169003_3), (x169004_3), (x169005_3), zs, H', ⟨by have := HJ2.out; have := HK2.out; have := HK3.out; have := HJ32.out; omega⟩, ⟨by (with_reducible repeat (first | apply zI | apply zJ | apply zK)); exact HO_7.out⟩, ⟨zk⟩, ⟨zb⟩⟩
                replace c60 := Bool.eq_false_iff.mpr c60
                subst c60
                have H1 : (spec_ParseStmt.l1 kj32 x6_2 y187 (wrap64 (x9_3 + 1))) = some (r1, r2, r3, r4, r5, r6, r7) := by rw [if_neg (show ¬ (false = true) by decide)] at H; exact H
                clear H
                have H := H1
                clear H1
                have H' := zM H
                clear H
                have hnb75 := NB201_168.out
                have hnc75 := NB168_201.out
                have hcz76_0 := (z5 BK201.out 0).trans rfl
                have hcz76_1 := (z5 BK201.out 1).trans rfl
                have hcz76_2 := (z5 BK201.out 2).trans rfl
                have hcz76_3 := (z5 BK201.out 3).trans rfl
                have hcz76_4 := (z5 BK201.out 4).trans rfl
                have hcz76_5 := (z5 BK201.out 5).trans rfl
                have hfz76_0 := z6 BK201.out 0
                have hfz76_1 := z6 BK201.out 1
                have hfz76_2 := z6 BK201.out 2
                have hfz76_3 := z6 BK201.out 3
                have hfz76_4 := z6 BK201.out 4
                have hfz76_5 := z6 BK201.out 5
                go_wp2_with (first | ((with_reducible refine gate_callee (f := 27) rfl ?_); refine goesL_ (some 98) rfl rfl Tryz.func27 (by kernel_rfl) rfl #[.agg #[.int .i64 t195, .int .i64 t196, .int .i64 x202002_32, .int .i64 x202003_32, .int .i64 x202004_32, .int .i64 x202005_32]] rfl zg ?_; (with_reducible refine (spec_StmtOk.calls kj32 t195 t196 x202002_32 x202003_32 x202004_32 x202005_32 false _ A59.out).mono ?_); rintro e w77 ⟨rfl, hb⟩; refine ⟨_, rfl, ?_⟩; have n0_ := zM (ze (by (with_reducible repeat (first | apply zI | apply zJ | apply zK)); exact HO_7.out) hb); have n1_ := zM (z7 (g := gb168) (o := .cells #[.int .i64 x169000_3, .int .i64 x169001_3, .int .i64 x169002_3, .int .i64 x169003_3, .int .i64 x169004_3, .int .i64 x169005_3] 35 (0, 0)) zk hb); have n2_ := zM (z7 (g := gb201) (o := .cells #[.int .i64 t195, .int .i64 t196, .int .i64 x202002_32, .int .i64 x202003_32, .int .i64 x202004_32, .int .i64 x202005_32] 35 (0, 0)) zk hb); have n3_ := zM (zQ zb hb); clear HO_7; clear BK168; clear BK201; clear HB; have HO_7 := n0_; have BK168 := n1_; have BK201 := n2_; have HB := n3_; clear n0_ n1_ n2_ n3_; (try clear hb)))
                go_roundg kj32
                case measure => have := HJ2.out; have := HK2.out; have := HK3.out; have := HJ32.out; omega
                case rel => exact ⟨(wrap64 (x9_3 + 1)), (x169000_3), (x169001_3), (x169002_3), (x169003_3), (x169004_3), (x169005_3), zs, H', ⟨by have := HJ2.out; have := HK2.out; have := HK3.out; have := HJ32.out; omega⟩, ⟨by (with_reducible repeat (first | apply zI | apply zJ | apply zK)); exact HO_7.out⟩, ⟨zk⟩, ⟨zb⟩⟩
             rw [if_neg c31] at H
             exact absurd H (by simp)
            rw [if_neg c30] at H
            exact absurd H (by simp)
           rw [if_neg c29] at H
           exact absurd H (by simp)
          rw [if_neg c28] at H
          exact absurd H (by simp)
         rw [if_neg c27] at H
         have c27b0 : decide (x9_3 ≤ 6) = false := decide_eq_false c27
         clear c27
         simp only [Option.some.injEq, Prod.mk.injEq] at H
         obtain ⟨rfl, rfl, rfl, rfl, rfl, rfl, rfl⟩ := H
         have hcz78_0 := (z5 BK168.out 0).trans rfl
         have hcz78_1 := (z5 BK168.out 1).trans rfl
         have hcz78_2 := (z5 BK168.out 2).trans rfl
         have hcz78_3 := (z5 BK168.out 3).trans rfl
         have hcz78_4 := (z5 BK168.out 4).trans rfl
         have hcz78_5 := (z5 BK168.out 5).trans rfl
         have hfz78_0 := z6 BK168.out 0
         have hfz78_1 := z6 BK168.out 1
         have hfz78_2 := z6 BK168.out 2
         have hfz78_3 := z6 BK168.out 3
         have hfz78_4 := z6 BK168.out 4
         have hfz78_5 := z6 BK168.out 5
         go_wp2
         refine bodyPost_ret (results_ct rfl _ _ gb168 35 #[.int .i64 0, .int .i64 0, .int .i64 0, .int .i64 0, .int .i64 0, .int .i64 0] (0, 0) _ rfl (by (with_reducible repeat (first | refine zN ?_ _ | refine zO ?_ | refine zP ?_ _)); refine blk_put (cs := #[.int .i64 0, .int .i64 0, .int .i64 0, .int .i64 0, .int .i64 0, .int .i64 x169005_3]) ?_ 5 _ rfl; (with_reducible repeat (first | refine zN ?_ _ | refine zO ?_ | refine zP ?_ _)); refine blk_put (cs := #[.int .i64 0, .int .i64 0, .int .i64 0, .int .i64 0, .int .i64 x169004_3, .int .i64 x169005_3]) ?_ 4 _ rfl; (with_reducible repeat (first | refine zN ?_ _ | refine zO ?_ | refine zP ?_ _)); refine blk_put (cs := #[.int .i64 0, .int .i64 0, .int .i64 0, .int .i64 x169003_3, .int .i64 x169004_3, .int .i64 x169005_3]) ?_ 3 _ rfl; (with_reducible repeat (first | refine zN ?_ _ | refine zO ?_ | refine zP ?_ _)); refine blk_put (cs := #[.int .i64 0, .int .i64 0, .int .i64 x169002_3, .int .i64 x169003_3, .int .i64 x169004_3, .int .i64 x169005_3]) ?_ 2 _ rfl; (with_reducible repeat (first | refine zN ?_ _ | refine zO ?_ | refine zP ?_ _)); refine blk_put (cs := #[.int .i64 0, .int .i64 x169001_3, .int .i64 x169002_3, .int .i64 x169003_3, .int .i64 x169004_3, .int .i64 x169005_3]) ?_ 1 _ rfl; (with_reducible repeat (first | refine zN ?_ _ | refine zO ?_ | refine zP ?_ _)); refine blk_put (cs := #[.int .i64 x169000_3, .int .i64 x169001_3, .int .i64 x169002_3, .int .i64 x169003_3, .int .i64 x169004_3, .int .i64 x169005_3]) ?_ 0 _ rfl; (with_reducible repeat (first | refine zN ?_ _ | refine zO ?_ | refine zP ?_ _)); exact BK168.out) Tryz.underlying35 rfl (by kernel_rfl)) rfl ?_
         exact ⟨by first | rfl | (simp [errW_none, errW_some] <;> rfl) | (simp [*, errW_none, errW_some] <;> rfl), zb⟩
      rw [if_neg c22] at H
      exact absurd H (by simp)
   rw [if_neg c11] at H
   exact absurd H (by simp)
end Go.Proofs.YtcpmkcidehhbiaaGreatDoor.PFnExactParseProgram
